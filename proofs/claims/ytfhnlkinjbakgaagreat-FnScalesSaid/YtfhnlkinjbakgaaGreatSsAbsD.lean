/- The abstract machine: draws from a source over bytes; the source's block is turned, the bytes are only read. -/
import Derived.Test.YtfhnlkinjbakgaaGreatSsAbsV
import Derived.Test.YtfhnlkinjbakgaaGreatSsAbsE
namespace Go.Proofs.YtfhnlkinjbakgaaGreat.Abs
open Go Go.RowKit
structure Cd where
  row : Array Value
  ty : TypeId
  off : Nat
  L : List U8
  cap : Nat
  at_ : ∀ (i : Nat) (b : U8),L[i]? = some b → row[off + i]? = some (.int .u8 b.val)
  still : row.toList.all calm = true
def Cd.nil : Cd:=⟨#[],0,0,[],0,fun _ _ h=>by simp at h,rfl⟩
def Cd.sl (C : Cd) (i : Nat) : Value:=.slice (some ⟨i,C.off,some 0⟩) C.L.length C.cap
theorem Cd.calm (C : Cd) : Ye (C.row,C.ty) = true:=C.still
structure Cv (row : Array Value) where
  off : Nat
  L : List U8
  cap : Nat
  at_ : ∀ (i : Nat) (b : U8),L[i]? = some b → row[off + i]? = some (.int .u8 b.val)
def Cd.vw (C : Cd) (V : Cv C.row) : Cd:=⟨C.row,C.ty,V.off,V.L,V.cap,V.at_,C.still⟩
theorem Cd.byte (C : Cd) {i : Aq} (h : 0 ≤ i.val ∧ i.val < (C.L.length : Int)) : C.row[C.off + i.val.toNat * 1]? = some (.int .u8 (Wx C.L i).val):=by
  have hi : i.val.toNat < C.L.length:=by omega
  rw [Nat.mul_one]
  refine C.at_ _ _ ?_
  unfold Wx
  simp [List.getD,List.getElem?_eq_getElem hi]
structure Je where
  ix : Aq
  sd : Dp
theorem Ep {α : Type} {p : α → Bool} {a : α} {l : List α} (h : p a = true) (k : l.all p = true) : (a :: l).all p = true:=by rw [List.all_cons,h,k]; rfl
def Ry {α : Type} (e : α → Value) (T : TypeId) (cv : Value) (lo hi : Int) (r : α × Je) (u : Value) (X : List C6) : Prop:=u = e r.1 ∧ X = [K7 T cv r.2.ix r.2.sd] ∧ lo ≤ r.2.ix.val ∧ r.2.ix.val ≤ hi
def RD {α : Type} (Z : List C6) (e : α → Value) (T : TypeId) (cv : Value) (lo hi : Int) (r : α × Je) (u : Value) (G : List C6) : Prop:=∃ X Y,G = Z ++ (X ++ Y) ∧ Ry e T cv lo hi r u X
variable {P : Program} {E : V4} {f : FuncId} {fn : Func} {tr : T} {R : Value → List C6 → Prop}
theorem yY {α : Type} {e : α → Value} {T : TypeId} {cv : Value} {lo hi : Int} {r : α × Je} {n : Nat} (hu : ∀ (n : Nat) (r : α),okU n (e r) = true) (hcv : okc (n + 1) cv = true) (u : Value) (X : List C6) (h : Ry e T cv lo hi r u X) :
    1 ≤ X.length ∧ X.all (vR (n + X.length)) = true ∧ okU (n + X.length) u = true:=by
  obtain ⟨rfl,rfl,_⟩:=h
  refine ⟨Nat.le_refl _,?_,hu _ _⟩
  show ([K7 T cv r.2.ix r.2.sd].all (vR (n + 1))) = true
  have h1 : ∀ (k : IntKind) (z : Int),okc (n + 1) (.int k z) = true:=fun _ _=>rfl
  have h2 : vR (n + 1) (K7 T cv r.2.ix r.2.sd) = true:=by
    show ([cv,.int .i64 r.2.ix.val,.int .u64 r.2.sd.val].all (okc (n + 1))) = true
    rw [List.all_cons,List.all_cons,List.all_cons,hcv,h1,h1]
    rfl
  rw [List.all_cons,h2]
  rfl
theorem Gh.drew {α : Type} {e : α → Value} {T : TypeId} {cv : Value} {lo hi : Int} {r : α × Je} {Z : List C6} {a : Aq} {s : Dp} {args : Array Value} (hu : ∀ (n : Nat) (r : α),okU n (e r) = true) (hzc : Z.all Ye = true) (hcv : okc (Z.length + 1) cv = true)
    (h : If P f (Z ++ [K7 T cv a s]) args (RD Z e T cv lo hi r)) : Gh P f Z [K7 T cv a s] args (Ry e T cv lo hi r):=
  Gh.of (fun u X hs=>yY hu hcv u X hs) hzc h
theorem Ac.dr {α : Type} {e : α → Value} {T : TypeId} {cv : Value} {lo hi : Int} {r : α × Je} {Z : List C6} (h : tr.retOf = some (e r.1)) (hH : tr.heapOf.take (Z.length + 1) = Z ++ [K7 T cv r.2.ix r.2.sd]) (hb : lo ≤ r.2.ix.val ∧ r.2.ix.val ≤ hi) : Ac P f (RD Z e T cv lo hi r) tr:=
  Ac.r h ⟨[K7 T cv r.2.ix r.2.sd],tr.heapOf.drop (Z.length + 1),by rw [← List.append_assoc,← hH,List.take_append_drop],rfl,rfl,hb⟩
theorem Ac.cw {α β : Type} {e : α → Value} {x : α × Je} {φ : α × Je → β} {Rg : β → Value → List C6 → Prop} {g : FuncId} {Z : List C6} {args : Array Value} {T : TypeId} {cv : Value} {lo hi : Int} {a : Aq} {s : Dp} (zs : List Nat) (i : Nat)
    (hF : Gh P g Z [K7 T cv a s] args (Ry e T cv lo hi x)) (hzc : Z.all Ye = true) (hk : ∀ r : α × Je,r = x → lo ≤ r.2.ix.val ∧ r.2.ix.val ≤ hi → Ac P f (Rg (φ r)) (tr.turned zs [i] (e r.1) [K7 T cv r.2.ix r.2.sd]))
    (h : tr.callOf = some (g,(args.toList.map (bW (dX (zs ++ [i])))).toArray):=by kernel_rfl) (hc0 : tr.isCall = true:=by kernel_rfl) (hz : tr.sawB zs = some Z:=by kernel_rfl)
    (hx : tr.sawB [i] = some ([K7 T cv a s].map (bV (dX (zs ++ [i])))):=by kernel_rfl) (hc : [K7 T cv a s].all (vR (zs ++ [i]).length) = true:=by kernel_rfl) (hn : (zs ++ [i]).Nodup:=by decide) (ho : args.toList.all (okA (zs ++ [i]).length) = true:=by kernel_rfl)
    (hu : ∀ (n : Nat) (r : α),okU n (e r) = true:=by exact fun _ _=>rfl) (hcv : okc (zs.length + 1) cv = true:=by kernel_rfl) : Ac P f (Rg (Aa x φ)) tr:=
  Ac.cg zs [i] hF (fun u X hs=>yY hu hcv u X hs) hzc (fun u X hs=>by
    obtain ⟨rfl,rfl,hb⟩:=hs
    exact hk x rfl hb) h hc0 hz hx hc hn ho
theorem Ac.cf {g : FuncId} {Z : List C6} {args : Array Value} {u : Value} {X : List C6} (zs : List Nat) (hF : Gh P g Z [] args fun v Y=>v = u ∧ Y = X) (hzc : Z.all Ye = true) (hk : Ac P f R (tr.turned zs [] u X))
    (h : tr.callOf = some (g,(args.toList.map (bW (dX (zs ++ [])))).toArray):=by kernel_rfl) (hc0 : tr.isCall = true:=by kernel_rfl) (hz : tr.sawB zs = some Z:=by kernel_rfl) (hx : tr.sawB [] = some []:=by kernel_rfl) (hn : (zs ++ []).Nodup:=by decide) (ho : args.toList.all (okA (zs ++ []).length) = true:=by kernel_rfl)
    (hX : X.all (vR (zs.length + X.length)) = true:=by kernel_rfl) (hu : okU (zs.length + X.length) u = true:=by kernel_rfl) : Ac P f R tr:=
  Ac.cg zs [] hF (fun v Y hs=>by obtain ⟨rfl,rfl⟩:=hs; exact ⟨Nat.zero_le _,hX,hu⟩) hzc (fun v Y hs=>by obtain ⟨rfl,rfl⟩:=hs; exact hk) h hc0 hz hx rfl hn ho
theorem Gh.made {Z : List C6} {args : Array Value} {u : Value} {X : List C6} (hX : X.all (vR (Z.length + X.length)) = true) (hu : okU (Z.length + X.length) u = true) (hzc : Z.all Ye = true)
    (h : If P f (Z ++ []) args fun v G=>∃ Y,G = Z ++ (X ++ Y) ∧ v = u) : Gh P f Z [] args fun v Y=>v = u ∧ Y = X:=by
  refine Gh.of (fun v Y hs=>by obtain ⟨rfl,rfl⟩:=hs; exact ⟨Nat.zero_le _,hX,hu⟩) hzc ⟨h.1,fun m args' w ha hH=>(h.2 m args' w ha hH).mono ?_⟩
  rintro ex w' ⟨v,v',n,G,h1,h2,h3,h4,h5,Y,rfl,rfl⟩
  exact ⟨_,v',n,_,h1,h2,h3,h4,h5,X,Y,rfl,rfl,rfl⟩
theorem Ac.mk {Z : List C6} {X : List C6} {u : Value} (h : tr.retOf = some u) (hH : tr.heapOf.take (Z.length + X.length) = Z ++ X) : Ac P f (fun v G=>∃ Y,G = Z ++ (X ++ Y) ∧ v = u) tr:=
  Ac.r h ⟨tr.heapOf.drop (Z.length + X.length),by rw [← List.append_assoc,← hH,List.take_append_drop],rfl⟩
def Wy (P : Program) (f : FuncId) (T : TypeId) : Prop:=T5 P f ∧ ∀ (a : Option Addr) (l c : Nat) (w : World),Calls P f #[.slice a l c] w fun e w'=>e = .returned (.pointer (some ⟨w.heap.size,0,none⟩)) ∧ w' = w.alloc (.cells #[.slice a l c,.int .i64 0,.int .u64 0] T)
theorem Ac2 {m : List Nat} {v v' : Value} (h : VR m v v') : RA m #[v,.int .i64 0,.int .u64 0] #[v',.int .i64 0,.int .u64 0]:=
  ⟨rfl,fun i x x' h1 h2=>by
    match i,h1,h2 with
    | 0,h1,h2=>cases h1; cases h2; exact h
    | 1,h1,h2=>cases h1; cases h2; exact .pl _ rfl
    | 2,h1,h2=>cases h1; cases h2; exact .pl _ rfl
    | i + 3,h1,h2=>simp at h1⟩
theorem xY {m : List Nat} {v : Value} {args' : Array Value} (h : RA m #[v] args') : ∃ v',args' = #[v'] ∧ VR m v v':=by
  have hs : args'.size = 1:=by rw [← h.size]; rfl
  refine ⟨args'[0],?_,h.at_ 0 v _ rfl (Array.getElem?_eq_getElem (by omega))⟩
  refine Array.ext (by simpa using hs) fun i h1 h2=>?_
  have : i = 0:=by omega
  subst this
  rfl
theorem Wy.list {T : TypeId} (C : Cd) (hT : T < 1000000) (h : Wy P f T) : Gh P f [(C.row,C.ty)] [] #[C.sl 0] fun v Y=>v = .pointer (some ⟨1,0,none⟩) ∧ Y = [K7 T (C.sl 0) (Ah 0) (Eu 0)]:=by
  refine ⟨h.1,fun m args' w ha hH=>?_⟩
  obtain ⟨v',rfl,hv⟩:=xY ha
  have hm : m.length = 1:=hH.len
  have hv0:=hv
  generalize hx : C.sl 0 = x at hv
  cases hv with
  | slice i j o l c s hj=>
    rw [hx] at hv0
    refine (h.2 _ l c w).mono ?_
    rintro e w' ⟨rfl,rfl⟩
    refine ⟨_,_,[w.heap.size],_,rfl,.ptr 1 w.heap.size 0 none (by rw [List.getElem?_append_right (by omega),hm]; rfl),hH.alloc T hT (Ac2 hv0),by simp,H5.alloc _ _ _,[K7 T (.slice (some ⟨i,o,s⟩) l c) (Ah 0) (Eu 0)],rfl,rfl,rfl⟩
  | pl _ h'=>rw [← hx] at h'; simp [Cd.sl,Cz] at h'
  | _=>cases hx
theorem Wy.none {T : TypeId} (hT : T < 1000000) (h : Wy P f T) : Gh P f [] [] #[.slice none 0 0] fun v Y=>v = .pointer (some ⟨0,0,none⟩) ∧ Y = [K7 T (.slice none 0 0) (Ah 0) (Eu 0)]:=by
  refine ⟨h.1,fun m args' w ha hH=>?_⟩
  obtain ⟨v',rfl,hv⟩:=xY ha
  have hm : m.length = 0:=hH.len
  have e : v' = .slice Option.none 0 0:=hv.eq_of_flat rfl
  subst e
  refine (h.2 _ 0 0 w).mono ?_
  rintro e w' ⟨rfl,rfl⟩
  exact ⟨_,_,[w.heap.size],_,rfl,.ptr 0 w.heap.size 0 Option.none (by rw [List.getElem?_append_right (by omega),hm]; rfl),hH.alloc T hT (Ac2 hv),by simp,H5.alloc _ _ _,[K7 T (.slice Option.none 0 0) (Ah 0) (Eu 0)],rfl,rfl,rfl⟩
def Sx : Value → Value
  | .slice (some ⟨i,o,_⟩) l c=>.slice (some ⟨i,o,none⟩) l c
  | v=>v
theorem VR.marks {m : List Nat} {v u v' : Value} (h : VR m v v') (e : Sx u = Sx v) : VR m u v':=by
  cases u with
  | slice a l c=>
    cases a with
    | none=>
      cases v with
      | slice a2 l2 c2=>
        cases a2 with
        | none=>exact Eq.mp (congrArg (fun z=>VR m z v') e.symm) h
        | some a2=>simp [Sx] at e
      | _=>exact Eq.mp (congrArg (fun z=>VR m z v') e.symm) h
    | some a=>
      obtain ⟨i,o,s⟩:=a
      cases v with
      | slice a2 l2 c2=>
        cases a2 with
        | none=>simp [Sx] at e
        | some a2=>
          obtain ⟨i2,o2,s2⟩:=a2
          simp only [Sx,Value.slice.injEq,Option.some.injEq,Addr.mk.injEq,and_true] at e
          obtain ⟨⟨rfl,rfl⟩,rfl,rfl⟩:=e
          cases h with
          | pl _ h'=>simp [Cz] at h'
          | slice _ j _ _ _ _ hj=>exact .slice _ _ _ _ _ _ hj
      | _=>simp [Sx] at e
  | _=>
    cases v with
    | slice a2 l2 c2=>cases a2 <;> simp [Sx] at e
    | _=>exact Eq.mp (congrArg (fun z=>VR m z v') e.symm) h
theorem Gh.marks {S : Value → List C6 → Prop} {Z X0 : List C6} {args args2 : Array Value} (e : args2.toList.map Sx = args.toList.map Sx) (h : Gh P f Z X0 args S) : Gh P f Z X0 args2 S:=by
  refine ⟨h.1,fun m args' w ha hH=>h.2 m args' w ⟨?_,fun i v v' h1 h2=>?_⟩ hH⟩
  · rw [← ha.size]
    have:=congrArg List.length e
    simpa using this.symm
  · have h3 : (args2.toList.map Sx)[i]? = some (Sx v):=by rw [e,List.getElem?_map,Array.getElem?_toList,h1]; rfl
    rw [List.getElem?_map] at h3
    cases h4 : args2.toList[i]? with
    | none=>rw [h4] at h3; cases h3
    | some u=>
      rw [h4] at h3
      simp only [Option.map_some,Option.some.injEq] at h3
      exact (ha.at_ i u v' (by rw [← Array.getElem?_toList]; exact h4) h2).marks h3.symm
theorem Ac.gn {β : Type} {c : Bool} {x y : β} {Rg : β → Value → List C6 → Prop} (h : tr.cond = some c) (hc : c = false) (hk : Ac P f (Rg y) tr.no) : Ac P f (Rg (cond c x y)) tr:=by
  subst hc
  exact Ac.n h hk
end Go.Proofs.YtfhnlkinjbakgaaGreat.Abs
