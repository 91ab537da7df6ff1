/- The abstract machine: draws from a source over bytes; the source's block is turned, the bytes are only read. -/
import Derived.Test.YtfhnlkinjbakgaaGreatMsAbsV
import Derived.Test.YtfhnlkinjbakgaaGreatMsAbsE
namespace Go.Proofs.YtfhnlkinjbakgaaGreat.Abs
open Go Go.RowKit
structure Cd where
  row : Array Value
  ty : TypeId
  off : Nat
  L : List U8
  cap : Nat
  at_ : ∀ (i : Nat) (b : U8),L[i]? = some b → row[off + i]? = some (.int .u8 b.val)
  still : row.toList.all calm = true
def Cd.nil : Cd:=⟨#[],0,0,[],0,fun _ _ h=>by simp at h,rfl⟩
def Cd.sl (C : Cd) (i : Nat) : Value:=.slice (some ⟨i,C.off,some 0⟩) C.L.length C.cap
theorem Cd.calm (C : Cd) : calmB (C.row,C.ty) = true:=C.still
structure Cv (row : Array Value) where
  off : Nat
  L : List U8
  cap : Nat
  at_ : ∀ (i : Nat) (b : U8),L[i]? = some b → row[off + i]? = some (.int .u8 b.val)
def Cd.vw (C : Cd) (V : Cv C.row) : Cd:=⟨C.row,C.ty,V.off,V.L,V.cap,V.at_,C.still⟩
theorem Cd.byte (C : Cd) {i : I64} (h : 0 ≤ i.val ∧ i.val < (C.L.length : Int)) : C.row[C.off + i.val.toNat * 1]? = some (.int .u8 (byteAt C.L i).val):=by
  have hi : i.val.toNat < C.L.length:=by omega
  rw [Nat.mul_one]
  refine C.at_ _ _ ?_
  unfold byteAt
  simp [List.getD,List.getElem?_eq_getElem hi]
structure Src where
  ix : I64
  sd : U64
theorem allc {α : Type} {p : α → Bool} {a : α} {l : List α} (h : p a = true) (k : l.all p = true) : (a :: l).all p = true:=by rw [List.all_cons,h,k]; rfl
def Drew {α : Type} (e : α → Value) (T : TypeId) (cv : Value) (lo hi : Int) (r : α × Src) (u : Value) (X : List Blk) : Prop:=u = e r.1 ∧ X = [srcB T cv r.2.ix r.2.sd] ∧ lo ≤ r.2.ix.val ∧ r.2.ix.val ≤ hi
def RD {α : Type} (Z : List Blk) (e : α → Value) (T : TypeId) (cv : Value) (lo hi : Int) (r : α × Src) (u : Value) (G : List Blk) : Prop:=∃ X Y,G = Z ++ (X ++ Y) ∧ Drew e T cv lo hi r u X
variable {P : Program} {E : Eqs} {f : FuncId} {fn : Func} {tr : T} {R : Value → List Blk → Prop}
theorem drew_ok {α : Type} {e : α → Value} {T : TypeId} {cv : Value} {lo hi : Int} {r : α × Src} {n : Nat} (hu : ∀ (n : Nat) (r : α),okU n (e r) = true) (hcv : okc (n + 1) cv = true) (u : Value) (X : List Blk) (h : Drew e T cv lo hi r u X) :
    1 ≤ X.length ∧ X.all (okB (n + X.length)) = true ∧ okU (n + X.length) u = true:=by
  obtain ⟨rfl,rfl,_⟩:=h
  refine ⟨Nat.le_refl _,?_,hu _ _⟩
  show ([srcB T cv r.2.ix r.2.sd].all (okB (n + 1))) = true
  have h1 : ∀ (k : IntKind) (z : Int),okc (n + 1) (.int k z) = true:=fun _ _=>rfl
  have h2 : okB (n + 1) (srcB T cv r.2.ix r.2.sd) = true:=by
    show ([cv,.int .i64 r.2.ix.val,.int .u64 r.2.sd.val].all (okc (n + 1))) = true
    rw [List.all_cons,List.all_cons,List.all_cons,hcv,h1,h1]
    rfl
  rw [List.all_cons,h2]
  rfl
theorem FunS.drew {α : Type} {e : α → Value} {T : TypeId} {cv : Value} {lo hi : Int} {r : α × Src} {Z : List Blk} {a : I64} {s : U64} {args : Array Value} (hu : ∀ (n : Nat) (r : α),okU n (e r) = true) (hzc : Z.all calmB = true) (hcv : okc (Z.length + 1) cv = true)
    (h : FunR P f (Z ++ [srcB T cv a s]) args (RD Z e T cv lo hi r)) : FunS P f Z [srcB T cv a s] args (Drew e T cv lo hi r):=
  FunS.of (fun u X hs=>drew_ok hu hcv u X hs) hzc h
theorem Run.dr {α : Type} {e : α → Value} {T : TypeId} {cv : Value} {lo hi : Int} {r : α × Src} {Z : List Blk} (h : tr.retOf = some (e r.1)) (hH : tr.heapOf.take (Z.length + 1) = Z ++ [srcB T cv r.2.ix r.2.sd]) (hb : lo ≤ r.2.ix.val ∧ r.2.ix.val ≤ hi) : Run P f (RD Z e T cv lo hi r) tr:=
  Run.r h ⟨[srcB T cv r.2.ix r.2.sd],tr.heapOf.drop (Z.length + 1),by rw [← List.append_assoc,← hH,List.take_append_drop],rfl,rfl,hb⟩
theorem Run.cw {α β : Type} {e : α → Value} {x : α × Src} {φ : α × Src → β} {Rg : β → Value → List Blk → Prop} {g : FuncId} {Z : List Blk} {args : Array Value} {T : TypeId} {cv : Value} {lo hi : Int} {a : I64} {s : U64} (zs : List Nat) (i : Nat)
    (hF : FunS P g Z [srcB T cv a s] args (Drew e T cv lo hi x)) (hzc : Z.all calmB = true) (hk : ∀ r : α × Src,r = x → lo ≤ r.2.ix.val ∧ r.2.ix.val ≤ hi → Run P f (Rg (φ r)) (tr.turned zs [i] (e r.1) [srcB T cv r.2.ix r.2.sd]))
    (h : tr.callOf = some (g,(args.toList.map (renA (selF (zs ++ [i])))).toArray):=by kernel_rfl) (hc0 : tr.isCall = true:=by kernel_rfl) (hz : tr.sawB zs = some Z:=by kernel_rfl)
    (hx : tr.sawB [i] = some ([srcB T cv a s].map (renB (selF (zs ++ [i])))):=by kernel_rfl) (hc : [srcB T cv a s].all (okB (zs ++ [i]).length) = true:=by kernel_rfl) (hn : (zs ++ [i]).Nodup:=by decide) (ho : args.toList.all (okA (zs ++ [i]).length) = true:=by kernel_rfl)
    (hu : ∀ (n : Nat) (r : α),okU n (e r) = true:=by exact fun _ _=>rfl) (hcv : okc (zs.length + 1) cv = true:=by kernel_rfl) : Run P f (Rg (bindP x φ)) tr:=
  Run.cg zs [i] hF (fun u X hs=>drew_ok hu hcv u X hs) hzc (fun u X hs=>by
    obtain ⟨rfl,rfl,hb⟩:=hs
    exact hk x rfl hb) h hc0 hz hx hc hn ho
theorem Run.cf {g : FuncId} {Z : List Blk} {args : Array Value} {u : Value} {X : List Blk} (zs : List Nat) (hF : FunS P g Z [] args fun v Y=>v = u ∧ Y = X) (hzc : Z.all calmB = true) (hk : Run P f R (tr.turned zs [] u X))
    (h : tr.callOf = some (g,(args.toList.map (renA (selF (zs ++ [])))).toArray):=by kernel_rfl) (hc0 : tr.isCall = true:=by kernel_rfl) (hz : tr.sawB zs = some Z:=by kernel_rfl) (hx : tr.sawB [] = some []:=by kernel_rfl) (hn : (zs ++ []).Nodup:=by decide) (ho : args.toList.all (okA (zs ++ []).length) = true:=by kernel_rfl)
    (hX : X.all (okB (zs.length + X.length)) = true:=by kernel_rfl) (hu : okU (zs.length + X.length) u = true:=by kernel_rfl) : Run P f R tr:=
  Run.cg zs [] hF (fun v Y hs=>by obtain ⟨rfl,rfl⟩:=hs; exact ⟨Nat.zero_le _,hX,hu⟩) hzc (fun v Y hs=>by obtain ⟨rfl,rfl⟩:=hs; exact hk) h hc0 hz hx rfl hn ho
theorem FunS.made {Z : List Blk} {args : Array Value} {u : Value} {X : List Blk} (hX : X.all (okB (Z.length + X.length)) = true) (hu : okU (Z.length + X.length) u = true) (hzc : Z.all calmB = true)
    (h : FunR P f (Z ++ []) args fun v G=>∃ Y,G = Z ++ (X ++ Y) ∧ v = u) : FunS P f Z [] args fun v Y=>v = u ∧ Y = X:=by
  refine FunS.of (fun v Y hs=>by obtain ⟨rfl,rfl⟩:=hs; exact ⟨Nat.zero_le _,hX,hu⟩) hzc ⟨h.1,fun m args' w ha hH=>(h.2 m args' w ha hH).mono ?_⟩
  rintro ex w' ⟨v,v',n,G,h1,h2,h3,h4,h5,Y,rfl,rfl⟩
  exact ⟨_,v',n,_,h1,h2,h3,h4,h5,X,Y,rfl,rfl,rfl⟩
theorem Run.mk {Z : List Blk} {X : List Blk} {u : Value} (h : tr.retOf = some u) (hH : tr.heapOf.take (Z.length + X.length) = Z ++ X) : Run P f (fun v G=>∃ Y,G = Z ++ (X ++ Y) ∧ v = u) tr:=
  Run.r h ⟨tr.heapOf.drop (Z.length + X.length),by rw [← List.append_assoc,← hH,List.take_append_drop],rfl⟩
def Sourced (P : Program) (f : FuncId) (T : TypeId) : Prop:=Callable P f ∧ ∀ (a : Option Addr) (l c : Nat) (w : World),Calls P f #[.slice a l c] w fun e w'=>e = .returned (.pointer (some ⟨w.heap.size,0,none⟩)) ∧ w' = w.alloc (.cells #[.slice a l c,.int .i64 0,.int .u64 0] T)
theorem ra_src {m : List Nat} {v v' : Value} (h : VR m v v') : RA m #[v,.int .i64 0,.int .u64 0] #[v',.int .i64 0,.int .u64 0]:=
  ⟨rfl,fun i x x' h1 h2=>by
    match i,h1,h2 with
    | 0,h1,h2=>cases h1; cases h2; exact h
    | 1,h1,h2=>cases h1; cases h2; exact .pl _ rfl
    | 2,h1,h2=>cases h1; cases h2; exact .pl _ rfl
    | i + 3,h1,h2=>simp at h1⟩
theorem one_arg {m : List Nat} {v : Value} {args' : Array Value} (h : RA m #[v] args') : ∃ v',args' = #[v'] ∧ VR m v v':=by
  have hs : args'.size = 1:=by rw [← h.size]; rfl
  refine ⟨args'[0],?_,h.at_ 0 v _ rfl (Array.getElem?_eq_getElem (by omega))⟩
  refine Array.ext (by simpa using hs) fun i h1 h2=>?_
  have : i = 0:=by omega
  subst this
  rfl
theorem Sourced.list {T : TypeId} (C : Cd) (hT : T < 1000000) (h : Sourced P f T) : FunS P f [(C.row,C.ty)] [] #[C.sl 0] fun v Y=>v = .pointer (some ⟨1,0,none⟩) ∧ Y = [srcB T (C.sl 0) (c64 0) (cu64 0)]:=by
  refine ⟨h.1,fun m args' w ha hH=>?_⟩
  obtain ⟨v',rfl,hv⟩:=one_arg ha
  have hm : m.length = 1:=hH.len
  have hv0:=hv
  generalize hx : C.sl 0 = x at hv
  cases hv with
  | slice i j o l c s hj=>
    rw [hx] at hv0
    refine (h.2 _ l c w).mono ?_
    rintro e w' ⟨rfl,rfl⟩
    refine ⟨_,_,[w.heap.size],_,rfl,.ptr 1 w.heap.size 0 none (by rw [List.getElem?_append_right (by omega),hm]; rfl),hH.alloc T hT (ra_src hv0),by simp,Kept.alloc _ _ _,[srcB T (.slice (some ⟨i,o,s⟩) l c) (c64 0) (cu64 0)],rfl,rfl,rfl⟩
  | pl _ h'=>rw [← hx] at h'; simp [Cd.sl,flat1] at h'
  | _=>cases hx
theorem Sourced.none {T : TypeId} (hT : T < 1000000) (h : Sourced P f T) : FunS P f [] [] #[.slice none 0 0] fun v Y=>v = .pointer (some ⟨0,0,none⟩) ∧ Y = [srcB T (.slice none 0 0) (c64 0) (cu64 0)]:=by
  refine ⟨h.1,fun m args' w ha hH=>?_⟩
  obtain ⟨v',rfl,hv⟩:=one_arg ha
  have hm : m.length = 0:=hH.len
  have e : v' = .slice Option.none 0 0:=hv.eq_of_flat rfl
  subst e
  refine (h.2 _ 0 0 w).mono ?_
  rintro e w' ⟨rfl,rfl⟩
  exact ⟨_,_,[w.heap.size],_,rfl,.ptr 0 w.heap.size 0 Option.none (by rw [List.getElem?_append_right (by omega),hm]; rfl),hH.alloc T hT (ra_src hv),by simp,Kept.alloc _ _ _,[srcB T (.slice Option.none 0 0) (c64 0) (cu64 0)],rfl,rfl,rfl⟩
def unmark : Value → Value
  | .slice (some ⟨i,o,_⟩) l c=>.slice (some ⟨i,o,none⟩) l c
  | v=>v
theorem VR.marks {m : List Nat} {v u v' : Value} (h : VR m v v') (e : unmark u = unmark v) : VR m u v':=by
  cases u with
  | slice a l c=>
    cases a with
    | none=>
      cases v with
      | slice a2 l2 c2=>
        cases a2 with
        | none=>exact Eq.mp (congrArg (fun z=>VR m z v') e.symm) h
        | some a2=>simp [unmark] at e
      | _=>exact Eq.mp (congrArg (fun z=>VR m z v') e.symm) h
    | some a=>
      obtain ⟨i,o,s⟩:=a
      cases v with
      | slice a2 l2 c2=>
        cases a2 with
        | none=>simp [unmark] at e
        | some a2=>
          obtain ⟨i2,o2,s2⟩:=a2
          simp only [unmark,Value.slice.injEq,Option.some.injEq,Addr.mk.injEq,and_true] at e
          obtain ⟨⟨rfl,rfl⟩,rfl,rfl⟩:=e
          cases h with
          | pl _ h'=>simp [flat1] at h'
          | slice _ j _ _ _ _ hj=>exact .slice _ _ _ _ _ _ hj
      | _=>simp [unmark] at e
  | _=>
    cases v with
    | slice a2 l2 c2=>cases a2 <;> simp [unmark] at e
    | _=>exact Eq.mp (congrArg (fun z=>VR m z v') e.symm) h
theorem FunS.marks {S : Value → List Blk → Prop} {Z X0 : List Blk} {args args2 : Array Value} (e : args2.toList.map unmark = args.toList.map unmark) (h : FunS P f Z X0 args S) : FunS P f Z X0 args2 S:=by
  refine ⟨h.1,fun m args' w ha hH=>h.2 m args' w ⟨?_,fun i v v' h1 h2=>?_⟩ hH⟩
  · rw [← ha.size]
    have:=congrArg List.length e
    simpa using this.symm
  · have h3 : (args2.toList.map unmark)[i]? = some (unmark v):=by rw [e,List.getElem?_map,Array.getElem?_toList,h1]; rfl
    rw [List.getElem?_map] at h3
    cases h4 : args2.toList[i]? with
    | none=>rw [h4] at h3; cases h3
    | some u=>
      rw [h4] at h3
      simp only [Option.map_some,Option.some.injEq] at h3
      exact (ha.at_ i u v' (by rw [← Array.getElem?_toList]; exact h4) h2).marks h3.symm
theorem Run.gt {β : Type} {c : Bool} {x y : β} {Rg : β → Value → List Blk → Prop} (h : tr.cond = some c) (hc : c = true) (hk : Run P f (Rg x) tr.yes) : Run P f (Rg (cond c x y)) tr:=by
  subst hc
  exact Run.t h hk
theorem Run.gn {β : Type} {c : Bool} {x y : β} {Rg : β → Value → List Blk → Prop} (h : tr.cond = some c) (hc : c = false) (hk : Run P f (Rg y) tr.no) : Run P f (Rg (cond c x y)) tr:=by
  subst hc
  exact Run.n h hk
end Go.Proofs.YtfhnlkinjbakgaaGreat.Abs
