/- The abstract machine, fifth part: code as a tree of tests and calls; what a tree comes to; that the model's code comes to the same. -/
import Derived.Test.YtfhnlkinjbakgaaGreatMsAbs4
namespace Go.Proofs.YtfhnlkinjbakgaaGreat.Abs
open Go Go.RowKit
inductive T where
  | ret (v : Value) (H : List Blk)
  | head (todo : List Item) (t : Array Value) (H : List Blk)
  | ite (c : Bool) (a b : T)
  | call (f : FuncId) (args : Array Value) (H : List Blk) (k : Value → List Blk → T)
  | qcall (f : FuncId) (args : Array Value) (H : List Blk) (k : Value → T)
  | opt (x : Option Value) (k : Value → T)
  | both (a b : T)
  | fail
def putA (t : Array Value) (dst : Option Tmp) (v : Value) : Array Value:=
  match dst with
  | some d=>t.setIfInBounds d v
  | none=>t
def stepN (P : Program) (E : Eqs) (o : Oper) (t : Array Value) (H : List Blk) (K : Array Value → List Blk → T) : T:=
  match opA P E o t H with
  | .val v=>K (putA t o.dst v) H
  | .mem v G=>K (putA t o.dst v) G
  | .pick c a b=>.ite c (K (putA t o.dst a) H) (K (putA t o.dst b) H)
  | .chk c v=>.ite c (K (putA t o.dst v) H) .fail
  | .opt x=>.opt x fun v=>K (putA t o.dst v) H
  | .enter f args=>.call f args H fun v G=>K (putA t o.dst v) G
  | .bad=>.fail
def guarded (ops : Array Oper) (o : Oper) (t : Array Value) (go skip : Array Value → T) : T:=
  match o.guard with
  | none=>go t
  | some (j,want)=>
    match (ops[j]?).bind (·.dst) with
    | none=>skip t
    | some d=>
      match t[d]? with
      | some (.bool b)=>.ite b (let t1:=t.setIfInBounds d (.bool true); if want then go t1 else skip t1) (let t1:=t.setIfInBounds d (.bool false); if want then skip t1 else go t1)
      | some (.iface _ _)=>.fail
      | _=>skip t
def opsN (P : Program) (E : Eqs) (ops : Array Oper) (K : Array Value → List Blk → T) : List Oper → Array Value → List Blk → T
  | [],t,H=>K t H
  | o :: rest,t,H=>guarded ops o t (fun t=>stepN P E o t H fun t H=>opsN P E ops K rest t H) (fun t=>opsN P E ops K rest (putA t o.dst undef) H)
def resA (P : Program) (t : Array Value) (H : List Blk) : ResultVar → Option Value
  | .tmp i=>some (t.getD i undef)
  | .cell a T=>loadA P T (t.getD a undef) H
def retA (P : Program) (fn : Func) (t : Array Value) (H : List Blk) : T:=
  match fn.results.toList.mapM (resA P t H) with
  | some [v]=>.ret v H
  | some vs=>.ret (.tuple vs.toArray) H
  | none=>.fail
def Cfg (P : Program) (f : FuncId) (todo : List Item) (t : Array Value) (H : List Blk) (R : Value → List Blk → Prop) : Prop:=
  ∀ (m : List Nat) (t' : Array Value) (w : World),RA m t t' → RH m H w → ∀ (b : Frame) (cs : List Frame),b.fn = f → b.kind = .normal →
    ∃ (w' : World) (fr : Frame) (v v' : Value) (n : List Nat) (G : List Blk),Steps P (lone (b.at (act t') todo) cs w) (lone fr cs w') ∧ fr.fn = f ∧ fr.leaving P w' (.returned v') ∧
      VR (m ++ n) v v' ∧ RH (m ++ n) G w' ∧ (∀ j ∈ n,w.heap.size ≤ j) ∧ Kept m w w' ∧ R v G
def Fun (P : Program) (f : FuncId) (H : List Blk) (args : Array Value) (v : Value) (G : List Blk) : Prop:=
  Callable P f ∧ ∀ (m : List Nat) (args' : Array Value) (w : World),RA m args args' → RH m H w →
    Calls P f args' w fun e w'=>∃ v' n,e = .returned v' ∧ VR (m ++ n) v v' ∧ RH (m ++ n) G w' ∧ (∀ j ∈ n,w.heap.size ≤ j) ∧ Kept m w w'
def renum (sel : List Nat) : Value → Value
  | .pointer (some ⟨i,o,none⟩)=>.pointer (some ⟨sel.getD i 0,o,none⟩)
  | .slice (some ⟨i,o,none⟩) l c=>.slice (some ⟨sel.getD i 0,o,none⟩) l c
  | .func fn a c=>.func fn a (c.toList.map fun v=>match v with | .pointer (some ⟨i,o,none⟩)=>.pointer (some ⟨sel.getD i 0,o,none⟩) | v=>v).toArray
  | v=>v
def argOk (n : Nat) : Value → Bool
  | .pointer (some ⟨i,_,none⟩)=>decide (i < n)
  | .slice (some ⟨i,_,none⟩) _ _=>decide (i < n)
  | .func _ a c=>a.size == 0 && c.toList.all fun v=>match v with | .pointer (some ⟨i,_,none⟩)=>decide (i < n) | v=>flat1 v
  | v=>flat v
def shift1 (k : Nat) : Value → Value
  | .pointer (some ⟨i,o,none⟩)=>.pointer (some ⟨k + i,o,none⟩)
  | .slice (some ⟨i,o,s⟩) l c=>.slice (some ⟨k + i,o,s⟩) l c
  | v=>v
def shiftV (k : Nat) : Value → Value
  | .tuple vs=>.tuple (vs.toList.map fun v=>match v with | .agg cs=>.agg cs | v=>shift1 k v).toArray
  | .func fn a c=>.func fn a (c.toList.map (shift1 k)).toArray
  | v=>shift1 k v
def newOk : Value → Bool
  | .tuple vs=>vs.toList.all fun v=>match v with | .pointer (some ⟨_,_,none⟩)=>true | .slice (some _) _ _=>true | .agg cs=>cs.toList.all flat1 | v=>flat1 v
  | .func _ a c=>a.size == 0 && c.toList.all fun v=>match v with | .pointer (some ⟨_,_,none⟩)=>true | v=>flat1 v
  | .pointer (some ⟨_,_,none⟩)=>true
  | .slice (some _) _ _=>true
  | v=>flat v
def bare : Value → Bool
  | .func _ a c=>a.size == 0 && c.size == 0
  | _=>false
def calm (v : Value) : Bool:=flat1 v || isRaw v || bare v
theorem bare_flat {v : Value} (h : bare v = true) : flat v = true:=by cases v <;> first | exact h | (simp [bare] at h)
def FunR (P : Program) (f : FuncId) (H : List Blk) (args : Array Value) (S : Value → List Blk → Prop) : Prop:=
  Callable P f ∧ ∀ (m : List Nat) (args' : Array Value) (w : World),RA m args args' → RH m H w →
    Calls P f args' w fun e w'=>∃ v v' n G,e = .returned v' ∧ VR (m ++ n) v v' ∧ RH (m ++ n) G w' ∧ (∀ j ∈ n,w.heap.size ≤ j) ∧ Kept m w w' ∧ S v G
theorem Fun.toR {P : Program} {f : FuncId} {H : List Blk} {args : Array Value} {v : Value} {G : List Blk} (h : Fun P f H args v G) : FunR P f H args fun v' G'=>v' = v ∧ G' = G:=
  ⟨h.1,fun m args' w ha hH=>(h.2 m args' w ha hH).mono fun _ _ ⟨v',n,h1,h2,h3,h4,h5⟩=>⟨v,v',n,G,h1,h2,h3,h4,h5,rfl,rfl⟩⟩
def ren1 (ρ : Nat → Nat) : Value → Value
  | .pointer (some ⟨i,o,s⟩)=>.pointer (some ⟨ρ i,o,s⟩)
  | .slice (some ⟨i,o,s⟩) l c=>.slice (some ⟨ρ i,o,s⟩) l c
  | v=>v
def okc (n : Nat) : Value → Bool
  | .pointer (some ⟨i,_,_⟩)=>decide (i < n)
  | .slice (some ⟨i,_,_⟩) _ _=>decide (i < n)
  | v=>flat1 v || isRaw v
def okA (n : Nat) : Value → Bool
  | .agg cs=>cs.toList.all flat1
  | v=>okc n v
def renA (ρ : Nat → Nat) : Value → Value
  | .agg cs=>.agg cs
  | v=>ren1 ρ v
def okU (n : Nat) : Value → Bool
  | .tuple vs=>vs.toList.all (okA n)
  | v=>okA n v
def renU (ρ : Nat → Nat) : Value → Value
  | .tuple vs=>.tuple (vs.toList.map (renA ρ)).toArray
  | v=>renA ρ v
def renB (ρ : Nat → Nat) (b : Blk) : Blk:=((b.1.toList.map (ren1 ρ)).toArray,b.2)
def okB (n : Nat) (b : Blk) : Bool:=b.1.toList.all (okc n)
def calmB (b : Blk) : Bool:=b.1.toList.all calm
def selF (sel : List Nat) (i : Nat) : Nat:=sel.getD i 0
def backF (sel : List Nat) (k i : Nat) : Nat:=if i < sel.length then sel.getD i 0 else k + (i - sel.length)
def patch (H : List Blk) : List Nat → List Blk → List Blk
  | i :: sel,b :: X=>(patch H sel X).set i b
  | _,_=>H
def merge (H : List Blk) (zs xs : List Nat) (X : List Blk) : List Blk:=patch H xs (X.map (renB (backF (zs ++ xs) H.length))) ++ (X.drop xs.length).map (renB (backF (zs ++ xs) H.length))
inductive Run (P : Program) (f : FuncId) (R : Value → List Blk → Prop) : T → Prop
  | ret (v : Value) (H : List Blk) (h : R v H) : Run P f R (.ret v H)
  | head (todo : List Item) (t : Array Value) (H : List Blk) (h : Cfg P f todo t H R) : Run P f R (.head todo t H)
  | opt (x : Option Value) (k : Value → T) (v : Value) (h : x = some v) (hk : Run P f R (k v)) : Run P f R (.opt x k)
  | both (a b : T) (ha : Run P f R a) (hb : Run P f R b) : Run P f R (.both a b)
  | ite (c : Bool) (a b : T) (ha : c = true → Run P f R a) (hb : c = false → Run P f R b) : Run P f R (.ite c a b)
  | call (g : FuncId) (sel : List Nat) (H0 : List Blk) (args : Array Value) (H : List Blk) (k : Value → List Blk → T) (u : Value)
      (hF : Fun P g H0 args u H0) (hu : flat u = true) (hs : sel.mapM (fun i=>H[i]?) = some H0) (hc : H0.all (fun b=>b.1.toList.all flat) = true) (hn : sel.Nodup) (ho : args.toList.all (argOk sel.length) = true)
      (hk : Run P f R (k u H)) : Run P f R (.call g (args.toList.map (renum sel)).toArray H k)
  | qcall (g : FuncId) (sel : List Nat) (H0 : List Blk) (args : Array Value) (H : List Blk) (k : Value → T) (u : Value)
      (hF : Fun P g H0 args u H0) (hu : flat u = true) (hs : sel.mapM (fun i=>H[i]?) = some H0) (hc : H0.all (fun b=>b.1.toList.all flat) = true) (hn : sel.Nodup) (ho : args.toList.all (argOk sel.length) = true)
      (hk : Run P f R (k u)) : Run P f R (.qcall g (args.toList.map (renum sel)).toArray H k)
  | qcalm (g : FuncId) (zs : List Nat) (Z : List Blk) (args : Array Value) (H : List Blk) (k : Value → T) (u : Value)
      (hF : Fun P g Z args u Z) (hu : flat u = true) (hU : ∀ n,okU n u = true) (hz : zs.mapM (fun i=>H[i]?) = some Z) (hzc : Z.all calmB = true) (hn : zs.Nodup) (ho : args.toList.all (okA zs.length) = true)
      (hk : Run P f R (k u)) : Run P f R (.qcall g (args.toList.map (renA (selF zs))).toArray H k)
  | new (g : FuncId) (args : Array Value) (H : List Blk) (k : Value → List Blk → T) (S : Value → List Blk → Prop)
      (hF : FunR P g [] args S) (hS : ∀ u X,S u X → newOk u = true ∧ X.all (fun b=>b.1.toList.all calm) = true) (ho : args.toList.all flat = true)
      (hk : ∀ u X,S u X → Run P f R (k (shiftV H.length u) (H ++ X))) : Run P f R (.call g args H k)
  | chg (g : FuncId) (zs xs : List Nat) (Z X0 : List Blk) (args : Array Value) (H : List Blk) (k : Value → List Blk → T) (S : Value → List Blk → Prop)
      (hF : FunR P g (Z ++ X0) args fun u G=>∃ X,G = Z ++ X ∧ S u X) (hz : zs.mapM (fun i=>H[i]?) = some Z) (hzc : Z.all calmB = true) (hx : xs.mapM (fun i=>H[i]?) = some (X0.map (renB (selF (zs ++ xs)))))
      (hc : X0.all (okB (zs ++ xs).length) = true) (hn : (zs ++ xs).Nodup) (ho : args.toList.all (okA (zs ++ xs).length) = true)
      (hS : ∀ u X,S u X → xs.length ≤ X.length ∧ X.all (okB (zs.length + X.length)) = true ∧ okU (zs.length + X.length) u = true)
      (hk : ∀ u X,S u X → Run P f R (k (renU (backF (zs ++ xs) H.length) u) (merge H zs xs X))) : Run P f R (.call g (args.toList.map (renA (selF (zs ++ xs)))).toArray H k)
section
variable {P : Program} {E : Eqs} {m : List Nat} {t t' : Array Value} {H : List Blk} {w : World} {f : FuncId}
theorem RA.put (ht : RA m t t') {v v' : Value} (hv : VR m v v') (dst : Option Tmp) : RA m (putA t dst v) (putA t' dst v'):=by
  cases dst with
  | none=>exact ht
  | some d=>
    refine ⟨by simp [putA,ht.size],fun i u u' h1 h2=>?_⟩
    simp only [putA] at h1 h2
    by_cases e : d = i
    · subst e
      rw [Array.getElem?_setIfInBounds_self] at h1 h2
      split at h1
      · rename_i hlt
        rw [if_pos (by rw [← ht.size]; exact hlt)] at h2
        cases h1; cases h2
        exact hv
      · cases h1
    · rw [Array.getElem?_setIfInBounds_ne e] at h1 h2
      exact ht.at_ i u u' h1 h2
theorem act_put (t' : Array Value) (dst : Option Tmp) (v' : Value) : (act t').put dst v' = act (putA t' dst v'):=by cases dst <;> rfl
theorem select {H0 : List Blk} {sel : List Nat} (hH : RH m H w) (hs : sel.mapM (fun i=>H[i]?) = some H0) (hc : H0.all (fun b=>b.1.toList.all flat) = true) (hn : sel.Nodup) :
    ∃ m0,sel.mapM (fun i=>m[i]?) = some m0 ∧ RH m0 H0 w ∧ (∀ j ∈ m0,j ∈ m):=by
  have key : ∀ (sel : List Nat) (H0 : List Blk),sel.mapM (fun i=>H[i]?) = some H0 →
      ∃ m0,sel.mapM (fun i=>m[i]?) = some m0 ∧ m0.length = sel.length ∧ H0.length = sel.length ∧ (∀ (k i : Nat),sel[k]? = some i → m0[k]? = m[i]? ∧ H0[k]? = H[i]?) ∧ (∀ j ∈ m0,∃ i ∈ sel,m[i]? = some j):=by
    intro sel
    induction sel with
    | nil=>intro H0 h; simp at h; subst h; exact ⟨[],rfl,rfl,rfl,fun k i h=>by simp at h,fun j hj=>by simp at hj⟩
    | cons a sel ih=>
      intro H0 h
      simp only [List.mapM_cons,Option.bind_eq_bind,Option.bind_eq_some_iff,Option.pure_def,Option.some.injEq] at h
      obtain ⟨b,hb,H1,hH1,rfl⟩:=h
      obtain ⟨m1,e1,e2,e3,e4,e5⟩:=ih H1 hH1
      have hlt : a < m.length:=by rw [hH.len]; exact (List.getElem?_eq_some_iff.1 hb).1
      refine ⟨m[a] :: m1,?_,by simp [e2],by simp [e3],fun k i hk=>?_,fun j hj=>?_⟩
      · simp [List.mapM_cons,List.getElem?_eq_getElem hlt,e1]
      · cases k with
        | zero=>simp at hk; subst hk; exact ⟨by simp [List.getElem?_eq_getElem hlt],by simp [hb]⟩
        | succ k=>simp at hk; have:=e4 k i hk; exact ⟨by simpa using this.1,by simpa using this.2⟩
      · rcases List.mem_cons.1 hj with rfl | hj
        · exact ⟨a,by simp,List.getElem?_eq_getElem hlt⟩
        · obtain ⟨i,hi,hj⟩:=e5 j hj
          exact ⟨i,by simp [hi],hj⟩
  obtain ⟨m0,e1,e2,e3,e4,e5⟩:=key sel H0 hs
  refine ⟨m0,e1,⟨by rw [e2,e3],?_,fun i j b hj hb=>?_⟩,fun j hj=>?_⟩
  · refine nodup_of_inj fun i j a hi hj=>?_
    have hi' : i < sel.length:=by rw [← e2]; exact (List.getElem?_eq_some_iff.1 hi).1
    have hj' : j < sel.length:=by rw [← e2]; exact (List.getElem?_eq_some_iff.1 hj).1
    rw [(e4 i _ (List.getElem?_eq_getElem hi')).1] at hi
    rw [(e4 j _ (List.getElem?_eq_getElem hj')).1] at hj
    have hij:=nodup_inj hH.nodup hi hj
    exact nodup_inj hn (List.getElem?_eq_getElem hi') (by rw [List.getElem?_eq_getElem hj',hij])
  · have hi' : i < sel.length:=by rw [← e2]; exact (List.getElem?_eq_some_iff.1 hj).1
    have h4:=e4 i _ (List.getElem?_eq_getElem hi')
    have hb0:=hb
    rw [h4.1] at hj
    rw [h4.2] at hb
    obtain ⟨cs,k1,k2⟩:=hH.blk _ j b hj hb
    refine ⟨cs,k1,k2.size,fun i v v' h1 h2=>?_⟩
    have hfb:=List.all_eq_true.1 hc b (List.mem_of_getElem? hb0)
    have hfl:=List.all_eq_true.1 hfb v (by rw [Array.mem_toList_iff]; exact Array.mem_of_getElem? h1)
    rw [(k2.at_ i v v' h1 h2).eq_of_flat hfl]
    exact VR.refl_of_flat _ hfl
  · obtain ⟨i,_,hj⟩:=e5 j hj
    exact List.mem_of_getElem? hj
end
end Go.Proofs.YtfhnlkinjbakgaaGreat.Abs
