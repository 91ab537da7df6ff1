/- The abstract machine, fifth part: code as a tree of tests and calls; what a tree comes to; that the model's code comes to the same. -/
import Derived.Test.YtfhnlkinjbakgaaGreatSsAbs4
namespace Go.Proofs.YtfhnlkinjbakgaaGreat.Abs
open Go Go.RowKit
inductive T where
  | ret (v : Value) (H : List C6)
  | head (todo : List Item) (t : Array Value) (H : List C6)
  | ite (c : Bool) (a b : T)
  | call (f : FuncId) (args : Array Value) (H : List C6) (k : Value → List C6 → T)
  | qcall (f : FuncId) (args : Array Value) (H : List C6) (k : Value → T)
  | opt (x : Option Value) (k : Value → T)
  | both (a b : T)
  | fail
def Fb (t : Array Value) (dst : Option Tmp) (v : Value) : Array Value:=
  match dst with
  | some d=>t.setIfInBounds d v
  | none=>t
def i8 (P : Program) (E : V4) (o : Oper) (t : Array Value) (H : List C6) (K : Array Value → List C6 → T) : T:=
  match dP P E o t H with
  | .val v=>K (Fb t o.dst v) H
  | .mem v G=>K (Fb t o.dst v) G
  | .pick c a b=>.ite c (K (Fb t o.dst a) H) (K (Fb t o.dst b) H)
  | .chk c v=>.ite c (K (Fb t o.dst v) H) .fail
  | .opt x=>.opt x fun v=>K (Fb t o.dst v) H
  | .enter f args=>.call f args H fun v G=>K (Fb t o.dst v) G
  | .bad=>.fail
def Pz (ops : Array Oper) (o : Oper) (t : Array Value) (go skip : Array Value → T) : T:=
  match o.guard with
  | none=>go t
  | some (j,want)=>
    match (ops[j]?).bind (·.dst) with
    | none=>skip t
    | some d=>
      match t[d]? with
      | some (.bool b)=>.ite b (let t1:=t.setIfInBounds d (.bool true); if want then go t1 else skip t1) (let t1:=t.setIfInBounds d (.bool false); if want then skip t1 else go t1)
      | some (.iface _ _)=>.fail
      | _=>skip t
def Zn (P : Program) (E : V4) (ops : Array Oper) (K : Array Value → List C6 → T) : List Oper → Array Value → List C6 → T
  | [],t,H=>K t H
  | o :: rest,t,H=>Pz ops o t (fun t=>i8 P E o t H fun t H=>Zn P E ops K rest t H) (fun t=>Zn P E ops K rest (Fb t o.dst undef) H)
def zT (P : Program) (t : Array Value) (H : List C6) : ResultVar → Option Value
  | .tmp i=>some (t.getD i undef)
  | .cell a T=>cX P T (t.getD a undef) H
def Acz (P : Program) (fn : Func) (t : Array Value) (H : List C6) : T:=
  match fn.results.toList.mapM (zT P t H) with
  | some [v]=>.ret v H
  | some vs=>.ret (.tuple vs.toArray) H
  | none=>.fail
def Ox (P : Program) (f : FuncId) (todo : List Item) (t : Array Value) (H : List C6) (R : Value → List C6 → Prop) : Prop:=
  ∀ (m : List Nat) (t' : Array Value) (w : World),RA m t t' → RH m H w → ∀ (b : Frame) (cs : List Frame),b.fn = f → b.kind = .normal →
    ∃ (w' : World) (fr : Frame) (v v' : Value) (n : List Nat) (G : List C6),Steps P (lone (b.at (Fh t') todo) cs w) (lone fr cs w') ∧ fr.fn = f ∧ fr.leaving P w' (.returned v') ∧
      VR (m ++ n) v v' ∧ RH (m ++ n) G w' ∧ (∀ j ∈ n,w.heap.size ≤ j) ∧ H5 m w w' ∧ R v G
def Br (P : Program) (f : FuncId) (H : List C6) (args : Array Value) (v : Value) (G : List C6) : Prop:=
  T5 P f ∧ ∀ (m : List Nat) (args' : Array Value) (w : World),RA m args args' → RH m H w →
    Calls P f args' w fun e w'=>∃ v' n,e = .returned v' ∧ VR (m ++ n) v v' ∧ RH (m ++ n) G w' ∧ (∀ j ∈ n,w.heap.size ≤ j) ∧ H5 m w w'
def T9 (sel : List Nat) : Value → Value
  | .pointer (some ⟨i,o,none⟩)=>.pointer (some ⟨sel.getD i 0,o,none⟩)
  | .slice (some ⟨i,o,none⟩) l c=>.slice (some ⟨sel.getD i 0,o,none⟩) l c
  | .func fn a c=>.func fn a (c.toList.map fun v=>match v with | .pointer (some ⟨i,o,none⟩)=>.pointer (some ⟨sel.getD i 0,o,none⟩) | v=>v).toArray
  | v=>v
def Qh (n : Nat) : Value → Bool
  | .pointer (some ⟨i,_,none⟩)=>decide (i < n)
  | .slice (some ⟨i,_,none⟩) _ _=>decide (i < n)
  | .func _ a c=>a.size == 0 && c.toList.all fun v=>match v with | .pointer (some ⟨i,_,none⟩)=>decide (i < n) | v=>Cz v
  | v=>Eg v
def iG (k : Nat) : Value → Value
  | .pointer (some ⟨i,o,none⟩)=>.pointer (some ⟨k + i,o,none⟩)
  | .slice (some ⟨i,o,s⟩) l c=>.slice (some ⟨k + i,o,s⟩) l c
  | v=>v
def nW (k : Nat) : Value → Value
  | .tuple vs=>.tuple (vs.toList.map fun v=>match v with | .agg cs=>.agg cs | v=>iG k v).toArray
  | .func fn a c=>.func fn a (c.toList.map (iG k)).toArray
  | v=>iG k v
def cW : Value → Bool
  | .tuple vs=>vs.toList.all fun v=>match v with | .pointer (some ⟨_,_,none⟩)=>true | .slice (some _) _ _=>true | .agg cs=>cs.toList.all Cz | v=>Cz v
  | .func _ a c=>a.size == 0 && c.toList.all fun v=>match v with | .pointer (some ⟨_,_,none⟩)=>true | v=>Cz v
  | .pointer (some ⟨_,_,none⟩)=>true
  | .slice (some _) _ _=>true
  | v=>Eg v
def Ahr : Value → Bool
  | .func _ a c=>a.size == 0 && c.size == 0
  | _=>false
def calm (v : Value) : Bool:=Cz v || N4 v || Ahr v
theorem Sn {v : Value} (h : Ahr v = true) : Eg v = true:=by cases v <;> first | exact h | (simp [Ahr] at h)
def If (P : Program) (f : FuncId) (H : List C6) (args : Array Value) (S : Value → List C6 → Prop) : Prop:=
  T5 P f ∧ ∀ (m : List Nat) (args' : Array Value) (w : World),RA m args args' → RH m H w →
    Calls P f args' w fun e w'=>∃ v v' n G,e = .returned v' ∧ VR (m ++ n) v v' ∧ RH (m ++ n) G w' ∧ (∀ j ∈ n,w.heap.size ≤ j) ∧ H5 m w w' ∧ S v G
theorem Br.toR {P : Program} {f : FuncId} {H : List C6} {args : Array Value} {v : Value} {G : List C6} (h : Br P f H args v G) : If P f H args fun v' G'=>v' = v ∧ G' = G:=
  ⟨h.1,fun m args' w ha hH=>(h.2 m args' w ha hH).mono fun _ _ ⟨v',n,h1,h2,h3,h4,h5⟩=>⟨v,v',n,G,h1,h2,h3,h4,h5,rfl,rfl⟩⟩
def lJ (ρ : Nat → Nat) : Value → Value
  | .pointer (some ⟨i,o,s⟩)=>.pointer (some ⟨ρ i,o,s⟩)
  | .slice (some ⟨i,o,s⟩) l c=>.slice (some ⟨ρ i,o,s⟩) l c
  | v=>v
def okc (n : Nat) : Value → Bool
  | .pointer (some ⟨i,_,_⟩)=>decide (i < n)
  | .slice (some ⟨i,_,_⟩) _ _=>decide (i < n)
  | v=>Cz v || N4 v
def okA (n : Nat) : Value → Bool
  | .agg cs=>cs.toList.all Cz
  | v=>okc n v
def bW (ρ : Nat → Nat) : Value → Value
  | .agg cs=>.agg cs
  | v=>lJ ρ v
def okU (n : Nat) : Value → Bool
  | .tuple vs=>vs.toList.all (okA n)
  | v=>okA n v
def zU (ρ : Nat → Nat) : Value → Value
  | .tuple vs=>.tuple (vs.toList.map (bW ρ)).toArray
  | v=>bW ρ v
def bV (ρ : Nat → Nat) (b : C6) : C6:=((b.1.toList.map (lJ ρ)).toArray,b.2)
def vR (n : Nat) (b : C6) : Bool:=b.1.toList.all (okc n)
def Ye (b : C6) : Bool:=b.1.toList.all calm
def dX (sel : List Nat) (i : Nat) : Nat:=sel.getD i 0
def kW (sel : List Nat) (k i : Nat) : Nat:=if i < sel.length then sel.getD i 0 else k + (i - sel.length)
def cA (H : List C6) : List Nat → List C6 → List C6
  | i :: sel,b :: X=>(cA H sel X).set i b
  | _,_=>H
def yD (H : List C6) (zs xs : List Nat) (X : List C6) : List C6:=cA H xs (X.map (bV (kW (zs ++ xs) H.length))) ++ (X.drop xs.length).map (bV (kW (zs ++ xs) H.length))
inductive Ac (P : Program) (f : FuncId) (R : Value → List C6 → Prop) : T → Prop
  | ret (v : Value) (H : List C6) (h : R v H) : Ac P f R (.ret v H)
  | head (todo : List Item) (t : Array Value) (H : List C6) (h : Ox P f todo t H R) : Ac P f R (.head todo t H)
  | opt (x : Option Value) (k : Value → T) (v : Value) (h : x = some v) (hk : Ac P f R (k v)) : Ac P f R (.opt x k)
  | both (a b : T) (ha : Ac P f R a) (hb : Ac P f R b) : Ac P f R (.both a b)
  | ite (c : Bool) (a b : T) (ha : c = true → Ac P f R a) (hb : c = false → Ac P f R b) : Ac P f R (.ite c a b)
  | call (g : FuncId) (sel : List Nat) (H0 : List C6) (args : Array Value) (H : List C6) (k : Value → List C6 → T) (u : Value)
      (hF : Br P g H0 args u H0) (hu : Eg u = true) (hs : sel.mapM (fun i=>H[i]?) = some H0) (hc : H0.all (fun b=>b.1.toList.all Eg) = true) (hn : sel.Nodup) (ho : args.toList.all (Qh sel.length) = true)
      (hk : Ac P f R (k u H)) : Ac P f R (.call g (args.toList.map (T9 sel)).toArray H k)
  | qcall (g : FuncId) (sel : List Nat) (H0 : List C6) (args : Array Value) (H : List C6) (k : Value → T) (u : Value)
      (hF : Br P g H0 args u H0) (hu : Eg u = true) (hs : sel.mapM (fun i=>H[i]?) = some H0) (hc : H0.all (fun b=>b.1.toList.all Eg) = true) (hn : sel.Nodup) (ho : args.toList.all (Qh sel.length) = true)
      (hk : Ac P f R (k u)) : Ac P f R (.qcall g (args.toList.map (T9 sel)).toArray H k)
  | new (g : FuncId) (args : Array Value) (H : List C6) (k : Value → List C6 → T) (S : Value → List C6 → Prop)
      (hF : If P g [] args S) (hS : ∀ u X,S u X → cW u = true ∧ X.all (fun b=>b.1.toList.all calm) = true) (ho : args.toList.all Eg = true)
      (hk : ∀ u X,S u X → Ac P f R (k (nW H.length u) (H ++ X))) : Ac P f R (.call g args H k)
  | chg (g : FuncId) (zs xs : List Nat) (Z X0 : List C6) (args : Array Value) (H : List C6) (k : Value → List C6 → T) (S : Value → List C6 → Prop)
      (hF : If P g (Z ++ X0) args fun u G=>∃ X,G = Z ++ X ∧ S u X) (hz : zs.mapM (fun i=>H[i]?) = some Z) (hzc : Z.all Ye = true) (hx : xs.mapM (fun i=>H[i]?) = some (X0.map (bV (dX (zs ++ xs)))))
      (hc : X0.all (vR (zs ++ xs).length) = true) (hn : (zs ++ xs).Nodup) (ho : args.toList.all (okA (zs ++ xs).length) = true)
      (hS : ∀ u X,S u X → xs.length ≤ X.length ∧ X.all (vR (zs.length + X.length)) = true ∧ okU (zs.length + X.length) u = true)
      (hk : ∀ u X,S u X → Ac P f R (k (zU (kW (zs ++ xs) H.length) u) (yD H zs xs X))) : Ac P f R (.call g (args.toList.map (bW (dX (zs ++ xs)))).toArray H k)
section
variable {P : Program} {E : V4} {m : List Nat} {t t' : Array Value} {H : List C6} {w : World} {f : FuncId}
theorem RA.put (ht : RA m t t') {v v' : Value} (hv : VR m v v') (dst : Option Tmp) : RA m (Fb t dst v) (Fb t' dst v'):=by
  cases dst with
  | none=>exact ht
  | some d=>
    refine ⟨by simp [Fb,ht.size],fun i u u' h1 h2=>?_⟩
    simp only [Fb] at h1 h2
    by_cases e : d = i
    · subst e
      rw [Array.getElem?_setIfInBounds_self] at h1 h2
      split at h1
      · rename_i hlt
        rw [if_pos (by rw [← ht.size]; exact hlt)] at h2
        cases h1; cases h2
        exact hv
      · cases h1
    · rw [Array.getElem?_setIfInBounds_ne e] at h1 h2
      exact ht.at_ i u u' h1 h2
theorem Dl (t' : Array Value) (dst : Option Tmp) (v' : Value) : (Fh t').put dst v' = Fh (Fb t' dst v'):=by cases dst <;> rfl
theorem select {H0 : List C6} {sel : List Nat} (hH : RH m H w) (hs : sel.mapM (fun i=>H[i]?) = some H0) (hc : H0.all (fun b=>b.1.toList.all Eg) = true) (hn : sel.Nodup) :
    ∃ m0,sel.mapM (fun i=>m[i]?) = some m0 ∧ RH m0 H0 w ∧ (∀ j ∈ m0,j ∈ m):=by
  have key : ∀ (sel : List Nat) (H0 : List C6),sel.mapM (fun i=>H[i]?) = some H0 →
      ∃ m0,sel.mapM (fun i=>m[i]?) = some m0 ∧ m0.length = sel.length ∧ H0.length = sel.length ∧ (∀ (k i : Nat),sel[k]? = some i → m0[k]? = m[i]? ∧ H0[k]? = H[i]?) ∧ (∀ j ∈ m0,∃ i ∈ sel,m[i]? = some j):=by
    intro sel
    induction sel with
    | nil=>intro H0 h; simp at h; subst h; exact ⟨[],rfl,rfl,rfl,fun k i h=>by simp at h,fun j hj=>by simp at hj⟩
    | cons a sel ih=>
      intro H0 h
      simp only [List.mapM_cons,Option.bind_eq_bind,Option.bind_eq_some_iff,Option.pure_def,Option.some.injEq] at h
      obtain ⟨b,hb,H1,hH1,rfl⟩:=h
      obtain ⟨m1,e1,e2,e3,e4,e5⟩:=ih H1 hH1
      have hlt : a < m.length:=by rw [hH.len]; exact (List.getElem?_eq_some_iff.1 hb).1
      refine ⟨m[a] :: m1,?_,by simp [e2],by simp [e3],fun k i hk=>?_,fun j hj=>?_⟩
      · simp [List.mapM_cons,List.getElem?_eq_getElem hlt,e1]
      · cases k with
        | zero=>simp at hk; subst hk; exact ⟨by simp [List.getElem?_eq_getElem hlt],by simp [hb]⟩
        | succ k=>simp at hk; have:=e4 k i hk; exact ⟨by simpa using this.1,by simpa using this.2⟩
      · rcases List.mem_cons.1 hj with rfl | hj
        · exact ⟨a,by simp,List.getElem?_eq_getElem hlt⟩
        · obtain ⟨i,hi,hj⟩:=e5 j hj
          exact ⟨i,by simp [hi],hj⟩
  obtain ⟨m0,e1,e2,e3,e4,e5⟩:=key sel H0 hs
  refine ⟨m0,e1,⟨by rw [e2,e3],?_,fun i j b hj hb=>?_⟩,fun j hj=>?_⟩
  · refine Wg fun i j a hi hj=>?_
    have hi' : i < sel.length:=by rw [← e2]; exact (List.getElem?_eq_some_iff.1 hi).1
    have hj' : j < sel.length:=by rw [← e2]; exact (List.getElem?_eq_some_iff.1 hj).1
    rw [(e4 i _ (List.getElem?_eq_getElem hi')).1] at hi
    rw [(e4 j _ (List.getElem?_eq_getElem hj')).1] at hj
    have hij:=Lp hH.nodup hi hj
    exact Lp hn (List.getElem?_eq_getElem hi') (by rw [List.getElem?_eq_getElem hj',hij])
  · have hi' : i < sel.length:=by rw [← e2]; exact (List.getElem?_eq_some_iff.1 hj).1
    have h4:=e4 i _ (List.getElem?_eq_getElem hi')
    have hb0:=hb
    rw [h4.1] at hj
    rw [h4.2] at hb
    obtain ⟨cs,k1,k2⟩:=hH.blk _ j b hj hb
    refine ⟨cs,k1,k2.size,fun i v v' h1 h2=>?_⟩
    have hfb:=List.all_eq_true.1 hc b (List.mem_of_getElem? hb0)
    have hfl:=List.all_eq_true.1 hfb v (by rw [Array.mem_toList_iff]; exact Array.mem_of_getElem? h1)
    rw [(k2.at_ i v v' h1 h2).eq_of_flat hfl]
    exact VR.refl_of_flat _ hfl
  · obtain ⟨i,_,hj⟩:=e5 j hj
    exact List.mem_of_getElem? hj
end
end Go.Proofs.YtfhnlkinjbakgaaGreat.Abs
