/- The abstract machine, eighth part: code, whole functions; how a proof reads a tree. -/
import Derived.Test.YtfhnlkinjbakgaaGreatMsAbsO
import Derived.Test.YtfhnlkinjbakgaaGreatMsAbsT
namespace Go.Proofs.YtfhnlkinjbakgaaGreat.Abs
open Go Go.RowKit
def isAppend (o : Oper) : Bool:=
  match o.op with
  | .call c=>match c.callee with
    | .builtin .append=>true
    | _=>false
  | _=>false
def exec (P : Program) (E : Eqs) (fn : Func) : Nat → List Item → Array Value → List Blk → T
  | 0,_,_,_=>.fail
  | _ + 1,[],t,H=>retA P fn t H
  | _ + 1,.code .ret :: _,t,H=>retA P fn t H
  | k + 1,.code .skip :: r,t,H=>exec P E fn k r t H
  | k + 1,.code (.label _) :: r,t,H=>exec P E fn k r t H
  | k + 1,.inBlock _ :: r,t,H=>exec P E fn k r t H
  | k + 1,.code (.seq a b) :: r,t,H=>exec P E fn k (.code a :: .code b :: r) t H
  | k + 1,.code (.cond (.tmp d) x y) :: r,t,H=>
    match t[d]? with
    | some (.bool b)=>.ite b (exec P E fn k (.code x :: r) (t.setIfInBounds d (.bool true)) H) (exec P E fn k (.code y :: r) (t.setIfInBounds d (.bool false)) H)
    | _=>.fail
  | k + 1,.code (.cond (.const (.bool b)) x y) :: r,t,H=>exec P E fn k (.code (if b then x else y) :: r) t H
  | k + 1,.code (.block id body) :: r,t,H=>exec P E fn k (.code body :: .inBlock id :: r) t H
  | _ + 1,.code (.loop body) :: r,t,H=>.head (.code body :: .inLoop body :: r) t H
  | _ + 1,.inLoop body :: r,t,H=>.head (.code body :: .inLoop body :: r) t H
  | k + 1,.code (.exit id) :: r,t,H=>
    match exitTo id r with
    | some r'=>exec P E fn k r' t H
    | none=>.fail
  | k + 1,.code (.region id ops draw) :: r,t,H=>if ops.toList.any isAppend then .head (.code (.region id ops draw) :: r) t H else regionO P E ops draw (fun t H=>exec P E fn k r t H) t H
  | _ + 1,_,_,_=>.fail
section
variable {P : Program} {E : Eqs} {f : FuncId} {fn : Func}
theorem Cfg.onward {todo todo2 : List Item} {t t2 : Array Value} {H H2 : List Blk} {R : Value → List Blk → Prop}
    (hs : ∀ (m : List Nat) (t' : Array Value) (w : World),RA m t t' → RH m H w → ∀ (b : Frame) (cs : List Frame),∃ t2',RA m t2 t2' ∧ RH m H2 w ∧ Steps P (lone (b.at (act t') todo) cs w) (lone (b.at (act t2') todo2) cs w))
    (h : Cfg P f todo2 t2 H2 R) : Cfg P f todo t H R:=by
  intro m t' w ht hH b cs hb hk
  obtain ⟨t2',ht2,hH2,hst⟩:=hs m t' w ht hH b cs
  obtain ⟨w',fr,v,v',n,G,h1,h2⟩:=h m t2' w ht2 hH2 b cs hb hk
  exact ⟨w',fr,v,v',n,G,hst.trans h1,h2⟩
theorem Cfg.same {todo todo2 : List Item} {t : Array Value} {H : List Blk} {R : Value → List Blk → Prop}
    (hs : ∀ (t' : Array Value) (w : World) (b : Frame) (cs : List Frame),step P (lone (b.at (act t') todo) cs w) = .next (lone (b.at (act t') todo2) cs w))
    (h : Cfg P f todo2 t H R) : Cfg P f todo t H R:=
  Cfg.onward (fun _ t' w ht hH b cs=>⟨t',ht,hH,.one (hs t' w b cs)⟩) h
def resS (t' : Array Value) (rv : ResultVar) : Sem Value:=
  match rv with
  | .tmp i=>pure (t'.getD i undef)
  | .cell a T=>do loadVar T (← asAddr (t'.getD a undef))
theorem results_eq (fn : Func) (t' : Array Value) : results fn t' = (fn.results.mapM (resS t') >>= fun vs=>pure (if h : vs.size = 1 then vs[0] else .tuple vs)):=by
  unfold results
  congr 1
theorem resA_run {m : List Nat} {t t' : Array Value} {H : List Blk} {w : World} (ht : RA m t t') (hH : RH m H w) {rv : ResultVar} {v : Value} (h : resA P t H rv = some v) :
    ∃ v',(resS t' rv).run P w = .ok v' w ∧ VR m v v':=by
  cases rv with
  | tmp i=>simp only [resA,Option.some.injEq] at h; subst h; exact ⟨_,rfl,ht.getD i⟩
  | cell a T=>
    simp only [resA] at h
    obtain ⟨v',hr,hv⟩:=loadA_run hH (ht.getD a) h
    refine ⟨v',?_,hv⟩
    unfold resS
    simp only
    generalize t'.getD a undef = q at hr ⊢
    unfold Instr.loadAt Instr.sureAddr at hr
    cases q with
    | pointer x=>cases x with
      | none=>simp [stuck] at hr
      | some x=>simpa [asAddr] using hr
    | _=>simp [stuck] at hr
theorem mapM_run {m : List Nat} {t t' : Array Value} {H : List Blk} {w : World} (ht : RA m t t') (hH : RH m H w) : ∀ {l : List ResultVar} {vs : List Value},l.mapM (resA P t H) = some vs →
    ∃ vs',(l.mapM (resS t')).run P w = .ok vs' w ∧ vs'.length = vs.length ∧ ∀ (i : Nat) (v v' : Value),vs[i]? = some v → vs'[i]? = some v' → VR m v v':=by
  intro l
  induction l with
  | nil=>intro vs h; simp at h; subst h; exact ⟨[],rfl,rfl,fun i v v' h1=>by simp at h1⟩
  | cons x l ih=>
    intro vs h
    simp only [List.mapM_cons,Option.bind_eq_bind,Option.bind_eq_some_iff,Option.pure_def,Option.some.injEq] at h
    obtain ⟨v,hv,us,hus,rfl⟩:=h
    obtain ⟨v',hr,hvr⟩:=resA_run ht hH hv
    obtain ⟨us',hr2,hl,hus'⟩:=ih hus
    refine ⟨v' :: us',?_,by simp [hl],fun i u u' h1 h2=>?_⟩
    · simp only [List.mapM_cons,Sem.run_bind,hr,Result.andThen_ok,hr2]; rfl
    · cases i with
      | zero=>simp at h1 h2; subst h1; subst h2; exact hvr
      | succ i=>simp at h1 h2; exact hus' i u u' h1 h2
theorem retA_run {m : List Nat} {t t' : Array Value} {H : List Blk} {w : World} (ht : RA m t t') (hH : RH m H w) {R : Value → List Blk → Prop} (h : Run P f R (retA P fn t H)) :
    ∃ v v',(results fn t').run P w = .ok v' w ∧ VR m v v' ∧ R v H:=by
  unfold retA at h
  have key : ∀ vs,fn.results.toList.mapM (resA P t H) = some vs → ∃ vs' : List Value,(results fn t').run P w = .ok (if h : vs'.toArray.size = 1 then vs'.toArray[0] else .tuple vs'.toArray) w ∧ vs'.length = vs.length ∧ ∀ (i : Nat) (v v' : Value),vs[i]? = some v → vs'[i]? = some v' → VR m v v':=fun vs hvs=>by
    obtain ⟨vs',hr,hl,hv⟩:=mapM_run ht hH hvs
    refine ⟨vs',?_,hl,hv⟩
    rw [results_eq,Array.mapM_eq_mapM_toList]
    simp only [Sem.run_bind,Sem.run_map,hr,Result.andThen_ok]
    rfl
  split at h
  · rename_i u hu
    obtain ⟨vs',hr,hl,hv⟩:=key _ hu
    cases h with | ret _ _ hR=>?_
    have : ∃ u',vs' = [u']:=by
      cases vs' with
      | nil=>simp at hl
      | cons a l=>cases l with
        | nil=>exact ⟨a,rfl⟩
        | cons b l=>simp at hl
    obtain ⟨u',rfl⟩:=this
    exact ⟨u,u',by simpa using hr,hv 0 _ _ rfl rfl,hR⟩
  · rename_i us hne hus
    obtain ⟨vs',hr,hl,hv⟩:=key _ hus
    cases h with | ret _ _ hR=>?_
    have hn1 : vs'.toArray.size ≠ 1:=by
      intro e
      have e1 : us.length = 1:=by rw [← hl]; simpa using e
      obtain ⟨u,rfl⟩:=List.length_eq_one_iff.1 e1
      exact hne u rfl
    refine ⟨.tuple us.toArray,.tuple vs'.toArray,by rw [hr,dif_neg hn1],.tuple _ _ (by simp [hl]) fun i v v' h1 h2=>hv i v v' (by simpa using h1) (by simpa using h2),hR⟩
  · exact (run_fail h).elim
theorem Cfg.of_leave {todo : List Item} {t : Array Value} {H : List Blk} {R : Value → List Blk → Prop} (hf : P.funcs[f]? = some fn)
    (hs : ∀ (t' : Array Value) (w : World) (b : Frame) (cs : List Frame),∃ td,step P (lone (b.at (act t') todo) cs w) = .next (lone { b.at (act t') td with mode:=.returning } cs w))
    (h : Run P f R (retA P fn t H)) : Cfg P f todo t H R:=by
  intro m t' w ht hH b cs hb hk
  obtain ⟨v,v',hr,hv,hR⟩:=retA_run ht hH h
  obtain ⟨td,hst⟩:=hs t' w b cs
  exact ⟨w,{ b.at (act t') td with mode:=.returning },v,v',[],H,.one hst,hb,⟨rfl,rfl,hk,fn,by rw [← hb] at hf; exact hf,hr⟩,by simpa using hv,by simpa using hH,by simp,Kept.refl _ _,hR⟩
theorem exec_cfg (hE : EqsOk P E) (hm : P.follows .mixedOrders = true) (hf : P.funcs[f]? = some fn) : ∀ (k : Nat) (todo : List Item) (t : Array Value) (H : List Blk) (R : Value → List Blk → Prop),
    Run P f R (exec P E fn k todo t H) → Cfg P f todo t H R:=by
  intro k
  induction k with
  | zero=>intro todo t H R h; exact (run_fail h).elim
  | succ k ih=>
    intro todo t H R h
    have cond_ : ∀ (d : Tmp) (x y : Code) (r : List Item) (b : Bool),t[d]? = some (.bool b) → Cfg P f (.code (if b then x else y) :: r) t H R → Cfg P f (.code (.cond (.tmp d) x y) :: r) t H R:=fun d x y r b hd h2=>
      Cfg.onward (fun m t' w ht hH fr cs=>⟨t',ht,hH,.one (step_cond (by
        have:=ht.getD d
        rw [show t.getD d undef = .bool b by simp [Array.getD_eq_getD_getElem?,hd]] at this
        exact this.eq_of_flat rfl))⟩) h2
    unfold exec at h
    split at h
    case h_1 h0=>cases h0
    case h_2=>exact Cfg.of_leave hf (fun _ _ _ _=>⟨_,step_end⟩) h
    case h_3=>exact Cfg.of_leave hf (fun _ _ _ _=>⟨_,step_ret⟩) h
    case h_4 k' r h0=>cases h0; exact Cfg.same (fun _ _ _ _=>step_skip) (ih _ _ _ _ h)
    case h_5 k' l r h0=>cases h0; exact Cfg.same (fun _ _ _ _=>step_label) (ih _ _ _ _ h)
    case h_6 k' id r h0=>cases h0; exact Cfg.same (fun _ _ _ _=>step_inBlock) (ih _ _ _ _ h)
    case h_7 k' a b r h0=>cases h0; exact Cfg.same (fun _ _ _ _=>step_seq) (ih _ _ _ _ h)
    case h_8 k' d x y r h0=>
      cases h0
      split at h
      · rename_i b hd
        refine cond_ d x y r b hd ?_
        have h2:=run_ite h
        cases b with
        | true=>simp only [if_true,set_self hd] at h2; exact ih _ _ _ _ h2
        | false=>simp only [Bool.false_eq_true,if_false,set_self hd] at h2; exact ih _ _ _ _ h2
      · exact (run_fail h).elim
    case h_9 k' b x y r h0=>cases h0; exact Cfg.same (fun _ _ _ _=>step_cond rfl) (ih _ _ _ _ h)
    case h_10 k' id body r h0=>cases h0; exact Cfg.same (fun _ _ _ _=>step_block) (ih _ _ _ _ h)
    case h_11 k' body r h0=>
      cases h with
      | head _ _ _ h=>exact Cfg.same (fun _ _ _ _=>step_loop) h
    case h_12 k' body r h0=>
      cases h with
      | head _ _ _ h=>exact Cfg.same (fun _ _ _ _=>step_inLoop) h
    case h_13 k' id r h0=>
      cases h0
      split at h
      · rename_i r' hr
        exact Cfg.same (fun _ _ _ _=>step_exit hr) (ih _ _ _ _ h)
      · exact (run_fail h).elim
    case h_14 k' id ops draw r h0=>
      cases h0
      split at h
      · cases h with
        | head _ _ _ h=>exact h
      intro m t' w ht hH b cs hb hk
      obtain ⟨e,a',w1,⟨rfl,n,t2,t2',H2,rfl,ht2,hH2,hn,hk2,h2⟩,harr⟩:=regionO_run (id:=id) hE hm ht hH h b r cs
      have harr' : Steps P (lone (b.at (act t') (.code (.region id ops draw) :: r)) cs w) (lone (b.at (act t2') r) cs w1):=harr
      obtain ⟨w',fr,v,v',n',G,h3,h4,h5,h6,h7,h8,h9,h10⟩:=ih _ _ _ _ h2 (m ++ n) t2' w1 ht2 hH2 b cs hb hk
      refine ⟨w',fr,v,v',n ++ n',G,harr'.trans h3,h4,h5,by rw [← List.append_assoc]; exact h6,by rw [← List.append_assoc]; exact h7,fun j hj=>?_,hk2.trans h9 hn,h10⟩
      rcases List.mem_append.1 hj with hj | hj
      · exact hn j hj
      · exact Nat.le_trans hk2.size (h8 j hj)
    case h_15=>exact (run_fail h).elim
theorem Fun.of_cfg {c : Code} {H : List Blk} {args : Array Value} {R : Value → List Blk → Prop} (hf : P.funcs[f]? = some fn) (hb : fn.body = some c) (hn : (fn.name == "runtime.NumGoroutine") = false)
    (h : Cfg P f [.code c] (args ++ Array.replicate (fn.ntmps - args.size) undef) H R) : Callable P f ∧ ∀ (m : List Nat) (args' : Array Value) (w : World),RA m args args' → RH m H w →
      Calls P f args' w fun e w'=>∃ v v' n G,e = .returned v' ∧ VR (m ++ n) v v' ∧ RH (m ++ n) G w' ∧ (∀ j ∈ n,w.heap.size ≤ j) ∧ Kept m w w' ∧ R v G:=by
  refine ⟨⟨fn,hf,hn,by rw [hb]; rfl⟩,fun m args' w ha hH cs=>?_⟩
  let b : Frame:={ (default : Frame) with fn:=f,kind:=.normal }
  have henter : Frame.enter P f args' .normal = b.at (act (args' ++ Array.replicate (fn.ntmps - args'.size) undef)) [.code c]:=by
    simp [Frame.enter,Frame.at,hf,hb,b,act]
  have ht : RA m (args ++ Array.replicate (fn.ntmps - args.size) undef) (args' ++ Array.replicate (fn.ntmps - args'.size) undef):=by
    have hs:=ha.size
    refine ⟨by simp; omega,fun i v v' h1 h2=>?_⟩
    rw [Array.getElem?_append] at h1 h2
    by_cases hi : i < args.size
    · rw [if_pos hi] at h1
      rw [if_pos (by omega)] at h2
      exact ha.at_ i v v' h1 h2
    · rw [if_neg hi,Array.getElem?_replicate] at h1
      rw [if_neg (by omega),Array.getElem?_replicate] at h2
      split at h1
      · rw [if_pos (by omega)] at h2
        cases h1; cases h2
        exact VR.undef m
      · cases h1
  obtain ⟨w',fr,v,v',n,G,h1,h2,h3,h4,h5,h6,h7,h8⟩:=h m _ w ht hH b cs rfl rfl
  rw [← henter] at h1
  exact ⟨.returned v',w',fr,⟨v,v',n,G,rfl,h4,h5,h6,h7,h8⟩,h1,h2,h3⟩
theorem Fun.drop {H : List Blk} {args : Array Value} {v : Value} {X : List Blk} (h : Fun P f H args v (H ++ X)) (hv : flat v = true) : Fun P f H args v H:=by
  refine ⟨h.1,fun m args' w ha hH=>(h.2 m args' w ha hH).mono ?_⟩
  rintro e w' ⟨v',n,rfl,h1,h2,h3,h4⟩
  refine ⟨v',[],rfl,by rw [h1.eq_of_flat hv]; exact VR.refl_of_flat _ hv,?_,by simp,h4⟩
  rw [List.append_nil]
  refine ⟨hH.len,hH.nodup,fun i j b hj hb=>?_⟩
  obtain ⟨cs,hc,hr⟩:=hH.blk i j b hj hb
  obtain ⟨cs',hc',hr'⟩:=h2.blk i j b (by rw [List.getElem?_append_left (List.getElem?_eq_some_iff.1 hj).1]; exact hj) (by rw [List.getElem?_append_left (List.getElem?_eq_some_iff.1 hb).1]; exact hb)
  have e : cs = cs':=by
    have q:=VR.fn (VR.mk_agg (hr.mono n)) (VR.mk_agg hr')
    injection q
  exact ⟨cs',hc',e ▸ hr⟩
end
def T.retOf : T → Option Value
  | .ret v _=>some v
  | _=>none
def T.heapOf : T → List Blk
  | .ret _ H=>H
  | _=>[]
def T.cond : T → Option Bool
  | .ite c _ _=>some c
  | _=>none
def T.yes : T → T
  | .ite _ a _=>a
  | _=>.fail
def T.no : T → T
  | .ite _ _ b=>b
  | _=>.fail
def T.conds : T → List Bool → Option (List Bool)
  | _,[]=>some []
  | .ite c a b,x :: l=>((_root_.cond x a b).conds l).map (c :: ·)
  | _,_=>none
def T.path : T → List Bool → T
  | t,[]=>t
  | .ite _ a b,x :: l=>(_root_.cond x a b).path l
  | _,_=>.fail
def T.callOf : T → Option (FuncId × Array Value)
  | .call f a _ _=>some (f,a)
  | .qcall f a _ _=>some (f,a)
  | _=>none
def T.seen : T → List Nat → Option (List Blk)
  | .call _ _ H _,sel=>sel.mapM (fun i=>H[i]?)
  | .qcall _ _ H _,sel=>sel.mapM (fun i=>H[i]?)
  | _,_=>none
def T.after : T → Value → T
  | .call _ _ H k,u=>k u H
  | .qcall _ _ _ k,u=>k u
  | _,_=>.fail
def T.made : T → Value → List Blk → T
  | .call _ _ H k,u,X=>k (shiftV H.length u) (H ++ X)
  | _,_,_=>.fail
def T.sawB : T → List Nat → Option (List Blk)
  | .call _ _ H _,sel=>sel.mapM (fun i=>H[i]?)
  | _,_=>none
def T.turned : T → List Nat → List Nat → Value → List Blk → T
  | .call _ _ H k,zs,xs,u,X=>k (renU (backF (zs ++ xs) H.length) u) (merge H zs xs X)
  | _,_,_,_,_=>.fail
def T.optOf : T → Option (Option Value)
  | .opt x _=>some x
  | _=>none
def T.got : T → Value → T
  | .opt _ k,v=>k v
  | _,_=>.fail
def T.isQ : T → Bool
  | .qcall ..=>true
  | _=>false
def T.isCall : T → Bool
  | .call ..=>true
  | _=>false
def Rv (v : Value) : Value → List Blk → Prop:=fun v' _=>v' = v
def RvH (H : List Blk) (v : Value) : Value → List Blk → Prop:=fun v' G=>v' = v ∧ ∃ X,G = H ++ X
section
variable {P : Program} {E : Eqs} {f : FuncId} {fn : Func} {tr : T} {v : Value} {R : Value → List Blk → Prop}
theorem Run.r (h : tr.retOf = some v) (hR : R v tr.heapOf) : Run P f R tr:=by
  cases tr <;> simp [T.retOf] at h
  subst h
  exact .ret _ _ hR
theorem Run.rv (h : tr.retOf = some v) : Run P f (Rv v) tr:=Run.r h rfl
theorem Run.rh {H : List Blk} {k : Nat} (h : tr.retOf = some v) (hk : tr.heapOf.take k = H) : Run P f (RvH H v) tr:=Run.r h ⟨rfl,tr.heapOf.drop k,by rw [← hk,List.take_append_drop]⟩
theorem Run.i {c : Bool} (h : tr.cond = some c) (ha : c = true → Run P f R tr.yes) (hb : c = false → Run P f R tr.no) : Run P f R tr:=by
  cases tr <;> simp [T.cond] at h
  subst h
  exact .ite _ _ _ ha hb
theorem Run.p : ∀ {tr : T} (l : List Bool),tr.conds l = some l → Run P f R (tr.path l) → Run P f R tr
  | _,[],_,hk=>hk
  | .ite c a b,x :: l,h,hk=>by
    simp only [T.conds,Option.map_eq_some_iff,List.cons.injEq] at h
    obtain ⟨l',h1,rfl,rfl⟩:=h
    simp only [T.path] at hk
    have h2:=Run.p l' h1 hk
    cases c
    · exact .ite _ _ _ (fun e=>by cases e) (fun _=>h2)
    · exact .ite _ _ _ (fun _=>h2) (fun e=>by cases e)
  | .ret ..,_ :: _,h,_=>by simp [T.conds] at h
  | .head ..,_ :: _,h,_=>by simp [T.conds] at h
  | .call ..,_ :: _,h,_=>by simp [T.conds] at h
  | .qcall ..,_ :: _,h,_=>by simp [T.conds] at h
  | .opt ..,_ :: _,h,_=>by simp [T.conds] at h
  | .fail,_ :: _,h,_=>by simp [T.conds] at h
  | .both ..,_ :: _,h,_=>by simp [T.conds] at h
theorem Run.t (h : tr.cond = some true) (ha : Run P f R tr.yes) : Run P f R tr:=Run.i h (fun _=>ha) (fun e=>by cases e)
theorem Run.n (h : tr.cond = some false) (ha : Run P f R tr.no) : Run P f R tr:=Run.i h (fun e=>by cases e) (fun _=>ha)
theorem Run.s {g : FuncId} {args : Array Value} {u : Value} (sel : List Nat) (H0 : List Blk) (h : tr.callOf = some (g,(args.toList.map (renum sel)).toArray)) (hs : tr.seen sel = some H0) (hc : H0.all (fun b=>b.1.toList.all flat) = true) (hn : sel.Nodup)
    (ho : args.toList.all (argOk sel.length) = true) (hF : Fun P g H0 args u H0) (hu : flat u = true) (hk : Run P f R (tr.after u)) : Run P f R tr:=by
  cases tr <;> simp [T.callOf] at h
  · obtain ⟨rfl,rfl⟩:=h
    exact .call _ sel H0 args _ _ u hF hu hs hc hn ho hk
  · obtain ⟨rfl,rfl⟩:=h
    exact .qcall _ sel H0 args _ _ u hF hu hs hc hn ho hk
theorem renum_flat (v : Value) (h : flat v = true) : renum [] v = v:=by
  cases v with
  | pointer a=>cases a with
    | none=>rfl
    | some a=>simp [flat,flat1] at h
  | slice a l c=>cases a with
    | none=>rfl
    | some a=>simp [flat,flat1] at h
  | func fn a c=>
    simp only [flat,Bool.and_eq_true,beq_iff_eq] at h
    have : c = #[]:=Array.eq_empty_of_size_eq_zero h.2
    subst this
    rfl
  | _=>rfl
theorem argOk_flat (v : Value) (h : flat v = true) : argOk 0 v = true:=by
  cases v with
  | pointer a=>cases a with
    | none=>rfl
    | some a=>simp [flat,flat1] at h
  | slice a l c=>cases a with
    | none=>rfl
    | some a=>simp [flat,flat1] at h
  | func fn a c=>
    simp only [flat,Bool.and_eq_true,beq_iff_eq] at h
    have : c = #[]:=Array.eq_empty_of_size_eq_zero h.2
    subst this
    simp [argOk,h.1]
  | _=>exact h
theorem Run.c {g : FuncId} {args : Array Value} {u : Value} (h : tr.callOf = some (g,args)) (ho : args.toList.all flat = true) (hF : Fun P g [] args u []) (hu : flat u = true) (hk : Run P f R (tr.after u)) : Run P f R tr:=by
  have e : (args.toList.map (renum [])).toArray = args:=by
    rw [List.map_congr_left (g:=id) (fun v hv=>renum_flat v (List.all_eq_true.1 ho v hv))]
    simp
  refine Run.s [] [] (by rw [e]; exact h) ?_ rfl List.nodup_nil (List.all_eq_true.2 fun v hv=>argOk_flat v (List.all_eq_true.1 ho v hv)) hF hu hk
  cases tr <;> simp [T.callOf] at h <;> rfl
theorem Run.ld {x : Option Value} {v : Value} (h0 : tr.optOf = some x) (h : x = some v) (hk : Run P f R (tr.got v)) : Run P f R tr:=by
  cases tr <;> simp [T.optOf] at h0
  subst h0
  exact .opt _ _ v h hk
def T.left : T → T
  | .both a _=>a
  | _=>.fail
def T.right : T → T
  | .both _ b=>b
  | _=>.fail
def T.isBoth : T → Bool
  | .both ..=>true
  | _=>false
theorem Run.o (h : tr.isBoth = true) (ha : Run P f R tr.left) (hb : Run P f R tr.right) : Run P f R tr:=by
  cases tr <;> simp [T.isBoth] at h
  exact .both _ _ ha hb
theorem Run.m {g : FuncId} {args : Array Value} {u : Value} {X : List Blk} (h : tr.callOf = some (g,args)) (hc : tr.isCall = true) (hF : Fun P g [] args u X) (hu : newOk u = true) (hX : X.all (fun b=>b.1.toList.all calm) = true) (ho : args.toList.all flat = true)
    (hk : Run P f R (tr.made u X)) : Run P f R tr:=by
  cases tr <;> simp [T.callOf] at h <;> simp [T.isCall] at hc
  obtain ⟨rfl,rfl⟩:=h
  exact .new _ _ _ _ _ hF.toR (by rintro _ _ ⟨rfl,rfl⟩; exact ⟨hu,hX⟩) ho (by rintro _ _ ⟨rfl,rfl⟩; exact hk)
theorem Run.mr {g : FuncId} {args : Array Value} {S : Value → List Blk → Prop} (h : tr.callOf = some (g,args)) (hc : tr.isCall = true) (hF : FunR P g [] args S) (hS : ∀ u X,S u X → newOk u = true ∧ X.all (fun b=>b.1.toList.all calm) = true) (ho : args.toList.all flat = true)
    (hk : ∀ u X,S u X → Run P f R (tr.made u X)) : Run P f R tr:=by
  cases tr <;> simp [T.callOf] at h <;> simp [T.isCall] at hc
  obtain ⟨rfl,rfl⟩:=h
  exact .new _ _ _ _ S hF hS ho hk
theorem Run.b {α β : Type} {e : α → Value} {x : α} {φ : α → β} {gv : β → Value} {g : FuncId} {args : Array Value} (h : tr.callOf = some (g,args)) (ho : args.toList.all flat = true) (hF : Fun P g [] args (e x) []) (hu : ∀ r,flat (e r) = true)
    (hk : ∀ r : α,Run P f (Rv (gv (φ r))) (tr.after (e r))) : Run P f (Rv (gv (bindP x φ))) tr:=Run.c h ho hF (hu x) (hk x)
theorem Run.j {β : Type} {c : Bool} {x y : β} {gv : β → Value} (h : tr.cond = some c) (ha : Run P f (Rv (gv x)) tr.yes) (hb : Run P f (Rv (gv y)) tr.no) : Run P f (Rv (gv (cond c x y))) tr:=by
  cases c
  · exact Run.n h hb
  · exact Run.t h ha
def start (P : Program) (E : Eqs) (fn : Func) (k : Nat) (H : List Blk) (args : Array Value) : T:=
  match fn.body with
  | some c=>exec P E fn k [.code c] (args ++ Array.replicate (fn.ntmps - args.size) undef) H
  | none=>.fail
theorem start_cfg {H : List Blk} {args : Array Value} (k : Nat) (hE : EqsOk P E) (hm : P.follows .mixedOrders = true) (hf : P.funcs[f]? = some fn) (hn : (fn.name == "runtime.NumGoroutine") = false)
    (h : Run P f R (start P E fn k H args)) : Callable P f ∧ ∀ (m : List Nat) (args' : Array Value) (w : World),RA m args args' → RH m H w →
      Calls P f args' w fun e w'=>∃ v v' n G,e = .returned v' ∧ VR (m ++ n) v v' ∧ RH (m ++ n) G w' ∧ (∀ j ∈ n,w.heap.size ≤ j) ∧ Kept m w w' ∧ R v G:=by
  unfold start at h
  cases hb : fn.body with
  | none=>simp only [hb] at h; exact (run_fail h).elim
  | some c=>
    simp only [hb] at h
    exact Fun.of_cfg hf hb hn (exec_cfg hE hm hf k _ _ _ _ h)
theorem Fun.ofH {H : List Blk} {args : Array Value} (k : Nat) (hE : EqsOk P E) (hm : P.follows .mixedOrders = true) (hf : P.funcs[f]? = some fn) (hn : (fn.name == "runtime.NumGoroutine") = false) (hv : flat v = true)
    (h : Run P f (RvH H v) (start P E fn k H args)) : Fun P f H args v H:=by
  obtain ⟨h1,h2⟩:=start_cfg k hE hm hf hn h
  refine ⟨h1,fun m args' w ha hH=>(h2 m args' w ha hH).mono ?_⟩
  rintro e w' ⟨v2,v',n,G,rfl,k1,k2,k3,k4,rfl,X,rfl⟩
  refine ⟨v',[],rfl,by rw [k1.eq_of_flat hv]; exact VR.refl_of_flat _ hv,?_,by simp,k4⟩
  rw [List.append_nil]
  refine ⟨hH.len,hH.nodup,fun i j b hj hb=>?_⟩
  obtain ⟨cs,hc,hr⟩:=hH.blk i j b hj hb
  obtain ⟨cs',hc',hr'⟩:=k2.blk i j b (by rw [List.getElem?_append_left (List.getElem?_eq_some_iff.1 hj).1]; exact hj) (by rw [List.getElem?_append_left (List.getElem?_eq_some_iff.1 hb).1]; exact hb)
  have e : cs = cs':=by
    have q:=VR.fn (VR.mk_agg (hr.mono n)) (VR.mk_agg hr')
    injection q
  exact ⟨cs',hc',e ▸ hr⟩
theorem Fun.of {args : Array Value} (k : Nat) (hE : EqsOk P E) (hm : P.follows .mixedOrders = true) (hf : P.funcs[f]? = some fn) (hn : (fn.name == "runtime.NumGoroutine") = false) (hv : flat v = true)
    (h : Run P f (Rv v) (start P E fn k [] args)) : Fun P f [] args v []:=by
  obtain ⟨h1,h2⟩:=start_cfg k hE hm hf hn h
  refine ⟨h1,fun m args' w ha hH=>(h2 m args' w ha hH).mono ?_⟩
  rintro e w' ⟨v2,v',n,G,rfl,k1,k2,k3,k4,rfl⟩
  refine ⟨v',[],rfl,by rw [k1.eq_of_flat hv]; exact VR.refl_of_flat _ hv,?_,by simp,k4⟩
  have hm : m = []:=List.length_eq_zero_iff.1 hH.len
  subst hm
  exact RH.nil _
theorem FunR.of {S : Value → List Blk → Prop} {H : List Blk} {args : Array Value} (k : Nat) (hE : EqsOk P E) (hm : P.follows .mixedOrders = true) (hf : P.funcs[f]? = some fn) (hn : (fn.name == "runtime.NumGoroutine") = false)
    (h : Run P f S (start P E fn k H args)) : FunR P f H args S:=start_cfg k hE hm hf hn h
def T.todoOf : T → List Item
  | .head td _ _=>td
  | _=>[]
def T.tmpsOf : T → Array Value
  | .head _ t _=>t
  | _=>#[]
def T.blksOf : T → List Blk
  | .head _ _ H=>H
  | _=>[]
def T.isHead : T → Bool
  | .head ..=>true
  | _=>false
def T.go (P : Program) (E : Eqs) (fn : Func) (k : Nat) : T → T
  | .head td t H=>exec P E fn k td t H
  | _=>.fail
theorem Run.h {td : List Item} {t : Array Value} {H : List Blk} (h0 : tr.isHead = true) (h1 : tr.todoOf = td) (h2 : tr.tmpsOf = t) (h3 : tr.blksOf = H) (h : Cfg P f td t H R) : Run P f R tr:=by
  cases tr <;> simp [T.isHead] at h0
  simp only [T.todoOf,T.tmpsOf,T.blksOf] at h1 h2 h3
  subst h1; subst h2; subst h3
  exact .head _ _ _ h
theorem Run.u (k : Nat) (hE : EqsOk P E) (hm : P.follows .mixedOrders = true) (hf : P.funcs[f]? = some fn) (h : Run P f R (tr.go P E fn k)) : Run P f R tr:=by
  cases tr with
  | head td t H=>exact .head _ _ _ (exec_cfg hE hm hf k _ _ _ _ h)
  | _=>exact (run_fail h).elim
end
end Go.Proofs.YtfhnlkinjbakgaaGreat.Abs
