/- The abstract machine, third part: one operation, in whatever world holds the given blocks. -/
import Derived.Test.YtfhnlkinjbakgaaGreatMsAbs2
namespace Go.Proofs.YtfhnlkinjbakgaaGreat.Abs
open Go Go.RowKit
def ev (t : Array Value) : Operand → Option Value
  | .tmp i=>some (t.getD i undef)
  | .const v=>if flat v then some v else none
  | .func f=>some (.func (.func f) #[] #[])
  | .global _=>none
def act (t : Array Value) : Act:=⟨t,[]⟩
theorem RA.getD {m : List Nat} {t t' : Array Value} (h : RA m t t') (i : Nat) : VR m (t.getD i undef) (t'.getD i undef):=by
  by_cases hi : i < t.size
  · have hi' : i < t'.size:=h.size ▸ hi
    have:=h.at_ i _ _ (Array.getElem?_eq_getElem hi) (Array.getElem?_eq_getElem hi')
    simpa [Array.getD,hi,hi'] using this
  · have hi' : ¬ i < t'.size:=h.size ▸ hi
    simpa [Array.getD,hi,hi'] using VR.undef m
theorem ev_rel {m : List Nat} {t t' : Array Value} (h : RA m t t') {x : Operand} {v : Value} (hx : ev t x = some v) : VR m v ((act t').eval x):=by
  cases x with
  | tmp i=>simp only [ev,Option.some.injEq] at hx; subst hx; exact h.getD i
  | const u=>
    simp only [ev] at hx
    split at hx
    · rename_i hf; simp only [Option.some.injEq] at hx; subst hx; exact VR.refl_of_flat m hf
    · cases hx
  | func f=>simp only [ev,Option.some.injEq] at hx; subst hx; exact VR.refl_of_flat m (by rfl)
  | global g=>simp [ev] at hx
theorem ev_eval {t : Array Value} {x : Operand} {v : Value} (hx : ev t x = some v) : (act t).eval x = v:=by
  cases x with
  | tmp i=>simp only [ev,Option.some.injEq] at hx; exact hx
  | const u=>
    simp only [ev] at hx
    split at hx
    · simp only [Option.some.injEq] at hx; exact hx
    · cases hx
  | func f=>simp only [ev,Option.some.injEq] at hx; exact hx
  | global g=>simp [ev] at hx
inductive AR where
  | val (v : Value)
  | mem (v : Value) (H : List Blk)
  | pick (c : Bool) (a b : Value)
  | chk (c : Bool) (v : Value)
  | opt (x : Option Value)
  | enter (f : FuncId) (args : Array Value)
  | bad
structure Eqs where
  eq : TypeId → Value → Value → Option Bool
  ext : FuncId → Array Value → Option (Bool × Value)
structure EqsOk (P : Program) (E : Eqs) : Prop where
  eq : ∀ T x y b,E.eq T x y = some b → ∀ (ox oy : Operand) (w : World),
    (do eqGuard .eql T ox oy x y; binOp .eql T x y : Sem Value).run P w = .ok (.bool b) w ∧
    (do eqGuard .neq T ox oy x y; binOp .neq T x y : Sem Value).run P w = .ok (.bool (!b)) w
  ext : ∀ g args c v,E.ext g args = some (c,v) → c = true → ∀ w,(callFunc g args).run P w = .ok (.value v) w
def evs (t : Array Value) (l : List Operand) : Option (List Value):=l.mapM (ev t)
def pureOk (o : Oper) (t : Array Value) : Bool:=
  (o.op.operands.toList.all fun x=>match ev t x with | some v=>flat v | none=>false) && (match o.op with | .select ..=>false | _=>true)
def pureV (P : Program) (o : Oper) (t : Array Value) : AR:=
  match prun P (execOp (act t).eval o) with
  | some (.value v)=>cond (flat v) (.val v) .bad
  | _=>.bad
def pureA (P : Program) (o : Oper) (t : Array Value) : AR:=cond (pureOk o t) (pureV P o t) .bad
def binA (P : Program) (E : Eqs) (o : Oper) (t : Array Value) (op : BinOp) (T : TypeId) (x y : Operand) : AR:=
  match op with
  | .quo=>match ev t x,ev t y with
    | some (.int k a),some (.int k' b)=>if k = k' then .chk (decide (b ≠ 0)) (.int k (k.wrap (a.tdiv b))) else .bad
    | _,_=>.bad
  | .rem=>match ev t x,ev t y with
    | some (.int k a),some (.int k' b)=>if k = k' then .chk (decide (b ≠ 0)) (.int k (a.tmod b)) else .bad
    | _,_=>.bad
  | .shl=>match ev t x,ev t y with
    | some (.int k a),some (.int _ b)=>.chk (decide (0 ≤ b)) (.int k (k.wrap (a * 2 ^ (min b.toNat k.bits))))
    | _,_=>.bad
  | .shr=>match ev t x,ev t y with
    | some (.int k a),some (.int _ b)=>.chk (decide (0 ≤ b)) (.int k (a.fdiv (2 ^ (min b.toNat k.bits))))
    | _,_=>.bad
  | .eql=>match ev t x,ev t y with
    | some (.agg a),some (.agg b)=>match E.eq T (.agg a) (.agg b) with
      | some r=>if flat (.agg a) && flat (.agg b) then .val (.bool r) else .bad
      | none=>.bad
    | _,_=>pureA P o t
  | .neq=>match ev t x,ev t y with
    | some (.agg a),some (.agg b)=>match E.eq T (.agg a) (.agg b) with
      | some r=>if flat (.agg a) && flat (.agg b) then .val (.bool (!r)) else .bad
      | none=>.bad
    | _,_=>pureA P o t
  | _=>pureA P o t
def lenA (P : Program) (c : Call) (t : Array Value) : Option Value:=
  match c.callee,c.args.toList,c.argTypes.toList with
  | .builtin .len,[x],[T]=>
    match ev t x,P.underlying T with
    | some (.slice _ n _),some (.slice _)=>some (.int .i64 n)
    | _,_=>none
  | _,_,_=>none
def partsOk (t : Array Value) (parts : Array (Nat × Operand)) : Bool:=parts.toList.all fun p=>match ev t p.2 with | some v=>flat v | none=>false
def sliceCells (P : Program) (T : TypeId) (len : Nat) (parts : Array (Nat × Operand)) (t : Array Value) : Option (TypeId × Array Value):=
  match P.underlying T with
  | some (.slice e)=>
    match tsize P e,tzero P e with
    | some n,some z=>
      cond (partsOk t parts && decide (len * n ≤ 2 ^ 24))
        ((Instr.fill (fun i=>some (i * n,n)) ((Array.range (len * n)).map ((if len * n = 0 then #[] else z.cells)[· % (if len * n = 0 then #[] else z.cells).size]!)) (parts.map fun p=>(p.1,(act t).eval p.2)).toList).map fun cs=>(e,cs))
        none
    | _,_=>none
  | _=>none
def indexA (P : Program) (T : TypeId) (x i : Value) : Option (Bool × Value):=
  match i with
  | .int _ z=>
    match P.underlying T,x with
    | some (.slice e),.slice (some ⟨b,o,s⟩) l _=>(tsize P e).map fun n=>(decide (0 ≤ z ∧ z < l),.pointer (some ⟨b,o + z.toNat * n,s⟩))
    | some (.array l e),.pointer (some ⟨b,o,none⟩)=>(tsize P e).map fun n=>(decide (0 ≤ z ∧ z < l),.pointer (some ⟨b,o + z.toNat * n,none⟩))
    | _,_=>none
  | _=>none
def callA (E : Eqs) (g : FuncId) (args : Array Value) : AR:=
  match E.ext g args with
  | some (c,v)=>if args.toList.all flat && flat v then .chk c v else .bad
  | none=>.enter g args
theorem callA_cases (E : Eqs) (g : FuncId) (args : Array Value) : callA E g args = .enter g args ∨ (∃ c v,E.ext g args = some (c,v) ∧ args.toList.all flat = true ∧ flat v = true ∧ callA E g args = .chk c v) ∨ callA E g args = .bad:=by
  unfold callA
  split
  · rename_i c v h
    by_cases q : (args.toList.all flat && flat v) = true
    · rw [if_pos q]
      simp only [Bool.and_eq_true] at q
      exact .inr (.inl ⟨c,v,h,q.1,q.2,rfl⟩)
    · rw [if_neg q]; exact .inr (.inr rfl)
  · exact .inl rfl
def opA (P : Program) (E : Eqs) (o : Oper) (t : Array Value) (H : List Blk) : AR:=
  match o.op with
  | .move x | .assign x=>match ev t x with | some v=>.val v | none=>.bad
  | .pick c a b=>match ev t c,ev t a,ev t b with
    | some (.bool c),some a,some b=>.pick c a b
    | _,_,_=>.bad
  | .alloc T=>match tzero P T with
    | some z=>if z.cells.toList.all flat1 = true ∧ T < 1000000 then .mem (.pointer (some ⟨H.length,0,none⟩)) (H ++ [(z.cells,T)]) else .bad
    | none=>.bad
  | .box T x=>match ev t x with
    | some v=>if isRaw v = false ∧ T < 1000000 then .mem (.pointer (some ⟨H.length,0,none⟩)) (H ++ [(v.cells,T)]) else .bad
    | none=>.bad
  | .load T a=>match ev t a with
    | some (.pointer (some ⟨i,o,some _⟩))=>.opt (loadA P T (.pointer (some ⟨i,o,none⟩)) H)
    | some a=>match loadA P T a H with | some v=>.val v | none=>.bad
    | none=>.bad
  | .store T a x=>match ev t a,ev t x with
    | some a,some v=>match storeA P T a v H with | some G=>.mem undef G | none=>.bad
    | _,_=>.bad
  | .fieldAddr S x f=>match ev t x with
    | some (.pointer (some ⟨i,o,s⟩))=>match foff P S f with | some n=>.val (.pointer (some ⟨i,o + n,s⟩)) | none=>.bad
    | _=>.bad
  | .nilCheck x=>match ev t x with
    | some (.pointer (some a))=>.val (.pointer (some a))
    | some (.func (.func g) a c)=>.val (.func (.func g) a c)
    | _=>.bad
  | .extract x i=>match ev t x with
    | some (.tuple vs)=>match vs[i]? with | some v=>.val v | none=>.bad
    | _=>.bad
  | .makeFunc fn first captured=>match evs t first.toList,evs t captured.toList with
    | some a,some c=>.val (.func fn a.toArray c.toArray)
    | _,_=>.bad
  | .call c=>match c.callee with
    | .value g=>match ev t g,evs t c.args.toList with
      | some (.func (.func g) a cs),some args=>callA E g (a ++ args.toArray ++ cs)
      | _,_=>.bad
    | .builtin _=>match lenA P c t with | some v=>.val v | none=>pureA P o t
    | .invoke ..=>.bad
  | .buildSlice T len parts=>match sliceCells P T len parts t with
    | some (e,cs)=>if cs.toList.all flat1 = true ∧ e < 1000000 then .mem (.slice (some ⟨H.length,0,none⟩) len len) (H ++ [(cs,e)]) else .bad
    | none=>.bad
  | .indexAddr T x i=>match ev t x,ev t i with
    | some x,some i=>match indexA P T x i with | some (c,v)=>.chk c v | none=>.bad
    | _,_=>.bad
  | .binOp op T x y _=>binA P E o t op T x y
  | _=>pureA P o t
theorem evs_rel {m : List Nat} {t t' : Array Value} (h : RA m t t') : ∀ {l : List Operand} {vs : List Value},evs t l = some vs → RA m vs.toArray (l.map (act t').eval).toArray:=by
  intro l
  induction l with
  | nil=>intro vs hv; simp [evs] at hv; subst hv; exact ⟨rfl,fun i v v' h1=>by simp at h1⟩
  | cons x l ih=>
    intro vs hv
    simp only [evs,List.mapM_cons,Option.bind_eq_bind,Option.bind_eq_some_iff,Option.pure_def,Option.some.injEq] at hv
    obtain ⟨v,hx,us,hl,rfl⟩:=hv
    have ih':=ih hl
    refine ⟨by have:=ih'.size; simp at this ⊢; exact this,fun i u u' h1 h2=>?_⟩
    cases i with
    | zero=>simp at h1 h2; subst h1; subst h2; exact ev_rel h hx
    | succ i=>simp at h1 h2; exact ih'.at_ i u u' (by simpa using h1) (by simpa using h2)
section
variable {P : Program} {E : Eqs} {m : List Nat} {t t' : Array Value} {H : List Blk} {w : World} {o : Oper}
theorem pureA_run (ht : RA m t t') {v : Value} (h : pureA P o t = .val v) (w : World) :
    (execOp (act t').eval o).run P w = .ok (.value v) w ∧ flat v = true:=by
  unfold pureA at h
  cases hc : pureOk o t with
  | false=>rw [hc] at h; cases h
  | true=>
  rw [hc,cond_true] at h
  unfold pureOk at hc
  simp only [Bool.and_eq_true] at hc
  obtain ⟨hall,hsel⟩:=hc
  unfold pureV at h
  split at h
  case h_2=>cases h
  rename_i u hu
  cases hfl : flat u with
  | false=>rw [hfl] at h; cases h
  | true=>
  rw [hfl,cond_true] at h
  injection h with h
  subst h
  have he : execOp (act t').eval o = execOp (act t).eval o:=by
    refine execOp_congr o (fun cs b hs=>by simp [hs] at hsel) fun x hx=>?_
    have:=List.all_eq_true.1 hall x (by simpa using hx)
    cases hv : ev t x with
    | none=>simp [hv] at this
    | some v=>
      simp only [hv] at this
      rw [(ev_rel ht hv).eq_of_flat this,ev_eval hv]
  rw [he]
  exact ⟨prun_run hu w,hfl⟩
theorem pureA_ne (P : Program) (o : Oper) (t : Array Value) : (∃ v,pureA P o t = .val v) ∨ pureA P o t = .bad:=by
  unfold pureA pureV
  cases pureOk o t with
  | false=>exact .inr rfl
  | true=>
    rw [cond_true]
    split
    · rename_i v _
      cases flat v with
      | false=>exact .inr rfl
      | true=>exact .inl ⟨_,rfl⟩
    · exact .inr rfl
theorem lenA_run (ht : RA m t t') {c : Call} (ho : o.op = .call c) {v : Value} (h : lenA P c t = some v) (w : World) :
    (execOp (act t').eval o).run P w = .ok (.value v) w ∧ flat v = true:=by
  unfold lenA at h
  split at h
  case h_2=>cases h
  rename_i x T hc ha hT
  split at h
  case h_2=>cases h
  rename_i a n cap e hx hu
  simp only [Option.some.injEq] at h
  subst h
  obtain ⟨cal,as,ats⟩:=c
  obtain ⟨as⟩:=as
  obtain ⟨ats⟩:=ats
  simp only at hc ha hT
  subst hc; subst ha; subst hT
  have hv:=ev_rel ht hx
  generalize he : (act t').eval x = q at hv
  have hq : ∃ a' cap',q = .slice a' n cap':=by
    cases hv with
    | pl _ _=>exact ⟨_,_,rfl⟩
    | slice _ _ _ _ _ _ _=>exact ⟨_,_,rfl⟩
  obtain ⟨a',cap',rfl⟩:=hq
  refine ⟨?_,rfl⟩
  simp [execOp,ho,resolve,invoke,builtin,Builtin.len_,he,run_underlying hu w,goInt]
theorem sliceCells_run (ht : RA m t t') {T : TypeId} {len : Nat} {parts : Array (Nat × Operand)} (ho : o.op = .buildSlice T len parts) {e : TypeId} {cs : Array Value} (h : sliceCells P T len parts t = some (e,cs)) (w : World) :
    (execOp (act t').eval o).run P w = .ok (.value (.slice (some ⟨w.heap.size,0,none⟩) len len)) (w.alloc (.cells cs e)):=by
  unfold sliceCells at h
  split at h
  case h_2=>cases h
  rename_i e' hu
  split at h
  case h_2=>cases h
  rename_i n z hn hz
  cases hc0 : (partsOk t parts && decide (len * n ≤ 2 ^ 24)) with
  | false=>rw [hc0] at h; cases h
  | true=>
  rw [hc0,cond_true] at h
  have hc:=hc0
  simp only [Bool.and_eq_true,decide_eq_true_eq] at hc
  simp only [Option.map_eq_some_iff,Prod.mk.injEq] at h
  obtain ⟨cs',hf,h1,h2⟩:=h
  subst h1; subst h2
  have he : (parts.map fun p=>(p.1,(act t').eval p.2)) = parts.map fun p=>(p.1,(act t).eval p.2):=Array.map_congr_left fun p hp=>by
    have:=List.all_eq_true.1 hc.1 p (by simpa using hp)
    cases hv : ev t p.2 with
    | none=>simp [hv] at this
    | some v=>
      simp only [hv] at this
      rw [(ev_rel ht hv).eq_of_flat this,ev_eval hv]
  have hnot : ¬ len * n > 2 ^ 24:=by omega
  have hrun : (Instr.buildSlice T len (parts.map fun p=>(p.1,(act t').eval p.2))).run P w = .ok (.slice (some ⟨w.heap.size,0,none⟩) len len) (w.alloc (.cells cs' e')):=by
    rw [he]
    unfold Instr.buildSlice
    simp only [Sem.run_bind,run_underlying hu w,Result.andThen_ok,run_sizeOf hn w,hnot,if_false]
    by_cases h0 : len * n = 0
    · simp only [h0,if_true] at hf ⊢
      simp only [Sem.run_bind,Sem.run_pure,Result.andThen_ok,hf]
      rfl
    · simp only [h0,if_false] at hf ⊢
      simp only [Sem.run_bind,run_zeroValue hz w,Sem.run_pure,Result.andThen_ok,hf]
      rfl
  simp only [execOp,ho]
  rw [Sem.run_bind,hrun]
  rfl
theorem indexA_run {T : TypeId} {x i x' i' : Value} (hx : VR m x x') (hi : VR m i i') {c : Bool} {v : Value} (h : indexA P T x i = some (c,v)) (hc : c = true) (w : World) :
    ∃ v',(Instr.indexAt T x' i').run P w = .ok v' w ∧ VR m v v':=by
  unfold indexA at h
  split at h
  case h_2=>cases h
  rename_i k z
  have hi' : i' = .int k z:=hi.eq_of_flat rfl
  subst hi'
  split at h
  · rename_i e b off s l cap hu
    cases hn : tsize P e with
    | none=>simp [hn] at h
    | some n=>
      simp only [hn,Option.map_some,Option.some.injEq,Prod.mk.injEq] at h
      obtain ⟨h1,h2⟩:=h
      subst h2
      have hz : 0 ≤ z ∧ z < l:=by rw [hc] at h1; exact of_decide_eq_true h1
      cases hx with
      | pl _ h'=>simp [flat1] at h'
      | slice _ j _ _ _ _ hj=>
        refine ⟨_,?_,.ptr b j _ s hj⟩
        simp [Instr.indexAt,asIntOf,run_underlying hu w,run_sizeOf hn w,hz,add_off]
  · rename_i l e b off hu
    cases hn : tsize P e with
    | none=>simp [hn] at h
    | some n=>
      simp only [hn,Option.map_some,Option.some.injEq,Prod.mk.injEq] at h
      obtain ⟨h1,h2⟩:=h
      subst h2
      have hz : 0 ≤ z ∧ z < l:=by rw [hc] at h1; exact of_decide_eq_true h1
      cases hx with
      | pl _ h'=>simp [flat1] at h'
      | ptr _ j _ _ hj=>
        refine ⟨_,?_,.ptr b j _ none hj⟩
        simp [Instr.indexAt,asIntOf,run_underlying hu w,run_sizeOf hn w,hz,add_off,Instr.sureAddr]
  · cases h
theorem ev_int (ht : RA m t t') {x : Operand} {k : IntKind} {a : Int} (h : ev t x = some (.int k a)) : (act t').eval x = .int k a:=(ev_rel ht h).eq_of_flat rfl
theorem ev_bool (ht : RA m t t') {x : Operand} {b : Bool} (h : ev t x = some (.bool b)) : (act t').eval x = .bool b:=(ev_rel ht h).eq_of_flat rfl
theorem binA_val (ht : RA m t t') (hE : EqsOk P E) {op : BinOp} {T yT : TypeId} {x y : Operand} (ho : o.op = .binOp op T x y yT) {v : Value} (h : binA P E o t op T x y = .val v) (w : World) :
    (execOp (act t').eval o).run P w = .ok (.value v) w ∧ flat v = true:=by
  have agg : ∀ {z : Operand} {a : Array Value},ev t z = some (.agg a) → flat (.agg a) = true → (act t').eval z = .agg a:=fun hz hf=>(ev_rel ht hz).eq_of_flat hf
  unfold binA at h
  split at h
  all_goals try (exact pureA_run ht h w)
  all_goals split at h
  all_goals try (exact pureA_run ht h w)
  all_goals try (cases h; done)
  all_goals try (split at h <;> cases h; done)
  · rename_i a b hx hy
    split at h
    · rename_i r hr
      split at h
      · rename_i hf
        simp only [Bool.and_eq_true] at hf
        injection h with h
        subst h
        have:=(hE.eq T _ _ r hr x y w).1
        simp only [execOp,ho,agg hx hf.1,agg hy hf.2,Sem.run_bind,this]
        exact ⟨by simp,rfl⟩
      · cases h
    · cases h
  · rename_i a b hx hy
    split at h
    · rename_i r hr
      split at h
      · rename_i hf
        simp only [Bool.and_eq_true] at hf
        injection h with h
        subst h
        have:=(hE.eq T _ _ r hr x y w).2
        simp only [execOp,ho,agg hx hf.1,agg hy hf.2,Sem.run_bind,this]
        exact ⟨by simp,rfl⟩
      · cases h
    · cases h
theorem binA_chk (ht : RA m t t') {op : BinOp} {T yT : TypeId} {x y : Operand} (ho : o.op = .binOp op T x y yT) {c : Bool} {v : Value} (h : binA P E o t op T x y = .chk c v) (hc : c = true) (w : World) :
    (execOp (act t').eval o).run P w = .ok (.value v) w ∧ flat v = true:=by
  have np : ∀ {o : Oper},pureA P o t ≠ .chk c v:=fun {o} e=>by rcases pureA_ne P o t with ⟨u,hu⟩ | hu <;> rw [hu] at e <;> cases e
  unfold binA at h
  split at h
  all_goals try (exact absurd h np)
  all_goals split at h
  all_goals try (exact absurd h np)
  all_goals try (cases h; done)
  · rename_i k a k' b hx hy
    split at h
    · rename_i hk
      injection h with h1 h2
      subst hk; subst h2; subst h1
      have hb : b ≠ 0:=by simpa using hc
      exact ⟨by simp [execOp,ho,eqGuard,binOp,ev_int ht hx,ev_int ht hy,Op.intDiv,hb],rfl⟩
    · cases h
  · rename_i k a k' b hx hy
    split at h
    · rename_i hk
      injection h with h1 h2
      subst hk; subst h2; subst h1
      have hb : b ≠ 0:=by simpa using hc
      exact ⟨by simp [execOp,ho,eqGuard,binOp,ev_int ht hx,ev_int ht hy,Op.intDiv,hb],rfl⟩
    · cases h
  · rename_i k a k' b hx hy
    injection h with h1 h2
    subst h2; subst h1
    have hb : ¬ b < 0:=by have : 0 ≤ b:=by simpa using hc
                          omega
    exact ⟨by simp [execOp,ho,eqGuard,binOp,ev_int ht hx,ev_int ht hy,Op.shift,hb],rfl⟩
  · rename_i k a k' b hx hy
    injection h with h1 h2
    subst h2; subst h1
    have hb : ¬ b < 0:=by have : 0 ≤ b:=by simpa using hc
                          omega
    exact ⟨by simp [execOp,ho,eqGuard,binOp,ev_int ht hx,ev_int ht hy,Op.shift,hb],rfl⟩
  · split at h
    · split at h <;> cases h
    · cases h
  · split at h
    · split at h <;> cases h
    · cases h
end
end Go.Proofs.YtfhnlkinjbakgaaGreat.Abs
