/- The abstract machine, fourth part: an operation of a region goes through in the model as it goes through here. -/
import Derived.Test.YtfhnlkinjbakgaaGreatMsAbs3
namespace Go.Proofs.YtfhnlkinjbakgaaGreat.Abs
open Go Go.RowKit
variable {P : Program} {E : Eqs} {m : List Nat} {t t' : Array Value} {H : List Blk} {w : World} {o : Oper}
theorem callA_ne {g : FuncId} {args : Array Value} {r : AR} (h : callA E g args = r) (h1 : ∀ f a,r ≠ .enter f a) (h2 : ∀ c v,r ≠ .chk c v) : r = .bad:=by
  rcases callA_cases E g args with e | ⟨c,v,_,_,_,e⟩ | e
  · exact absurd (h.symm.trans e) (h1 _ _)
  · exact absurd (h.symm.trans e) (h2 _ _)
  · exact h.symm.trans e
def opFree (o : Oper) : Bool:=
  match o.op with
  | .load .. | .call .. | .alloc .. | .box .. | .store .. | .buildSlice ..=>false
  | _=>true
theorem opA_val (ht : RA m t t') (hH : opFree o = false → RH m H w) (hE : EqsOk P E) {v : Value} (h : opA P E o t H = .val v) :
    ∃ v',(execOp (act t').eval o).run P w = .ok (.value v') w ∧ VR m v v':=by
  have pure_ : pureA P o t = .val v → ∃ v',(execOp (act t').eval o).run P w = .ok (.value v') w ∧ VR m v v':=fun h=>
    let ⟨h1,h2⟩:=pureA_run ht h w; ⟨v,h1,VR.refl_of_flat m h2⟩
  unfold opA at h
  split at h
  all_goals try (rename_i ho)
  all_goals try (exact pure_ h)
  ·
    rename_i x
    split at h
    · rename_i u hu
      injection h with h; subst h
      exact ⟨_,by simp [execOp,ho],ev_rel ht hu⟩
    · cases h
  ·
    rename_i x
    split at h
    · rename_i u hu
      injection h with h; subst h
      exact ⟨_,by simp [execOp,ho],ev_rel ht hu⟩
    · cases h
  · split at h <;> cases h
  · split at h
    · split at h <;> cases h
    · cases h
  · split at h <;> (try split at h) <;> cases h
  ·
    rename_i T a
    split at h
    · cases h
    · rename_i u _ hu
      split at h
      · rename_i u' hl
        injection h with h; subst h
        obtain ⟨v',hr,hv⟩:=loadA_run (hH (by simp [opFree,ho])) (ev_rel ht hu) hl
        exact ⟨v',by simp [execOp,ho,hr],hv⟩
      · cases h
    · cases h
  · split at h
    · split at h <;> cases h
    · cases h
  ·
    rename_i S x f
    split at h
    · rename_i i off s hu
      split at h
      · rename_i n hn
        injection h with h; subst h
        have hv:=ev_rel ht hu
        generalize he : (act t').eval x = q at hv
        cases hv with
        | pl _ h'=>simp [flat1] at h'
        | ptr _ j _ _ hj=>
          refine ⟨_,by simp only [execOp,ho,he,Sem.run_bind,run_fieldAt hn j off w,Result.andThen_ok,Sem.run_pure],.ptr i j (off + n) s hj⟩
      · cases h
    · cases h
  ·
    rename_i x
    split at h
    · rename_i a hu
      injection h with h; subst h
      have hv:=ev_rel ht hu
      generalize he : (act t').eval x = q at hv
      cases hv with
      | pl _ h'=>simp [flat1] at h'
      | ptr i j off s hj=>exact ⟨_,by simp [execOp,ho,he],.ptr i j off s hj⟩
    · rename_i g a c hu
      injection h with h; subst h
      have hv:=ev_rel ht hu
      generalize he : (act t').eval x = q at hv
      cases hv with
      | pl _ h'=>simp [flat1] at h'
      | func _ _ a' _ c' ha hc h1 h2=>exact ⟨_,by simp [execOp,ho,he],.func _ _ _ _ _ ha hc h1 h2⟩
    · cases h
  ·
    rename_i x i
    split at h
    · rename_i vs hu
      split at h
      · rename_i u hi
        injection h with h; subst h
        have hv:=ev_rel ht hu
        generalize he : (act t').eval x = q at hv
        cases hv with
        | pl _ h'=>simp [flat1] at h'
        | tuple _ vs' hs h1=>
          have hlt : i < vs'.size:=by rw [← hs]; exact (Array.getElem?_eq_some_iff.1 hi).1
          exact ⟨vs'[i],by simp [execOp,ho,he,Instr.extract,Array.getElem?_eq_getElem hlt],h1 i _ _ hi (Array.getElem?_eq_getElem hlt)⟩
      · cases h
    · cases h
  ·
    rename_i fn first captured
    split at h
    · rename_i a c ha hc
      injection h with h; subst h
      have ra:=evs_rel ht ha
      have rc:=evs_rel ht hc
      refine ⟨.func fn (first.map (act t').eval) (captured.map (act t').eval),by simp [execOp,ho,Instr.makeFunc],.func fn _ _ _ _ ?_ ?_ ?_ ?_⟩
      · have:=ra.size; simpa using this
      · have:=rc.size; simpa using this
      · intro i v v' h1 h2; exact ra.at_ i v v' h1 (by simpa using h2)
      · intro i v v' h1 h2; exact rc.at_ i v v' h1 (by simpa using h2)
    · cases h
  ·
    split at h
    · split at h <;> first | (cases h; done) | (have q:=callA_ne h (fun _ _ e=>by cases e) (fun _ _ e=>by cases e); cases q)
    · split at h
      · rename_i u hu
        injection h with h; subst h
        obtain ⟨h1,h2⟩:=lenA_run ht ho hu w
        exact ⟨u,h1,VR.refl_of_flat m h2⟩
      · exact pure_ h
    · cases h
  ·
    split at h
    · split at h <;> cases h
    · cases h
  ·
    split at h
    · split at h <;> cases h
    · cases h
  ·
    obtain ⟨h1,h2⟩:=binA_val ht hE ho h w
    exact ⟨v,h1,VR.refl_of_flat m h2⟩
theorem opA_mem (ht : RA m t t') (hH : RH m H w) {v : Value} {G : List Blk} (h : opA P E o t H = .mem v G) :
    ∃ w' v' n,((execOp (act t').eval o).run P w = .ok (.value v') w' ∨ ((execOp (act t').eval o).run P w = .ok .skip w' ∧ v' = undef)) ∧
      VR (m ++ n) v v' ∧ RH (m ++ n) G w' ∧ (∀ j ∈ n,w.heap.size ≤ j) ∧ Kept m w w':=by
  have np : ∀ {o : Oper},pureA P o t ≠ .mem v G:=fun {o} e=>by rcases pureA_ne P o t with ⟨u,hu⟩ | hu <;> rw [hu] at e <;> cases e
  unfold opA at h
  split at h
  all_goals try (rename_i ho)
  all_goals try (exact absurd h np)
  · split at h <;> cases h
  · split at h <;> cases h
  · split at h <;> cases h
  ·
    rename_i T
    split at h
    · rename_i z hz
      split at h
      · rename_i hfl
        obtain ⟨hfl,hT⟩:=hfl
        injection h with h1 h2
        subst h1; subst h2
        have hr : RA m z.cells z.cells:=⟨rfl,fun i v v' h1 h2=>by rw [h1] at h2; cases h2; exact .pl _ (all_flat1_at hfl h1)⟩
        refine ⟨w.alloc (.cells z.cells T),.pointer (some ⟨w.heap.size,0,none⟩),[w.heap.size],.inl ?_,?_,hH.alloc T hT hr,by simp,Kept.alloc _ _ _⟩
        · simp only [execOp,ho,Instr.alloc,Sem.run_bind,run_zeroValue hz w,Result.andThen_ok]
          rfl
        · exact .ptr _ _ _ _ (by rw [← hH.len]; simp)
      · cases h
    · cases h
  ·
    rename_i T x
    split at h
    · rename_i u hu
      split at h
      · rename_i hraw
        obtain ⟨hraw,hT⟩:=hraw
        injection h with h1 h2
        subst h1; subst h2
        have hr:=RA.cells (ev_rel ht hu) hraw
        refine ⟨w.alloc (.cells ((act t').eval x).cells T),.pointer (some ⟨w.heap.size,0,none⟩),[w.heap.size],.inl ?_,?_,hH.alloc T hT hr,by simp,Kept.alloc _ _ _⟩
        · simp only [execOp,ho,Instr.box]
          rfl
        · exact .ptr _ _ _ _ (by rw [← hH.len]; simp)
      · cases h
    · cases h
  · split at h <;> (try split at h) <;> cases h
  ·
    rename_i T a x
    split at h
    · rename_i ua ux ha hx
      split at h
      · rename_i G' hG
        injection h with h1 h2
        subst h1; subst h2
        obtain ⟨w',hr,hH',hk,_⟩:=storeA_run hH (ev_rel ht ha) (ev_rel ht hx) hG
        refine ⟨w',undef,[],.inr ⟨?_,rfl⟩,VR.undef _,by simpa using hH',by simp,hk⟩
        simp only [execOp,ho,Sem.run_bind,hr,Result.andThen_ok,Sem.run_pure]
      · cases h
    · cases h
  · split at h
    · split at h <;> cases h
    · cases h
  · split at h <;> cases h
  · split at h
    · split at h <;> cases h
    · cases h
  · split at h <;> cases h
  · split at h
    · split at h <;> first | (cases h; done) | (have q:=callA_ne h (fun _ _ e=>by cases e) (fun _ _ e=>by cases e); cases q)
    · split at h
      · cases h
      · exact absurd h np
    · cases h
  ·
    rename_i T len parts
    split at h
    · rename_i e cs hcs
      split at h
      · rename_i hfl
        obtain ⟨hfl,hT⟩:=hfl
        injection h with h1 h2
        subst h1; subst h2
        have hr : RA m cs cs:=⟨rfl,fun i v v' h1 h2=>by rw [h1] at h2; cases h2; exact .pl _ (all_flat1_at hfl h1)⟩
        exact ⟨_,_,[w.heap.size],.inl (sliceCells_run ht ho hcs w),.slice _ _ _ _ _ _ (by rw [← hH.len]; simp),hH.alloc e hT hr,by simp,Kept.alloc _ _ _⟩
      · cases h
    · cases h
  · split at h
    · split at h <;> cases h
    · cases h
  ·
    unfold binA at h
    split at h
    all_goals try (exact absurd h np)
    all_goals split at h
    all_goals try (exact absurd h np)
    all_goals try (cases h; done)
    all_goals (repeat' (split at h))
    all_goals cases h
theorem opA_pick (ht : RA m t t') {c : Bool} {a b : Value} (h : opA P E o t H = .pick c a b) (w : World) :
    ∃ v',(execOp (act t').eval o).run P w = .ok (.value v') w ∧ VR m (if c = true then a else b) v':=by
  have np : ∀ {o : Oper},pureA P o t ≠ .pick c a b:=fun {o} e=>by rcases pureA_ne P o t with ⟨u,hu⟩ | hu <;> rw [hu] at e <;> cases e
  unfold opA at h
  split at h
  all_goals try (rename_i ho)
  all_goals try (exact absurd h np)
  all_goals try (split at h <;> cases h; done)
  all_goals try (split at h <;> (try split at h) <;> (try split at h) <;> cases h; done)
  · rename_i xc xa xb
    split at h
    · rename_i c' a' b' hc ha hb
      injection h with h1 h2 h3
      subst h1; subst h2; subst h3
      refine ⟨if c' = true then (act t').eval xa else (act t').eval xb,by cases c' <;> simp [execOp,ho,ev_bool ht hc,asBool],?_⟩
      cases c'
      · simpa using ev_rel ht hb
      · simpa using ev_rel ht ha
    · cases h
  · split at h
    · split at h <;> first | (cases h; done) | (have q:=callA_ne h (fun _ _ e=>by cases e) (fun _ _ e=>by cases e); cases q)
    · split at h
      · cases h
      · exact absurd h np
    · cases h
  · unfold binA at h
    split at h
    all_goals try (exact absurd h np)
    all_goals split at h
    all_goals try (exact absurd h np)
    all_goals try (cases h; done)
    all_goals (repeat' (split at h))
    all_goals cases h
theorem opA_opt (ht : RA m t t') (hH : RH m H w) {x : Option Value} {v : Value} (h : opA P E o t H = .opt x) (hx : x = some v) :
    ∃ v',(execOp (act t').eval o).run P w = .ok (.value v') w ∧ VR m v v':=by
  have np : ∀ {o : Oper},pureA P o t ≠ .opt x:=fun {o} e=>by rcases pureA_ne P o t with ⟨u,hu⟩ | hu <;> rw [hu] at e <;> cases e
  unfold opA at h
  split at h
  all_goals try (rename_i ho)
  all_goals try (exact absurd h np)
  all_goals try (split at h <;> cases h; done)
  all_goals try (split at h <;> (try split at h) <;> cases h; done)
  ·
    rename_i T a
    split at h
    · rename_i i off s hu
      injection h with h
      subst h
      have ha:=ev_rel ht hu
      have ha0 : VR m (.pointer (some ⟨i,off,none⟩)) ((act t').eval a):=by
        generalize (act t').eval a = q at ha
        cases ha with
        | pl _ h'=>simp [flat1] at h'
        | ptr _ j _ _ hj=>exact .ptr i j off none hj
      obtain ⟨v',hr,hv⟩:=loadA_run hH ha0 hx
      exact ⟨v',by simp [execOp,ho,hr],hv⟩
    · split at h <;> cases h
    · cases h
  · split at h
    · split at h <;> first | (cases h; done) | (have q:=callA_ne h (fun _ _ e=>by cases e) (fun _ _ e=>by cases e); cases q)
    · split at h
      · cases h
      · exact absurd h np
    · cases h
  · unfold binA at h
    split at h
    all_goals try (exact absurd h np)
    all_goals split at h
    all_goals try (exact absurd h np)
    all_goals try (cases h; done)
    all_goals (repeat' (split at h))
    all_goals cases h
theorem opA_load (ht : RA m t t') {T : TypeId} {x : Operand} (ho : o.op = .load T x) {v : Value} (h : opA P E o t H = .val v) {j off : Nat} (hx : (act t').eval x = .pointer (some ⟨j,off,none⟩)) {w1 w' : World} (hH : RH m H w1) (hj : w'.heap[j]? = w1.heap[j]?) :
    ∃ v',(execOp (act t').eval o).run P w' = .ok (.value v') w' ∧ VR m v v':=by
  unfold opA at h
  simp only [ho] at h
  split at h
  · cases h
  · rename_i u _ hu
    split at h
    · rename_i u' hl
      injection h with h; subst h
      have ha:=ev_rel ht hu
      rw [hx] at ha
      obtain ⟨i,o',b,rfl,hb⟩:=loadA_ptr hl
      obtain ⟨hij,rfl⟩:=ha.ptr_inv
      obtain ⟨cs,hc,hr⟩:=hH.blk i j b hij hb
      obtain ⟨v',h1,h2⟩:=loadA_at (P:=P) (w:=w') hb (by rw [hj]; exact hc) hr hl
      exact ⟨v',by simp [execOp,ho,hx,h1],h2⟩
    · cases h
  · cases h
theorem load_kind {T : TypeId} {x : Operand} (ho : o.op = .load T x) : (∃ v,opA P E o t H = .val v) ∨ (∃ y,opA P E o t H = .opt y) ∨ opA P E o t H = .bad:=by
  unfold opA
  simp only [ho]
  split
  · exact .inr (.inl ⟨_,rfl⟩)
  · split
    · exact .inl ⟨_,rfl⟩
    · exact .inr (.inr rfl)
  · exact .inr (.inr rfl)
theorem call_args (ht : RA m t t') {c : Call} (ho : o.op = .call c) {g : Operand} (hg : c.callee = .value g) {g' : FuncId} {a cs : Array Value} {as : List Value} (hv : ev t g = some (.func (.func g') a cs)) (has : evs t c.args.toList = some as) :
    ∃ args',RA m (a ++ as.toArray ++ cs) args' ∧ ∀ (r : Next) (w w' : World),(callFunc g' args').run P w = .ok r w' → (execOp (act t').eval o).run P w = .ok r w':=by
  have rv:=ev_rel ht hv
  have ra:=evs_rel ht has
  generalize he : (act t').eval g = q at rv
  cases rv with
  | pl _ h'=>simp [flat1] at h'
  | func _ _ a' _ c' ha hc h1 h2=>
    refine ⟨a' ++ c.args.map (act t').eval ++ c',?_,fun r w w' hr=>by rw [Array.append_assoc] at hr; simp [execOp,ho,resolve,hg,he,Deferred.ofValue,invoke,hr]⟩
    have hs:=ra.size
    simp only [List.size_toArray,List.length_map,Array.length_toList] at hs
    refine ⟨by simp [ha,hc]; omega,fun i v v' k1 k2=>?_⟩
    simp only [Array.getElem?_append,Array.size_append,List.size_toArray,Array.size_map] at k1 k2
    by_cases q1 : i < a.size
    · rw [if_pos (by omega),if_pos q1] at k1
      rw [if_pos (by omega),if_pos (by omega)] at k2
      exact h1 i v v' k1 k2
    · by_cases q2 : i < a.size + as.length
      · rw [if_pos q2,if_neg q1] at k1
        rw [if_pos (by omega),if_neg (by omega)] at k2
        refine ra.at_ (i - a.size) v v' k1 ?_
        rw [← ha] at k2
        simpa using k2
      · rw [if_neg q2] at k1
        rw [if_neg (by omega)] at k2
        refine h2 (i - (a.size + as.length)) v v' k1 ?_
        rw [show i - (a.size + as.length) = i - (a'.size + c.args.size) by omega]
        exact k2
theorem RA.eq_of_flat {a a' : Array Value} (h : RA m a a') (hf : a.toList.all flat = true) : a' = a:=by
  refine Array.ext h.size.symm fun i h1 h2=>?_
  have hfl:=List.all_eq_true.1 hf a[i] (by simp)
  exact (h.at_ i _ _ (Array.getElem?_eq_getElem h2) (Array.getElem?_eq_getElem h1)).eq_of_flat hfl
theorem opA_chk (hE : EqsOk P E) (ht : RA m t t') {c : Bool} {v : Value} (h : opA P E o t H = .chk c v) (hc : c = true) (w : World) :
    ∃ v',(execOp (act t').eval o).run P w = .ok (.value v') w ∧ VR m v v':=by
  have np : ∀ {o : Oper},pureA P o t ≠ .chk c v:=fun {o} e=>by rcases pureA_ne P o t with ⟨u,hu⟩ | hu <;> rw [hu] at e <;> cases e
  unfold opA at h
  split at h
  all_goals try (rename_i ho)
  all_goals try (exact absurd h np)
  all_goals try (split at h <;> cases h; done)
  all_goals try (split at h <;> (try split at h) <;> cases h; done)
  · split at h
    · rename_i g hg
      split at h
      · rename_i g' a cs as hv has
        rcases callA_cases E g' (a ++ as.toArray ++ cs) with e | ⟨c2,v2,he,hf,hfv,e⟩ | e
        · rw [e] at h; cases h
        · rw [e] at h
          injection h with h1 h2
          subst h1; subst h2
          obtain ⟨args',hra,hrun⟩:=call_args (P:=P) ht ho hg hv has
          rw [hra.eq_of_flat hf] at hrun
          exact ⟨v2,hrun _ w w (hE.ext _ _ _ _ he hc w),VR.refl_of_flat m hfv⟩
        · rw [e] at h; cases h
      · cases h
    · split at h
      · cases h
      · exact absurd h np
    · cases h
  · rename_i T x i
    split at h
    · rename_i ux ui hx hi
      split at h
      · rename_i c' v' hix
        injection h with h1 h2
        subst h1; subst h2
        obtain ⟨v2,hr,hv⟩:=indexA_run (ev_rel ht hx) (ev_rel ht hi) hix hc w
        exact ⟨v2,by simp [execOp,ho,hr],hv⟩
      · cases h
    · cases h
  · obtain ⟨h1,h2⟩:=binA_chk ht ho h hc w
    exact ⟨v,h1,VR.refl_of_flat m h2⟩
def Callable (P : Program) (f : FuncId) : Prop := ∃ fn, P.funcs[f]? = some fn ∧ (fn.name == "runtime.NumGoroutine") = false ∧ fn.body.isNone = false
theorem run_callFunc {f : FuncId} (h : Callable P f) (args : Array Value) (w : World) : (callFunc f args).run P w = .ok (.enter f args) w:=by
  obtain ⟨fn,h1,h2,h3⟩:=h
  have h2' : ¬ fn.name = "runtime.NumGoroutine" := by simpa using h2
  have h3' : ¬ fn.body = none:=fun e=>by rw [e] at h3; cases h3
  simp [callFunc,program,Sem.run,Sem.run_bind,h1,h2',h3']
theorem opA_enter (ht : RA m t t') {f : FuncId} {args : Array Value} (h : opA P E o t H = .enter f args) (hf : Callable P f) (w : World) :
    ∃ args',(execOp (act t').eval o).run P w = .ok (.enter f args') w ∧ RA m args args':=by
  have np : ∀ {o : Oper},pureA P o t ≠ .enter f args:=fun {o} e=>by rcases pureA_ne P o t with ⟨u,hu⟩ | hu <;> rw [hu] at e <;> cases e
  unfold opA at h
  split at h
  all_goals try (rename_i ho)
  all_goals try (exact absurd h np)
  all_goals try (split at h <;> cases h; done)
  all_goals try (split at h <;> (try split at h) <;> (try split at h) <;> cases h; done)
  · rename_i c
    split at h
    · rename_i g hg
      split at h
      · rename_i g' a cs as hv has
        rcases callA_cases E g' (a ++ as.toArray ++ cs) with e | ⟨c2,v2,_,_,_,e⟩ | e
        · rw [e] at h
          injection h with h1 h2
          subst h1; subst h2
          obtain ⟨args',hra,hrun⟩:=call_args (P:=P) ht ho hg hv has
          exact ⟨args',hrun _ w w (run_callFunc hf args' w),hra⟩
        · rw [e] at h; cases h
        · rw [e] at h; cases h
      · cases h
    · split at h
      · cases h
      · exact absurd h np
    · cases h
  · unfold binA at h
    split at h
    all_goals try (exact absurd h np)
    all_goals split at h
    all_goals try (exact absurd h np)
    all_goals try (cases h; done)
    all_goals (repeat' (split at h))
    all_goals cases h
theorem free_enter {f : FuncId} {args : Array Value} (h : opA P E o t H = .enter f args) : opFree o = false:=by
  have np : ∀ {o : Oper},pureA P o t ≠ .enter f args:=fun {o} e=>by rcases pureA_ne P o t with ⟨u,hu⟩ | hu <;> rw [hu] at e <;> cases e
  unfold opA at h
  split at h
  all_goals try (rename_i ho)
  all_goals try (exact absurd h np)
  all_goals try (split at h <;> cases h; done)
  all_goals try (split at h <;> (try split at h) <;> (try split at h) <;> cases h; done)
  · simp [opFree,ho]
  · unfold binA at h
    split at h
    all_goals try (exact absurd h np)
    all_goals split at h
    all_goals try (exact absurd h np)
    all_goals try (cases h; done)
    all_goals (repeat' (split at h))
    all_goals cases h
end Go.Proofs.YtfhnlkinjbakgaaGreat.Abs
