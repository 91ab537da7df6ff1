/- The abstract machine: a region that draws its order and holds one store: what doesn't look at memory may come before it or behind it, assignments too. -/
import Derived.Test.YtfhnlkinjbakgaaGreatMsAbsJ
namespace Go.Proofs.YtfhnlkinjbakgaaGreat.Abs
open Go Go.RowKit
def dull (o : Oper) : Oper:=if isSt o then { o with op:=.assign (.const (.bool true)) } else o
theorem dull_after (o : Oper) : (dull o).after = o.after:=by unfold dull; split <;> rfl
theorem dull_dst (o : Oper) : (dull o).dst = o.dst:=by unfold dull; split <;> rfl
theorem dull_of {o : Oper} (h : isSt o = false) : dull o = o:=by unfold dull; rw [h]; rfl
theorem alT_dull (o : Oper) : alT (dull o) = alT o:=by
  cases h : isSt o with
  | false=>rw [dull_of h]
  | true=>
    rw [(St.alone h).2.2.2]
    unfold dull
    rw [h]
    rfl
theorem dull_at {ops : Array Oper} {i : Nat} {o : Oper} (h : ops[i]? = some o) : (ops.map dull)[i]? = some (dull o):=by rw [Array.getElem?_map,h]; rfl
theorem yielded_dull (ops : Array Oper) (t : Array Value) : yielded (ops.map dull) t = yielded ops t:=by
  funext j
  have : ((ops.map dull)[j]?).bind (·.dst) = (ops[j]?).bind (·.dst):=by
    rw [Array.getElem?_map]
    cases ops[j]? with
    | none=>rfl
    | some o=>exact dull_dst o
  unfold yielded
  rw [this]
def stIx (ops : Array Oper) : Nat:=ops.toList.findIdx isSt
def oneB (P : Program) (ops : Array Oper) : Bool:=
  match ops[stIx ops]? with
  | some S=>isSt S && Region.noSelect (ops.map dull) && ((List.range ops.size).all fun k=>match ops[k]? with
      | some o=>(decide (k = stIx ops) || (!isSt o && (opFree o || waitsT ops 6 (stIx ops) k))) && (o.after.toList.all fun e=>!Region.binds .any e || decide (e.on < k)) && ((List.range ops.size).all fun j=>floatAt (ops.map dull) j k (dull o)) &&
          (match o.dst with | some d=>!(readsT ops S).contains d || Region.waitsFor .any ops (stIx ops) k | none=>true)
      | none=>false) && allocsOk P (ops.map dull) ops.size
  | none=>false
structure OneOk (ops : Array Oper) (p : Nat) (S : Oper) : Prop where
  base : FloatBase (ops.map dull) ops.size
  at_ : ops[p]? = some S
  st : isSt S = true
  rest : ∀ i o,ops[i]? = some o → i ≠ p → isSt o = false ∧ (opFree o = true ∨ waitsT ops 6 p i = true)
  reads : ∀ j oj d,ops[j]? = some oj → oj.dst = some d → d ∈ readsT ops S → Region.waitsFor .any ops p j = true
theorem oneB_spec {P : Program} {ops : Array Oper} (h : oneB P ops = true) : ∃ S,OneOk ops (stIx ops) S ∧ allocsOk P (ops.map dull) ops.size = true:=by
  unfold oneB at h
  split at h
  · rename_i S hS
    simp only [Bool.and_eq_true] at h
    obtain ⟨⟨⟨h1,h2⟩,h3⟩,h4⟩:=h
    have lt : ∀ {i : Nat} {o : Oper},ops[i]? = some o → i < ops.size:=fun ho=>(Array.getElem?_eq_some_iff.1 ho).1
    have hk : ∀ k o,ops[k]? = some o → (((k = stIx ops ∨ (isSt o = false ∧ (opFree o = true ∨ waitsT ops 6 (stIx ops) k = true))) ∧ (o.after.toList.all fun e=>!Region.binds .any e || decide (e.on < k)) = true) ∧ (∀ j,j < ops.size → floatAt (ops.map dull) j k (dull o) = true)) ∧
        ∀ d,o.dst = some d → d ∈ readsT ops S → Region.waitsFor .any ops (stIx ops) k = true:=fun k o ho=>by
      have:=List.all_eq_true.1 h3 k (List.mem_range.2 (lt ho))
      simp only [ho,Bool.and_eq_true,Bool.or_eq_true,decide_eq_true_eq,Bool.not_eq_true'] at this
      refine ⟨⟨this.1.1,fun j hj=>List.all_eq_true.1 this.1.2 j (List.mem_range.2 hj)⟩,fun d hd hr=>?_⟩
      have h5:=this.2
      simp only [hd,Bool.or_eq_true,Bool.not_eq_true'] at h5
      rcases h5 with q | q
      · have : (readsT ops S).contains d = true:=by simpa using hr
        rw [this] at q; cases q
      · exact q
    have un : ∀ {k o'},(ops.map dull)[k]? = some o' → ∃ o,ops[k]? = some o ∧ o' = dull o:=fun {k o'} ho=>by
      rw [Array.getElem?_map] at ho
      cases hx : ops[k]? with
      | none=>rw [hx] at ho; cases ho
      | some o=>rw [hx] at ho; exact ⟨o,hx,(Option.some.inj ho).symm⟩
    have hf:=floatAt_spec (ops:=ops.map dull) (n:=ops.size) fun k o hkn ho j hj=>by
      obtain ⟨o2,ho2,rfl⟩:=un ho
      exact (hk k o2 ho2).1.2 j hj
    refine ⟨S,⟨⟨h2,by simp,fun k o hkn ho e he hb=>?_,hf.1,hf.2⟩,hS,h1,fun i o ho hi=>?_,fun j oj d hoj hd hr=>(hk j oj hoj).2 d hd hr⟩,h4⟩
    · obtain ⟨o2,ho2,rfl⟩:=un ho
      rw [dull_after] at he
      exact back_spec (hk k o2 ho2).1.1.2 e he hb
    · rcases (hk i o ho).1.1.1 with q | q
      · exact absurd q hi
      · exact q
  · cases h
section
variable {P : Program} {ops : Array Oper} {w0 : World}
theorem InvF.completeF {n : Nat} {c : Nat → Array Value} (F : FloatBase ops n) (hc : ∀ k o,k < n → ops[k]? = some o → StepF P ops w0 o (c k) (c (k + 1))) :
    ∀ (f : Nat) (listed : Array Bool) (s : Array Value) (w : World) (js : Nat → Nat),listed.size = ops.size → left n listed = f → (∀ j o,j < n → ops[j]? = some o → listed.getD j false = false → alT o = none) → InvF P ops w0 n c listed s w js →
      ∃ s2 l2,InvF P ops w0 n c l2 s2 w js ∧ (∀ j,j < n → l2.getD j false = true)
  | 0,listed,s,w,js,_,hf,_,inv=>⟨s,listed,inv,left_zero n hf⟩
  | f + 1,listed,s,w,js,hsz,hf,hfr,inv=>by
    obtain ⟨i,hi,hu,hmin⟩:=left_pos n (by omega : left n listed ≠ 0)
    have hlt:=F.lt
    have ho : ops[i]? = some ops[i]:=Array.getElem?_eq_getElem (by omega)
    have hleft : left n (listed.setIfInBounds i true) = f:=by have:=(left_set hu (by omega : i < listed.size) n).1 hi; omega
    have al:=hfr i _ hi ho hu
    rcases hc i _ hi ho with ⟨ha,_⟩ | ⟨_,v,hv,_⟩
    · rw [al] at ha; cases ha
    · exact InvF.completeF F hc f _ _ w js (by simp [hsz]) hleft (fun j o hj hoj hl=>hfr j o hj hoj (by
        by_cases e : i = j
        · subst e; exact hu
        · rwa [getD_set_ne false e] at hl)) (inv.put F hc hsz hi ho al hv (Below.refl _ _))
theorem isSt_op {S : Oper} (h : isSt S = true) : ∃ T a x,S.op = .store T a x:=by
  unfold isSt at h
  simp only [Bool.and_eq_true] at h
  obtain ⟨⟨h,_⟩,_⟩:=h
  split at h
  · rename_i T a x ho; exact ⟨T,a,x,ho⟩
  · cases h
theorem InvF.sameD {p : Nat} {S : Oper} {c : Nat → Array Value} {l l2 : Array Bool} {s s2 : Array Value} {w w2 : World} {js : Nat → Nat} (O : OneOk ops p S) (inv : InvF P (ops.map dull) w0 ops.size c l s w js) (inv2 : InvF P (ops.map dull) w0 ops.size c l2 s2 w2 js)
    (h1 : ∀ j,Region.waitsFor .any ops p j = true → l.getD j false = true) (h2 : ∀ j,j < ops.size → l.getD j false = true → l2.getD j false = true) : execOp (act s).eval S = execOp (act s2).eval S:=by
  refine execOp_congr S (fun cs b e=>?_) fun x hx=>?_
  · obtain ⟨T,a,x,ho⟩:=isSt_op O.st
    rw [ho] at e; cases e
  cases x with
  | tmp d=>
    have hd : d ∈ readsT ops S:=by
      unfold readsT
      exact List.mem_append_left _ (List.mem_filterMap.2 ⟨.tmp d,by simpa using hx,rfl⟩)
    have e : s[d]? = s2[d]?:=by
      by_cases qq : ∃ j oj,j < ops.size ∧ (ops.map dull)[j]? = some oj ∧ oj.dst = some d
      · obtain ⟨j,oj,hj,hoj,hdj⟩:=qq
        have ho0 : ops[j]? = some ops[j]:=Array.getElem?_eq_getElem hj
        have : oj = dull ops[j]:=Option.some.inj (hoj.symm.trans (dull_at ho0))
        have hl:=h1 j (O.reads j _ d ho0 (by rw [← dull_dst,← this]; exact hdj) hd)
        cases ha : alT oj with
        | none=>rw [inv.new j oj d hj hl hoj ha hdj,inv2.new j oj d hj (h2 j hj hl) hoj ha hdj]
        | some q=>
          obtain ⟨d',T⟩:=q
          have : d' = d:=Option.some.inj ((alT_spec ha).2.2.symm.trans hdj)
          subst this
          by_cases hlt : d' < s.size
          · rw [(inv.al j oj d' T hj hl hoj ha).1 hlt,(inv2.al j oj d' T hj (h2 j hj hl) hoj ha).1 (by rw [inv2.size,← inv.size]; exact hlt)]
          · rw [Array.getElem?_eq_none (Nat.le_of_not_lt hlt),Array.getElem?_eq_none (by rw [inv2.size,← inv.size]; exact Nat.le_of_not_lt hlt)]
      · have hno : ∀ j oj,j < ops.size → (ops.map dull)[j]? = some oj → oj.dst ≠ some d:=fun j oj hj hoj hdj=>qq ⟨j,oj,hj,hoj,hdj⟩
        rw [inv.old d fun j oj hj _ hoj=>hno j oj hj hoj,inv2.old d fun j oj hj _ hoj=>hno j oj hj hoj]
    show s.getD d undef = s2.getD d undef
    simp only [Array.getD_eq_getD_getElem?,e]
  | _=>rfl
theorem wpAny_one {p : Nat} {S : Oper} {c : Nat → Array Value} {Q : Exit → Act → World → Prop} (O : OneOk ops p S) (hc : ∀ k o,k < ops.size → (ops.map dull)[k]? = some o → StepF P (ops.map dull) w0 o (c k) (c (k + 1)))
    (hz : ∀ k o d T,k < ops.size → (ops.map dull)[k]? = some o → alT o = some (d,T) → ∃ z,tzero P T = some z)
    (hQ : ∀ s w js l,InvF P (ops.map dull) w0 ops.size c l s w js → (∀ j,j < ops.size → l.getD j false = true) → ∃ w',Ran P S s w w' ∧ Q .normal (act s) w') :
    ∀ (f : Nat) (listed : Array Bool) (s : Array Value) (w wq : World) (js : Nat → Nat),HeadInv .any ops ops.size listed → left ops.size listed = f → InvF P (ops.map dull) w0 ops.size c listed s w js →
      (listed.getD p false = false → wq = w) → (listed.getD p false = true → Ran P S s w wq) → wpAny P .any ops Q f listed (act s) wq:=by
  have hpl : p < ops.size:=(Array.getElem?_eq_some_iff.1 O.at_).1
  intro f
  induction f with
  | zero=>
    intro listed s w wq js hd hf inv _ hr
    have hall:=left_zero ops.size hf
    refine ⟨?_,?_⟩
    · cases hrd : Region.ready .any ops listed with
      | nil=>rfl
      | cons i l=>
        have hi : i ∈ Region.ready .any ops listed:=by rw [hrd]; exact List.mem_cons_self
        obtain ⟨h1,o,ho,_⟩:=mem_ready.1 hi
        have h2:=getD_both h1
        rw [hall i (Array.getElem?_eq_some_iff.1 ho).1] at h2
        cases h2
    · obtain ⟨w',h2,h3⟩:=hQ s w js listed inv hall
      rw [(hr (hall p hpl)).fn h2]
      exact h3
  | succ f ih=>
    intro listed s w wq js hd hf inv hr0 hr
    have hsz:=hd.size
    have hszD : listed.size = (ops.map dull).size:=by simpa using hsz
    obtain ⟨i0,hi0,hu0,hmin⟩:=left_pos ops.size (by omega : left ops.size listed ≠ 0)
    have r0 : i0 ∈ Region.ready .any ops listed:=by
      have ho0 : ops[i0]? = some ops[i0]:=Array.getElem?_eq_getElem hi0
      exact mem_ready.2 ⟨getD_in (by omega) hu0,_,ho0,fun e he hb=>hmin _ (O.base.back i0 _ hi0 (dull_at ho0) e (by rw [dull_after]; exact he) hb)⟩
    refine ⟨fun h=>(by rw [h] at r0; cases r0),fun i hi=>?_⟩
    obtain ⟨hiu,o,ho,hall⟩:=mem_ready.1 hi
    have hin : i < ops.size:=(Array.getElem?_eq_some_iff.1 ho).1
    have hu:=getD_both hiu
    have hnext:=hd.set hi hin
    have hleft : left ops.size (listed.setIfInBounds i true) = f:=by have:=(left_set hu (by omega : i < listed.size) ops.size).1 hin; omega
    have hiD : i ∈ Region.ready .any (ops.map dull) listed:=mem_ready.2 ⟨hiu,dull o,dull_at ho,fun e he hb=>hall e (by rw [dull_after] at he; exact he) hb⟩
    have rest : (∀ e ∈ S.after,Region.binds .any e = true → listed.getD e.on false = true) → ∀ j oj,j ≠ p → ops[j]? = some oj → listed.getD j false = false → opFree oj = true:=fun hS j oj hj hoj hl=>by
      rcases (O.rest j oj hoj hj).2 with h | h
      · exact h
      · have direct : ∀ i,Region.waitsFor .any ops p i = true → listed.getD i false = true:=fun i hi=>by
          obtain ⟨o2,ho2,e,he,hb,hon⟩:=Region.waitsFor_spec hi
          have : o2 = S:=Option.some.inj (ho2.symm.trans O.at_)
          subst this
          have:=hS e he hb
          rwa [hon] at this
        have : listed.getD j false = true:=by
          have h2 : waitsT ops (5 + 1) p j = true:=h
          simp only [waitsT.eq_2,Bool.or_eq_true] at h2
          rcases h2 with h2 | h2
          · exact direct j h2
          · obtain ⟨i,_,hi⟩:=List.any_eq_true.1 h2
            simp only [Bool.and_eq_true] at hi
            exact waitsT_listed hd 5 i j (direct i hi.1) hi.2
        rw [hl] at this; cases this
    have alfree : (∀ e ∈ S.after,Region.binds .any e = true → listed.getD e.on false = true) → ∀ j oj,j < ops.size → (ops.map dull)[j]? = some oj → listed.getD j false = false → alT oj = none:=fun hS j oj hj hoj hl=>by
      have ho0 : ops[j]? = some ops[j]:=Array.getElem?_eq_getElem hj
      have e : oj = dull ops[j]:=Option.some.inj (hoj.symm.trans (dull_at ho0))
      rw [e,alT_dull]
      by_cases hjp : j = p
      · subst hjp
        have : ops[j] = S:=Option.some.inj (ho0.symm.trans O.at_)
        rw [this]
        exact (St.alone O.st).2.2.2
      · exact alT_of_free (rest hS j _ hjp ho0 hl)
    by_cases hip : i = p
    · subst hip
      have : o = S:=Option.some.inj (ho.symm.trans O.at_)
      subst this
      have hwq:=hr0 hu
      subst hwq
      obtain ⟨hg,hdst,_,hal⟩:=St.alone O.st
      obtain ⟨s2,l2,inv2,hl2⟩:=InvF.completeF O.base hc _ listed s wq js hszD rfl (alfree hall) inv
      obtain ⟨w',hr2,_⟩:=hQ s2 wq js l2 inv2 hl2
      have hsame:=inv.sameD O inv2 (fun j hj=>by
          obtain ⟨oS,hoS,e,he,hb,hon⟩:=Region.waitsFor_spec hj
          have : oS = o:=Option.some.inj (hoS.symm.trans ho)
          subst this
          have:=hall e he hb
          rwa [hon] at this) (fun j hj _=>hl2 j hj)
      have hr3 : Ran P o s wq w':=by unfold Ran at hr2 ⊢; rw [hsame]; exact hr2
      have inv3 : InvF P (ops.map dull) w0 ops.size c (listed.setIfInBounds i true) s wq js:=by
        rcases hc i _ hin (dull_at ho) with ⟨ha,_⟩ | ⟨ha,v,hv,_⟩
        · rw [alT_dull,hal] at ha; cases ha
        · have:=inv.put O.base hc hszD hin (dull_at ho) ha hv (Below.refl _ wq)
          rw [dull_dst,hdst] at this
          exact this
      have g:=ih (listed.setIfInBounds i true) s wq w' js hnext hleft inv3 (fun h=>by simp [show i < listed.size by omega] at h) (fun _=>hr3)
      unfold wpOp
      simp only [ho]
      rw [if_pos (by simp [Region.wanted,hg])]
      left
      unfold Oper.wp
      rcases hr3 with hr3 | ⟨v,hr3⟩
      · rw [hr3,Oper.upon_skip,act_put,hdst]; exact g
      · rw [hr3,Oper.upon_value,act_put,hdst]; exact g
    · have hns:=(O.rest i o ho hip).1
      have hoD : (ops.map dull)[i]? = some o:=by rw [dull_at ho,dull_of hns]
      have hev:=inv.evals O.base hc hin hoD hiD
      rw [yielded_dull,yielded_dull] at hev
      have hw : Region.wanted o (yielded ops (act s).tmps) = Region.wanted o (yielded ops (c i)):=hev.2
      have keep : (listed.setIfInBounds i true).getD p false = listed.getD p false:=getD_set_ne false hip
      unfold wpOp
      simp only [ho]
      cases hp : listed.getD p false with
      | false=>
        have hwq:=hr0 hp
        subst hwq
        have go : ∀ s2 w2 js2,InvF P (ops.map dull) w0 ops.size c (listed.setIfInBounds i true) s2 w2 js2 → wpAny P .any ops Q f (listed.setIfInBounds i true) (act s2) w2:=fun s2 w2 js2 inv2=>
          ih _ s2 w2 w2 js2 hnext hleft inv2 (fun _=>rfl) (fun h=>by rw [keep,hp] at h; cases h)
        rcases hc i o hin hoD with ⟨ha,_⟩ | ⟨ha,v,hv,hx⟩
        · obtain ⟨⟨d,T⟩,hT⟩:=Option.isSome_iff_exists.1 ha
          obtain ⟨z,hz'⟩:=hz i o d T hin hoD hT
          obtain ⟨hop,hg,hdst⟩:=alT_spec hT
          rw [if_pos (by simp [Region.wanted,hg])]
          left
          unfold Oper.wp
          have hrun : (execOp (act s).eval o).run P wq = .ok (.value (.pointer (some ⟨wq.heap.size,0,none⟩))) (wq.alloc (.cells z.cells T)):=by
            simp only [execOp,hop,Instr.alloc,Sem.run_bind,run_zeroValue hz' wq,Result.andThen_ok]
            rfl
          rw [hrun,Oper.upon_value,act_put]
          exact go _ _ _ (inv.make O.base hszD hin hoD hT hz' hu)
        · rcases hx with ⟨hw1,hst,_⟩ | ⟨hw1,rfl⟩
          · rw [yielded_dull] at hw1
            rw [if_pos (hw.trans hw1)]
            left
            unfold Oper.wp
            rw [hev.1]
            rcases hst wq inv.below with hr | ⟨g,args,hr,hcall⟩
            · rw [hr,Oper.upon_value,act_put]
              exact go _ _ _ (inv.put O.base hc hszD hin hoD ha hv (Below.refl _ _))
            · rw [hr]
              refine hcall.mono ?_
              rintro e w2 ⟨rfl,hb⟩
              show wpAny P .any ops Q f (listed.setIfInBounds i true) ((act s).put o.dst v) w2
              rw [act_put]
              exact go _ _ _ (inv.put O.base hc hszD hin hoD ha hv hb)
          · rw [yielded_dull] at hw1
            rw [if_neg (by rw [hw,hw1]; simp),act_put]
            exact go _ _ _ (inv.put O.base hc hszD hin hoD ha hv (Below.refl _ _))
      | true=>
        have hSr : ∀ e ∈ S.after,Region.binds .any e = true → listed.getD e.on false = true:=fun e he hb=>hd.closed p S O.at_ hp e he hb
        have hfree:=rest hSr i o hip ho hu
        have al : alT o = none:=alT_of_free hfree
        have hrn:=hr hp
        rcases hc i o hin hoD with ⟨ha,_⟩ | ⟨_,v,hv,hx⟩
        · rw [al] at ha; cases ha
        · have inv2:=inv.put O.base hc hszD hin hoD al hv (Below.refl _ w)
          have hsame:=inv.sameD O inv2 (fun j hj=>by
            obtain ⟨oS,hoS,e,he,hb,hon⟩:=Region.waitsFor_spec hj
            have : oS = S:=Option.some.inj (hoS.symm.trans O.at_)
            subst this
            have:=hSr e he hb
            rwa [hon] at this) (fun j _ hj=>getD_set_true hj)
          have hrn2 : Ran P S (putA s o.dst v) w wq:=by unfold Ran at hrn ⊢; rw [← hsame]; exact hrn
          have go : wpAny P .any ops Q f (listed.setIfInBounds i true) (act (putA s o.dst v)) wq:=
            ih _ _ w wq js hnext hleft inv2 (fun h=>by rw [keep,hp] at h; cases h) (fun _=>hrn2)
          rcases hx with ⟨hw1,_,hall2⟩ | ⟨hw1,rfl⟩
          · rw [yielded_dull] at hw1
            rw [if_pos (hw.trans hw1)]
            left
            unfold Oper.wp
            rw [hev.1,hall2.1 hfree wq,Oper.upon_value,act_put]
            exact go
          · rw [yielded_dull] at hw1
            rw [if_neg (by rw [hw,hw1]; simp),act_put]
            exact go
end
def isAs (o : Oper) : Bool:=(match o.op with | .assign _=>true | _=>false) && o.guard.isNone && o.dst.isSome
def shapeW (ops : Array Oper) : Bool:=ops.toList.any isSt && !(ops.toList.drop (stIx ops + 1)).isEmpty && (ops.toList.drop (stIx ops + 1)).all isAs && (ops.map dull).toList.all fun o=>!writes o || (alT o).isSome
def regionW (P : Program) (E : Eqs) (ops : Array Oper) (draw : Bool) (K : Array Value → List Blk → T) (t : Array Value) (H : List Blk) : T:=
  if (draw && (shapeW ops && oneB P ops)) = true then
    opsF P E (ops.map dull) H (fun t=>match fillA P (allocsOf (ops.map dull) ops.size) t H with
      | some (t2,H2)=>opsN P E ops K ((ops.toList.drop (stIx ops)).take 1) t2 H2
      | none=>.fail) (ops.map dull).toList t
  else regionJ P E ops draw K t H
section
variable {P : Program} {E : Eqs} {f : FuncId}
theorem regionW_run (hE : EqsOk P E) (hm : P.follows .mixedOrders = true) {id : Nat} {ops : Array Oper} {draw : Bool} {K : Array Value → List Blk → T} {R : Value → List Blk → Prop} {m : List Nat} {t t' : Array Value} {H : List Blk} {w : World}
    (ht : RA m t t') (hH : RH m H w) (h : Run P f R (regionW P E ops draw K t H)) : (Code.region id ops draw).wp P (QN P f m w K R) (act t') w:=by
  unfold regionW at h
  by_cases hc : (draw && (shapeW ops && oneB P ops)) = true
  case neg=>rw [if_neg hc] at h; exact regionJ_run hE hm ht hH h
  rw [if_pos hc] at h
  simp only [Bool.and_eq_true] at hc
  obtain ⟨rfl,⟨_,hB⟩⟩:=hc
  obtain ⟨S,O,hA⟩:=oneB_spec hB
  generalize hp : stIx ops = p at *
  have hpl : p < ops.size:=(Array.getElem?_eq_some_iff.1 O.at_).1
  have hA' : ∀ x ∈ allocsOf (ops.map dull) ops.size,∃ z,tzero P x.2.2 = some z ∧ z.cells.toList.all flat1 = true:=fun x hx=>by
    have:=List.all_eq_true.1 hA x hx
    cases hz : tzero P x.2.2 with
    | none=>simp [hz] at this
    | some z=>simp only [hz] at this; exact ⟨z,rfl,this⟩
  have hH1 : RH m H { w with drawn:=w.drawn + 1 }:=⟨hH.len,hH.nodup,hH.blk⟩
  have hone : (ops.toList.drop p).take 1 = [S]:=by
    have h1 : ops.toList[p]? = some S:=by rw [Array.getElem?_toList]; exact O.at_
    obtain ⟨hlt,e⟩:=List.getElem?_eq_some_iff.1 h1
    rw [List.drop_eq_getElem_cons hlt,e]
    rfl
  rw [hone] at h
  have hF:=opsF_run (Q:=fun t'=>∀ (c : Nat → Array Value),c ops.size = t' → (∀ k o,k < ops.size → (ops.map dull)[k]? = some o → StepF P (ops.map dull) { w with drawn:=w.drawn + 1 } o (c k) (c (k + 1))) →
      ∀ s w2 js l,InvF P (ops.map dull) { w with drawn:=w.drawn + 1 } ops.size c l s w2 js → (∀ j,j < ops.size → l.getD j false = true) → ∃ w',Ran P S s w2 w' ∧ QN P f m w K R .normal (act s) w')
    hE hH1 (fun t t' ht h c hcn hchain s w2 js l inv hl=>?_) _ t t' ht h
  · obtain ⟨c,h0,hQ,hc⟩:=wpF_chain _ _ hF
    have hln : (ops.map dull).toList.length = ops.size:=by simp
    rw [hln] at hQ
    have hc' : ∀ k o,k < ops.size → (ops.map dull)[k]? = some o → StepF P (ops.map dull) { w with drawn:=w.drawn + 1 } o (c k) (c (k + 1)):=fun k o _ ho=>hc k o (by rw [Array.getElem?_toList]; exact ho)
    refine wp_region_any hm ?_
    have rep : ∀ j,(Array.replicate ops.size false).getD j false = false:=fun j=>getD_replicate_false _ _
    rw [← h0]
    exact wpAny_one O hc' (fun k o d T hk ho hal=>by
        obtain ⟨z,hz,_⟩:=hA' (k,d,T) (mem_allocsOf.2 ⟨hk,o,ho,hal⟩)
        exact ⟨z,hz⟩) (hQ c rfl hc') ops.size (Array.replicate ops.size false) (c 0) { w with drawn:=w.drawn + 1 } { w with drawn:=w.drawn + 1 } (fun _=>0)
      ⟨by simp,fun j oj _ hl=>(by rw [rep] at hl; cases hl),fun t _ ht=>getD_in (by simpa using ht) (rep _)⟩
      (by
        have : ∀ k,left k (Array.replicate ops.size false) = k:=fun k=>by
          induction k with
          | zero=>rfl
          | succ k ih=>
            have e : left (k + 1) (Array.replicate ops.size false) = left k (Array.replicate ops.size false) + 1:=by
              simp only [left,List.range_succ,List.countP_append,List.countP_singleton,rep]
              rfl
            rw [e,ih]
        exact this ops.size)
      ⟨rfl,fun d _=>rfl,fun j o d hj hl=>(by rw [rep] at hl; cases hl),fun j o d T hj hl=>(by rw [rep] at hl; cases hl),fun j k oj ok hj hk hl=>(by rw [rep] at hl; cases hl),Below.refl _ _⟩ (fun _=>rfl) (fun h=>by rw [rep] at h; cases h)
  · cases hfill : fillA P (allocsOf (ops.map dull) ops.size) t H with
    | none=>simp only [hfill] at h; exact (run_fail h).elim
    | some q=>
      obtain ⟨t2,H2⟩:=q
      simp only [hfill] at h
      obtain ⟨hra,hrh,hfr⟩:=fill_done O.base hA' hH1 ht hcn hchain inv hl hfill
      obtain ⟨w',v,t3,t3',n',G,hr,rfl,_,hra2,hrh2,hn2,hk2,_,h2⟩:=store_first O.st hra hrh h
      refine ⟨w',hr,rfl,_,_,_,G,rfl,by rw [← List.append_assoc]; exact hra2,by rw [← List.append_assoc]; exact hrh2,fun j hj=>?_,?_,h2⟩
      · rcases List.mem_append.1 hj with hj | hj
        · exact hfr j hj
        · exact Nat.le_trans inv.below.size (hn2 j hj)
      · have k1 : Kept m w w2:=⟨inv.below.os,inv.below.tape,inv.below.output,inv.below.size,fun k hk _=>inv.below.block k hk⟩
        exact k1.trans hk2 hfr
end
end Go.Proofs.YtfhnlkinjbakgaaGreat.Abs
