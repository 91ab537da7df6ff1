/- The abstract machine, third part. -/
import Derived.Test.YtfhnlkinjbakgaaGreatDoorShfMb
import Derived.RowKit
import Derived.Laws.BitsLemmas
import Derived.Laws.Bits64
import Derived.Laws.StructEq
import Derived.Laws.Externs
import Derived.Shelf.Small.Bits
import Derived.ArgAppend
import Derived.WalkKit
import Derived.ProofKit
import Derived.OpenShut
import Derived.ShutString
import Derived.ChangeOld
import Derived.Below
import Derived.SizedLaws
import Derived.ChangeSlices
namespace Go.Proofs.YtfhnlkinjbakgaaGreatDoor.Abs
open Go Go.RowKit
def isMaker (o : Oper) : Bool:=
  match o.op with
  | .call c=>(c.args.toList.all fun x=>match x with | .func _=>true | _=>false) && c.args.size == 1
  | _=>false
def bothL : List T → T
  | []=>.fail
  | [x]=>x
  | x :: xs=>.both x (bothL xs)
def isLoud (P : Program) (o : Oper) : Bool:=
  match o.op with
  | .call c=>c.argTypes.toList.any fun T=>match P.types[T]? with
    | some i=>match i.desc with
      | .pointer e=>match P.types[e]? with | some j=>j.hasPointers | none=>false
      | _=>false
    | none=>false
  | _=>false
def early (ops : Array Oper) (listed : Array Bool) (i : Nat) : Bool:=(match ops[i]? with | some o=>opFree o | none=>false) && Region.free .any ops listed i
def stepV (P : Program) (E : Eqs) (o : Oper) (t : Array Value) (H : List Blk) (K : Array Value → T) : T:=
  match opA P E o t H with
  | .val v=>K (putA t o.dst v)
  | .pick c a b=>.ite c (K (putA t o.dst a)) (K (putA t o.dst b))
  | .chk c v=>.ite c (K (putA t o.dst v)) .fail
  | _=>.fail
def anyA (P : Program) (E : Eqs) (ops : Array Oper) (K : Array Value → List Blk → T) : Nat → Array Bool → Array Value → List Blk → T
  | 0,listed,t,H=>if (Region.ready .any ops listed).isEmpty then K t H else .fail
  | n + 1,listed,t,H=>
    match Region.ready .any ops listed with
    | []=>K t H
    | rs=>match rs.find? (early ops listed) with
      | some i=>match ops[i]? with
        | none=>.fail
        | some o=>guarded ops o t (fun t=>stepV P E o t H fun t=>anyA P E ops K n (listed.setIfInBounds i true) t H) (fun t=>anyA P E ops K n (listed.setIfInBounds i true) (putA t o.dst undef) H)
      | none=>bothL (rs.map fun i=>match ops[i]? with
        | none=>.fail
        | some o=>guarded ops o t (fun t=>stepN P E o t H fun t H=>anyA P E ops K n (listed.setIfInBounds i true) t H) (fun t=>anyA P E ops K n (listed.setIfInBounds i true) (putA t o.dst undef) H))
section
variable {P : Program} {E : Eqs} {f : FuncId}
theorem run_bothL {R : Value → List Blk → Prop} : ∀ {l : List T} {x : T},Run P f R (bothL l) → x ∈ l → Run P f R x
  | [_],x,h,hx=>by rw [List.mem_singleton] at hx; subst hx; exact h
  | a :: b :: l,x,h,hx=>by
    cases h with
    | both _ _ ha hb=>
      rcases List.mem_cons.1 hx with rfl | hx
      · exact ha
      · exact run_bothL hb hx
theorem step_wp (hE : EqsOk P E) {ops : Array Oper} {o : Oper} {Kt : Array Value → List Blk → T} {R : Value → List Blk → Prop} {m : List Nat} {t t' : Array Value} {H : List Blk} {w : World} {KK : Act → World → Prop} {Q : Exit → Act → World → Prop}
    (ht : RA m t t') (hH : RH m H w)
    (next : ∀ (n' : List Nat) (t2 t2' : Array Value) (H2 : List Blk) (w2 : World),RA (m ++ n') t2 t2' → RH (m ++ n') H2 w2 → (∀ j ∈ n',w.heap.size ≤ j) → Kept m w w2 → Run P f R (Kt t2 H2) → KK (act t2') w2)
    (h : Run P f R (guarded ops o t (fun t=>stepN P E o t H Kt) (fun t=>Kt (putA t o.dst undef) H))) :
    if Region.wanted o (yielded ops (act t').tmps) then o.wp P (act t') w KK Q ∨ (o.asks P (act t') w ∧ LetsOut Q) else KK ((act t').put o.dst undef) w:=by
  have same : ∀ (t2 t2' : Array Value) ,RA m t2 t2' → Run P f R (Kt t2 H) → KK (act t2') w:=fun t2 t2' a1 a5=>
    next [] t2 t2' H w (by simpa using a1) (by simpa using hH) (by simp) (Kept.refl _ _) a5
  rcases guarded_run ht h with ⟨hw,h⟩ | ⟨hw,h⟩
  · have hw' : Region.wanted o (yielded ops (act t').tmps) = true:=hw
    rw [if_pos hw']
    left
    unfold Oper.wp
    unfold stepN at h
    split at h
    · rename_i u hu
      obtain ⟨u',hr,hv⟩:=opA_val (w:=w) ht (fun _=>hH) hE hu
      rw [hr,Oper.upon_value,act_put]
      exact same _ _ (ht.put hv _) h
    · rename_i u H2 hu
      obtain ⟨w',u',n',hr,hv,hH',hn',hk'⟩:=opA_mem ht hH hu
      have h2:=next n' (putA t o.dst u) (putA t' o.dst u') H2 w' ((ht.mono n').put hv _) hH' hn' hk' h
      rcases hr with hr | ⟨hr,rfl⟩
      · rw [hr,Oper.upon_value,act_put]; exact h2
      · rw [hr,Oper.upon_skip,act_put]; exact h2
    · rename_i c x y hu
      obtain ⟨u',hr,hv⟩:=opA_pick (E:=E) ht hu w
      rw [hr,Oper.upon_value,act_put]
      have h2:=run_ite h
      cases c
      · exact same _ _ (ht.put hv _) h2
      · exact same _ _ (ht.put hv _) h2
    · rename_i c u hu
      have h2:=run_ite h
      cases c
      · exact (run_fail h2).elim
      · obtain ⟨u',hr,hv⟩:=opA_chk hE ht hu rfl w
        rw [hr,Oper.upon_value,act_put]
        exact same _ _ (ht.put hv _) h2
    · rename_i x hu
      cases h with
      | opt _ _ u hx hk2=>
        obtain ⟨u',hr,hv⟩:=opA_opt ht hH hu hx
        rw [hr,Oper.upon_value,act_put]
        exact same _ _ (ht.put hv _) hk2
    · rename_i g args hu
      cases h with
      | call _ sel H0 args0 _ _ u hF hfl hs hcc hsn hok hk2=>
        obtain ⟨args',hr,ha⟩:=opA_enter (E:=E) ht hu hF.1 w
        rw [hr,Oper.upon_enter]
        refine (call_reads hH hF hfl hs hcc hsn hok ha).mono ?_
        rintro e w' ⟨rfl,hb⟩
        show KK ((act t').put o.dst u) w'
        rw [act_put]
        exact next [] _ _ H w' (by simpa using ht.put (VR.refl_of_flat _ hfl) o.dst) (by simpa using hH.below hb) (by simp) (Kept.of_below hb) hk2
      | new _ _ _ _ S hF hS hok hk2=>
        obtain ⟨args',hr,ha⟩:=opA_enter (E:=E) ht hu hF.1 w
        rw [hr,Oper.upon_enter]
        refine (call_new hH hF hS hok ha).mono ?_
        rintro e w' ⟨u,X,v',n',rfl,hv,hH',hn',hk',hs⟩
        show KK ((act t').put o.dst v') w'
        rw [act_put]
        exact next n' _ _ _ w' ((ht.mono n').put hv _) hH' hn' hk' (hk2 u X hs)
      | chg _ zs xs Z X0 args0 _ _ S hF hz hzc hx hcc hsn hok hS hk2=>
        obtain ⟨args',hr,ha⟩:=opA_enter (E:=E) ht hu hF.1 w
        rw [hr,Oper.upon_enter]
        refine (call_chg hH hF hz hzc hx hcc hsn hok hS ha).mono ?_
        rintro e w' ⟨u,X,v',n',rfl,hv,hH',hn',hk',hs'⟩
        show KK ((act t').put o.dst v') w'
        rw [act_put]
        exact next n' _ _ _ w' ((ht.mono n').put hv _) hH' hn' hk' (hk2 u X hs')
    · exact (run_fail h).elim
  · have hw' : ¬ Region.wanted o (yielded ops (act t').tmps) = true:=by
      show ¬ Region.wanted o (yielded ops t') = true
      simp [hw]
    rw [if_neg hw',act_put]
    exact same _ _ (ht.put (VR.undef _) _) h
theorem early_yields (hE : EqsOk P E) {ops : Array Oper} {o : Oper} (hf : opFree o = true) {Kt : Array Value → T} {R : Value → List Blk → Prop} {m : List Nat} {t t' : Array Value} {H : List Blk} {w : World}
    (ht : RA m t t') (h : Run P f R (guarded ops o t (fun t=>stepV P E o t H Kt) (fun t=>Kt (putA t o.dst undef)))) :
    ∃ v u,Yields P ops o v (act t') ∧ VR m u v ∧ Run P f R (Kt (putA t o.dst u)):=by
  have vac : ∀ w,opFree o = false → RH m H w:=fun w e=>by rw [hf] at e; cases e
  have quiet : ∀ (u u' : Value),VR m u u' → (∀ w',∃ x,(execOp (act t').eval o).run P w' = .ok (.value x) w' ∧ VR m u x) → ∀ w',(execOp (act t').eval o).run P w' = .ok (.value u') w':=fun u u' hu hr w'=>by
    obtain ⟨x,hx,hv⟩:=hr w'
    rw [hx,hv.fn hu]
  rcases guarded_run ht h with ⟨hw,h⟩ | ⟨hw,h⟩
  · unfold stepV at h
    split at h
    · rename_i u hu
      obtain ⟨u',_,hv⟩:=opA_val (w:=w) ht (vac w) hE hu
      exact ⟨u',u,.inl ⟨hw,quiet u u' hv fun w'=>opA_val ht (vac w') hE hu⟩,hv,h⟩
    · rename_i c x y hu
      obtain ⟨u',_,hv⟩:=opA_pick (E:=E) ht hu w
      have h2:=run_ite h
      cases c
      · exact ⟨u',y,.inl ⟨hw,quiet y u' hv fun w'=>opA_pick (E:=E) ht hu w'⟩,hv,h2⟩
      · exact ⟨u',x,.inl ⟨hw,quiet x u' hv fun w'=>opA_pick (E:=E) ht hu w'⟩,hv,h2⟩
    · rename_i c u hu
      have h2:=run_ite h
      cases c
      · exact (run_fail h2).elim
      · obtain ⟨u',_,hv⟩:=opA_chk hE ht hu rfl w
        exact ⟨u',u,.inl ⟨hw,quiet u u' hv fun w'=>opA_chk hE ht hu rfl w'⟩,hv,h2⟩
    · exact (run_fail h).elim
  · exact ⟨undef,undef,.inr ⟨hw,rfl⟩,VR.undef _,h⟩
theorem anyA_run (hE : EqsOk P E) {ops : Array Oper} (hsel : Region.noSelect ops = true) {K : Array Value → List Blk → T} {R : Value → List Blk → Prop} {m0 : List Nat} {w0 : World} :
    ∀ (fuel : Nat) (listed : Array Bool) (n : List Nat) (t t' : Array Value) (H : List Blk) (w : World),RA (m0 ++ n) t t' → RH (m0 ++ n) H w → (∀ j ∈ n,w0.heap.size ≤ j) → Kept m0 w0 w →
      Run P f R (anyA P E ops K fuel listed t H) → wpAny P .any ops (QN P f m0 w0 K R) fuel listed (act t') w
  | 0,listed,n,t,t',H,w,ht,hH,hn,hk,h=>by
    unfold anyA at h
    split at h
    · rename_i hr
      exact ⟨by simpa using hr,rfl,n,t,t',H,rfl,ht,hH,hn,hk,h⟩
    · exact (run_fail h).elim
  | fuel + 1,listed,n,t,t',H,w,ht,hH,hn,hk,h=>by
    unfold anyA at h
    split at h
    · rename_i hr
      exact ⟨fun _=>⟨rfl,n,t,t',H,rfl,ht,hH,hn,hk,h⟩,fun i hi=>by rw [hr] at hi; cases hi⟩
    · rename_i rs hne
      split at h
      · rename_i i hfi
        have hi:=List.mem_of_find?_eq_some hfi
        have he:=List.find?_some hfi
        cases ho : ops[i]? with
        | none=>simp only [ho] at h; exact (run_fail h).elim
        | some o=>
          simp only [ho] at h
          unfold early at he
          simp only [ho,Bool.and_eq_true] at he
          obtain ⟨v,u,hy,hv,h2⟩:=early_yields (w:=w) hE he.1 ht h
          refine wpAny_take ho hsel he.2 (by simpa using hi) (fun c a w h=>by cases h.1) hy ?_
          rw [act_put]
          exact anyA_run hE hsel fuel _ n _ _ H w (ht.put hv _) hH hn hk h2
      · refine ⟨fun h0=>absurd h0 hne,fun i hi=>?_⟩
        have h1:=run_bothL h (List.mem_map_of_mem hi)
        unfold wpOp
        cases ho : ops[i]? with
        | none=>simp only [ho] at h1; exact (run_fail h1).elim
        | some o=>
          simp only [ho] at h1
          exact step_wp hE ht hH (fun n' t2 t2' H2 w2 a1 a2 a3 a4 a5=>by
            refine anyA_run hE hsel fuel _ (n ++ n') t2 t2' H2 w2 (by rw [← List.append_assoc]; exact a1) (by rw [← List.append_assoc]; exact a2) (fun j hj=>?_) (hk.trans a4 hn) a5
            rcases List.mem_append.1 hj with hj | hj
            · exact hn j hj
            · exact Nat.le_trans hk.size (a3 j hj)) h1
def regionO (P : Program) (E : Eqs) (ops : Array Oper) (draw : Bool) (K : Array Value → List Blk → T) (t : Array Value) (H : List Blk) : T:=
  if draw && (Region.noSelect ops && ops.toList.any fun o=>isMaker o || isLoud P o) then anyA P E ops K ops.size (Array.replicate ops.size false) t H
  else regionW P E ops draw K t H
theorem regionO_run (hE : EqsOk P E) (hm : P.follows .mixedOrders = true) {id : Nat} {ops : Array Oper} {draw : Bool} {K : Array Value → List Blk → T} {R : Value → List Blk → Prop} {m : List Nat} {t t' : Array Value} {H : List Blk} {w : World}
    (ht : RA m t t') (hH : RH m H w) (h : Run P f R (regionO P E ops draw K t H)) : (Code.region id ops draw).wp P (QN P f m w K R) (act t') w:=by
  unfold regionO at h
  split at h
  · rename_i hd
    simp only [Bool.and_eq_true] at hd
    rw [hd.1]
    have hH1 : RH m H { w with drawn:=w.drawn + 1 }:=⟨hH.len,hH.nodup,hH.blk,hH.inv.keep (Nat.le_refl _) (fun _ _=>rfl),hH.far⟩
    refine wp_region_any hm ?_
    exact anyA_run hE hd.2.1 _ _ [] t t' H _ (by simpa using ht) (by simpa using hH1) (by simp) (Kept.drewn _ _) h
  · exact regionW_run hE hm ht hH h
end
end Go.Proofs.YtfhnlkinjbakgaaGreatDoor.Abs
namespace Go.Proofs.YtfhnlkinjbakgaaGreatDoor.Abs
open Go
structure IK (k : IntKind) where
  val : Int
  ok : k.min ≤ val ∧ val ≤ k.max
theorem IK.eq {k : IntKind} {x y : IK k} (h : x.val = y.val) : x = y:=by
  cases x; cases y; cases h; rfl
theorem wrap_in (k : IntKind) (n : Int) : k.min ≤ k.wrap n ∧ k.wrap n ≤ k.max:=by
  cases k <;> simp only [IntKind.wrap,IntKind.min,IntKind.max,IntKind.bits,IntKind.signed] <;> simp <;> (try split) <;> omega
abbrev I64:=IK .i64
abbrev U64:=IK .u64
abbrev U8:=IK .u8
theorem I64.lo (x : I64) : -9223372036854775808 ≤ x.val:=x.ok.1
theorem I64.hi (x : I64) : x.val ≤ 9223372036854775807:=x.ok.2
theorem U64.lo (x : U64) : 0 ≤ x.val:=x.ok.1
theorem U64.hi (x : U64) : x.val ≤ 18446744073709551615:=x.ok.2
def w64 (n : Int) : I64:=⟨IntKind.i64.wrap n,wrap_in _ _⟩
def wu64 (n : Int) : U64:=⟨IntKind.u64.wrap n,wrap_in _ _⟩
def wu8 (n : Int) : U8:=⟨IntKind.u8.wrap n,wrap_in _ _⟩
theorem w64_val (n : Int) : (w64 n).val = (n + 9223372036854775808) % 18446744073709551616 - 9223372036854775808:=IntKind.wrap_i64 n
theorem wu64_val (n : Int) : (wu64 n).val = n % 18446744073709551616:=IntKind.wrap_u64 n
def c64 (n : Int) (h : IntKind.i64.min ≤ n ∧ n ≤ IntKind.i64.max:=by decide) : I64:=⟨n,h⟩
def cu64 (n : Int) (h : IntKind.u64.min ≤ n ∧ n ≤ IntKind.u64.max:=by decide) : U64:=⟨n,h⟩
def cu8 (n : Int) (h : IntKind.u8.min ≤ n ∧ n ≤ IntKind.u8.max:=by decide) : U8:=⟨n,h⟩
theorem c64_val (n : Int) (h : IntKind.i64.min ≤ n ∧ n ≤ IntKind.i64.max) : (c64 n h).val = n:=rfl
theorem cu64_val (n : Int) (h : IntKind.u64.min ≤ n ∧ n ≤ IntKind.u64.max) : (cu64 n h).val = n:=rfl
def listAt (L : List I64) (i : I64) : I64:=L.getD i.val.toNat (c64 0)
def mx {k : IntKind} (x y : IK k) : IK k:=⟨if y.val > x.val then y.val else x.val,by split; exact y.ok; exact x.ok⟩
def mn {k : IntKind} (x y : IK k) : IK k:=⟨if y.val < x.val then y.val else x.val,by split; exact y.ok; exact x.ok⟩
theorem mx_val {k : IntKind} (x y : IK k) : (mx x y).val = if y.val > x.val then y.val else x.val:=rfl
theorem mn_val {k : IntKind} (x y : IK k) : (mn x y).val = if y.val < x.val then y.val else x.val:=rfl
def iand (k : IntKind) (x y : Int) : IK k:=⟨k.wrap (BitVec.ofInt k.bits x &&& BitVec.ofInt k.bits y).toNat,wrap_in _ _⟩
def ior (k : IntKind) (x y : Int) : IK k:=⟨k.wrap (BitVec.ofInt k.bits x ||| BitVec.ofInt k.bits y).toNat,wrap_in _ _⟩
def ixor (k : IntKind) (x y : Int) : IK k:=⟨k.wrap (BitVec.ofInt k.bits x ^^^ BitVec.ofInt k.bits y).toNat,wrap_in _ _⟩
def inot (k : IntKind) (x : Int) : IK k:=ixor k (if k.signed then -1 else k.max) x
def ishl (k : IntKind) (x y : Int) : IK k:=⟨k.wrap (x * 2 ^ (min y.toNat k.bits)),wrap_in _ _⟩
theorem fdiv_in {k : IntKind} (x : IK k) (n : Nat) : k.min ≤ x.val.fdiv (2 ^ n) ∧ x.val.fdiv (2 ^ n) ≤ k.max:=by
  have h:=x.ok
  generalize x.val = v at h
  have hp : (0 : Int) < 2 ^ n:=Int.pow_pos (by omega)
  rw [Int.fdiv_eq_ediv_of_nonneg _ (Int.le_of_lt hp)]
  have hmin : k.min ≤ 0:=by cases k <;> decide
  have hmax : 0 ≤ k.max:=by cases k <;> decide
  by_cases hv : 0 ≤ v
  · have h1 : v / 2 ^ n ≤ v:=Int.ediv_le_self _ hv
    have h2 : 0 ≤ v / 2 ^ n:=Int.ediv_nonneg hv (Int.le_of_lt hp)
    omega
  · have h1 : v ≤ v / 2 ^ n:=by
      rw [Int.le_ediv_iff_mul_le hp]
      have : v * 2 ^ n ≤ v * 1:=Int.mul_le_mul_of_nonpos_left (by omega) (by omega)
      omega
    have h2 : v / 2 ^ n < 0:=by
      rw [Int.ediv_lt_iff_lt_mul hp]
      omega
    omega
def ishr {k : IntKind} (x : IK k) (y : Int) : IK k:=⟨x.val.fdiv (2 ^ (min y.toNat k.bits)),fdiv_in x _⟩
theorem ishr_val {k : IntKind} (x : IK k) (y : Int) : (ishr x y).val = x.val.fdiv (2 ^ (min y.toNat k.bits)):=rfl
theorem tmod_in {k : IntKind} (x : IK k) (y : Int) : k.min ≤ x.val.tmod y ∧ x.val.tmod y ≤ k.max:=by
  have h:=x.ok
  generalize x.val = v at h
  have hmin : k.min ≤ 0:=by cases k <;> decide
  have hmax : 0 ≤ k.max:=by cases k <;> decide
  have h1 : (v.tmod y).natAbs ≤ v.natAbs:=by rw [Int.natAbs_tmod]; exact Nat.mod_le _ _
  by_cases hv : 0 ≤ v
  · have:=Int.tmod_nonneg y hv
    omega
  · have : v.tmod y ≤ 0:=by
      have:=Int.tmod_nonneg (a:=-v) y (by omega)
      rw [Int.neg_tmod] at this
      omega
    omega
def imod {k : IntKind} (x : IK k) (y : Int) : IK k:=⟨x.val.tmod y,tmod_in x y⟩
theorem imod_val {k : IntKind} (x : IK k) (y : Int) : (imod x y).val = x.val.tmod y:=rfl
theorem mod64_in (x : Int) : IntKind.u64.min ≤ x % 18446744073709551616 ∧ x % 18446744073709551616 ≤ IntKind.u64.max:=by
  rw [← IntKind.wrap_u64]
  exact wrap_in _ _
def adc_lo (x y c : U64) : U64:=⟨(x.val + y.val + c.val) % 18446744073709551616,mod64_in _⟩
def adc_hi (x y c : U64) : U64:=⟨(x.val + y.val + c.val) / 18446744073709551616,by have:=x.lo; have:=x.hi; have:=y.lo; have:=y.hi; have:=c.lo; have:=c.hi; refine ⟨?_,?_⟩ <;> simp only [IntKind.min,IntKind.max,IntKind.signed,IntKind.bits] <;> simp <;> omega⟩
def sbb_lo (x y c : U64) : U64:=⟨(x.val - y.val - c.val) % 18446744073709551616,mod64_in _⟩
def sbb_hi (x y c : U64) : U64:=⟨if x.val < y.val + c.val then 1 else 0,by split <;> decide⟩
theorem sbb_hi_le (x y c : U64) : (sbb_hi x y c).val ≤ 1:=by
  show (if x.val < y.val + c.val then 1 else 0 : Int) ≤ 1
  split <;> decide
theorem adc_lo_val (x y c : U64) : (adc_lo x y c).val = (x.val + y.val + c.val) % 18446744073709551616:=rfl
theorem adc_hi_val (x y c : U64) : (adc_hi x y c).val = (x.val + y.val + c.val) / 18446744073709551616:=rfl
theorem sbb_lo_val (x y c : U64) : (sbb_lo x y c).val = (x.val - y.val - c.val) % 18446744073709551616:=rfl
theorem sbb_hi_val (x y c : U64) : (sbb_hi x y c).val = if x.val < y.val + c.val then 1 else 0:=rfl
structure Iv where
  lo : I64
  hi : I64
structure Wd where
  hi : I64
  lo : U64
structure Vc where
  x : Iv
  y : Iv
  z : Iv
structure Mt where
  a : Vc
  b : Vc
  c : Vc
structure Pt where
  lat : I64
  lon : I64
structure El where
  a : I64
  num : I64
  den : I64
structure Pl where
  point : Pt
  height : I64
structure Pn where
  x : Iv
  y : Iv
structure Sf where
  tx : I64
  ty : I64
  tz : I64
  rx : I64
  ry : I64
  rz : I64
  sc : I64
structure Af where
  m : Mt
  t : Vc
def vI (n : I64) : Value:=.int .i64 n.val
def vU (n : U64) : Value:=.int .u64 n.val
def vB (b : Bool) : Value:=.bool b
def vIv (a : Iv) : Value:=.agg #[.int .i64 a.lo.val,.int .i64 a.hi.val]
def vWd (a : Wd) : Value:=.agg #[.int .i64 a.hi.val,.int .u64 a.lo.val]
def vVc (a : Vc) : Value:=.agg #[.int .i64 a.x.lo.val,.int .i64 a.x.hi.val,.int .i64 a.y.lo.val,.int .i64 a.y.hi.val,.int .i64 a.z.lo.val,.int .i64 a.z.hi.val]
def vMt (a : Mt) : Value:=.agg #[.int .i64 a.a.x.lo.val,.int .i64 a.a.x.hi.val,.int .i64 a.a.y.lo.val,.int .i64 a.a.y.hi.val,.int .i64 a.a.z.lo.val,.int .i64 a.a.z.hi.val,.int .i64 a.b.x.lo.val,.int .i64 a.b.x.hi.val,.int .i64 a.b.y.lo.val,.int .i64 a.b.y.hi.val,.int .i64 a.b.z.lo.val,.int .i64 a.b.z.hi.val,.int .i64 a.c.x.lo.val,.int .i64 a.c.x.hi.val,.int .i64 a.c.y.lo.val,.int .i64 a.c.y.hi.val,.int .i64 a.c.z.lo.val,.int .i64 a.c.z.hi.val]
def vPt (a : Pt) : Value:=.agg #[.int .i64 a.lat.val,.int .i64 a.lon.val]
def vEl (a : El) : Value:=.agg #[.int .i64 a.a.val,.int .i64 a.num.val,.int .i64 a.den.val]
def vPl (a : Pl) : Value:=.agg #[.int .i64 a.point.lat.val,.int .i64 a.point.lon.val,.int .i64 a.height.val]
def vSf (a : Sf) : Value:=.agg #[.int .i64 a.tx.val,.int .i64 a.ty.val,.int .i64 a.tz.val,.int .i64 a.rx.val,.int .i64 a.ry.val,.int .i64 a.rz.val,.int .i64 a.sc.val]
def vAf (a : Af) : Value:=.agg #[.int .i64 a.m.a.x.lo.val,.int .i64 a.m.a.x.hi.val,.int .i64 a.m.a.y.lo.val,.int .i64 a.m.a.y.hi.val,.int .i64 a.m.a.z.lo.val,.int .i64 a.m.a.z.hi.val,.int .i64 a.m.b.x.lo.val,.int .i64 a.m.b.x.hi.val,.int .i64 a.m.b.y.lo.val,.int .i64 a.m.b.y.hi.val,.int .i64 a.m.b.z.lo.val,.int .i64 a.m.b.z.hi.val,.int .i64 a.m.c.x.lo.val,.int .i64 a.m.c.x.hi.val,.int .i64 a.m.c.y.lo.val,.int .i64 a.m.c.y.hi.val,.int .i64 a.m.c.z.lo.val,.int .i64 a.m.c.z.hi.val,.int .i64 a.t.x.lo.val,.int .i64 a.t.x.hi.val,.int .i64 a.t.y.lo.val,.int .i64 a.t.y.hi.val,.int .i64 a.t.z.lo.val,.int .i64 a.t.z.hi.val]
def bindP {α β : Type} (x : α) (φ : α → β) : β:=φ x
end Go.Proofs.YtfhnlkinjbakgaaGreatDoor.Abs
namespace Go.Proofs.YtfhnlkinjbakgaaGreatDoor.Abs
open Go Go.RowKit
def isAppend (o : Oper) : Bool:=
  match o.op with
  | .call c=>match c.callee with
    | .builtin .append=>true
    | _=>false
  | _=>false
def exec (P : Program) (E : Eqs) (fn : Func) : Nat → List Item → Array Value → List Blk → T
  | 0,_,_,_=>.fail
  | _ + 1,[],t,H=>retA P fn t H
  | _ + 1,.code .ret :: _,t,H=>retA P fn t H
  | k + 1,.code .skip :: r,t,H=>exec P E fn k r t H
  | k + 1,.code (.label _) :: r,t,H=>exec P E fn k r t H
  | k + 1,.inBlock _ :: r,t,H=>exec P E fn k r t H
  | k + 1,.code (.seq a b) :: r,t,H=>exec P E fn k (.code a :: .code b :: r) t H
  | k + 1,.code (.cond (.tmp d) x y) :: r,t,H=>
    match t[d]? with
    | some (.bool b)=>.ite b (exec P E fn k (.code x :: r) (t.setIfInBounds d (.bool true)) H) (exec P E fn k (.code y :: r) (t.setIfInBounds d (.bool false)) H)
    | _=>.fail
  | k + 1,.code (.cond (.const (.bool b)) x y) :: r,t,H=>exec P E fn k (.code (if b then x else y) :: r) t H
  | k + 1,.code (.block id body) :: r,t,H=>exec P E fn k (.code body :: .inBlock id :: r) t H
  | _ + 1,.code (.loop body) :: r,t,H=>.head (.code body :: .inLoop body :: r) t H
  | _ + 1,.inLoop body :: r,t,H=>.head (.code body :: .inLoop body :: r) t H
  | k + 1,.code (.exit id) :: r,t,H=>
    match exitTo id r with
    | some r'=>exec P E fn k r' t H
    | none=>.fail
  | k + 1,.code (.region id ops draw) :: r,t,H=>if ops.toList.any isAppend then .head (.code (.region id ops draw) :: r) t H else regionO P E ops draw (fun t H=>exec P E fn k r t H) t H
  | _ + 1,_,_,_=>.fail
section
variable {P : Program} {E : Eqs} {f : FuncId} {fn : Func}
theorem Cfg.onward {todo todo2 : List Item} {t t2 : Array Value} {H H2 : List Blk} {R : Value → List Blk → Prop}
    (hs : ∀ (m : List Nat) (t' : Array Value) (w : World),RA m t t' → RH m H w → ∀ (b : Frame) (cs : List Frame),∃ t2',RA m t2 t2' ∧ RH m H2 w ∧ Steps P (lone (b.at (act t') todo) cs w) (lone (b.at (act t2') todo2) cs w))
    (h : Cfg P f todo2 t2 H2 R) : Cfg P f todo t H R:=by
  intro m t' w ht hH b cs hb hk
  obtain ⟨t2',ht2,hH2,hst⟩:=hs m t' w ht hH b cs
  obtain ⟨w',fr,v,v',n,G,h1,h2⟩:=h m t2' w ht2 hH2 b cs hb hk
  exact ⟨w',fr,v,v',n,G,hst.trans h1,h2⟩
theorem Cfg.same {todo todo2 : List Item} {t : Array Value} {H : List Blk} {R : Value → List Blk → Prop}
    (hs : ∀ (t' : Array Value) (w : World) (b : Frame) (cs : List Frame),step P (lone (b.at (act t') todo) cs w) = .next (lone (b.at (act t') todo2) cs w))
    (h : Cfg P f todo2 t H R) : Cfg P f todo t H R:=
  Cfg.onward (fun _ t' w ht hH b cs=>⟨t',ht,hH,.one (hs t' w b cs)⟩) h
def resS (t' : Array Value) (rv : ResultVar) : Sem Value:=
  match rv with
  | .tmp i=>pure (t'.getD i undef)
  | .cell a T=>do loadVar T (← asAddr (t'.getD a undef))
theorem results_eq (fn : Func) (t' : Array Value) : results fn t' = (fn.results.mapM (resS t') >>= fun vs=>pure (if h : vs.size = 1 then vs[0] else .tuple vs)):=by
  unfold results
  congr 1
theorem resA_run {m : List Nat} {t t' : Array Value} {H : List Blk} {w : World} (ht : RA m t t') (hH : RH m H w) {rv : ResultVar} {v : Value} (h : resA P t H rv = some v) :
    ∃ v',(resS t' rv).run P w = .ok v' w ∧ VR m v v':=by
  cases rv with
  | tmp i=>simp only [resA,Option.some.injEq] at h; subst h; exact ⟨_,rfl,ht.getD i⟩
  | cell a T=>
    simp only [resA] at h
    obtain ⟨v',hr,hv⟩:=loadA_run hH (ht.getD a) h
    refine ⟨v',?_,hv⟩
    unfold resS
    simp only
    generalize t'.getD a undef = q at hr ⊢
    unfold Instr.loadAt Instr.sureAddr at hr
    cases q with
    | pointer x=>cases x with
      | none=>simp [stuck] at hr
      | some x=>simpa [asAddr] using hr
    | _=>simp [stuck] at hr
theorem mapM_run {m : List Nat} {t t' : Array Value} {H : List Blk} {w : World} (ht : RA m t t') (hH : RH m H w) : ∀ {l : List ResultVar} {vs : List Value},l.mapM (resA P t H) = some vs →
    ∃ vs',(l.mapM (resS t')).run P w = .ok vs' w ∧ vs'.length = vs.length ∧ ∀ (i : Nat) (v v' : Value),vs[i]? = some v → vs'[i]? = some v' → VR m v v':=by
  intro l
  induction l with
  | nil=>intro vs h; simp at h; subst h; exact ⟨[],rfl,rfl,fun i v v' h1=>by simp at h1⟩
  | cons x l ih=>
    intro vs h
    simp only [List.mapM_cons,Option.bind_eq_bind,Option.bind_eq_some_iff,Option.pure_def,Option.some.injEq] at h
    obtain ⟨v,hv,us,hus,rfl⟩:=h
    obtain ⟨v',hr,hvr⟩:=resA_run ht hH hv
    obtain ⟨us',hr2,hl,hus'⟩:=ih hus
    refine ⟨v' :: us',?_,by simp [hl],fun i u u' h1 h2=>?_⟩
    · simp only [List.mapM_cons,Sem.run_bind,hr,Result.andThen_ok,hr2]; rfl
    · cases i with
      | zero=>simp at h1 h2; subst h1; subst h2; exact hvr
      | succ i=>simp at h1 h2; exact hus' i u u' h1 h2
theorem retA_run {m : List Nat} {t t' : Array Value} {H : List Blk} {w : World} (ht : RA m t t') (hH : RH m H w) {R : Value → List Blk → Prop} (h : Run P f R (retA P fn t H)) :
    ∃ v v',(results fn t').run P w = .ok v' w ∧ VR m v v' ∧ R v H:=by
  unfold retA at h
  have key : ∀ vs,fn.results.toList.mapM (resA P t H) = some vs → ∃ vs' : List Value,(results fn t').run P w = .ok (if h : vs'.toArray.size = 1 then vs'.toArray[0] else .tuple vs'.toArray) w ∧ vs'.length = vs.length ∧ ∀ (i : Nat) (v v' : Value),vs[i]? = some v → vs'[i]? = some v' → VR m v v':=fun vs hvs=>by
    obtain ⟨vs',hr,hl,hv⟩:=mapM_run ht hH hvs
    refine ⟨vs',?_,hl,hv⟩
    rw [results_eq,Array.mapM_eq_mapM_toList]
    simp only [Sem.run_bind,Sem.run_map,hr,Result.andThen_ok]
    rfl
  split at h
  · rename_i u hu
    obtain ⟨vs',hr,hl,hv⟩:=key _ hu
    cases h with | ret _ _ hR=>?_
    have : ∃ u',vs' = [u']:=by
      cases vs' with
      | nil=>simp at hl
      | cons a l=>cases l with
        | nil=>exact ⟨a,rfl⟩
        | cons b l=>simp at hl
    obtain ⟨u',rfl⟩:=this
    exact ⟨u,u',by simpa using hr,hv 0 _ _ rfl rfl,hR⟩
  · rename_i us hne hus
    obtain ⟨vs',hr,hl,hv⟩:=key _ hus
    cases h with | ret _ _ hR=>?_
    have hn1 : vs'.toArray.size ≠ 1:=by
      intro e
      have e1 : us.length = 1:=by rw [← hl]; simpa using e
      obtain ⟨u,rfl⟩:=List.length_eq_one_iff.1 e1
      exact hne u rfl
    refine ⟨.tuple us.toArray,.tuple vs'.toArray,by rw [hr,dif_neg hn1],.tuple _ _ (by simp [hl]) fun i v v' h1 h2=>hv i v v' (by simpa using h1) (by simpa using h2),hR⟩
  · exact (run_fail h).elim
theorem Cfg.of_leave {todo : List Item} {t : Array Value} {H : List Blk} {R : Value → List Blk → Prop} (hf : P.funcs[f]? = some fn)
    (hs : ∀ (t' : Array Value) (w : World) (b : Frame) (cs : List Frame),∃ td,step P (lone (b.at (act t') todo) cs w) = .next (lone { b.at (act t') td with mode:=.returning } cs w))
    (h : Run P f R (retA P fn t H)) : Cfg P f todo t H R:=by
  intro m t' w ht hH b cs hb hk
  obtain ⟨v,v',hr,hv,hR⟩:=retA_run ht hH h
  obtain ⟨td,hst⟩:=hs t' w b cs
  exact ⟨w,{ b.at (act t') td with mode:=.returning },v,v',[],H,.one hst,hb,⟨rfl,rfl,hk,fn,by rw [← hb] at hf; exact hf,hr⟩,by simpa using hv,by simpa using hH,by simp,Kept.refl _ _,hR⟩
theorem exec_cfg (hE : EqsOk P E) (hm : P.follows .mixedOrders = true) (hf : P.funcs[f]? = some fn) : ∀ (k : Nat) (todo : List Item) (t : Array Value) (H : List Blk) (R : Value → List Blk → Prop),
    Run P f R (exec P E fn k todo t H) → Cfg P f todo t H R:=by
  intro k
  induction k with
  | zero=>intro todo t H R h; exact (run_fail h).elim
  | succ k ih=>
    intro todo t H R h
    have cond_ : ∀ (d : Tmp) (x y : Code) (r : List Item) (b : Bool),t[d]? = some (.bool b) → Cfg P f (.code (if b then x else y) :: r) t H R → Cfg P f (.code (.cond (.tmp d) x y) :: r) t H R:=fun d x y r b hd h2=>
      Cfg.onward (fun m t' w ht hH fr cs=>⟨t',ht,hH,.one (step_cond (by
        have:=ht.getD d
        rw [show t.getD d undef = .bool b by simp [Array.getD_eq_getD_getElem?,hd]] at this
        exact this.eq_of_flat rfl))⟩) h2
    unfold exec at h
    split at h
    case h_1 h0=>cases h0
    case h_2=>exact Cfg.of_leave hf (fun _ _ _ _=>⟨_,step_end⟩) h
    case h_3=>exact Cfg.of_leave hf (fun _ _ _ _=>⟨_,step_ret⟩) h
    case h_4 k' r h0=>cases h0; exact Cfg.same (fun _ _ _ _=>step_skip) (ih _ _ _ _ h)
    case h_5 k' l r h0=>cases h0; exact Cfg.same (fun _ _ _ _=>step_label) (ih _ _ _ _ h)
    case h_6 k' id r h0=>cases h0; exact Cfg.same (fun _ _ _ _=>step_inBlock) (ih _ _ _ _ h)
    case h_7 k' a b r h0=>cases h0; exact Cfg.same (fun _ _ _ _=>step_seq) (ih _ _ _ _ h)
    case h_8 k' d x y r h0=>
      cases h0
      split at h
      · rename_i b hd
        refine cond_ d x y r b hd ?_
        have h2:=run_ite h
        cases b with
        | true=>simp only [if_true,set_self hd] at h2; exact ih _ _ _ _ h2
        | false=>simp only [Bool.false_eq_true,if_false,set_self hd] at h2; exact ih _ _ _ _ h2
      · exact (run_fail h).elim
    case h_9 k' b x y r h0=>cases h0; exact Cfg.same (fun _ _ _ _=>step_cond rfl) (ih _ _ _ _ h)
    case h_10 k' id body r h0=>cases h0; exact Cfg.same (fun _ _ _ _=>step_block) (ih _ _ _ _ h)
    case h_11 k' body r h0=>
      cases h with
      | head _ _ _ h=>exact Cfg.same (fun _ _ _ _=>step_loop) h
    case h_12 k' body r h0=>
      cases h with
      | head _ _ _ h=>exact Cfg.same (fun _ _ _ _=>step_inLoop) h
    case h_13 k' id r h0=>
      cases h0
      split at h
      · rename_i r' hr
        exact Cfg.same (fun _ _ _ _=>step_exit hr) (ih _ _ _ _ h)
      · exact (run_fail h).elim
    case h_14 k' id ops draw r h0=>
      cases h0
      split at h
      · cases h with
        | head _ _ _ h=>exact h
      intro m t' w ht hH b cs hb hk
      obtain ⟨e,a',w1,⟨rfl,n,t2,t2',H2,rfl,ht2,hH2,hn,hk2,h2⟩,harr⟩:=regionO_run (id:=id) hE hm ht hH h b r cs
      have harr' : Steps P (lone (b.at (act t') (.code (.region id ops draw) :: r)) cs w) (lone (b.at (act t2') r) cs w1):=harr
      obtain ⟨w',fr,v,v',n',G,h3,h4,h5,h6,h7,h8,h9,h10⟩:=ih _ _ _ _ h2 (m ++ n) t2' w1 ht2 hH2 b cs hb hk
      refine ⟨w',fr,v,v',n ++ n',G,harr'.trans h3,h4,h5,by rw [← List.append_assoc]; exact h6,by rw [← List.append_assoc]; exact h7,fun j hj=>?_,hk2.trans h9 hn,h10⟩
      rcases List.mem_append.1 hj with hj | hj
      · exact hn j hj
      · exact Nat.le_trans hk2.size (h8 j hj)
    case h_15=>exact (run_fail h).elim
theorem Fun.of_cfg {c : Code} {H : List Blk} {args : Array Value} {R : Value → List Blk → Prop} (hf : P.funcs[f]? = some fn) (hb : fn.body = some c) (hn : (fn.name == "runtime.NumGoroutine") = false)
    (h : Cfg P f [.code c] (args ++ Array.replicate (fn.ntmps - args.size) undef) H R) : Callable P f ∧ ∀ (m : List Nat) (args' : Array Value) (w : World),RA m args args' → RH m H w →
      Calls P f args' w fun e w'=>∃ v v' n G,e = .returned v' ∧ VR (m ++ n) v v' ∧ RH (m ++ n) G w' ∧ (∀ j ∈ n,w.heap.size ≤ j) ∧ Kept m w w' ∧ R v G:=by
  refine ⟨⟨fn,hf,hn,by rw [hb]; rfl⟩,fun m args' w ha hH cs=>?_⟩
  let b : Frame:={ (default : Frame) with fn:=f,kind:=.normal }
  have henter : Frame.enter P f args' .normal = b.at (act (args' ++ Array.replicate (fn.ntmps - args'.size) undef)) [.code c]:=by
    simp [Frame.enter,Frame.at,hf,hb,b,act]
  have ht : RA m (args ++ Array.replicate (fn.ntmps - args.size) undef) (args' ++ Array.replicate (fn.ntmps - args'.size) undef):=by
    have hs:=ha.size
    refine ⟨by simp; omega,fun i v v' h1 h2=>?_⟩
    rw [Array.getElem?_append] at h1 h2
    by_cases hi : i < args.size
    · rw [if_pos hi] at h1
      rw [if_pos (by omega)] at h2
      exact ha.at_ i v v' h1 h2
    · rw [if_neg hi,Array.getElem?_replicate] at h1
      rw [if_neg (by omega),Array.getElem?_replicate] at h2
      split at h1
      · rw [if_pos (by omega)] at h2
        cases h1; cases h2
        exact VR.undef m
      · cases h1
  obtain ⟨w',fr,v,v',n,G,h1,h2,h3,h4,h5,h6,h7,h8⟩:=h m _ w ht hH b cs rfl rfl
  rw [← henter] at h1
  exact ⟨.returned v',w',fr,⟨v,v',n,G,rfl,h4,h5,h6,h7,h8⟩,h1,h2,h3⟩
theorem Fun.drop {H : List Blk} {args : Array Value} {v : Value} {X : List Blk} (h : Fun P f H args v (H ++ X)) (hv : flat v = true) : Fun P f H args v H:=by
  refine ⟨h.1,fun m args' w ha hH=>(h.2 m args' w ha hH).mono ?_⟩
  rintro e w' ⟨v',n,rfl,h1,h2,h3,h4⟩
  refine ⟨v',[],rfl,by rw [h1.eq_of_flat hv]; exact VR.refl_of_flat _ hv,?_,by simp,h4⟩
  rw [List.append_nil]
  refine ⟨hH.len,hH.nodup,fun i j b hj hb=>?_,h2.inv,hH.far⟩
  obtain ⟨cs,hc,hr⟩:=hH.blk i j b hj hb
  obtain ⟨cs',hc',hr'⟩:=h2.blk i j b (by rw [List.getElem?_append_left (List.getElem?_eq_some_iff.1 hj).1]; exact hj) (by rw [List.getElem?_append_left (List.getElem?_eq_some_iff.1 hb).1]; exact hb)
  have e : cs = cs':=by
    have q:=VR.fn (VR.mk_agg (hr.mono n)) (VR.mk_agg hr')
    injection q
  exact ⟨cs',hc',e ▸ hr⟩
end
def T.retOf : T → Option Value
  | .ret v _=>some v
  | _=>none
def T.heapOf : T → List Blk
  | .ret _ H=>H
  | _=>[]
def T.cond : T → Option Bool
  | .ite c _ _=>some c
  | _=>none
def T.yes : T → T
  | .ite _ a _=>a
  | _=>.fail
def T.no : T → T
  | .ite _ _ b=>b
  | _=>.fail
def T.conds : T → List Bool → Option (List Bool)
  | _,[]=>some []
  | .ite c a b,x :: l=>((_root_.cond x a b).conds l).map (c :: ·)
  | _,_=>none
def T.path : T → List Bool → T
  | t,[]=>t
  | .ite _ a b,x :: l=>(_root_.cond x a b).path l
  | _,_=>.fail
def T.callOf : T → Option (FuncId × Array Value)
  | .call f a _ _=>some (f,a)
  | .qcall f a _ _=>some (f,a)
  | _=>none
def T.seen : T → List Nat → Option (List Blk)
  | .call _ _ H _,sel=>sel.mapM (fun i=>H[i]?)
  | .qcall _ _ H _,sel=>sel.mapM (fun i=>H[i]?)
  | _,_=>none
def T.after : T → Value → T
  | .call _ _ H k,u=>k u H
  | .qcall _ _ _ k,u=>k u
  | _,_=>.fail
def T.made : T → Value → List Blk → T
  | .call _ _ H k,u,X=>k (shiftV H.length u) (H ++ X)
  | _,_,_=>.fail
def T.sawB : T → List Nat → Option (List Blk)
  | .call _ _ H _,sel=>sel.mapM (fun i=>H[i]?)
  | _,_=>none
def T.turned : T → List Nat → List Nat → Value → List Blk → T
  | .call _ _ H k,zs,xs,u,X=>k (renU (backF (zs ++ xs) H.length) u) (merge H zs xs X)
  | _,_,_,_,_=>.fail
def T.optOf : T → Option (Option Value)
  | .opt x _=>some x
  | _=>none
def T.got : T → Value → T
  | .opt _ k,v=>k v
  | _,_=>.fail
def T.isQ : T → Bool
  | .qcall ..=>true
  | _=>false
def T.isCall : T → Bool
  | .call ..=>true
  | _=>false
def Rv (v : Value) : Value → List Blk → Prop:=fun v' _=>v' = v
def RvH (H : List Blk) (v : Value) : Value → List Blk → Prop:=fun v' G=>v' = v ∧ ∃ X,G = H ++ X
section
variable {P : Program} {E : Eqs} {f : FuncId} {fn : Func} {tr : T} {v : Value} {R : Value → List Blk → Prop}
theorem Run.r (h : tr.retOf = some v) (hR : R v tr.heapOf) : Run P f R tr:=by
  cases tr <;> simp [T.retOf] at h
  subst h
  exact .ret _ _ hR
theorem Run.rv (h : tr.retOf = some v) : Run P f (Rv v) tr:=Run.r h rfl
theorem Run.rh {H : List Blk} {k : Nat} (h : tr.retOf = some v) (hk : tr.heapOf.take k = H) : Run P f (RvH H v) tr:=Run.r h ⟨rfl,tr.heapOf.drop k,by rw [← hk,List.take_append_drop]⟩
theorem Run.i {c : Bool} (h : tr.cond = some c) (ha : c = true → Run P f R tr.yes) (hb : c = false → Run P f R tr.no) : Run P f R tr:=by
  cases tr <;> simp [T.cond] at h
  subst h
  exact .ite _ _ _ ha hb
theorem Run.p : ∀ {tr : T} (l : List Bool),tr.conds l = some l → Run P f R (tr.path l) → Run P f R tr
  | _,[],_,hk=>hk
  | .ite c a b,x :: l,h,hk=>by
    simp only [T.conds,Option.map_eq_some_iff,List.cons.injEq] at h
    obtain ⟨l',h1,rfl,rfl⟩:=h
    simp only [T.path] at hk
    have h2:=Run.p l' h1 hk
    cases c
    · exact .ite _ _ _ (fun e=>by cases e) (fun _=>h2)
    · exact .ite _ _ _ (fun _=>h2) (fun e=>by cases e)
  | .ret ..,_ :: _,h,_=>by simp [T.conds] at h
  | .head ..,_ :: _,h,_=>by simp [T.conds] at h
  | .call ..,_ :: _,h,_=>by simp [T.conds] at h
  | .qcall ..,_ :: _,h,_=>by simp [T.conds] at h
  | .opt ..,_ :: _,h,_=>by simp [T.conds] at h
  | .fail,_ :: _,h,_=>by simp [T.conds] at h
  | .both ..,_ :: _,h,_=>by simp [T.conds] at h
theorem Run.t (h : tr.cond = some true) (ha : Run P f R tr.yes) : Run P f R tr:=Run.i h (fun _=>ha) (fun e=>by cases e)
theorem Run.n (h : tr.cond = some false) (ha : Run P f R tr.no) : Run P f R tr:=Run.i h (fun e=>by cases e) (fun _=>ha)
theorem Run.s {g : FuncId} {args : Array Value} {u : Value} (sel : List Nat) (H0 : List Blk) (h : tr.callOf = some (g,(args.toList.map (renum sel)).toArray)) (hs : tr.seen sel = some H0) (hc : H0.all (fun b=>b.1.toList.all flat) = true) (hn : sel.Nodup)
    (ho : args.toList.all (argOk sel.length) = true) (hF : Fun P g H0 args u H0) (hu : flat u = true) (hk : Run P f R (tr.after u)) : Run P f R tr:=by
  cases tr <;> simp [T.callOf] at h
  · obtain ⟨rfl,rfl⟩:=h
    exact .call _ sel H0 args _ _ u hF hu hs hc hn ho hk
  · obtain ⟨rfl,rfl⟩:=h
    exact .qcall _ sel H0 args _ _ u hF hu hs hc hn ho hk
theorem renum_flat (v : Value) (h : flat v = true) : renum [] v = v:=by
  cases v with
  | pointer a=>cases a with
    | none=>rfl
    | some a=>simp [flat,flat1] at h
  | slice a l c=>cases a with
    | none=>rfl
    | some a=>simp [flat,flat1] at h
  | func fn a c=>
    simp only [flat,Bool.and_eq_true,beq_iff_eq] at h
    have : c = #[]:=Array.eq_empty_of_size_eq_zero h.2
    subst this
    rfl
  | _=>rfl
theorem argOk_flat (v : Value) (h : flat v = true) : argOk 0 v = true:=by
  cases v with
  | pointer a=>cases a with
    | none=>rfl
    | some a=>simp [flat,flat1] at h
  | slice a l c=>cases a with
    | none=>rfl
    | some a=>simp [flat,flat1] at h
  | func fn a c=>
    simp only [flat,Bool.and_eq_true,beq_iff_eq] at h
    have : c = #[]:=Array.eq_empty_of_size_eq_zero h.2
    subst this
    simp [argOk,h.1]
  | _=>exact h
theorem Run.c {g : FuncId} {args : Array Value} {u : Value} (h : tr.callOf = some (g,args)) (ho : args.toList.all flat = true) (hF : Fun P g [] args u []) (hu : flat u = true) (hk : Run P f R (tr.after u)) : Run P f R tr:=by
  have e : (args.toList.map (renum [])).toArray = args:=by
    rw [List.map_congr_left (g:=id) (fun v hv=>renum_flat v (List.all_eq_true.1 ho v hv))]
    simp
  refine Run.s [] [] (by rw [e]; exact h) ?_ rfl List.nodup_nil (List.all_eq_true.2 fun v hv=>argOk_flat v (List.all_eq_true.1 ho v hv)) hF hu hk
  cases tr <;> simp [T.callOf] at h <;> rfl
theorem Run.ld {x : Option Value} {v : Value} (h0 : tr.optOf = some x) (h : x = some v) (hk : Run P f R (tr.got v)) : Run P f R tr:=by
  cases tr <;> simp [T.optOf] at h0
  subst h0
  exact .opt _ _ v h hk
def T.left : T → T
  | .both a _=>a
  | _=>.fail
def T.right : T → T
  | .both _ b=>b
  | _=>.fail
def T.isBoth : T → Bool
  | .both ..=>true
  | _=>false
theorem Run.o (h : tr.isBoth = true) (ha : Run P f R tr.left) (hb : Run P f R tr.right) : Run P f R tr:=by
  cases tr <;> simp [T.isBoth] at h
  exact .both _ _ ha hb
theorem Run.m {g : FuncId} {args : Array Value} {u : Value} {X : List Blk} (h : tr.callOf = some (g,args)) (hc : tr.isCall = true) (hF : Fun P g [] args u X) (hu : newOk u = true) (hX : X.all (fun b=>b.1.toList.all calm) = true) (ho : args.toList.all flat = true)
    (hk : Run P f R (tr.made u X)) : Run P f R tr:=by
  cases tr <;> simp [T.callOf] at h <;> simp [T.isCall] at hc
  obtain ⟨rfl,rfl⟩:=h
  exact .new _ _ _ _ _ hF.toR (by rintro _ _ ⟨rfl,rfl⟩; exact ⟨hu,hX⟩) ho (by rintro _ _ ⟨rfl,rfl⟩; exact hk)
theorem Run.mr {g : FuncId} {args : Array Value} {S : Value → List Blk → Prop} (h : tr.callOf = some (g,args)) (hc : tr.isCall = true) (hF : FunR P g [] args S) (hS : ∀ u X,S u X → newOk u = true ∧ X.all (fun b=>b.1.toList.all calm) = true) (ho : args.toList.all flat = true)
    (hk : ∀ u X,S u X → Run P f R (tr.made u X)) : Run P f R tr:=by
  cases tr <;> simp [T.callOf] at h <;> simp [T.isCall] at hc
  obtain ⟨rfl,rfl⟩:=h
  exact .new _ _ _ _ S hF hS ho hk
theorem Run.b {α β : Type} {e : α → Value} {x : α} {φ : α → β} {gv : β → Value} {g : FuncId} {args : Array Value} (h : tr.callOf = some (g,args)) (ho : args.toList.all flat = true) (hF : Fun P g [] args (e x) []) (hu : ∀ r,flat (e r) = true)
    (hk : ∀ r : α,Run P f (Rv (gv (φ r))) (tr.after (e r))) : Run P f (Rv (gv (bindP x φ))) tr:=Run.c h ho hF (hu x) (hk x)
theorem Run.j {β : Type} {c : Bool} {x y : β} {gv : β → Value} (h : tr.cond = some c) (ha : Run P f (Rv (gv x)) tr.yes) (hb : Run P f (Rv (gv y)) tr.no) : Run P f (Rv (gv (cond c x y))) tr:=by
  cases c
  · exact Run.n h hb
  · exact Run.t h ha
def start (P : Program) (E : Eqs) (fn : Func) (k : Nat) (H : List Blk) (args : Array Value) : T:=
  match fn.body with
  | some c=>exec P E fn k [.code c] (args ++ Array.replicate (fn.ntmps - args.size) undef) H
  | none=>.fail
theorem start_cfg {H : List Blk} {args : Array Value} (k : Nat) (hE : EqsOk P E) (hm : P.follows .mixedOrders = true) (hf : P.funcs[f]? = some fn) (hn : (fn.name == "runtime.NumGoroutine") = false)
    (h : Run P f R (start P E fn k H args)) : Callable P f ∧ ∀ (m : List Nat) (args' : Array Value) (w : World),RA m args args' → RH m H w →
      Calls P f args' w fun e w'=>∃ v v' n G,e = .returned v' ∧ VR (m ++ n) v v' ∧ RH (m ++ n) G w' ∧ (∀ j ∈ n,w.heap.size ≤ j) ∧ Kept m w w' ∧ R v G:=by
  unfold start at h
  cases hb : fn.body with
  | none=>simp only [hb] at h; exact (run_fail h).elim
  | some c=>
    simp only [hb] at h
    exact Fun.of_cfg hf hb hn (exec_cfg hE hm hf k _ _ _ _ h)
theorem Fun.ofH {H : List Blk} {args : Array Value} (k : Nat) (hE : EqsOk P E) (hm : P.follows .mixedOrders = true) (hf : P.funcs[f]? = some fn) (hn : (fn.name == "runtime.NumGoroutine") = false) (hv : flat v = true)
    (h : Run P f (RvH H v) (start P E fn k H args)) : Fun P f H args v H:=by
  obtain ⟨h1,h2⟩:=start_cfg k hE hm hf hn h
  refine ⟨h1,fun m args' w ha hH=>(h2 m args' w ha hH).mono ?_⟩
  rintro e w' ⟨v2,v',n,G,rfl,k1,k2,k3,k4,rfl,X,rfl⟩
  refine ⟨v',[],rfl,by rw [k1.eq_of_flat hv]; exact VR.refl_of_flat _ hv,?_,by simp,k4⟩
  rw [List.append_nil]
  refine ⟨hH.len,hH.nodup,fun i j b hj hb=>?_,k2.inv,hH.far⟩
  obtain ⟨cs,hc,hr⟩:=hH.blk i j b hj hb
  obtain ⟨cs',hc',hr'⟩:=k2.blk i j b (by rw [List.getElem?_append_left (List.getElem?_eq_some_iff.1 hj).1]; exact hj) (by rw [List.getElem?_append_left (List.getElem?_eq_some_iff.1 hb).1]; exact hb)
  have e : cs = cs':=by
    have q:=VR.fn (VR.mk_agg (hr.mono n)) (VR.mk_agg hr')
    injection q
  exact ⟨cs',hc',e ▸ hr⟩
theorem Fun.of {args : Array Value} (k : Nat) (hE : EqsOk P E) (hm : P.follows .mixedOrders = true) (hf : P.funcs[f]? = some fn) (hn : (fn.name == "runtime.NumGoroutine") = false) (hv : flat v = true)
    (h : Run P f (Rv v) (start P E fn k [] args)) : Fun P f [] args v []:=by
  obtain ⟨h1,h2⟩:=start_cfg k hE hm hf hn h
  refine ⟨h1,fun m args' w ha hH=>(h2 m args' w ha hH).mono ?_⟩
  rintro e w' ⟨v2,v',n,G,rfl,k1,k2,k3,k4,rfl⟩
  refine ⟨v',[],rfl,by rw [k1.eq_of_flat hv]; exact VR.refl_of_flat _ hv,?_,by simp,k4⟩
  have hm : m = []:=List.length_eq_zero_iff.1 hH.len
  subst hm
  exact RH.nil _ k2.inv
theorem FunR.of {S : Value → List Blk → Prop} {H : List Blk} {args : Array Value} (k : Nat) (hE : EqsOk P E) (hm : P.follows .mixedOrders = true) (hf : P.funcs[f]? = some fn) (hn : (fn.name == "runtime.NumGoroutine") = false)
    (h : Run P f S (start P E fn k H args)) : FunR P f H args S:=start_cfg k hE hm hf hn h
theorem Fun.calls {args : Array Value} (h : Fun P f [] args v []) (ho : args.toList.all flat = true) (hv : flat v = true) (w : World) (hi : Inv w) : Calls P f args w fun e w'=>e = .returned v ∧ Below w.heap.size w w':=by
  refine (h.2 [] args w ⟨rfl,fun i v v' h1 h2=>?_⟩ (RH.nil w hi)).mono ?_
  · rw [h1] at h2; cases h2
    exact VR.refl_of_flat _ (List.all_eq_true.1 ho v (by rw [Array.mem_toList_iff]; exact Array.mem_of_getElem? h1))
  · rintro e w' ⟨v',n,rfl,h1,_,_,h4⟩
    exact ⟨by rw [h1.eq_of_flat hv],h4.os,h4.tape,h4.output,h4.size,fun k hk=>h4.block k hk (by simp)⟩
def T.todoOf : T → List Item
  | .head td _ _=>td
  | _=>[]
def T.tmpsOf : T → Array Value
  | .head _ t _=>t
  | _=>#[]
def T.blksOf : T → List Blk
  | .head _ _ H=>H
  | _=>[]
def T.isHead : T → Bool
  | .head ..=>true
  | _=>false
def T.go (P : Program) (E : Eqs) (fn : Func) (k : Nat) : T → T
  | .head td t H=>exec P E fn k td t H
  | _=>.fail
theorem Run.h {td : List Item} {t : Array Value} {H : List Blk} (h0 : tr.isHead = true) (h1 : tr.todoOf = td) (h2 : tr.tmpsOf = t) (h3 : tr.blksOf = H) (h : Cfg P f td t H R) : Run P f R tr:=by
  cases tr <;> simp [T.isHead] at h0
  simp only [T.todoOf,T.tmpsOf,T.blksOf] at h1 h2 h3
  subst h1; subst h2; subst h3
  exact .head _ _ _ h
theorem Run.u (k : Nat) (hE : EqsOk P E) (hm : P.follows .mixedOrders = true) (hf : P.funcs[f]? = some fn) (h : Run P f R (tr.go P E fn k)) : Run P f R tr:=by
  cases tr with
  | head td t H=>exact .head _ _ _ (exec_cfg hE hm hf k _ _ _ _ h)
  | _=>exact (run_fail h).elim
end
end Go.Proofs.YtfhnlkinjbakgaaGreatDoor.Abs
namespace Go.Proofs.YtfhnlkinjbakgaaGreatDoor.Abs
open Go Go.RowKit
def eq2 (k l : IntKind) : Value → Value → Option Bool
  | .agg ⟨[.int p a,.int q b]⟩,.agg ⟨[.int p' a',.int q' b']⟩=>if p = k ∧ q = l ∧ p' = k ∧ q' = l then some ((a == a') && (b == b')) else none
  | _,_=>none
structure Two (P : Program) (T : TypeId) (f1 f2 : Field) (k l : IntKind) : Prop where
  fs : (P.fieldsOf T).toList = [f1,f2]
  und : P.underlying T = some (.struct (P.fieldsOf T))
  held : P.stoodInHeld T = false
  guard : P.eqGuardType P.depth T = false
  n1 : (f1.name == "_") = false
  n2 : (f2.name == "_") = false
  o1 : f1.offset = 0
  o2 : f2.offset = 1
  t1 : P.underlying f1.type = some (.int k)
  t2 : P.underlying f2.type = some (.int l)
def isKind (P : Program) (T : TypeId) (k : IntKind) : Bool:=
  match P.underlying T with
  | some (.int k')=>decide (k' = k)
  | _=>false
def twoB (P : Program) (T : TypeId) (k l : IntKind) : Bool:=
  (match P.underlying T with | some (.struct _)=>true | _=>false) && (match (P.fieldsOf T).toList with
    | [f1, f2] => !(f1.name == "_") && !(f2.name == "_") && decide (f1.offset = 0) && decide (f2.offset = 1) && isKind P f1.type k && isKind P f2.type l
    | _=>false) && !P.stoodInHeld T && !P.eqGuardType P.depth T
theorem isKind_spec {P : Program} {T : TypeId} {k : IntKind} (h : isKind P T k = true) : P.underlying T = some (.int k):=by
  unfold isKind at h
  split at h
  · rename_i k' hk
    rw [of_decide_eq_true h] at hk
    exact hk
  · cases h
theorem two_of {P : Program} {T : TypeId} {k l : IntKind} (h : twoB P T k l = true) : ∃ f1 f2,Two P T f1 f2 k l:=by
  unfold twoB at h
  simp only [Bool.and_eq_true,Bool.not_eq_true'] at h
  obtain ⟨⟨⟨h1,h2⟩,h3⟩,h4⟩:=h
  have hu : P.underlying T = some (.struct (P.fieldsOf T)):=by
    cases hd : P.underlying T with
    | none=>rw [hd] at h1; cases h1
    | some d=>
      rw [hd] at h1
      cases d <;> first | (cases h1; done) | (simp [Program.fieldsOf,hd])
  split at h2
  · rename_i f1 f2 hf
    simp only [Bool.and_eq_true,Bool.not_eq_true',decide_eq_true_eq] at h2
    obtain ⟨⟨⟨⟨⟨n1,n2⟩,o1⟩,o2⟩,t1⟩,t2⟩:=h2
    exact ⟨f1,f2,hf,hu,h3,h4,n1,n2,o1,o2,isKind_spec t1,isKind_spec t2⟩
  · cases h2
variable {P : Program}
theorem run_part_int {T : TypeId} {k : IntKind} (h : P.underlying T = some (.int k)) (cs : Array Value) (o : Nat) (v : Value) (hv : cs[o]? = some v) (w : World) : (part T cs o).run P w = .ok v w:=by
  have ha : (isAgg T).run P w = .ok false w:=by
    unfold isAgg
    rw [Sem.run_bind,run_underlying h w]
    rfl
  simp [part,ha,hv]
theorem run_equalIn_int {T : TypeId} {k : IntKind} (h : P.underlying T = some (.int k)) (w : World) (d : Nat) (a b : Int) : (Op.equalIn (d + 1) T (.int k a) (.int k b)).run P w = .ok (a == b) w:=by
  simp only [Op.equalIn,Sem.run_bind,run_underlying h w,Result.andThen_ok]
  simp
theorem eq2_form {k l : IntKind} {x y : Value} {b : Bool} (hb : eq2 k l x y = some b) : ∃ a1 b1 a2 b2,x = .agg #[.int k a1,.int l b1] ∧ y = .agg #[.int k a2,.int l b2] ∧ b = ((a1 == a2) && (b1 == b2)):=by
  unfold eq2 at hb
  split at hb
  case h_2=>cases hb
  rename_i p a q b0 p' a' q' b'
  split at hb
  case isFalse=>cases hb
  rename_i hk
  obtain ⟨rfl,rfl,rfl,rfl⟩:=hk
  simp only [Option.some.injEq] at hb
  exact ⟨a,b0,a',b',rfl,rfl,hb.symm⟩
theorem eq2_ok {T : TypeId} {k l : IntKind} (h0 : twoB P T k l = true) {x y : Value} {b : Bool} (hb : eq2 k l x y = some b) (ox oy : Operand) (w : World) :
    (do eqGuard .eql T ox oy x y; binOp .eql T x y : Sem Value).run P w = .ok (.bool b) w ∧ (do eqGuard .neq T ox oy x y; binOp .neq T x y : Sem Value).run P w = .ok (.bool (!b)) w:=by
  obtain ⟨f1,f2,h⟩:=two_of h0
  obtain ⟨a1,b1,a2,b2,rfl,rfl,rfl⟩:=eq2_form hb
  have he : (Op.equal T (.agg #[.int k a1,.int l b1]) (.agg #[.int k a2,.int l b2])).run P w = .ok ((a1 == a2) && (b1 == b2)) w:=by
    unfold Op.equal
    obtain ⟨d,hd⟩ : ∃ d,Op.maxDepth = d + 1 + 1:=⟨9998,rfl⟩
    rw [hd,run_equalIn_struct (P:=P) w (d + 1) T _ _ h.und h.held,h.fs]
    have hn1 : f1.name ≠ "_" := by simpa using h.n1
    have hn2 : f2.name ≠ "_" := by simpa using h.n2
    have p1 : ∀ (a b : Int),(part f1.type #[.int k a,.int l b] 0).run P w = .ok (.int k a) w:=fun a b=>run_part_int h.t1 _ 0 _ (by simp) w
    have p2 : ∀ (a b : Int),(part f2.type #[.int k a,.int l b] 1).run P w = .ok (.int l b) w:=fun a b=>run_part_int h.t2 _ 1 _ (by simp) w
    simp only [Op.eqFields,if_pos hn1,if_pos hn2,Sem.run_bind,h.o1,h.o2,p1,Result.andThen_ok,run_equalIn_int h.t1 w]
    cases (a1 == a2)
    · simp
    · cases hb2 : (b1 == b2) <;> simp [run_equalIn_int h.t2 w,p2] <;> simpa using hb2
  have g1 : ∀ op,(op matches .eql | .neq) = true → (eqGuard op T ox oy (.agg #[.int k a1,.int l b1]) (.agg #[.int k a2,.int l b2])).run P w = .ok () w:=fun op hop=>by
    cases op <;> first | (simp at hop; done) | simp [eqGuard,program,Sem.run,h.guard]
  constructor
  · rw [Sem.run_bind,g1 .eql rfl,Result.andThen_ok]
    simp [binOp,he]
  · rw [Sem.run_bind,g1 .neq rfl,Result.andThen_ok]
    simp [binOp,he]
end Go.Proofs.YtfhnlkinjbakgaaGreatDoor.Abs
namespace Go.Proofs.YtfhnlkinjbakgaaGreatDoor.Abs
open Go Go.RowKit
variable {P : Program} {E : Eqs} {f : FuncId} {fn : Func} {tr : T} {v : Value} {R : Value → List Blk → Prop}
theorem Run.k {c : Bool} (h : tr.cond = some c) (hc : c = true) (hk : Run P f R tr.yes) : Run P f R tr:=Run.t (by rw [h,hc]) hk
theorem Run.kn {c : Bool} (h : tr.cond = some c) (hc : c = false) (hk : Run P f R tr.no) : Run P f R tr:=Run.n (by rw [h,hc]) hk
theorem Run.jk {β : Type} {H : List Blk} {c : Bool} {x y : β} {gv : β → Value} (h : tr.cond = some c) (ha : c = true → Run P f (RvH H (gv x)) tr.yes) (hb : c = false → Run P f (RvH H (gv y)) tr.no) : Run P f (RvH H (gv (cond c x y))) tr:=by
  cases c
  · exact Run.n h (hb rfl)
  · exact Run.t h (ha rfl)
theorem Run.bk {α β : Type} {H : List Blk} {e : α → Value} {x : α} {φ : α → β} {gv : β → Value} {g : FuncId} {args : Array Value} (h : tr.callOf = some (g,args)) (ho : args.toList.all flat = true) (hF : Fun P g [] args (e x) []) (hu : ∀ r,flat (e r) = true)
    (hk : ∀ r : α,r = x → Run P f (RvH H (gv (φ r))) (tr.after (e r))) : Run P f (RvH H (gv (bindP x φ))) tr:=Run.c h ho hF (hu x) (hk x rfl)
theorem Run.sk {α β : Type} {H : List Blk} {e : α → Value} {x : α} {φ : α → β} {gv : β → Value} {g : FuncId} {args : Array Value} {H0 : List Blk} (sel : List Nat) (h : tr.callOf = some (g,(args.toList.map (renum sel)).toArray)) (hs : tr.seen sel = some H0) (hc : H0.all (fun b=>b.1.toList.all flat) = true) (hn : sel.Nodup)
    (ho : args.toList.all (argOk sel.length) = true) (hF : Fun P g H0 args (e x) H0) (hu : ∀ r,flat (e r) = true) (hk : ∀ r : α,r = x → Run P f (RvH H (gv (φ r))) (tr.after (e r))) : Run P f (RvH H (gv (bindP x φ))) tr:=
  Run.s sel H0 h hs hc hn ho hF (hu x) (hk x rfl)
theorem Run.q {α β : Type} {H : List Blk} {e : α → Value} {x : α} {φ : α → β} {gv : β → Value} {g : FuncId} {args : Array Value} (hF : Fun P g [] args (e x) [])
    (hk : ∀ r : α,r = x → Run P f (RvH H (gv (φ r))) (tr.after (e r))) (h : tr.callOf = some (g,args):=by kernel_rfl) (ho : args.toList.all flat = true:=by kernel_rfl) (hu : ∀ r,flat (e r) = true:=by exact fun _=>rfl) : Run P f (RvH H (gv (bindP x φ))) tr:=Run.bk h ho hF hu hk
theorem Run.w {α β : Type} {H : List Blk} {e : α → Value} {x : α} {φ : α → β} {gv : β → Value} {g : FuncId} {args : Array Value} {H0 : List Blk} (sel : List Nat) (hF : Fun P g H0 args (e x) H0) (hk : ∀ r : α,r = x → Run P f (RvH H (gv (φ r))) (tr.after (e r)))
    (h : tr.callOf = some (g,(args.toList.map (renum sel)).toArray):=by kernel_rfl) (hs : tr.seen sel = some H0:=by kernel_rfl) (hc : H0.all (fun b=>b.1.toList.all flat) = true:=by kernel_rfl) (hn : sel.Nodup:=by decide)
    (ho : args.toList.all (argOk sel.length) = true:=by kernel_rfl) (hu : ∀ r,flat (e r) = true:=by exact fun _=>rfl) : Run P f (RvH H (gv (bindP x φ))) tr:=Run.sk sel h hs hc hn ho hF hu hk
theorem Run.y {β : Type} {H : List Blk} {c : Bool} {x y : β} {gv : β → Value} (ha : c = true → Run P f (RvH H (gv x)) tr.yes) (hb : c = false → Run P f (RvH H (gv y)) tr.no) (h : tr.cond = some c:=by kernel_rfl) : Run P f (RvH H (gv (cond c x y))) tr:=Run.jk h ha hb
theorem Run.z (l : List Bool) (hk : Run P f R (tr.path l)) (h : tr.conds l = some l:=by kernel_rfl) : Run P f R tr:=Run.p l h hk
theorem Run.x {H : List Blk} (k : Nat) (h : tr.retOf = some v:=by kernel_rfl) (hk : tr.heapOf.take k = H:=by kernel_rfl) : Run P f (RvH H v) tr:=Run.rh (k:=k) h hk
end Go.Proofs.YtfhnlkinjbakgaaGreatDoor.Abs
namespace Go.Proofs.YtfhnlkinjbakgaaGreatDoor.Abs
open Go Go.RowKit
def loopsOf : Code → List Item → List (List Item)
  | .seq a b,r=>loopsOf a (.code b :: r) ++ loopsOf b r
  | .cond _ x y,r=>loopsOf x r ++ loopsOf y r
  | .block id body,r=>loopsOf body (.inBlock id :: r)
  | .loop body,r=>(.code body :: .inLoop body :: r) :: loopsOf body (.inLoop body :: r)
  | _,_=>[]
def loopAt (fn : Func) (k : Nat) : List Item:=
  match fn.body with
  | some c=>(loopsOf c []).getD k []
  | none=>[]
def maskA (t : Array Value) (M : List Nat) : Array Value:=M.foldl (fun a i=>a.setIfInBounds i undef) t
def fillM (t : Array Value) (M : List Nat) (g : Nat → Value) : Array Value:=M.foldl (fun a i=>a.setIfInBounds i (g i)) t
theorem fillM_size (M : List Nat) : ∀ (t : Array Value) (g : Nat → Value),(fillM t M g).size = t.size:=by
  induction M with
  | nil=>intro t g; rfl
  | cons a M ih=>intro t g; show (fillM (t.setIfInBounds a (g a)) M g).size = _; rw [ih]; simp
theorem fillM_get (M : List Nat) : ∀ (t : Array Value) (g : Nat → Value) (i : Nat),(fillM t M g)[i]? = if i ∈ M ∧ i < t.size then some (g i) else t[i]?:=by
  induction M with
  | nil=>intro t g i; simp [fillM]
  | cons a M ih=>
    intro t g i
    show (fillM (t.setIfInBounds a (g a)) M g)[i]? = _
    rw [ih]
    by_cases h : i ∈ M ∧ i < t.size
    · rw [if_pos (by simpa using h),if_pos ⟨by simp [h.1],h.2⟩]
    · rw [if_neg (by simpa using h)]
      by_cases e : a = i
      · subst e
        rw [Array.getElem?_setIfInBounds_self]
        by_cases hl : a < t.size
        · rw [if_pos hl,if_pos ⟨by simp,hl⟩]
        · rw [if_neg hl,if_neg (fun q=>hl q.2)]
          simp [Array.getElem?_eq_none (Nat.le_of_not_lt hl)]
      · rw [Array.getElem?_setIfInBounds_ne e]
        by_cases hl : i < t.size
        · have : ¬ i ∈ M:=fun q=>h ⟨q,hl⟩
          rw [if_neg]
          rintro ⟨q,_⟩
          rcases List.mem_cons.1 q with q | q
          · exact e q.symm
          · exact this q
        · rw [if_neg (fun q=>hl q.2)]
theorem unmask {t lit : Array Value} {M : List Nat} (h : maskA t M = lit) : ∃ g,t = fillM lit M g:=by
  refine ⟨fun i=>t.getD i undef,?_⟩
  subst h
  have e : maskA t M = fillM t M (fun _=>undef):=rfl
  refine Array.ext_getElem? fun i=>?_
  rw [fillM_get,e,fillM_size,fillM_get]
  by_cases hm : i ∈ M ∧ i < t.size
  · rw [if_pos hm]
    simp [hm.2]
  · rw [if_neg hm,if_neg hm]
variable {P : Program} {E : Eqs} {f : FuncId} {fn : Func} {tr : T} {R : Value → List Blk → Prop}
theorem Run.l {M : List Nat} {lit : Array Value} {td : List Item} {H : List Blk} (h0 : tr.isHead = true) (h1 : tr.todoOf = td) (h2 : maskA tr.tmpsOf M = lit) (h3 : tr.blksOf = H) (h : ∀ t,maskA t M = lit → Cfg P f td t H R) : Run P f R tr:=
  Run.h h0 h1 rfl h3 (h _ h2)
theorem Cfg.round {M : List Nat} {lit t : Array Value} {td : List Item} {H : List Blk} (hE : EqsOk P E) (hm : P.follows .mixedOrders = true) (hf : P.funcs[f]? = some fn) (ht : maskA t M = lit) (h : ∀ g,Run P f R (exec P E fn 400 td (fillM lit M g) H)) : Cfg P f td t H R:=by
  obtain ⟨g,rfl⟩:=unmask ht
  exact exec_cfg hE hm hf 400 _ _ _ _ (h g)
def closed1 (k : Nat) : Value → Bool
  | .pointer (some ⟨i,_,_⟩)=>decide (i < k)
  | .slice (some ⟨i,_,_⟩) _ _=>decide (i < k)
  | .agg cs=>cs.toList.all flat1
  | v=>flat1 v
def closedV (k : Nat) : Value → Bool
  | .tuple vs=>vs.toList.all (closed1 k)
  | .func _ a c=>a.toList.all (closed1 k) && c.toList.all (closed1 k)
  | v=>closed1 k v
theorem take_get {m : List Nat} {k i j : Nat} (h : m[i]? = some j) (hi : i < k) : (m.take k)[i]? = some j:=by
  rw [List.getElem?_take_of_lt hi]; exact h
theorem VR.take1 {m : List Nat} {k : Nat} {v v' : Value} (h : VR m v v') (hc : closed1 k v = true) : VR (m.take k) v v':=by
  cases h with
  | pl _ h=>exact .pl _ h
  | ptr i j o s h=>exact .ptr i j o s (take_get h (of_decide_eq_true hc))
  | slice i j o l c s h=>exact .slice i j o l c s (take_get h (of_decide_eq_true hc))
  | raw v'=>exact .raw v'
  | agg a a' ha h1=>
    refine .agg a a' ha fun i x x' e1 e2=>?_
    have hf:=List.all_eq_true.1 hc x (by rw [Array.mem_toList_iff]; exact Array.mem_of_getElem? e1)
    have:=(h1 i x x' e1 e2).eq_of_flat (v:=x) (by cases x <;> first | exact hf | (simp [flat1] at hf))
    subst this
    exact .pl _ hf
  | func fn a a' c c' ha hc2 h1 h2=>simp [closed1,flat1] at hc
  | tuple a a' ha h1=>simp [closed1,flat1] at hc
theorem VR.take {m : List Nat} {k : Nat} {v v' : Value} (h : VR m v v') (hc : closedV k v = true) : VR (m.take k) v v':=by
  cases v with
  | tuple vs=>
    cases h with
    | pl _ h=>exact .pl _ h
    | tuple _ a' ha h1=>
      refine .tuple _ a' ha fun i x x' e1 e2=>(h1 i x x' e1 e2).take1 ?_
      exact List.all_eq_true.1 hc x (by rw [Array.mem_toList_iff]; exact Array.mem_of_getElem? e1)
  | func fn a c=>
    simp only [closedV,Bool.and_eq_true] at hc
    cases h with
    | pl _ h=>exact .pl _ h
    | func _ _ a' _ c' ha hc2 h1 h2=>
      refine .func fn a a' c c' ha hc2 (fun i x x' e1 e2=>(h1 i x x' e1 e2).take1 ?_) (fun i x x' e1 e2=>(h2 i x x' e1 e2).take1 ?_)
      · exact List.all_eq_true.1 hc.1 x (by rw [Array.mem_toList_iff]; exact Array.mem_of_getElem? e1)
      · exact List.all_eq_true.1 hc.2 x (by rw [Array.mem_toList_iff]; exact Array.mem_of_getElem? e1)
  | _=>exact h.take1 hc
theorem RA.take {m : List Nat} {k : Nat} {a a' : Array Value} (h : RA m a a') (hc : a.toList.all (closedV k) = true) : RA (m.take k) a a':=
  ⟨h.size,fun i v v' h1 h2=>(h.at_ i v v' h1 h2).take (List.all_eq_true.1 hc v (by rw [Array.mem_toList_iff]; exact Array.mem_of_getElem? h1))⟩
theorem RA.raws (m : List Nat) (cs : Array Value) : RA m (cs.map fun v=>.iface 0 v) cs:=⟨by simp,fun i v v' h1 h2=>by
  rw [Array.getElem?_map,h2] at h1
  simp only [Option.map_some,Option.some.injEq] at h1
  subst h1
  exact .raw v'⟩
theorem Cfg.forget {M : List Nat} {lit t : Array Value} {td : List Item} {H X H0 : List Blk} {v : Value} (hlit : lit.toList.all (closedV H.length) = true) (hH : H.all (fun b=>b.1.toList.all (closedV H.length)) = true) (h0 : H0.all (fun b=>b.1.toList.all flat) = true) (hle : H0.length ≤ H.length) (hv : flat v = true)
    (ht : maskA t M = lit) (h : ∀ t,maskA t M = lit → Cfg P f td t H (RvH H0 v)) : Cfg P f td t (H ++ X) (RvH H0 v):=by
  intro m t' w hta hrh b cs hb hk
  have hml : m.length = H.length + X.length:=by rw [hrh.len,List.length_append]
  have hmt : (m.take H.length).length = H.length:=by rw [List.length_take]; omega
  have hls : lit.size = t.size:=by rw [← ht]; exact fillM_size _ _ _
  have hra : RA (m.take H.length) (fillM lit M fun i=>.iface 0 (t'.getD i undef)) t':=by
    refine ⟨by rw [fillM_size,hls,hta.size],fun i v v' h1 h2=>?_⟩
    rw [fillM_get] at h1
    split at h1
    · cases h1
      have : t'.getD i undef = v':=by simp [Array.getD_eq_getD_getElem?,h2]
      rw [this]
      exact .raw v'
    · rename_i hn
      have hcl:=List.all_eq_true.1 hlit v (by rw [Array.mem_toList_iff]; exact Array.mem_of_getElem? h1)
      have e : lit = fillM t M (fun _=>undef):=ht.symm
      rw [e,fillM_get] at h1
      rw [if_neg (by rw [← hls]; exact hn)] at h1
      exact (hta.at_ i v v' h1 h2).take hcl
  have hmask : maskA (fillM lit M fun i=>.iface 0 (t'.getD i undef)) M = lit:=by
    refine Array.ext_getElem? fun i=>?_
    have e1 : maskA (fillM lit M fun i=>.iface 0 (t'.getD i undef)) M = fillM (fillM lit M fun i=>.iface 0 (t'.getD i undef)) M (fun _=>undef):=rfl
    have e : lit = fillM t M (fun _=>undef):=ht.symm
    rw [e1,fillM_get,fillM_size,fillM_get]
    by_cases q : i ∈ M ∧ i < lit.size
    · rw [if_pos q,e,fillM_get,if_pos (by rw [← hls]; exact q)]
    · rw [if_neg q,if_neg q]
  have hrh0 : RH (m.take H.length) H w:=by
    refine ⟨hmt,hrh.nodup.sublist (List.take_sublist _ _),fun i j b hj hb=>?_,hrh.inv,hrh.far.take⟩
    have hi : i < H.length:=(List.getElem?_eq_some_iff.1 hb).1
    rw [List.getElem?_take_of_lt hi] at hj
    obtain ⟨cs,hc,hr⟩:=hrh.blk i j b hj (by rw [List.getElem?_append_left hi]; exact hb)
    exact ⟨cs,hc,hr.take (List.all_eq_true.1 hH b (List.mem_of_getElem? hb))⟩
  obtain ⟨w',fr,u,u',n,G,h1,h2,h3,h4,h5,h6,h7,rfl,X',rfl⟩:=h _ hmask _ t' w hra hrh0 b cs hb hk
  have hex : ∀ i : Fin m.length,∃ b : Blk,((∀ x,H0[i.val]? = some x → b = x) ∧ (b.2 < 1000000 → G0 ≤ m[i])) ∧ ∃ cs,w'.heap[m[i]]? = some (.cells cs (frOf b.2).1 (frOf b.2).2) ∧ RA m b.1 cs:=fun i=>by
    by_cases hi : i.val < H.length
    · have hmi : ((m.take H.length) ++ n)[i.val]? = some m[i]:=by
        rw [List.getElem?_append_left (by omega),List.getElem?_take_of_lt hi]
        exact List.getElem?_eq_getElem i.isLt
      have hG : i.val < (H0 ++ X').length:=by
        have:=h5.len
        rw [List.length_append,hmt] at this
        omega
      obtain ⟨cs,hc,hr⟩:=h5.blk i.val _ _ hmi (List.getElem?_eq_getElem hG)
      by_cases hi0 : i.val < H0.length
      · refine ⟨H0[i.val],⟨fun x hx=>by rw [List.getElem?_eq_getElem hi0] at hx; exact Option.some.inj hx,fun hT=>h5.far i.val _ _ hmi (by rw [List.getElem?_append_left hi0]; exact List.getElem?_eq_getElem hi0) hT⟩,cs,?_,?_⟩
        · rw [List.getElem_append_left hi0] at hc; exact hc
        · rw [List.getElem_append_left hi0] at hr
          have hfl:=List.all_eq_true.1 h0 H0[i.val] (List.getElem_mem hi0)
          rw [hr.eq_of_flat hfl]
          exact ⟨rfl,fun k x x' e1 e2=>by
            rw [e1] at e2; cases e2
            exact VR.refl_of_flat _ (List.all_eq_true.1 hfl x (by rw [Array.mem_toList_iff]; exact Array.mem_of_getElem? e1))⟩
      · exact ⟨(cs.map fun v=>.iface 0 v,(H0 ++ X')[i.val].2),⟨fun x hx=>absurd (List.getElem?_eq_some_iff.1 hx).1 hi0,fun hT=>h5.far i.val _ _ hmi (List.getElem?_eq_getElem hG) hT⟩,cs,hc,RA.raws m cs⟩
    · have hXi : i.val - H.length < X.length:=by have:=i.isLt; omega
      have hb2 : (H ++ X)[i.val]? = some X[i.val - H.length]:=by
        rw [List.getElem?_append_right (by omega)]
        exact List.getElem?_eq_getElem hXi
      obtain ⟨cs,hc,hr⟩:=hrh.blk i.val _ _ (List.getElem?_eq_getElem i.isLt) hb2
      refine ⟨X[i.val - H.length],⟨fun x hx=>absurd (List.getElem?_eq_some_iff.1 hx).1 (by omega),fun hT=>hrh.far i.val _ _ (List.getElem?_eq_getElem i.isLt) hb2 hT⟩,cs,?_,hr⟩
      have hlt : m[i.val] < w.heap.size:=hrh.lt_of_mem (List.getElem_mem i.isLt)
      have hnot : m[i.val] ∉ m.take H.length:=fun hmem=>by
        obtain ⟨j,hj,he⟩:=List.getElem_of_mem hmem
        have hj' : j < H.length:=by omega
        have e1 : m[j]? = some m[i.val]:=by
          rw [← he,List.getElem_take]
          exact List.getElem?_eq_getElem (by omega)
        have:=nodup_inj hrh.nodup e1 (List.getElem?_eq_getElem i.isLt)
        omega
      have:=h7.block _ hlt hnot
      show w'.heap[m[i.val]]? = _
      rw [this]; exact hc
  refine ⟨w',fr,u,u',[],List.ofFn fun i=>Classical.choose (hex i),h1,h2,h3,?_,?_,by simp,⟨h7.os,h7.tape,h7.output,h7.size,fun k hk hn=>h7.block k hk fun q=>hn (List.mem_of_mem_take q)⟩,rfl,?_⟩
  · rw [h4.eq_of_flat hv]; exact VR.refl_of_flat _ hv
  · rw [List.append_nil]
    refine ⟨by simp,hrh.nodup,fun i j b hj hb=>?_,h5.inv,fun i j b hj hb hT=>by
      have hi : i < m.length:=(List.getElem?_eq_some_iff.1 hj).1
      rw [List.getElem?_ofFn,dif_pos hi] at hb
      cases hb
      obtain ⟨⟨_,hf⟩,_⟩:=Classical.choose_spec (hex ⟨i,hi⟩)
      rw [List.getElem?_eq_getElem hi] at hj
      cases hj
      exact hf hT⟩
    have hi : i < m.length:=(List.getElem?_eq_some_iff.1 hj).1
    rw [List.getElem?_ofFn,dif_pos hi] at hb
    cases hb
    obtain ⟨⟨_,_⟩,cs,hc,hr⟩:=Classical.choose_spec (hex ⟨i,hi⟩)
    rw [List.getElem?_eq_getElem hi] at hj
    cases hj
    exact ⟨cs,hc,hr⟩
  · refine ⟨(List.ofFn fun i=>Classical.choose (hex i)).drop H0.length,?_⟩
    rw [← List.take_append_drop H0.length (List.ofFn fun i=>Classical.choose (hex i))]
    congr 1
    · refine List.ext_getElem? fun i=>?_
      by_cases hi : i < H0.length
      · have him : i < m.length:=by omega
        rw [List.getElem?_take_of_lt hi,List.getElem?_ofFn,dif_pos him]
        have:=(Classical.choose_spec (hex ⟨i,him⟩)).1.1 H0[i] (List.getElem?_eq_getElem hi)
        rw [this]
        exact (List.getElem?_eq_getElem hi).symm
      · rw [List.getElem?_eq_none (by rw [List.length_take]; omega),List.getElem?_eq_none (by omega)]
    · rw [List.take_append_drop]
end Go.Proofs.YtfhnlkinjbakgaaGreatDoor.Abs
namespace Go.Proofs.YtfhnlkinjbakgaaGreatDoor.Abs
open Go Go.RowKit
variable {P : Program}
def add64A (args : Array Value) : Option (Bool × Value):=
  match args with
  | ⟨[.int .u64 x,.int .u64 y,.int .u64 c]⟩=>some (decide (0 ≤ x) && (decide (0 ≤ y) && (decide (0 ≤ c) && decide (c ≤ 1))),.tuple #[.int .u64 ((x + y + c) % 18446744073709551616),.int .u64 ((x + y + c) / 18446744073709551616)])
  | _=>none
def sub64A (args : Array Value) : Option (Bool × Value):=
  match args with
  | ⟨[.int .u64 x,.int .u64 y,.int .u64 c]⟩=>some (decide (0 ≤ x) && (decide (0 ≤ y) && (decide (y ≤ 18446744073709551615) && (decide (0 ≤ c) && decide (c ≤ 1)))),.tuple #[.int .u64 ((x - y - c) % 18446744073709551616),.int .u64 (if x < y + c then 1 else 0)])
  | _=>none
theorem add64A_ok {f : FuncId} {fn : Func} (hf : P.funcs[f]? = some fn) (hname : (fn.name == "runtime.NumGoroutine") = false) (hb : fn.body.isNone = true) (hn : Extern.findNext fn = none) (he : Extern.find fn = some add64Entry)
    {args : Array Value} {c : Bool} {v : Value} (h : add64A args = some (c,v)) (hc : c = true) (w : World) : (callFunc f args).run P w = .ok (.value v) w:=by
  unfold add64A at h
  split at h
  · rename_i x y k
    simp only [Option.some.injEq,Prod.mk.injEq] at h
    obtain ⟨h1,h2⟩:=h
    subst h2
    rw [hc] at h1
    simp only [Bool.and_eq_true,decide_eq_true_eq] at h1
    rw [run_callFunc_extern hf hname hb hn he]
    show Result.andThen ((add64Entry #[.int .u64 x,.int .u64 y,.int .u64 k]).run P w) _ = _
    rw [run_add64 x y k h1.1 h1.2.1 h1.2.2.1 h1.2.2.2]
    rfl
  · cases h
def subEntry : Array Value → Sem Value:=fun args=>do
  let (x, y, b) ← Extern.MathBitsCarry.three "Sub64" args
  pure (Extern.MathBitsCarry.pair ((x + Extern.MathBitsCarry.m64 - y - b) % Extern.MathBitsCarry.m64) (if x < y + b then 1 else 0))
theorem run_subEntry (x y b : Nat) (hb : b ≤ 1) (w : World) : (subEntry #[.int .u64 x,.int .u64 y,.int .u64 b]).run P w =
    .ok (.tuple #[.int .u64 (((x + 18446744073709551616 - y - b) % 18446744073709551616 : Nat) : Int),.int .u64 ((if x < y + b then 1 else 0 : Nat) : Int)]) w:=by
  have : b = 0 ∨ b = 1:=by omega
  rcases this with rfl | rfl <;> rfl
theorem sub64A_ok {f : FuncId} {fn : Func} (hf : P.funcs[f]? = some fn) (hname : (fn.name == "runtime.NumGoroutine") = false) (hb : fn.body.isNone = true) (hn : Extern.findNext fn = none) (he : Extern.find fn = some subEntry)
    {args : Array Value} {c : Bool} {v : Value} (h : sub64A args = some (c,v)) (hc : c = true) (w : World) : (callFunc f args).run P w = .ok (.value v) w:=by
  unfold sub64A at h
  split at h
  · rename_i x y k
    simp only [Option.some.injEq,Prod.mk.injEq] at h
    obtain ⟨h1,h2⟩:=h
    subst h2
    rw [hc] at h1
    simp only [Bool.and_eq_true,decide_eq_true_eq] at h1
    obtain ⟨hx,hy,hy2,hk,hk1⟩:=h1
    rw [run_callFunc_extern hf hname hb hn he]
    obtain ⟨x,rfl⟩:=Int.eq_ofNat_of_zero_le hx
    obtain ⟨y,rfl⟩:=Int.eq_ofNat_of_zero_le hy
    obtain ⟨k,rfl⟩:=Int.eq_ofNat_of_zero_le hk
    have h:=run_subEntry (P:=P) x y k (by omega) w
    show Result.andThen ((subEntry #[.int .u64 (x : Int),.int .u64 (y : Int),.int .u64 (k : Int)]).run P w) _ = _
    rw [h]
    have e1 : (((x + 18446744073709551616 - y - k) % 18446744073709551616 : Nat) : Int) = ((x : Int) - y - k) % 18446744073709551616:=by omega
    have e2 : ((if x < y + k then 1 else 0 : Nat) : Int) = if (x : Int) < y + k then 1 else 0:=by split <;> split <;> omega
    rw [e1,e2]
    rfl
  · cases h
theorem Fun.ofCalls {f : FuncId} {fn : Func} {args : Array Value} {v : Value} (hf : P.funcs[f]? = some fn) (hn : (fn.name == "runtime.NumGoroutine") = false) (hb : fn.body.isNone = false) (ha : args.toList.all flat = true) (hv : flat v = true)
    (h : ∀ w,Calls P f args w fun e w'=>e = .returned v ∧ w' = w) : Fun P f [] args v []:=by
  refine ⟨⟨fn,hf,hn,hb⟩,fun m args' w hra hH=>?_⟩
  rw [hra.eq_of_flat ha]
  refine (h w).mono ?_
  rintro e w' ⟨rfl,rfl⟩
  exact ⟨v,[],rfl,VR.refl_of_flat _ hv,by simpa using hH,by simp,Kept.refl _ _⟩
end Go.Proofs.YtfhnlkinjbakgaaGreatDoor.Abs
namespace Go.Proofs.YtfhnlkinjbakgaaGreatDoor.Abs
open Go Go.RowKit
variable {P : Program} {E : Eqs} {f : FuncId} {fn : Func} {tr : T} {R : Value → List Blk → Prop}
def rowOf (L : List I64) (pad : List Value) : Array Value:=(L.map vI ++ pad).toArray
def LS (e : TypeId) (L : List I64) (v : Value) (H : List Blk) : Prop:=
  (L = [] ∧ v = .slice none 0 0) ∨ ∃ i cap pad,v = .slice (some ⟨i,0,none⟩) L.length cap ∧ H[i]? = some (rowOf L pad,e) ∧ (rowOf L pad).size = cap ∧ cap ≤ maxLen ∧ pad.all calm = true
theorem listAt_ok {L : List I64} {pad : List Value} {i : I64} (h : 0 ≤ i.val ∧ i.val < (L.length : Int)) : (rowOf L pad)[0 + i.val.toNat * 1]? = some (vI (listAt L i)):=by
  have hi : i.val.toNat < L.length:=by omega
  rw [Nat.zero_add,Nat.mul_one]
  unfold rowOf listAt
  rw [List.getElem?_toArray,List.getElem?_append_left (by simpa using hi),List.getElem?_map,List.getElem?_eq_getElem hi]
  simp [List.getD,List.getElem?_eq_getElem hi]
theorem rowOf_calm {L : List I64} {pad : List Value} (h : pad.all calm = true) : (rowOf L pad).toList.all calm = true:=by
  unfold rowOf
  simp only [List.all_append,Bool.and_eq_true,h,and_true]
  rw [List.all_eq_true]
  intro v hv
  obtain ⟨x,_,rfl⟩:=List.mem_map.1 hv
  rfl
def QC (P : Program) (f : FuncId) (m : List Nat) (w : World) (r : List Item) (R : Value → List Blk → Prop) : Exit → Act → World → Prop:=
  fun e a w1=>e = .normal ∧ ∃ (n : List Nat) (t2 t2' : Array Value) (H2 : List Blk),a = act t2' ∧ RA (m ++ n) t2 t2' ∧ RH (m ++ n) H2 w1 ∧ (∀ j ∈ n,w.heap.size ≤ j) ∧ Kept m w w1 ∧ Cfg P f r t2 H2 R
theorem Cfg.region {id : Nat} {ops : Array Oper} {r : List Item} {t : Array Value} {H : List Blk}
    (h : ∀ (m : List Nat) (t' : Array Value) (w : World),RA m t t' → RH m H w → wpList P ops (QC P f m w r R) ops.toList (act t') w) : Cfg P f (.code (.region id ops false) :: r) t H R:=by
  intro m t' w ht hH b cs hb hk
  obtain ⟨e,a',w1,⟨rfl,n,t2,t2',H2,rfl,ht2,hH2,hn,hk2,h2⟩,harr⟩:=(wp_region_list (id:=id) (h m t' w ht hH)) b r cs
  have harr' : Steps P (lone (b.at (act t') (.code (.region id ops false) :: r)) cs w) (lone (b.at (act t2') r) cs w1):=harr
  obtain ⟨w',fr,v,v',n',G,h3,h4,h5,h6,h7,h8,h9,h10⟩:=h2 (m ++ n) t2' w1 ht2 hH2 b cs hb hk
  refine ⟨w',fr,v,v',n ++ n',G,harr'.trans h3,h4,h5,by rw [← List.append_assoc]; exact h6,by rw [← List.append_assoc]; exact h7,fun j hj=>?_,hk2.trans h9 hn,h10⟩
  rcases List.mem_append.1 hj with hj | hj
  · exact hn j hj
  · exact Nat.le_trans hk2.size (h8 j hj)
theorem wpList_step {ops : Array Oper} {Q : Exit → Act → World → Prop} {o : Oper} {l : List Oper} {t' : Array Value} {v' : Value} {w w' : World} (hg : o.guard = none) (hr : (execOp (act t').eval o).run P w = .ok (.value v') w')
    (h : wpList P ops Q l (act (putA t' o.dst v')) w') : wpList P ops Q (o :: l) (act t') w:=by
  simp only [wpList]
  rw [if_pos (by simp [Region.wanted,hg])]
  left
  unfold Oper.wp
  rw [hr,Oper.upon_value,act_put]
  exact h
theorem cell_new (w : World) (v : Value) (e : TypeId) : (w.alloc (.cells #[v] e)).cell? ⟨w.heap.size,0,none⟩ = some v:=by
  rw [cell_of_row _ _ _ _ e (0,0) (heap_alloc_new w _)]
  rfl
theorem RA.row {m : List Nat} {L : List I64} {cur : Array Value} (h : cur.toList.take L.length = L.map vI) : RA m (rowOf L ((cur.toList.drop L.length).map fun v=>.iface 0 v)) cur:=by
  have hl : (rowOf L ((cur.toList.drop L.length).map fun v=>Value.iface 0 v)).size = cur.size:=by
    have:=congrArg List.length h
    simp at this
    simp [rowOf]; omega
  refine ⟨hl,fun i v v' h1 h2=>?_⟩
  unfold rowOf at h1
  rw [List.getElem?_toArray,List.getElem?_append] at h1
  rw [← Array.getElem?_toList] at h2
  split at h1
  · rename_i hi
    simp only [List.length_map] at hi
    have h3 : (cur.toList.take L.length)[i]? = some v':=by rw [List.getElem?_take_of_lt hi]; exact h2
    rw [h,h1] at h3
    cases h3
    rw [List.getElem?_map] at h1
    cases hx : L[i]? with
    | none=>simp [hx] at h1
    | some x=>simp only [hx,Option.map_some,Option.some.injEq] at h1; subst h1; exact .pl _ rfl
  · rename_i hi
    simp only [List.length_map] at hi h1
    rw [List.getElem?_map,List.getElem?_drop,show L.length + (i - L.length) = i by omega,h2] at h1
    simp only [Option.map_some,Option.some.injEq] at h1
    subst h1
    exact .raw v'
theorem raws_calm (l : List Value) : (l.map fun v=>Value.iface 0 v).all calm = true:=by
  rw [List.all_eq_true]
  intro v hv
  obtain ⟨x,_,rfl⟩:=List.mem_map.1 hv
  rfl
theorem append_run {T e : TypeId} {i : TypeInfo} (he : e < 1000000) (hT : P.underlying T = some (.slice e)) (hi : P.info? e = some i) (hz : i.zero = some (.int .i64 0)) (hsz : i.size = 1) (hby : i.bytes = 8)
    {m : List Nat} {H : List Blk} {w : World} (hH : RH m H w) {L : List I64} {v v' : Value} (hL : LS e L v H) (hv : VR m v v') (hlen : L.length ≤ 1000000) (z : I64) (ty : TypeId) (a : Addr) (ha : w.cell? a = some (vI z)) :
    ∃ v4 v4' w' n H4,(Builtin.append_ #[T,T] ty #[v',.slice (some a) 1 1]).run P w = .ok v4' w' ∧ VR (m ++ n) v4 v4' ∧ RH (m ++ n) H4 w' ∧ (∀ j ∈ n,w.heap.size ≤ j) ∧ Kept m w w' ∧
      LS e (L ++ [z]) v4 H4 ∧ ∀ (k : Nat) (b : Blk),H[k]? = some b → b.2 ≠ e → H4[k]? = some b:=by
  have hnews : ∀ (j : Nat) (u : Value),[vI z][j]? = some u → w.cell? (a.add j) = some u:=fun j u hj=>by
    cases j with
    | zero=>
      simp at hj; subst hj
      have : a.add 0 = a:=by unfold Addr.add; split <;> simp_all
      rw [this]; exact ha
    | succ j=>simp at hj
  have h1 : ∀ u ∈ [vI z],u.oneCell' = true:=fun u hu=>by simp at hu; subst hu; rfl
  have grown : ∀ (n4 : Nat) (v4' : Value) (w' : World),n4 = L.length + 1 → w'.ownsRow w.heap.size e 1 v4' n4 (L.map vI ++ [vI z]) → w.grownBy w' none →
      ∃ v4 n H4,VR (m ++ n) v4 v4' ∧ RH (m ++ n) H4 w' ∧ (∀ j ∈ n,w.heap.size ≤ j) ∧ Kept m w w' ∧ LS e (L ++ [z]) v4 H4 ∧ ∀ (k : Nat) (b : Blk),H[k]? = some b → b.2 ≠ e → H4[k]? = some b:=fun n4 v4' w' hn4 ho hg=>by
    rcases ho.2 with ⟨_,h0⟩ | ⟨g,cap,cur,rfl,hbg,hgc,hnc,hcm,hcs,htk⟩
    · omega
    have hlt : ∀ j ∈ m,j < w.heap.size:=fun j hj=>hH.lt_of_mem hj
    have htk' : cur.toList.take (L ++ [z]).length = (L ++ [z]).map vI:=by
      rw [List.map_append,List.length_append]
      rw [show n4 * 1 = L.length + [z].length by simp [hn4]] at htk
      exact htk
    have hra:=RA.row (m:=m ++ [g]) htk'
    refine ⟨.slice (some ⟨H.length,0,none⟩) n4 cap,[g],H ++ [(rowOf (L ++ [z]) ((cur.toList.drop (L ++ [z]).length).map fun v=>.iface 0 v),e)],.slice _ _ _ _ _ _ (by rw [← hH.len]; simp),⟨by simp [hH.len],?_,fun k j b hj hb=>?_,hH.inv.keep hg.size (fun k hk=>hg.block k (Nat.lt_of_lt_of_le hk hH.inv.low) (by simp)),hH.far.append hH.len (Far.new _ fun k hk=>by
      simp at hk; subst hk; exact Nat.le_trans hH.inv.low hbg)⟩,by simpa using hbg,
      ⟨hg.os,hg.tape,hg.output,hg.size,fun k hk _=>hg.block k hk (by simp)⟩,.inr ⟨H.length,cap,(cur.toList.drop (L ++ [z]).length).map fun v=>.iface 0 v,by simp [hn4],by rw [List.getElem?_append_right (Nat.le_refl _),Nat.sub_self]; rfl,?_,hcm,raws_calm _⟩,fun k b hb _=>?_⟩
    · rw [List.nodup_append]
      refine ⟨hH.nodup,by simp,fun x hx y hy=>?_⟩
      simp at hy; subst hy
      have:=hlt x hx
      omega
    · by_cases hk : k < m.length
      · rw [List.getElem?_append_left hk] at hj
        rw [List.getElem?_append_left (by rw [← hH.len]; exact hk)] at hb
        obtain ⟨cs,hc,hr⟩:=hH.blk k j b hj hb
        exact ⟨cs,by rw [hg.block j (hH.lt hj) (by simp)]; exact hc,hr.mono _⟩
      · have hk' : k = m.length:=by
          have:=(List.getElem?_eq_some_iff.1 hj).1
          simp at this; omega
        subst hk'
        rw [List.getElem?_append_right (Nat.le_refl _)] at hj
        rw [List.getElem?_append_right (by rw [hH.len]; exact Nat.le_refl _)] at hb
        simp at hj
        simp [hH.len] at hb
        subst hj; subst hb
        exact ⟨cur,by rw [frOf_lit he]; exact hgc,by simpa using hra⟩
    · rw [hra.size,hcs,Nat.mul_one]
    · rw [List.getElem?_append_left (List.getElem?_eq_some_iff.1 hb).1]; exact hb
  rcases hL with ⟨rfl,rfl⟩ | ⟨k,cap,pad,rfl,hk,hcap,hcm,hpad⟩
  · have hv' : v' = .slice none 0 0:=hv.eq_of_flat rfl
    subst hv'
    obtain ⟨v4',w',hrun,r1,r2,_⟩:=run_append_own (P:=P) w w.heap.size T ty e i (.int .i64 0) 1 8 hT hi hz hsz hby rfl (by decide) (.slice none 0 0) 0 [] (World.ownsRow_nil w _ e 1) a 1 1 [vI z] (by simp) hnews h1 (by simp [maxLen]) (by decide) (Nat.le_refl _)
    obtain ⟨v4,n,H4,q⟩:=grown 1 v4' w' (by simp) (by simpa using r1) (by simpa [Value.ownBlock] using r2)
    exact ⟨v4,v4',w',n,H4,hrun,q⟩
  · cases hv with
    | pl _ h'=>simp [flat1] at h'
    | slice _ j _ _ _ _ hj=>
    obtain ⟨cs,hc,hr⟩:=hH.blk k j _ hj hk
    rw [frOf_lit he] at hc
    have hcs : cs.size = cap:=by rw [← hr.size]; exact hcap
    have hle : L.length ≤ cap:=by rw [← hcap]; simp [rowOf]
    have htake : cs.toList.take L.length = L.map vI:=by
      refine List.ext_getElem? fun q=>?_
      by_cases hq : q < L.length
      · rw [List.getElem?_take_of_lt hq,Array.getElem?_toList]
        have hqc : q < cs.size:=by omega
        have e1 : (rowOf L pad)[q]? = (L.map vI)[q]?:=by
          unfold rowOf
          rw [List.getElem?_toArray,List.getElem?_append_left (by simpa using hq)]
        rw [List.getElem?_map,List.getElem?_eq_getElem hq] at e1 ⊢
        have:=hr.at_ q _ _ e1 (Array.getElem?_eq_getElem hqc)
        rw [Array.getElem?_eq_getElem hqc,this.eq_of_flat rfl]
        rfl
      · rw [List.getElem?_eq_none (by simp; omega),List.getElem?_eq_none (by simp; omega)]
    have hown : w.ownsRow 0 e 1 (.slice (some ⟨j,0,none⟩) L.length cap) L.length (L.map vI):=⟨by simp,.inr ⟨j,cap,cs,rfl,Nat.zero_le _,hc,hle,hcm,by omega,by simpa using htake⟩⟩
    by_cases hroom : L.length + 1 ≤ cap
    · obtain ⟨w',hrun,r1,r2⟩:=run_append_fits (P:=P) w 0 T ty e i 1 hT hi hsz j L.length cap (L.map vI) hown a 1 1 [vI z] (by simp) hnews h1 hroom
      rcases r1.2 with ⟨h0,_⟩ | ⟨g,cap',cur,h0,_,hgc,hnc,_,hcs',htk⟩
      · simp at h0
      simp only [Value.slice.injEq,Option.some.injEq,Addr.mk.injEq,and_true,true_and] at h0
      obtain ⟨rfl,rfl⟩:=h0
      have htk' : cur.toList.take (L ++ [z]).length = (L ++ [z]).map vI:=by
        rw [List.map_append,List.length_append]
        simpa using htk
      have hra:=RA.row (m:=m) htk'
      have hmem : j ∈ m:=List.mem_of_getElem? hj
      refine ⟨.slice (some ⟨k,0,none⟩) (L.length + 1) cap,_,w',[],H.set k (rowOf (L ++ [z]) ((cur.toList.drop (L ++ [z]).length).map fun v=>.iface 0 v),e),hrun,.slice _ _ _ _ _ _ (by simpa using hj),?_,by simp,
        ⟨r2.os,r2.tape,r2.output,r2.size,fun q hq hqm=>r2.block q hq fun e=>hqm (by cases e; exact hmem)⟩,.inr ⟨k,cap,(cur.toList.drop (L ++ [z]).length).map fun v=>.iface 0 v,by simp,?_,?_,hcm,raws_calm _⟩,fun q b hb hbe=>?_⟩
      · rw [List.append_nil]
        refine ⟨by simp [hH.len],hH.nodup,fun q j2 b hj2 hb=>?_,hH.inv.keep r2.size (fun q hq=>r2.block q (Nat.lt_of_lt_of_le hq hH.inv.low) (fun e=>by
          have:=hH.far k j _ hj hk he
          cases e; omega)),hH.far.set hk _⟩
        by_cases hq : k = q
        · subst hq
          rw [hj] at hj2; cases hj2
          rw [List.getElem?_set_self (List.getElem?_eq_some_iff.1 hk).1] at hb
          cases hb
          exact ⟨cur,by rw [frOf_lit he]; exact hgc,hra⟩
        · rw [List.getElem?_set_ne hq] at hb
          obtain ⟨cs2,hc2,hr2⟩:=hH.blk q j2 b hj2 hb
          refine ⟨cs2,?_,hr2⟩
          rw [r2.block j2 (hH.lt hj2) (fun e=>hq (by cases e; exact nodup_inj hH.nodup hj hj2))]
          exact hc2
      · rw [List.getElem?_set_self (List.getElem?_eq_some_iff.1 hk).1]
      · rw [hra.size,hcs',Nat.mul_one]
      · have hq : k ≠ q:=fun e=>by
          subst e
          rw [hk] at hb
          cases hb
          exact hbe rfl
        rw [List.getElem?_set_ne hq]; exact hb
    · obtain ⟨v4',w',hrun,r1,r2⟩:=run_append_arg_grows (P:=P) w T ty e i (.int .i64 0) 1 8 hT hi hz hsz hby rfl (by decide) ⟨j,0,none⟩ L.length cap (L.map vI) (by simp) (fun q u hu=>by
          rw [Addr.add_lit,Nat.zero_add,cell_of_row w j q cs e (0,0) hc,← Array.getElem?_toList]
          have hq : q < L.length:=by have:=(List.getElem?_eq_some_iff.1 hu).1; simpa using this
          rw [← htake,List.getElem?_take_of_lt hq] at hu
          exact hu) a 1 1 [vI z] (by simp) hnews (by omega) (by simp only [maxLen]; omega) (by omega)
      obtain ⟨v4,n,H4,q⟩:=grown (L.length + 1) v4' w' rfl r1 r2
      exact ⟨v4,v4',w',n,H4,hrun,q⟩
theorem eval_at {t' : Array Value} {d : Nat} {v : Value} (h : t'[d]? = some v) : (act t').eval (.tmp d) = v:=by
  show t'.getD d undef = v
  simp [Array.getD_eq_getD_getElem?,h]
theorem get_put {t' : Array Value} {d : Nat} (v : Value) (h : d < t'.size) : (putA t' (some d) v)[d]? = some v:=by
  simp [putA,h]
theorem get_put_ne {t' : Array Value} {d k : Nat} (v : Value) (h : d ≠ k) : (putA t' (some d) v)[k]? = t'[k]?:=by
  simp [putA,Array.getElem?_setIfInBounds_ne h]
theorem put_size {t' : Array Value} {d : Option Nat} (v : Value) : (putA t' d v).size = t'.size:=by cases d <;> simp [putA]
theorem RA.at' {m : List Nat} {t t' : Array Value} (h : RA m t t') {d : Nat} {v : Value} (hd : t[d]? = some v) : ∃ v',t'[d]? = some v' ∧ VR m v v':=by
  have hlt : d < t'.size:=by rw [← h.size]; exact (Array.getElem?_eq_some_iff.1 hd).1
  exact ⟨t'[d],Array.getElem?_eq_getElem hlt,h.at_ d v _ hd (Array.getElem?_eq_getElem hlt)⟩
theorem oneSlice_run {T e : TypeId} {i : TypeInfo} (hT : P.underlying T = some (.slice e)) (hi : P.info? e = some i) (hz : i.zero = some (.int .i64 0)) (hsz : i.size = 1) {o : Oper} {d2 : Nat} (hp : o.op = .buildSlice T 1 #[(0,.tmp d2)]) {t' : Array Value} {z : I64} (ht : t'[d2]? = some (vI z)) (w : World) :
    (execOp (act t').eval o).run P w = .ok (.value (.slice (some ⟨w.heap.size,0,none⟩) 1 1)) (w.alloc (.cells #[vI z] e)):=by
  have hrun : (Instr.buildSlice T 1 #[(0,vI z)]).run P w = .ok (.slice (some ⟨w.heap.size,0,none⟩) 1 1) (w.alloc (.cells #[vI z] e)):=by
    unfold Instr.buildSlice
    simp [run_underlying hT w,run_sizeOf (P:=P) (T:=e) (n:=1) (by simp [tsize,hi,hsz]) w,run_zeroValue (P:=P) (T:=e) (z:=.int .i64 0) (by simp [tzero,hi,hz]) w,Instr.fill]
    kernel_rfl
  simp only [execOp,hp]
  have e1 : (#[(0,Operand.tmp d2)] : Array (Nat × Operand)).map (fun p=>(p.1,(act t').eval p.2)) = #[(0,vI z)]:=by simp [eval_at ht]
  rw [Sem.run_bind,e1,hrun]
  rfl
theorem Cfg.append {T e : TypeId} {i : TypeInfo} {id : Nat} {o1 o2 o3 o4 o5 : Oper} {d1 d2 d3 d4 s x : Nat} {r : List Item} {t : Array Value} {H : List Blk} {L : List I64} {v : Value} {z : I64}
    (he : e < 1000000) (hT : P.underlying T = some (.slice e)) (hi : P.info? e = some i) (hz : i.zero = some (.int .i64 0)) (hsz : i.size = 1) (hby : i.bytes = 8)
    (p1 : o1.op = .move (.tmp s)) (p2 : o2.op = .move (.tmp x)) (p3 : o3.op = .buildSlice T 1 #[(0,.tmp d2)]) (p4 : o4.op = .call { callee:=.builtin .append,args:=#[.tmp d1,.tmp d3],argTypes:=#[T,T] }) (p5 : o5.op = .assign (.tmp d4))
    (q : [o1,o2,o3,o4,o5].map (fun o=>(o.dst,o.guard)) = [(some d1,none),(some d2,none),(some d3,none),(some d4,none),(some s,none)])
    (hd : [d1,d2,d3,d4,s,x].Nodup) (hin : [d1,d2,d3,d4,s,x].all (fun d=>decide (d < t.size)) = true) (hs : t[s]? = some v) (hx : t[x]? = some (vI z)) (hL : LS e L v H) (hlen : L.length ≤ 1000000)
    (h : ∀ v4 H4,LS e (L ++ [z]) v4 H4 → (∀ (k : Nat) (b : Blk),H[k]? = some b → b.2 ≠ e → H4[k]? = some b) →
      Cfg P f r (putA (putA (putA (putA (putA t (some d1) v) (some d2) (vI z)) (some d3) (.slice (some ⟨H.length,0,none⟩) 1 1)) (some d4) v4) (some s) v4) H4 R) :
    Cfg P f (.code (.region id #[o1,o2,o3,o4,o5] false) :: r) t H R:=by
  simp only [List.map_cons,List.map_nil,List.cons.injEq,Prod.mk.injEq,and_true] at q
  obtain ⟨⟨q1,g1⟩,⟨q2,g2⟩,⟨q3,g3⟩,⟨q4,g4⟩,q5,g5⟩:=q
  simp only [List.all_cons,List.all_nil,Bool.and_eq_true,decide_eq_true_eq,and_true] at hin
  obtain ⟨b1,b2,b3,b4,b5,b6⟩:=hin
  simp only [List.nodup_cons,List.mem_cons,List.not_mem_nil,not_or,or_false] at hd
  obtain ⟨⟨n12,n13,n14,n15,n16⟩,⟨n23,n24,n25,n26⟩,⟨n34,n35,n36⟩,⟨n45,n46⟩,n56,_⟩:=hd
  refine Cfg.region fun m t' w ht hH=>?_
  have hsz':=ht.size
  obtain ⟨v',hs',hv⟩:=ht.at' hs
  obtain ⟨zx,hx',hzx⟩:=ht.at' hx
  have hzx' : zx = vI z:=hzx.eq_of_flat rfl
  subst hzx'
  refine wpList_step g1 (v':=v') (w':=w) (by simp [execOp,p1,eval_at hs']) ?_
  rw [q1]
  have r1:=ht.put hv (some d1)
  refine wpList_step g2 (v':=vI z) (w':=w) (by simp only [execOp,p2]; rw [eval_at (by rw [get_put_ne _ n16]; exact hx')]; rfl) ?_
  rw [q2]
  have r2:=r1.put (VR.pl (vI z) rfl) (some d2)
  refine wpList_step g3 (oneSlice_run hT hi hz hsz p3 (get_put _ (by rw [put_size]; omega)) w) ?_
  rw [q3]
  have hra0 : RA m #[vI z] #[vI z]:=⟨rfl,fun k u u' h1 h2=>by
    rw [h1] at h2; cases h2
    have:=Array.mem_of_getElem? h1
    simp at this
    subst this
    exact .pl _ rfl⟩
  have hH1:=hH.alloc e he hra0
  have r3:=(r2.mono [w.heap.size]).put (v:=.slice (some ⟨H.length,0,none⟩) 1 1) (VR.slice H.length w.heap.size 0 1 1 none (by rw [← hH.len]; simp)) (some d3)
  have hL1 : LS e L v (H ++ [(#[vI z],e)]):=by
    rcases hL with h0 | ⟨k,cap,pad,h1,h2,h3⟩
    · exact .inl h0
    · exact .inr ⟨k,cap,pad,h1,by rw [List.getElem?_append_left (List.getElem?_eq_some_iff.1 h2).1]; exact h2,h3⟩
  obtain ⟨v4,v4',w',n,H4,hrun,k1,k2,k3,k4,k5,k6⟩:=append_run he hT hi hz hsz hby hH1 hL1 (hv.mono _) hlen z o4.type ⟨w.heap.size,0,none⟩ (cell_new w (vI z) e)
  refine wpList_step g4 (v':=v4') (w':=w') (by
    simp only [execOp,p4,resolve,invoke,builtin]
    have e1 : (act (putA (putA (putA t' (some d1) v') (some d2) (vI z)) (some d3) (.slice (some ⟨w.heap.size,0,none⟩) 1 1))).eval (.tmp d1) = v':=eval_at (by rw [get_put_ne _ (Ne.symm n13),get_put_ne _ (Ne.symm n12)]; exact get_put _ (by omega))
    have e2 : (act (putA (putA (putA t' (some d1) v') (some d2) (vI z)) (some d3) (.slice (some ⟨w.heap.size,0,none⟩) 1 1))).eval (.tmp d3) = .slice (some ⟨w.heap.size,0,none⟩) 1 1:=eval_at (get_put _ (by rw [put_size,put_size]; omega))
    simp [e1,e2,hrun,Result.andThen]) ?_
  rw [q4]
  have r4:=(r3.mono n).put k1 (some d4)
  refine wpList_step g5 (v':=v4') (w':=w') (by simp only [execOp,p5]; rw [eval_at (get_put _ (by rw [put_size,put_size,put_size]; omega))]; rfl) ?_
  rw [q5]
  have r5:=r4.put k1 (some s)
  rw [List.append_assoc] at r5
  refine ⟨rfl,[w.heap.size] ++ n,_,_,H4,rfl,r5,by rw [List.append_assoc] at k2; exact k2,fun j hj=>?_,(Kept.alloc m w _).trans k4 (by simp),h v4 H4 k5 fun k b hb hbe=>k6 k b (by rw [List.getElem?_append_left (List.getElem?_eq_some_iff.1 hb).1]; exact hb) hbe⟩
  rcases List.mem_append.1 hj with hj | hj
  · simp at hj; omega
  · have:=k3 j hj
    simp at this
    omega
def Lone (e : TypeId) (L : List I64) (v : Value) (X : List Blk) : Prop:=
  (L = [] ∧ v = .slice none 0 0 ∧ X = []) ∨ ∃ cap pad,v = .slice (some ⟨0,0,some 0⟩) L.length cap ∧ X = [(rowOf L pad,e)] ∧ pad.all calm = true
theorem Lone.ok {e : TypeId} {L : List I64} {v : Value} {X : List Blk} (h : Lone e L v X) : newOk v = true ∧ X.all (fun b=>b.1.toList.all calm) = true:=by
  rcases h with ⟨_,rfl,rfl⟩ | ⟨cap,pad,rfl,rfl,hp⟩
  · exact ⟨rfl,rfl⟩
  · exact ⟨rfl,by simp only [List.all_cons,List.all_nil,Bool.and_true]; exact rowOf_calm hp⟩
theorem FunR.lone {e : TypeId} {L : List I64} {args : Array Value} (h : FunR P f [] args (LS e L)) : FunR P f [] args (Lone e L):=by
  refine ⟨h.1,fun m args' w ha hH=>(h.2 m args' w ha hH).mono ?_⟩
  rintro ex w' ⟨v,v',n,G,rfl,h1,h2,h3,h4,hs⟩
  have hm : m = []:=List.length_eq_zero_iff.1 hH.len
  subst hm
  rw [List.nil_append] at h1 h2
  rcases hs with ⟨rfl,rfl⟩ | ⟨k,cap,pad,rfl,hk,hcap,hcm,hpad⟩
  · refine ⟨.slice none 0 0,v',[],[],rfl,?_,RH.nil _ h2.inv,by simp,h4,.inl ⟨rfl,rfl,rfl⟩⟩
    rw [h1.eq_of_flat rfl]; exact .pl _ rfl
  · cases h1 with
    | pl _ h'=>simp [flat1] at h'
    | slice _ j _ _ _ _ hj=>
    obtain ⟨cs,hc,hr⟩:=h2.blk k j _ hj hk
    refine ⟨.slice (some ⟨0,0,some 0⟩) L.length cap,_,[j],[(rowOf L pad,e)],rfl,.slice _ _ _ _ _ _ rfl,⟨rfl,by simp,fun q j2 b hj2 hb=>?_,h2.inv,Far.new _ fun j2 hj2=>by
      simp at hj2; subst hj2; exact Nat.le_trans hH.inv.low (h3 _ (List.mem_of_getElem? hj))⟩,fun j2 hj2=>?_,h4,.inr ⟨cap,pad,rfl,rfl,hpad⟩⟩
    · cases q with
      | zero=>
        simp at hj2 hb
        subst hj2; subst hb
        refine ⟨cs,hc,hr.size,fun q u u' e1 e2=>?_⟩
        have hcalm:=List.all_eq_true.1 (rowOf_calm (L:=L) hpad) u (by rw [Array.mem_toList_iff]; exact Array.mem_of_getElem? e1)
        simp only [calm,Bool.or_eq_true] at hcalm
        have h5:=hr.at_ q u u' e1 e2
        rcases hcalm with (hv | hv) | hv
        · have : flat u = true:=by cases u <;> first | exact hv | (simp [flat1] at hv)
          rw [h5.eq_of_flat this]
          exact .pl u hv
        rotate_left
        · rw [h5.eq_of_flat (bare_flat hv)]
          exact VR.refl_of_flat _ (bare_flat hv)
        · cases h5 with
          | pl _ h=>exact .pl _ h
          | raw u'=>exact .raw u'
          | _=>simp [isRaw] at hv
      | succ q=>simp at hj2
    · simp at hj2
      subst hj2
      exact h3 j2 (List.mem_of_getElem? hj)
theorem Run.bl {β : Type} {e : TypeId} {H : List Blk} {x : List I64} {φ : List I64 → β} {gv : β → Value} {g : FuncId} {args : Array Value} (h : tr.callOf = some (g,args)) (hc : tr.isCall = true) (hF : FunR P g [] args (Lone e x)) (ho : args.toList.all flat = true)
    (hn : ∀ r : List I64,r = x → r = [] → Run P f (RvH H (gv (φ r))) (tr.made (.slice none 0 0) []))
    (hk : ∀ r : List I64,r = x → ∀ (cap : Nat) (pad : List Value),Run P f (RvH H (gv (φ r))) (tr.made (.slice (some ⟨0,0,some 0⟩) r.length cap) [(rowOf r pad,e)])) :
    Run P f (RvH H (gv (bindP x φ))) tr:=by
  refine Run.mr h hc hF (fun u X hS=>hS.ok) ho ?_
  rintro u X (⟨hx,rfl,rfl⟩ | ⟨cap,pad,rfl,rfl,_⟩)
  · exact hn x rfl hx
  · exact hk x rfl cap pad
def FO (T : TypeId) (fn : Fn) (cell : Value) (v : Value) (H : List Blk) : Prop:=∃ i,v = .func fn #[] #[.pointer (some ⟨i,0,Option.none⟩)] ∧ H[i]? = some (#[cell],T)
theorem FunR.fo {T : TypeId} {fn : Fn} {cell : Value} {args : Array Value} (hfl : flat cell = true) (h : FunR P f [] args (FO T fn cell)) : Fun P f [] args (.func fn #[] #[.pointer (some ⟨0,0,Option.none⟩)]) [(#[cell],T)]:=by
  refine ⟨h.1,fun m args' w ha hH=>(h.2 m args' w ha hH).mono ?_⟩
  rintro ex w' ⟨v,v',n,G,rfl,h1,h2,h3,h4,k,rfl,hk⟩
  have hm : m = []:=List.length_eq_zero_iff.1 hH.len
  subst hm
  rw [List.nil_append] at h1 h2
  cases h1 with
  | pl _ h'=>simp [flat1] at h'
  | func _ _ a' _ c' hsa hsc _ hel=>
  have ea : a' = #[]:=Array.eq_empty_of_size_eq_zero hsa.symm
  subst ea
  have hs1 : c'.size = 1:=by rw [← hsc]; rfl
  have e0:=hel 0 _ c'[0] rfl (Array.getElem?_eq_getElem (by omega))
  generalize hp : c'[0] = p at e0
  cases e0 with
  | pl _ h'=>simp [flat1] at h'
  | ptr _ j _ _ hj=>
  obtain ⟨cs,hc,hr⟩:=h2.blk k j _ hj hk
  refine ⟨.func fn #[] c',[j],rfl,.func _ _ _ _ _ rfl (by rw [hs1]; rfl) (fun q u u' k1 _=>by simp at k1) (fun q u u' k1 k2=>?_),⟨rfl,by simp,fun q j2 b hj2 hb=>?_,h2.inv,Far.new _ fun j2 hj2=>by
      simp at hj2; subst hj2; exact Nat.le_trans hH.inv.low (h3 _ (List.mem_of_getElem? hj))⟩,fun j2 hj2=>?_,h4⟩
  · have hq : q < 1:=(Array.getElem?_eq_some_iff.1 k1).1
    have : q = 0:=by omega
    subst this
    rw [Array.getElem?_eq_getElem (by omega),hp] at k2
    cases k1; cases k2
    exact .ptr 0 j 0 Option.none rfl
  · cases q with
    | zero=>
      simp at hj2 hb
      subst hj2; subst hb
      refine ⟨cs,hc,hr.size,fun q u u' e1 e2=>?_⟩
      have hq : q < 1:=(Array.getElem?_eq_some_iff.1 e1).1
      have : q = 0:=by omega
      subst this
      have : u = cell:=by cases e1; rfl
      subst this
      rw [(hr.at_ 0 u u' e1 e2).eq_of_flat hfl]
      exact VR.refl_of_flat _ hfl
    | succ q=>simp at hj2
  · simp at hj2
    subst hj2
    exact h3 j2 (List.mem_of_getElem? hj)
theorem Run.gb {α β : Type} {e : α → Value} {x : α} {φ : α → β} {Rg : β → Value → List Blk → Prop} {g : FuncId} {args : Array Value} (h : tr.callOf = some (g,args)) (ho : args.toList.all flat = true) (hF : Fun P g [] args (e x) []) (hu : ∀ r,flat (e r) = true)
    (hk : ∀ r : α,r = x → Run P f (Rg (φ r)) (tr.after (e r))) : Run P f (Rg (bindP x φ)) tr:=Run.c h ho hF (hu x) (hk x rfl)
theorem Run.gs {α β : Type} {e : α → Value} {x : α} {φ : α → β} {Rg : β → Value → List Blk → Prop} {g : FuncId} {args : Array Value} {H0 : List Blk} (sel : List Nat) (h : tr.callOf = some (g,(args.toList.map (renum sel)).toArray)) (hs : tr.seen sel = some H0) (hc : H0.all (fun b=>b.1.toList.all flat) = true) (hn : sel.Nodup)
    (ho : args.toList.all (argOk sel.length) = true) (hF : Fun P g H0 args (e x) H0) (hu : ∀ r,flat (e r) = true) (hk : ∀ r : α,r = x → Run P f (Rg (φ r)) (tr.after (e r))) : Run P f (Rg (bindP x φ)) tr:=
  Run.s sel H0 h hs hc hn ho hF (hu x) (hk x rfl)
theorem Run.gj {β : Type} {c : Bool} {x y : β} {Rg : β → Value → List Blk → Prop} (h : tr.cond = some c) (ha : c = true → Run P f (Rg x) tr.yes) (hb : c = false → Run P f (Rg y) tr.no) : Run P f (Rg (cond c x y)) tr:=by
  cases c
  · exact Run.n h (hb rfl)
  · exact Run.t h (ha rfl)
theorem Run.gq {α β : Type} {e : α → Value} {x : α} {φ : α → β} {Rg : β → Value → List Blk → Prop} {g : FuncId} {args : Array Value} (hF : Fun P g [] args (e x) []) (hk : ∀ r : α,r = x → Run P f (Rg (φ r)) (tr.after (e r)))
    (h : tr.callOf = some (g,args):=by kernel_rfl) (ho : args.toList.all flat = true:=by kernel_rfl) (hu : ∀ r,flat (e r) = true:=by exact fun _=>rfl) : Run P f (Rg (bindP x φ)) tr:=Run.gb h ho hF hu hk
theorem Run.gy {β : Type} {c : Bool} {x y : β} {Rg : β → Value → List Blk → Prop} (ha : c = true → Run P f (Rg x) tr.yes) (hb : c = false → Run P f (Rg y) tr.no) (h : tr.cond = some c:=by kernel_rfl) : Run P f (Rg (cond c x y)) tr:=Run.gj h ha hb
end Go.Proofs.YtfhnlkinjbakgaaGreatDoor.Abs
namespace Go.Proofs.YtfhnlkinjbakgaaGreatDoor.Abs
open Go Go.RowKit
variable {P : Program} {E : Eqs} {f : FuncId} {fn : Func} {tr : T} {R : Value → List Blk → Prop}
def FunS (P : Program) (f : FuncId) (Z X0 : List Blk) (args : Array Value) (S : Value → List Blk → Prop) : Prop:=FunR P f (Z ++ X0) args fun u G=>∃ X,G = Z ++ X ∧ S u X
theorem Run.cg {S : Value → List Blk → Prop} {g : FuncId} {Z X0 : List Blk} {args : Array Value} (zs xs : List Nat) (hF : FunS P g Z X0 args S)
    (hS : ∀ u X,S u X → xs.length ≤ X.length ∧ X.all (okB (zs.length + X.length)) = true ∧ okU (zs.length + X.length) u = true) (hzc : Z.all calmB = true) (hk : ∀ u X,S u X → Run P f R (tr.turned zs xs u X))
    (h : tr.callOf = some (g,(args.toList.map (renA (selF (zs ++ xs)))).toArray):=by kernel_rfl) (hc0 : tr.isCall = true:=by kernel_rfl) (hz : tr.sawB zs = some Z:=by kernel_rfl)
    (hx : tr.sawB xs = some (X0.map (renB (selF (zs ++ xs)))):=by kernel_rfl) (hc : X0.all (okB (zs ++ xs).length) = true:=by kernel_rfl) (hn : (zs ++ xs).Nodup:=by decide) (ho : args.toList.all (okA (zs ++ xs).length) = true:=by kernel_rfl) : Run P f R tr:=by
  cases tr <;> simp [T.isCall] at hc0
  simp [T.callOf] at h
  obtain ⟨rfl,rfl⟩:=h
  exact .chg _ zs xs Z X0 args _ _ S hF hz hzc hx hc hn ho hS hk
theorem Run.vq {α β : Type} {H : List Blk} {e : α → Value} {x : α} {φ : α → β} {gv : β → Value} {g : FuncId} {args : Array Value} {Z : List Blk} (zs : List Nat) (hF : Fun P g Z args (e x) Z) (hzc : Z.all calmB = true) (hk : ∀ r : α,r = x → Run P f (RvH H (gv (φ r))) (tr.after (e r)))
    (h : tr.callOf = some (g,(args.toList.map (renA (selF zs))).toArray):=by kernel_rfl) (hc0 : tr.isQ = true:=by kernel_rfl) (hz : tr.seen zs = some Z:=by kernel_rfl)
    (hn : zs.Nodup:=by decide) (ho : args.toList.all (okA zs.length) = true:=by kernel_rfl) (hu : ∀ r,flat (e r) = true:=by exact fun _=>rfl) (hU : ∀ (n : Nat) (r : α),okU n (e r) = true:=by exact fun _ _=>rfl) : Run P f (RvH H (gv (bindP x φ))) tr:=by
  cases tr <;> simp [T.isQ] at hc0
  simp [T.callOf] at h
  obtain ⟨rfl,rfl⟩:=h
  exact .qcalm _ zs Z args _ _ _ hF (hu x) (fun n=>hU n x) hz hzc hn ho (hk x rfl)
theorem Run.vl {α β : Type} {H : List Blk} {e : α → Value} {x : α} {φ : α → β} {gv : β → Value} {g : FuncId} {args : Array Value} {Z : List Blk} (zs : List Nat) (hF : Fun P g Z args (e x) Z) (hzc : Z.all calmB = true) (hk : ∀ r : α,r = x → Run P f (RvH H (gv (φ r))) (tr.turned zs [] (e r) []))
    (h : tr.callOf = some (g,(args.toList.map (renA (selF (zs ++ [])))).toArray):=by kernel_rfl) (hc0 : tr.isCall = true:=by kernel_rfl) (hz : tr.sawB zs = some Z:=by kernel_rfl) (hx : tr.sawB [] = some []:=by kernel_rfl)
    (hn : (zs ++ []).Nodup:=by decide) (ho : args.toList.all (okA (zs ++ []).length) = true:=by kernel_rfl) (hu : ∀ (n : Nat) (r : α),okU n (e r) = true:=by exact fun _ _=>rfl) : Run P f (RvH H (gv (bindP x φ))) tr:=by
  have hF' : FunS P g Z [] args fun u X=>u = e x ∧ X = []:=by
    refine ⟨hF.1,?_⟩
    rw [List.append_nil]
    intro m args' w ha hH
    refine (hF.2 m args' w ha hH).mono fun _ _ ⟨v',n,h1,h2,h3,h4,h5⟩=>⟨_,v',n,Z,h1,h2,h3,h4,h5,[],by rw [List.append_nil],rfl,rfl⟩
  refine Run.cg zs [] hF' (fun u X hs=>?_) hzc (fun u X hs=>?_) h hc0 hz hx rfl hn ho
  · obtain ⟨rfl,rfl⟩:=hs
    exact ⟨Nat.le_refl _,rfl,hu _ x⟩
  · obtain ⟨rfl,rfl⟩:=hs
    exact hk x rfl
theorem ren1_id (v : Value) : ren1 (fun i=>i) v = v:=by
  cases v with
  | pointer a=>cases a <;> rfl
  | slice a l c=>cases a <;> rfl
  | _=>rfl
theorem renA_id (v : Value) : renA (fun i=>i) v = v:=by
  cases v with
  | pointer a=>exact ren1_id (.pointer a)
  | slice a l c=>exact ren1_id (.slice a l c)
  | _=>rfl
theorem renU_id (v : Value) : renU (fun i=>i) v = v:=by
  cases v with
  | tuple vs=>
    have : vs.toList.map (renA fun i=>i) = vs.toList:=by
      rw [show (renA fun i=>i) = id from funext renA_id,List.map_id]
    simp only [renU,this]
  | pointer a=>exact ren1_id (.pointer a)
  | slice a l c=>exact ren1_id (.slice a l c)
  | _=>rfl
theorem renB_id (b : Blk) : renB (fun i=>i) b = b:=by
  have : b.1.toList.map (ren1 fun i=>i) = b.1.toList:=by
    rw [show (ren1 fun i=>i) = id from funext ren1_id,List.map_id]
  simp only [renB,this]
theorem FunS.of {S : Value → List Blk → Prop} {Z X0 : List Blk} {args : Array Value} (hS : ∀ u X,S u X → X0.length ≤ X.length ∧ X.all (okB (Z.length + X.length)) = true ∧ okU (Z.length + X.length) u = true) (hzc : Z.all calmB = true)
    (h : FunR P f (Z ++ X0) args fun u G=>∃ X Y,G = Z ++ (X ++ Y) ∧ S u X) : FunS P f Z X0 args S:=by
  refine ⟨h.1,fun m args' w ha hH=>(h.2 m args' w ha hH).mono ?_⟩
  rintro ex w' ⟨u,v',n,G,rfl,h1,h2,h3,h4,X,Y,rfl,hs⟩
  obtain ⟨hXl,hXo,hUo⟩:=hS u X hs
  have hml : m.length = Z.length + X0.length:=by rw [hH.len,List.length_append]
  have hk : (m ++ n).take (Z.length + X.length) = m ++ n.take (Z.length + X.length - m.length):=by
    rw [List.take_append,List.take_of_length_le (by omega)]
  have hto : ∀ i j,i < Z.length + X.length → (m ++ n)[i]? = some j → (m ++ n.take (Z.length + X.length - m.length))[i]? = some j:=fun i j hi hj=>by
    rw [← hk,List.getElem?_take_of_lt hi]; exact hj
  have hlen:=h2.len
  simp only [List.length_append] at hlen
  refine ⟨u,v',n.take (Z.length + X.length - m.length),Z ++ X,rfl,?_,⟨?_,?_,fun q j b hj hb=>?_,h2.inv,fun q j b hj hb hT=>by
    have hq : q < Z.length + X.length:=by
      have:=(List.getElem?_eq_some_iff.1 hb).1
      simpa [List.length_append] using this
    have hj0 : (m ++ n)[q]? = some j:=by
      rw [← hk,List.getElem?_take_of_lt hq] at hj
      exact hj
    exact h2.far q j b hj0 (by rw [← List.append_assoc,List.getElem?_append_left (by simpa [List.length_append] using hq)]; exact hb) hT⟩,fun j hj=>h3 j (List.mem_of_mem_take hj),h4,X,rfl,hs⟩
  · have:=renU_rel (ρ:=fun i=>i) hto hUo h1
    rwa [renU_id] at this
  · simp only [List.length_append,List.length_take]
    omega
  · rw [← hk]
    exact (List.take_sublist _ _).nodup h2.nodup
  · have hq : q < Z.length + X.length:=by
      have:=(List.getElem?_eq_some_iff.1 hb).1
      simpa [List.length_append] using this
    have hj0 : (m ++ n)[q]? = some j:=by
      rw [← hk,List.getElem?_take_of_lt hq] at hj
      exact hj
    obtain ⟨cs,c1,c2⟩:=h2.blk q j b hj0 (by rw [← List.append_assoc,List.getElem?_append_left (by simpa [List.length_append] using hq)]; exact hb)
    refine ⟨cs,c1,?_⟩
    by_cases hz : q < Z.length
    · rw [List.getElem?_append_left hz] at hb
      exact c2.calm (List.all_eq_true.1 hzc b (List.mem_of_getElem? hb))
    · rw [List.getElem?_append_right (by omega)] at hb
      have:=renB_rel (ρ:=fun i=>i) hto (List.all_eq_true.1 hXo b (List.mem_of_getElem? hb)) c2
      rwa [renB_id] at this
def byteAt (L : List U8) (i : I64) : U8:=L.getD i.val.toNat (cu8 0)
def srcB (T : TypeId) (cv : Value) (a : I64) (s : U64) : Blk:=(#[cv,.int .i64 a.val,.int .u64 s.val],T)
end Go.Proofs.YtfhnlkinjbakgaaGreatDoor.Abs
namespace Go.Proofs.YtfhnlkinjbakgaaGreatDoor.Abs
open Go Go.RowKit
def cellsI (P : Program) : Nat → TypeId → Option Nat
  | 0,_=>none
  | d + 1,T=>
    match P.underlying T with
    | some (.int .i64)=>some 1
    | some (.struct _)=>
      match (P.fieldsOf T).toList.foldl (fun acc f => acc.bind fun o => if f.name == "_" || f.offset != o then none else (cellsI P d f.type).map (o + ·)) (some 0) with
      | some n=>if P.stoodInHeld T = false ∧ tsize P T = some n then some n else none
      | none=>none
    | _=>none
def ints (xs : List Int) : Array Value:=(xs.map (Value.int .i64)).toArray
variable {P : Program}
def IsI (P : Program) (T : TypeId) (xs : List Int) (v : Value) : Prop:=
  (P.underlying T = some (.int .i64) ∧ ∃ a,xs = [a] ∧ v = .int .i64 a) ∨ ((∃ fs,P.underlying T = some (.struct fs)) ∧ v = .agg (ints xs))
theorem cellsI_kind {d : Nat} {T : TypeId} {n : Nat} (h : cellsI P d T = some n) : (P.underlying T = some (.int .i64) ∧ n = 1) ∨
    ((∃ fs, P.underlying T = some (.struct fs)) ∧ P.stoodInHeld T = false ∧ tsize P T = some n ∧ ∃ d', d = d' + 1 ∧ (P.fieldsOf T).toList.foldl (fun acc f => acc.bind fun o => if f.name == "_" || f.offset != o then none else (cellsI P d' f.type).map (o + ·)) (some 0) = some n) := by
  cases d with
  | zero=>simp [cellsI] at h
  | succ d=>
    unfold cellsI at h
    split at h
    · rename_i hu
      exact .inl ⟨hu,(Option.some.inj h).symm⟩
    · rename_i fs hu
      split at h
      · rename_i m hm
        split at h
        · rename_i hc
          cases h
          exact .inr ⟨⟨fs,hu⟩,hc.1,hc.2,d,rfl,hm⟩
        · cases h
      · cases h
    · cases h
theorem part_I {d : Nat} {T : TypeId} {n o : Nat} (h : cellsI P d T = some n) (xs : List Int) (hl : o + n ≤ xs.length) (w : World) : ∃ v,(part T (ints xs) o).run P w = .ok v w ∧ IsI P T ((xs.drop o).take n) v:=by
  rcases cellsI_kind h with ⟨hu,rfl⟩ | ⟨⟨fs,hu⟩,_,hs,_⟩
  · have hlt : o < xs.length:=by omega
    refine ⟨.int .i64 xs[o],run_part_int hu _ o _ (by simp [ints,List.getElem?_eq_getElem hlt]) w,.inl ⟨hu,xs[o],?_,rfl⟩⟩
    rw [List.drop_eq_getElem_cons hlt]
    rfl
  · have ha : (isAgg T).run P w = .ok true w:=by
      unfold isAgg
      rw [Sem.run_bind,run_underlying hu w]
      rfl
    refine ⟨.agg ((ints xs).extract o (o + n)),?_,.inr ⟨⟨fs,hu⟩,?_⟩⟩
    · unfold part
      simp only [Sem.run_bind,ha,Result.andThen_ok,if_true,run_sizeOf hs w,Sem.run_pure]
    · congr 1
      unfold ints
      rw [List.extract_toArray]
      congr 1
      rw [List.extract_eq_take_drop,Nat.add_sub_cancel_left,List.map_take,List.map_drop]
theorem beq_split (xs ys : List Int) (o m : Nat) : ((xs.drop o).take m == (ys.drop o).take m && xs.drop (o + m) == ys.drop (o + m)) = (xs.drop o == ys.drop o):=by
  have e : ∀ l : List Int,l.drop (o + m) = (l.drop o).drop m:=fun l=>by rw [List.drop_drop]
  rw [e,e]
  generalize xs.drop o = a
  generalize ys.drop o = b
  by_cases h : a = b
  · subst h; simp
  · have h2 : ¬ (a.take m = b.take m ∧ a.drop m = b.drop m):=fun ⟨h1,h2⟩=>h (by rw [← List.take_append_drop m a,h1,h2,List.take_append_drop])
    rw [beq_eq_false_iff_ne.2 h]
    cases hx : (a.take m == b.take m && a.drop m == b.drop m) with
    | false=>rfl
    | true=>
      simp only [Bool.and_eq_true,beq_iff_eq] at hx
      exact absurd hx h2
theorem eqI : ∀ (d : Nat) (T : TypeId) (n : Nat),cellsI P d T = some n → ∀ (e : Nat),d ≤ e → ∀ (xs ys : List Int) (v u : Value),xs.length = n → ys.length = n → IsI P T xs v → IsI P T ys u → ∀ w,(Op.equalIn e T v u).run P w = .ok (xs == ys) w:=by
  intro d
  induction d with
  | zero=>intro T n h; simp [cellsI] at h
  | succ d ih=>
    intro T n h e he xs ys v u hx hy hv hu' w
    obtain ⟨e,rfl⟩ : ∃ m,e = m + 1:=⟨e - 1,by omega⟩
    rcases cellsI_kind h with ⟨hu,rfl⟩ | ⟨⟨fs,hu⟩,hh,hs,d',hd,hf⟩
    · rcases hv with ⟨_,a,rfl,rfl⟩ | ⟨⟨fs,h2⟩,_⟩
      · rcases hu' with ⟨_,b,rfl,rfl⟩ | ⟨⟨fs,h2⟩,_⟩
        · rw [run_equalIn_int hu w e a b]
          congr 1
          cases hab : a == b <;> simp_all
        · rw [hu] at h2; cases h2
      · rw [hu] at h2; cases h2
    · have hd' : d' = d:=by omega
      subst hd'
      have hv' : v = .agg (ints xs):=by
        rcases hv with ⟨h2,_⟩ | ⟨_,h2⟩
        · rw [hu] at h2; cases h2
        · exact h2
      have hu2 : u = .agg (ints ys):=by
        rcases hu' with ⟨h2,_⟩ | ⟨_,h2⟩
        · rw [hu] at h2; cases h2
        · exact h2
      subst hv'; subst hu2
      have hfo : P.underlying T = some (.struct (P.fieldsOf T)):=by simp [Program.fieldsOf,hu]
      rw [run_equalIn_struct (P:=P) w e T _ _ hfo hh]
      have none_stays : ∀ (l : List Field), l.foldl (fun acc f => acc.bind fun o => if f.name == "_" || f.offset != o then none else (cellsI P d' f.type).map (o + ·)) none = none := by
        intro l
        induction l with
        | nil=>rfl
        | cons f l ih2=>exact ih2
      have go : ∀ (l : List Field) (o : Nat), l.foldl (fun acc f => acc.bind fun o => if f.name == "_" || f.offset != o then none else (cellsI P d' f.type).map (o + ·)) (some o) = some n → (Op.eqFields e (ints xs) (ints ys) l).run P w = .ok (xs.drop o == ys.drop o) w := by
        intro l
        induction l with
        | nil=>
          intro o ho
          simp only [List.foldl_nil,Option.some.injEq] at ho
          subst ho
          rw [List.drop_of_length_le (by omega),List.drop_of_length_le (by omega)]
          rfl
        | cons f l ih2=>
          intro o ho
          simp only [List.foldl_cons,Option.bind_some] at ho
          split at ho
          · rw [none_stays] at ho; cases ho
          · rename_i hc
            simp only [Bool.or_eq_true,not_or,Bool.not_eq_true,bne_eq_false_iff_eq] at hc
            obtain ⟨hname,hoff⟩:=hc
            cases hm : cellsI P d' f.type with
            | none=>rw [hm] at ho; simp only [Option.map_none,none_stays] at ho; cases ho
            | some m=>
              rw [hm] at ho
              simp only [Option.map_some] at ho
              have hle : o + m ≤ n:=by
                have mono : ∀ (l : List Field) (a : Nat), l.foldl (fun acc f => acc.bind fun o => if f.name == "_" || f.offset != o then none else (cellsI P d' f.type).map (o + ·)) (some a) = some n → a ≤ n := by
                  intro l
                  induction l with
                  | nil=>intro a h; simp at h; omega
                  | cons g l ih3=>
                    intro a h
                    simp only [List.foldl_cons,Option.bind_some] at h
                    split at h
                    · rw [none_stays] at h; cases h
                    · cases hg : cellsI P d' g.type with
                      | none=>rw [hg] at h; simp only [Option.map_none,none_stays] at h; cases h
                      | some q=>
                        rw [hg] at h
                        simp only [Option.map_some] at h
                        have:=ih3 _ h
                        omega
                exact mono l _ ho
              obtain ⟨v1,r1,k1⟩:=part_I hm xs (o:=o) (by omega) w
              obtain ⟨v2,r2,k2⟩:=part_I hm ys (o:=o) (by omega) w
              have hn : f.name ≠ "_" := by simpa using hname
              have hr:=ih f.type m hm e (by omega) _ _ v1 v2 (by simp; omega) (by simp; omega) k1 k2 w
              simp only [Op.eqFields,if_pos hn,Sem.run_bind,hoff,r1,r2,Result.andThen_ok,hr]
              have h3:=ih2 (o + m) ho
              rw [← beq_split xs ys o m]
              cases hb : ((xs.drop o).take m == (ys.drop o).take m) with
              | true=>simp only [Bool.not_true,Bool.false_eq_true,if_false,Bool.true_and]; exact h3
              | false=>simp only [Bool.not_false,if_true,Bool.false_and]; rfl
      exact go _ 0 hf
def eqL : List Value → List Value → Option Bool
  | [],[]=>some true
  | .int .i64 a :: l,.int .i64 b :: m=>(eqL l m).map ((a == b) && ·)
  | _,_=>none
theorem eqL_form : ∀ (l m : List Value) {b : Bool},eqL l m = some b → ∃ xs ys : List Int,l = xs.map (Value.int .i64) ∧ m = ys.map (Value.int .i64) ∧ xs.length = ys.length ∧ b = (xs == ys)
  | [],[],b,h=>by cases h; exact ⟨[],[],rfl,rfl,rfl,rfl⟩
  | [],_ :: _,b,h=>by simp [eqL] at h
  | v :: l,[],b,h=>by
    have : eqL (v :: l) [] = none:=by cases v with | int k a=>cases k <;> rfl | _=>rfl
    rw [this] at h; cases h
  | v :: l,u :: m,b,h=>by
    have key : (∃ a c,v = .int .i64 a ∧ u = .int .i64 c) ∨ eqL (v :: l) (u :: m) = none:=by
      cases v with
      | int k a=>
        cases k with
        | i64=>
          cases u with
          | int k c=>
            cases k with
            | i64=>exact .inl ⟨a,c,rfl,rfl⟩
            | _=>exact .inr rfl
          | _=>exact .inr rfl
        | _=>exact .inr rfl
      | _=>exact .inr rfl
    rcases key with ⟨a,c,rfl,rfl⟩ | h2
    · have e : eqL (.int .i64 a :: l) (.int .i64 c :: m) = (eqL l m).map ((a == c) && ·):=rfl
      rw [e,Option.map_eq_some_iff] at h
      obtain ⟨q,hq,rfl⟩:=h
      obtain ⟨xs,ys,rfl,rfl,hl,rfl⟩:=eqL_form l m hq
      exact ⟨a :: xs,c :: ys,rfl,rfl,by simp [hl],rfl⟩
    · rw [h2] at h; cases h
def eqN (n : Nat) : Value → Value → Option Bool
  | .agg x,.agg y=>if x.size = n ∧ y.size = n then eqL x.toList y.toList else none
  | _,_=>none
def eqNB (P : Program) (T : TypeId) (n : Nat) : Bool:=(match P.underlying T with | some (.struct _)=>true | _=>false) && decide (cellsI P 6 T = some n) && !P.eqGuardType P.depth T
theorem eqN_ok {T : TypeId} {n : Nat} (h0 : eqNB P T n = true) {x y : Value} {b : Bool} (hb : eqN n x y = some b) (ox oy : Operand) (w : World) :
    (do eqGuard .eql T ox oy x y; binOp .eql T x y : Sem Value).run P w = .ok (.bool b) w ∧ (do eqGuard .neq T ox oy x y; binOp .neq T x y : Sem Value).run P w = .ok (.bool (!b)) w:=by
  unfold eqNB at h0
  simp only [Bool.and_eq_true,decide_eq_true_eq,Bool.not_eq_true'] at h0
  obtain ⟨⟨h1,h2⟩,h3⟩:=h0
  have hst : ∃ fs,P.underlying T = some (.struct fs):=by
    split at h1
    · rename_i fs hu; exact ⟨fs,hu⟩
    · cases h1
  unfold eqN at hb
  split at hb
  case h_2=>cases hb
  rename_i a c
  split at hb
  case isFalse=>cases hb
  rename_i hsz
  obtain ⟨xs,ys,e1,e2,_,rfl⟩:=eqL_form _ _ hb
  have ha : a = ints xs:=by unfold ints; rw [← e1]
  have hc : c = ints ys:=by unfold ints; rw [← e2]
  subst ha; subst hc
  have lx : xs.length = n:=by simpa [ints] using hsz.1
  have ly : ys.length = n:=by simpa [ints] using hsz.2
  have he : (Op.equal T (.agg (ints xs)) (.agg (ints ys))).run P w = .ok (xs == ys) w:=by
    unfold Op.equal
    exact eqI 6 T n h2 Op.maxDepth (by decide) xs ys _ _ lx ly (.inr ⟨hst,rfl⟩) (.inr ⟨hst,rfl⟩) w
  have g1 : ∀ op,(op matches .eql | .neq) = true → (eqGuard op T ox oy (.agg (ints xs)) (.agg (ints ys))).run P w = .ok () w:=fun op hop=>by
    cases op <;> first | (simp at hop; done) | simp [eqGuard,program,Sem.run,h3]
  constructor
  · rw [Sem.run_bind,g1 .eql rfl,Result.andThen_ok]
    simp [binOp,he]
  · rw [Sem.run_bind,g1 .neq rfl,Result.andThen_ok]
    simp [binOp,he]
end Go.Proofs.YtfhnlkinjbakgaaGreatDoor.Abs
namespace Go.Proofs.YtfhnlkinjbakgaaGreatDoor.Abs
open Go Go.RowKit
structure Cd where
  row : Array Value
  ty : TypeId
  off : Nat
  L : List U8
  cap : Nat
  at_ : ∀ (i : Nat) (b : U8),L[i]? = some b → row[off + i]? = some (.int .u8 b.val)
  still : row.toList.all calm = true
def Cd.nil : Cd:=⟨#[],0,0,[],0,fun _ _ h=>by simp at h,rfl⟩
def Cd.sl (C : Cd) (i : Nat) : Value:=.slice (some ⟨i,C.off,some 0⟩) C.L.length C.cap
theorem Cd.calm (C : Cd) : calmB (C.row,C.ty) = true:=C.still
structure Cv (row : Array Value) where
  off : Nat
  L : List U8
  cap : Nat
  at_ : ∀ (i : Nat) (b : U8),L[i]? = some b → row[off + i]? = some (.int .u8 b.val)
def Cd.vw (C : Cd) (V : Cv C.row) : Cd:=⟨C.row,C.ty,V.off,V.L,V.cap,V.at_,C.still⟩
theorem Cd.byte (C : Cd) {i : I64} (h : 0 ≤ i.val ∧ i.val < (C.L.length : Int)) : C.row[C.off + i.val.toNat * 1]? = some (.int .u8 (byteAt C.L i).val):=by
  have hi : i.val.toNat < C.L.length:=by omega
  rw [Nat.mul_one]
  refine C.at_ _ _ ?_
  unfold byteAt
  simp [List.getD,List.getElem?_eq_getElem hi]
structure Src where
  ix : I64
  sd : U64
theorem allc {α : Type} {p : α → Bool} {a : α} {l : List α} (h : p a = true) (k : l.all p = true) : (a :: l).all p = true:=by rw [List.all_cons,h,k]; rfl
def Drew {α : Type} (e : α → Value) (T : TypeId) (cv : Value) (lo hi : Int) (r : α × Src) (u : Value) (X : List Blk) : Prop:=u = e r.1 ∧ X = [srcB T cv r.2.ix r.2.sd] ∧ lo ≤ r.2.ix.val ∧ r.2.ix.val ≤ hi
def RD {α : Type} (Z : List Blk) (e : α → Value) (T : TypeId) (cv : Value) (lo hi : Int) (r : α × Src) (u : Value) (G : List Blk) : Prop:=∃ X Y,G = Z ++ (X ++ Y) ∧ Drew e T cv lo hi r u X
variable {P : Program} {E : Eqs} {f : FuncId} {fn : Func} {tr : T} {R : Value → List Blk → Prop}
theorem drew_ok {α : Type} {e : α → Value} {T : TypeId} {cv : Value} {lo hi : Int} {r : α × Src} {n : Nat} (hu : ∀ (n : Nat) (r : α),okU n (e r) = true) (hcv : okc (n + 1) cv = true) (u : Value) (X : List Blk) (h : Drew e T cv lo hi r u X) :
    1 ≤ X.length ∧ X.all (okB (n + X.length)) = true ∧ okU (n + X.length) u = true:=by
  obtain ⟨rfl,rfl,_⟩:=h
  refine ⟨Nat.le_refl _,?_,hu _ _⟩
  show ([srcB T cv r.2.ix r.2.sd].all (okB (n + 1))) = true
  have h1 : ∀ (k : IntKind) (z : Int),okc (n + 1) (.int k z) = true:=fun _ _=>rfl
  have h2 : okB (n + 1) (srcB T cv r.2.ix r.2.sd) = true:=by
    show ([cv,.int .i64 r.2.ix.val,.int .u64 r.2.sd.val].all (okc (n + 1))) = true
    rw [List.all_cons,List.all_cons,List.all_cons,hcv,h1,h1]
    rfl
  rw [List.all_cons,h2]
  rfl
theorem FunS.drew {α : Type} {e : α → Value} {T : TypeId} {cv : Value} {lo hi : Int} {r : α × Src} {Z : List Blk} {a : I64} {s : U64} {args : Array Value} (hu : ∀ (n : Nat) (r : α),okU n (e r) = true) (hzc : Z.all calmB = true) (hcv : okc (Z.length + 1) cv = true)
    (h : FunR P f (Z ++ [srcB T cv a s]) args (RD Z e T cv lo hi r)) : FunS P f Z [srcB T cv a s] args (Drew e T cv lo hi r):=
  FunS.of (fun u X hs=>drew_ok hu hcv u X hs) hzc h
theorem Run.dr {α : Type} {e : α → Value} {T : TypeId} {cv : Value} {lo hi : Int} {r : α × Src} {Z : List Blk} (h : tr.retOf = some (e r.1)) (hH : tr.heapOf.take (Z.length + 1) = Z ++ [srcB T cv r.2.ix r.2.sd]) (hb : lo ≤ r.2.ix.val ∧ r.2.ix.val ≤ hi) : Run P f (RD Z e T cv lo hi r) tr:=
  Run.r h ⟨[srcB T cv r.2.ix r.2.sd],tr.heapOf.drop (Z.length + 1),by rw [← List.append_assoc,← hH,List.take_append_drop],rfl,rfl,hb⟩
theorem Run.cw {α β : Type} {e : α → Value} {x : α × Src} {φ : α × Src → β} {Rg : β → Value → List Blk → Prop} {g : FuncId} {Z : List Blk} {args : Array Value} {T : TypeId} {cv : Value} {lo hi : Int} {a : I64} {s : U64} (zs : List Nat) (i : Nat)
    (hF : FunS P g Z [srcB T cv a s] args (Drew e T cv lo hi x)) (hzc : Z.all calmB = true) (hk : ∀ r : α × Src,r = x → lo ≤ r.2.ix.val ∧ r.2.ix.val ≤ hi → Run P f (Rg (φ r)) (tr.turned zs [i] (e r.1) [srcB T cv r.2.ix r.2.sd]))
    (h : tr.callOf = some (g,(args.toList.map (renA (selF (zs ++ [i])))).toArray):=by kernel_rfl) (hc0 : tr.isCall = true:=by kernel_rfl) (hz : tr.sawB zs = some Z:=by kernel_rfl)
    (hx : tr.sawB [i] = some ([srcB T cv a s].map (renB (selF (zs ++ [i])))):=by kernel_rfl) (hc : [srcB T cv a s].all (okB (zs ++ [i]).length) = true:=by kernel_rfl) (hn : (zs ++ [i]).Nodup:=by decide) (ho : args.toList.all (okA (zs ++ [i]).length) = true:=by kernel_rfl)
    (hu : ∀ (n : Nat) (r : α),okU n (e r) = true:=by exact fun _ _=>rfl) (hcv : okc (zs.length + 1) cv = true:=by kernel_rfl) : Run P f (Rg (bindP x φ)) tr:=
  Run.cg zs [i] hF (fun u X hs=>drew_ok hu hcv u X hs) hzc (fun u X hs=>by
    obtain ⟨rfl,rfl,hb⟩:=hs
    exact hk x rfl hb) h hc0 hz hx hc hn ho
theorem Run.cf {g : FuncId} {Z : List Blk} {args : Array Value} {u : Value} {X : List Blk} (zs : List Nat) (hF : FunS P g Z [] args fun v Y=>v = u ∧ Y = X) (hzc : Z.all calmB = true) (hk : Run P f R (tr.turned zs [] u X))
    (h : tr.callOf = some (g,(args.toList.map (renA (selF (zs ++ [])))).toArray):=by kernel_rfl) (hc0 : tr.isCall = true:=by kernel_rfl) (hz : tr.sawB zs = some Z:=by kernel_rfl) (hx : tr.sawB [] = some []:=by kernel_rfl) (hn : (zs ++ []).Nodup:=by decide) (ho : args.toList.all (okA (zs ++ []).length) = true:=by kernel_rfl)
    (hX : X.all (okB (zs.length + X.length)) = true:=by kernel_rfl) (hu : okU (zs.length + X.length) u = true:=by kernel_rfl) : Run P f R tr:=
  Run.cg zs [] hF (fun v Y hs=>by obtain ⟨rfl,rfl⟩:=hs; exact ⟨Nat.zero_le _,hX,hu⟩) hzc (fun v Y hs=>by obtain ⟨rfl,rfl⟩:=hs; exact hk) h hc0 hz hx rfl hn ho
theorem FunS.made {Z : List Blk} {args : Array Value} {u : Value} {X : List Blk} (hX : X.all (okB (Z.length + X.length)) = true) (hu : okU (Z.length + X.length) u = true) (hzc : Z.all calmB = true)
    (h : FunR P f (Z ++ []) args fun v G=>∃ Y,G = Z ++ (X ++ Y) ∧ v = u) : FunS P f Z [] args fun v Y=>v = u ∧ Y = X:=by
  refine FunS.of (fun v Y hs=>by obtain ⟨rfl,rfl⟩:=hs; exact ⟨Nat.zero_le _,hX,hu⟩) hzc ⟨h.1,fun m args' w ha hH=>(h.2 m args' w ha hH).mono ?_⟩
  rintro ex w' ⟨v,v',n,G,h1,h2,h3,h4,h5,Y,rfl,rfl⟩
  exact ⟨_,v',n,_,h1,h2,h3,h4,h5,X,Y,rfl,rfl,rfl⟩
theorem Run.mk {Z : List Blk} {X : List Blk} {u : Value} (h : tr.retOf = some u) (hH : tr.heapOf.take (Z.length + X.length) = Z ++ X) : Run P f (fun v G=>∃ Y,G = Z ++ (X ++ Y) ∧ v = u) tr:=
  Run.r h ⟨tr.heapOf.drop (Z.length + X.length),by rw [← List.append_assoc,← hH,List.take_append_drop],rfl⟩
def Sourced (P : Program) (f : FuncId) (T : TypeId) : Prop:=Callable P f ∧ ∀ (a : Option Addr) (l c : Nat) (w : World),Calls P f #[.slice a l c] w fun e w'=>e = .returned (.pointer (some ⟨w.heap.size,0,none⟩)) ∧ w' = w.alloc (.cells #[.slice a l c,.int .i64 0,.int .u64 0] T)
theorem ra_src {m : List Nat} {v v' : Value} (h : VR m v v') : RA m #[v,.int .i64 0,.int .u64 0] #[v',.int .i64 0,.int .u64 0]:=
  ⟨rfl,fun i x x' h1 h2=>by
    match i,h1,h2 with
    | 0,h1,h2=>cases h1; cases h2; exact h
    | 1,h1,h2=>cases h1; cases h2; exact .pl _ rfl
    | 2,h1,h2=>cases h1; cases h2; exact .pl _ rfl
    | i + 3,h1,h2=>simp at h1⟩
theorem one_arg {m : List Nat} {v : Value} {args' : Array Value} (h : RA m #[v] args') : ∃ v',args' = #[v'] ∧ VR m v v':=by
  have hs : args'.size = 1:=by rw [← h.size]; rfl
  refine ⟨args'[0],?_,h.at_ 0 v _ rfl (Array.getElem?_eq_getElem (by omega))⟩
  refine Array.ext (by simpa using hs) fun i h1 h2=>?_
  have : i = 0:=by omega
  subst this
  rfl
theorem Sourced.list {T : TypeId} (C : Cd) (hT : T < 1000000) (h : Sourced P f T) : FunS P f [(C.row,C.ty)] [] #[C.sl 0] fun v Y=>v = .pointer (some ⟨1,0,none⟩) ∧ Y = [srcB T (C.sl 0) (c64 0) (cu64 0)]:=by
  refine ⟨h.1,fun m args' w ha hH=>?_⟩
  obtain ⟨v',rfl,hv⟩:=one_arg ha
  have hm : m.length = 1:=hH.len
  have hv0:=hv
  generalize hx : C.sl 0 = x at hv
  cases hv with
  | slice i j o l c s hj=>
    rw [hx] at hv0
    refine (h.2 _ l c w).mono ?_
    rintro e w' ⟨rfl,rfl⟩
    refine ⟨_,_,[w.heap.size],_,rfl,.ptr 1 w.heap.size 0 none (by rw [List.getElem?_append_right (by omega),hm]; rfl),hH.alloc T hT (ra_src hv0),by simp,Kept.alloc _ _ _,[srcB T (.slice (some ⟨i,o,s⟩) l c) (c64 0) (cu64 0)],rfl,rfl,rfl⟩
  | pl _ h'=>rw [← hx] at h'; simp [Cd.sl,flat1] at h'
  | _=>cases hx
theorem Sourced.none {T : TypeId} (hT : T < 1000000) (h : Sourced P f T) : FunS P f [] [] #[.slice none 0 0] fun v Y=>v = .pointer (some ⟨0,0,none⟩) ∧ Y = [srcB T (.slice none 0 0) (c64 0) (cu64 0)]:=by
  refine ⟨h.1,fun m args' w ha hH=>?_⟩
  obtain ⟨v',rfl,hv⟩:=one_arg ha
  have hm : m.length = 0:=hH.len
  have e : v' = .slice Option.none 0 0:=hv.eq_of_flat rfl
  subst e
  refine (h.2 _ 0 0 w).mono ?_
  rintro e w' ⟨rfl,rfl⟩
  exact ⟨_,_,[w.heap.size],_,rfl,.ptr 0 w.heap.size 0 Option.none (by rw [List.getElem?_append_right (by omega),hm]; rfl),hH.alloc T hT (ra_src hv),by simp,Kept.alloc _ _ _,[srcB T (.slice Option.none 0 0) (c64 0) (cu64 0)],rfl,rfl,rfl⟩
def unmark : Value → Value
  | .slice (some ⟨i,o,_⟩) l c=>.slice (some ⟨i,o,none⟩) l c
  | v=>v
theorem VR.marks {m : List Nat} {v u v' : Value} (h : VR m v v') (e : unmark u = unmark v) : VR m u v':=by
  cases u with
  | slice a l c=>
    cases a with
    | none=>
      cases v with
      | slice a2 l2 c2=>
        cases a2 with
        | none=>exact Eq.mp (congrArg (fun z=>VR m z v') e.symm) h
        | some a2=>simp [unmark] at e
      | _=>exact Eq.mp (congrArg (fun z=>VR m z v') e.symm) h
    | some a=>
      obtain ⟨i,o,s⟩:=a
      cases v with
      | slice a2 l2 c2=>
        cases a2 with
        | none=>simp [unmark] at e
        | some a2=>
          obtain ⟨i2,o2,s2⟩:=a2
          simp only [unmark,Value.slice.injEq,Option.some.injEq,Addr.mk.injEq,and_true] at e
          obtain ⟨⟨rfl,rfl⟩,rfl,rfl⟩:=e
          cases h with
          | pl _ h'=>simp [flat1] at h'
          | slice _ j _ _ _ _ hj=>exact .slice _ _ _ _ _ _ hj
      | _=>simp [unmark] at e
  | _=>
    cases v with
    | slice a2 l2 c2=>cases a2 <;> simp [unmark] at e
    | _=>exact Eq.mp (congrArg (fun z=>VR m z v') e.symm) h
theorem FunS.marks {S : Value → List Blk → Prop} {Z X0 : List Blk} {args args2 : Array Value} (e : args2.toList.map unmark = args.toList.map unmark) (h : FunS P f Z X0 args S) : FunS P f Z X0 args2 S:=by
  refine ⟨h.1,fun m args' w ha hH=>h.2 m args' w ⟨?_,fun i v v' h1 h2=>?_⟩ hH⟩
  · rw [← ha.size]
    have:=congrArg List.length e
    simpa using this.symm
  · have h3 : (args2.toList.map unmark)[i]? = some (unmark v):=by rw [e,List.getElem?_map,Array.getElem?_toList,h1]; rfl
    rw [List.getElem?_map] at h3
    cases h4 : args2.toList[i]? with
    | none=>rw [h4] at h3; cases h3
    | some u=>
      rw [h4] at h3
      simp only [Option.map_some,Option.some.injEq] at h3
      exact (ha.at_ i u v' (by rw [← Array.getElem?_toList]; exact h4) h2).marks h3.symm
theorem Run.gn {β : Type} {c : Bool} {x y : β} {Rg : β → Value → List Blk → Prop} (h : tr.cond = some c) (hc : c = false) (hk : Run P f (Rg y) tr.no) : Run P f (Rg (cond c x y)) tr:=by
  subst hc
  exact Run.n h hk
end Go.Proofs.YtfhnlkinjbakgaaGreatDoor.Abs
namespace Go.Proofs.YtfhnlkinjbakgaaGreatDoor.Abs
open Go Go.RowKit
end Go.Proofs.YtfhnlkinjbakgaaGreatDoor.Abs
namespace Go.Proofs.YtfhnlkinjbakgaaGreatDoor.Abs
open Go Go.RowKit Go.ChangeShapes Go.WideShapes
def keepInt : Value → Value
  | .int k n=>.int k n
  | v=>.iface 0 v
def absRow (c : Array Value) : Array Value:=c.map keepInt
theorem keepInt_rel (m : List Nat) (v : Value) : VR m (keepInt v) v:=by
  cases v <;> first | exact .pl _ rfl | exact .raw _
theorem absRow_rel (m : List Nat) (c : Array Value) : RA m (absRow c) c:=
  ⟨by simp [absRow],fun i v v' h1 h2=>by
    unfold absRow at h1
    rw [Array.getElem?_map,h2] at h1
    cases h1
    exact keepInt_rel m v'⟩
theorem absRow_calm (c : Array Value) : (absRow c).toList.all calm = true:=by
  rw [List.all_eq_true]
  intro v hv
  unfold absRow at hv
  rw [Array.toList_map] at hv
  obtain ⟨x,_,rfl⟩:=List.mem_map.1 hv
  cases x <;> rfl
theorem wu8_val {n : Int} (h : 0 ≤ n ∧ n ≤ 255) : (wu8 n).val = n:=by
  show IntKind.u8.wrap n = n
  simp only [IntKind.wrap,IntKind.bits,IntKind.signed]
  simp
  omega
structure Seen (w : World) (v : Value) where
  j : Nat
  c : Array Value
  T : TypeId
  fr : Nat × Nat
  off : Nat
  L : List U8
  cap : Nat
  blk : w.heap[j]? = some (.cells c T fr)
  val : v = .slice (some ⟨j,off,none⟩) L.length cap
  at_ : ∀ (i : Nat) (b : U8),L[i]? = some b → (absRow c)[off + i]? = some (.int .u8 b.val)
variable {P : Program} {f : FuncId}
theorem open_bytes {H : Type} {enc : TypeId × Value → H} {W : World} {base : Nat} {t e : TypeId} {v : Value} {d : DataW H} {ps : List MemPlace} (ht : P.underlying t = some (.slice e)) (he : P.underlying e = some (.int .u8)) (hc : P.cellsOf e = 1)
    (hval : Value.okWide P W .any base t v) (h : DataW.Trod enc P W 0 (fun _=>true) true t v d ps) : v = .slice none 0 0 ∨ Nonempty (Seen W v):=by
  obtain ⟨a,len,cap,rfl⟩:=okWide_slice ht hval
  obtain ⟨fuel,hf⟩:=h
  rcases open_ints ht he hc hf with ⟨hcs,_⟩ | ⟨x,l,c,zs,hcs,_,hl,hm,hz,_,hcell,hwz⟩
  · simp [Value.cells] at hcs
    obtain ⟨rfl,rfl,rfl⟩:=hcs
    exact .inl rfl
  · simp [Value.cells] at hcs
    obtain ⟨rfl,rfl,rfl⟩:=hcs
    right
    simp only [Value.okWide,ht,Cell.okWide,Cell.ok] at hval
    obtain ⟨_,_,_,hspot,row,cells,hshape,_⟩:=hval
    obtain ⟨j,off,spot⟩:=x
    simp only at hspot
    subst hspot
    have hblk : ∃ cs fr,W.heap[j]? = some (.cells cs row fr):=by
      unfold World.shape? at hshape
      split at hshape
      · rename_i cs elem fr hh
        simp only [Option.some.injEq,Prod.mk.injEq] at hshape
        obtain ⟨rfl,_⟩:=hshape
        exact ⟨cs,fr,hh⟩
      · cases hshape
    obtain ⟨cs,fr,hb⟩:=hblk
    have hlen : len ≤ zs.length:=by
      have : zs.length = cap:=by simpa using hz
      omega
    refine ⟨⟨j,cs,row,fr,off,(zs.take len).map wu8,cap,hb,?_,fun i b hi=>?_⟩⟩
    · rw [List.length_map,List.length_take,Nat.min_eq_left hlen]
    · rw [List.getElem?_map] at hi
      cases hx : (zs.take len)[i]? with
      | none=>rw [hx] at hi; cases hi
      | some z=>
        rw [hx] at hi
        simp only [Option.map_some,Option.some.injEq] at hi
        subst hi
        have hil : i < len:=by
          have:=(List.getElem?_eq_some_iff.1 hx).1
          rw [List.length_take] at this
          omega
        rw [List.getElem?_take_of_lt hil] at hx
        have hzm:=hwz z (List.mem_of_getElem? hx)
        have hr : 0 ≤ z ∧ z ≤ 255:=by
          simp [Lit.wf,IntKind.min,IntKind.max,IntKind.bits,IntKind.signed] at hzm
          omega
        rw [wu8_val hr]
        have h1:=hcell i (by omega)
        rw [List.getD_eq_getElem?_getD,hx] at h1
        simp only [Option.getD_some] at h1
        have h2 : W.cell? ⟨j,off + i,none⟩ = cs[off + i]?:=by
          unfold World.cell?
          simp [hb]
        have h3 : (⟨j,off,none⟩ : Addr).add i = ⟨j,off + i,none⟩:=by
          unfold Addr.add
          split
          · rename_i h0; subst h0; rfl
          · rfl
        rw [h3,h2] at h1
        unfold absRow
        rw [Array.getElem?_map,h1]
        rfl
noncomputable def Seen.cd {w : World} {v : Value} (s : Seen w v) : Cd:=⟨absRow s.c,Classical.choose (frOf_all s.T s.fr),s.off,s.L,s.cap,s.at_,absRow_calm s.c⟩
theorem Seen.fr_ok {w : World} {v : Value} (s : Seen w v) : frOf s.cd.ty = (s.T,s.fr):=(Classical.choose_spec (frOf_all s.T s.fr)).2
theorem Seen.ty_far {w : World} {v : Value} (s : Seen w v) : ¬ s.cd.ty < 1000000:=Nat.not_lt.2 (Classical.choose_spec (frOf_all s.T s.fr)).1
theorem Seen.rh {w : World} {v : Value} (s : Seen w v) (hi : Inv w) : RH [s.j] [(s.cd.row,s.cd.ty)] w:=
  ⟨rfl,by simp,fun i j b hj hb=>by
    cases i with
    | zero=>
      cases hj; cases hb
      exact ⟨s.c,by rw [s.fr_ok]; exact s.blk,absRow_rel _ _⟩
    | succ i=>simp at hj,hi,fun i j b hj hb hT=>by
    cases i with
    | zero=>cases hb; exact absurd hT s.ty_far
    | succ i=>simp at hj⟩
theorem Seen.arg {w : World} {v : Value} (s : Seen w v) {m : List Nat} {i : Nat} (h : m[i]? = some s.j) : VR m (s.cd.sl i) v:=by
  have h2 : VR m (s.cd.sl i) (.slice (some ⟨s.j,s.off,none⟩) s.L.length s.cap):=.slice _ _ _ _ _ _ h
  exact Eq.mp (congrArg (fun z=>VR m (s.cd.sl i) z) s.val.symm) h2
theorem Seen.rh2 {w : World} {v u : Value} (s : Seen w v) (q : Seen w u) (hne : s.j ≠ q.j) (hi : Inv w) : RH [s.j,q.j] [(s.cd.row,s.cd.ty),(q.cd.row,q.cd.ty)] w:=
  ⟨rfl,by simp [hne],fun i j b hj hb=>by
    match i,hj,hb with
    | 0,hj,hb=>cases hj; cases hb; exact ⟨s.c,by rw [s.fr_ok]; exact s.blk,absRow_rel _ _⟩
    | 1,hj,hb=>cases hj; cases hb; exact ⟨q.c,by rw [q.fr_ok]; exact q.blk,absRow_rel _ _⟩
    | i + 2,hj,hb=>simp at hj,hi,fun i j b hj hb hT=>by
    match i,hj,hb with
    | 0,hj,hb=>cases hb; exact absurd hT s.ty_far
    | 1,hj,hb=>cases hb; exact absurd hT q.ty_far
    | i + 2,hj,hb=>simp at hj⟩
theorem Seen.same {w : World} {v u : Value} (s : Seen w v) (q : Seen w u) (he : s.j = q.j) : ∃ c1 : Cv s.cd.row,∀ {m : List Nat} {i : Nat},m[i]? = some s.j → VR m ((s.cd.vw c1).sl i) u:=by
  have hc : q.c = s.c:=by
    have h3 : some (Obj.cells s.c s.T s.fr) = some (Obj.cells q.c q.T q.fr):=by rw [← s.blk,← q.blk,he]
    simp only [Option.some.injEq,Obj.cells.injEq] at h3
    exact h3.1.symm
  have hat : ∀ (i : Nat) (b : U8),q.L[i]? = some b → s.cd.row[q.off + i]? = some (.int .u8 b.val):=fun i b hi=>by
    have h4:=q.at_ i b hi
    rw [hc] at h4
    exact h4
  refine ⟨⟨q.off,q.L,q.cap,hat⟩,fun {m i} hm=>?_⟩
  have h2 : VR m ((s.cd.vw ⟨q.off,q.L,q.cap,hat⟩).sl i) (.slice (some ⟨q.j,q.off,none⟩) q.L.length q.cap):=.slice _ _ _ _ _ _ (by rw [← he]; exact hm)
  exact Eq.mp (congrArg (fun z=>VR m ((s.cd.vw ⟨q.off,q.L,q.cap,hat⟩).sl i) z) q.val.symm) h2
theorem Fun.callsH {H : List Blk} {args args' : Array Value} {v : Value} {m : List Nat} {w : World} (h : Fun P f H args v H) (hv : flat v = true) (ha : RA m args args') (hH : RH m H w) :
    Calls P f args' w fun e w'=>e = .returned v ∧ Below w.heap.size w w':=by
  refine (h.2 m args' w ha hH).mono ?_
  rintro e w' ⟨v',n,rfl,h1,h2,h3,h4⟩
  have hn : n = []:=by
    have e1:=h2.len
    have e2:=hH.len
    rw [List.length_append] at e1
    exact List.length_eq_zero_iff.1 (by omega)
  subst hn
  rw [List.append_nil] at h2
  exact ⟨by rw [h1.eq_of_flat hv],hH.below_of h2 h4⟩
theorem ra2 {m : List Nat} {v v' u u' : Value} (h : VR m v v') (k : VR m u u') : RA m #[v,u] #[v',u']:=
  ⟨rfl,fun i x x' h1 h2=>by
    match i,h1,h2 with
    | 0,h1,h2=>cases h1; cases h2; exact h
    | 1,h1,h2=>cases h1; cases h2; exact k
    | i + 2,h1,h2=>simp at h1⟩
theorem bytes2 {W : World} {v u r : Value} (hi : Inv W) (hr : flat r = true) (hv : v = .slice none 0 0 ∨ Nonempty (Seen W v)) (hu : u = .slice none 0 0 ∨ Nonempty (Seen W u))
    (hll : ∀ C D : Cd,Fun P f [(C.row,C.ty),(D.row,D.ty)] #[C.sl 0,D.sl 1] r [(C.row,C.ty),(D.row,D.ty)]) (hln : ∀ C : Cd,Fun P f [(C.row,C.ty)] #[C.sl 0,.slice none 0 0] r [(C.row,C.ty)])
    (hnl : ∀ C : Cd,Fun P f [(C.row,C.ty)] #[.slice none 0 0,C.sl 0] r [(C.row,C.ty)]) (hnn : Fun P f [] #[.slice none 0 0,.slice none 0 0] r []) (hlv : ∀ (C : Cd) (V : Cv C.row),Fun P f [(C.row,C.ty)] #[C.sl 0,(C.vw V).sl 0] r [(C.row,C.ty)]) :
    Calls P f #[v,u] W fun e w'=>e = .returned r ∧ Below W.heap.size W w':=by
  rcases hv with rfl | ⟨⟨s⟩⟩
  · rcases hu with rfl | ⟨⟨q⟩⟩
    · exact hnn.callsH hr (ra2 (.pl _ rfl) (.pl _ rfl)) (RH.nil W hi)
    · exact (hnl q.cd).callsH hr (ra2 (.pl _ rfl) (q.arg rfl)) (q.rh hi)
  · rcases hu with rfl | ⟨⟨q⟩⟩
    · exact (hln s.cd).callsH hr (ra2 (s.arg rfl) (.pl _ rfl)) (s.rh hi)
    · by_cases he : s.j = q.j
      · obtain ⟨c1,h1⟩:=s.same q he
        exact (hlv s.cd c1).callsH hr (ra2 (s.arg rfl) (h1 rfl)) (s.rh hi)
      · exact (hll s.cd q.cd).callsH hr (ra2 (s.arg rfl) (q.arg rfl)) (s.rh2 q he hi)
end Go.Proofs.YtfhnlkinjbakgaaGreatDoor.Abs
