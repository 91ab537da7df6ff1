/- The program's functions are these; part 4 (written by w.py). -/
import Derived.Test.YtfhnlkinjbakgaaGreatSsE
import Derived.Test.YtfhnlkinjbakgaaGreatSsF3
import Derived.Test.YtfhnlkinjbakgaaGreatSsQpre
import Derived.Test.YtfhnlkinjbakgaaGreatSsK0
import Derived.Test.YtfhnlkinjbakgaaGreatSsK3
set_option linter.unusedVariables false
set_option linter.unusedSimpArgs false
namespace Go.Proofs.YtfhnlkinjbakgaaGreat.Abs
open Go Go.RowKit
theorem mN (a0 : Iv) (a1 : Aq) : Br Tryz.prog 301 [] #[Af a0,vI a1] (Af (Rp a0 a1)) []:=by
 refine Br.ofH 400 Az mixed Tryz.func301 (by kernel_rfl) (by kernel_rfl) ?_
 unfold Rp
 refine Ac.q (e:=Af) (gv:=Af) (Av _) fun r1 _=>?_
 refine Ac.u 400 Az mixed Tryz.func301 ?_
 refine Ac.z [true] ?_
 refine Ac.q (e:=Af) (gv:=Af) (Av _) fun r2 _=>?_
 refine Ac.q (e:=Af) (gv:=Af) (Av _) fun r3 _=>?_
 refine Ac.q (e:=Af) (gv:=Af) (Cf _ _) fun r4 _=>?_
 refine Ac.q (e:=Af) (gv:=Af) (Bk _ _) fun r5 _=>?_
 refine Ac.q (e:=Af) (gv:=Af) (D1 _ _) fun r6 _=>?_
 refine Ac.u 400 Az mixed Tryz.func301 ?_
 refine Ac.z [true] ?_
 refine Ac.q (e:=Af) (gv:=Af) (Av _) fun r7 _=>?_
 refine Ac.q (e:=Af) (gv:=Af) (Av _) fun r8 _=>?_
 refine Ac.q (e:=Af) (gv:=Af) (Cf _ _) fun r9 _=>?_
 refine Ac.q (e:=Af) (gv:=Af) (Bk _ _) fun r10 _=>?_
 refine Ac.q (e:=Af) (gv:=Af) (D1 _ _) fun r11 _=>?_
 refine Ac.u 400 Az mixed Tryz.func301 ?_
 refine Ac.z [true] ?_
 refine Ac.q (e:=Af) (gv:=Af) (Av _) fun r12 _=>?_
 refine Ac.q (e:=Af) (gv:=Af) (Av _) fun r13 _=>?_
 refine Ac.q (e:=Af) (gv:=Af) (Cf _ _) fun r14 _=>?_
 refine Ac.q (e:=Af) (gv:=Af) (Bk _ _) fun r15 _=>?_
 refine Ac.q (e:=Af) (gv:=Af) (D1 _ _) fun r16 _=>?_
 refine Ac.u 400 Az mixed Tryz.func301 ?_
 refine Ac.z [true] ?_
 refine Ac.q (e:=Af) (gv:=Af) (Av _) fun r17 _=>?_
 refine Ac.q (e:=Af) (gv:=Af) (Av _) fun r18 _=>?_
 refine Ac.q (e:=Af) (gv:=Af) (Cf _ _) fun r19 _=>?_
 refine Ac.q (e:=Af) (gv:=Af) (Bk _ _) fun r20 _=>?_
 refine Ac.q (e:=Af) (gv:=Af) (D1 _ _) fun r21 _=>?_
 refine Ac.u 400 Az mixed Tryz.func301 ?_
 refine Ac.z [true] ?_
 refine Ac.q (e:=Af) (gv:=Af) (Av _) fun r22 _=>?_
 refine Ac.q (e:=Af) (gv:=Af) (Av _) fun r23 _=>?_
 refine Ac.q (e:=Af) (gv:=Af) (Cf _ _) fun r24 _=>?_
 refine Ac.q (e:=Af) (gv:=Af) (Bk _ _) fun r25 _=>?_
 refine Ac.q (e:=Af) (gv:=Af) (D1 _ _) fun r26 _=>?_
 refine Ac.u 400 Az mixed Tryz.func301 ?_
 refine Ac.z [true] ?_
 refine Ac.q (e:=Af) (gv:=Af) (Av _) fun r27 _=>?_
 refine Ac.q (e:=Af) (gv:=Af) (Av _) fun r28 _=>?_
 refine Ac.q (e:=Af) (gv:=Af) (Cf _ _) fun r29 _=>?_
 refine Ac.q (e:=Af) (gv:=Af) (Bk _ _) fun r30 _=>?_
 refine Ac.q (e:=Af) (gv:=Af) (D1 _ _) fun r31 _=>?_
 refine Ac.u 400 Az mixed Tryz.func301 ?_
 refine Ac.z [true] ?_
 refine Ac.q (e:=Af) (gv:=Af) (Av _) fun r32 _=>?_
 refine Ac.q (e:=Af) (gv:=Af) (Av _) fun r33 _=>?_
 refine Ac.q (e:=Af) (gv:=Af) (Cf _ _) fun r34 _=>?_
 refine Ac.q (e:=Af) (gv:=Af) (Bk _ _) fun r35 _=>?_
 refine Ac.q (e:=Af) (gv:=Af) (D1 _ _) fun r36 _=>?_
 refine Ac.u 400 Az mixed Tryz.func301 ?_
 refine Ac.z [true] ?_
 refine Ac.q (e:=Af) (gv:=Af) (Av _) fun r37 _=>?_
 refine Ac.q (e:=Af) (gv:=Af) (Av _) fun r38 _=>?_
 refine Ac.q (e:=Af) (gv:=Af) (Cf _ _) fun r39 _=>?_
 refine Ac.q (e:=Af) (gv:=Af) (Bk _ _) fun r40 _=>?_
 refine Ac.q (e:=Af) (gv:=Af) (D1 _ _) fun r41 _=>?_
 refine Ac.u 400 Az mixed Tryz.func301 ?_
 refine Ac.z [false] ?_
 exact Ac.x 0
theorem oQ : Br Tryz.prog 302 [] #[] (Af (eW)) []:=by
 refine Br.ofH 400 Az mixed Tryz.func302 (by kernel_rfl) (by kernel_rfl) ?_
 unfold eW
 exact Ac.x 0
theorem cM (a0 : Iv) : Br Tryz.prog 277 [] #[Af a0] (Af (Pk a0)) []:=by
 refine Br.ofH 400 Az mixed Tryz.func277 (by kernel_rfl) (by kernel_rfl) ?_
 unfold Pk
 refine Ac.q (e:=Af) (gv:=Af) (Y1) fun r1 _=>?_
 refine Ac.q (e:=vB) (gv:=Af) (aP _ _) fun r2 _=>?_
 refine Ac.y (gv:=Af) (fun _=>?_) (fun _=>?_)
 ·refine Ac.q (e:=Af) (gv:=Af) (Bs) fun r3 _=>?_
  exact Ac.x 0
 ·refine Ac.q (e:=Af) (gv:=Af) (Py _) fun r4 _=>?_
  refine Ac.q (e:=Af) (gv:=Af) (mN _ _) fun r5 _=>?_
  refine Ac.q (e:=Af) (gv:=Af) (Bk _ _) fun r6 _=>?_
  refine Ac.q (e:=Af) (gv:=Af) (oQ) fun r7 _=>?_
  refine Ac.q (e:=Af) (gv:=Af) (Cx _ _) fun r8 _=>?_
  exact Ac.x 0
theorem cO (a0 : Iv) (a1 : Iv) : Br Tryz.prog 122 [] #[Af a0,Af a1] (Dz (Uq a0 a1)) []:=by
 refine Br.ofH 400 Az mixed Tryz.func122 (by kernel_rfl) (by kernel_rfl) ?_
 unfold Uq
 refine Ac.q (e:=vB) (gv:=Dz) (D8 _) fun r1 _=>?_
 refine Ac.y (gv:=Dz) (fun _=>?_) (fun _=>?_)
 ·refine Ac.z [true] ?_
  refine Ac.q (e:=vB) (gv:=Dz) (D8 _) fun r2 _=>?_
  refine Ac.z [true] ?_
  refine Ac.y (gv:=Dz) (fun _=>?_) (fun _=>?_)
  ·refine Ac.q (e:=Af) (gv:=Dz) (Bs) fun r3 _=>?_
   exact Ac.x 0
  ·refine Ac.q (e:=vB) (gv:=Dz) (D8 _) fun r4 _=>?_
   refine Ac.y (gv:=Dz) (fun _=>?_) (fun _=>?_)
   ·exact Ac.x 0
   ·refine Ac.q (e:=vB) (gv:=Dz) (D8 _) fun r5 _=>?_
    refine Ac.y (gv:=Dz) (fun _=>?_) (fun _=>?_)
    ·exact Ac.x 0
    ·refine Ac.y (gv:=Dz) (fun _=>?_) (fun _=>?_)
     ·exact Ac.x 0
     ·exact Ac.x 0
 ·refine Ac.z [false,false,false] ?_
  refine Ac.q (e:=vB) (gv:=Dz) (D8 _) fun r6 _=>?_
  refine Ac.y (gv:=Dz) (fun _=>?_) (fun _=>?_)
  ·exact Ac.x 0
  ·refine Ac.q (e:=vB) (gv:=Dz) (D8 _) fun r7 _=>?_
   refine Ac.y (gv:=Dz) (fun _=>?_) (fun _=>?_)
   ·exact Ac.x 0
   ·refine Ac.y (gv:=Dz) (fun _=>?_) (fun _=>?_)
    ·exact Ac.x 0
    ·exact Ac.x 0
theorem Y4 (a0 : Iv) : Br Tryz.prog 276 [] #[Af a0] (Af (Rs a0)) []:=by
 refine Br.ofH 400 Az mixed Tryz.func276 (by kernel_rfl) (by kernel_rfl) ?_
 unfold Rs
 refine Ac.q (e:=Af) (gv:=Af) (Y1) fun r1 _=>?_
 refine Ac.q (e:=Dz) (gv:=Af) (cO _ _) fun r2 _=>?_
 exact Ac.x 0
theorem cR (a0 : Iv) : Br Tryz.prog 278 [] #[Af a0] (Af (Pl a0)) []:=by
 refine Br.ofH 400 Az mixed Tryz.func278 (by kernel_rfl) (by kernel_rfl) ?_
 unfold Pl
 refine Ac.q (e:=Af) (gv:=Af) (Y1) fun r1 _=>?_
 refine Ac.q (e:=vB) (gv:=Af) (aP _ _) fun r2 _=>?_
 refine Ac.y (gv:=Af) (fun _=>?_) (fun _=>?_)
 ·refine Ac.q (e:=Af) (gv:=Af) (Bs) fun r3 _=>?_
  exact Ac.x 0
 ·refine Ac.q (e:=Af) (gv:=Af) (Py _) fun r4 _=>?_
  refine Ac.q (e:=Af) (gv:=Af) (mN _ _) fun r5 _=>?_
  refine Ac.q (e:=Af) (gv:=Af) (oQ) fun r6 _=>?_
  refine Ac.q (e:=Af) (gv:=Af) (Cx _ _) fun r7 _=>?_
  exact Ac.x 0
theorem Px (a0 : Aq) (a1 : Aq) : Br Tryz.prog 233 [] #[vI a0,vI a1] (Af (Jb a0 a1)) []:=by
 refine Br.ofH 400 Az mixed Tryz.func233 (by kernel_rfl) (by kernel_rfl) ?_
 unfold Jb
 refine Ac.q (e:=vB) (gv:=Af) (Wa _) fun r1 _=>?_
 refine Ac.y (gv:=Af) (fun _=>?_) (fun _=>?_)
 ·refine Ac.q (e:=Af) (gv:=Af) (Y1) fun r2 _=>?_
  exact Ac.x 0
 ·refine Ac.q (e:=vI) (gv:=Af) (We _) fun r3 _=>?_
  refine Ac.q (e:=Af) (gv:=Af) (Mb _) fun r4 _=>?_
  refine Ac.q (e:=Af) (gv:=Af) (Kv _) fun r5 _=>?_
  refine Ac.q (e:=Af) (gv:=Af) (D1 _ _) fun r6 _=>?_
  refine Ac.y (gv:=Af) (fun _=>?_) (fun _=>?_)
  ·refine Ac.q (e:=Af) (gv:=Af) (cM _) fun r7 _=>?_
   refine Ac.q (e:=Af) (gv:=Af) (Y4 _) fun r8 _=>?_
   exact Ac.x 0
  ·refine Ac.y (gv:=Af) (fun _=>?_) (fun _=>?_)
   ·refine Ac.q (e:=Af) (gv:=Af) (cR _) fun r9 _=>?_
    refine Ac.q (e:=Af) (gv:=Af) (Y4 _) fun r10 _=>?_
    exact Ac.x 0
   ·refine Ac.y (gv:=Af) (fun _=>?_) (fun _=>?_)
    ·refine Ac.q (e:=Af) (gv:=Af) (cM _) fun r11 _=>?_
     refine Ac.q (e:=Af) (gv:=Af) (Sb _) fun r12 _=>?_
     refine Ac.q (e:=Af) (gv:=Af) (Y4 _) fun r13 _=>?_
     exact Ac.x 0
    ·refine Ac.q (e:=Af) (gv:=Af) (cR _) fun r14 _=>?_
     refine Ac.q (e:=Af) (gv:=Af) (Sb _) fun r15 _=>?_
     refine Ac.q (e:=Af) (gv:=Af) (Y4 _) fun r16 _=>?_
     exact Ac.x 0
theorem E2 (a0 : Iv) (a1 : Iv) : Br Tryz.prog 124 [] #[Af a0,Af a1] (Af (Fd a0 a1)) []:=by
 refine Br.ofH 400 Az mixed Tryz.func124 (by kernel_rfl) (by kernel_rfl) ?_
 unfold Fd
 refine Ac.q (e:=vB) (gv:=Af) (F8 _ _) fun r1 _=>?_
 refine Ac.y (gv:=Af) (fun _=>?_) (fun _=>?_)
 ·refine Ac.q (e:=Af) (gv:=Af) (Bs) fun r2 _=>?_
  exact Ac.x 0
 ·exact Ac.x 0
theorem rY (a0 : Iv) (a1 : Iv) : Br Tryz.prog 279 [] #[Af a0,Af a1] (vB (Lk a0 a1)) []:=by
 refine Br.ofH 400 Az mixed Tryz.func279 (by kernel_rfl) (by kernel_rfl) ?_
 unfold Lk
 refine Ac.q (e:=Dz) (gv:=vB) (cO _ _) fun r1 _=>?_
 exact Ac.x 0
theorem Zq (a0 : Iv) : ∀ (fu : Nat) (x_k : Aq) (acc : List Aq),(Eb fu a0 x_k acc).length ≤ acc.length + fu:=by
 intro fu
 induction fu with
 | zero=>intro x_k acc; exact Nat.le_refl _
 | succ fu ih=>
  intro x_k acc
  unfold Eb
  simp only [Aa]
  have h1:=ih (An (x_k.val + 1)) (acc ++ [x_k])
  have h2:=ih (An (x_k.val + 1)) acc
  rw [List.length_append] at h1
  simp only [List.length_cons,List.length_nil] at h1
  cases decide (x_k.val ≤ (An ((En a0.hi).val + 1)).val)
  ·rw [cond_false]; omega
  ·rw [cond_true]
   cases Lk (H7 x_k) a0
   ·rw [cond_false]; omega
   ·rw [cond_true]; omega
theorem Vh (a0 : Iv) : (Pe a0).length ≤ 4000:=by
 have qb:=Nq a0.lo
 unfold Pe
 simp only [Aa]
 have:=Zq a0 ((2000 - (An ((En a0.lo).val - 1)).val).toNat + 1) (An ((En a0.lo).val - 1)) []
 have e1 : (An ((En a0.lo).val - 1)).val = (En a0.lo).val - 1:=by rw [Ad]; omega
 simp only [List.length_nil,Nat.zero_add] at this
 refine Nat.le_trans this ?_
 omega
theorem lN (a0 : Iv) : ∀ (fu : Nat) (x_k : Aq) (acc : List Aq) (v : Value) (X : List C6) (hv : LS 2 acc v ((#[.int .i64 a0.lo.val,.int .i64 a0.hi.val],31) :: X)) (hm : (2000 - x_k.val).toNat < fu) (hk : -1100 ≤ x_k.val) (hlen : (acc.length : Int) ≤ x_k.val + 1100)
  (t : Array Value) (ht : Qf t [0,2,5,6,7,8,9,10,11,12,13,14,15,16,17,18,19,20,21,22,23,24,25] = #[undef,.pointer (some ⟨0,0,none⟩),undef,v,.int .i64 x_k.val,undef,undef,undef,undef,undef,undef,undef,undef,undef,undef,undef,undef,undef,undef,undef,undef,undef,undef,undef,undef,undef]),
  Ox Tryz.prog 234 (Wj Tryz.f234 0) t ((#[.int .i64 a0.lo.val,.int .i64 a0.hi.val],31) :: X) (LS 2 (Eb fu a0 x_k acc)):=by
 intro fu
 induction fu with
 | zero=>intro x_k acc v X hv hm; exact absurd hm (Nat.not_lt_zero _)
 | succ fu ih=>
  intro x_k acc v X hv hm hk hlen t ht
  refine Ox.round Az mixed Tryz.func234 ht fun q=>?_
  unfold Eb
  have qb:=Nq a0.hi
  refine Ac.c (by kernel_rfl) (by kernel_rfl) (We a0.hi) rfl ?_
  simp only [Aa]
  generalize En a0.hi = r1 at *
  refine Ac.i (c:=decide (x_k.val ≤ (An (r1.val + 1)).val)) (by kernel_rfl) (fun h1=>?_) (fun h1=>?_)
  ·rw [h1,cond_true]
   simp only [Ad,decide_eq_true_eq] at h1
   refine Ac.c (by kernel_rfl) (by kernel_rfl) (Kv x_k) rfl ?_
   generalize H7 x_k = r2
   refine Ac.c (by kernel_rfl) (by kernel_rfl) (rY r2 a0) rfl ?_
   generalize Lk r2 a0 = r3
   have e1 : (An (x_k.val + 1)).val = x_k.val + 1:=by rw [Ad]; omega
   refine Ac.i (c:=r3) (by kernel_rfl) (fun h2=>?_) (fun h2=>?_)
   ·rw [h2,cond_true]
    refine Ac.h (td:=Ak3 Tryz.f234 0) (H:=(#[.int .i64 a0.lo.val,.int .i64 a0.hi.val],31) :: X) (by kernel_rfl) (by kernel_rfl) rfl (by kernel_rfl) ?_
    refine Ox.app (T:=66) (e:=2) (d1:=21) (d2:=22) (d3:=23) (d4:=24) (s:=3) (x:=4) (L:=acc) (v:=v) (z:=x_k) (by kernel_rfl) (by kernel_rfl) (by kernel_rfl) (by kernel_rfl) (by decide) (by kernel_rfl) (by kernel_rfl) (by kernel_rfl) hv (by omega) fun v4 H4 hv4 hs4=>?_
    obtain ⟨X4,rfl⟩:=Aax hs4 (show (31 : Nat) ≠ 2 by decide)
    refine cZ Az mixed Tryz.func234 400 _ _ _ _ ?_
    exact Ac.l (by kernel_rfl) (by kernel_rfl) (by kernel_rfl) (by kernel_rfl) (ih (An (x_k.val + 1)) (acc ++ [x_k]) v4 X4 hv4 (by omega) (by omega) (by rw [List.length_append]; simp only [List.length_cons,List.length_nil]; omega))
   ·rw [h2,cond_false]
    exact Ac.l (by kernel_rfl) (by kernel_rfl) (by kernel_rfl) (by kernel_rfl) (ih (An (x_k.val + 1)) acc v X hv (by omega) (by omega) (by omega))
  ·rw [h1,cond_false]
   exact Ac.rl (v:=v) (by kernel_rfl) (by kernel_rfl) hv
theorem jA (a0 : Iv) : If Tryz.prog 234 [] #[Af a0] (Afo 2 (Pe a0)):=by
 refine If.lone (If.of 400 Az mixed Tryz.func234 (by kernel_rfl) ?_)
 unfold Pe
 have qb:=Nq a0.lo
 refine Ac.c (by kernel_rfl) (by kernel_rfl) (We a0.lo) rfl ?_
 simp only [Aa]
 generalize En a0.lo = r1 at *
 have e1 : (An (r1.val - 1)).val = r1.val - 1:=by rw [Ad]; omega
 exact Ac.l (by kernel_rfl) (by kernel_rfl) (by kernel_rfl) (by kernel_rfl) (lN a0 _ (An (r1.val - 1)) [] (.slice none 0 0) [] (.inl ⟨rfl,rfl⟩) (by omega) (by omega) (by simp only [List.length_nil]; omega))
theorem eG : ∀ (fu : Nat) (cp_r7 : Nat) (pd_r7 : List Value) (a1 : Aq) (r7 : List Aq) (a0 : Iv) (x_24 : Aq) (y_2 : Iv) (q0 : 0 ≤ x_24.val) (q1 : ((r7.length : Nat) : Int) ≤ 4000) (hm : (((r7.length : Nat) : Int) - x_24.val).toNat < fu) (t : Array Value) (ht : Qf t [0,2,3,6,7,8,9,10,11,12,13,14,15,16,17,18,19,20,21,25,26,27,28,29,30,31,32,33,34,35,36,37,38,39,40,41,42,43] = #[undef,.int .i64 a1.val,undef,undef,.pointer (some ⟨1,0,none⟩),.pointer (some ⟨2,0,none⟩),undef,undef,undef,undef,undef,undef,undef,undef,undef,undef,undef,undef,undef,undef,undef,undef,.slice (some ⟨3,0,some 0⟩) r7.length cp_r7,.int .i64 (((r7.length : Nat) : Int)),.int .i64 x_24.val,undef,undef,undef,undef,undef,undef,undef,undef,undef,undef,undef,undef,undef,undef,undef,undef,undef,undef,undef]),Ox Tryz.prog 172 (Wj Tryz.f172 0) t [(#[.int .i64 a0.lo.val,.int .i64 a0.hi.val],31),(#[.int .i64 0,.int .i64 0],31),(#[.int .i64 y_2.lo.val,.int .i64 y_2.hi.val],31),(O0 r7 pd_r7,2)] (Ou [] (Af (Fg fu a1 r7 a0 x_24 y_2))):=by
 intro fu
 induction fu with
 | zero=>intro cp_r7 pd_r7 a1 r7 a0 x_24 y_2 q0 q1 hm; exact absurd hm (Nat.not_lt_zero _)
 | succ fu ih=>
  intro cp_r7 pd_r7 a1 r7 a0 x_24 y_2 q0 q1 hm t ht
  refine Ox.round Az mixed Tryz.func172 ht fun g=>?_
  unfold Fg
  refine Ac.y (gv:=Af) (fun h8=>?_) (fun h8=>?_)
  ·refine Ac.k (c:=(decide (0 ≤ x_24.val ∧ x_24.val < ((r7.length : Nat) : Int)))) (by kernel_rfl) (by simp only [Ad,At,Aj,Bt,decide_eq_true_eq,decide_eq_false_iff_not,cond_true,cond_false] at *; omega) ?_
   refine Ac.ld (by kernel_rfl) (O3 (L:=r7) (pad:=pd_r7) (i:=x_24) (by simp only [Ad,At,Aj,Bt,decide_eq_true_eq,decide_eq_false_iff_not,cond_true,cond_false] at *; omega)) ?_
   refine Ac.y (gv:=Af) (fun h9=>?_) (fun h9=>?_)
   ·refine Ac.q (e:=Af) (gv:=Af) (Av _) fun r10 hr10=>?_
    refine Ac.q (e:=Af) (gv:=Af) (E2 _ _) fun r11 hr11=>?_
    exact Ac.l (by kernel_rfl) (by kernel_rfl) (by kernel_rfl) (by kernel_rfl) (ih cp_r7 pd_r7 a1 r7 a0 (An (x_24.val + 1)) r11 (by first | omega | (simp only [Ad,At,Aj,Bt,decide_eq_true_eq,decide_eq_false_iff_not,cond_true,cond_false] at *; omega)) (by first | omega | (simp only [Ad,At,Aj,Bt,decide_eq_true_eq,decide_eq_false_iff_not,cond_true,cond_false] at *; omega)) (by first | omega | (simp only [Ad,At,Aj,Bt,decide_eq_true_eq,decide_eq_false_iff_not,cond_true,cond_false] at *; omega)))
   ·refine Ac.y (gv:=Af) (fun h12=>?_) (fun h12=>?_)
    ·refine Ac.q (e:=Af) (gv:=Af) (Av _) fun r13 hr13=>?_
     refine Ac.q (e:=Af) (gv:=Af) (E2 _ _) fun r14 hr14=>?_
     exact Ac.l (by kernel_rfl) (by kernel_rfl) (by kernel_rfl) (by kernel_rfl) (ih cp_r7 pd_r7 a1 r7 a0 (An (x_24.val + 1)) r14 (by first | omega | (simp only [Ad,At,Aj,Bt,decide_eq_true_eq,decide_eq_false_iff_not,cond_true,cond_false] at *; omega)) (by first | omega | (simp only [Ad,At,Aj,Bt,decide_eq_true_eq,decide_eq_false_iff_not,cond_true,cond_false] at *; omega)) (by first | omega | (simp only [Ad,At,Aj,Bt,decide_eq_true_eq,decide_eq_false_iff_not,cond_true,cond_false] at *; omega)))
    ·exact Ac.l (by kernel_rfl) (by kernel_rfl) (by kernel_rfl) (by kernel_rfl) (ih cp_r7 pd_r7 a1 r7 a0 (An (x_24.val + 1)) y_2 (by first | omega | (simp only [Ad,At,Aj,Bt,decide_eq_true_eq,decide_eq_false_iff_not,cond_true,cond_false] at *; omega)) (by first | omega | (simp only [Ad,At,Aj,Bt,decide_eq_true_eq,decide_eq_false_iff_not,cond_true,cond_false] at *; omega)) (by first | omega | (simp only [Ad,At,Aj,Bt,decide_eq_true_eq,decide_eq_false_iff_not,cond_true,cond_false] at *; omega)))
  ·exact Ac.x 0
theorem Z2 (a0 : Iv) (a1 : Aq) : Br Tryz.prog 172 [] #[Af a0,vI a1] (Af (M9 a0 a1)) []:=by
 refine Br.ofH 400 Az mixed Tryz.func172 (by kernel_rfl) (by kernel_rfl) ?_
 unfold M9
 refine Ac.q (e:=vB) (gv:=Af) (cK _) fun r1 hr1=>?_
 refine Ac.y (gv:=Af) (fun h2=>?_) (fun h2=>?_)
 ·refine Ac.q (e:=Af) (gv:=Af) (Y1) fun r3 hr3=>?_
  exact Ac.x 0
 ·refine Ac.q (e:=Af) (gv:=Af) (Px _ _) fun r4 hr4=>?_
  refine Ac.q (e:=Af) (gv:=Af) (Px _ _) fun r5 hr5=>?_
  refine Ac.q (e:=Af) (gv:=Af) (E2 _ _) fun r6 hr6=>?_
  refine Ac.bl (gv:=Af) (by kernel_rfl) (by kernel_rfl) (jA _) (by kernel_rfl) (fun r7 hr7 nr7=>?_) (fun r7 hr7 cp_r7 pd_r7=>?_)
  ·subst nr7
   have e0 : Fg (((([] : List Aq).length : Nat) : Int).toNat + 1) a1 ([] : List Aq) a0 (Ah 0) r6 = r6:=by rw [Fg]; exact cond_false _ _
   show Ac _ _ (Ou [] (Af (Fg (((([] : List Aq).length : Nat) : Int).toNat + 1) a1 ([] : List Aq) a0 (Ah 0) r6))) _
   rw [e0]
   refine Ac.u 400 Az mixed Tryz.func172 ?_
   refine Ac.z [false] ?_
   exact Ac.x 0
  ·have hl_r7 : ((r7.length : Nat) : Int) ≤ 4000:=by rw [hr7]; exact Int.ofNat_le.2 (Vh _)
   exact Ac.l (by kernel_rfl) (by kernel_rfl) (by kernel_rfl) (by kernel_rfl) (eG (((r7.length : Nat) : Int).toNat + 1) cp_r7 pd_r7 a1 r7 a0 (Ah 0) r6 (by first | omega | (simp only [Ad,At,Aj,Bt,decide_eq_true_eq,decide_eq_false_iff_not,cond_true,cond_false] at *; omega)) (by first | omega | (simp only [Ad,At,Aj,Bt,decide_eq_true_eq,decide_eq_false_iff_not,cond_true,cond_false] at *; omega)) (by first | omega | (simp only [Ad,At,Aj,Bt,decide_eq_true_eq,decide_eq_false_iff_not,cond_true,cond_false] at *; omega)))
theorem Fx (a0 : Iv) : Br Tryz.prog 104 [] #[Af a0] (Af (G4 a0)) []:=by
 refine Br.ofH 400 Az mixed Tryz.func104 (by kernel_rfl) (by kernel_rfl) ?_
 unfold G4
 refine Ac.q (e:=Af) (gv:=Af) (Z2 _ _) fun r1 _=>?_
 exact Ac.x 0
theorem Re (a0 : Pt) : Br Tryz.prog 106 [] #[E6 a0] (Af (Nd a0)) []:=by
 refine Br.ofH 400 Az mixed Tryz.func106 (by kernel_rfl) (by kernel_rfl) ?_
 unfold Nd
 refine Ac.q (e:=vB) (gv:=Af) (F9 _) fun r1 _=>?_
 refine Ac.y (gv:=Af) (fun _=>?_) (fun _=>?_)
 ·refine Ac.q (e:=Af) (gv:=Af) (Bs) fun r2 _=>?_
  exact Ac.x 0
 ·refine Ac.q (e:=Af) (gv:=Af) (J6 _) fun r3 _=>?_
  exact Ac.x 0
theorem Ue (a0 : Iv) (a1 : Iv) : Br Tryz.prog 107 [] #[Af a0,Af a1] (Au (R5 a0 a1)) []:=by
 refine Br.ofH 400 Az mixed Tryz.func107 (by kernel_rfl) (by kernel_rfl) ?_
 unfold R5
 refine Ac.q (e:=vB) (gv:=Au) (F8 _ _) fun r1 _=>?_
 refine Ac.y (gv:=Au) (fun _=>?_) (fun _=>?_)
 ·exact Ac.x 0
 ·exact Ac.x 0
theorem fL (a0 : Aq) (a1 : Aq) : Br Tryz.prog 174 [] #[vI a0,vI a1] (Ax (Q4 a0 a1)) []:=by
 refine Br.ofH 400 Az mixed Tryz.func174 (by kernel_rfl) (by kernel_rfl) ?_
 unfold Q4
 refine Ac.q (e:=Ax) (gv:=Ax) (Mc _ _ _) fun r1 _=>?_
 refine Ac.q (e:=Ax) (gv:=Ax) (Pw _ _) fun r2 _=>?_
 exact Ac.x 0
theorem lP (a0 : Aq) (a1 : Aq) (a2 : Aq) : Br Tryz.prog 236 [] #[vI a0,vI a1,vI a2] (Ax (Sg a0 a1 a2)) []:=by
 refine Br.ofH 400 Az mixed Tryz.func236 (by kernel_rfl) (by kernel_rfl) ?_
 unfold Sg
 refine Ac.q (e:=Qa) (gv:=Ax) (It _ _) fun r1 _=>?_
 refine Ac.q (e:=Kr) (gv:=Ax) (jE _ _) fun r2 _=>?_
 refine Ac.y (gv:=Ax) (fun _=>?_) (fun _=>?_)
 ·exact Ac.x 0
 ·refine Ac.q (e:=Ax) (gv:=Ax) (aN _) fun r3 _=>?_
  refine Ac.y (gv:=Ax) (fun _=>?_) (fun _=>?_)
  ·refine Ac.z [true,true,true,true,true] ?_
   exact Ac.x 0
  ·refine Ac.z [false,false] ?_
   refine Ac.y (gv:=Ax) (fun _=>?_) (fun _=>?_)
   ·refine Ac.z [true,false,true,false] ?_
    refine Ac.y (gv:=Ax) (fun _=>?_) (fun _=>?_)
    ·exact Ac.x 0
    ·refine Ac.y (gv:=Ax) (fun _=>?_) (fun _=>?_)
     ·exact Ac.x 0
     ·exact Ac.x 0
   ·refine Ac.z [false,false,false,false,false] ?_
    refine Ac.y (gv:=Ax) (fun _=>?_) (fun _=>?_)
    ·exact Ac.x 0
    ·exact Ac.x 0
theorem jK (a0 : Aq) (a1 : Aq) : Br Tryz.prog 175 [] #[vI a0,vI a1] (Ax (Su a0 a1)) []:=by
 refine Br.ofH 400 Az mixed Tryz.func175 (by kernel_rfl) (by kernel_rfl) ?_
 unfold Su
 refine Ac.q (e:=Ax) (gv:=Ax) (lP _ _ _) fun r1 _=>?_
 refine Ac.q (e:=Ax) (gv:=Ax) (Pw _ _) fun r2 _=>?_
 exact Ac.x 0
theorem Dn (a0 : Aq) (a1 : Aq) : Br Tryz.prog 108 [] #[vI a0,vI a1] (Af (Dh a0 a1)) []:=by
 refine Br.ofH 400 Az mixed Tryz.func108 (by kernel_rfl) (by kernel_rfl) ?_
 unfold Dh
 refine Ac.y (gv:=Af) (fun _=>?_) (fun _=>?_)
 ·refine Ac.y (gv:=Af) (fun _=>?_) (fun _=>?_)
  ·refine Ac.z [true,true,true] ?_
   refine Ac.q (e:=Af) (gv:=Af) (Bs) fun r1 _=>?_
   exact Ac.x 0
  ·refine Ac.z [false,false] ?_
   refine Ac.y (gv:=Af) (fun _=>?_) (fun _=>?_)
   ·refine Ac.q (e:=Af) (gv:=Af) (Bs) fun r2 _=>?_
    exact Ac.x 0
   ·refine Ac.q (e:=Ax) (gv:=Af) (fL _ _) fun r3 _=>?_
    refine Ac.q (e:=Ax) (gv:=Af) (jK _ _) fun r4 _=>?_
    refine Ac.y (gv:=Af) (fun _=>?_) (fun _=>?_)
    ·refine Ac.z [true] ?_
     refine Ac.q (e:=Af) (gv:=Af) (F0 _ _ _) fun r5 _=>?_
     exact Ac.x 0
    ·refine Ac.z [false] ?_
     refine Ac.q (e:=Af) (gv:=Af) (F0 _ _ _) fun r6 _=>?_
     exact Ac.x 0
 ·refine Ac.q (e:=Ax) (gv:=Af) (fL _ _) fun r7 _=>?_
  refine Ac.q (e:=Ax) (gv:=Af) (jK _ _) fun r8 _=>?_
  refine Ac.y (gv:=Af) (fun _=>?_) (fun _=>?_)
  ·refine Ac.z [true] ?_
   refine Ac.q (e:=Af) (gv:=Af) (F0 _ _ _) fun r9 _=>?_
   exact Ac.x 0
  ·refine Ac.z [false] ?_
   refine Ac.q (e:=Af) (gv:=Af) (F0 _ _ _) fun r10 _=>?_
   exact Ac.x 0
theorem cQ (a0 : Pj) (a1 : Pt) : Br Tryz.prog 43 [] #[L8 a0,E6 a1] (Au (K1 a0 a1)) []:=by
 refine Br.ofH 400 Az mixed Tryz.func43 (by kernel_rfl) (by kernel_rfl) ?_
 unfold K1
 refine Ac.q (e:=vB) (gv:=Au) (Hu _) fun r1 _=>?_
 refine Ac.y (gv:=Au) (fun _=>?_) (fun _=>?_)
 ·refine Ac.z [true,true,true,true,true,true,true,true,true] ?_
  exact Ac.x 0
 ·refine Ac.z [false] ?_
  refine Ac.q (e:=vB) (gv:=Au) (F9 _) fun r2 _=>?_
  refine Ac.z [false,false] ?_
  refine Ac.y (gv:=Au) (fun _=>?_) (fun _=>?_)
  ·refine Ac.z [true,true,true,true,true] ?_
   exact Ac.x 0
  ·refine Ac.z [false,false] ?_
   refine Ac.q (e:=vB) (gv:=Au) (Vb _) fun r3 _=>?_
   refine Ac.z [false,false] ?_
   refine Ac.y (gv:=Au) (fun _=>?_) (fun _=>?_)
   ·exact Ac.x 0
   ·refine Ac.q (e:=vB) (gv:=Au) (eE _) fun r4 _=>?_
    refine Ac.y (gv:=Au) (fun _=>?_) (fun _=>?_)
    ·exact Ac.x 0
    ·refine Ac.q (e:=Af) (gv:=Au) (J6 _) fun r5 _=>?_
     refine Ac.q (e:=Af) (gv:=Au) (Fx _) fun r6 _=>?_
     refine Ac.q (e:=Af) (gv:=Au) (Re _) fun r7 _=>?_
     refine Ac.q (e:=Af) (gv:=Au) (Fx _) fun r8 _=>?_
     refine Ac.q (e:=Af) (gv:=Au) (Av _) fun r9 _=>?_
     refine Ac.q (e:=Af) (gv:=Au) (Cf _ _) fun r10 _=>?_
     refine Ac.y (gv:=Au) (fun _=>?_) (fun _=>?_)
     ·refine Ac.q (e:=Af) (gv:=Au) (Av _) fun r11 _=>?_
      refine Ac.q (e:=Af) (gv:=Au) (Cf _ _) fun r12 _=>?_
      refine Ac.q (e:=Au) (gv:=Au) (Ue _ _) fun r13 _=>?_
      exact Ac.x 0
     ·refine Ac.y (gv:=Au) (fun _=>?_) (fun _=>?_)
      ·refine Ac.q (e:=Au) (gv:=Au) (Ue _ _) fun r14 _=>?_
       exact Ac.x 0
      ·refine Ac.y (gv:=Au) (fun _=>?_) (fun _=>?_)
       ·refine Ac.q (e:=Af) (gv:=Au) (Cf _ _) fun r15 _=>?_
        refine Ac.q (e:=Af) (gv:=Au) (Cf _ _) fun r16 _=>?_
        refine Ac.q (e:=Au) (gv:=Au) (Ue _ _) fun r17 _=>?_
        exact Ac.x 0
       ·refine Ac.q (e:=Af) (gv:=Au) (Av _) fun r18 _=>?_
        refine Ac.q (e:=Af) (gv:=Au) (Dn _ _) fun r19 _=>?_
        refine Ac.q (e:=Af) (gv:=Au) (Re _) fun r20 _=>?_
        refine Ac.q (e:=Af) (gv:=Au) (Bk _ _) fun r21 _=>?_
        refine Ac.q (e:=Af) (gv:=Au) (Fx _) fun r22 _=>?_
        refine Ac.q (e:=Af) (gv:=Au) (Cf _ _) fun r23 _=>?_
        refine Ac.q (e:=Au) (gv:=Au) (Ue _ _) fun r24 _=>?_
        exact Ac.x 0
theorem cJ (a0 : Pj) : Br Tryz.prog 237 [] #[L8 a0] (vB (K0 a0)) []:=by
 refine Br.ofH 400 Az mixed Tryz.func237 (by kernel_rfl) (by kernel_rfl) ?_
 unfold K0
 refine Ac.q (e:=vB) (gv:=vB) (Hu _) fun r1 _=>?_
 refine Ac.y (gv:=vB) (fun _=>?_) (fun _=>?_)
 ·refine Ac.z [true,true] ?_
  refine Ac.q (e:=vB) (gv:=vB) (S5 _) fun r2 _=>?_
  refine Ac.z [true] ?_
  exact Ac.x 0
 ·refine Ac.z [false,false,false] ?_
  exact Ac.x 0
theorem J7 (a0 : Pj) : Br Tryz.prog 111 [] #[L8 a0] (E6 (Dq a0)) []:=by
 refine Br.ofH 400 Az mixed Tryz.func111 (by kernel_rfl) (by kernel_rfl) ?_
 unfold Dq
 exact Ac.x 0
theorem Wc (a0 : Aq) : Br Tryz.prog 193 [] #[vI a0] (vI (Na a0)) []:=by
 refine Br.ofH 400 Az mixed Tryz.func193 (by kernel_rfl) (by kernel_rfl) ?_
 unfold Na
 refine Ac.z [true] ?_
 refine Ac.y (gv:=vI) (fun _=>?_) (fun _=>?_)
 ·exact Ac.x 0
 ·refine Ac.y (gv:=vI) (fun _=>?_) (fun _=>?_)
  ·exact Ac.x 0
  ·exact Ac.x 0
theorem g9 (a0 : Pt) (a1 : Pt) : Br Tryz.prog 239 [] #[E6 a0,E6 a1] (Af (Mm a0 a1)) []:=by
 refine Br.ofH 400 Az mixed Tryz.func239 (by kernel_rfl) (by kernel_rfl) ?_
 unfold Mm
 refine Ac.q (e:=vI) (gv:=Af) (Wc _) fun r1 _=>?_
 refine Ac.q (e:=Af) (gv:=Af) (J6 _) fun r2 _=>?_
 exact Ac.x 0
theorem La (a0 : Iv) : Br Tryz.prog 134 [] #[Af a0] (Af (Lj a0)) []:=by
 refine Br.ofH 400 Az mixed Tryz.func134 (by kernel_rfl) (by kernel_rfl) ?_
 unfold Lj
 refine Ac.q (e:=Af) (gv:=Af) (Z2 _ _) fun r1 _=>?_
 exact Ac.x 0
theorem vV (a0 : Iv) (a1 : Iv) (a2 : Iv) : Br Tryz.prog 238 [] #[Af a0,Af a1,Af a2] (Q7 (Vy a0 a1 a2)) []:=by
 refine Br.ofH 400 Az mixed Tryz.func238 (by kernel_rfl) (by kernel_rfl) ?_
 unfold Vy
 refine Ac.q (e:=Af) (gv:=Q7) (Fx _) fun r1 _=>?_
 refine Ac.q (e:=Af) (gv:=Q7) (La _) fun r2 _=>?_
 refine Ac.q (e:=Af) (gv:=Q7) (Bk _ _) fun r3 _=>?_
 refine Ac.q (e:=Af) (gv:=Q7) (Fx _) fun r4 _=>?_
 refine Ac.q (e:=Af) (gv:=Q7) (La _) fun r5 _=>?_
 refine Ac.q (e:=Af) (gv:=Q7) (Bk _ _) fun r6 _=>?_
 refine Ac.q (e:=Af) (gv:=Q7) (La _) fun r7 _=>?_
 refine Ac.q (e:=Af) (gv:=Q7) (Fx _) fun r8 _=>?_
 refine Ac.q (e:=Af) (gv:=Q7) (Bk _ _) fun r9 _=>?_
 refine Ac.q (e:=Af) (gv:=Q7) (Fx _) fun r10 _=>?_
 refine Ac.q (e:=Af) (gv:=Q7) (Bk _ _) fun r11 _=>?_
 refine Ac.q (e:=Af) (gv:=Q7) (D1 _ _) fun r12 _=>?_
 refine Ac.q (e:=Af) (gv:=Q7) (La _) fun r13 _=>?_
 refine Ac.q (e:=Af) (gv:=Q7) (La _) fun r14 _=>?_
 refine Ac.q (e:=Af) (gv:=Q7) (Bk _ _) fun r15 _=>?_
 refine Ac.q (e:=Af) (gv:=Q7) (Fx _) fun r16 _=>?_
 refine Ac.q (e:=Af) (gv:=Q7) (Fx _) fun r17 _=>?_
 refine Ac.q (e:=Af) (gv:=Q7) (Bk _ _) fun r18 _=>?_
 refine Ac.q (e:=Af) (gv:=Q7) (Fx _) fun r19 _=>?_
 refine Ac.q (e:=Af) (gv:=Q7) (Bk _ _) fun r20 _=>?_
 refine Ac.q (e:=Af) (gv:=Q7) (Cx _ _) fun r21 _=>?_
 exact Ac.x 0
theorem vY (a0 : Pj) (a1 : Pt) : Br Tryz.prog 176 [] #[L8 a0,E6 a1] (Oa (V0 a0 a1)) []:=by
 refine Br.ofH 400 Az mixed Tryz.func176 (by kernel_rfl) (by kernel_rfl) ?_
 unfold V0
 refine Ac.q (e:=vB) (gv:=Oa) (cJ _) fun r1 _=>?_
 refine Ac.y (gv:=Oa) (fun _=>?_) (fun _=>?_)
 ·refine Ac.z [true,true,true,true] ?_
  exact Ac.x 0
 ·refine Ac.z [false] ?_
  refine Ac.q (e:=vB) (gv:=Oa) (F9 _) fun r2 _=>?_
  refine Ac.z [false,false] ?_
  refine Ac.y (gv:=Oa) (fun _=>?_) (fun _=>?_)
  ·exact Ac.x 0
  ·refine Ac.q (e:=E6) (gv:=Oa) (J7 _) fun r3 _=>?_
   refine Ac.q (e:=Af) (gv:=Oa) (Re _) fun r4 _=>?_
   refine Ac.q (e:=Af) (gv:=Oa) (Re _) fun r5 _=>?_
   refine Ac.q (e:=E6) (gv:=Oa) (J7 _) fun r6 _=>?_
   refine Ac.q (e:=Af) (gv:=Oa) (g9 _ _) fun r7 _=>?_
   refine Ac.q (e:=Q7) (gv:=Oa) (vV _ _ _) fun r8 _=>?_
   exact Ac.x 0
theorem s9 (a0 : Pt) : Br Tryz.prog 177 [] #[E6 a0] (bK (T4 a0)) []:=by
 refine Br.ofH 400 Az mixed Tryz.func177 (by kernel_rfl) (by kernel_rfl) ?_
 unfold T4
 refine Ac.q (e:=vB) (gv:=bK) (F9 _) fun r1 _=>?_
 refine Ac.y (gv:=bK) (fun _=>?_) (fun _=>?_)
 ·exact Ac.x 0
 ·refine Ac.q (e:=vI) (gv:=bK) (Wc _) fun r2 _=>?_
  exact Ac.x 0
theorem oT (a0 : Pt) (a1 : Pt) : Br Tryz.prog 178 [] #[E6 a0,E6 a1] (vB (Rq a0 a1)) []:=by
 refine Br.ofH 400 Az mixed Tryz.func178 (by kernel_rfl) (by kernel_rfl) ?_
 unfold Rq
 refine Ac.y (gv:=vB) (fun _=>?_) (fun _=>?_)
 ·refine Ac.z [true,true,true,true] ?_
  exact Ac.x 0
 ·refine Ac.z [false] ?_
  refine Ac.q (e:=vB) (gv:=vB) (eE _) fun r1 _=>?_
  refine Ac.z [false] ?_
  refine Ac.y (gv:=vB) (fun _=>?_) (fun _=>?_)
  ·refine Ac.z [true,true,true,true,false,true,false] ?_
   exact Ac.x 0
  ·refine Ac.z [false,false,false,false,false,false,false] ?_
   exact Ac.x 0
theorem jJ (a0 : Iv) (a1 : Iv) : Br Tryz.prog 179 [] #[Af a0,Af a1] (vI (Xa a0 a1)) []:=by
 refine Br.ofH 400 Az mixed Tryz.func179 (by kernel_rfl) (by kernel_rfl) ?_
 unfold Xa
 refine Ac.q (e:=vB) (gv:=vI) (F8 _ _) fun r1 _=>?_
 refine Ac.y (gv:=vI) (fun _=>?_) (fun _=>?_)
 ·exact Ac.x 0
 ·refine Ac.y (gv:=vI) (fun _=>?_) (fun _=>?_)
  ·exact Ac.x 0
  ·refine Ac.y (gv:=vI) (fun _=>?_) (fun _=>?_)
   ·exact Ac.x 0
   ·exact Ac.x 0
theorem jD : ∀ (fu : Nat) (a0 : Wd) (x_root : Dp) (x_i : Aq) (q0 : x_i.val ≤ 63) (hm : (x_i.val + 1).toNat < fu) (t : Array Value) (ht : Qf t [0,6,7,8,9,10,11,12,13,14,15,16,17,18,19,20,21,22,23,24,25,26,27,28,29,30,31,32,33,34,35,36,37,38,39,40,41,42,43,44,45] = #[undef,.pointer (some ⟨0,0,none⟩),.int .u64 0,.bool false,.int .u64 x_root.val,.int .i64 x_i.val,undef,undef,undef,undef,undef,undef,undef,undef,undef,undef,undef,undef,undef,undef,undef,undef,undef,undef,undef,undef,undef,undef,undef,undef,undef,undef,undef,undef,undef,undef,undef,undef,undef,undef,undef,undef,undef,undef,undef,undef]),Ox Tryz.prog 284 (Wj Tryz.f284 0) t [(#[.int .i64 a0.hi.val,.int .u64 a0.lo.val],150)] (Ou [] (Uu (H6 fu a0 x_root x_i))):=by
 intro fu
 induction fu with
 | zero=>intro a0 x_root x_i q0 hm; exact absurd hm (Nat.not_lt_zero _)
 | succ fu ih=>
  intro a0 x_root x_i q0 hm t ht
  refine Ox.round Az mixed Tryz.func284 ht fun g=>?_
  unfold H6
  refine Ac.y (gv:=Uu) (fun h2=>?_) (fun h2=>?_)
  ·refine Ac.k (c:=(decide (0 ≤ x_i.val))) (by kernel_rfl) (by simp only [Ad,At,Aj,Bt,decide_eq_true_eq] at *; omega) ?_
   refine Ac.q (e:=K6) (gv:=Uu) (Zz _ _) fun r3 hr3=>?_
   refine Ac.y (gv:=Uu) (fun h4=>?_) (fun h4=>?_)
   ·refine Ac.z [true,true,true,true,true,true,true,true] ?_
    exact Ac.l (by kernel_rfl) (by kernel_rfl) (by kernel_rfl) (by kernel_rfl) (ih a0 (Qg .u64 x_root.val (Ci .u64 1 x_i.val).val) (An (x_i.val - 1)) (by have q1:=x_i.lo; simp only [Ad,At,Aj,Bt,decide_eq_true_eq] at *; omega) (by have q1:=x_i.lo; simp only [Ad,At,Aj,Bt,decide_eq_true_eq] at *; omega))
   ·refine Ac.z [false,false,false,false,false] ?_
    refine Ac.y (gv:=Uu) (fun h5=>?_) (fun h5=>?_)
    ·refine Ac.z [true,true,true,false,true,false] ?_
     refine Ac.y (gv:=Uu) (fun h6=>?_) (fun h6=>?_)
     ·exact Ac.l (by kernel_rfl) (by kernel_rfl) (by kernel_rfl) (by kernel_rfl) (ih a0 (Qg .u64 x_root.val (Ci .u64 1 x_i.val).val) (An (x_i.val - 1)) (by have q1:=x_i.lo; simp only [Ad,At,Aj,Bt,decide_eq_true_eq] at *; omega) (by have q1:=x_i.lo; simp only [Ad,At,Aj,Bt,decide_eq_true_eq] at *; omega))
     ·exact Ac.l (by kernel_rfl) (by kernel_rfl) (by kernel_rfl) (by kernel_rfl) (ih a0 x_root (An (x_i.val - 1)) (by have q1:=x_i.lo; simp only [Ad,At,Aj,Bt,decide_eq_true_eq] at *; omega) (by have q1:=x_i.lo; simp only [Ad,At,Aj,Bt,decide_eq_true_eq] at *; omega))
    ·refine Ac.z [false,false,false,false,false,false,false] ?_
     exact Ac.l (by kernel_rfl) (by kernel_rfl) (by kernel_rfl) (by kernel_rfl) (ih a0 x_root (An (x_i.val - 1)) (by have q1:=x_i.lo; simp only [Ad,At,Aj,Bt,decide_eq_true_eq] at *; omega) (by have q1:=x_i.lo; simp only [Ad,At,Aj,Bt,decide_eq_true_eq] at *; omega))
  ·exact Ac.x 0
theorem fJ (a0 : Wd) : Br Tryz.prog 284 [] #[Qa a0] (Uu (Qy a0)) []:=by
 refine Br.ofH 400 Az mixed Tryz.func284 (by kernel_rfl) (by kernel_rfl) ?_
 unfold Qy
 refine Ac.y (gv:=Uu) (fun h1=>?_) (fun h1=>?_)
 ·exact Ac.x 0
 ·exact Ac.l (by kernel_rfl) (by kernel_rfl) (by kernel_rfl) (by kernel_rfl) (jD 65 a0 (Eu 0) (Ah 63) (by decide) (by decide))
theorem cL (a0 : Aq) (a1 : Aq) : Br Tryz.prog 244 [] #[vI a0,vI a1] (Ax (Pi a0 a1)) []:=by
 refine Br.ofH 400 Az mixed Tryz.func244 (by kernel_rfl) (by kernel_rfl) ?_
 unfold Pi
 refine Ac.y (gv:=Ax) (fun _=>?_) (fun _=>?_)
 ·refine Ac.z [true,true,true] ?_
  exact Ac.x 0
 ·refine Ac.z [false,false] ?_
  refine Ac.y (gv:=Ax) (fun _=>?_) (fun _=>?_)
  ·exact Ac.x 0
  ·refine Ac.q (e:=Qa) (gv:=Ax) (It _ _) fun r1 _=>?_
   refine Ac.q (e:=Uu) (gv:=Ax) (fJ _) fun r2 _=>?_
   exact Ac.x 0
theorem fK (a0 : Aq) : Br Tryz.prog 195 [] #[vI a0] (Ax (Q1 a0)) []:=by
 refine Br.ofH 400 Az mixed Tryz.func195 (by kernel_rfl) (by kernel_rfl) ?_
 unfold Q1
 refine Ac.q (e:=vB) (gv:=Ax) (Hm _) fun r1 _=>?_
 refine Ac.y (gv:=Ax) (fun _=>?_) (fun _=>?_)
 ·exact Ac.x 0
 ·refine Ac.q (e:=Ax) (gv:=Ax) (cL _ _) fun r2 _=>?_
  refine Ac.q (e:=Ax) (gv:=Ax) (Pw _ _) fun r3 _=>?_
  exact Ac.x 0
theorem Aak (a0 : Aq) : Br Tryz.prog 196 [] #[vI a0] (Ax (Yp a0)) []:=by
 refine Br.ofH 400 Az mixed Tryz.func196 (by kernel_rfl) (by kernel_rfl) ?_
 unfold Yp
 refine Ac.q (e:=Ax) (gv:=Ax) (fK _) fun r1 _=>?_
 refine Ac.y (gv:=Ax) (fun _=>?_) (fun _=>?_)
 ·refine Ac.z [true,true] ?_
  refine Ac.q (e:=Qa) (gv:=Ax) (It _ _) fun r2 _=>?_
  refine Ac.z [true,true] ?_
  refine Ac.q (e:=Qa) (gv:=Ax) (It _ _) fun r3 _=>?_
  refine Ac.z [true,true] ?_
  refine Ac.y (gv:=Ax) (fun _=>?_) (fun _=>?_)
  ·refine Ac.q (e:=Ax) (gv:=Ax) (Pw _ _) fun r4 _=>?_
   exact Ac.x 0
  ·refine Ac.q (e:=Ax) (gv:=Ax) (Pw _ _) fun r5 _=>?_
   exact Ac.x 0
 ·refine Ac.z [false,false,false,false,false,false,false] ?_
  refine Ac.q (e:=Ax) (gv:=Ax) (Pw _ _) fun r6 _=>?_
  exact Ac.x 0
theorem X2 (a0 : Iv) : Br Tryz.prog 116 [] #[Af a0] (Af (Sh a0)) []:=by
 refine Br.ofH 400 Az mixed Tryz.func116 (by kernel_rfl) (by kernel_rfl) ?_
 unfold Sh
 refine Ac.q (e:=vB) (gv:=Af) (D8 _) fun r1 _=>?_
 refine Ac.y (gv:=Af) (fun _=>?_) (fun _=>?_)
 ·refine Ac.z [true,true,true,true] ?_
  refine Ac.q (e:=Af) (gv:=Af) (Bs) fun r2 _=>?_
  exact Ac.x 0
 ·refine Ac.z [false,false,false] ?_
  refine Ac.y (gv:=Af) (fun _=>?_) (fun _=>?_)
  ·refine Ac.q (e:=Af) (gv:=Af) (Bs) fun r3 _=>?_
   exact Ac.x 0
  ·refine Ac.q (e:=Ax) (gv:=Af) (fK _) fun r4 _=>?_
   refine Ac.q (e:=Ax) (gv:=Af) (Aak _) fun r5 _=>?_
   refine Ac.y (gv:=Af) (fun _=>?_) (fun _=>?_)
   ·refine Ac.z [true] ?_
    refine Ac.q (e:=Af) (gv:=Af) (F0 _ _ _) fun r6 _=>?_
    exact Ac.x 0
   ·refine Ac.z [false] ?_
    refine Ac.q (e:=Af) (gv:=Af) (F0 _ _ _) fun r7 _=>?_
    exact Ac.x 0
theorem jF (a0 : Wd) (a1 : Wd) : Br Tryz.prog 283 [] #[Qa a0,Qa a1] (gG (Ph a0 a1)) []:=by
 refine Br.ofH 400 Az mixed Tryz.func283 (by kernel_rfl) (by kernel_rfl) ?_
 unfold Ph
 refine Ac.k (c:=(decide (0 ≤ (a0.lo.val : Int)) && (decide (0 ≤ (a1.lo.val : Int)) && (decide (0 ≤ (0 : Int)) && decide ((0 : Int) ≤ 1))))) (by kernel_rfl) (by simp only [Bool.and_eq_true,decide_eq_true_eq]; exact ⟨Dp.lo a0.lo,Dp.lo a1.lo,Dp.lo (Eu 0),(by decide)⟩) ?_
 refine Ac.k (c:=(decide (0 ≤ ((Ak a0.hi.val).val : Int)) && (decide (0 ≤ ((Ak a1.hi.val).val : Int)) && (decide (0 ≤ ((Lg a0.lo a1.lo (Eu 0)).val : Int)) && decide (((Lg a0.lo a1.lo (Eu 0)).val : Int) ≤ 1))))) (by kernel_rfl) (by simp only [Bool.and_eq_true,decide_eq_true_eq]; exact ⟨Dp.lo (Ak a0.hi.val),Dp.lo (Ak a1.hi.val),Dp.lo (Lg a0.lo a1.lo (Eu 0)),(Abo _ _ _ (by decide))⟩) ?_
 refine Ac.y (gv:=gG) (fun _=>?_) (fun _=>?_)
 ·exact Ac.x 0
 ·exact Ac.x 0
theorem Va (a0 : Aq) (a1 : Aq) (a2 : Aq) : Br Tryz.prog 240 [] #[vI a0,vI a1,vI a2] (Sw (Ln a0 a1 a2)) []:=by
 refine Br.ofH 400 Az mixed Tryz.func240 (by kernel_rfl) (by kernel_rfl) ?_
 unfold Ln
 refine Ac.q (e:=Qa) (gv:=Sw) (It _ _) fun r1 _=>?_
 refine Ac.q (e:=Qa) (gv:=Sw) (It _ _) fun r2 _=>?_
 refine Ac.q (e:=gG) (gv:=Sw) (jF _ _) fun r3 _=>?_
 refine Ac.q (e:=Qa) (gv:=Sw) (It _ _) fun r4 _=>?_
 refine Ac.q (e:=gG) (gv:=Sw) (jF _ _) fun r5 _=>?_
 refine Ac.q (e:=Uu) (gv:=Sw) (fJ _) fun r6 _=>?_
 refine Ac.q (e:=Qa) (gv:=Sw) (It _ _) fun r7 _=>?_
 refine Ac.y (gv:=Sw) (fun _=>?_) (fun _=>?_)
 ·exact Ac.x 0
 ·exact Ac.x 0
theorem rZ (a0 : Vc) : Br Tryz.prog 184 [] #[Q7 a0] (Af (W9 a0)) []:=by
 refine Br.ofH 400 Az mixed Tryz.func184 (by kernel_rfl) (by kernel_rfl) ?_
 unfold W9
 refine Ac.q (e:=vB) (gv:=Af) (F8 _ _) fun r1 _=>?_
 refine Ac.y (gv:=Af) (fun _=>?_) (fun _=>?_)
 ·refine Ac.z [true,true,true,true] ?_
  refine Ac.q (e:=Af) (gv:=Af) (Bs) fun r2 _=>?_
  exact Ac.x 0
 ·refine Ac.z [false,false] ?_
  refine Ac.q (e:=vB) (gv:=Af) (D8 _) fun r3 _=>?_
  refine Ac.z [false] ?_
  refine Ac.y (gv:=Af) (fun _=>?_) (fun _=>?_)
  ·refine Ac.q (e:=Af) (gv:=Af) (Bs) fun r4 _=>?_
   exact Ac.x 0
  ·refine Ac.q (e:=Af) (gv:=Af) (cV _) fun r5 _=>?_
   refine Ac.q (e:=Af) (gv:=Af) (cV _) fun r6 _=>?_
   refine Ac.q (e:=Af) (gv:=Af) (cV _) fun r7 _=>?_
   refine Ac.q (e:=Sw) (gv:=Af) (Va _ _ _) fun r8 _=>?_
   refine Ac.q (e:=Sw) (gv:=Af) (Va _ _ _) fun r9 _=>?_
   refine Ac.q (e:=Af) (gv:=Af) (F0 _ _ _) fun r10 _=>?_
   exact Ac.x 0
theorem rW (a0 : Vc) : Br Tryz.prog 135 [] #[Q7 a0] (Af (Tz a0)) []:=by
 refine Br.ofH 400 Az mixed Tryz.func135 (by kernel_rfl) (by kernel_rfl) ?_
 unfold Tz
 refine Ac.q (e:=Af) (gv:=Af) (rZ _) fun r1 _=>?_
 exact Ac.x 0
theorem Z1 (a0 : Iv) : Br Tryz.prog 188 [] #[Af a0] (vB (M8 a0)) []:=by
 refine Br.ofH 400 Az mixed Tryz.func188 (by kernel_rfl) (by kernel_rfl) ?_
 unfold M8
 refine Ac.q (e:=vB) (gv:=vB) (Hv _) fun r1 _=>?_
 refine Ac.y (gv:=vB) (fun _=>?_) (fun _=>?_)
 ·refine Ac.z [true,true,true] ?_
  exact Ac.x 0
 ·refine Ac.z [false,false,false] ?_
  exact Ac.x 0
theorem eF (a0 : Aq) : Br Tryz.prog 252 [] #[vI a0] (vB (Ty a0)) []:=by
 refine Br.ofH 400 Az mixed Tryz.func252 (by kernel_rfl) (by kernel_rfl) ?_
 unfold Ty
 refine Ac.y (gv:=vB) (fun _=>?_) (fun _=>?_)
 ·refine Ac.z [true,true] ?_
  exact Ac.x 0
 ·refine Ac.z [false,false] ?_
  exact Ac.x 0
theorem Uz : Br Tryz.prog 204 [] #[] (Af (Li)) []:=by
 refine Br.ofH 400 Az mixed Tryz.func204 (by kernel_rfl) (by kernel_rfl) ?_
 unfold Li
 refine Ac.q (e:=Af) (gv:=Af) (Kv _) fun r1 _=>?_
 refine Ac.q (e:=Af) (gv:=Af) (Kv _) fun r2 _=>?_
 exact Ac.x 0
theorem mP (a0 : Iv) : Br Tryz.prog 312 [] #[Af a0] (Af (Vz a0)) []:=by
 refine Br.ofH 400 Az mixed Tryz.func312 (by kernel_rfl) (by kernel_rfl) ?_
 unfold Vz
 refine Ac.q (e:=Af) (gv:=Af) (Av _) fun r1 _=>?_
 refine Ac.q (e:=Af) (gv:=Af) (Av _) fun r2 _=>?_
 refine Ac.q (e:=Af) (gv:=Af) (Py _) fun r3 _=>?_
 refine Ac.q (e:=Af) (gv:=Af) (Cx _ _) fun r4 _=>?_
 refine Ac.q (e:=Af) (gv:=Af) (X2 _) fun r5 _=>?_
 refine Ac.q (e:=Af) (gv:=Af) (Cx _ _) fun r6 _=>?_
 refine Ac.q (e:=Af) (gv:=Af) (Cf _ _) fun r7 _=>?_
 exact Ac.x 0
theorem oX (a0 : Iv) : Br Tryz.prog 311 [] #[Af a0] (Af (Rw a0)) []:=by
 refine Br.ofH 400 Az mixed Tryz.func311 (by kernel_rfl) (by kernel_rfl) ?_
 unfold Rw
 refine Ac.q (e:=vB) (gv:=Af) (aP _ _) fun r1 _=>?_
 refine Ac.y (gv:=Af) (fun _=>?_) (fun _=>?_)
 ·refine Ac.q (e:=Af) (gv:=Af) (Bs) fun r2 _=>?_
  exact Ac.x 0
 ·refine Ac.q (e:=Af) (gv:=Af) (Py _) fun r3 _=>?_
  refine Ac.q (e:=Af) (gv:=Af) (Dn _ _) fun r4 _=>?_
  refine Ac.u 400 Az mixed Tryz.func311 ?_
  refine Ac.z [true] ?_
  refine Ac.q (e:=Af) (gv:=Af) (Dn _ _) fun r5 _=>?_
  refine Ac.q (e:=Af) (gv:=Af) (Bk _ _) fun r6 _=>?_
  refine Ac.q (e:=Af) (gv:=Af) (D1 _ _) fun r7 _=>?_
  refine Ac.u 400 Az mixed Tryz.func311 ?_
  refine Ac.z [true] ?_
  refine Ac.q (e:=Af) (gv:=Af) (Dn _ _) fun r8 _=>?_
  refine Ac.q (e:=Af) (gv:=Af) (Bk _ _) fun r9 _=>?_
  refine Ac.q (e:=Af) (gv:=Af) (D1 _ _) fun r10 _=>?_
  refine Ac.u 400 Az mixed Tryz.func311 ?_
  refine Ac.z [true] ?_
  refine Ac.q (e:=Af) (gv:=Af) (Dn _ _) fun r11 _=>?_
  refine Ac.q (e:=Af) (gv:=Af) (Bk _ _) fun r12 _=>?_
  refine Ac.q (e:=Af) (gv:=Af) (D1 _ _) fun r13 _=>?_
  refine Ac.u 400 Az mixed Tryz.func311 ?_
  refine Ac.z [true] ?_
  refine Ac.q (e:=Af) (gv:=Af) (Dn _ _) fun r14 _=>?_
  refine Ac.q (e:=Af) (gv:=Af) (Bk _ _) fun r15 _=>?_
  refine Ac.q (e:=Af) (gv:=Af) (D1 _ _) fun r16 _=>?_
  refine Ac.u 400 Az mixed Tryz.func311 ?_
  refine Ac.z [true] ?_
  refine Ac.q (e:=Af) (gv:=Af) (Dn _ _) fun r17 _=>?_
  refine Ac.q (e:=Af) (gv:=Af) (Bk _ _) fun r18 _=>?_
  refine Ac.q (e:=Af) (gv:=Af) (D1 _ _) fun r19 _=>?_
  refine Ac.u 400 Az mixed Tryz.func311 ?_
  refine Ac.z [true] ?_
  refine Ac.q (e:=Af) (gv:=Af) (Dn _ _) fun r20 _=>?_
  refine Ac.q (e:=Af) (gv:=Af) (Bk _ _) fun r21 _=>?_
  refine Ac.q (e:=Af) (gv:=Af) (D1 _ _) fun r22 _=>?_
  refine Ac.u 400 Az mixed Tryz.func311 ?_
  refine Ac.z [true] ?_
  refine Ac.q (e:=Af) (gv:=Af) (Dn _ _) fun r23 _=>?_
  refine Ac.q (e:=Af) (gv:=Af) (Bk _ _) fun r24 _=>?_
  refine Ac.q (e:=Af) (gv:=Af) (D1 _ _) fun r25 _=>?_
  refine Ac.u 400 Az mixed Tryz.func311 ?_
  refine Ac.z [true] ?_
  refine Ac.q (e:=Af) (gv:=Af) (Dn _ _) fun r26 _=>?_
  refine Ac.q (e:=Af) (gv:=Af) (Bk _ _) fun r27 _=>?_
  refine Ac.q (e:=Af) (gv:=Af) (D1 _ _) fun r28 _=>?_
  refine Ac.u 400 Az mixed Tryz.func311 ?_
  refine Ac.z [true] ?_
  refine Ac.q (e:=Af) (gv:=Af) (Dn _ _) fun r29 _=>?_
  refine Ac.q (e:=Af) (gv:=Af) (Bk _ _) fun r30 _=>?_
  refine Ac.q (e:=Af) (gv:=Af) (D1 _ _) fun r31 _=>?_
  refine Ac.u 400 Az mixed Tryz.func311 ?_
  refine Ac.z [true] ?_
  refine Ac.q (e:=Af) (gv:=Af) (Dn _ _) fun r32 _=>?_
  refine Ac.q (e:=Af) (gv:=Af) (Bk _ _) fun r33 _=>?_
  refine Ac.q (e:=Af) (gv:=Af) (D1 _ _) fun r34 _=>?_
  refine Ac.u 400 Az mixed Tryz.func311 ?_
  refine Ac.z [false] ?_
  refine Ac.q (e:=Af) (gv:=Af) (Bk _ _) fun r35 _=>?_
  refine Ac.q (e:=Af) (gv:=Af) (oQ) fun r36 _=>?_
  refine Ac.q (e:=Af) (gv:=Af) (Cx _ _) fun r37 _=>?_
  exact Ac.x 0
theorem Wf (a0 : Iv) : Br Tryz.prog 200 [] #[Af a0] (Af (Jd a0)) []:=by
 refine Br.ofH 400 Az mixed Tryz.func200 (by kernel_rfl) (by kernel_rfl) ?_
 unfold Jd
 refine Ac.q (e:=Af) (gv:=Af) (Cx _ _) fun r1 _=>?_
 exact Ac.x 0
theorem fI (a0 : Iv) : Br Tryz.prog 290 [] #[Af a0] (Af (Qx a0)) []:=by
 refine Br.ofH 400 Az mixed Tryz.func290 (by kernel_rfl) (by kernel_rfl) ?_
 unfold Qx
 refine Ac.q (e:=Af) (gv:=Af) (mP _) fun r1 _=>?_
 refine Ac.q (e:=Af) (gv:=Af) (mP _) fun r2 _=>?_
 refine Ac.q (e:=Af) (gv:=Af) (oX _) fun r3 _=>?_
 refine Ac.q (e:=Af) (gv:=Af) (Wf _) fun r4 _=>?_
 refine Ac.q (e:=Af) (gv:=Af) (Wf _) fun r5 _=>?_
 exact Ac.x 0
theorem s8 : ∀ (fu : Nat) (a0 : Aq) (hm : min (0 - a0.val).toNat 1 < fu),Br Tryz.prog 249 [] #[vI a0] (Af (Q5 fu a0)) []:=by
 intro fu
 induction fu with
 | zero=>intro a0 hm; exact absurd hm (Nat.not_lt_zero _)
 | succ fu ih=>
  intro a0 hm
  refine Br.ofH 400 Az mixed Tryz.func249 (by kernel_rfl) (by kernel_rfl) ?_
  unfold Q5
  unfold Xc
  refine Ac.q (e:=vB) (gv:=Af) (eF _) fun r1 hr1=>?_
  refine Ac.y (gv:=Af) (fun h2=>?_) (fun h2=>?_)
  ·refine Ac.q (e:=Af) (gv:=Af) (Uz) fun r3 hr3=>?_
   exact Ac.x 0
  ·refine Ac.y (gv:=Af) (fun h4=>?_) (fun h4=>?_)
   ·refine Ac.q (e:=Af) (gv:=Af) (ih (An (0 - a0.val)) (by rw [hr1] at h2; simp [Ty,Aj] at h2; simp only [Ad,decide_eq_true_eq,decide_eq_false_iff_not] at *; omega)) fun r5 hr5=>?_
    refine Ac.q (e:=Af) (gv:=Af) (Sb _) fun r6 hr6=>?_
    exact Ac.x 0
   ·refine Ac.y (gv:=Af) (fun h7=>?_) (fun h7=>?_)
    ·refine Ac.q (e:=Af) (gv:=Af) (Kv _) fun r8 hr8=>?_
     refine Ac.q (e:=Af) (gv:=Af) (Av _) fun r9 hr9=>?_
     refine Ac.q (e:=Af) (gv:=Af) (Mb _) fun r10 hr10=>?_
     refine Ac.q (e:=Af) (gv:=Af) (Cf _ _) fun r11 hr11=>?_
     refine Ac.q (e:=Af) (gv:=Af) (fI _) fun r12 hr12=>?_
     refine Ac.q (e:=Af) (gv:=Af) (D1 _ _) fun r13 hr13=>?_
     exact Ac.x 0
    ·refine Ac.q (e:=Af) (gv:=Af) (Mb _) fun r14 hr14=>?_
     refine Ac.q (e:=Af) (gv:=Af) (fI _) fun r15 hr15=>?_
     exact Ac.x 0
theorem mQ (a0 : Aq) : Br Tryz.prog 249 [] #[vI a0] (Af (Yr a0)) []:=s8 2 a0 (by omega)
theorem S8 (a0 : Iv) : Br Tryz.prog 201 [] #[Af a0] (Af (P8 a0)) []:=by
 refine Br.ofH 400 Az mixed Tryz.func201 (by kernel_rfl) (by kernel_rfl) ?_
 unfold P8
 refine Ac.q (e:=vB) (gv:=Af) (D8 _) fun r1 _=>?_
 refine Ac.y (gv:=Af) (fun _=>?_) (fun _=>?_)
 ·refine Ac.q (e:=Af) (gv:=Af) (Uz) fun r2 _=>?_
  exact Ac.x 0
 ·refine Ac.q (e:=Af) (gv:=Af) (mQ _) fun r3 _=>?_
  refine Ac.q (e:=Af) (gv:=Af) (mQ _) fun r4 _=>?_
  refine Ac.q (e:=Af) (gv:=Af) (E2 _ _) fun r5 _=>?_
  exact Ac.x 0
theorem Cp (a0 : Aq) (a1 : Aq) : Br Tryz.prog 209 [] #[vI a0,vI a1] (Af (Ch a0 a1)) []:=by
 refine Br.ofH 400 Az mixed Tryz.func209 (by kernel_rfl) (by kernel_rfl) ?_
 unfold Ch
 refine Ac.q (e:=vB) (gv:=Af) (eF _) fun r1 _=>?_
 refine Ac.y (gv:=Af) (fun _=>?_) (fun _=>?_)
 ·refine Ac.z [true,true,true,true,true,true,true,true,true] ?_
  refine Ac.q (e:=Af) (gv:=Af) (Bs) fun r2 _=>?_
  exact Ac.x 0
 ·refine Ac.z [false] ?_
  refine Ac.q (e:=vB) (gv:=Af) (eF _) fun r3 _=>?_
  refine Ac.z [false,false] ?_
  refine Ac.y (gv:=Af) (fun _=>?_) (fun _=>?_)
  ·refine Ac.z [true,true,true,true,true] ?_
   refine Ac.q (e:=Af) (gv:=Af) (Bs) fun r4 _=>?_
   exact Ac.x 0
  ·refine Ac.z [false,false] ?_
   refine Ac.y (gv:=Af) (fun _=>?_) (fun _=>?_)
   ·refine Ac.z [true,false,true,false] ?_
    refine Ac.y (gv:=Af) (fun _=>?_) (fun _=>?_)
    ·refine Ac.q (e:=Af) (gv:=Af) (Bs) fun r5 _=>?_
     exact Ac.x 0
    ·refine Ac.q (e:=vI) (gv:=Af) (Es _) fun r6 _=>?_
     refine Ac.q (e:=vI) (gv:=Af) (Es _) fun r7 _=>?_
     refine Ac.y (gv:=Af) (fun _=>?_) (fun _=>?_)
     ·refine Ac.q (e:=Af) (gv:=Af) (Kv _) fun r8 _=>?_
      refine Ac.y (gv:=Af) (fun _=>?_) (fun _=>?_)
      ·refine Ac.q (e:=Af) (gv:=Af) (Kv _) fun r9 _=>?_
       refine Ac.q (e:=Af) (gv:=Af) (Mb _) fun r10 _=>?_
       refine Ac.q (e:=Af) (gv:=Af) (Mb _) fun r11 _=>?_
       refine Ac.q (e:=Af) (gv:=Af) (Cf _ _) fun r12 _=>?_
       refine Ac.q (e:=Af) (gv:=Af) (S8 _) fun r13 _=>?_
       refine Ac.q (e:=Af) (gv:=Af) (D1 _ _) fun r14 _=>?_
       exact Ac.x 0
      ·refine Ac.q (e:=Af) (gv:=Af) (Mb _) fun r15 _=>?_
       refine Ac.q (e:=Af) (gv:=Af) (Mb _) fun r16 _=>?_
       refine Ac.q (e:=Af) (gv:=Af) (Cf _ _) fun r17 _=>?_
       refine Ac.q (e:=Af) (gv:=Af) (S8 _) fun r18 _=>?_
       refine Ac.q (e:=Af) (gv:=Af) (D1 _ _) fun r19 _=>?_
       exact Ac.x 0
     ·refine Ac.q (e:=Af) (gv:=Af) (Mb _) fun r20 _=>?_
      refine Ac.q (e:=Af) (gv:=Af) (Mb _) fun r21 _=>?_
      refine Ac.q (e:=Af) (gv:=Af) (Cf _ _) fun r22 _=>?_
      refine Ac.q (e:=Af) (gv:=Af) (S8 _) fun r23 _=>?_
      refine Ac.y (gv:=Af) (fun _=>?_) (fun _=>?_)
      ·exact Ac.x 0
      ·refine Ac.y (gv:=Af) (fun _=>?_) (fun _=>?_)
       ·refine Ac.q (e:=Af) (gv:=Af) (Kv _) fun r24 _=>?_
        refine Ac.q (e:=Af) (gv:=Af) (Cx _ _) fun r25 _=>?_
        exact Ac.x 0
       ·refine Ac.q (e:=Af) (gv:=Af) (Kv _) fun r26 _=>?_
        refine Ac.q (e:=Af) (gv:=Af) (Cx _ _) fun r27 _=>?_
        exact Ac.x 0
   ·refine Ac.z [false,false,false,false,false] ?_
    refine Ac.q (e:=vI) (gv:=Af) (Es _) fun r28 _=>?_
    refine Ac.q (e:=vI) (gv:=Af) (Es _) fun r29 _=>?_
    refine Ac.y (gv:=Af) (fun _=>?_) (fun _=>?_)
    ·refine Ac.q (e:=Af) (gv:=Af) (Kv _) fun r30 _=>?_
     refine Ac.y (gv:=Af) (fun _=>?_) (fun _=>?_)
     ·refine Ac.q (e:=Af) (gv:=Af) (Kv _) fun r31 _=>?_
      refine Ac.q (e:=Af) (gv:=Af) (Mb _) fun r32 _=>?_
      refine Ac.q (e:=Af) (gv:=Af) (Mb _) fun r33 _=>?_
      refine Ac.q (e:=Af) (gv:=Af) (Cf _ _) fun r34 _=>?_
      refine Ac.q (e:=Af) (gv:=Af) (S8 _) fun r35 _=>?_
      refine Ac.q (e:=Af) (gv:=Af) (D1 _ _) fun r36 _=>?_
      exact Ac.x 0
     ·refine Ac.q (e:=Af) (gv:=Af) (Mb _) fun r37 _=>?_
      refine Ac.q (e:=Af) (gv:=Af) (Mb _) fun r38 _=>?_
      refine Ac.q (e:=Af) (gv:=Af) (Cf _ _) fun r39 _=>?_
      refine Ac.q (e:=Af) (gv:=Af) (S8 _) fun r40 _=>?_
      refine Ac.q (e:=Af) (gv:=Af) (D1 _ _) fun r41 _=>?_
      exact Ac.x 0
    ·refine Ac.q (e:=Af) (gv:=Af) (Mb _) fun r42 _=>?_
     refine Ac.q (e:=Af) (gv:=Af) (Mb _) fun r43 _=>?_
     refine Ac.q (e:=Af) (gv:=Af) (Cf _ _) fun r44 _=>?_
     refine Ac.q (e:=Af) (gv:=Af) (S8 _) fun r45 _=>?_
     refine Ac.y (gv:=Af) (fun _=>?_) (fun _=>?_)
     ·exact Ac.x 0
     ·refine Ac.y (gv:=Af) (fun _=>?_) (fun _=>?_)
      ·refine Ac.q (e:=Af) (gv:=Af) (Kv _) fun r46 _=>?_
       refine Ac.q (e:=Af) (gv:=Af) (Cx _ _) fun r47 _=>?_
       exact Ac.x 0
      ·refine Ac.q (e:=Af) (gv:=Af) (Kv _) fun r48 _=>?_
       refine Ac.q (e:=Af) (gv:=Af) (Cx _ _) fun r49 _=>?_
       exact Ac.x 0
theorem Z3 (a0 : Iv) (a1 : Iv) : Br Tryz.prog 138 [] #[Af a0,Af a1] (Af (Nh a0 a1)) []:=by
 refine Br.ofH 400 Az mixed Tryz.func138 (by kernel_rfl) (by kernel_rfl) ?_
 unfold Nh
 refine Ac.q (e:=vB) (gv:=Af) (F8 _ _) fun r1 _=>?_
 refine Ac.y (gv:=Af) (fun _=>?_) (fun _=>?_)
 ·refine Ac.z [true,true,true,true,true,true,true,true,true,true,true,true,true] ?_
  refine Ac.q (e:=Af) (gv:=Af) (Bs) fun r2 _=>?_
  exact Ac.x 0
 ·refine Ac.z [false] ?_
  refine Ac.q (e:=vB) (gv:=Af) (gL _ _) fun r3 _=>?_
  refine Ac.z [false] ?_
  refine Ac.y (gv:=Af) (fun _=>?_) (fun _=>?_)
  ·refine Ac.z [true] ?_
   refine Ac.q (e:=vB) (gv:=Af) (gL _ _) fun r4 _=>?_
   refine Ac.z [false,true,false] ?_
   refine Ac.y (gv:=Af) (fun _=>?_) (fun _=>?_)
   ·refine Ac.z [true,true,true,true,true,true,true,true] ?_
    refine Ac.q (e:=Af) (gv:=Af) (Bs) fun r5 _=>?_
    exact Ac.x 0
   ·refine Ac.z [false,false,false] ?_
    refine Ac.y (gv:=Af) (fun _=>?_) (fun _=>?_)
    ·refine Ac.z [true,true,false,true,false] ?_
     refine Ac.y (gv:=Af) (fun _=>?_) (fun _=>?_)
     ·refine Ac.z [true,true,false,true,false] ?_
      refine Ac.y (gv:=Af) (fun _=>?_) (fun _=>?_)
      ·refine Ac.q (e:=Af) (gv:=Af) (Bs) fun r6 _=>?_
       exact Ac.x 0
      ·refine Ac.q (e:=Af) (gv:=Af) (Cp _ _) fun r7 _=>?_
       refine Ac.q (e:=Af) (gv:=Af) (Cp _ _) fun r8 _=>?_
       refine Ac.q (e:=Af) (gv:=Af) (E2 _ _) fun r9 _=>?_
       refine Ac.q (e:=Af) (gv:=Af) (Cp _ _) fun r10 _=>?_
       refine Ac.q (e:=Af) (gv:=Af) (Cp _ _) fun r11 _=>?_
       refine Ac.q (e:=Af) (gv:=Af) (E2 _ _) fun r12 _=>?_
       refine Ac.q (e:=Af) (gv:=Af) (E2 _ _) fun r13 _=>?_
       exact Ac.x 0
     ·refine Ac.z [false,false,false,false,false,false] ?_
      refine Ac.q (e:=Af) (gv:=Af) (Cp _ _) fun r14 _=>?_
      refine Ac.q (e:=Af) (gv:=Af) (Cp _ _) fun r15 _=>?_
      refine Ac.q (e:=Af) (gv:=Af) (E2 _ _) fun r16 _=>?_
      refine Ac.q (e:=Af) (gv:=Af) (Cp _ _) fun r17 _=>?_
      refine Ac.q (e:=Af) (gv:=Af) (Cp _ _) fun r18 _=>?_
      refine Ac.q (e:=Af) (gv:=Af) (E2 _ _) fun r19 _=>?_
      refine Ac.q (e:=Af) (gv:=Af) (E2 _ _) fun r20 _=>?_
      exact Ac.x 0
    ·refine Ac.z [false,false,false,false,false,false,false,false,false,false,false,false] ?_
     refine Ac.q (e:=Af) (gv:=Af) (Cp _ _) fun r21 _=>?_
     refine Ac.q (e:=Af) (gv:=Af) (Cp _ _) fun r22 _=>?_
     refine Ac.q (e:=Af) (gv:=Af) (E2 _ _) fun r23 _=>?_
     refine Ac.q (e:=Af) (gv:=Af) (Cp _ _) fun r24 _=>?_
     refine Ac.q (e:=Af) (gv:=Af) (Cp _ _) fun r25 _=>?_
     refine Ac.q (e:=Af) (gv:=Af) (E2 _ _) fun r26 _=>?_
     refine Ac.q (e:=Af) (gv:=Af) (E2 _ _) fun r27 _=>?_
     exact Ac.x 0
  ·refine Ac.z [false,false,false,false,false,false,false,false] ?_
   refine Ac.y (gv:=Af) (fun _=>?_) (fun _=>?_)
   ·refine Ac.z [true,true,false,true,false] ?_
    refine Ac.y (gv:=Af) (fun _=>?_) (fun _=>?_)
    ·refine Ac.z [true,true,false,true,false] ?_
     refine Ac.y (gv:=Af) (fun _=>?_) (fun _=>?_)
     ·refine Ac.q (e:=Af) (gv:=Af) (Bs) fun r28 _=>?_
      exact Ac.x 0
     ·refine Ac.q (e:=Af) (gv:=Af) (Cp _ _) fun r29 _=>?_
      refine Ac.q (e:=Af) (gv:=Af) (Cp _ _) fun r30 _=>?_
      refine Ac.q (e:=Af) (gv:=Af) (E2 _ _) fun r31 _=>?_
      refine Ac.q (e:=Af) (gv:=Af) (Cp _ _) fun r32 _=>?_
      refine Ac.q (e:=Af) (gv:=Af) (Cp _ _) fun r33 _=>?_
      refine Ac.q (e:=Af) (gv:=Af) (E2 _ _) fun r34 _=>?_
      refine Ac.q (e:=Af) (gv:=Af) (E2 _ _) fun r35 _=>?_
      exact Ac.x 0
    ·refine Ac.z [false,false,false,false,false,false] ?_
     refine Ac.q (e:=Af) (gv:=Af) (Cp _ _) fun r36 _=>?_
     refine Ac.q (e:=Af) (gv:=Af) (Cp _ _) fun r37 _=>?_
     refine Ac.q (e:=Af) (gv:=Af) (E2 _ _) fun r38 _=>?_
     refine Ac.q (e:=Af) (gv:=Af) (Cp _ _) fun r39 _=>?_
     refine Ac.q (e:=Af) (gv:=Af) (Cp _ _) fun r40 _=>?_
     refine Ac.q (e:=Af) (gv:=Af) (E2 _ _) fun r41 _=>?_
     refine Ac.q (e:=Af) (gv:=Af) (E2 _ _) fun r42 _=>?_
     exact Ac.x 0
   ·refine Ac.z [false,false,false,false,false,false,false,false,false,false,false,false] ?_
    refine Ac.q (e:=Af) (gv:=Af) (Cp _ _) fun r43 _=>?_
    refine Ac.q (e:=Af) (gv:=Af) (Cp _ _) fun r44 _=>?_
    refine Ac.q (e:=Af) (gv:=Af) (E2 _ _) fun r45 _=>?_
    refine Ac.q (e:=Af) (gv:=Af) (Cp _ _) fun r46 _=>?_
    refine Ac.q (e:=Af) (gv:=Af) (Cp _ _) fun r47 _=>?_
    refine Ac.q (e:=Af) (gv:=Af) (E2 _ _) fun r48 _=>?_
    refine Ac.q (e:=Af) (gv:=Af) (E2 _ _) fun r49 _=>?_
    exact Ac.x 0
theorem Mt (a0 : Aq) (a1 : Vc) : Br Tryz.prog 180 [] #[vI a0,Q7 a1] (Af (Ix a0 a1)) []:=by
 refine Br.ofH 400 Az mixed Tryz.func180 (by kernel_rfl) (by kernel_rfl) ?_
 unfold Ix
 refine Ac.y (gv:=Af) (fun _=>?_) (fun _=>?_)
 ·refine Ac.q (e:=Af) (gv:=Af) (Av _) fun r1 _=>?_
  refine Ac.q (e:=Af) (gv:=Af) (Cf _ _) fun r2 _=>?_
  exact Ac.x 0
 ·refine Ac.y (gv:=Af) (fun _=>?_) (fun _=>?_)
  ·refine Ac.q (e:=Af) (gv:=Af) (Av _) fun r3 _=>?_
   refine Ac.q (e:=Af) (gv:=Af) (Av _) fun r4 _=>?_
   refine Ac.q (e:=Af) (gv:=Af) (Cx _ _) fun r5 _=>?_
   refine Ac.q (e:=Af) (gv:=Af) (Cf _ _) fun r6 _=>?_
   exact Ac.x 0
  ·refine Ac.y (gv:=Af) (fun _=>?_) (fun _=>?_)
   ·refine Ac.y (gv:=Af) (fun _=>?_) (fun _=>?_)
    ·refine Ac.q (e:=Af) (gv:=Af) (Bs) fun r7 _=>?_
     exact Ac.x 0
    ·refine Ac.q (e:=Af) (gv:=Af) (Av _) fun r8 _=>?_
     exact Ac.x 0
   ·refine Ac.y (gv:=Af) (fun _=>?_) (fun _=>?_)
    ·refine Ac.q (e:=Af) (gv:=Af) (Av _) fun r9 _=>?_
     refine Ac.q (e:=Af) (gv:=Af) (Av _) fun r10 _=>?_
     refine Ac.q (e:=Af) (gv:=Af) (Cx _ _) fun r11 _=>?_
     refine Ac.q (e:=Af) (gv:=Af) (Cf _ _) fun r12 _=>?_
     refine Ac.q (e:=Af) (gv:=Af) (X2 _) fun r13 _=>?_
     exact Ac.x 0
    ·refine Ac.q (e:=Af) (gv:=Af) (rW _) fun r14 _=>?_
     refine Ac.q (e:=vB) (gv:=Af) (Z1 _) fun r15 _=>?_
     refine Ac.y (gv:=Af) (fun _=>?_) (fun _=>?_)
     ·refine Ac.q (e:=Af) (gv:=Af) (Z3 _ _) fun r16 _=>?_
      refine Ac.q (e:=Af) (gv:=Af) (Cf _ _) fun r17 _=>?_
      exact Ac.x 0
     ·refine Ac.q (e:=Af) (gv:=Af) (Av _) fun r18 _=>?_
      refine Ac.q (e:=Af) (gv:=Af) (Av _) fun r19 _=>?_
      refine Ac.q (e:=Af) (gv:=Af) (Cf _ _) fun r20 _=>?_
      refine Ac.q (e:=Af) (gv:=Af) (E2 _ _) fun r21 _=>?_
      exact Ac.x 0
theorem Y2 (a0 : Iv) (a1 : Iv) : Br Tryz.prog 181 [] #[Af a0,Af a1] (Dr (Rr a0 a1)) []:=by
 refine Br.ofH 400 Az mixed Tryz.func181 (by kernel_rfl) (by kernel_rfl) ?_
 unfold Rr
 refine Ac.q (e:=vB) (gv:=Dr) (F8 _ _) fun r1 _=>?_
 refine Ac.y (gv:=Dr) (fun _=>?_) (fun _=>?_)
 ·exact Ac.x 0
 ·exact Ac.x 0
theorem Zp (a0 : Pj) (a1 : Pt) : Br Tryz.prog 109 [] #[L8 a0,E6 a1] (Dr (Js a0 a1)) []:=by
 refine Br.ofH 400 Az mixed Tryz.func109 (by kernel_rfl) (by kernel_rfl) ?_
 unfold Js
 refine Ac.q (e:=Oa) (gv:=Dr) (vY _ _) fun r1 _=>?_
 refine Ac.y (gv:=Dr) (fun _=>?_) (fun _=>?_)
 ·exact Ac.x 0
 ·refine Ac.q (e:=E6) (gv:=Dr) (J7 _) fun r2 _=>?_
  refine Ac.q (e:=bK) (gv:=Dr) (s9 _) fun r3 _=>?_
  refine Ac.q (e:=vB) (gv:=Dr) (oT _ _) fun r4 _=>?_
  refine Ac.y (gv:=Dr) (fun _=>?_) (fun _=>?_)
  ·exact Ac.x 0
  ·refine Ac.y (gv:=Dr) (fun _=>?_) (fun _=>?_)
   ·refine Ac.q (e:=Af) (gv:=Dr) (Av _) fun r5 _=>?_
    refine Ac.z [true,true,true] ?_
    refine Ac.q (e:=vI) (gv:=Dr) (jJ _ _) fun r6 _=>?_
    refine Ac.z [true,true] ?_
    refine Ac.y (gv:=Dr) (fun _=>?_) (fun _=>?_)
    ·exact Ac.x 0
    ·refine Ac.y (gv:=Dr) (fun _=>?_) (fun _=>?_)
     ·refine Ac.z [true,true] ?_
      refine Ac.q (e:=Af) (gv:=Dr) (Av _) fun r7 _=>?_
      refine Ac.z [true] ?_
      refine Ac.q (e:=vI) (gv:=Dr) (jJ _ _) fun r8 _=>?_
      refine Ac.z [true,true] ?_
      refine Ac.y (gv:=Dr) (fun _=>?_) (fun _=>?_)
      ·exact Ac.x 0
      ·refine Ac.q (e:=Af) (gv:=Dr) (Mt _ _) fun r9 _=>?_
       refine Ac.q (e:=Af) (gv:=Dr) (Bk _ _) fun r10 _=>?_
       refine Ac.q (e:=Af) (gv:=Dr) (Bk _ _) fun r11 _=>?_
       refine Ac.q (e:=Dr) (gv:=Dr) (Y2 _ _) fun r12 _=>?_
       exact Ac.x 0
     ·refine Ac.z [false,false,false,false,false,false] ?_
      refine Ac.q (e:=Af) (gv:=Dr) (Mt _ _) fun r13 _=>?_
      refine Ac.q (e:=Af) (gv:=Dr) (Bk _ _) fun r14 _=>?_
      refine Ac.q (e:=Af) (gv:=Dr) (Bk _ _) fun r15 _=>?_
      refine Ac.q (e:=Dr) (gv:=Dr) (Y2 _ _) fun r16 _=>?_
      exact Ac.x 0
   ·refine Ac.z [false,false,false,false,false,false] ?_
    refine Ac.y (gv:=Dr) (fun _=>?_) (fun _=>?_)
    ·refine Ac.z [true,true] ?_
     refine Ac.q (e:=Af) (gv:=Dr) (Av _) fun r17 _=>?_
     refine Ac.z [true] ?_
     refine Ac.q (e:=vI) (gv:=Dr) (jJ _ _) fun r18 _=>?_
     refine Ac.z [true,true] ?_
     refine Ac.y (gv:=Dr) (fun _=>?_) (fun _=>?_)
     ·exact Ac.x 0
     ·refine Ac.q (e:=Af) (gv:=Dr) (Mt _ _) fun r19 _=>?_
      refine Ac.q (e:=Af) (gv:=Dr) (Bk _ _) fun r20 _=>?_
      refine Ac.q (e:=Af) (gv:=Dr) (Bk _ _) fun r21 _=>?_
      refine Ac.q (e:=Dr) (gv:=Dr) (Y2 _ _) fun r22 _=>?_
      exact Ac.x 0
    ·refine Ac.z [false,false,false,false,false,false] ?_
     refine Ac.q (e:=Af) (gv:=Dr) (Mt _ _) fun r23 _=>?_
     refine Ac.q (e:=Af) (gv:=Dr) (Bk _ _) fun r24 _=>?_
     refine Ac.q (e:=Af) (gv:=Dr) (Bk _ _) fun r25 _=>?_
     refine Ac.q (e:=Dr) (gv:=Dr) (Y2 _ _) fun r26 _=>?_
     exact Ac.x 0
theorem rX (a0 : Pt) (a1 : Pt) : Br Tryz.prog 182 [] #[E6 a0,E6 a1] (vB (W8 a0 a1)) []:=by
 refine Br.ofH 400 Az mixed Tryz.func182 (by kernel_rfl) (by kernel_rfl) ?_
 unfold W8
 refine Ac.q (e:=vB) (gv:=vB) (F9 _) fun r1 _=>?_
 refine Ac.y (gv:=vB) (fun _=>?_) (fun _=>?_)
 ·refine Ac.z [true] ?_
  refine Ac.q (e:=vB) (gv:=vB) (F9 _) fun r2 _=>?_
  refine Ac.z [true] ?_
  exact Ac.x 0
 ·refine Ac.z [false,false] ?_
  exact Ac.x 0
theorem Adk (a0 : Pt) : Br Tryz.prog 143 [] #[E6 a0] (Af (dM a0)) []:=by
 refine Br.ofH 400 Az mixed Tryz.func143 (by kernel_rfl) (by kernel_rfl) ?_
 unfold dM
 refine Ac.q (e:=vB) (gv:=Af) (F9 _) fun r1 _=>?_
 refine Ac.y (gv:=Af) (fun _=>?_) (fun _=>?_)
 ·refine Ac.q (e:=Af) (gv:=Af) (Bs) fun r2 _=>?_
  exact Ac.x 0
 ·refine Ac.q (e:=Af) (gv:=Af) (J6 _) fun r3 _=>?_
  exact Ac.x 0
theorem fH (a0 : Pt) : Br Tryz.prog 183 [] #[E6 a0] (Q7 (Qw a0)) []:=by
 refine Br.ofH 400 Az mixed Tryz.func183 (by kernel_rfl) (by kernel_rfl) ?_
 unfold Qw
 refine Ac.q (e:=Af) (gv:=Q7) (Re _) fun r1 _=>?_
 refine Ac.q (e:=Af) (gv:=Q7) (Adk _) fun r2 _=>?_
 refine Ac.q (e:=Af) (gv:=Q7) (Fx _) fun r3 _=>?_
 refine Ac.q (e:=Af) (gv:=Q7) (Fx _) fun r4 _=>?_
 refine Ac.q (e:=Af) (gv:=Q7) (Bk _ _) fun r5 _=>?_
 refine Ac.q (e:=Af) (gv:=Q7) (Fx _) fun r6 _=>?_
 refine Ac.q (e:=Af) (gv:=Q7) (La _) fun r7 _=>?_
 refine Ac.q (e:=Af) (gv:=Q7) (Bk _ _) fun r8 _=>?_
 refine Ac.q (e:=Af) (gv:=Q7) (La _) fun r9 _=>?_
 exact Ac.x 0
theorem Aal (a0 : Vc) (a1 : Vc) : Br Tryz.prog 185 [] #[Q7 a0,Q7 a1] (Q7 (Yq a0 a1)) []:=by
 refine Br.ofH 400 Az mixed Tryz.func185 (by kernel_rfl) (by kernel_rfl) ?_
 unfold Yq
 refine Ac.q (e:=Af) (gv:=Q7) (Bk _ _) fun r1 _=>?_
 refine Ac.q (e:=Af) (gv:=Q7) (Bk _ _) fun r2 _=>?_
 refine Ac.q (e:=Af) (gv:=Q7) (D1 _ _) fun r3 _=>?_
 refine Ac.q (e:=Af) (gv:=Q7) (Bk _ _) fun r4 _=>?_
 refine Ac.q (e:=Af) (gv:=Q7) (Bk _ _) fun r5 _=>?_
 refine Ac.q (e:=Af) (gv:=Q7) (D1 _ _) fun r6 _=>?_
 refine Ac.q (e:=Af) (gv:=Q7) (Bk _ _) fun r7 _=>?_
 refine Ac.q (e:=Af) (gv:=Q7) (Bk _ _) fun r8 _=>?_
 refine Ac.q (e:=Af) (gv:=Q7) (D1 _ _) fun r9 _=>?_
 exact Ac.x 0
theorem Agx (a0 : Vc) (a1 : Vc) : Br Tryz.prog 186 [] #[Q7 a0,Q7 a1] (Af (lE a0 a1)) []:=by
 refine Br.ofH 400 Az mixed Tryz.func186 (by kernel_rfl) (by kernel_rfl) ?_
 unfold lE
 refine Ac.q (e:=Af) (gv:=Af) (Bk _ _) fun r1 _=>?_
 refine Ac.q (e:=Af) (gv:=Af) (Bk _ _) fun r2 _=>?_
 refine Ac.q (e:=Af) (gv:=Af) (Cx _ _) fun r3 _=>?_
 refine Ac.q (e:=Af) (gv:=Af) (Bk _ _) fun r4 _=>?_
 refine Ac.q (e:=Af) (gv:=Af) (Cx _ _) fun r5 _=>?_
 exact Ac.x 0
theorem Y3 (a0 : Iv) : Br Tryz.prog 34 [] #[Af a0] (By (N7 a0)) []:=by
 refine Br.ofH 400 Az mixed Tryz.func34 (by kernel_rfl) (by kernel_rfl) ?_
 unfold N7
 refine Ac.q (e:=vB) (gv:=By) (D8 _) fun r1 _=>?_
 refine Ac.y (gv:=By) (fun _=>?_) (fun _=>?_)
 ·exact Ac.x 0
 ·exact Ac.x 0
theorem gB (a0 : Pt) (a1 : Pt) : Br Tryz.prog 110 [] #[E6 a0,E6 a1] (By (Mr a0 a1)) []:=by
 refine Br.ofH 400 Az mixed Tryz.func110 (by kernel_rfl) (by kernel_rfl) ?_
 unfold Mr
 refine Ac.q (e:=vB) (gv:=By) (rX _ _) fun r1 _=>?_
 refine Ac.y (gv:=By) (fun _=>?_) (fun _=>?_)
 ·exact Ac.x 0
 ·refine Ac.q (e:=Q7) (gv:=By) (fH _) fun r2 _=>?_
  refine Ac.q (e:=Q7) (gv:=By) (fH _) fun r3 _=>?_
  refine Ac.q (e:=Q7) (gv:=By) (Aal _ _) fun r4 _=>?_
  refine Ac.q (e:=Af) (gv:=By) (rZ _) fun r5 _=>?_
  refine Ac.q (e:=Af) (gv:=By) (Agx _ _) fun r6 _=>?_
  refine Ac.q (e:=Af) (gv:=By) (Z3 _ _) fun r7 _=>?_
  refine Ac.q (e:=By) (gv:=By) (Y3 _) fun r8 _=>?_
  exact Ac.x 0
end Go.Proofs.YtfhnlkinjbakgaaGreat.Abs
