/- Plain laws of the functions on numbers: what the program computes is what the reference computes. -/
import Derived.Test.YtfhnlkinjbakgaaGreatSsReal
import Derived.Test.YtfhnlkinjbakgaaGreatSsQzlzmznzo
import Derived.Test.YtfhnlkinjbakgaaGreatSsFx
set_option linter.unusedVariables false
set_option linter.unusedSimpArgs false
namespace Go.Proofs.YtfhnlkinjbakgaaGreat.Abs
open Go
theorem lB (g : Aq → Iv) (a : Aq) (h0 : 0 ≤ a.val) (h1 : a.val ≤ 64) : Tr (Ho g a) (Rl.q a.val * Rl.dQ):=fun ho=>by
  unfold Ho at ho ⊢
  have hi : Bz a (Ah (-64)) (Ah 64) = true:=gM ⟨by omega,h1⟩
  have en : (An (0 - a.val)).val = -a.val:=by rw [Ad]; omega
  obtain ⟨r,er,rv⟩:=Ait a (by omega) (by omega)
  obtain ⟨s,es,sv⟩:=Aiu (An (0 - a.val)) (by omega) (by omega)
  rw [en] at sv
  have es2 : (An (0 - s.val)).val = -s.val:=by rw [Ad]; omega
  simp only [Ag,hi,decide_eq_false (show ¬ a.val < 0 by omega),Bool.not_true,Ae,er,es] at ho ⊢
  rw [Ic ho]
  have ap : (0 : Rat) ≤ (a.val : Rat):=by
    have:=Rl.E3 h0
    rwa [show ((0 : Int) : Rat) = 0 from rfl] at this
  constructor
  · show Rl.fx r.val ≤ _
    refine Rl.le_trans ?_ (Rl.Ba Rl.Ad1 (Rl.Dd.2 ap))
    rw [← Rl.Ez,Rl.Zr]
    refine Rl.Dd.2 ?_
    have k : r.val * 536870912 ≤ a.val * 1598288580650331957:=by omega
    have:=Rl.E3 k
    push_cast at this
    unfold Rl.llo
    grind
  · show _ ≤ Rl.fx (An (0 - s.val)).val
    rw [es2]
    refine Rl.le_trans (Rl.Ba Rl.Ad2 (Rl.Dd.2 ap)) ?_
    rw [← Rl.Ez,Rl.Zr]
    refine Rl.Dd.2 ?_
    have k : a.val * 1598288580650331958 ≤ -s.val * 536870912:=by omega
    have:=Rl.E3 k
    push_cast at this ⊢
    unfold Rl.lhi
    grind
theorem gZ (a : Aq) : Tr (Hk a) (Rl.q a.val * Rl.dQ):=by
  unfold Hk Hn
  by_cases hr : -64 ≤ a.val ∧ a.val ≤ 64
  · by_cases h : 0 ≤ a.val
    · exact lB _ a h hr.2
    · rw [(jT _ a (by omega) (by omega)).1]
      unfold Hn
      have en : (An (0 - a.val)).val = -a.val:=by rw [Ad]; omega
      have:=mA (lB (Hn 0) (An (0 - a.val)) (by omega) (by omega))
      rw [en,show ((-a.val : Int) : Rat) = -(a.val : Rat) from by push_cast; rfl,Rl.Ii,Rl.neg_mul,Rl.neg_neg] at this
      exact this
  · intro ho
    exfalso
    unfold Ho at ho
    have hi : Bz a (Ah (-64)) (Ah 64) = false:=by
      rw [Gk]
      simp only [A8,Bool.and_eq_false_iff,decide_eq_false_iff_not]
      omega
    simp only [Ag,hi,Bool.not_false,Ai] at ho
    exact absurd ho (by decide)
theorem xF {a : Iv} {x y : Rl.R} (ha : Tr a x) (h : Rl.Ab (y - x) (Rl.fx 1)) : Tr (Fq a (Ah 1)) y:=fun ho=>by
  unfold Fq at ho ⊢
  simp only [Ag] at ho ⊢
  cases h1 : Am a with
  | false=>rw [h1] at ho; simp only [Bool.not_false,Ai] at ho; exact absurd ho (by decide)
  | true=>
    rw [h1] at ho
    simp only [Bool.not_true,Ae,A8] at ho ⊢
    rw [Ic ho]
    have A:=ha h1
    have p:=Vu h1
    have e1 : (An (a.lo.val - 1)).val = a.lo.val - 1:=by rw [Ad]; omega
    have e2 : (An (a.hi.val + 1)).val = a.hi.val + 1:=by rw [Ad]; omega
    have ey : y = x + (y - x):=(Lf x y).symm
    constructor
    · show Rl.fx (An (a.lo.val - 1)).val ≤ y
      rw [e1,ey,Rl.Ajs,← Rl.Ev]
      exact Rl.Bc A.1 h.1
    · show y ≤ Rl.fx (An (a.hi.val + 1)).val
      rw [e2,ey,Rl.eL]
      exact Rl.Bc A.2 h.2
theorem aV (n : Int) (k : Nat) : Rl.fx (n * 2 ^ k) = Rl.fx n * Rl.q ((2 ^ k : Int) : Rat):=by
  rw [Rl.Zr,Rl.Zr,← Rl.Ez]
  congr 1
  push_cast
  grind
theorem Agg {a : Iv} {y z : Rl.R} {k : Aq} (ha : Rl.In a.lo.val a.hi.val y) (h0 : 0 ≤ a.lo.val) (h1 : a.hi.val ≤ 8589934593) (k0 : -100 ≤ k.val) (k1 : k.val ≤ 29) (hp : 0 ≤ k.val → z = y * Rl.q ((2 ^ k.val.toNat : Int) : Rat)) (hn : k.val < 0 → z * Rl.q ((2 ^ (-k.val).toNat : Int) : Rat) = y) : Tr (Mi a k) z:=fun ho=>by
  unfold Mi at ho ⊢
  have o:=ha.ord
  by_cases hk : k.val ≥ 0
  · rw [decide_eq_true hk,Ai,Ag] at ho ⊢
    rw [Ic ho]
    have hp2 : (2 : Int) ^ k.val.toNat ≤ 536870912:=by
      have : (2 : Nat) ^ k.val.toNat ≤ 2 ^ 29:=Nat.pow_le_pow_right (by decide) (by omega)
      have h3 : ((2 ^ k.val.toNat : Nat) : Int) ≤ ((2 ^ 29 : Nat) : Int):=Int.ofNat_le.2 this
      rw [Int.natCast_pow] at h3
      exact h3
    have a1 : a.hi.val * 2 ^ k.val.toNat ≤ a.hi.val * 536870912:=Int.mul_le_mul_of_nonneg_left hp2 (by omega)
    have a2 : a.lo.val * 2 ^ k.val.toNat ≤ a.lo.val * 536870912:=Int.mul_le_mul_of_nonneg_left hp2 (by omega)
    have s1:=K2 a.lo k k.val.toNat (by omega) (by omega) h0 (by omega)
    have s2:=K2 a.hi k k.val.toNat (by omega) (by omega) (by omega) (by omega)
    have pos : Rl.q 0 ≤ Rl.q ((2 ^ k.val.toNat : Int) : Rat):=Rl.Dd.2 (by
      have:=Rl.E3 (Int.le_of_lt (show (0 : Int) < 2 ^ k.val.toNat from Int.pow_pos (by decide)))
      rwa [show ((0 : Int) : Rat) = 0 from rfl] at this)
    rw [hp hk]
    constructor
    · show Rl.fx (Ci .i64 a.lo.val (Ak k.val).val).val ≤ _
      rw [s1,aV]
      exact Rl.B6 ha.1 pos
    · show _ ≤ Rl.fx (Ci .i64 a.hi.val (Ak k.val).val).val
      rw [s2,aV]
      exact Rl.B6 ha.2 pos
  · rw [decide_eq_false hk,Ae,Ag] at ho ⊢
    rw [Ic ho]
    have ek : (An (0 - k.val)).val = -k.val:=by rw [Ad]; omega
    have eu : (Ak (An (0 - k.val)).val).val = -k.val:=by rw [At,ek]; omega
    have en : (An (0 - a.hi.val)).val = -a.hi.val:=by rw [Ad]; omega
    have em : min (-k.val).toNat IntKind.i64.bits = min (-k.val).toNat 64:=rfl
    have pk : (0 : Int) < 2 ^ (-k.val).toNat:=Int.pow_pos (by decide)
    have zp:=hn (by omega)
    have pos : Rl.q 0 < Rl.q ((2 ^ (-k.val).toNat : Int) : Rat):=Rl.Qb.2 (Rl.kV pk)
    have zn : Rl.q 0 ≤ z:=Lr zp pos (Rl.le_trans (by rw [← Rl.Fy]; exact Rl.Df.2 h0) ha.1)
    have cut : ∃ m : Nat,m ≤ (-k.val).toNat ∧ (m = (-k.val).toNat ∨ 64 ≤ m) ∧ (Ck a.lo (Ak (An (0 - k.val)).val).val).val = a.lo.val / 2 ^ m ∧ (Ck (An (0 - a.hi.val)) (Ak (An (0 - k.val)).val).val).val = -a.hi.val / 2 ^ m:=by
      refine ⟨min (-k.val).toNat 64,by omega,by omega,?_,?_⟩
      · rw [F2,eu,em,Int.fdiv_eq_ediv_of_nonneg _ (Int.le_of_lt (Int.pow_pos (by decide)))]
      · rw [F2,eu,em,Int.fdiv_eq_ediv_of_nonneg _ (Int.le_of_lt (Int.pow_pos (by decide))),en]
    obtain ⟨m,m1,m2,e1,e2⟩:=cut
    have pm : (0 : Int) < 2 ^ m:=Int.pow_pos (by decide)
    have big : 64 ≤ m → (8589934594 : Int) ≤ 2 ^ m:=fun h=>by
      have : (2 : Nat) ^ 64 ≤ 2 ^ m:=Nat.pow_le_pow_right (by decide) h
      have h3 : ((2 ^ 64 : Nat) : Int) ≤ ((2 ^ m : Nat) : Int):=Int.ofNat_le.2 this
      rw [Int.natCast_pow,Int.natCast_pow] at h3
      refine Int.le_trans (by decide) h3
    have l1 : a.lo.val / 2 ^ m * 2 ^ (-k.val).toNat ≤ a.lo.val:=by
      rcases m2 with m2 | m2
      · rw [← m2]; exact Int.ediv_mul_le _ (by omega)
      · have:=big m2
        rw [Int.ediv_eq_zero_of_lt h0 (by omega),Int.zero_mul]; exact h0
    have l2 : a.hi.val ≤ -(-a.hi.val / 2 ^ m) * 2 ^ (-k.val).toNat:=by
      have g:=Int.ediv_mul_le (-a.hi.val) (b:=2 ^ m) (by omega)
      rcases m2 with m2 | m2
      · rw [← m2,Int.neg_mul]; omega
      · have pmono : (2 : Int) ^ m ≤ 2 ^ (-k.val).toNat:=by
          have : (2 : Nat) ^ m ≤ 2 ^ (-k.val).toNat:=Nat.pow_le_pow_right (by decide) m1
          have h3 : ((2 ^ m : Nat) : Int) ≤ ((2 ^ (-k.val).toNat : Nat) : Int):=Int.ofNat_le.2 this
          rw [Int.natCast_pow,Int.natCast_pow] at h3
          exact h3
        have nn : 0 ≤ -(-a.hi.val / 2 ^ m):=by
          have:=Int.ediv_le_ediv pm (show -a.hi.val ≤ 0 by omega)
          rw [Int.zero_ediv] at this
          omega
        have:=Int.mul_le_mul_of_nonneg_left pmono nn
        rw [Int.neg_mul] at this
        omega
    have ew : (An (0 - (Ck (An (0 - a.hi.val)) (Ak (An (0 - k.val)).val).val).val)).val = -(-a.hi.val / 2 ^ m):=by
      have b1 : -a.hi.val / 2 ^ m ≤ 0:=by
        have:=Int.ediv_le_ediv pm (show -a.hi.val ≤ 0 by omega)
        rwa [Int.zero_ediv] at this
      have b2 : -a.hi.val ≤ -a.hi.val / 2 ^ m:=by
        refine (Int.le_ediv_iff_mul_le pm).2 ?_
        have:=Int.mul_le_mul_of_nonneg_left (show (1 : Int) ≤ 2 ^ m by omega) (show 0 ≤ a.hi.val by omega)
        rw [Int.neg_mul]; omega
      rw [Ad,e2]; omega
    constructor
    · show Rl.fx (Ck a.lo (Ak (An (0 - k.val)).val).val).val ≤ z
      rw [e1]
      refine Rl.Fa ?_ pos
      rw [zp,← aV]
      exact Rl.le_trans (Rl.Df.2 l1) ha.1
    · show z ≤ Rl.fx (An (0 - (Ck (An (0 - a.hi.val)) (Ak (An (0 - k.val)).val).val).val)).val
      rw [ew]
      refine Rl.Fa ?_ pos
      rw [zp,← aV]
      exact Rl.le_trans ha.2 (Rl.Df.2 l2)
theorem Ai8 (n : Aq) : Tr (Ka n) (Rl.fx n.val):=fun ho=>by
  unfold Ka at ho ⊢
  simp only [Ag] at ho ⊢
  rw [Ic ho]
  exact Rl.In.fix _
theorem Akm : Tr E9 (Rl.q 1):=by rw [d8]; exact Ks
theorem Pq {r p : Iv} {rv pv : Rl.R} (hr : Tr r rv) (hp : Tr p pv) (n : Aq) (c : Rat) (hc : (n.val : Rat) = c) (h0 : 0 < c) :
    Tr (Bj (Ao (Ah 1)) (A4 (Ay r p) (Ao n))) (Rl.ep1 c rv pv):=by
  have hn:=Yw n
  rw [hc] at hn
  exact Kp Ks (Ig (Fk hr hp) hn (Rl.Ahl h0 rv pv))
def kD (r : Iv) : Iv:=Bj (Ao (Ah 1)) (A4 (Ay r (Bj (Ao (Ah 1)) (A4 (Ay r (Bj (Ao (Ah 1)) (A4 (Ay r (Bj (Ao (Ah 1)) (A4 (Ay r (Bj (Ao (Ah 1)) (A4 (Ay r (Bj (Ao (Ah 1)) (A4 (Ay r (Bj (Ao (Ah 1)) (A4 (Ay r (Bj (Ao (Ah 1)) (A4 (Ay r (Bj (Ao (Ah 1)) (A4 (Ay r (Ao (Ah 1))) (Ao (Ah 9))))) (Ao (Ah 8))))) (Ao (Ah 7))))) (Ao (Ah 6))))) (Ao (Ah 5))))) (Ao (Ah 4))))) (Ao (Ah 3))))) (Ao (Ah 2))))) (Ao (Ah 1)))
theorem Aa3 {r : Iv} {x : Rl.R} (h : Tr r x) : Tr (kD r) (Rl.ep x):=
  Pq h (Pq h (Pq h (Pq h (Pq h (Pq h (Pq h (Pq h (Pq h Ks _ 9 (by decide +kernel) (by decide)) _ 8 (by decide +kernel) (by decide)) _ 7 (by decide +kernel) (by decide)) _ 6 (by decide +kernel) (by decide)) _ 5 (by decide +kernel) (by decide)) _ 4 (by decide +kernel) (by decide)) _ 3 (by decide +kernel) (by decide)) _ 2 (by decide +kernel) (by decide)) _ 1 (by decide +kernel) (by decide)
theorem Aa2 {r p : Iv} (hr : Abw r) (hp : uD p) {c : Aq} (hc : 1 ≤ c.val ∧ c.val ≤ 100) : 1317922496 ≤ (Bj (Ao (Ah 1)) (A4 (Ay r p) (Ao c))).lo.val:=by
  obtain ⟨hr0,hr1,hr2⟩:=hr
  obtain ⟨hp0,hp1,hp2⟩:=hp
  have rb:=Xi hr0
  have pb:=Xi hp0
  obtain ⟨i1,e1,o1,l1,u1⟩:=I9 (Ah 1) (by decide) (by decide)
  obtain ⟨ic,ec,oc,lc,uc⟩:=I9 c (by omega) (by omega)
  rw [e1,ec]
  rw [A8] at l1 u1
  have key : ∀ p q : Int,-1488522400 ≤ p → p ≤ 1488522400 → 0 ≤ q → q ≤ 8589934592 → -2977044800 * 4294967296 ≤ p * q ∧ p * q ≤ 2977044800 * 4294967296:=fun p q h1 h2 h3 h4=>by
    have a1 : -1488522400 * q ≤ p * q:=Int.mul_le_mul_of_nonneg_right h1 h3
    have a2 : p * q ≤ 1488522400 * q:=Int.mul_le_mul_of_nonneg_right h2 h3
    omega
  obtain ⟨m,em,om,m0,m1,_⟩:=gU hr0 hp0 (L:=-2977044800) (U:=2977044800) (by decide) (by decide) (key _ _ (by omega) (by omega) (by omega) (by omega)) (key _ _ (by omega) (by omega) (by omega) (by omega)) (key _ _ (by omega) (by omega) (by omega) (by omega)) (key _ _ (by omega) (by omega) (by omega) (by omega))
  rw [em]
  have mb:=Xi om
  obtain ⟨d,ed,od,d0,d1⟩:=qA om oc (by omega) (L:=-2977044800) (U:=2977044800) (by decide) (by decide) (by omega) (by omega) (by omega) (by omega)
  rw [ed]
  have db:=Xi od
  have hb : -1152921504606846976 < (An (i1.lo.val + d.lo.val)).val ∧ (An (i1.lo.val + d.lo.val)).val ≤ (An (i1.hi.val + d.hi.val)).val ∧ (An (i1.hi.val + d.hi.val)).val < 1152921504606846976:=by simp only [Ad]; omega
  have e : Bj i1 d = ⟨An (i1.lo.val + d.lo.val),An (i1.hi.val + d.hi.val)⟩:=by
    unfold Bj
    simp only [Ag,o1,od,Bool.not_true,Ae]
    rw [Fc hb]
  rw [e]
  show 1317922496 ≤ (An _).val
  rw [Ad]; omega
theorem wG {r : Iv} (hr : Abw r) : uD (kD r) ∧ 1317922496 ≤ (kD r).lo.val:=by
  have c : ∀ n : Aq,n = Ah 1 ∨ n = Ah 2 ∨ n = Ah 3 ∨ n = Ah 4 ∨ n = Ah 5 ∨ n = Ah 6 ∨ n = Ah 7 ∨ n = Ah 8 ∨ n = Ah 9 → 1 ≤ n.val ∧ n.val ≤ 100:=by
    intro n h; rcases h with rfl | rfl | rfl | rfl | rfl | rfl | rfl | rfl | rfl <;> decide
  have p8:=Hs hr (Hs hr (Hs hr (Hs hr (Hs hr (Hs hr (Hs hr (Hs hr rS (c (Ah 9) (by simp))) (c (Ah 8) (by simp))) (c (Ah 7) (by simp))) (c (Ah 6) (by simp))) (c (Ah 5) (by simp))) (c (Ah 4) (by simp))) (c (Ah 3) (by simp))) (c (Ah 2) (by simp))
  exact ⟨Hs hr p8 (c (Ah 1) (.inl rfl)),Aa2 hr p8 (c (Ah 1) (.inl rfl))⟩
theorem Afs (n : Aq) (h1 : -98784247808 ≤ n.val) (h2 : n.val ≤ 85899345920) : ∃ k : Aq,-41 ≤ k.val ∧ k.val ≤ 29 ∧ (k.val * 5954088944 ≤ 2 * n.val + 2977044472 ∧ 2 * n.val + 2977044472 < (k.val + 1) * 5954088944) ∧
    M5 n = Mi (Fq (kD (Cw (Ka n) (Hk k))) (Ah 1)) k:=by
  obtain ⟨q,e,q1,q2,q3,h⟩:=n8 n h1 h2
  have ho : B7 n = true:=Nt (by omega) (by omega)
  unfold M5 kD
  simp only [Ag,ho,Bool.not_true,Ae,decide_eq_false (show ¬ n.val > 85899345920 by omega),decide_eq_false (show ¬ n.val < -98784247808 by omega),d8]
  rw [e]
  rcases h with ⟨_,t2,t3⟩ | ⟨_,t2,t3⟩
  · rw [t2,Ai]
    exact ⟨An (q.val - 1),by omega,by omega,by rw [q3]; exact t3,rfl⟩
  · rw [t2,Ae]
    exact ⟨q,by omega,by omega,t3,rfl⟩
theorem Afe {p : Iv} (hp : uD p) : (Fq p (Ah 1)).lo.val = p.lo.val - 1 ∧ (Fq p (Ah 1)).hi.val = p.hi.val + 1 ∧ Am (Fq p (Ah 1)) = true:=by
  obtain ⟨ho,hl,hh⟩:=hp
  have b:=Xi ho
  have hb : -1152921504606846976 < (An (p.lo.val - 1)).val ∧ (An (p.lo.val - 1)).val ≤ (An (p.hi.val + 1)).val ∧ (An (p.hi.val + 1)).val < 1152921504606846976:=by simp only [Ad]; omega
  have e : Fq p (Ah 1) = ⟨An (p.lo.val - 1),An (p.hi.val + 1)⟩:=by
    unfold Fq
    simp only [Ag,ho,Bool.not_true,Ae,A8]
    rw [Fc hb]
  rw [e]
  exact ⟨by show (An _).val = _; rw [Ad]; omega,by show (An _).val = _; rw [Ad]; omega,I7 hb⟩
theorem gH (n : Aq) : Tr (M5 n) (Rl.ex (Rl.fx n.val)):=by
  by_cases h1 : n.val > 85899345920
  · intro ho
    exfalso
    unfold M5 at ho
    simp only [Ag,decide_eq_true h1] at ho
    cases hk : B7 n with
    | false=>rw [hk] at ho; simp only [Bool.not_false,Ai] at ho; exact absurd ho (by decide)
    | true=>rw [hk] at ho; simp only [Bool.not_true,Ai,Ae] at ho; exact absurd ho (by decide)
  · by_cases h2 : n.val < -98784247808
    · intro ho
      unfold M5 at ho ⊢
      simp only [Ag,decide_eq_false h1,decide_eq_true h2] at ho ⊢
      cases hk : B7 n with
      | false=>rw [hk] at ho; simp only [Bool.not_false,Ai] at ho; exact absurd ho (by decide)
      | true=>
        simp only [Bool.not_true,Ai,Ae]
        have:=Rl.Ajw (x:=Rl.fx n.val) (by
          rw [Rl.Zr]
          refine Rl.Dd.2 ?_
          have:=Rl.E3 (Int.le_of_lt h2)
          rw [show ((-98784247808 : Int) : Rat) = -98784247808 from by decide +kernel] at this
          grind)
        exact ⟨by show Rl.fx (Ah 0).val ≤ _; rw [A8,Rl.Fy]; exact this.1,by show _ ≤ Rl.fx (Ah 1).val; rw [A8]; exact this.2⟩
    · obtain ⟨k,k1,k2,k3,e⟩:=Afs n (by omega) (by omega)
      rw [e]
      have R : Tr (Cw (Ka n) (Hk k)) (Rl.fx n.val - Rl.q k.val * Rl.dQ):=Jg (Ai8 n) (gZ k)
      have hr : Abw (Cw (Ka n) (Hk k)):=kC ⟨by omega,by omega⟩ k3
      have S:=Aa3 R
      have P:=(wG hr).1
      have I:=R hr.1
      generalize Cw (Ka n) (Hk k) = r at *
      generalize hx : Rl.fx n.val - Rl.q k.val * Rl.dQ = x at *
      have xb : Rl.Ab x (Rl.q (35/100)):=by
        constructor
        · refine Rl.le_trans ?_ I.1
          rw [← Rl.Ii,Rl.Zr]
          refine Rl.Dd.2 ?_
          have:=Rl.E3 hr.2.1
          rw [show ((-1488522400 : Int) : Rat) = -1488522400 from by decide +kernel] at this
          grind
        · refine Rl.le_trans I.2 ?_
          rw [Rl.Zr]
          refine Rl.Dd.2 ?_
          have:=Rl.E3 hr.2.2
          rw [show ((1488522400 : Int) : Rat) = 1488522400 from by decide +kernel] at this
          grind
      have W:=xF S (y:=Rl.ex x) (Rl.Ahd xb)
      obtain ⟨w1,w2,w3⟩:=Afe P
      have ex_ : Rl.ex (Rl.fx n.val) = Rl.ex x * Rl.ex (Rl.q k.val * Rl.dQ):=by rw [← Rl.Om,← hx,Rl.C7]
      refine Agg (y:=Rl.ex x) (W w3) (by rw [w1]; have:=P.2.1; omega) (by rw [w2]; have:=P.2.2; omega) (by omega) k2 (fun h=>?_) (fun h=>?_)
      · have:=Rl.eN k.val.toNat
        rw [show ((k.val.toNat : Nat) : Int) = k.val from Int.toNat_of_nonneg h] at this
        rw [ex_,this]
      · have:=Rl.eN (-k.val).toNat
        rw [show (((-k.val).toNat : Nat) : Int) = -k.val from Int.toNat_of_nonneg (by omega)] at this
        rw [ex_,← this,show ((-k.val : Int) : Rat) = -(k.val : Rat) from by push_cast; rfl,Rl.Ii,Rl.neg_mul,Rl.mul_assoc,Rl.R4,Rl.mul_one]
theorem nN {a b : Iv} (h : Am (Lw a b) = true) : Am a = true ∧ Am b = true ∧ Lw a b = ⟨a.lo,b.hi⟩:=by
  unfold Lw at h ⊢
  simp only [Ag] at h ⊢
  cases h1 : Am a with
  | false=>rw [h1] at h; simp only [Bool.not_false,Ai] at h; exact absurd h (by decide)
  | true=>
  cases h2 : Am b with
  | false=>rw [h1,h2] at h; simp only [Bool.not_false,Bool.not_true,Ai,Ae] at h; exact absurd h (by decide)
  | true=>
    rw [h1,h2] at h
    simp only [Bool.not_true,Ae] at h ⊢
    rw [Ic h]
    exact ⟨trivial,trivial,rfl⟩
theorem xK {a b : Iv} {u v x : Rl.R} (ha : Tr a u) (hb : Tr b v) (h1 : u ≤ x) (h2 : x ≤ v) : Tr (Lw a b) x:=fun h=>by
  obtain ⟨k1,k2,e⟩:=nN h
  rw [e]
  exact ⟨Rl.le_trans (ha k1).1 h1,Rl.le_trans h2 (hb k2).2⟩
theorem Aib {a : Iv} {x : Rl.R} (ha : Tr a x) : Tr (eT a) (Rl.ex x):=by
  unfold eT
  simp only [Ag]
  cases ho : Am a with
  | false=>simp only [Bool.not_false,Ai]; exact Jf _
  | true=>
    simp only [Bool.not_true,Ae]
    have A:=ha ho
    exact xK (gH _) (gH _) (Rl.Q8 A.1) (Rl.Q8 A.2)
theorem Ag0 (a : Aq) (ha : 1 ≤ a.val) : ∀ (fu : Nat) (e : Aq) (s : Aq),e.val ≤ 0 → s.val = a.val * 2 ^ (0 - e.val).toNat → a.val * 2 ^ (0 - e.val).toNat < 6442450944 → (64 + e.val).toNat < fu →
    ∃ q s' : Aq,Hj fu a e ⟨s,s⟩ = Wm q ⟨s',s'⟩ ∧ q.val ≤ 0 ∧ -33 < q.val ∧ s'.val = a.val * 2 ^ (0 - q.val).toNat ∧ 3221225472 ≤ s'.val ∧ s'.val < 6442450944:=by
  intro fu
  induction fu with
  | zero=>intro e s _ _ _ h; exact absurd h (Nat.not_lt_zero _)
  | succ fu ih=>
    intro e s he hs hb hf
    have hu:=nQ a e hb ha he
    by_cases h : s.val < 3221225472
    · have e1 : (An (e.val - 1)).val = e.val - 1:=by rw [Ad]; omega
      have e0 : (An (0 - (An (e.val - 1)).val)).val = 0 - (An (e.val - 1)).val:=by rw [e1,Ad]; omega
      have hb2 : a.val * 2 ^ (0 - (An (e.val - 1)).val).toNat < 6442450944:=by rw [e1,iR a.val e.val he]; omega
      have e3 : Hj (fu + 1) a e ⟨s,s⟩ = Hj fu a (An (e.val - 1)) ⟨Ci .i64 a.val (An (0 - (An (e.val - 1)).val)).val,Ci .i64 a.val (An (0 - (An (e.val - 1)).val)).val⟩:=by
        rw [Hj,decide_eq_true (show (⟨s,s⟩ : Iv).lo.val < 3221225472 from h),Ai,Zu (An (0 - (An (e.val - 1)).val)) (by rw [e0,e1]; omega)]
      rw [e3]
      exact ih (An (e.val - 1)) _ (by omega) (aE a (An (e.val - 1)) (An (0 - (An (e.val - 1)).val)) hb2 ha (by omega) e0) hb2 (by omega)
    · exact ⟨e,s,Wl _ _ _ _ h,he,by omega,hs,by omega,by omega⟩
theorem Ag1 (a : Aq) (ha : 1 ≤ a.val) (ha2 : a.val ≤ 1152921504606846976) : ∀ (fu : Nat) (e : Aq) (m : Iv),0 ≤ e.val → e.val ≤ 28 → m.lo.val = a.val / 2 ^ e.val.toNat → m.hi.val = -(-a.val / 2 ^ e.val.toNat) → (e.val = 0 → m = ⟨a,a⟩) → (e.val = 0 ∨ 3221225472 ≤ m.lo.val) → (64 - e.val).toNat < fu →
    ∃ q : Aq,∃ m' : Iv,Iw fu a e m = Wm q m' ∧ -33 < q.val ∧ q.val ≤ 28 ∧ 3221225472 ≤ m'.lo.val ∧ m'.lo.val < 6442450944 ∧ m'.hi.val ≤ m'.lo.val + 1 ∧ m'.lo.val ≤ m'.hi.val ∧
      (0 ≤ q.val → m'.lo.val * 2 ^ q.val.toNat ≤ a.val ∧ a.val ≤ m'.hi.val * 2 ^ q.val.toNat) ∧ (q.val < 0 → m'.lo.val = a.val * 2 ^ (-q.val).toNat ∧ m'.hi.val = a.val * 2 ^ (-q.val).toNat):=by
  intro fu
  induction fu with
  | zero=>intro e m _ _ _ _ _ _ h; exact absurd h (Nat.not_lt_zero _)
  | succ fu ih=>
    intro e m h0 h28 hl hh hz hc hf
    have hml : m.lo.val = (Ck a (Ak e.val).val).val:=by rw [Zu e h0,iF a e (by omega) h0 (by omega),hl]
    by_cases h : m.lo.val ≥ 6442450944
    · have b:=bO a e m ha2 h0 (by omega) hml (decide_eq_true h)
      have e1 : (An (e.val + 1)).val = e.val + 1:=by rw [Ad]; omega
      have hw:=Zu (An (e.val + 1)) (by omega)
      rw [Iw,decide_eq_true h,Ai,hw]
      have en : (An (0 - a.val)).val = -a.val:=by rw [Ad]; omega
      have s1 : (Ck a (An (e.val + 1)).val).val = a.val / 2 ^ (An (e.val + 1)).val.toNat:=iF a _ (by omega) (by omega) (by omega)
      have s2 : (Ck (An (0 - a.val)) (An (e.val + 1)).val).val = -a.val / 2 ^ (An (e.val + 1)).val.toNat:=by
        rw [F2,Int.fdiv_eq_ediv_of_nonneg _ (Int.le_of_lt (Int.pow_pos (by decide))),Nat.min_eq_left (by show (An (e.val + 1)).val.toNat ≤ 64; omega),en]
      have pp : (0 : Int) < 2 ^ (An (e.val + 1)).val.toNat:=Int.pow_pos (by decide)
      refine ih (An (e.val + 1)) _ (by omega) (by omega) s1 ?_ (fun k=>by omega) (.inr ?_) (by omega)
      · show (An (0 - (Ck (An (0 - a.val)) (An (e.val + 1)).val).val)).val = _
        rw [Ad,s2]
        have b1 : -a.val / 2 ^ (An (e.val + 1)).val.toNat ≤ 0:=by
          have:=Int.ediv_le_ediv pp (show -a.val ≤ 0 by omega)
          rwa [Int.zero_ediv] at this
        have b2 : -a.val ≤ -a.val / 2 ^ (An (e.val + 1)).val.toNat:=by
          refine (Int.le_ediv_iff_mul_le pp).2 ?_
          have:=Int.mul_le_mul_of_nonneg_left (show (1 : Int) ≤ 2 ^ (An (e.val + 1)).val.toNat by omega) (show 0 ≤ a.val by omega)
          rw [Int.neg_mul]; omega
        omega
      · have b2:=b.2
        rw [hw] at b2
        exact b2
    · have e3 : Iw (fu + 1) a e m = Hj ((64 + e.val).toNat + 1) a e m:=by rw [Iw,decide_eq_false h,Ae]
      rw [e3]
      by_cases k : e.val = 0
      · rw [hz k] at h ⊢
        have p1 : a.val * 2 ^ (0 - e.val).toNat = a.val:=by rw [k]; show a.val * 2 ^ 0 = _; rw [Int.pow_zero,Int.mul_one]
        obtain ⟨q,s',q1,q2,q3,q4,q5,q6⟩:=Ag0 a ha ((64 + e.val).toNat + 1) e a (by omega) p1.symm (by rw [p1]; exact Int.lt_of_not_ge h) (by omega)
        refine ⟨q,⟨s',s'⟩,q1,q3,by omega,q5,q6,by show s'.val ≤ s'.val + 1; omega,Int.le_refl _,fun k=>?_,fun k=>?_⟩
        · have z : q.val = 0:=by omega
          rw [z] at q4 ⊢
          change s'.val = a.val * 2 ^ 0 at q4
          rw [Int.pow_zero,Int.mul_one] at q4
          show s'.val * 2 ^ 0 ≤ a.val ∧ a.val ≤ s'.val * 2 ^ 0
          rw [Int.pow_zero,Int.mul_one]; omega
        · rw [show (0 - q.val).toNat = (-q.val).toNat by omega] at q4
          exact ⟨q4,q4⟩
      · have pp : (0 : Int) < 2 ^ e.val.toNat:=Int.pow_pos (by decide)
        have l1:=Int.ediv_mul_le a.val (b:=2 ^ e.val.toNat) (by omega)
        have l2:=Int.ediv_mul_le (-a.val) (b:=2 ^ e.val.toNat) (by omega)
        have c1 : a.val / 2 ^ e.val.toNat ≤ -(-a.val / 2 ^ e.val.toNat):=by
          refine Int.le_of_mul_le_mul_right (a:=2 ^ e.val.toNat) ?_ pp
          rw [Int.neg_mul]; omega
        have c2 : -(-a.val / 2 ^ e.val.toNat) ≤ a.val / 2 ^ e.val.toNat + 1:=by
          have g1:=Int.lt_ediv_add_one_mul_self a.val pp
          have g2:=Int.lt_ediv_add_one_mul_self (-a.val) pp
          refine Int.le_of_lt_add_one ?_
          refine Int.lt_of_mul_lt_mul_right (a:=2 ^ e.val.toNat) ?_ (Int.le_of_lt pp)
          generalize (2 : Int) ^ e.val.toNat = p at *
          generalize -a.val / p = u at *
          generalize a.val / p = v at *
          rw [Int.add_mul] at g1 g2
          rw [Int.add_mul,Int.add_mul,Int.neg_mul]
          omega
        refine ⟨e,m,Wl _ _ _ _ (by omega),by omega,h28,by omega,by omega,by omega,by omega,fun _=>?_,fun k=>by omega⟩
        rw [hl,hh,Int.neg_mul]
        omega
theorem Aat {q : Aq} {m : Iv} {u y : Rl.R} (hm : Tr m u) (h1 : Rl.q (3/4) ≤ u) (h2 : u ≤ Rl.q (3/2)) (e : Rl.ex y = u) : Tr (Wm q m) (Rl.q q.val * Rl.dQ + y):=by
  unfold Wm
  simp only [Ag]
  have mp : Rl.q 0 < u + Rl.q 1:=Rl.Jv (Rl.lt_of_lt_of_le (Rl.Qb.2 (by decide +kernel)) h1) (Rl.Dd.2 (by decide))
  obtain ⟨z,ez⟩:=Ns (x:=u - Rl.q 1) mp
  obtain ⟨z1,z2⟩:=Rl.Ady h1 h2 e ez
  have Z:=Ig (Jg hm Ks) (Kp hm Ks) ez
  have Q:=bL Z
  have P:=Fk (Fk m9 Z) (Kp (Rd (Ah 1) 1 (by decide) (by decide +kernel)) (Fk Q (Kp (Rd (Ah 3) (1/3) (by decide) (by decide +kernel)) (Fk Q (Kp (Rd (Ah 5) (1/5) (by decide) (by decide +kernel)) (Fk Q (Kp (Rd (Ah 7) (1/7) (by decide) (by decide +kernel)) (Fk Q (Kp (Rd (Ah 9) (1/9) (by decide) (by decide +kernel)) (Fk Q (Rd (Ah 11) (1/11) (by decide) (by decide +kernel))))))))))))
  have e2:=Rl.Ag3 z
  change Rl.q 2 * z * (Rl.q 1 + z * z * (Rl.q (1/3) + z * z * (Rl.q (1/5) + z * z * (Rl.q (1/7) + z * z * (Rl.q (1/9) + z * z * Rl.q (1/11)))))) = _ at e2
  rw [e2] at P
  exact Kp (gZ q) (xF P (by
    have:=(Rl.Adz z1 z2).neg
    rwa [Rl.J9] at this))
theorem nR {n : Aq} {y : Rl.R} (e : Rl.ex y = Rl.fx n.val) : Tr (Ra n) y:=by
  unfold Ra
  simp only [Ag]
  cases hi : Bz n (Ah 1) (Ah 1152921504606846976) with
  | false=>simp only [Bool.not_false,Ai]; exact Jf _
  | true=>
    simp only [Bool.not_true,Ae]
    rw [Gk] at hi
    simp only [A8,Bool.and_eq_true,decide_eq_true_eq] at hi
    obtain ⟨q,m,em,q1,q2,m1,m2,m3,m4,up,dn⟩:=Ag1 n hi.1 hi.2 ((64 - (Ah 0).val).toNat + 1) (Ah 0) ⟨n,n⟩ (by decide) (by decide) (by rw [A8]; show n.val = n.val / 2 ^ 0; rw [Int.pow_zero,Int.ediv_one]) (by rw [A8]; show n.val = -(-n.val / 2 ^ 0); rw [Int.pow_zero,Int.ediv_one,Int.neg_neg]) (fun _=>rfl) (.inl (by rw [A8])) (Nat.lt_succ_self _)
    rw [em]
    have M : Rl.In m.lo.val m.hi.val (Rl.ex (y - Rl.q q.val * Rl.dQ)):=by
      by_cases hq : 0 ≤ q.val
      · obtain ⟨l,u⟩:=up hq
        have e2:=Rl.Aa4 q.val.toNat y
        rw [show ((q.val.toNat : Nat) : Int) = q.val from Int.toNat_of_nonneg hq,e] at e2
        have pos : Rl.q 0 < Rl.q ((2 ^ q.val.toNat : Int) : Rat):=Rl.Qb.2 (Rl.kV (Int.pow_pos (by decide)))
        exact ⟨Rl.Fa (by rw [e2,← aV]; exact Rl.Df.2 l) pos,Rl.Fa (by rw [e2,← aV]; exact Rl.Df.2 u) pos⟩
      · obtain ⟨l,u⟩:=dn (by omega)
        have e2:=Rl.Aa5 (-q.val).toNat y
        rw [show (((-q.val).toNat : Nat) : Int) = -q.val from Int.toNat_of_nonneg (by omega),show ((-q.val : Int) : Rat) = -(q.val : Rat) from by push_cast; rfl,Rl.Ii,Rl.neg_mul,Rl.Ev,e,← aV] at e2
        rw [e2,l,u]
        exact Rl.In.fix _
    have L:=Aat (q:=q) (m:=m) (y:=y - Rl.q q.val * Rl.dQ) (fun _=>M) (Rl.le_trans (by
      have:=Rl.Df.2 m1
      refine Rl.le_trans ?_ this
      exact Rl.Dd.2 (by decide +kernel)) M.1) (Rl.le_trans M.2 (by
      have:=Rl.Df.2 (show m.hi.val ≤ 6442450944 by omega)
      refine Rl.le_trans this ?_
      exact Rl.Dd.2 (by decide +kernel))) rfl
    rwa [Lf] at L
theorem fW {n : Aq} (h : Am (Ra n) = true) : 1 ≤ n.val:=by
  refine Classical.byContradiction fun k=>?_
  unfold Ra at h
  have hi : Bz n (Ah 1) (Ah 1152921504606846976) = false:=by
    rw [Gk]
    simp only [A8,Bool.and_eq_false_iff,decide_eq_false_iff_not]
    exact .inl k
  simp only [Ag,hi,Bool.not_false,Ai] at h
  exact absurd h (by decide)
theorem xI {a : Iv} {x y : Rl.R} (ha : Tr a x) (e : Rl.ex y = x) : Tr (W2 a) y:=by
  unfold W2
  simp only [Ag]
  cases ho : Am a with
  | false=>simp only [Bool.not_false,Ai]; exact Jf _
  | true=>
    simp only [Bool.not_true,Ae]
    intro h
    obtain ⟨k1,k2,ee⟩:=nN h
    have A:=ha ho
    obtain ⟨u,eu⟩:=Rl.U0 (Rl.Ol (show 0 < a.lo.val by have:=fW k1; omega))
    obtain ⟨v,ev⟩:=Rl.U0 (Rl.Ol (show 0 < a.hi.val by have:=fW k2; omega))
    exact xK (nR eu) (nR ev) (Rl.Z6.1 (by rw [eu,e]; exact A.1)) (Rl.Z6.1 (by rw [ev,e]; exact A.2)) h
theorem Agh {n : Aq} (h : -1152921504606846976 < n.val) : Tr (M5 (An (0 - n.val))) (Rl.ex (-Rl.fx n.val)):=by
  have w : (An (0 - n.val)).val = -n.val:=by rw [Ad]; have : n.val ≤ 9223372036854775807:=n.hi; omega
  have:=gH (An (0 - n.val))
  rwa [w,Rl.Nr] at this
theorem qK {n : Aq} (h : -1152921504606846976 < n.val) : Tr (Zh n) (Rl.q (1/2) * (Rl.ex (Rl.fx n.val) - Rl.ex (-Rl.fx n.val))):=by
  unfold Zh
  simp only [Ag]
  exact uX (Jg (gH n) (Agh h)) (Rl.Hr _)
theorem n6 {x y : Rl.R} (h : x ≤ y) : Rl.q (1/2) * x ≤ Rl.q (1/2) * y:=Rl.Ba h (Rl.Dd.2 (by decide +kernel))
theorem Ai5 {a : Iv} {t : Rl.R} (ha : Tr a t) : Tr (q7 a) (Rl.q (1/2) * (Rl.ex t - Rl.ex (-t))):=by
  unfold q7
  simp only [Ag]
  cases ho : Am a with
  | false=>simp only [Bool.not_false,Ai]; exact Jf _
  | true=>
    simp only [Bool.not_true,Ae]
    have A:=ha ho
    have p:=Vu ho
    exact xK (qK (by omega)) (qK (by omega)) (n6 (Rl.xR A.1)) (n6 (Rl.xR A.2))
def Bd (N : Int) (z : Iv) : Prop:=Am z = true ∧ -N ≤ z.lo.val ∧ z.hi.val ≤ N
def Bo (N : Int) (z : Iv) : Prop:=Am z = true → -N ≤ z.lo.val ∧ z.hi.val ≤ N
end Go.Proofs.YtfhnlkinjbakgaaGreat.Abs
