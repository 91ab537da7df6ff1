/- Plain laws of the functions on numbers: what the program computes is what the reference computes. -/
import Derived.Test.YtfhnlkinjbakgaaGreatSsQmnop
import Derived.Test.YtfhnlkinjbakgaaGreatSsFx
set_option linter.unusedVariables false
set_option linter.unusedSimpArgs false
namespace Go.Proofs.YtfhnlkinjbakgaaGreat.Abs
open Go
theorem nL (w : Wd) : (D9 w (Ah 29)).z = w.z / 536870912:=by
  have a1:=w.lo.lo
  have a2:=w.lo.hi
  unfold D9
  have e0 : ((Ah 29).val == 0) = false:=by decide
  have e1 : decide ((Ah 29).val < 64) = true:=by decide
  have e2 : (Ak (Ah 29).val).val = 29:=by decide
  have e3 : (Ak (An (64 - (Ah 29).val)).val).val = 35:=by decide
  simp only [e0,e1,e2,e3,cond_true,cond_false]
  have s1 : (Ck w.hi 29).val = w.hi.val / 536870912:=by rw [F2,Int.fdiv_eq_ediv_of_nonneg _ (by decide)]; rfl
  have s2 : (Ck w.lo 29).val = w.lo.val / 536870912:=by rw [F2,Int.fdiv_eq_ediv_of_nonneg _ (by decide)]; rfl
  have s3 : (Ci .u64 (Ak w.hi.val).val 35).val = (w.hi.val % 18446744073709551616 * 34359738368) % 18446744073709551616:=by
    show IntKind.u64.wrap ((Ak w.hi.val).val * 2 ^ 35) = _
    rw [IntKind.wrap_u64,At]
    rfl
  have s4 : (Qg .u64 (Ck w.lo 29).val (Ci .u64 (Ak w.hi.val).val 35).val).val = (w.hi.val % 18446744073709551616 * 34359738368) % 18446744073709551616 + w.lo.val / 536870912:=by
    rw [jX,s2,s3]
    exact Xy 35 _ _ (by omega) (by omega) (by rw [show (2 : Int) ^ 35 = 34359738368 by decide]; omega) (by omega) (by rw [show (2 : Int) ^ 35 = 34359738368 by decide]; omega) (by decide)
  show (Ck w.hi 29).val * 18446744073709551616 + (Qg .u64 (Ck w.lo 29).val (Ci .u64 (Ak w.hi.val).val 35).val).val = (w.hi.val * 18446744073709551616 + w.lo.val) / 536870912
  rw [s1,s4]
  omega
theorem Ait (a : Aq) (h0 : -100 ≤ a.val) (h1 : a.val ≤ 100) : ∃ r : Aq,Ei a (Ah 1598288580650331957) (Ah 29) = (r,true) ∧ r.val = a.val * 1598288580650331957 / 536870912:=by
  have hz : (D9 (A3 a (Ah 1598288580650331957)) (Ah 29)).z = a.val * 1598288580650331957 / 536870912:=by rw [nL,Jh,A8]
  obtain ⟨n,e1,e2⟩:=Yn (D9 (A3 a (Ah 1598288580650331957)) (Ah 29)) (by rw [hz]; omega) (by rw [hz]; omega)
  refine ⟨n,?_,by rw [e1,hz]⟩
  unfold Ei
  have e3 : Bz (Ah 29) (Ah 0) (Ah 126) = true:=by decide
  simp only [Ag,e2,e3,Bool.not_true,Ae]
theorem Aiu (a : Aq) (h0 : -100 ≤ a.val) (h1 : a.val ≤ 100) : ∃ r : Aq,Ei a (Ah 1598288580650331958) (Ah 29) = (r,true) ∧ r.val = a.val * 1598288580650331958 / 536870912:=by
  have hz : (D9 (A3 a (Ah 1598288580650331958)) (Ah 29)).z = a.val * 1598288580650331958 / 536870912:=by rw [nL,Jh,A8]
  obtain ⟨n,e1,e2⟩:=Yn (D9 (A3 a (Ah 1598288580650331958)) (Ah 29)) (by rw [hz]; omega) (by rw [hz]; omega)
  refine ⟨n,?_,by rw [e1,hz]⟩
  unfold Ei
  have e3 : Bz (Ah 29) (Ah 0) (Ah 126) = true:=by decide
  simp only [Ag,e2,e3,Bool.not_true,Ae]
theorem Aeb {a : Aq} (h : Bz a (Ah (-64)) (Ah 64) = true) : -64 ≤ a.val ∧ a.val ≤ 64:=by
  rw [Gk] at h
  simp only [Bool.and_eq_true,decide_eq_true_eq,A8] at h
  exact h
theorem gM {a : Aq} (h : -64 ≤ a.val ∧ a.val ≤ 64) : Bz a (Ah (-64)) (Ah 64) = true:=by
  rw [Gk]
  simp only [Bool.and_eq_true,decide_eq_true_eq,A8]
  exact h
theorem Wk (g : Aq → Iv) (a : Aq) (h0 : 0 ≤ a.val) (h1 : a.val ≤ 64) : ∃ z : Iv,Ho g a = z ∧ Mp g a = z ∧ Am z = true ∧ a.val * 2977044472 - 70 ≤ z.lo.val ∧ z.hi.val ≤ a.val * 2977044472 + 70:=by
  have en : (An (0 - a.val)).val = -a.val:=by rw [Ad]; omega
  obtain ⟨r,r1,r2⟩:=Ait a (by omega) (by omega)
  obtain ⟨s,s1,s2⟩:=Aiu (An (0 - a.val)) (by omega) (by omega)
  rw [en] at s2
  have eh : (An (0 - s.val)).val = -s.val:=by rw [Ad]; omega
  have hb : -1152921504606846976 < r.val ∧ r.val ≤ (An (0 - s.val)).val ∧ (An (0 - s.val)).val < 1152921504606846976:=by omega
  have hn : decide (a.val < 0) = false:=decide_eq_false (by omega)
  have hi : Bz a (Ah (-64)) (Ah 64) = true:=gM (by omega)
  refine ⟨⟨r,An (0 - s.val)⟩,?_,?_,I7 hb,?_,?_⟩
  · unfold Ho
    simp only [Ag,hi,hn,r1,s1,Bool.not_true,Ae]
    rw [Fc hb]
  · unfold Mp
    simp only [Ag,O5,Ui,hi,hn,r1,s1,Bool.not_true,Ae]
  · show a.val * 2977044472 - 70 ≤ r.val
    omega
  · show (An (0 - s.val)).val ≤ _
    omega
theorem jT (g : Aq → Iv) (a : Aq) (h0 : -64 ≤ a.val) (h1 : a.val < 0) : Ho g a = Kl (g (An (0 - a.val))) ∧ Mp g a = Kl (g (An (0 - a.val))):=by
  have hn : decide (a.val < 0) = true:=decide_eq_true (by omega)
  have hi : Bz a (Ah (-64)) (Ah 64) = true:=gM (by omega)
  constructor
  · unfold Ho
    simp only [Ag,hi,hn,Bool.not_true,Ae,Ai]
  · unfold Mp
    simp only [Ag,O5,Uh,hi,hn,Bool.not_true,Ae,Ai]
theorem Agz {a : Iv} (h : Am a = true) : ∃ z : Iv,Kl a = z ∧ Am z = true ∧ z.lo.val = -a.hi.val ∧ z.hi.val = -a.lo.val:=by
  obtain ⟨h1,h2,h3⟩:=Xi h
  have e1 : (An (0 - a.hi.val)).val = -a.hi.val:=by rw [Ad]; omega
  have e2 : (An (0 - a.lo.val)).val = -a.lo.val:=by rw [Ad]; omega
  have hb : -1152921504606846976 < (An (0 - a.hi.val)).val ∧ (An (0 - a.hi.val)).val ≤ (An (0 - a.lo.val)).val ∧ (An (0 - a.lo.val)).val < 1152921504606846976:=by omega
  refine ⟨⟨An (0 - a.hi.val),An (0 - a.lo.val)⟩,?_,I7 hb,e1,e2⟩
  unfold Kl
  simp only [Ag,h,Bool.not_true,Ae]
  rw [Fc hb]
theorem fV (a : Aq) : Nc a = Hk a ∧ (-64 ≤ a.val → a.val ≤ 64 → ∃ z : Iv,Hk a = z ∧ Am z = true ∧ a.val * 2977044472 - 70 ≤ z.lo.val ∧ z.hi.val ≤ a.val * 2977044472 + 70):=by
  unfold Nc Hk Ie Hn
  cases hi : Bz a (Ah (-64)) (Ah 64) with
  | false=>
    constructor
    · unfold Mp Ho
      simp only [Ag,O5,hi,Dv,Bool.not_false,Ai]
    · intro h1 h2
      rw [gM ⟨h1,h2⟩] at hi
      cases hi
  | true=>
    obtain ⟨h1,h2⟩:=Aeb hi
    by_cases hn : a.val < 0
    · rw [(jT _ a h1 hn).2,(jT _ a h1 hn).1]
      have en : (An (0 - a.val)).val = -a.val:=by rw [Ad]; omega
      unfold Ie Hn
      obtain ⟨z,z1,_,z3,z4,z5⟩:=Wk (Hn 0) (An (0 - a.val)) (by omega) (by omega)
      obtain ⟨y,y1,y2,_⟩:=Wk (Ie 0) (An (0 - a.val)) (by omega) (by omega)
      have e0 : Ie 0 = Hn 0:=by funext x; unfold Ie Hn; rfl
      rw [e0] at y1 y2
      rw [e0,y2,← y1,z1]
      refine ⟨rfl,fun _ _=>?_⟩
      obtain ⟨v,v1,v2,v3,v4⟩:=Agz z3
      exact ⟨v,v1,v2,by omega,by omega⟩
    · obtain ⟨z,z1,_,z3,z4,z5⟩:=Wk (Hn 1) a (by omega) (by omega)
      obtain ⟨y,y1,y2,_⟩:=Wk (Ie 1) a (by omega) (by omega)
      refine ⟨?_,fun _ _=>⟨z,z1,z3,z4,z5⟩⟩
      rw [y2,z1]
      have e1 : Ho (Ie 1) a = Ho (Hn 1) a:=by
        unfold Ho
        simp only [Ag,decide_eq_false hn,Ae]
      rw [← y1,e1,z1]
theorem b7 (a : Aq) : Nc a = Hk a:=(fV a).1
theorem kE (a : Iv) (n : Aq) : Pd a n = Fq a n:=by
  unfold Pd Fq
  simp only [Ag,N5]
  cases Am a
  · simp only [lW,Bool.not_false,Ai]
  · simp only [Kj,Bool.not_true,Ae]
theorem d8 : E9 = Ao (Ah 1):=by
  obtain ⟨z,e,h1,h2,h3⟩:=I9 (Ah 1) (by decide) (by decide)
  rw [A8] at h2 h3
  rw [e]
  unfold E9 Ka
  simp only [Ag]
  rw [Fc (by simp only [A8]; omega)]
  obtain ⟨lo,hi⟩:=z
  simp only at h2 h3
  have e1 : Ah 4294967296 = lo:=IK.eq (by rw [A8,h2]; rfl)
  have e2 : Ah 4294967296 = hi:=IK.eq (by rw [A8,h3]; rfl)
  rw [← e1,← e2]
def uD (z : Iv) : Prop:=Am z = true ∧ 1 ≤ z.lo.val ∧ z.hi.val ≤ 8589934592
def Abw (r : Iv) : Prop:=Am r = true ∧ -1488522400 ≤ r.lo.val ∧ r.hi.val ≤ 1488522400
theorem Hs {r p : Iv} (hr : Abw r) (hp : uD p) {c : Aq} (hc : 1 ≤ c.val ∧ c.val ≤ 100) : uD (Bj (Ao (Ah 1)) (A4 (Ay r p) (Ao c))):=by
  obtain ⟨hr0,hr1,hr2⟩:=hr
  obtain ⟨hp0,hp1,hp2⟩:=hp
  have rb:=Xi hr0
  have pb:=Xi hp0
  obtain ⟨i1,e1,o1,l1,u1⟩:=I9 (Ah 1) (by decide) (by decide)
  obtain ⟨ic,ec,oc,lc,uc⟩:=I9 c (by omega) (by omega)
  rw [e1,ec]
  rw [A8] at l1 u1
  have key : ∀ p q : Int,-1488522400 ≤ p → p ≤ 1488522400 → 0 ≤ q → q ≤ 8589934592 → -2977044800 * 4294967296 ≤ p * q ∧ p * q ≤ 2977044800 * 4294967296:=fun p q h1 h2 h3 h4=>by
    have a1 : -1488522400 * q ≤ p * q:=Int.mul_le_mul_of_nonneg_right h1 h3
    have a2 : p * q ≤ 1488522400 * q:=Int.mul_le_mul_of_nonneg_right h2 h3
    omega
  obtain ⟨m,em,om,m0,m1,_⟩:=gU hr0 hp0 (L:=-2977044800) (U:=2977044800) (by decide) (by decide) (key _ _ (by omega) (by omega) (by omega) (by omega)) (key _ _ (by omega) (by omega) (by omega) (by omega)) (key _ _ (by omega) (by omega) (by omega) (by omega)) (key _ _ (by omega) (by omega) (by omega) (by omega))
  rw [em]
  have mb:=Xi om
  obtain ⟨d,ed,od,d0,d1⟩:=qA om oc (by omega) (L:=-2977044800) (U:=2977044800) (by decide) (by decide) (by omega) (by omega) (by omega) (by omega)
  rw [ed]
  have db:=Xi od
  have hb : -1152921504606846976 < (An (i1.lo.val + d.lo.val)).val ∧ (An (i1.lo.val + d.lo.val)).val ≤ (An (i1.hi.val + d.hi.val)).val ∧ (An (i1.hi.val + d.hi.val)).val < 1152921504606846976:=by simp only [Ad]; omega
  have e : Bj i1 d = ⟨An (i1.lo.val + d.lo.val),An (i1.hi.val + d.hi.val)⟩:=by
    unfold Bj
    simp only [Ag,o1,od,Bool.not_true,Ae]
    rw [Fc hb]
  rw [e]
  exact ⟨I7 hb,by show 1 ≤ (An _).val; rw [Ad]; omega,by show (An _).val ≤ _; rw [Ad]; omega⟩
theorem rS : uD (Ao (Ah 1)):=by
  obtain ⟨z,e,h1,h2,h3⟩:=I9 (Ah 1) (by decide) (by decide)
  rw [A8] at h2 h3
  rw [e]
  exact ⟨h1,by omega,by omega⟩
theorem kC {a k : Aq} (ha : -98784247808 ≤ a.val ∧ a.val ≤ 85899345920) (hk : k.val * 5954088944 ≤ 2 * a.val + 2977044472 ∧ 2 * a.val + 2977044472 < (k.val + 1) * 5954088944) : Abw (Cw (Ka a) (Hk k)):=by
  obtain ⟨z,e,oz,z1,z2⟩:=(fV k).2 (by omega) (by omega)
  have zb:=Xi oz
  have ea : Ka a = ⟨a,a⟩:=by
    unfold Ka
    rw [Ag,Fc (by omega)]
  have oa : Am ⟨a,a⟩ = true:=I7 (by simp only; omega)
  rw [e,ea]
  have hb : -1152921504606846976 < (An (a.val - z.hi.val)).val ∧ (An (a.val - z.hi.val)).val ≤ (An (a.val - z.lo.val)).val ∧ (An (a.val - z.lo.val)).val < 1152921504606846976:=by simp only [Ad]; omega
  have es : Cw ⟨a,a⟩ z = ⟨An (a.val - z.hi.val),An (a.val - z.lo.val)⟩:=by
    unfold Cw
    simp only [Ag,oa,oz,Bool.not_true,Ae]
    rw [Fc hb]
  rw [es]
  exact ⟨I7 hb,by show _ ≤ (An _).val; rw [Ad]; omega,by show (An _).val ≤ _; rw [Ad]; omega⟩
theorem tM (a : Iv) : Jd a = Bj a a:=by
  unfold Jd
  rw [Ag,I4]
theorem pS : Jd Aw = Aw:=by
  rw [tM]
  unfold Bj
  have : Am Aw = false:=by decide
  simp only [Ag,this,Bool.not_false,Ai]
theorem nZ : ∀ (K fu : Nat) (k : Aq),k.val = K → K < fu → Gn fu k Aw = Aw:=by
  intro K
  induction K with
  | zero=>
    intro fu k hk hf
    obtain ⟨fu,rfl⟩ : ∃ g,fu = g + 1:=⟨fu - 1,by omega⟩
    unfold Gn
    have h0 : decide (k.val > 0) = false:=decide_eq_false (by omega)
    have hw : Am Aw = false:=by decide
    simp only [Ag,h0,Ae,Hw,hw,Bool.not_false,Ai,Dv]
  | succ K ih=>
    intro fu k hk hf
    obtain ⟨fu,rfl⟩ : ∃ g,fu = g + 1:=⟨fu - 1,by omega⟩
    unfold Gn
    have h0 : decide (k.val > 0) = true:=decide_eq_true (by omega)
    have hk1 : (An (k.val - 1)).val = K:=by have:=k.hi; rw [Ad]; omega
    simp only [Ag,h0,Ai,pS]
    exact ih fu _ hk1 (by omega)
theorem K2 (x k : Aq) (K : Nat) (hk : k.val = K) (hK : K ≤ 60) (h0 : 0 ≤ x.val) (h1 : x.val * 2 ^ K < 9223372036854775808) : (Ci .i64 x.val (Ak k.val).val).val = x.val * 2 ^ K:=by
  rw [Zu k (by omega)]
  show IntKind.i64.wrap (x.val * 2 ^ (min k.val.toNat 64)) = _
  have e : min k.val.toNat 64 = K:=by omega
  rw [e,IntKind.wrap_i64]
  have : 0 ≤ x.val * 2 ^ K:=Int.mul_nonneg h0 (Int.le_of_lt (Int.pow_pos (by decide)))
  omega
theorem zN : ∀ (K fu : Nat) (k : Aq) (x : Iv),k.val = K → K ≤ 60 → K < fu → Am x = true → 0 ≤ x.lo.val → x.hi.val * 2 ^ K < 9223372036854775808 →
    Gn fu k x = C0 (Ci .i64 x.lo.val (Ak k.val).val) (Ci .i64 x.hi.val (Ak k.val).val):=by
  intro K
  induction K with
  | zero=>
    intro fu k x hk _ hf ho hl hh
    obtain ⟨h1,h2,h3⟩:=Xi ho
    obtain ⟨fu,rfl⟩ : ∃ g,fu = g + 1:=⟨fu - 1,by omega⟩
    unfold Gn
    have h0 : decide (k.val > 0) = false:=decide_eq_false (by omega)
    have hk0 : k.val = 0:=by omega
    have ek : (An (0 - k.val)).val = 0:=by rw [Ad]; omega
    have el : Ci .i64 x.lo.val (Ak k.val).val = x.lo:=IK.eq (by rw [K2 x.lo k 0 hk (by omega) hl (by rw [Int.pow_zero]; omega),Int.pow_zero]; omega)
    have eh : Ci .i64 x.hi.val (Ak k.val).val = x.hi:=IK.eq (by rw [K2 x.hi k 0 hk (by omega) (by omega) (by rw [Int.pow_zero]; omega),Int.pow_zero]; omega)
    simp only [Ag,h0,Ae,Hw,ho,Bool.not_true,ek,Akq,el,eh]
    rw [Fc ⟨h1,h2,h3⟩]
    have : An (0 - (An (0 - x.hi.val)).val) = x.hi:=IK.eq (by simp only [Ad]; omega)
    rw [this]
  | succ K ih=>
    intro fu k x hk hK hf ho hl hh
    obtain ⟨h1,h2,h3⟩:=Xi ho
    obtain ⟨fu,rfl⟩ : ∃ g,fu = g + 1:=⟨fu - 1,by omega⟩
    have hp : (0 : Int) < 2 ^ K:=Int.pow_pos (by decide)
    have e2 : ∀ y : Int,y * 2 ^ (K + 1) = 2 * y * 2 ^ K:=fun y=>by rw [Int.pow_succ,← Int.mul_assoc,Int.mul_comm,← Int.mul_assoc]
    have X5 : x.lo.val * 2 ^ (K + 1) ≤ x.hi.val * 2 ^ (K + 1):=Int.mul_le_mul_of_nonneg_right h2 (Int.le_of_lt (Int.pow_pos (by decide)))
    have h0 : decide (k.val > 0) = true:=decide_eq_true (by omega)
    have hk1 : (An (k.val - 1)).val = K:=by have:=k.hi; rw [Ad]; omega
    rw [show Gn (fu + 1) k x = Gn fu (An (k.val - 1)) (Jd x) by
      rw [Gn]
      simp only [Ag,h0,Ai]]
    have ed : Jd x = C0 (An (2 * x.lo.val)) (An (2 * x.hi.val)):=by
      rw [tM]
      unfold Bj
      have z1 : x.lo.val + x.lo.val = 2 * x.lo.val:=by omega
      have z2 : x.hi.val + x.hi.val = 2 * x.hi.val:=by omega
      simp only [Ag,ho,Bool.not_true,Ae,z1,z2]
    rw [ed]
    have d1 : (An (2 * x.lo.val)).val = 2 * x.lo.val:=by rw [Ad]; omega
    have d2 : (An (2 * x.hi.val)).val = 2 * x.hi.val:=by rw [Ad]; omega
    have sl:=K2 x.lo k (K + 1) hk (by omega) hl (by omega)
    have sh:=K2 x.hi k (K + 1) hk (by omega) (by omega) hh
    by_cases hf2 : 2 * x.hi.val < 1152921504606846976
    · have hb : -1152921504606846976 < (An (2 * x.lo.val)).val ∧ (An (2 * x.lo.val)).val ≤ (An (2 * x.hi.val)).val ∧ (An (2 * x.hi.val)).val < 1152921504606846976:=by omega
      rw [Fc hb,ih fu _ _ hk1 (by omega) (by omega) (I7 hb) (by show 0 ≤ (An _).val; omega) (by show (An _).val * _ < _; rw [d2,← e2]; exact hh)]
      have hl2:=K2 (An (2 * x.lo.val)) (An (k.val - 1)) K hk1 (by omega) (by omega) (by rw [d1,← e2]; omega)
      have hh2:=K2 (An (2 * x.hi.val)) (An (k.val - 1)) K hk1 (by omega) (by omega) (by rw [d2,← e2]; omega)
      have q1 : Ci .i64 (An (2 * x.lo.val)).val (Ak (An (k.val - 1)).val).val = Ci .i64 x.lo.val (Ak k.val).val:=IK.eq (by rw [hl2,sl,d1,e2])
      have q2 : Ci .i64 (An (2 * x.hi.val)).val (Ak (An (k.val - 1)).val).val = Ci .i64 x.hi.val (Ak k.val).val:=IK.eq (by rw [hh2,sh,d2,e2])
      show C0 (Ci .i64 (An (2 * x.lo.val)).val (Ak (An (k.val - 1)).val).val) (Ci .i64 (An (2 * x.hi.val)).val (Ak (An (k.val - 1)).val).val) = _
      rw [q1,q2]
    · rw [Ts (by omega),nZ K fu _ hk1 (by omega),Ts]
      rw [sh,e2]
      have : 2 * x.hi.val * 1 ≤ 2 * x.hi.val * 2 ^ K:=Int.mul_le_mul_of_nonneg_left (by omega) (by omega)
      omega
theorem qU (fu : Nat) (k : Aq) (x : Iv) (h0 : -100 ≤ k.val) (h1 : k.val < 0) (ho : Am x = true) (hl : 0 ≤ x.lo.val) :
    Gn (fu + 1) k x = C0 (Ck x.lo (Ak (An (0 - k.val)).val).val) (An (0 - (Ck (An (0 - x.hi.val)) (Ak (An (0 - k.val)).val).val).val)):=by
  obtain ⟨b1,b2,b3⟩:=Xi ho
  have ek : (An (0 - k.val)).val = 0 - k.val:=by rw [Ad]; omega
  rw [Zu _ (by omega)]
  have hd : decide (k.val > 0) = false:=decide_eq_false (by omega)
  unfold Gn
  simp only [Ag,hd,Ae,Hw,ho,Bool.not_true]
  have en : (An (0 - x.hi.val)).val = -x.hi.val:=by rw [Ad]; omega
  have hp : (0 : Int) < 2 ^ (min (An (0 - k.val)).val.toNat IntKind.i64.bits):=Int.pow_pos (by decide)
  have s1 : (Ck x.lo (An (0 - k.val)).val).val = x.lo.val / 2 ^ (min (An (0 - k.val)).val.toNat IntKind.i64.bits):=by rw [F2,Int.fdiv_eq_ediv_of_nonneg _ (Int.le_of_lt hp)]
  have s2 : (Ck (An (0 - x.hi.val)) (An (0 - k.val)).val).val = -x.hi.val / 2 ^ (min (An (0 - k.val)).val.toNat IntKind.i64.bits):=by rw [F2,Int.fdiv_eq_ediv_of_nonneg _ (Int.le_of_lt hp),en]
  generalize (2 : Int) ^ (min (An (0 - k.val)).val.toNat IntKind.i64.bits) = p at *
  have q0 : 0 ≤ x.lo.val / p:=Int.ediv_nonneg hl (by omega)
  have q1 : x.lo.val / p ≤ x.hi.val / p:=Int.ediv_le_ediv hp b2
  have i1:=kT (q:=x.hi.val) (b:=p) (L:=0) (U:=x.hi.val) hp (by omega) (by
    have : x.hi.val * 1 ≤ x.hi.val * p:=Int.mul_le_mul_of_nonneg_left (by omega) (by omega)
    omega)
  obtain ⟨_,_,_,i4,i5,_⟩:=i1
  rw [Fc]
  have ew : (An (0 - (Ck (An (0 - x.hi.val)) (An (0 - k.val)).val).val)).val = -(-x.hi.val / p):=by rw [Ad,s2]; omega
  rw [ew,s1]
  omega
theorem Aa6 (x : Iv) (k : Aq) (h0 : -100 ≤ k.val) (h1 : k.val ≤ 29) (ho : Am x = true) (hl : 0 ≤ x.lo.val) (hh : x.hi.val ≤ 8589934593) : Tv x k = Mi x k:=by
  unfold Tv Mi
  by_cases hk : k.val ≥ 0
  · simp only [hk,decide_true,Ai,Ag]
    have b:=Xi ho
    have hp : (2 : Int) ^ k.val.toNat ≤ 536870912:=by
      have : (2 : Nat) ^ k.val.toNat ≤ 2 ^ 29:=Nat.pow_le_pow_right (by decide) (by omega)
      have h3 : ((2 ^ k.val.toNat : Nat) : Int) ≤ ((2 ^ 29 : Nat) : Int):=Int.ofNat_le.2 this
      rw [Int.natCast_pow] at h3
      exact h3
    refine zN k.val.toNat _ k x (by omega) (by omega) (by omega) ho hl ?_
    have a1 : x.hi.val * 2 ^ k.val.toNat ≤ x.hi.val * 536870912:=Int.mul_le_mul_of_nonneg_left hp (by omega)
    omega
  · simp only [hk,decide_false,Ae,Ag]
    exact qU _ k x h0 (by omega) ho hl
theorem yR {p : Iv} {k : Aq} (hp : uD p) (h0 : -100 ≤ k.val) (h1 : k.val ≤ 29) : Tv (Fq p (Ah 1)) k = Mi (Fq p (Ah 1)) k:=by
  obtain ⟨ho,hl,hh⟩:=hp
  have b:=Xi ho
  have hb : -1152921504606846976 < (An (p.lo.val - 1)).val ∧ (An (p.lo.val - 1)).val ≤ (An (p.hi.val + 1)).val ∧ (An (p.hi.val + 1)).val < 1152921504606846976:=by simp only [Ad]; omega
  have e : Fq p (Ah 1) = ⟨An (p.lo.val - 1),An (p.hi.val + 1)⟩:=by
    unfold Fq
    simp only [Ag,ho,Bool.not_true,Ae,A8]
    rw [Fc hb]
  rw [e]
  exact Aa6 _ k h0 h1 (I7 hb) (by show 0 ≤ (An _).val; rw [Ad]; omega) (by show (An _).val ≤ _; rw [Ad]; omega)
theorem n8 (a : Aq) (h1 : -98784247808 ≤ a.val) (h2 : a.val ≤ 85899345920) :
    ∃ q : Aq,An (Int.tdiv (An ((An (2 * a.val)).val + 2977044472)).val 5954088944) = q ∧ -40 ≤ q.val ∧ q.val ≤ 29 ∧ (An (q.val - 1)).val = q.val - 1 ∧
      ((decide ((An ((An (q.val * 2)).val * 2977044472)).val > (An ((An (2 * a.val)).val + 2977044472)).val) = true ∧ decide ((Jl (An ((An (2 * a.val)).val + 2977044472)) 5954088944).val < 0) = true ∧ ((q.val - 1) * 5954088944 ≤ 2 * a.val + 2977044472 ∧ 2 * a.val + 2977044472 < (q.val - 1 + 1) * 5954088944)) ∨
       (decide ((An ((An (q.val * 2)).val * 2977044472)).val > (An ((An (2 * a.val)).val + 2977044472)).val) = false ∧ decide ((Jl (An ((An (2 * a.val)).val + 2977044472)) 5954088944).val < 0) = false ∧ (q.val * 5954088944 ≤ 2 * a.val + 2977044472 ∧ 2 * a.val + 2977044472 < (q.val + 1) * 5954088944))):=by
  have e : (An ((An (2 * a.val)).val + 2977044472)).val = 2 * a.val + 2977044472:=by simp only [Ad]; omega
  have q : -40 ≤ Int.tdiv (2 * a.val + 2977044472) 5954088944 ∧ Int.tdiv (2 * a.val + 2977044472) 5954088944 ≤ 29:=by
    by_cases hs : 0 ≤ 2 * a.val + 2977044472
    · rw [Int.tdiv_eq_ediv_of_nonneg hs]; omega
    · have : Int.tdiv (2 * a.val + 2977044472) 5954088944 = -((-(2 * a.val + 2977044472)) / 5954088944):=by
        rw [← Int.tdiv_eq_ediv_of_nonneg (by omega),Int.neg_tdiv,Int.neg_neg]
      rw [this]; omega
  have m:=Int.tmod_add_mul_tdiv (2 * a.val + 2977044472) 5954088944
  have m1 : 0 ≤ 2 * a.val + 2977044472 → 0 ≤ Int.tmod (2 * a.val + 2977044472) 5954088944:=fun h=>Int.tmod_nonneg _ h
  have m2 : 2 * a.val + 2977044472 ≤ 0 → Int.tmod (2 * a.val + 2977044472) 5954088944 ≤ 0:=fun h=>by
    have:=Int.tmod_nonneg (b:=5954088944) (a:=-(2 * a.val + 2977044472)) (by omega)
    rw [Int.neg_tmod] at this
    omega
  have m3 : -5954088944 < Int.tmod (2 * a.val + 2977044472) 5954088944 ∧ Int.tmod (2 * a.val + 2977044472) 5954088944 < 5954088944:=by
    refine ⟨?_,Int.tmod_lt_of_pos _ (by decide)⟩
    have:=Int.tmod_lt_of_pos (b:=5954088944) (-(2 * a.val + 2977044472)) (by decide)
    rw [Int.neg_tmod] at this
    omega
  have em : (Jl (An ((An (2 * a.val)).val + 2977044472)) 5954088944).val = Int.tmod (2 * a.val + 2977044472) 5954088944:=by rw [Ll,e]
  refine ⟨_,rfl,?_⟩
  rw [em,e]
  generalize Int.tdiv (2 * a.val + 2977044472) 5954088944 = t at *
  generalize Int.tmod (2 * a.val + 2977044472) 5954088944 = r at *
  have et : (An t).val = t:=by rw [Ad]; omega
  rw [et]
  have et1 : (An (t - 1)).val = t - 1:=by rw [Ad]; omega
  have et2 : (An ((An (t * 2)).val * 2977044472)).val = t * 5954088944:=by simp only [Ad]; omega
  rw [et1,et2]
  refine ⟨by omega,by omega,rfl,?_⟩
  by_cases hr : r < 0
  · left
    exact ⟨decide_eq_true (by omega),decide_eq_true hr,by omega,by omega⟩
  · right
    exact ⟨decide_eq_false (by omega),decide_eq_false hr,by omega,by omega⟩
theorem at8 {a : Aq} (h : -1152921504606846976 < a.val ∧ a.val < 1152921504606846976) : Ov a = Ka a:=by
  unfold Ov Ka
  rw [Ag,Fc ⟨h.1,by omega,h.2⟩]
theorem sX {r : Iv} (hr : Abw r) {c1 c2 c3 c4 c5 c6 c7 c8 c9 : Aq} (h : ∀ c : Aq,c = c1 ∨ c = c2 ∨ c = c3 ∨ c = c4 ∨ c = c5 ∨ c = c6 ∨ c = c7 ∨ c = c8 ∨ c = c9 → 1 ≤ c.val ∧ c.val ≤ 100) :
    uD (Bj (Ao (Ah 1)) (A4 (Ay r (Bj (Ao (Ah 1)) (A4 (Ay r (Bj (Ao (Ah 1)) (A4 (Ay r (Bj (Ao (Ah 1)) (A4 (Ay r (Bj (Ao (Ah 1)) (A4 (Ay r (Bj (Ao (Ah 1)) (A4 (Ay r (Bj (Ao (Ah 1)) (A4 (Ay r (Bj (Ao (Ah 1)) (A4 (Ay r (Bj (Ao (Ah 1)) (A4 (Ay r (Ao (Ah 1))) (Ao c1)))) (Ao c2)))) (Ao c3)))) (Ao c4)))) (Ao c5)))) (Ao c6)))) (Ao c7)))) (Ao c8)))) (Ao c9))):=by
  refine Hs hr (Hs hr (Hs hr (Hs hr (Hs hr (Hs hr (Hs hr (Hs hr (Hs hr rS ?_) ?_) ?_) ?_) ?_) ?_) ?_) ?_) ?_ <;> exact h _ (by simp)
theorem tK (a : Aq) : Xb a = M5 a:=by
  unfold Xb M5
  simp only [Ag,Me,Dv,b7,Le,F3,Il,Im,I4,kE,d8]
  cases ho : B7 a with
  | false=>simp only [Bool.not_false,Ai]
  | true=>
    simp only [Bool.not_true,Ae]
    by_cases g1 : a.val > 85899345920
    · rw [decide_eq_true g1,Ai,Ai]
    · by_cases g2 : a.val < -98784247808
      · rw [decide_eq_false g1,Ae,Ae,decide_eq_true g2,Ai,Ai]
      · rw [decide_eq_false g1,Ae,Ae,decide_eq_false g2,Ae,Ae,at8 (by omega)]
        obtain ⟨q,e,q1,q2,q3,h⟩:=n8 a (by omega) (by omega)
        rw [e]
        rcases h with ⟨t1,t2,t3⟩ | ⟨t1,t2,t3⟩
        · rw [t1,t2,Ai,Ai]
          exact yR (sX (kC (k:=An (q.val - 1)) ⟨by omega,by omega⟩ (by rw [q3]; exact t3)) (by intro c hc; rcases hc with rfl | rfl | rfl | rfl | rfl | rfl | rfl | rfl | rfl <;> decide)) (by omega) (by omega)
        · rw [t1,t2,Ae,Ae]
          exact yR (sX (kC (k:=q) ⟨by omega,by omega⟩ t3) (by intro c hc; rcases hc with rfl | rfl | rfl | rfl | rfl | rfl | rfl | rfl | rfl <;> decide)) (by omega) (by omega)
def Wm (e : Aq) (m : Iv) : Iv:=
  Aa (A4 (Cw m (Ao (Ah 1))) (Bj m (Ao (Ah 1)))) fun z=>Aa (I6 z) fun q=>
  Bj (Hk e) (Fq (Ay (Ay (Ao (Ah 2)) z)
    (Bj (C9 (Ah 1) (Ah 1)) (Ay q (Bj (C9 (Ah 1) (Ah 3)) (Ay q (Bj (C9 (Ah 1) (Ah 5)) (Ay q (Bj (C9 (Ah 1) (Ah 7)) (Ay q (Bj (C9 (Ah 1) (Ah 9)) (Ay q (C9 (Ah 1) (Ah 11))))))))))))) (Ah 1))
theorem Wl (fu : Nat) (a e : Aq) (m : Iv) (h : ¬ m.lo.val < 3221225472) : Hj (fu + 1) a e m = Wm e m:=by
  unfold Hj Wm
  simp only [Ag,decide_eq_false h,Ae,d8]
theorem Ajj (a : Aq) (ha : 1 ≤ a.val) : ∀ (fu : Nat) (e : Aq) (m : Iv),-1000 ≤ e.val → e.val ≤ 0 → m = ⟨Ci .i64 a.val (An (0 - e.val)).val,Ci .i64 a.val (An (0 - e.val)).val⟩ → a.val * 2 ^ (0 - e.val).toNat < 6442450944 → (64 + e.val).toNat < fu →
    ∃ q : Aq,F7 fu a e = q ∧ q.val ≤ 0 ∧ -40 ≤ q.val ∧ Hj fu a e m = Wm q ⟨Ci .i64 a.val (An (0 - q.val)).val,Ci .i64 a.val (An (0 - q.val)).val⟩ ∧ (Ci .i64 a.val (An (0 - q.val)).val).val < 6442450944 ∧ 0 ≤ (Ci .i64 a.val (An (0 - q.val)).val).val:=by
  intro fu
  induction fu with
  | zero=>intro e m _ _ _ _ h; exact absurd h (Nat.not_lt_zero _)
  | succ fu ih=>
    intro e m hl he hm hb hf
    have hu:=nQ a e hb ha he
    have hn : (An (0 - e.val)).val = 0 - e.val:=by rw [Ad]; omega
    have hs:=aE a e (An (0 - e.val)) hb ha he hn
    have hp : (0 : Int) ≤ a.val * 2 ^ (0 - e.val).toNat:=Int.mul_nonneg (by omega) (Int.le_of_lt (Int.pow_pos (by decide)))
    have hml : m.lo.val = a.val * 2 ^ (0 - e.val).toNat:=by rw [hm]; exact hs
    by_cases h : m.lo.val < 3221225472
    · have h1 : decide ((Ci .i64 a.val (An (0 - e.val)).val).val < 3221225472) = true:=decide_eq_true (by rw [hs]; omega)
      have e1 : (An (e.val - 1)).val = e.val - 1:=by rw [Ad]; omega
      have e2 : F7 (fu + 1) a e = F7 fu a (An (e.val - 1)):=by
        rw [F7,decide_eq_true he,Ai,h1,Ai]
      have e0 : (An (0 - (An (e.val - 1)).val)).val = 0 - (An (e.val - 1)).val:=by rw [e1,Ad]; omega
      have e3 : Hj (fu + 1) a e m = Hj fu a (An (e.val - 1)) ⟨Ci .i64 a.val (An (0 - (An (e.val - 1)).val)).val,Ci .i64 a.val (An (0 - (An (e.val - 1)).val)).val⟩:=by
        rw [Hj,decide_eq_true h,Ai,Zu (An (0 - (An (e.val - 1)).val)) (by rw [e0,e1]; omega)]
      rw [e2,e3]
      exact ih (An (e.val - 1)) _ (by omega) (by omega) rfl (by rw [e1,iR a.val e.val he]; omega) (by omega)
    · have h1 : decide ((Ci .i64 a.val (An (0 - e.val)).val).val < 3221225472) = false:=decide_eq_false (by rw [hs]; omega)
      refine ⟨e,?_,he,by omega,?_,by rw [hs]; exact hb,by rw [hs]; exact hp⟩
      · rw [F7,decide_eq_true he,Ai,h1,Ae]
      · rw [Wl _ _ _ _ h,hm]
def jU (a e : Aq) : Iv:=bif decide (e.val > 0) then ⟨Ck a e.val,An (0 - (Ck (An (0 - a.val)) e.val).val)⟩ else ⟨Ci .i64 a.val (An (0 - e.val)).val,Ci .i64 a.val (An (0 - e.val)).val⟩
theorem eI (a e : Aq) (h : e.val = 0) : jU a e = ⟨a,a⟩:=by
  unfold jU
  have h0 : decide (e.val > 0) = false:=decide_eq_false (by omega)
  have e0 : (An (0 - e.val)).val = 0:=by rw [Ad,h]; rfl
  have : Ci .i64 a.val 0 = a:=IK.eq (by
    show IntKind.i64.wrap (a.val * 2 ^ 0) = a.val
    rw [Int.pow_zero,Int.mul_one,IntKind.wrap_i64]
    have:=a.lo
    have:=a.hi
    omega)
  rw [h0,Ae,e0,this]
theorem Ad0 (a : Aq) (ha : 1 ≤ a.val) (ha2 : a.val ≤ 1152921504606846976) : ∀ (fu : Nat) (e : Aq) (m : Iv),0 ≤ e.val → e.val ≤ 28 → m = jU a e → (e.val = 0 ∨ 3221225472 ≤ m.lo.val) → (64 - e.val).toNat < fu →
    ∃ q : Aq,Gm fu a e = q ∧ -40 ≤ q.val ∧ q.val ≤ 28 ∧ Iw fu a e m = Wm q (jU a q) ∧ (q.val ≤ 0 → -1152921504606846976 < (Ci .i64 a.val (An (0 - q.val)).val).val ∧ (Ci .i64 a.val (An (0 - q.val)).val).val < 1152921504606846976):=by
  intro fu
  induction fu with
  | zero=>intro e m _ _ _ _ h; exact absurd h (Nat.not_lt_zero _)
  | succ fu ih=>
    intro e m h0 h28 hm hc hf
    have hml : m.lo.val = (Ck a e.val).val:=by
      rw [hm]
      by_cases hz : e.val = 0
      · rw [eI a e hz,hz,Akp]
      · unfold jU
        rw [decide_eq_true (by omega : e.val > 0),Ai]
    by_cases h : m.lo.val ≥ 6442450944
    · have h1 : decide ((Ck a e.val).val ≥ 6442450944) = true:=decide_eq_true (by rw [← hml]; exact h)
      have b:=bO a e m ha2 h0 (by omega) (by rw [Zu e h0]; exact hml) (decide_eq_true h)
      have e1 : (An (e.val + 1)).val = e.val + 1:=by rw [Ad]; omega
      have e2 : Gm (fu + 1) a e = Gm fu a (An (e.val + 1)):=by rw [Gm,h1,Ai]
      have hw:=Zu (An (e.val + 1)) (by omega)
      have e3 : Iw (fu + 1) a e m = Iw fu a (An (e.val + 1)) (jU a (An (e.val + 1))):=by
        rw [Iw,decide_eq_true h,Ai,hw]
        unfold jU
        rw [decide_eq_true (by omega : (An (e.val + 1)).val > 0),Ai]
      rw [e2,e3]
      refine ih (An (e.val + 1)) _ (by omega) (by omega) rfl (.inr ?_) (by omega)
      have b2:=b.2
      rw [hw] at b2
      unfold jU
      rw [decide_eq_true (by omega : (An (e.val + 1)).val > 0),Ai]
      exact b2
    · have h1 : decide ((Ck a e.val).val ≥ 6442450944) = false:=decide_eq_false (by rw [← hml]; exact h)
      have e2 : Gm (fu + 1) a e = F7 ((64 + e.val).toNat + 1) a e:=by rw [Gm,h1,Ae]
      have e3 : Iw (fu + 1) a e m = Hj ((64 + e.val).toNat + 1) a e m:=by rw [Iw,decide_eq_false h,Ae]
      rw [e2,e3]
      by_cases hz : e.val = 0
      · have hma : m.lo.val = a.val:=by rw [hm,eI a e hz]
        have hlt : a.val * 2 ^ (0 - e.val).toNat < 6442450944:=by
          rw [hz]
          show a.val * 2 ^ 0 < _
          rw [Int.pow_zero,Int.mul_one]
          omega
        have hmm : m = ⟨Ci .i64 a.val (An (0 - e.val)).val,Ci .i64 a.val (An (0 - e.val)).val⟩:=by
          rw [hm]
          unfold jU
          rw [decide_eq_false (by omega : ¬ e.val > 0),Ae]
        obtain ⟨q,q1,q2,q3,q4,q5,q6⟩:=Ajj a ha _ e m (by omega) (by omega) hmm hlt (Nat.lt_succ_self _)
        refine ⟨q,q1,q3,by omega,?_,fun _=>by omega⟩
        rw [q4]
        unfold jU
        rw [decide_eq_false (by omega : ¬ q.val > 0),Ae]
      · refine ⟨e,?_,by omega,by omega,?_,fun h=>by omega⟩
        · rw [F7,decide_eq_false (by omega : ¬ e.val ≤ 0),Ae]
        · rw [Wl _ _ _ _ (by omega),hm]
theorem kK (a : Aq) : Ur a = Ra a:=by
  unfold Ur Ra
  simp only [Ag,Me,Dv]
  have hv:=V7 a
  have hi:=Gk a (Ah 1) (Ah 1152921504606846976)
  simp only [A8] at hi
  by_cases h1 : 1 ≤ a.val
  · by_cases h2 : a.val ≤ 1152921504606846976
    · have a0 : decide (a.val ≤ 0) = false:=decide_eq_false (by omega)
      rw [decide_eq_true h1,decide_eq_true h2] at hi
      rw [decide_eq_true (by omega : -1152921504606846976 ≤ a.val),decide_eq_true h2] at hv
      rw [hi,hv]
      simp only [Bool.and_true,Bool.not_true,Ae,a0]
      obtain ⟨q,q1,q2,q3,q4,q5⟩:=Ad0 a h1 h2 ((64 - (Ah 0).val).toNat + 1) (Ah 0) ⟨a,a⟩ (by decide) (by decide) (eI a (Ah 0) (by rw [A8])).symm (.inl (by rw [A8])) (Nat.lt_succ_self _)
      rw [q4]
      unfold Tu
      rw [q1]
      unfold jU Wm
      simp only [Ag,F3,Le,I4,Im,Sd,Yb,Il,b7,kE]
      by_cases hq : q.val > 0
      · rw [decide_eq_true hq]
        simp only [Ai]
      · rw [decide_eq_false hq]
        simp only [Ae]
        have : ∀ n,Ov n = ⟨n,n⟩:=fun n=>rfl
        simp only [this]
    · rw [decide_eq_false h2,Bool.and_false] at hi hv
      rw [hi,hv]
      simp only [Bool.not_false,Ai]
  · have a0 : decide (a.val ≤ 0) = true:=decide_eq_true (by omega)
    rw [decide_eq_false h1,Bool.false_and] at hi
    rw [hi]
    simp only [a0,Bool.not_false,Ai]
    cases B7 a
    · rw [Bool.not_false,Ai]
    · rw [Bool.not_true,Ae]
theorem oZ (x : Iv) (f g : Aq → Iv) (h : Am x = true → f x.lo = g x.lo ∧ f x.hi = g x.hi) :
    (Aa (Dk x) fun r1=>(bif r1 then Aa (B5) fun r2=>r2 else Aa (f x.lo) fun r3=>Aa (f x.hi) fun r4=>Aa (El r3 r4) fun r5=>(bif (!r5) then Aa (B5) fun r6=>r6 else Aa (Ej r3.lo r4.hi true) fun r7=>r7))) =
    (bif (!Am x) then Aw else Lw (g x.lo) (g x.hi)):=by
  unfold Lw
  simp only [Ag,Hw,Dv,Hd,Kj]
  cases ho : Am x with
  | false=>rw [Bool.not_false,Ai,Ai]
  | true=>
    obtain ⟨h1,h2⟩:=h ho
    rw [Bool.not_true,Ae,Ae,h1,h2]
    cases Am (g x.lo)
    · simp only [Bool.false_and,Bool.not_false,Ai]
    · simp only [Bool.true_and,Bool.not_true,Ae]
theorem yV (x : Iv) : bH x = W2 x:=by
  unfold bH W2 Ip
  rw [Ag,oZ x Ur Ra fun _=>⟨kK _,kK _⟩]
  simp only [Ag]
theorem yW (x : Iv) : eX x = eT x:=by
  unfold eX eT Iq
  rw [Ag,oZ x Xb M5 fun _=>⟨tK _,tK _⟩]
  simp only [Ag]
theorem nH (f : Aq → Iv) (n : Aq) (h0 : 0 ≤ n.val) (h1 : n.val < 1152921504606846976) : Q6 n = Kb f n:=by
  unfold Q6 Kb
  simp only [Ag,at8 ⟨by omega,h1⟩,Sd,F3,I4,X9,yV,b7,kK,d8,decide_eq_false (by omega : ¬ n.val < 0),Ae]
theorem tD (n : Aq) (h0 : -1152921504606846976 < n.val) (h1 : n.val < 1152921504606846976) : Er n = Oq n:=by
  unfold Er Oq Hz
  simp only [Ag,Uh]
  by_cases h : n.val < 0
  · have en : (An (0 - n.val)).val = -n.val:=by rw [Ad]; omega
    rw [decide_eq_true h,Ai,nH (Hz 0) (An (0 - n.val)) (by omega) (by omega)]
    rw [show Kb (Hz 1) n = Kl (Hz 1 (An (0 - n.val))) by
      rw [Kb]
      simp only [Ag,decide_eq_true h,Ai]]
    rw [Hz]
  · rw [decide_eq_false h,Ae]
    exact nH _ n (by omega) h1
theorem Abd (x : Iv) : Ys x = Yj x:=by
  unfold Ys Yj Eh
  rw [Ag,oZ x Er Oq fun h=>by
    obtain ⟨h1,h2,h3⟩:=Xi h
    exact ⟨tD _ h1 (by omega),tD _ (by omega) h3⟩]
  simp only [Ag]
theorem Aei (n : Aq) : Uo n = Uk n:=by
  unfold Uo Uk
  simp only [Ag,Tf]
theorem Aen (n : Aq) : Ut n = Ul n:=by
  unfold Ut Ul
  simp only [Ag,Tf]
def dT (a : Iv) : Iv:=Cm (A4 (Uk a.lo) (Ul a.lo)) (A4 (Uk a.hi) (Ul a.hi))
def yJ (k : Aq) : Bool:=(Eo .i64 k.val 1).val == 1
theorem Age (L : List Aq) (a : Iv) (hL : L.length ≤ 4000) : ∀ (fu : Nat) (i : Aq) (y : Iv),0 ≤ i.val → ((L.length : Int) - i.val).toNat < fu → Nb fu L a i y = bif (L.drop i.val.toNat).any yJ then Aw else dT a:=by
  intro fu
  induction fu with
  | zero=>intro i y _ h; exact absurd h (Nat.not_lt_zero _)
  | succ fu ih=>
    intro i y hi hf
    unfold Nb
    by_cases h : i.val < (L.length : Int)
    · have h' : i.val.toNat < L.length:=by omega
      have ei : (An (i.val + 1)).val = i.val + 1:=by rw [Ad]; omega
      have hk : L.drop i.val.toNat = Lb L i :: L.drop (i.val.toNat + 1):=by
        rw [List.drop_eq_getElem_cons h']
        unfold Lb
        simp [List.getD,List.getElem?_eq_getElem h']
      have hn : (An (i.val + 1)).val.toNat = i.val.toNat + 1:=by rw [ei]; omega
      have ih':=fun y=>ih (An (i.val + 1)) y (by omega) (by omega)
      rw [hn] at ih'
      rw [hk,List.any_cons]
      simp only [h,decide_true,Ai,Ag,Dv,ih']
      generalize Lb L i = k
      unfold yJ
      cases ((Eo .i64 k.val 1).val == 1)
      · simp only [Bool.false_or,Ae]
      · simp only [Bool.true_or,Ai]
    · have : L.drop i.val.toNat = []:=List.drop_eq_nil_of_le (by omega)
      rw [this]
      unfold dT
      simp only [h,decide_false,Ae,List.any_nil,Ag,Aei,Aen,Im,Rh]
theorem Ab9 (a : Iv) : ∀ (fu : Nat) (k : Aq) (y : Iv),-1100 ≤ k.val → (2000 - k.val).toNat < fu → O9 fu a k y = bif (Eb fu a k []).any yJ then Aw else dT a:=by
  intro fu
  induction fu with
  | zero=>intro k y _ h; exact absurd h (Nat.not_lt_zero _)
  | succ fu ih=>
    intro k y hk hf
    have qb:=Ef a.hi
    have hw : Cr = Aw:=Eq.trans rfl rfl
    unfold Eb O9
    simp only [Ag,P0,Th,fQ,hw]
    generalize Cl a.hi = q at *
    by_cases h : k.val ≤ (An (q.val + 1)).val
    · have h':=h
      rw [Ad] at h'
      have ek : (An (k.val + 1)).val = k.val + 1:=by rw [Ad]; omega
      have ih':=fun y=>ih (An (k.val + 1)) y (by omega) (by omega)
      simp only [h,decide_true,Ai,ih']
      cases Bx (C5 k) a
      · simp only [Ae]
        cases ((Eo .i64 k.val 1).val == 1)
        · rw [Ae]
        · rw [Ai]
      · simp only [Ai]
        rw [dR a fu (An (k.val + 1)) ([] ++ [k]),List.nil_append,List.any_append,List.any_cons,List.any_nil,Bool.or_false]
        unfold yJ
        cases ((Eo .i64 k.val 1).val == 1)
        · simp only [Bool.false_or,Ae]
        · simp only [Bool.true_or,Ai]
    · unfold dT
      simp only [h,decide_false,Ae,List.any_nil]
theorem Ahi (a : Iv) : lD a = l7 a:=by
  have qb:=Ef a.lo
  unfold lD l7 Pe
  have hw : Cr = Aw:=Eq.trans rfl rfl
  simp only [Ag,d6,P0,Dv,hw]
  cases Lx a
  · simp only [Bool.not_false,Ai]
  · simp only [Bool.not_true,Ae]
    generalize Cl a.lo = q at *
    have ek : (An (q.val - 1)).val = q.val - 1:=by rw [Ad]; omega
    have hl:=m7 a ((2000 - (An (q.val - 1)).val).toNat + 1) (An (q.val - 1))
    rw [Age _ a (by omega) _ _ _ (by rw [A8]; omega) (by rw [A8]; omega)]
    have e0 : (Ah 0).val.toNat = 0:=by rw [A8]; rfl
    rw [e0,List.drop_zero]
    exact (Ab9 a _ _ _ (by omega) (by omega)).symm
theorem Wq (x : Iv) : Gp x = N6 x:=by
  unfold Gp N6
  simp only [Ag,Ahi,Abd]
theorem Ahh (p : Pj) (o n g : Iv) : Kf ⟨p,B8 p.lat1,B8 p.lat2,o,n,g⟩ = Gf p:=by
  unfold Kf Gf
  simp only [Ag,Wr,Uj,I4,tI,yV,Le,Wq,Im]
theorem tC (p : Pj) (b o n g : Iv) : Ht ⟨p,B8 p.lat1,b,o,n,g⟩ = Gz p n:=by
  unfold Ht Gz
  simp only [Ag,Wr,Uj,I4,Sd,kF,Il,yW,Wq,Im]
def Wt (p : Pj) : Cn:=⟨p,B8 p.lat1,B8 p.lat2,B8 p.lat0,Gf p,Gz p (Gf p)⟩
theorem t6 (p : Pj) : (M2 p = true ∧ Mk p = (Wt p,Ah 0)) ∨ (M2 p = false ∧ (Mk p).2 = Ah 1):=by
  unfold Mk M2 As Wt
  simp only [Ag,X7,O5,Mx,Ahh,tC]
  cases Hc p
  · right
    simp only [Bool.not_false,Ai]
    cases Bz p.kind (Ah 10) (Ah 12)
    · exact ⟨Ae _ _,trivial⟩
    · exact ⟨Ai _ _,trivial⟩
  · simp only [Bool.not_true,Ae]
    cases Bz p.kind (Ah 10) (Ah 12)
    · right
      simp only [Bool.not_false,Ai,Ae]
      exact ⟨trivial,trivial⟩
    · left
      simp only [Bool.not_true,Ai,Ae]
      exact ⟨trivial,trivial⟩
theorem yF (x : Iv) : N7 x = Fp x:=by
  unfold N7 Fp
  simp only [Ag,Hw]
end Go.Proofs.YtfhnlkinjbakgaaGreat.Abs
