/- Real numbers from the ground up: classes of Cauchy sequences of rationals; exponential, sine, cosine by their series; arcs, logarithms, directions. -/
namespace Go.Proofs.YtfhnlkinjbakgaaGreat.Rl
set_option linter.unusedVariables false
set_option linter.unusedSimpArgs false
theorem Bd.mul {x y a b : Rat} (h1 : -a ≤ x) (h2 : x ≤ a) (h3 : -b ≤ y) (h4 : y ≤ b) : -(a * b) ≤ x * y ∧ x * y ≤ a * b:=by
  have p1:=Rat.mul_nonneg (show 0 ≤ a - x by grind) (show 0 ≤ b + y by grind)
  have p2:=Rat.mul_nonneg (show 0 ≤ a + x by grind) (show 0 ≤ b - y by grind)
  have p3:=Rat.mul_nonneg (show 0 ≤ a - x by grind) (show 0 ≤ b - y by grind)
  have p4:=Rat.mul_nonneg (show 0 ≤ a + x by grind) (show 0 ≤ b + y by grind)
  constructor <;> grind
structure CS where
  f : Nat → Rat
  c : ∀ e : Rat,0 < e → ∃ N : Nat,∀ m n,N ≤ m → N ≤ n → f m ≤ f n + e
theorem CS.bd (a : CS) : ∃ B : Rat,0 < B ∧ ∃ N : Nat,∀ n,N ≤ n → -B ≤ a.f n ∧ a.f n ≤ B:=by
  obtain ⟨N,h⟩:=a.c 1 (by decide)
  refine ⟨1 + (if 0 ≤ a.f N then a.f N else - a.f N) ,by split <;> grind,N,fun n hn=>?_⟩
  have h1:=h n N hn (Nat.le_refl _)
  have h2:=h N n (Nat.le_refl _) hn
  split <;> grind
def CS.add (a b : CS) : CS:=⟨fun n=>a.f n + b.f n,fun e he=>by
  obtain ⟨N,h⟩:=a.c (e/2) (by grind)
  obtain ⟨M,k⟩:=b.c (e/2) (by grind)
  refine ⟨max N M,fun m n hm hn=>?_⟩
  have:=h m n (by omega) (by omega)
  have:=k m n (by omega) (by omega)
  grind⟩
def CS.neg (a : CS) : CS:=⟨fun n=>- a.f n,fun e he=>by
  obtain ⟨N,h⟩:=a.c e he
  refine ⟨N,fun m n hm hn=>?_⟩
  have:=h n m hn hm
  grind⟩
def CS.sub (a b : CS) : CS:=⟨fun n=>a.f n - b.f n,fun e he=>by
  obtain ⟨N,h⟩:=a.c (e/2) (by grind)
  obtain ⟨M,k⟩:=b.c (e/2) (by grind)
  refine ⟨max N M,fun m n hm hn=>?_⟩
  have:=h m n (by omega) (by omega)
  have:=k n m (by omega) (by omega)
  grind⟩
theorem Ri {a b : Rat} (ha : 0 < a) (hb : 0 < b) : 0 < a / b:=by
  rw [Rat.div_def]; exact Rat.mul_pos ha (Rat.inv_pos.2 hb)
def CS.mul (a b : CS) : CS:=⟨fun n=>a.f n * b.f n,fun e he=>by
  obtain ⟨A,hA,NA,ha⟩:=a.bd
  obtain ⟨B,hB,NB,hb⟩:=b.bd
  have hAB : 0 < 2 * (A + B):=by grind
  have h0:=Ri he hAB
  have hx : e / (2 * (A + B)) * (A + B) = e / 2:=by grind
  generalize e / (2 * (A + B)) = x at *
  obtain ⟨N,h⟩:=a.c x h0
  obtain ⟨M,k⟩:=b.c x h0
  refine ⟨max (max N M) (max NA NB),fun m n hm hn=>?_⟩
  have h1:=h m n (by omega) (by omega)
  have h2:=h n m (by omega) (by omega)
  have k1:=k m n (by omega) (by omega)
  have k2:=k n m (by omega) (by omega)
  have a1:=ha n (by omega)
  have b1:=hb m (by omega)
  have p1:=Bd.mul (x:=a.f m - a.f n) (a:=x) (by grind) (by grind) b1.1 b1.2
  have p2:=Bd.mul (x:=b.f m - b.f n) (a:=x) (by grind) (by grind) a1.1 a1.2
  grind⟩
def CS.q (r : Rat) : CS:=⟨fun _=>r,fun e he=>⟨0,fun _ _ _ _=>by grind⟩⟩
def CS.le (a b : CS) : Prop:=∀ e : Rat,0 < e → ∃ N : Nat,∀ n,N ≤ n → a.f n ≤ b.f n + e
theorem CS.le_refl (a : CS) : a.le a:=fun e he=>⟨0,fun n _=>by grind⟩
theorem CS.le_trans {a b c : CS} (h : a.le b) (k : b.le c) : a.le c:=fun e he=>by
  obtain ⟨N,h⟩:=h (e/2) (by grind)
  obtain ⟨M,k⟩:=k (e/2) (by grind)
  refine ⟨max N M,fun n hn=>?_⟩
  have:=h n (by omega)
  have:=k n (by omega)
  grind
theorem CS.le_total (a b : CS) : a.le b ∨ b.le a:=by
  by_cases h : a.le b
  · exact Or.inl h
  · right
    have : ∃ e : Rat,0 < e ∧ ∀ N : Nat,∃ n,N ≤ n ∧ ¬ a.f n ≤ b.f n + e:=by
      refine Classical.byContradiction fun hn=>h fun e he=>Classical.byContradiction fun h2=>hn ⟨e,he,fun N=>Classical.byContradiction fun h3=>h2 ⟨N,fun n hn=>Classical.byContradiction fun h4=>h3 ⟨n,hn,h4⟩⟩⟩
    obtain ⟨e,he,H⟩:=this
    obtain ⟨N,h⟩:=a.c (e/2) (by grind)
    obtain ⟨M,k⟩:=b.c (e/2) (by grind)
    obtain ⟨n,hn,h1⟩:=H (max N M)
    intro d hd
    refine ⟨max N M,fun m hm=>?_⟩
    have:=h n m (by omega) (by omega)
    have:=k m n (by omega) (by omega)
    grind
instance stR : Setoid CS:=⟨fun a b=>a.le b ∧ b.le a,fun a=>⟨a.le_refl,a.le_refl⟩,fun h=>⟨h.2,h.1⟩,fun h k=>⟨CS.le_trans h.1 k.1,CS.le_trans k.2 h.2⟩⟩
def R:=Quotient stR
def mk (a : CS) : R:=Quotient.mk stR a
theorem Dm {P : R → Prop} (h : ∀ a,P (mk a)) (x : R) : P x:=Quotient.ind h x
theorem pt {a b : CS} (h : ∀ n,a.f n = b.f n) : mk a = mk b:=by
  have : a = b:=by cases a; cases b; congr; exact funext h
  rw [this]
theorem CS.add_le {a b c d : CS} (h : a.le c) (k : b.le d) : (a.add b).le (c.add d):=fun e he=>by
  obtain ⟨N,h⟩:=h (e/2) (by grind)
  obtain ⟨M,k⟩:=k (e/2) (by grind)
  refine ⟨max N M,fun n hn=>?_⟩
  have:=h n (by omega)
  have:=k n (by omega)
  show a.f n + b.f n ≤ c.f n + d.f n + e
  grind
theorem CS.neg_le {a b : CS} (h : a.le b) : b.neg.le a.neg:=fun e he=>by
  obtain ⟨N,h⟩:=h e he
  refine ⟨N,fun n hn=>?_⟩
  have:=h n hn
  show - b.f n ≤ - a.f n + e
  grind
theorem CS.sub_le {a b c d : CS} (h : a.le c) (k : d.le b) : (a.sub b).le (c.sub d):=fun e he=>by
  obtain ⟨N,h⟩:=h (e/2) (by grind)
  obtain ⟨M,k⟩:=k (e/2) (by grind)
  refine ⟨max N M,fun n hn=>?_⟩
  have:=h n (by omega)
  have:=k n (by omega)
  show a.f n - b.f n ≤ c.f n - d.f n + e
  grind
theorem CS.mul_cong {a b c : CS} (h : a.le c ∧ c.le a) : (a.mul b).le (c.mul b):=fun e he=>by
  obtain ⟨B,hB,NB,hb⟩:=b.bd
  have h0:=Ri he hB
  have hx : e / B * B = e:=by grind
  generalize e / B = x at *
  obtain ⟨N,h1⟩:=h.1 x h0
  obtain ⟨M,h2⟩:=h.2 x h0
  refine ⟨max NB (max N M),fun n hn=>?_⟩
  have h1:=h1 n (by omega)
  have h2:=h2 n (by omega)
  have b1:=hb n (by omega)
  have p1:=Bd.mul (x:=a.f n - c.f n) (a:=x) (by grind) (by grind) b1.1 b1.2
  show a.f n * b.f n ≤ c.f n * b.f n + e
  grind
theorem CS.mul_comm_le (a b : CS) : (a.mul b).le (b.mul a):=fun e he=>⟨0,fun n _=>by
  show a.f n * b.f n ≤ b.f n * a.f n + e
  grind⟩
theorem CS.mul_both {a b c d : CS} (h : a.le c ∧ c.le a) (k : b.le d ∧ d.le b) : (a.mul b).le (c.mul d) ∧ (c.mul d).le (a.mul b):=
  ⟨CS.le_trans (CS.mul_cong h) (CS.le_trans (CS.mul_comm_le c b) (CS.le_trans (CS.mul_cong k) (CS.mul_comm_le d c))),
   CS.le_trans (CS.mul_cong ⟨h.2,h.1⟩) (CS.le_trans (CS.mul_comm_le a d) (CS.le_trans (CS.mul_cong ⟨k.2,k.1⟩) (CS.mul_comm_le b a)))⟩
def R.add : R → R → R:=Quotient.lift₂ (fun a b=>mk (a.add b)) fun a b c d h k=>Quotient.sound ⟨CS.add_le h.1 k.1,CS.add_le h.2 k.2⟩
def R.sub : R → R → R:=Quotient.lift₂ (fun a b=>mk (a.sub b)) fun a b c d h k=>Quotient.sound ⟨CS.sub_le h.1 k.2,CS.sub_le h.2 k.1⟩
def R.neg : R → R:=Quotient.lift (fun a=>mk a.neg) fun a b h=>Quotient.sound ⟨CS.neg_le h.2,CS.neg_le h.1⟩
def R.mul : R → R → R:=Quotient.lift₂ (fun a b=>mk (a.mul b)) fun a b c d h k=>Quotient.sound (CS.mul_both h k)
def R.le : R → R → Prop:=Quotient.lift₂ (fun a b=>a.le b) fun a b c d h k=>propext ⟨fun x=>CS.le_trans h.2 (CS.le_trans x k.1),fun x=>CS.le_trans h.1 (CS.le_trans x k.2)⟩
instance iA : Add R:=⟨R.add⟩
instance iS : Sub R:=⟨R.sub⟩
instance iN : Neg R:=⟨R.neg⟩
instance iM : Mul R:=⟨R.mul⟩
instance iL : LE R:=⟨R.le⟩
instance iT : LT R:=⟨fun x y=>¬ y ≤ x⟩
def q (r : Rat) : R:=mk (CS.q r)
theorem L3 (a b : Rat) : q (a + b) = q a + q b:=rfl
theorem Ac3 (a b : Rat) : q (a - b) = q a - q b:=rfl
theorem Ii (a : Rat) : q (-a) = -q a:=rfl
theorem Ez (a b : Rat) : q (a * b) = q a * q b:=rfl
theorem Dd {a b : Rat} : q a ≤ q b ↔ a ≤ b:=⟨fun h=>by
  refine Rat.not_lt.1 fun hn=>?_
  obtain ⟨N,h⟩:=(h : (CS.q a).le (CS.q b)) ((a - b) / 2) (by grind)
  have : a ≤ b + (a - b) / 2:=h N (Nat.le_refl _)
  grind,fun h e he=>⟨0,fun n _=>by show a ≤ b + e; grind⟩⟩
theorem le_refl (x : R) : x ≤ x:=Dm (P:=fun x=>x ≤ x) (fun a=>a.le_refl) x
theorem le_trans {x y z : R} : x ≤ y → y ≤ z → x ≤ z:=
  Dm (P:=fun x=>x ≤ y → y ≤ z → x ≤ z) (fun a=>Dm (P:=fun y=>mk a ≤ y → y ≤ z → mk a ≤ z) (fun b=>Dm (P:=fun z=>mk a ≤ mk b → mk b ≤ z → mk a ≤ z) (fun c=>CS.le_trans) z) y) x
theorem Cs {x y : R} : x ≤ y → y ≤ x → x = y:=
  Dm (P:=fun x=>x ≤ y → y ≤ x → x = y) (fun a=>Dm (P:=fun y=>mk a ≤ y → y ≤ mk a → mk a = y) (fun b h k=>Quotient.sound ⟨h,k⟩) y) x
theorem le_total (x y : R) : x ≤ y ∨ y ≤ x:=
  Dm (P:=fun x=>x ≤ y ∨ y ≤ x) (fun a=>Dm (P:=fun y=>mk a ≤ y ∨ y ≤ mk a) (fun b=>CS.le_total a b) y) x
theorem Gw {P : R → R → Prop} (h : ∀ a b,P (mk a) (mk b)) (x y : R) : P x y:=Dm (P:=fun x=>P x y) (fun a=>Dm (P:=fun y=>P (mk a) y) (fun b=>h a b) y) x
theorem Mw {P : R → R → R → Prop} (h : ∀ a b c,P (mk a) (mk b) (mk c)) (x y z : R) : P x y z:=Gw (P:=fun x y=>P x y z) (fun a b=>Dm (P:=fun z=>P (mk a) (mk b) z) (fun c=>h a b c) z) x y
theorem Mv {P : R → R → R → R → Prop} (h : ∀ a b c d,P (mk a) (mk b) (mk c) (mk d)) (x y z u : R) : P x y z u:=Mw (P:=fun x y z=>P x y z u) (fun a b c=>Dm (P:=fun u=>P (mk a) (mk b) (mk c) u) (fun d=>h a b c d) u) x y z
theorem add_comm : ∀ x y : R,x + y = y + x:=Gw fun a b=>pt fun n=>by show a.f n + b.f n = b.f n + a.f n; grind
theorem add_assoc : ∀ x y z : R,x + y + z = x + (y + z):=Mw fun a b c=>pt fun n=>by show a.f n + b.f n + c.f n = a.f n + (b.f n + c.f n); grind
theorem mul_comm : ∀ x y : R,x * y = y * x:=Gw fun a b=>pt fun n=>by show a.f n * b.f n = b.f n * a.f n; grind
theorem mul_assoc : ∀ x y z : R,x * y * z = x * (y * z):=Mw fun a b c=>pt fun n=>by show a.f n * b.f n * c.f n = a.f n * (b.f n * c.f n); grind
theorem mul_add : ∀ x y z : R,x * (y + z) = x * y + x * z:=Mw fun a b c=>pt fun n=>by show a.f n * (b.f n + c.f n) = a.f n * b.f n + a.f n * c.f n; grind
theorem zero_add : ∀ x : R,q 0 + x = x:=Dm fun a=>pt fun n=>by show 0 + a.f n = a.f n; grind
theorem one_mul : ∀ x : R,q 1 * x = x:=Dm fun a=>pt fun n=>by show 1 * a.f n = a.f n; grind
theorem zero_mul : ∀ x : R,q 0 * x = q 0:=Dm fun a=>pt fun n=>by show 0 * a.f n = 0; grind
theorem sub_self : ∀ x : R,x - x = q 0:=Dm fun a=>pt fun n=>by show a.f n - a.f n = 0; grind
theorem mS : ∀ {x y : R},x ≤ y ↔ q 0 ≤ y - x:=fun {x y}=>Gw (P:=fun x y=>x ≤ y ↔ q 0 ≤ y - x) (fun a b=>⟨fun h e he=>by
    obtain ⟨N,h⟩:=(h : a.le b) e he
    refine ⟨N,fun n hn=>?_⟩
    have:=h n hn
    show 0 ≤ b.f n - a.f n + e
    grind,fun h e he=>by
    obtain ⟨N,h⟩:=(h : (CS.q 0).le (b.sub a)) e he
    refine ⟨N,fun n hn=>?_⟩
    have : 0 ≤ b.f n - a.f n + e:=h n hn
    grind⟩) x y
theorem Jm {x y : R} : q 0 ≤ x → q 0 ≤ y → q 0 ≤ x + y:=Gw (P:=fun x y=>q 0 ≤ x → q 0 ≤ y → q 0 ≤ x + y) (fun a b h k e he=>by
    obtain ⟨N,h⟩:=(h : (CS.q 0).le a) (e/2) (by grind)
    obtain ⟨M,k⟩:=(k : (CS.q 0).le b) (e/2) (by grind)
    refine ⟨max N M,fun n hn=>?_⟩
    have : 0 ≤ a.f n + e / 2:=h n (by omega)
    have : 0 ≤ b.f n + e / 2:=k n (by omega)
    show 0 ≤ a.f n + b.f n + e
    grind) x y
theorem mul_nonneg {x y : R} : q 0 ≤ x → q 0 ≤ y → q 0 ≤ x * y:=Gw (P:=fun x y=>q 0 ≤ x → q 0 ≤ y → q 0 ≤ x * y) (fun a b h k e he=>by
    obtain ⟨A,hA,NA,ha⟩:=a.bd
    obtain ⟨B,hB,NB,hb⟩:=b.bd
    have hAB : 0 < A + B + 1 + e:=by grind
    have h0:=Ri he hAB
    have hx : e / (A + B + 1 + e) * (A + B + 1 + e) = e:=by grind
    have h1x : e / (A + B + 1 + e) ≤ 1:=by
      refine Rat.not_lt.1 fun hn=>?_
      have:=Rat.mul_pos (show 0 < e / (A + B + 1 + e) - 1 by grind) hAB
      grind
    generalize e / (A + B + 1 + e) = d at *
    obtain ⟨N,h⟩:=(h : (CS.q 0).le a) d h0
    obtain ⟨M,k⟩:=(k : (CS.q 0).le b) d h0
    refine ⟨max (max NA NB) (max N M),fun n hn=>?_⟩
    have h2 : 0 ≤ a.f n + d:=h n (by omega)
    have h3 : 0 ≤ b.f n + d:=k n (by omega)
    have p:=Rat.mul_nonneg h2 h3
    have p2:=Rat.mul_nonneg (show 0 ≤ d by grind) (show 0 ≤ A - a.f n by have:=ha n (by omega); grind)
    have p3:=Rat.mul_nonneg (show 0 ≤ d by grind) (show 0 ≤ B - b.f n by have:=hb n (by omega); grind)
    have p4:=Rat.mul_nonneg (show 0 ≤ d by grind) (show 0 ≤ 1 - d by grind)
    have p5:=Rat.mul_nonneg (show 0 ≤ d by grind) (show 0 ≤ A by grind)
    have p6:=Rat.mul_nonneg (show 0 ≤ e by grind) (show 0 ≤ d by grind)
    show 0 ≤ a.f n * b.f n + e
    clear ha hb h k h1x hAB hn
    grind) x y
theorem Xl {a b u v : CS} (h1 : a.le b) (H : ∀ n (e : Rat),0 < e → a.f n ≤ b.f n + e → u.f n ≤ v.f n + 8 * e) : u.le v:=fun e he=>by
  obtain ⟨N,h1⟩:=h1 (e / 8) (by grind)
  exact ⟨N,fun n hn=>by have:=H n (e / 8) (by grind) (h1 n hn); grind⟩
theorem Xk {a b c d u v : CS} (h1 : a.le b) (h2 : c.le d) (H : ∀ n (e : Rat),0 < e → a.f n ≤ b.f n + e → c.f n ≤ d.f n + e → u.f n ≤ v.f n + 8 * e) : u.le v:=fun e he=>by
  obtain ⟨N,h1⟩:=h1 (e / 8) (by grind)
  obtain ⟨M,h2⟩:=h2 (e / 8) (by grind)
  exact ⟨N + M,fun n hn=>by have:=H n (e / 8) (by grind) (h1 n (by omega)) (h2 n (by omega)); grind⟩
theorem Ad3 {a b c d p r u v : CS} (h1 : a.le b) (h2 : c.le d) (h3 : p.le r) (H : ∀ n (e : Rat),0 < e → a.f n ≤ b.f n + e → c.f n ≤ d.f n + e → p.f n ≤ r.f n + e → u.f n ≤ v.f n + 8 * e) : u.le v:=fun e he=>by
  obtain ⟨N,h1⟩:=h1 (e / 8) (by grind)
  obtain ⟨M,h2⟩:=h2 (e / 8) (by grind)
  obtain ⟨L,h3⟩:=h3 (e / 8) (by grind)
  exact ⟨N + M + L,fun n hn=>by have:=H n (e / 8) (by grind) (h1 n (by omega)) (h2 n (by omega)) (h3 n (by omega)); grind⟩
theorem Ir {x y : R} (h : x ≤ y) : q 0 ≤ y - x:=mS.1 h
theorem J0 {x y : R} (h : q 0 ≤ y - x) : x ≤ y:=mS.2 h
theorem Bc : ∀ {x y z u : R},x ≤ y → z ≤ u → x + z ≤ y + u:=fun {x y z u}=>Mv (P:=fun x y z u=>x ≤ y → z ≤ u → x + z ≤ y + u) (fun a b c d h k=>Xk h k fun n e he p1 p2=>by show a.f n + c.f n ≤ b.f n + d.f n + _; grind) x y z u
theorem Du : ∀ {x y z u : R},x ≤ y → z ≤ u → x - u ≤ y - z:=fun {x y z u}=>Mv (P:=fun x y z u=>x ≤ y → z ≤ u → x - u ≤ y - z) (fun a b c d h k=>Xk h k fun n e he p1 p2=>by show a.f n - d.f n ≤ b.f n - c.f n + _; grind) x y z u
theorem Bw : ∀ {x y : R},x ≤ y → -y ≤ -x:=fun {x y}=>Gw (P:=fun x y=>x ≤ y → -y ≤ -x) (fun a b h=>Xl h fun n e he p1=>by show - b.f n ≤ - a.f n + _; grind) x y
theorem Qo : ∀ {x y z : R},x + z ≤ y → x ≤ y - z:=fun {x y z}=>Mw (P:=fun x y z=>x + z ≤ y → x ≤ y - z) (fun a b c h=>Xl h fun n e he p1=>by
  replace p1 : a.f n + c.f n ≤ b.f n + e:=p1
  show a.f n ≤ b.f n - c.f n + _; grind) x y z
theorem Oy : ∀ {x y z : R},x ≤ y + z → x - z ≤ y:=fun {x y z}=>Mw (P:=fun x y z=>x ≤ y + z → x - z ≤ y) (fun a b c h=>Xl h fun n e he p1=>by
  replace p1 : a.f n ≤ b.f n + c.f n + e:=p1
  show a.f n - c.f n ≤ b.f n + _; grind) x y z
theorem Vp : ∀ {x y z : R},x ≤ y - z → x + z ≤ y:=fun {x y z}=>Mw (P:=fun x y z=>x ≤ y - z → x + z ≤ y) (fun a b c h=>Xl h fun n e he p1=>by
  replace p1 : a.f n ≤ b.f n - c.f n + e:=p1
  show a.f n + c.f n ≤ b.f n + _; grind) x y z
theorem Vk : ∀ {x y z : R},x - z ≤ y → x ≤ y + z:=fun {x y z}=>Mw (P:=fun x y z=>x - z ≤ y → x ≤ y + z) (fun a b c h=>Xl h fun n e he p1=>by
  replace p1 : a.f n - c.f n ≤ b.f n + e:=p1
  show a.f n ≤ b.f n + c.f n + _; grind) x y z
theorem add_zero (x : R) : x + q 0 = x:=by rw [add_comm,zero_add]
theorem mul_one (x : R) : x * q 1 = x:=by rw [mul_comm,one_mul]
theorem mul_zero (x : R) : x * q 0 = q 0:=by rw [mul_comm,zero_mul]
theorem add_mul (x y z : R) : (x + y) * z = x * z + y * z:=by rw [mul_comm,mul_add,mul_comm z x,mul_comm z y]
theorem sub_zero : ∀ x : R,x - q 0 = x:=Dm fun a=>pt fun n=>by show a.f n - 0 = a.f n; grind
theorem Xm : ∀ x : R,q 0 - x = -x:=Dm fun a=>pt fun n=>by show 0 - a.f n = -a.f n; grind
theorem neg_neg : ∀ x : R,- -x = x:=Dm fun a=>pt fun n=>by show - -a.f n = a.f n; grind
theorem neg_mul : ∀ x y : R,-x * y = -(x * y):=Gw fun a b=>pt fun n=>by show -a.f n * b.f n = -(a.f n * b.f n); grind
theorem mul_neg : ∀ x y : R,x * -y = -(x * y):=Gw fun a b=>pt fun n=>by show a.f n * -b.f n = -(a.f n * b.f n); grind
theorem sub_mul : ∀ x y z : R,(x - y) * z = x * z - y * z:=Mw fun a b c=>pt fun n=>by show (a.f n - b.f n) * c.f n = a.f n * c.f n - b.f n * c.f n; grind
theorem yA : ∀ x y z : R,x * (y - z) = x * y - x * z:=Mw fun a b c=>pt fun n=>by show a.f n * (b.f n - c.f n) = a.f n * b.f n - a.f n * c.f n; grind
theorem C7 : ∀ x y : R,x - y + y = x:=Gw fun a b=>pt fun n=>by show a.f n - b.f n + b.f n = a.f n; grind
theorem add_sub_cancel : ∀ x y : R,x + y - y = x:=Gw fun a b=>pt fun n=>by show a.f n + b.f n - b.f n = a.f n; grind
theorem L4 : ∀ x y : R,-(x + y) = -x - y:=Gw fun a b=>pt fun n=>by show -(a.f n + b.f n) = -a.f n - b.f n; grind
theorem J9 : ∀ x y : R,-(x - y) = y - x:=Gw fun a b=>pt fun n=>by show -(a.f n - b.f n) = b.f n - a.f n; grind
theorem J5 : ∀ x y : R,x - -y = x + y:=Gw fun a b=>pt fun n=>by show a.f n - -b.f n = a.f n + b.f n; grind
theorem Ev : ∀ x y : R,x + -y = x - y:=Gw fun a b=>pt fun n=>by show a.f n + -b.f n = a.f n - b.f n; grind
theorem Ga (x y z : R) : x * (y * z) = y * (x * z):=by rw [← mul_assoc,mul_comm x y,mul_assoc]
theorem B6 {x y z : R} (h : x ≤ y) (hz : q 0 ≤ z) : x * z ≤ y * z:=J0 (by rw [← sub_mul]; exact mul_nonneg (Ir h) hz)
theorem Ba {x y z : R} (h : x ≤ y) (hz : q 0 ≤ z) : z * x ≤ z * y:=by rw [mul_comm z x,mul_comm z y]; exact B6 h hz
theorem Fo {x : R} (h : x ≤ q 0) : q 0 ≤ -x:=by have:=Bw h; rwa [show -q 0 = q 0 from by rw [← Ii]; rfl] at this
theorem Iu {x : R} (h : q 0 ≤ x) : -x ≤ q 0:=by have:=Bw h; rwa [show -q 0 = q 0 from by rw [← Ii]; rfl] at this
theorem D3 (x : R) : q 0 ≤ x * x:=by
  rcases le_total (q 0) x with h | h
  · exact mul_nonneg h h
  · have:=mul_nonneg (Fo h) (Fo h)
    rwa [neg_mul,mul_neg,neg_neg] at this
theorem eps {x y : R} : (∀ e : Rat,0 < e → x ≤ y + q e) → x ≤ y:=Gw (P:=fun x y=>(∀ e : Rat,0 < e → x ≤ y + q e) → x ≤ y) (fun a b h e he=>by
  obtain ⟨N,k⟩:=(h (e/2) (by grind) : a.le (b.add (CS.q (e/2)))) (e/2) (by grind)
  exact ⟨N,fun n hn=>by have : a.f n ≤ b.f n + e/2 + e/2:=k n hn; grind⟩) x y
theorem Abl (x : R) : ∃ n : Nat,x ≤ q n ∧ -q n ≤ x:=Dm (P:=fun x=>∃ n : Nat,x ≤ q n ∧ -q n ≤ x) (fun a=>by
  obtain ⟨B,hB,N,h⟩:=a.bd
  have hc : ∃ n : Nat,B ≤ n:=⟨B.ceil.toNat,by
    have h1:=Rat.le_ceil (x:=B)
    have h2 : (B.ceil : Rat) ≤ ((B.ceil.toNat : Int) : Rat):=Rat.intCast_le_intCast.2 (by omega)
    exact Rat.le_trans h1 h2⟩
  obtain ⟨n,hn⟩:=hc
  refine ⟨n,fun e he=>⟨N,fun m hm=>?_⟩,fun e he=>⟨N,fun m hm=>?_⟩⟩
  · have:=h m hm
    show a.f m ≤ (n : Rat) + e
    grind
  · have:=h m hm
    show -(n : Rat) ≤ a.f m + e
    grind) x
theorem e6 {x : R} : q 0 < x → ∃ e : Rat,0 < e ∧ q e ≤ x:=fun h=>Classical.byContradiction fun hn=>h (eps fun e he=>by
  rcases le_total (q e) x with k | k
  · exact absurd ⟨e,he,k⟩ hn
  · rw [zero_add]; exact k)
theorem Aii {x y : R} (h : x < y) : ∃ e : Rat,0 < e ∧ x + q e ≤ y:=by
  obtain ⟨e,he,k⟩:=e6 (x:=y - x) (fun k=>h (by have:=Vk k; rwa [zero_add] at this))
  exact ⟨e,he,by rw [add_comm]; exact Vp k⟩
theorem le_of_lt {x y : R} (h : x < y) : x ≤ y:=by
  rcases le_total x y with k | k
  · exact k
  · exact absurd k h
theorem lt_of_lt_of_le {x y z : R} (h : x < y) (k : y ≤ z) : x < z:=fun c=>h (le_trans k c)
theorem Kw {x y z : R} (h : x ≤ y) (k : y < z) : x < z:=fun c=>k (le_trans c h)
theorem not_lt {x y : R} : ¬ x < y ↔ y ≤ x:=⟨fun h=>Classical.byContradiction fun k=>h k,fun h k=>k h⟩
theorem not_le {x y : R} : ¬ x ≤ y ↔ y < x:=Iff.rfl
theorem Adw (x y : R) : x < y ∨ y ≤ x:=by
  by_cases h : y ≤ x
  · exact Or.inr h
  · exact Or.inl h
theorem Qb {a b : Rat} : q a < q b ↔ a < b:=⟨fun h=>Rat.not_le.1 fun k=>h (Dd.2 k),fun h k=>Rat.not_le.2 h (Dd.1 k)⟩
theorem Aih {x : R} {e : Rat} (he : 0 < e) (h : q e ≤ x) : q 0 < x:=lt_of_lt_of_le (Qb.2 he) h
theorem mul_pos {x y : R} (h : q 0 < x) (k : q 0 < y) : q 0 < x * y:=by
  obtain ⟨a,ha,h⟩:=e6 h
  obtain ⟨b,hb,k⟩:=e6 k
  refine Aih (Rat.mul_pos ha hb) ?_
  rw [Ez]
  exact le_trans (B6 h (Dd.2 (by grind))) (Ba k (le_trans (Dd.2 (by grind)) h))
theorem Jv {x y : R} (h : q 0 < x) (k : q 0 ≤ y) : q 0 < x + y:=by
  obtain ⟨a,ha,h⟩:=e6 h
  refine Aih ha ?_
  have:=Bc h k
  rwa [add_zero] at this
theorem Oi {x y : R} (h : q 0 < x * y) (k : q 0 ≤ y) : q 0 < x:=fun c=>h (by
  have:=B6 c k
  rwa [zero_mul] at this)
theorem Fa {x y z : R} (h : x * z ≤ y * z) (hz : q 0 < z) : x ≤ y:=Classical.byContradiction fun c=>by
  have c' : q 0 < x - y:=fun k=>c (by have:=Vk k; rwa [zero_add] at this)
  have:=mul_pos c' hz
  rw [sub_mul] at this
  exact this (Oy (by rw [zero_add]; exact h))
theorem Kz {x y z : R} (h : x * z = y * z) (hz : q 0 < z) : x = y:=Cs (Fa (h ▸ le_refl _) hz) (Fa (h ▸ le_refl _) hz)
theorem Aij {x : R} {e : Rat} (he : 0 < e) : q e ≤ x → ∃ y,x * y = q 1 ∧ q 0 ≤ y ∧ y ≤ q (2 / e):=Dm (P:=fun x=>q e ≤ x → ∃ y,x * y = q 1 ∧ q 0 ≤ y ∧ y ≤ q (2 / e)) (fun a h=>by
  obtain ⟨N,h⟩:=(h : (CS.q e).le a) (e/2) (by grind)
  have h : ∀ n,N ≤ n → e / 2 ≤ a.f n:=fun n hn=>by have : e ≤ a.f n + e / 2:=h n hn; grind
  have hi : ∀ n,N ≤ n → a.f n * (a.f n)⁻¹ = 1:=fun n hn=>Rat.mul_inv_cancel _ (by have:=h n hn; grind)
  have hp : ∀ n,N ≤ n → 0 < (a.f n)⁻¹:=fun n hn=>Rat.inv_pos.2 (by have:=h n hn; grind)
  have he2 : 2 / e * e = 2:=by grind
  have hu : ∀ n,N ≤ n → (a.f n)⁻¹ ≤ 2 / e:=fun n hn=>by
    have h1:=hi n hn
    have h2:=hp n hn
    have h3:=h n hn
    refine Rat.not_lt.1 fun c=>?_
    have p:=Rat.mul_pos (show 0 < (a.f n)⁻¹ - 2 / e by grind) he
    have p2:=Rat.mul_nonneg (show 0 ≤ (a.f n)⁻¹ by grind) (show 0 ≤ a.f n - e / 2 by grind)
    grind
  refine ⟨mk ⟨fun n=>(a.f n)⁻¹,fun d hd=>?_⟩,?_,fun d hd=>⟨N,fun n hn=>?_⟩,fun d hd=>⟨N,fun n hn=>?_⟩⟩
  · have hq : 0 < 2 / e:=Ri (by decide) he
    have hqq:=Rat.mul_pos hq hq
    have h0:=Ri hd hqq
    have hx : d / (2 / e * (2 / e)) * (2 / e * (2 / e)) = d:=by grind
    generalize d / (2 / e * (2 / e)) = x at *
    obtain ⟨M,k⟩:=a.c x h0
    refine ⟨max N M,fun m n hm hn=>?_⟩
    have k1:=k m n (by omega) (by omega)
    have k2:=k n m (by omega) (by omega)
    have i1:=hi m (by omega)
    have i2:=hi n (by omega)
    have j1:=hp m (by omega)
    have j2:=hp n (by omega)
    have u1:=hu m (by omega)
    have u2:=hu n (by omega)
    show (a.f m)⁻¹ ≤ (a.f n)⁻¹ + d
    generalize (a.f m)⁻¹ = u at *
    generalize (a.f n)⁻¹ = v at *
    generalize 2 / e = r at *
    have b1:=Bd.mul (x:=u) (a:=r) (y:=v) (b:=r) (by grind) (by grind) (by grind) (by grind)
    have b2:=Bd.mul (x:=u * v) (a:=r * r) (y:=a.f n - a.f m) (b:=x) (by grind) (by grind) (by grind) (by grind)
    have e1 : u * v * (a.f n - a.f m) = u - v:=by grind
    grind
  · refine Cs ?_ ?_
    · exact fun d hd=>⟨N,fun n hn=>by
        have:=hi n hn
        show a.f n * (a.f n)⁻¹ ≤ 1 + d
        grind⟩
    · exact fun d hd=>⟨N,fun n hn=>by
        have:=hi n hn
        show 1 ≤ a.f n * (a.f n)⁻¹ + d
        grind⟩
  · have:=hp n hn
    show 0 ≤ (a.f n)⁻¹ + d
    grind
  · have:=hu n hn
    show (a.f n)⁻¹ ≤ 2 / e + d
    grind) x
theorem Td {x : R} (h : q 0 < x) : ∃ y,x * y = q 1 ∧ q 0 < y:=by
  obtain ⟨e,he,k⟩:=e6 h
  obtain ⟨y,h1,h2,_⟩:=Aij he k
  refine ⟨y,h1,fun c=>?_⟩
  have:=Ba c (le_of_lt h)
  rw [h1,mul_zero] at this
  exact absurd (Dd.1 this) (by decide)
def Ab (x e : R) : Prop:=-e ≤ x ∧ x ≤ e
theorem Ab.nn {x e : R} (h : Ab x e) : q 0 ≤ e:=by
  rcases le_total (q 0) e with k | k
  · exact k
  · have h1:=le_trans h.1 h.2
    have h2:=le_trans (Fo k) h1
    exact h2
theorem Ab.add {x y a b : R} (h : Ab x a) (k : Ab y b) : Ab (x + y) (a + b):=⟨by rw [L4,← Ev]; exact Bc h.1 k.1,Bc h.2 k.2⟩
theorem Ab.neg {x a : R} (h : Ab x a) : Ab (-x) a:=⟨Bw h.2,by have:=Bw h.1; rwa [neg_neg] at this⟩
theorem Ab.sub {x y a b : R} (h : Ab x a) (k : Ab y b) : Ab (x - y) (a + b):=by rw [← Ev]; exact h.add k.neg
theorem Ab.mono {x a b : R} (h : Ab x a) (k : a ≤ b) : Ab x b:=⟨le_trans (Bw k) h.1,le_trans h.2 k⟩
theorem xC (x : R) : q 2 * x = x + x:=Dm (P:=fun x=>q 2 * x = x + x) (fun a=>pt fun n=>by show 2 * a.f n = a.f n + a.f n; grind) x
theorem Ab.mul {x y a b : R} (h : Ab x a) (k : Ab y b) : Ab (x * y) (a * b):=by
  have ha1 : q 0 ≤ a - x:=Ir h.2
  have ha2 : q 0 ≤ a + x:=by have:=Ir h.1; rwa [J5,add_comm] at this
  have hb1 : q 0 ≤ b - y:=Ir k.2
  have hb2 : q 0 ≤ b + y:=by have:=Ir k.1; rwa [J5,add_comm] at this
  have half : ∀ {u : R},q 0 ≤ q 2 * u → q 0 ≤ u:=fun {u} hu=>by
    have : q 0 * q 2 ≤ u * q 2:=by rw [zero_mul,mul_comm]; exact hu
    exact Fa this (Qb.2 (by decide))
  constructor
  · refine J0 (half ?_)
    have e : q 2 * (x * y - -(a * b)) = (a - x) * (b - y) + (a + x) * (b + y):=Mv (P:=fun x y a b=>q 2 * (x * y - -(a * b)) = (a - x) * (b - y) + (a + x) * (b + y)) (fun x y a b=>pt fun n=>by
      show 2 * (x.f n * y.f n - -(a.f n * b.f n)) = (a.f n - x.f n) * (b.f n - y.f n) + (a.f n + x.f n) * (b.f n + y.f n); grind) x y a b
    rw [e]
    exact Jm (mul_nonneg ha1 hb1) (mul_nonneg ha2 hb2)
  · refine J0 (half ?_)
    have e : q 2 * (a * b - x * y) = (a - x) * (b + y) + (a + x) * (b - y):=Mv (P:=fun x y a b=>q 2 * (a * b - x * y) = (a - x) * (b + y) + (a + x) * (b - y)) (fun x y a b=>pt fun n=>by
      show 2 * (a.f n * b.f n - x.f n * y.f n) = (a.f n - x.f n) * (b.f n + y.f n) + (a.f n + x.f n) * (b.f n - y.f n); grind) x y a b
    rw [e]
    exact Jm (mul_nonneg ha1 hb2) (mul_nonneg ha2 hb1)
theorem Xu (r : Rat) : ∃ n : Nat,0 < n ∧ r ≤ n:=by
  obtain ⟨n,h,_⟩:=Abl (q r)
  exact ⟨n + 1,by omega,by have:=Dd.1 h; grind⟩
theorem mv (F : R → R) (a b : R) (C d : Rat) (hC : 0 ≤ C) (hd : 0 < d) (hab : a ≤ b) (H : ∀ x h,a ≤ x → q 0 ≤ h → h ≤ q d → x + h ≤ b → F x ≤ F (x + h) + q C * (h * h)) : F a ≤ F b:=eps fun e he=>by
  have hD:=Ir hab
  obtain ⟨m,hm,_⟩:=Abl (b - a)
  have hm0 : (0 : Rat) ≤ m:=Dd.1 (le_trans hD hm)
  obtain ⟨n,hn0,hn⟩:=Xu (m / d + C * (m * m) / e)
  have hn0' : (0 : Rat) < n:=by exact_mod_cast hn0
  have e1 : (1 / n : Rat) * n = 1:=by grind
  have p1 : (0 : Rat) ≤ 1 / n:=Rat.le_of_lt (Ri (by decide) hn0')
  have z1 : 0 ≤ (m : Rat) / d:=by rw [Rat.div_def]; exact Rat.mul_nonneg hm0 (Rat.le_of_lt (Rat.inv_pos.2 hd))
  have z2 : 0 ≤ C * (m * m) / e:=by rw [Rat.div_def]; exact Rat.mul_nonneg (Rat.mul_nonneg hC (Rat.mul_nonneg hm0 hm0)) (Rat.le_of_lt (Rat.inv_pos.2 he))
  have z3 : (m : Rat) / d * d = m:=by grind
  have z4 : C * (m * m) / e * e = C * (m * m):=by grind
  have s1 : (m : Rat) * (1 / n) ≤ d:=by
    clear H
    generalize (1 / n : Rat) = i at *
    generalize (m : Rat) / d = r at *
    generalize C * (m * m) / e = r2 at *
    generalize (n : Rat) = N at *
    generalize (m : Rat) = M at *
    refine Rat.not_lt.1 fun c=>?_
    have t1:=Rat.mul_pos (show 0 < M * i - d by grind) hn0'
    have t2:=Rat.mul_nonneg (show 0 ≤ N - r by grind) (Rat.le_of_lt hd)
    have t3 : (M * i - d) * N = M * (i * N) - d * N:=by grind
    rw [t3,e1] at t1
    grind
  have s2 : C * (m * m) * (1 / n) ≤ e:=by
    clear H
    generalize (1 / n : Rat) = i at *
    generalize (m : Rat) / d = r at *
    generalize C * (m * m) / e = r2 at *
    generalize (n : Rat) = N at *
    generalize C * ((m : Rat) * m) = M at *
    refine Rat.not_lt.1 fun c=>?_
    have t1:=Rat.mul_pos (show 0 < M * i - e by grind) hn0'
    have t2:=Rat.mul_nonneg (show 0 ≤ N - r2 by grind) (Rat.le_of_lt he)
    have t3 : (M * i - e) * N = M * (i * N) - e * N:=by grind
    rw [t3,e1] at t1
    grind
  obtain ⟨h,hh⟩ : ∃ h,h = (b - a) * q (1 / n):=⟨_,rfl⟩
  have h0 : q 0 ≤ h:=by rw [hh]; exact mul_nonneg hD (Dd.2 p1)
  have hle : h ≤ q (m * (1 / n)):=by rw [hh,Ez]; exact B6 hm (Dd.2 p1)
  have hnh : q n * h = b - a:=by rw [hh,Ga,← Ez,Rat.mul_comm,e1,mul_one]
  have hhd : h ≤ q d:=le_trans hle (Dd.2 s1)
  have main : ∀ k : Nat,k ≤ n → F a ≤ F (a + q k * h) + q k * (q C * (h * h)):=by
    intro k
    induction k with
    | zero=>
      intro _
      have : (((0 : Nat) : Rat)) = 0:=by decide
      rw [this,zero_mul,add_zero,zero_mul,add_zero]
      exact le_refl _
    | succ k ih=>
      intro hk
      have ih:=ih (by omega)
      have hk0 : (0 : Rat) ≤ (k : Rat):=by exact_mod_cast Nat.zero_le k
      have ek : (((k + 1 : Nat) : Rat)) = k + 1:=by push_cast; rfl
      have hx : q 0 ≤ q k * h:=mul_nonneg (Dd.2 hk0) h0
      have e2 : a + q k * h + h = a + q (k + 1 : Nat) * h:=by rw [ek,L3,add_mul,one_mul,add_assoc]
      have st:=H (a + q k * h) h (by have:=Bc (le_refl a) hx; rwa [add_zero] at this) h0 hhd (by
        rw [e2]
        have t1 : q (k + 1 : Nat) * h ≤ b - a:=by rw [← hnh]; exact B6 (Dd.2 (by exact_mod_cast hk)) h0
        have:=Vp t1
        rwa [add_comm] at this)
      rw [e2] at st
      refine le_trans ih (le_trans (Bc st (le_refl _)) ?_)
      rw [ek,L3,add_mul (q k) (q 1) (q C * (h * h)),one_mul,add_assoc,add_comm (q C * (h * h))]
      exact le_refl _
  have fin:=main n (Nat.le_refl _)
  rw [hnh] at fin
  have e3 : a + (b - a) = b:=by rw [add_comm,C7]
  rw [e3] at fin
  refine le_trans fin (Bc (le_refl _) ?_)
  have e4 : q n * (q C * (h * h)) = q C * ((b - a) * h):=by rw [← hnh,Ga,mul_assoc]
  rw [e4]
  have t2 : (b - a) * h ≤ q m * q (m * (1 / n)):=le_trans (B6 hm h0) (Ba hle (Dd.2 hm0))
  refine le_trans (Ba t2 (Dd.2 hC)) ?_
  rw [← Ez,← Ez]
  exact Dd.2 (by grind)
theorem Ab2 {w w' n B : Rat} (h : w' = w / 2) (hw : 0 ≤ w) (hn : 0 ≤ n) (ih : w * (n + 1) ≤ B) : w' * (n + 1 + 1) ≤ B:=by
  have p:=Rat.mul_nonneg hw hn
  subst h
  grind
theorem m5 {w n N B e r : Rat} (he : 0 < e) (hr : r * e = B) (hrN : r ≤ N) (hNn : N ≤ n) (hn : 0 ≤ n) (h : w * (n + 1) ≤ B) : w ≤ e:=by
  refine Rat.not_lt.1 fun k=>?_
  have p:=Rat.mul_pos (show 0 < w - e by grind) (show 0 < n + 1 by grind)
  have p2:=Rat.mul_nonneg (show 0 ≤ n - r by grind) (Rat.le_of_lt he)
  grind
theorem gI {L e : Rat} (hL : 0 ≤ L) (he : 0 < e) : ∃ x,0 < x ∧ ∀ w,w ≤ x → L * w ≤ e:=by
  have hL1 : 0 < L + 1:=by grind
  have h0:=Ri he hL1
  have hx : e / (L + 1) * (L + 1) = e:=by grind
  refine ⟨_,h0,fun w hw=>?_⟩
  have p:=Rat.mul_nonneg hL (show 0 ≤ e / (L + 1) - w by grind)
  grind
theorem Aje {x y z w u e : Rat} (h4 : x ≤ y) (h3 : y ≤ z) (h1 : z - w ≤ e) (h2 : w ≤ u) : x ≤ u + e:=by grind
theorem Aif {x y e : Rat} (h : x ≤ y) (he : 0 ≤ e) : x ≤ y + e:=by grind
theorem S9 (n : Nat) : (0 : Rat) ≤ n:=by exact_mod_cast Nat.zero_le n
theorem jP (n : Nat) : (((n + 1 : Nat) : Rat)) = n + 1:=by push_cast; rfl
theorem ivt (F : R → R) (a b L : Rat) (c : R) (hab : a ≤ b) (hL : 0 ≤ L) (ha : F (q a) ≤ c) (hb : c ≤ F (q b))
    (H : ∀ x y,q a ≤ x → x ≤ y → y ≤ q b → Ab (F y - F x) (q L * (y - x))) : ∃ t,q a ≤ t ∧ t ≤ q b ∧ F t = c:=by
  have step : ∀ p : Rat × Rat,∃ r : Rat × Rat,(a ≤ p.1 ∧ p.1 ≤ p.2 ∧ p.2 ≤ b ∧ F (q p.1) ≤ c ∧ c ≤ F (q p.2)) → (p.1 ≤ r.1 ∧ r.1 ≤ r.2 ∧ r.2 ≤ p.2 ∧ F (q r.1) ≤ c ∧ c ≤ F (q r.2) ∧ r.2 - r.1 = (p.2 - p.1) / 2):=by
    intro p
    by_cases hp : a ≤ p.1 ∧ p.1 ≤ p.2 ∧ p.2 ≤ b ∧ F (q p.1) ≤ c ∧ c ≤ F (q p.2)
    · obtain ⟨h1,h2,h3,h4,h5⟩:=hp
      rcases le_total (F (q ((p.1 + p.2) / 2))) c with k | k
      · exact ⟨((p.1 + p.2) / 2,p.2),fun _=>⟨by grind,by grind,by grind,k,h5,by grind⟩⟩
      · exact ⟨(p.1,(p.1 + p.2) / 2),fun _=>⟨by grind,by grind,by grind,h4,k,by grind⟩⟩
    · exact ⟨p,fun h=>absurd h hp⟩
  let nx : Rat × Rat → Rat × Rat:=fun p=>Classical.choose (step p)
  have nxs:=fun p=>Classical.choose_spec (step p)
  let s : Nat → Rat × Rat:=fun n=>Nat.rec (a,b) (fun _ p=>nx p) n
  have s0 : s 0 = (a,b):=rfl
  have ss : ∀ n,s (n + 1) = nx (s n):=fun n=>rfl
  have inv : ∀ n,a ≤ (s n).1 ∧ (s n).1 ≤ (s n).2 ∧ (s n).2 ≤ b ∧ F (q (s n).1) ≤ c ∧ c ≤ F (q (s n).2):=by
    intro n
    induction n with
    | zero=>exact ⟨Rat.le_refl,hab,Rat.le_refl,ha,hb⟩
    | succ n ih=>
      obtain ⟨h1,h2,h3,h4,h5,_⟩:=nxs (s n) ih
      rw [ss]
      exact ⟨Rat.le_trans ih.1 h1,h2,Rat.le_trans h3 ih.2.2.1,h4,h5⟩
  have one : ∀ n,(s n).1 ≤ (s (n + 1)).1 ∧ (s (n + 1)).2 ≤ (s n).2 ∧ (s (n + 1)).2 - (s (n + 1)).1 = ((s n).2 - (s n).1) / 2:=fun n=>by
    obtain ⟨h1,h2,h3,_,_,h6⟩:=nxs (s n) (inv n)
    rw [ss]
    exact ⟨h1,h3,h6⟩
  have mono : ∀ n m,n ≤ m → (s n).1 ≤ (s m).1 ∧ (s m).2 ≤ (s n).2:=by
    intro n m h
    induction m with
    | zero=>
      have : n = 0:=by omega
      subst this
      exact ⟨Rat.le_refl,Rat.le_refl⟩
    | succ m ih=>
      by_cases e : n = m + 1
      · subst e
        exact ⟨Rat.le_refl,Rat.le_refl⟩
      · have ih:=ih (by omega)
        exact ⟨Rat.le_trans ih.1 (one m).1,Rat.le_trans (one m).2.1 ih.2⟩
  have wid : ∀ n : Nat,((s n).2 - (s n).1) * (n + 1) ≤ b - a:=by
    intro n
    induction n with
    | zero=>rw [s0]; grind
    | succ n ih=>
      have h1:=(one n).2.2
      have h2:=(inv n).2.1
      rw [jP]
      exact Ab2 h1 (Rat.le_iff_sub_nonneg _ _ |>.1 h2) (S9 n) ih
  have small : ∀ e : Rat,0 < e → ∃ N,∀ n,N ≤ n → (s n).2 - (s n).1 ≤ e:=by
    intro e he
    obtain ⟨N,hN0,hN⟩:=Xu ((b - a) / e)
    refine ⟨N,fun n hn=>?_⟩
    exact m5 he (show (b - a) / e * e = b - a from Rat.div_mul_cancel (Rat.ne_of_gt he)) hN (by exact_mod_cast hn) (S9 n) (wid n)
  let t : CS:=⟨fun n=>(s n).1,fun e he=>by
    obtain ⟨N,h⟩:=small e he
    refine ⟨N,fun m n hm hn=>?_⟩
    have h1:=h N (Nat.le_refl _)
    have h2:=(mono N n hn).1
    have h3:=(mono N m hm).2
    have h4:=(inv m).2.1
    exact Aje h4 h3 h1 h2⟩
  have lo : ∀ n,q (s n).1 ≤ mk t:=fun n e he=>⟨n,fun m hm=>by
    have:=(mono n m hm).1
    show (s n).1 ≤ (s m).1 + e
    exact Aif this (Rat.le_of_lt he)⟩
  have hi : ∀ n,mk t ≤ q (s n).2:=fun n e he=>⟨n,fun m hm=>by
    have h1:=(mono n m hm).2
    have h2:=(inv m).2.1
    show (s m).1 ≤ (s n).2 + e
    exact Aif (Rat.le_trans h2 h1) (Rat.le_of_lt he)⟩
  have dist : ∀ e : Rat,0 < e → ∃ n,q L * (mk t - q (s n).1) ≤ q e ∧ q L * (q (s n).2 - mk t) ≤ q e:=by
    intro e he
    obtain ⟨x,h0,hx⟩:=gI hL he
    obtain ⟨N,h⟩:=small x h0
    have hw:=hx _ (h N (Nat.le_refl _))
    refine ⟨N,?_,?_⟩
    · refine le_trans (Ba (Du (hi N) (le_refl _)) (Dd.2 hL)) ?_
      rw [← Ac3,← Ez]
      exact Dd.2 hw
    · refine le_trans (Ba (Du (le_refl _) (lo N)) (Dd.2 hL)) ?_
      rw [← Ac3,← Ez]
      exact Dd.2 hw
  have ta : q a ≤ mk t:=lo 0
  have tb : mk t ≤ q b:=hi 0
  refine ⟨mk t,ta,tb,Cs (eps fun e he=>?_) (eps fun e he=>?_)⟩
  · obtain ⟨n,h1,_⟩:=dist e he
    have:=(H (q (s n).1) (mk t) (Dd.2 (inv n).1) (lo n) tb).2
    have:=Vk (le_trans this h1)
    rw [add_comm] at this
    exact le_trans this (Bc (inv n).2.2.2.1 (le_refl _))
  · obtain ⟨n,_,h2⟩:=dist e he
    have:=(H (mk t) (q (s n).2) ta (hi n) (Dd.2 (inv n).2.2.1)).2
    have:=Vk (le_trans this h2)
    rw [add_comm] at this
    exact le_trans (inv n).2.2.2.2 this
def tm (a : Rat) : Nat → Rat
  | 0=>1
  | k + 1=>tm a k * a / (k + 1)
def tp (a : Rat) : Nat → Rat
  | 0=>0
  | k + 1=>tm a k
def tpp (a : Rat) : Nat → Rat
  | 0=>0
  | k + 1=>tp a k
theorem eK (k : Nat) : (0 : Rat) < k + 1:=by have:=S9 k; grind
theorem Pp (a : Rat) (k : Nat) : tm a (k + 1) * (k + 1) = tm a k * a:=by
  have:=eK k
  show tm a k * a / (k + 1) * (k + 1) = _
  exact Rat.div_mul_cancel (Rat.ne_of_gt this)
theorem wQ {x b k : Rat} (hk : 0 < k) (h1 : -(b * k) ≤ x * k) (h2 : x * k ≤ b * k) : -b ≤ x ∧ x ≤ b:=by
  constructor
  · refine Rat.not_lt.1 fun c=>?_
    have:=Rat.mul_pos (show 0 < -b - x by grind) hk
    grind
  · refine Rat.not_lt.1 fun c=>?_
    have:=Rat.mul_pos (show 0 < x - b by grind) hk
    grind
theorem qG {a A : Rat} (h1 : -A ≤ a) (h2 : a ≤ A) : ∀ k,-tm A k ≤ tm a k ∧ tm a k ≤ tm A k
  | 0=>⟨by show (-1 : Rat) ≤ 1; decide,Rat.le_refl⟩
  | k + 1=>by
    have ih:=qG h1 h2 k
    have p:=Bd.mul ih.1 ih.2 h1 h2
    refine wQ (eK k) ?_ ?_
    · rw [Pp,Pp]; exact p.1
    · rw [Pp,Pp]; exact p.2
theorem Xd {A : Rat} (h : 0 ≤ A) : ∀ k,0 ≤ tm A k
  | 0=>by show (0 : Rat) ≤ 1; decide
  | k + 1=>by
    have:=Xd h k
    have:=Rat.mul_nonneg this h
    refine Rat.not_lt.1 fun c=>?_
    have s:=Pp A k
    have:=Rat.mul_pos (show 0 < -tm A (k + 1) by grind) (eK k)
    grind
theorem uU (a : Rat) : ∀ k : Nat,tp a k * a = k * tm a k
  | 0=>by show (0 : Rat) * a = (0 : Nat) * 1; grind
  | k + 1=>by
    show tm a k * a = _
    rw [← Pp,jP]
    grind
theorem Aga {A : Rat} (hA : 0 ≤ A) : ∀ k : Nat,tpp A k * A ≤ k * tp A k
  | 0=>by show (0 : Rat) * A ≤ (0 : Nat) * 0; grind
  | k + 1=>by
    show tp A k * A ≤ (k + 1 : Nat) * tm A k
    rw [uU,jP]
    have:=Xd hA k
    grind
theorem Ab7 {a b A d : Rat} (a1 : -A ≤ a) (a2 : a ≤ A) (b1 : -A ≤ b) (b2 : b ≤ A) (d1 : -d ≤ a - b) (d2 : a - b ≤ d) : ∀ k,-(tp A k * d) ≤ tm a k - tm b k ∧ tm a k - tm b k ≤ tp A k * d
  | 0=>by
    constructor
    · show -(0 * d) ≤ (1 - 1 : Rat); grind
    · show (1 - 1 : Rat) ≤ 0 * d; grind
  | k + 1=>by
    have ih:=Ab7 a1 a2 b1 b2 d1 d2 k
    have p1:=Bd.mul ih.1 ih.2 a1 a2
    have tb:=qG b1 b2 k
    have p2:=Bd.mul tb.1 tb.2 d1 d2
    have s1:=Pp a k
    have s2:=Pp b k
    have tA:=uU A k
    refine wQ (eK k) ?_ ?_ <;> (show _ ≤ _; simp only [tp]; generalize tm a (k + 1) = x at *; generalize tm b (k + 1) = y at *; generalize tm a k = u at *; generalize tm b k = v at *; generalize tm A k = w at *; generalize tp A k = z at *; generalize (k : Rat) = kk at *; clear ih a1 a2 b1 b2 d1 d2 tb)
    · have e : (x - y) * (kk + 1) = (u - v) * a + v * (a - b):=by grind
      have e2 : z * d * A = kk * w * d:=by grind
      rw [e]; grind
    · have e : (x - y) * (kk + 1) = (u - v) * a + v * (a - b):=by grind
      have e2 : z * d * A = kk * w * d:=by grind
      rw [e]; grind
theorem Aid (h : Rat) : 0 ≤ h * h:=by
  rcases @Rat.le_total 0 h with k | k
  · exact Rat.mul_nonneg k k
  · have:=Rat.mul_nonneg (show 0 ≤ -h by grind) (show 0 ≤ -h by grind)
    grind
theorem Ab6 {a h A : Rat} (hA : 0 ≤ A) (a1 : -A ≤ a) (a2 : a ≤ A) (b1 : -A ≤ a + h) (b2 : a + h ≤ A) : ∀ k,-(tpp A k * (h * h)) ≤ tm (a + h) k - tm a k - h * tp a k ∧ tm (a + h) k - tm a k - h * tp a k ≤ tpp A k * (h * h)
  | 0=>by
    constructor
    · show -(0 * (h * h)) ≤ (1 - 1 - h * 0 : Rat); grind
    · show (1 - 1 - h * 0 : Rat) ≤ 0 * (h * h); grind
  | k + 1=>by
    have ih:=Ab6 hA a1 a2 b1 b2 k
    have p1:=Bd.mul ih.1 ih.2 b1 b2
    have tb : -tp A k ≤ tp a k ∧ tp a k ≤ tp A k:=by
      cases k with
      | zero=>exact ⟨by show -(0 : Rat) ≤ 0; decide,Rat.le_refl⟩
      | succ k=>exact qG a1 a2 k
    have hh:=Aid h
    have p2:=Bd.mul (x:=h * h) (a:=h * h) (by grind) Rat.le_refl tb.1 tb.2
    have s1:=Pp (a + h) k
    have s2:=Pp a k
    have s3:=uU a k
    have p3:=Rat.mul_nonneg (show 0 ≤ k * tp A k - tpp A k * A by have:=Aga hA k; grind) hh
    refine wQ (eK k) ?_ ?_ <;> (show _ ≤ _; rw [show tpp A (k + 1) = tp A k from rfl,show tp a (k + 1) = tm a k from rfl]; generalize tm (a + h) (k + 1) = x at *; generalize tm a (k + 1) = y at *; generalize tm (a + h) k = u at *; generalize tm a k = v at *; generalize tp A k = w at *; generalize tp a k = z at *; generalize tpp A k = w2 at *; generalize (k : Rat) = kk at *; clear ih a1 a2 b1 b2 tb)
    · have e : (x - y - h * v) * (kk + 1) = (u - v - h * z) * (a + h) + h * h * z:=by grind
      rw [e]; grind
    · have e : (x - y - h * v) * (kk + 1) = (u - v - h * z) * (a + h) + h * h * z:=by grind
      rw [e]; grind
def S (c : Nat → Rat) : Nat → Rat → Rat
  | 0,_=>0
  | n + 1,a=>S c n a + c n * tm a n
def U (A : Rat) : Nat → Rat
  | 0=>0
  | n + 1=>U A n + tm A n
theorem n5 {A : Rat} (hA : 0 ≤ A) (n : Nat) (h : 2 * A ≤ n + 1) : 2 * tm A (n + 1) ≤ tm A n:=by
  have h1:=Xd hA n
  have h2:=Xd hA (n + 1)
  have s:=Pp A n
  have p:=Rat.mul_nonneg h1 (show 0 ≤ (n : Rat) + 1 - 2 * A by grind)
  refine Rat.not_lt.1 fun c=>?_
  have:=Rat.mul_pos (show 0 < 2 * tm A (n + 1) - tm A n by grind) (eK n)
  grind
theorem pZ {A : Rat} (hA : 0 ≤ A) (n : Nat) (h : 2 * A ≤ n + 1) : ∀ j,U A (n + j) + 2 * tm A (n + j) ≤ U A n + 2 * tm A n
  | 0=>Rat.le_refl
  | j + 1=>by
    have ih:=pZ hA n h j
    have:=n5 hA (n + j) (by have:=S9 j; push_cast; grind)
    show U A (n + j) + tm A (n + j) + 2 * tm A (n + j + 1) ≤ _
    grind
theorem Ah0 {A : Rat} (hA : 0 ≤ A) (n : Nat) : ∀ j,U A n ≤ U A (n + j)
  | 0=>Rat.le_refl
  | j + 1=>by
    have:=Ah0 hA n j
    have:=Xd hA (n + j)
    show _ ≤ U A (n + j) + tm A (n + j)
    grind
theorem Ah1 {A : Rat} (hA : 0 ≤ A) : ∃ B : Rat,0 ≤ B ∧ ∀ n,U A n ≤ B:=by
  obtain ⟨K,_,hK⟩:=Xu (2 * A)
  refine ⟨U A K + 2 * tm A K,?_,fun n=>?_⟩
  · have:=Ah0 hA 0 K
    have:=Xd hA K
    have : U A 0 = 0:=rfl
    rw [Nat.zero_add] at *
    grind
  · rcases Nat.le_total n K with h | h
    · have:=Ah0 hA n (K - n)
      rw [show n + (K - n) = K by omega] at this
      have:=Xd hA K
      grind
    · have:=pZ hA K (by grind) (n - K)
      rw [show K + (n - K) = n by omega] at this
      have:=Xd hA n
      grind
theorem qF {A : Rat} (hA : 0 ≤ A) (e : Rat) (he : 0 < e) : ∃ N : Nat,∀ n,N ≤ n → tm A n ≤ e ∧ 2 * A ≤ n + 1:=by
  obtain ⟨K,_,hK⟩:=Xu (2 * A)
  have hd : ∀ j : Nat,tm A (K + j) * (j + 1) ≤ tm A K:=by
    intro j
    induction j with
    | zero=>show tm A K * ((0 : Nat) + 1) ≤ _; push_cast; grind
    | succ j ih=>
      have h1:=n5 hA (K + j) (by have:=S9 j; push_cast; grind)
      have h2:=Xd hA (K + j)
      have h3:=S9 j
      have h4:=Xd hA (K + j + 1)
      have p:=Rat.mul_nonneg h2 h3
      have p2:=Rat.mul_nonneg (show 0 ≤ tm A (K + j) - 2 * tm A (K + j + 1) by grind) (show (0 : Rat) ≤ j + 2 by grind)
      show tm A (K + j + 1) * ((j + 1 : Nat) + 1) ≤ _
      push_cast
      grind
  obtain ⟨N,_,hN⟩:=Xu (tm A K / e)
  refine ⟨K + N,fun n hn=>⟨?_,?_⟩⟩
  · have:=hd (n - K)
    rw [show K + (n - K) = n by omega] at this
    exact m5 he (Rat.div_mul_cancel (Rat.ne_of_gt he)) hN (by exact_mod_cast (by omega : N ≤ n - K)) (S9 _) this
  · have : (K : Rat) ≤ n:=by exact_mod_cast (by omega : K ≤ n)
    grind
def Un (c : Nat → Rat) : Prop:=∀ k,-1 ≤ c k ∧ c k ≤ 1
theorem l6 {c : Nat → Rat} (hc : Un c) {a A : Rat} (h1 : -A ≤ a) (h2 : a ≤ A) (n : Nat) : ∀ j,-(U A (n + j) - U A n) ≤ S c (n + j) a - S c n a ∧ S c (n + j) a - S c n a ≤ U A (n + j) - U A n
  | 0=>by rw [Nat.add_zero]; constructor <;> grind
  | j + 1=>by
    have ih:=l6 hc h1 h2 n j
    have t:=qG h1 h2 (n + j)
    have p:=Bd.mul (hc (n + j)).1 (hc (n + j)).2 t.1 t.2
    have e1 : S c (n + (j + 1)) a = S c (n + j) a + c (n + j) * tm a (n + j):=rfl
    have e2 : U A (n + (j + 1)) = U A (n + j) + tm A (n + j):=rfl
    rw [e1,e2]
    constructor <;> grind
theorem Ais {c : Nat → Rat} (hc : Un c) {a b A d : Rat} (hA : 0 ≤ A) (hd : 0 ≤ d) (a1 : -A ≤ a) (a2 : a ≤ A) (b1 : -A ≤ b) (b2 : b ≤ A) (d1 : -d ≤ a - b) (d2 : a - b ≤ d) : ∀ n,-(U A n * d) ≤ S c n a - S c n b ∧ S c n a - S c n b ≤ U A n * d:=by
  have main : ∀ n,-(U A (n - 1) * d) ≤ S c n a - S c n b ∧ S c n a - S c n b ≤ U A (n - 1) * d:=by
    intro n
    induction n with
    | zero=>constructor <;> (show _ ≤ _; rw [show S c 0 a = 0 from rfl]; (first | rw [show S c 0 b = 0 from rfl] | rw [show S c 0 (a + h) = 0 from rfl]); rw [show U A 0 = 0 from rfl]; grind)
    | succ n ih=>
      have t:=Ab7 a1 a2 b1 b2 d1 d2 n
      have p:=Bd.mul (hc n).1 (hc n).2 t.1 t.2
      have e1 : S c (n + 1) a = S c n a + c n * tm a n:=rfl
      have e2 : S c (n + 1) b = S c n b + c n * tm b n:=rfl
      have e3 : U A (n + 1 - 1) = U A (n - 1) + tp A n:=by
        cases n with
        | zero=>show (0 : Rat) = 0 + 0; grind
        | succ n=>rfl
      rw [e1,e2,e3]
      constructor <;> grind
  intro n
  have m:=main n
  have : U A (n - 1) ≤ U A n:=by
    have:=Ah0 hA (n - 1) (n - (n - 1))
    rwa [show n - 1 + (n - (n - 1)) = n by omega] at this
  have:=Rat.mul_nonneg (show 0 ≤ U A n - U A (n - 1) by grind) hd
  constructor <;> grind
def S' (c : Nat → Rat) : Nat → Rat → Rat
  | 0,_=>0
  | n + 1,a=>S' c n a + c n * tp a n
theorem zC (c : Nat → Rat) (a : Rat) : ∀ n,S' c (n + 1) a = S (fun k=>c (k + 1)) n a
  | 0=>by show (0 : Rat) + c 0 * 0 = 0; grind
  | n + 1=>by
    have:=zC c a n
    show S' c (n + 1) a + c (n + 1) * tm a n = S (fun k=>c (k + 1)) n a + c (n + 1) * tm a n
    rw [this]
theorem Ak7 (A : Rat) : ∀ n,U A (n - 2) + tpp A n = U A (n + 1 - 2)
  | 0=>by show (0 : Rat) + 0 = 0; grind
  | 1=>by show (0 : Rat) + 0 = 0; grind
  | n + 2=>rfl
theorem Aiq {c : Nat → Rat} (hc : Un c) {a h A : Rat} (hA : 0 ≤ A) (a1 : -A ≤ a) (a2 : a ≤ A) (b1 : -A ≤ a + h) (b2 : a + h ≤ A) : ∀ n,
    -(U A (n - 2) * (h * h)) ≤ S c n (a + h) - S c n a - h * S' c n a ∧ S c n (a + h) - S c n a - h * S' c n a ≤ U A (n - 2) * (h * h)
  | 0=>by
    constructor
    · show -(0 * (h * h)) ≤ (0 - 0 - h * 0 : Rat); grind
    · show (0 - 0 - h * 0 : Rat) ≤ 0 * (h * h); grind
  | n + 1=>by
    have ih:=Aiq hc hA a1 a2 b1 b2 n
    have t:=Ab6 hA a1 a2 b1 b2 n
    have p:=Bd.mul (hc n).1 (hc n).2 t.1 t.2
    have e1 : S c (n + 1) (a + h) = S c n (a + h) + c n * tm (a + h) n:=rfl
    have e2 : S c (n + 1) a = S c n a + c n * tm a n:=rfl
    have e4 : S' c (n + 1) a = S' c n a + c n * tp a n:=rfl
    rw [e1,e2,e4,← Ak7]
    constructor <;> grind
theorem Aip {A e : Rat} (hA : 0 ≤ A) {N : Nat} (h : ∀ n,N ≤ n → tm A n ≤ e ∧ 2 * A ≤ n + 1) (m n : Nat) (hn : N ≤ n) (hm : n ≤ m) : U A m - U A n ≤ 2 * e:=by
  obtain ⟨h1,h2⟩:=h n hn
  have:=pZ hA n h2 (m - n)
  rw [show n + (m - n) = m by omega] at this
  have:=Xd hA m
  grind
theorem Ak9 {c : Nat → Rat} (hc : Un c) {a A e : Rat} (hA : 0 ≤ A) (h1 : -A ≤ a) (h2 : a ≤ A) {N : Nat} (h : ∀ n,N ≤ n → tm A n ≤ e ∧ 2 * A ≤ n + 1) (m n : Nat) (hn : N ≤ n) (hm : N ≤ m) : S c m a - S c n a ≤ 2 * e:=by
  rcases Nat.le_total n m with k | k
  · have:=l6 hc h1 h2 n (m - n)
    rw [show n + (m - n) = m by omega] at this
    have:=Aip hA h m n hn k
    grind
  · have:=l6 hc h1 h2 m (n - m)
    rw [show m + (n - m) = n by omega] at this
    have:=Aip hA h n m hm k
    grind
theorem Aio {M d n : Rat} (h : n ≤ M) (hd : 0 ≤ d) {e : Rat} (he : M * d ≤ e) : n * d ≤ e:=by
  have:=Rat.mul_nonneg (show 0 ≤ M - n by grind) hd
  grind
def FS (c : Nat → Rat) (hc : Un c) (a : CS) : CS:=⟨fun n=>S c n (a.f n),fun e he=>by
  obtain ⟨A,hA,N0,hb⟩:=a.bd
  have hA:=Rat.le_of_lt hA
  obtain ⟨M,hM,hU⟩:=Ah1 hA
  obtain ⟨d,hd,hdd⟩:=gI hM (show 0 < e / 2 by grind)
  obtain ⟨N1,h1⟩:=a.c d hd
  obtain ⟨N2,h2⟩:=qF hA (e / 4) (by grind)
  refine ⟨max N0 (max N1 N2),fun m n hm hn=>?_⟩
  have a1:=hb m (by omega)
  have a2:=hb n (by omega)
  have d1:=h1 m n (by omega) (by omega)
  have d2:=h1 n m (by omega) (by omega)
  have l:=(Ais hc hA (Rat.le_of_lt hd) a1.1 a1.2 a2.1 a2.2 (d:=d) (by grind) (by grind) m).2
  have g:=Ak9 hc hA a2.1 a2.2 h2 m n (by omega) (by omega)
  have u:=Aio (hU m) (Rat.le_of_lt hd) (hdd d Rat.le_refl)
  show S c m (a.f m) ≤ S c n (a.f n) + e
  clear h1 h2 hU hdd hb
  grind⟩
theorem Aiw (c : Nat → Rat) (hc : Un c) {a b : CS} (h : a.le b ∧ b.le a) : (FS c hc a).le (FS c hc b):=fun e he=>by
  obtain ⟨A,hA,N0,ha⟩:=a.bd
  obtain ⟨B,hB,N1,hb⟩:=b.bd
  have hAB : 0 ≤ A + B:=by grind
  obtain ⟨M,hM,hU⟩:=Ah1 hAB
  obtain ⟨d,hd,hdd⟩:=gI hM he
  obtain ⟨N2,h1⟩:=h.1 d hd
  obtain ⟨N3,h2⟩:=h.2 d hd
  refine ⟨max (max N0 N1) (max N2 N3),fun n hn=>?_⟩
  have a1:=ha n (by omega)
  have a2:=hb n (by omega)
  have d1:=h1 n (by omega)
  have d2:=h2 n (by omega)
  have l:=(Ais hc hAB (Rat.le_of_lt hd) (a:=a.f n) (b:=b.f n) (d:=d) (by grind) (by grind) (by grind) (by grind) (by grind) (by grind) n).2
  have u:=Aio (hU n) (Rat.le_of_lt hd) (hdd d Rat.le_refl)
  show S c n (a.f n) ≤ S c n (b.f n) + e
  clear h1 h2 hU hdd ha hb
  grind
def F (c : Nat → Rat) (hc : Un c) : R → R:=Quotient.lift (fun a=>mk (FS c hc a)) fun a b h=>Quotient.sound ⟨Aiw c hc h,Aiw c hc ⟨h.2,h.1⟩⟩
theorem zG {c : Nat → Rat} (hc : Un c) : Un (fun k=>c (k + 1)):=fun k=>hc (k + 1)
theorem Afd {a b : CS} (h : ∀ e : Rat,0 < e → ∃ N : Nat,∀ n,N ≤ n → -(b.f n + e) ≤ a.f n ∧ a.f n ≤ b.f n + e) : Ab (mk a) (mk b):=by
  constructor
  · intro e he
    obtain ⟨N,h⟩:=h e he
    exact ⟨N,fun n hn=>by
      have:=h n hn
      show -b.f n ≤ a.f n + e
      grind⟩
  · intro e he
    obtain ⟨N,h⟩:=h e he
    exact ⟨N,fun n hn=>(h n hn).2⟩
theorem zA {a : CS} {A : Rat} (h : Ab (mk a) (q A)) {e : Rat} (he : 0 < e) : ∃ N : Nat,∀ n,N ≤ n → -(A + e) ≤ a.f n ∧ a.f n ≤ A + e:=by
  obtain ⟨N,h1⟩:=(h.1 : ((CS.q A).neg).le a) e he
  obtain ⟨M,h2⟩:=(h.2 : a.le (CS.q A)) e he
  refine ⟨max N M,fun n hn=>⟨?_,h2 n (by omega)⟩⟩
  have : -A ≤ a.f n + e:=h1 n (by omega)
  grind
theorem Aj8 (c : Nat → Rat) (hc : Un c) (A : Rat) (hA : 0 ≤ A) : ∃ B : Rat,0 ≤ B ∧ ∀ x,Ab x (q A) → Ab (F c hc x) (q B):=by
  have hA1 : 0 ≤ A + 1:=by grind
  obtain ⟨M,hM,hU⟩:=Ah1 hA1
  refine ⟨M,hM,Dm fun a h=>?_⟩
  obtain ⟨N,h⟩:=zA h (show (0 : Rat) < 1 by decide)
  refine Afd (a:=FS c hc a) (b:=CS.q M) fun e he=>⟨N,fun n hn=>?_⟩
  have a1:=h n hn
  have t:=l6 hc a1.1 a1.2 0 n
  rw [Nat.zero_add,show S c 0 (a.f n) = 0 from rfl,show U (A + 1) 0 = 0 from rfl] at t
  have:=hU n
  show -(M + e) ≤ S c n (a.f n) ∧ S c n (a.f n) ≤ M + e
  clear hU h
  constructor <;> grind
theorem sW {H t e b u : Rat} (hH : 0 ≤ H) (h1 : -H ≤ b) (h2 : b ≤ H) (u1 : -t ≤ u) (u2 : u ≤ t) (ht : H * t ≤ e) : -e ≤ b * u ∧ b * u ≤ e:=by
  have:=Bd.mul h1 h2 u1 u2
  constructor <;> grind
theorem Ald (c : Nat → Rat) (hc : Un c) (A : Rat) (hA : 0 ≤ A) : ∃ B : Rat,0 ≤ B ∧ ∀ x h,Ab x (q A) → Ab (x + h) (q A) → Ab (F c hc (x + h) - F c hc x - h * F (fun k=>c (k + 1)) (zG hc) x) (q B * (h * h)):=by
  have hA1 : 0 ≤ A + 1:=by grind
  obtain ⟨M,hM,hU⟩:=Ah1 hA1
  refine ⟨M,hM,Gw fun a b h1 h2=>?_⟩
  obtain ⟨N1,h1⟩:=zA h1 (show (0 : Rat) < 1 by decide)
  obtain ⟨N2,h2⟩:=zA (a:=a.add b) h2 (show (0 : Rat) < 1 by decide)
  refine Afd (a:=((FS c hc (a.add b)).sub (FS c hc a)).sub (b.mul (FS (fun k=>c (k + 1)) (zG hc) a))) (b:=(CS.q M).mul (b.mul b)) fun e he=>?_
  obtain ⟨d,hd,hdd⟩:=gI (show 0 ≤ 2 * (A + 1) by grind) he
  obtain ⟨N3,h3⟩:=qF hA1 d hd
  refine ⟨max (max N1 N2) (N3 + 1),fun n hn=>?_⟩
  obtain ⟨m,rfl⟩ : ∃ m,n = m + 1:=⟨n - 1,by omega⟩
  have a1:=h1 (m + 1) (by omega)
  have a2 : -(A + 1) ≤ a.f (m + 1) + b.f (m + 1) ∧ a.f (m + 1) + b.f (m + 1) ≤ A + 1:=h2 (m + 1) (by omega)
  have t:=(h3 m (by omega)).1
  have hx:=hdd _ t
  have sec:=Aiq hc hA1 a1.1 a1.2 a2.1 a2.2 (m + 1)
  rw [zC] at sec
  have tb:=qG a1.1 a1.2 m
  have cb:=Bd.mul (hc (m + 1)).1 (hc (m + 1)).2 tb.1 tb.2
  have ex:=sW (H:=2 * (A + 1)) (t:=tm (A + 1) m) (e:=e) (b:=b.f (m + 1)) (u:=c (m + 1) * tm (a.f (m + 1)) m) (by grind) (by grind) (by grind) (by grind) (by grind) hx
  have hu:=hU (m + 1 - 2)
  have hh:=Aid (b.f (m + 1))
  have hm:=Rat.mul_nonneg (show 0 ≤ M - U (A + 1) (m + 1 - 2) by grind) hh
  have e1 : S (fun k=>c (k + 1)) (m + 1) (a.f (m + 1)) = S (fun k=>c (k + 1)) m (a.f (m + 1)) + c (m + 1) * tm (a.f (m + 1)) m:=rfl
  show -(M * (b.f (m + 1) * b.f (m + 1)) + e) ≤ S c (m + 1) (a.f (m + 1) + b.f (m + 1)) - S c (m + 1) (a.f (m + 1)) - b.f (m + 1) * S (fun k=>c (k + 1)) (m + 1) (a.f (m + 1)) ∧ S c (m + 1) (a.f (m + 1) + b.f (m + 1)) - S c (m + 1) (a.f (m + 1)) - b.f (m + 1) * S (fun k=>c (k + 1)) (m + 1) (a.f (m + 1)) ≤ M * (b.f (m + 1) * b.f (m + 1)) + e
  rw [e1]
  clear h1 h2 h3 hU hdd
  generalize a.f (m + 1) = x at *
  generalize b.f (m + 1) = y at *
  generalize S (fun k=>c (k + 1)) m x = s at *
  generalize S c (m + 1) (x + y) = s1 at *
  generalize S c (m + 1) x = s2 at *
  generalize U (A + 1) (m + 1 - 2) = uu at *
  generalize c (m + 1) * tm x m = w at *
  constructor <;> grind
def tR (x : R) : Nat → R
  | 0=>q 1
  | k + 1=>tR x k * x * q (1 / (k + 1))
def SR (c : Nat → Rat) : Nat → R → R
  | 0,_=>q 0
  | n + 1,x=>SR c n x + q (c n) * tR x n
def tS (a : CS) : Nat → CS
  | 0=>CS.q 1
  | k + 1=>((tS a k).mul a).mul (CS.q (1 / (k + 1)))
theorem Akl (a : CS) (i : Nat) : ∀ k,(tS a k).f i = tm (a.f i) k
  | 0=>rfl
  | k + 1=>by
    show (tS a k).f i * a.f i * (1 / (k + 1)) = tm (a.f i) k * a.f i / (k + 1)
    rw [Akl a i k]
    grind
theorem Ah9 (a : CS) : ∀ k,tR (mk a) k = mk (tS a k)
  | 0=>rfl
  | k + 1=>by
    show tR (mk a) k * mk a * q (1 / (k + 1)) = _
    rw [Ah9 a k]
    rfl
def SS (c : Nat → Rat) : Nat → CS → CS
  | 0,_=>CS.q 0
  | n + 1,a=>(SS c n a).add ((CS.q (c n)).mul (tS a n))
theorem Abv (c : Nat → Rat) (a : CS) (i : Nat) : ∀ n,(SS c n a).f i = S c n (a.f i)
  | 0=>rfl
  | n + 1=>by
    show (SS c n a).f i + c n * (tS a n).f i = S c n (a.f i) + c n * tm (a.f i) n
    rw [Abv c a i n,Akl]
theorem nM (c : Nat → Rat) (a : CS) : ∀ n,SR c n (mk a) = mk (SS c n a)
  | 0=>rfl
  | n + 1=>by
    show SR c n (mk a) + q (c n) * tR (mk a) n = _
    rw [nM c a n,Ah9]
    rfl
theorem eZ (c : Nat → Rat) (hc : Un c) {A B : Rat} (hA : 0 ≤ A) (hAB : A < B) (n : Nat) (hn : 2 * B ≤ n + 1) (x : R) : Ab x (q A) → Ab (F c hc x - SR c n x) (q (2 * tm B n)):=Dm (P:=fun x=>Ab x (q A) → Ab (F c hc x - SR c n x) (q (2 * tm B n))) (fun a h=>by
  obtain ⟨N,h⟩:=zA h (show 0 < B - A by grind)
  rw [nM]
  refine Afd (a:=(FS c hc a).sub (SS c n a)) (b:=CS.q (2 * tm B n)) fun e he=>⟨max N n,fun m hm=>?_⟩
  have a1:=h m (by omega)
  have hB : 0 ≤ B:=by grind
  have t:=l6 hc (A:=B) (a:=a.f m) (by grind) (by grind) n (m - n)
  have u:=pZ hB n hn (m - n)
  rw [show n + (m - n) = m by omega] at t u
  have w:=Xd hB m
  show -(2 * tm B n + e) ≤ S c m (a.f m) - (SS c n a).f m ∧ S c m (a.f m) - (SS c n a).f m ≤ 2 * tm B n + e
  rw [Abv]
  clear h
  constructor <;> grind) x
theorem Agc : ∀ k,tm 0 (k + 1) = 0:=fun k=>by
  show tm 0 k * 0 / (k + 1) = 0
  grind
theorem x5 (c : Nat → Rat) : ∀ n,S c (n + 1) 0 = c 0
  | 0=>by show 0 + c 0 * 1 = c 0; grind
  | n + 1=>by
    show S c (n + 1) 0 + c (n + 1) * tm 0 (n + 1) = c 0
    rw [x5 c n,Agc]
    grind
theorem x8 (c : Nat → Rat) (hc : Un c) : F c hc (q 0) = q (c 0):=by
  refine Cs ?_ ?_
  · exact fun e he=>⟨1,fun n hn=>by
      obtain ⟨m,rfl⟩ : ∃ m,n = m + 1:=⟨n - 1,by omega⟩
      show S c (m + 1) 0 ≤ c 0 + e
      rw [x5]
      grind⟩
  · exact fun e he=>⟨1,fun n hn=>by
      obtain ⟨m,rfl⟩ : ∃ m,n = m + 1:=⟨n - 1,by omega⟩
      show c 0 ≤ S c (m + 1) 0 + e
      rw [x5]
      grind⟩
theorem Air (c : Nat → Rat) (a : Rat) : ∀ n,S (fun k=>-c k) n a = -S c n a
  | 0=>by show (0 : Rat) = -0; grind
  | n + 1=>by
    show S (fun k=>-c k) n a + -c n * tm a n = -(S c n a + c n * tm a n)
    rw [Air c a n]
    grind
theorem Akj {c : Nat → Rat} (hc : Un c) : Un (fun k=>-c k):=fun k=>by have:=hc k; constructor <;> grind
theorem Aiv (c : Nat → Rat) (hc : Un c) : ∀ x,F (fun k=>-c k) (Akj hc) x = -F c hc x:=Dm fun a=>pt fun n=>Air c _ n
def sg : Nat → Rat
  | 0=>1
  | k + 1=>-sg k
theorem xD (a : Rat) : ∀ k,tm (-a) k = sg k * tm a k
  | 0=>by show (1 : Rat) = 1 * 1; grind
  | k + 1=>by
    show tm (-a) k * -a / (k + 1) = -sg k * (tm a k * a / (k + 1))
    rw [xD a k]
    grind
theorem Afl (c : Nat → Rat) (a : Rat) : ∀ n,S c n (-a) = S (fun k=>sg k * c k) n a
  | 0=>rfl
  | n + 1=>by
    show S c n (-a) + c n * tm (-a) n = S (fun k=>sg k * c k) n a + sg n * c n * tm a n
    rw [Afl c a n,xD]
    grind
theorem Acw : ∀ k,-1 ≤ sg k ∧ sg k ≤ 1
  | 0=>by constructor <;> decide
  | k + 1=>by have:=Acw k; show -1 ≤ -sg k ∧ -sg k ≤ 1; constructor <;> grind
theorem Alq {c : Nat → Rat} (hc : Un c) : Un (fun k=>sg k * c k):=fun k=>by
  have:=Bd.mul (Acw k).1 (Acw k).2 (hc k).1 (hc k).2
  constructor <;> grind
theorem Afq (c : Nat → Rat) (hc : Un c) : ∀ x,F c hc (-x) = F (fun k=>sg k * c k) (Alq hc) x:=Dm fun a=>pt fun n=>Afl c _ n
theorem Afr {c d : Nat → Rat} (hc : Un c) (hd : Un d) (h : ∀ k,c k = d k) (x : R) : F c hc x = F d hd x:=by
  have : c = d:=funext h
  subst this
  rfl
theorem Ag7 {P : R → R → R → R → R → Prop} (h : ∀ a b c d e,P (mk a) (mk b) (mk c) (mk d) (mk e)) (x y z u v : R) : P x y z u v:=Mv (P:=fun x y z u=>P x y z u v) (fun a b c d=>Dm (P:=fun v=>P (mk a) (mk b) (mk c) (mk d) v) (fun e=>h a b c d e) v) x y z u
theorem Aea {P : R → R → R → R → R → R → Prop} (h : ∀ a b c d e f,P (mk a) (mk b) (mk c) (mk d) (mk e) (mk f)) (x y z u v w : R) : P x y z u v w:=Ag7 (P:=fun x y z u v=>P x y z u v w) (fun a b c d e=>Dm (P:=fun w=>P (mk a) (mk b) (mk c) (mk d) (mk e) w) (fun f=>h a b c d e f) w) x y z u v
theorem Ajq {P : R → R → R → R → R → R → R → Prop} (h : ∀ a b c d e f g,P (mk a) (mk b) (mk c) (mk d) (mk e) (mk f) (mk g)) (x y z u v w t : R) : P x y z u v w t:=Aea (P:=fun x y z u v w=>P x y z u v w t) (fun a b c d e f=>Dm (P:=fun t=>P (mk a) (mk b) (mk c) (mk d) (mk e) (mk f) t) (fun g=>h a b c d e f g) t) x y z u v w
theorem k7 (h : R) : q 0 ≤ h * h:=D3 h
theorem Ab.sq {x e : R} (h : Ab x e) : x * x ≤ e * e:=(h.mul h).2
theorem I0 {x e : R} (h0 : q 0 ≤ x) (h : x ≤ e) : Ab x e:=⟨le_trans (Iu (le_trans h0 h)) h0,h⟩
theorem Jj {a : Rat} (h : 0 ≤ a) : q 0 ≤ q a:=Dd.2 h
theorem Afc {a b : Rat} (h1 : -b ≤ a) (h2 : a ≤ b) : Ab (q a) (q b):=⟨by rw [← Ii]; exact Dd.2 h1,Dd.2 h2⟩
theorem uT (x y : R) : (x + y) * (x + y) ≤ q 2 * (x * x) + q 2 * (y * y):=J0 (by
  have e : q 2 * (x * x) + q 2 * (y * y) - (x + y) * (x + y) = (x - y) * (x - y):=Gw (P:=fun x y=>q 2 * (x * x) + q 2 * (y * y) - (x + y) * (x + y) = (x - y) * (x - y)) (fun a b=>pt fun n=>by
    show 2 * (a.f n * a.f n) + 2 * (b.f n * b.f n) - (a.f n + b.f n) * (a.f n + b.f n) = (a.f n - b.f n) * (a.f n - b.f n)
    grind) x y
  rw [e]
  exact D3 _)
structure Sm (P : R → Prop) (f g : R → R) : Prop where
  ex : ∃ B : Rat,0 ≤ B ∧ (∀ x,P x → Ab (f x) (q B)) ∧ (∀ x,P x → Ab (g x) (q B)) ∧ (∀ x h,P x → P (x + h) → Ab (f (x + h) - f x - h * g x) (q B * (h * h))) ∧ ∀ x h,P x → P (x + h) → (f (x + h) - f x) * (f (x + h) - f x) ≤ q B * (h * h)
def Fin (P : R → Prop) : Prop:=∃ D : Rat,0 ≤ D ∧ ∀ x,P x → Ab x (q D)
theorem qb {B C : Rat} (h : B ≤ C) (x : R) : q B * (x * x) ≤ q C * (x * x):=B6 (Dd.2 h) (k7 x)
theorem Sm.congr {P : R → Prop} {f g g' : R → R} (h : Sm P f g) (e : ∀ x,P x → g x = g' x) : Sm P f g':=by
  obtain ⟨B,h0,h1,h2,h3,h4⟩:=h.ex
  exact ⟨B,h0,h1,fun x hx=>e x hx ▸ h2 x hx,fun x k hx hk=>e x hx ▸ h3 x k hx hk,h4⟩
theorem Sm.congrf {P : R → Prop} {f f' g : R → R} (h : Sm P f g) (e : ∀ x,P x → f x = f' x) : Sm P f' g:=by
  obtain ⟨B,h0,h1,h2,h3,h4⟩:=h.ex
  refine ⟨B,h0,fun x hx=>e x hx ▸ h1 x hx,h2,fun x k hx hk=>?_,fun x k hx hk=>?_⟩
  · rw [← e x hx,← e _ hk]; exact h3 x k hx hk
  · rw [← e x hx,← e _ hk]; exact h4 x k hx hk
theorem Sm.sub_dom {P Q : R → Prop} {f g : R → R} (h : Sm P f g) (e : ∀ x,Q x → P x) : Sm Q f g:=by
  obtain ⟨B,h0,h1,h2,h3,h4⟩:=h.ex
  exact ⟨B,h0,fun x hx=>h1 x (e x hx),fun x hx=>h2 x (e x hx),fun x k hx hk=>h3 x k (e x hx) (e _ hk),fun x k hx hk=>h4 x k (e x hx) (e _ hk)⟩
theorem dH (c : R) : ∃ B : Rat,0 ≤ B ∧ Ab c (q B):=by
  obtain ⟨n,h1,h2⟩:=Abl c
  exact ⟨n,S9 n,h2,h1⟩
theorem Sm.const (P : R → Prop) (c : R) : Sm P (fun _=>c) (fun _=>q 0):=by
  obtain ⟨B,h0,hc⟩:=dH c
  refine ⟨B,h0,fun _ _=>hc,fun _ _=>Afc (by grind) h0,fun x h _ _=>?_,fun x h _ _=>?_⟩
  · rw [sub_self,mul_zero,sub_self]
    exact I0 (le_refl _) (mul_nonneg (Jj h0) (k7 h))
  · rw [sub_self,zero_mul]
    exact mul_nonneg (Jj h0) (k7 h)
theorem J2 : ∀ x h : R,x + h - x = h:=Gw fun a b=>pt fun n=>by show a.f n + b.f n - a.f n = b.f n; grind
theorem Sm.id {P : R → Prop} (hP : Fin P) : Sm P (fun x=>x) (fun _=>q 1):=by
  obtain ⟨D,hD,hP⟩:=hP
  refine ⟨D + 1,by grind,fun x hx=>(hP x hx).mono (Dd.2 (by grind)),fun _ _=>Afc (by grind) (by grind),fun x h _ _=>?_,fun x h _ _=>?_⟩
  · show Ab (x + h - x - h * q 1) _
    rw [J2,mul_one,sub_self]
    exact I0 (le_refl _) (mul_nonneg (Jj (by grind)) (k7 h))
  · show (x + h - x) * (x + h - x) ≤ _
    rw [J2]
    have:=qb (show (1 : Rat) ≤ D + 1 by grind) h
    rwa [one_mul] at this
theorem Sm.add {P : R → Prop} {f g k l : R → R} (h1 : Sm P f g) (h2 : Sm P k l) : Sm P (fun x=>f x + k x) (fun x=>g x + l x):=by
  obtain ⟨B,b0,b1,b2,b3,b4⟩:=h1.ex
  obtain ⟨C,c0,c1,c2,c3,c4⟩:=h2.ex
  refine ⟨2 * B + 2 * C,by grind,fun x hx=>((b1 x hx).add (c1 x hx)).mono (by rw [← L3]; exact Dd.2 (by grind)),fun x hx=>((b2 x hx).add (c2 x hx)).mono (by rw [← L3]; exact Dd.2 (by grind)),fun x h hx hh=>?_,fun x h hx hh=>?_⟩
  · have e : f (x + h) + k (x + h) - (f x + k x) - h * (g x + l x) = (f (x + h) - f x - h * g x) + (k (x + h) - k x - h * l x):=Ajq (P:=fun f1 k1 f0 k0 h g l=>f1 + k1 - (f0 + k0) - h * (g + l) = (f1 - f0 - h * g) + (k1 - k0 - h * l)) (fun f1 k1 f0 k0 h g l=>pt fun n=>by
      show f1.f n + k1.f n - (f0.f n + k0.f n) - h.f n * (g.f n + l.f n) = (f1.f n - f0.f n - h.f n * g.f n) + (k1.f n - k0.f n - h.f n * l.f n)
      grind) (f (x + h)) (k (x + h)) (f x) (k x) h (g x) (l x)
    show Ab (f (x + h) + k (x + h) - (f x + k x) - h * (g x + l x)) _
    rw [e]
    refine ((b3 x h hx hh).add (c3 x h hx hh)).mono ?_
    rw [← add_mul,← L3]
    exact qb (by grind) h
  · have e : f (x + h) + k (x + h) - (f x + k x) = (f (x + h) - f x) + (k (x + h) - k x):=Mv (P:=fun f1 k1 f0 k0=>f1 + k1 - (f0 + k0) = (f1 - f0) + (k1 - k0)) (fun f1 k1 f0 k0=>pt fun n=>by
      show f1.f n + k1.f n - (f0.f n + k0.f n) = (f1.f n - f0.f n) + (k1.f n - k0.f n)
      grind) (f (x + h)) (k (x + h)) (f x) (k x)
    show (f (x + h) + k (x + h) - (f x + k x)) * (f (x + h) + k (x + h) - (f x + k x)) ≤ _
    rw [e]
    refine le_trans (uT _ _) (le_trans (Bc (Ba (b4 x h hx hh) (Jj (by decide))) (Ba (c4 x h hx hh) (Jj (by decide)))) ?_)
    rw [← mul_assoc,← Ez,← mul_assoc (q 2),← Ez,← add_mul,← L3]
    exact le_refl _
theorem Sm.neg {P : R → Prop} {f g : R → R} (h1 : Sm P f g) : Sm P (fun x=>-f x) (fun x=>-g x):=by
  obtain ⟨B,b0,b1,b2,b3,b4⟩:=h1.ex
  refine ⟨B,b0,fun x hx=>(b1 x hx).neg,fun x hx=>(b2 x hx).neg,fun x h hx hh=>?_,fun x h hx hh=>?_⟩
  · have e : -f (x + h) - -f x - h * -g x = -(f (x + h) - f x - h * g x):=Mv (P:=fun f1 f0 h g=>-f1 - -f0 - h * -g = -(f1 - f0 - h * g)) (fun f1 f0 h g=>pt fun n=>by
      show -f1.f n - -f0.f n - h.f n * -g.f n = -(f1.f n - f0.f n - h.f n * g.f n)
      grind) (f (x + h)) (f x) h (g x)
    show Ab (-f (x + h) - -f x - h * -g x) _
    rw [e]
    exact (b3 x h hx hh).neg
  · have e : (-f (x + h) - -f x) * (-f (x + h) - -f x) = (f (x + h) - f x) * (f (x + h) - f x):=Gw (P:=fun f1 f0=>(-f1 - -f0) * (-f1 - -f0) = (f1 - f0) * (f1 - f0)) (fun f1 f0=>pt fun n=>by
      show (-f1.f n - -f0.f n) * (-f1.f n - -f0.f n) = (f1.f n - f0.f n) * (f1.f n - f0.f n)
      grind) (f (x + h)) (f x)
    show (-f (x + h) - -f x) * (-f (x + h) - -f x) ≤ _
    rw [e]
    exact b4 x h hx hh
theorem Sm.sub {P : R → Prop} {f g k l : R → R} (h1 : Sm P f g) (h2 : Sm P k l) : Sm P (fun x=>f x - k x) (fun x=>g x - l x):=((h1.add h2.neg).congrf fun x _=>Ev _ _).congr fun x _=>Ev _ _
theorem Ak4 (h k : R) : Ab (h * k) (h * h + k * k):=by
  have e1 : h * h + k * k - h * k = q (3/4) * ((h - k) * (h - k)) + q (1/4) * ((h + k) * (h + k)):=Gw (P:=fun h k=>h * h + k * k - h * k = q (3/4) * ((h - k) * (h - k)) + q (1/4) * ((h + k) * (h + k))) (fun a b=>pt fun n=>by
    show a.f n * a.f n + b.f n * b.f n - a.f n * b.f n = 3/4 * ((a.f n - b.f n) * (a.f n - b.f n)) + 1/4 * ((a.f n + b.f n) * (a.f n + b.f n))
    grind) h k
  have e2 : h * k - -(h * h + k * k) = q (1/4) * ((h - k) * (h - k)) + q (3/4) * ((h + k) * (h + k)):=Gw (P:=fun h k=>h * k - -(h * h + k * k) = q (1/4) * ((h - k) * (h - k)) + q (3/4) * ((h + k) * (h + k))) (fun a b=>pt fun n=>by
    show a.f n * b.f n - -(a.f n * a.f n + b.f n * b.f n) = 1/4 * ((a.f n - b.f n) * (a.f n - b.f n)) + 3/4 * ((a.f n + b.f n) * (a.f n + b.f n))
    grind) h k
  refine ⟨J0 ?_,J0 ?_⟩
  · rw [e2]
    exact Jm (mul_nonneg (Jj (by grind)) (D3 _)) (mul_nonneg (Jj (by grind)) (D3 _))
  · rw [e1]
    exact Jm (mul_nonneg (Jj (by grind)) (D3 _)) (mul_nonneg (Jj (by grind)) (D3 _))
theorem Sm.two {P : R → Prop} {f g k l : R → R} (h1 : Sm P f g) (h2 : Sm P k l) : ∃ M : Rat,1 ≤ M ∧ (∀ x,P x → Ab (f x) (q M) ∧ Ab (g x) (q M) ∧ Ab (k x) (q M) ∧ Ab (l x) (q M)) ∧
    ∀ x h,P x → P (x + h) → Ab (f (x + h) - f x - h * g x) (q M * (h * h)) ∧ (f (x + h) - f x) * (f (x + h) - f x) ≤ q M * (h * h) ∧ Ab (k (x + h) - k x - h * l x) (q M * (h * h)) ∧ (k (x + h) - k x) * (k (x + h) - k x) ≤ q M * (h * h):=by
  obtain ⟨B,b0,b1,b2,b3,b4⟩:=h1.ex
  obtain ⟨C,c0,c1,c2,c3,c4⟩:=h2.ex
  have hB : B ≤ B + C + 1:=by grind
  have hC : C ≤ B + C + 1:=by grind
  exact ⟨B + C + 1,by grind,fun x hx=>⟨(b1 x hx).mono (Dd.2 hB),(b2 x hx).mono (Dd.2 hB),(c1 x hx).mono (Dd.2 hC),(c2 x hx).mono (Dd.2 hC)⟩,
    fun x h hx hh=>⟨(b3 x h hx hh).mono (qb hB h),le_trans (b4 x h hx hh) (qb hB h),(c3 x h hx hh).mono (qb hC h),le_trans (c4 x h hx hh) (qb hC h)⟩⟩
theorem Aks {M : Rat} (h : 1 ≤ M) : M ≤ M * M ∧ M * M ≤ M * M * M ∧ M * M * M ≤ M * M * (M * M):=by
  have h0:=Rat.mul_nonneg (show 0 ≤ M by grind) (show 0 ≤ M - 1 by grind)
  have h1:=Rat.mul_nonneg (show 0 ≤ M * M - M by grind) (show 0 ≤ M by grind)
  have h2:=Rat.mul_nonneg (show 0 ≤ M * M * M - M * M by grind) (show 0 ≤ M by grind)
  refine ⟨by grind,by grind,by grind⟩
theorem Yx {x y a b : R} (h1 : x * x ≤ a) (h2 : y * y ≤ b) (ha : q 0 ≤ a) : x * y * (x * y) ≤ a * b:=by
  have e : x * y * (x * y) = x * x * (y * y):=by rw [mul_assoc,mul_assoc,Ga y]
  rw [e]
  exact le_trans (B6 h1 (D3 y)) (Ba h2 ha)
theorem Sm.mul {P : R → Prop} {f g k l : R → R} (h1 : Sm P f g) (h2 : Sm P k l) : Sm P (fun x=>f x * k x) (fun x=>g x * k x + f x * l x):=by
  obtain ⟨M,hM,bd,er⟩:=h1.two h2
  obtain ⟨m1,m2,m3⟩:=Aks hM
  refine ⟨8 * (M * M * (M * M)),by grind,fun x hx=>?_,fun x hx=>?_,fun x h hx hh=>?_,fun x h hx hh=>?_⟩
  · obtain ⟨b1,b2,c1,c2⟩:=bd x hx
    exact (b1.mul c1).mono (by rw [← Ez]; exact Dd.2 (by grind))
  · obtain ⟨b1,b2,c1,c2⟩:=bd x hx
    exact ((b2.mul c1).add (b1.mul c2)).mono (by rw [← Ez,← L3]; exact Dd.2 (by grind))
  · obtain ⟨b1,b2,c1,c2⟩:=bd x hx
    obtain ⟨_,_,d1,_⟩:=bd _ hh
    obtain ⟨b3,b4,c3,c4⟩:=er x h hx hh
    have e : f (x + h) * k (x + h) - f x * k x - h * (g x * k x + f x * l x) = (f (x + h) - f x - h * g x) * k (x + h) + g x * (h * (k (x + h) - k x)) + f x * (k (x + h) - k x - h * l x):=Ajq (P:=fun f1 k1 f0 k0 h g l=>f1 * k1 - f0 * k0 - h * (g * k0 + f0 * l) = (f1 - f0 - h * g) * k1 + g * (h * (k1 - k0)) + f0 * (k1 - k0 - h * l)) (fun f1 k1 f0 k0 h g l=>pt fun n=>by
      show f1.f n * k1.f n - f0.f n * k0.f n - h.f n * (g.f n * k0.f n + f0.f n * l.f n) = (f1.f n - f0.f n - h.f n * g.f n) * k1.f n + g.f n * (h.f n * (k1.f n - k0.f n)) + f0.f n * (k1.f n - k0.f n - h.f n * l.f n)
      grind) (f (x + h)) (k (x + h)) (f x) (k x) h (g x) (l x)
    show Ab (f (x + h) * k (x + h) - f x * k x - h * (g x * k x + f x * l x)) _
    rw [e]
    have p1:=b3.mul d1
    have p2:=b2.mul ((Ak4 h (k (x + h) - k x)).mono (Bc (le_refl _) c4))
    have p3:=b1.mul c3
    refine ((p1.add p2).add p3).mono ?_
    have e2 : q M * (h * h) * q M + q M * (h * h + q M * (h * h)) + q M * (q M * (h * h)) = q (3 * (M * M) + M) * (h * h):=Dm (P:=fun h=>q M * (h * h) * q M + q M * (h * h + q M * (h * h)) + q M * (q M * (h * h)) = q (3 * (M * M) + M) * (h * h)) (fun h=>pt fun n=>by
      show M * (h.f n * h.f n) * M + M * (h.f n * h.f n + M * (h.f n * h.f n)) + M * (M * (h.f n * h.f n)) = (3 * (M * M) + M) * (h.f n * h.f n)
      grind) h
    rw [e2]
    exact qb (by grind) h
  · obtain ⟨b1,b2,c1,c2⟩:=bd x hx
    obtain ⟨_,_,d1,_⟩:=bd _ hh
    obtain ⟨b3,b4,c3,c4⟩:=er x h hx hh
    have e : f (x + h) * k (x + h) - f x * k x = (f (x + h) - f x) * k (x + h) + f x * (k (x + h) - k x):=Mv (P:=fun f1 k1 f0 k0=>f1 * k1 - f0 * k0 = (f1 - f0) * k1 + f0 * (k1 - k0)) (fun f1 k1 f0 k0=>pt fun n=>by
      show f1.f n * k1.f n - f0.f n * k0.f n = (f1.f n - f0.f n) * k1.f n + f0.f n * (k1.f n - k0.f n)
      grind) (f (x + h)) (k (x + h)) (f x) (k x)
    show (f (x + h) * k (x + h) - f x * k x) * (f (x + h) * k (x + h) - f x * k x) ≤ _
    rw [e]
    have hM0 : q 0 ≤ q M * (h * h):=mul_nonneg (Jj (by grind)) (k7 h)
    have p1:=Yx b4 d1.sq hM0
    have p2:=Yx b1.sq c4 (by rw [← Ez]; exact Jj (by grind))
    refine le_trans (uT _ _) (le_trans (Bc (Ba p1 (Jj (by decide))) (Ba p2 (Jj (by decide)))) ?_)
    have e2 : q 2 * (q M * (h * h) * (q M * q M)) + q 2 * (q M * q M * (q M * (h * h))) = q (4 * (M * M * M)) * (h * h):=Dm (P:=fun h=>q 2 * (q M * (h * h) * (q M * q M)) + q 2 * (q M * q M * (q M * (h * h))) = q (4 * (M * M * M)) * (h * h)) (fun h=>pt fun n=>by
      show 2 * (M * (h.f n * h.f n) * (M * M)) + 2 * (M * M * (M * (h.f n * h.f n))) = (4 * (M * M * M)) * (h.f n * h.f n)
      grind) h
    rw [e2]
    exact qb (by grind) h
theorem Sm.comp {P Q : R → Prop} {f g k l : R → R} (h1 : Sm Q f g) (h2 : Sm P k l) (hQ : ∀ x,P x → Q (k x)) : Sm P (fun x=>f (k x)) (fun x=>g (k x) * l x):=by
  obtain ⟨B,b0,b1,b2,b3,b4⟩:=h1.ex
  obtain ⟨C,c0,c1,c2,c3,c4⟩:=h2.ex
  have bc:=Rat.mul_nonneg b0 c0
  have ek : ∀ x h,k x + (k (x + h) - k x) = k (x + h):=fun x h=>by rw [add_comm,C7]
  refine ⟨2 * (B * C) + B,by grind,fun x hx=>(b1 _ (hQ x hx)).mono (Dd.2 (by grind)),fun x hx=>((b2 _ (hQ x hx)).mul (c2 x hx)).mono (by rw [← Ez]; exact Dd.2 (by grind)),fun x h hx hh=>?_,fun x h hx hh=>?_⟩
  · have r:=b3 (k x) (k (x + h) - k x) (hQ x hx) (by rw [ek]; exact hQ _ hh)
    rw [ek] at r
    have r2:=r.mono (Ba (c4 x h hx hh) (Jj b0))
    have r3:=(b2 _ (hQ x hx)).mul (c3 x h hx hh)
    have e : f (k (x + h)) - f (k x) - h * (g (k x) * l x) = f (k (x + h)) - f (k x) - (k (x + h) - k x) * g (k x) + g (k x) * (k (x + h) - k x - h * l x):=Ajq (P:=fun f1 f0 k1 k0 h g l=>f1 - f0 - h * (g * l) = f1 - f0 - (k1 - k0) * g + g * (k1 - k0 - h * l)) (fun f1 f0 k1 k0 h g l=>pt fun n=>by
      show f1.f n - f0.f n - h.f n * (g.f n * l.f n) = f1.f n - f0.f n - (k1.f n - k0.f n) * g.f n + g.f n * (k1.f n - k0.f n - h.f n * l.f n)
      grind) (f (k (x + h))) (f (k x)) (k (x + h)) (k x) h (g (k x)) (l x)
    show Ab (f (k (x + h)) - f (k x) - h * (g (k x) * l x)) _
    rw [e]
    refine (r2.add r3).mono ?_
    rw [← mul_assoc (q B) (q C) (h * h),← Ez,← add_mul,← L3]
    exact qb (by grind) h
  · have r:=b4 (k x) (k (x + h) - k x) (hQ x hx) (by rw [ek]; exact hQ _ hh)
    rw [ek] at r
    refine le_trans r (le_trans (Ba (c4 x h hx hh) (Jj b0)) ?_)
    rw [← mul_assoc,← Ez]
    exact qb (by grind) h
theorem Sm.inv {P : R → Prop} {f g k : R → R} (h1 : Sm P f g) (hk : ∀ x,P x → f x * k x = q 1) (hb : ∃ C : Rat,0 ≤ C ∧ ∀ x,P x → Ab (k x) (q C)) : Sm P k (fun x=>-(k x * k x * g x)):=by
  obtain ⟨B,b0,b1,b2,b3,b4⟩:=h1.ex
  obtain ⟨C,c0,c1⟩:=hb
  obtain ⟨M,hM,hBM,hCM⟩ : ∃ M : Rat,1 ≤ M ∧ B ≤ M ∧ C ≤ M:=⟨B + C + 1,by grind,by grind,by grind⟩
  obtain ⟨m1,m2,m3⟩:=Aks hM
  have m4:=Rat.mul_nonneg (show 0 ≤ M * M * (M * M) - M * M * M by grind) (show 0 ≤ M by grind)
  have c2 : ∀ x,P x → Ab (k x) (q M):=fun x hx=>(c1 x hx).mono (Dd.2 hCM)
  have dif : ∀ x h,P x → P (x + h) → k (x + h) - k x = -(k (x + h) * k x * (f (x + h) - f x)):=fun x h hx hh=>by
    have e1:=hk x hx
    have e2:=hk _ hh
    have : -(k (x + h) * k x * (f (x + h) - f x)) = k (x + h) * (f x * k x) - k x * (f (x + h) * k (x + h)):=Mv (P:=fun k1 k0 f1 f0=>-(k1 * k0 * (f1 - f0)) = k1 * (f0 * k0) - k0 * (f1 * k1)) (fun k1 k0 f1 f0=>pt fun n=>by
      show -(k1.f n * k0.f n * (f1.f n - f0.f n)) = k1.f n * (f0.f n * k0.f n) - k0.f n * (f1.f n * k1.f n)
      grind) (k (x + h)) (k x) (f (x + h)) (f x)
    rw [this,e1,e2,mul_one,mul_one]
  refine ⟨2 * (M * M * (M * M) * M),by grind,fun x hx=>(c2 x hx).mono (Dd.2 (by grind)),fun x hx=>((((c2 x hx).mul (c2 x hx)).mul ((b2 x hx).mono (Dd.2 hBM))).neg).mono (by rw [← Ez,← Ez]; exact Dd.2 (by grind)),fun x h hx hh=>?_,fun x h hx hh=>?_⟩
  · have e : k (x + h) - k x - h * -(k x * k x * g x) = -(k x * k x * (f (x + h) - f x - h * g x)) + k x * (k (x + h) * k x * ((f (x + h) - f x) * (f (x + h) - f x))):=by
      have d:=dif x h hx hh
      have t : k (x + h) - k x - h * -(k x * k x * g x) = -(k x * k x * (f (x + h) - f x - h * g x)) + (k (x + h) - k x) + k x * k x * (f (x + h) - f x):=Aea (P:=fun k1 k0 f1 f0 h g=>k1 - k0 - h * -(k0 * k0 * g) = -(k0 * k0 * (f1 - f0 - h * g)) + (k1 - k0) + k0 * k0 * (f1 - f0)) (fun k1 k0 f1 f0 h g=>pt fun n=>by
        show k1.f n - k0.f n - h.f n * -(k0.f n * k0.f n * g.f n) = -(k0.f n * k0.f n * (f1.f n - f0.f n - h.f n * g.f n)) + (k1.f n - k0.f n) + k0.f n * k0.f n * (f1.f n - f0.f n)
        grind) (k (x + h)) (k x) (f (x + h)) (f x) h (g x)
      have t2 : k x * (k (x + h) * k x * ((f (x + h) - f x) * (f (x + h) - f x))) = -(k x * (f (x + h) - f x) * (-(k (x + h) * k x * (f (x + h) - f x)))):=Mw (P:=fun k1 k0 d=>k0 * (k1 * k0 * (d * d)) = -(k0 * d * (-(k1 * k0 * d)))) (fun k1 k0 d=>pt fun n=>by
        show k0.f n * (k1.f n * k0.f n * (d.f n * d.f n)) = -(k0.f n * d.f n * (-(k1.f n * k0.f n * d.f n)))
        grind) (k (x + h)) (k x) (f (x + h) - f x)
      rw [t,t2,← d]
      have t3 : -(k x * (f (x + h) - f x) * (k (x + h) - k x)) = k x * k x * (f (x + h) - f x) + -(k (x + h) * k x * (f (x + h) - f x)):=Mw (P:=fun k1 k0 d=>-(k0 * d * (k1 - k0)) = k0 * k0 * d + -(k1 * k0 * d)) (fun k1 k0 d=>pt fun n=>by
        show -(k0.f n * d.f n * (k1.f n - k0.f n)) = k0.f n * k0.f n * d.f n + -(k1.f n * k0.f n * d.f n)
        grind) (k (x + h)) (k x) (f (x + h) - f x)
      rw [t3,← d,add_assoc,add_comm (k (x + h) - k x)]
    rw [e]
    have p1:=(((c2 x hx).mul (c2 x hx)).mul ((b3 x h hx hh).mono (qb hBM h))).neg
    have p2:=(c2 x hx).mul (((c2 _ hh).mul (c2 x hx)).mul (I0 (D3 _) (le_trans (b4 x h hx hh) (qb hBM h))))
    refine (p1.add p2).mono ?_
    have e2 : q M * q M * (q M * (h * h)) + q M * (q M * q M * (q M * (h * h))) = q (M * M * M + M * M * (M * M)) * (h * h):=Dm (P:=fun h=>q M * q M * (q M * (h * h)) + q M * (q M * q M * (q M * (h * h))) = q (M * M * M + M * M * (M * M)) * (h * h)) (fun h=>pt fun n=>by
      show M * M * (M * (h.f n * h.f n)) + M * (M * M * (M * (h.f n * h.f n))) = (M * M * M + M * M * (M * M)) * (h.f n * h.f n)
      grind) h
    rw [e2]
    exact qb (by grind) h
  · rw [dif x h hx hh,neg_mul,mul_neg,neg_neg]
    have p:=Yx (((c2 _ hh).mul (c2 x hx)).sq) (le_trans (b4 x h hx hh) (qb hBM h)) (by rw [← Ez,← Ez]; exact Jj (by have:=Rat.mul_nonneg (show 0 ≤ M * M by grind) (show 0 ≤ M * M by grind); grind))
    refine le_trans p ?_
    rw [← mul_assoc,← Ez,← Ez,← Ez]
    exact qb (by grind) h
theorem Sm.mono {P : R → Prop} {f g : R → R} (hf : Sm P f g) {a b : R} (hab : a ≤ b) (hP : ∀ x,a ≤ x → x ≤ b → P x) (hg : ∀ x,a ≤ x → x ≤ b → q 0 ≤ g x) : f a ≤ f b:=by
  obtain ⟨B,b0,b1,b2,b3,b4⟩:=hf.ex
  refine mv f a b B 1 b0 (by decide) hab fun x h hx h0 h1 hb=>?_
  have hxb : x ≤ b:=le_trans (by have:=Bc (le_refl x) h0; rwa [add_zero] at this) hb
  have hax : a ≤ x + h:=le_trans hx (by have:=Bc (le_refl x) h0; rwa [add_zero] at this)
  have r:=(b3 x h (hP x hx hxb) (hP _ hax hb)).1
  have g0:=mul_nonneg h0 (hg x hx hxb)
  have : q 0 ≤ (f (x + h) - f x - h * g x - -(q B * (h * h))) + h * g x:=Jm (Ir r) g0
  refine J0 ?_
  have e : f (x + h) + q B * (h * h) - f x = (f (x + h) - f x - h * g x - -(q B * (h * h))) + h * g x:=Mv (P:=fun f1 f0 y z=>f1 + y - f0 = (f1 - f0 - z - -y) + z) (fun f1 f0 y z=>pt fun n=>by
    show f1.f n + y.f n - f0.f n = (f1.f n - f0.f n - z.f n - -y.f n) + z.f n
    grind) (f (x + h)) (f x) (q B * (h * h)) (h * g x)
  rw [e]
  exact this
theorem Sm.const_of {P : R → Prop} {f g : R → R} (hf : Sm P f g) {a b : R} (hab : a ≤ b) (hP : ∀ x,a ≤ x → x ≤ b → P x) (hg : ∀ x,a ≤ x → x ≤ b → g x = q 0) : f a = f b:=by
  refine Cs (hf.mono hab hP fun x h1 h2=>by rw [hg x h1 h2]; exact le_refl _) ?_
  have:=hf.neg.mono hab hP fun x h1 h2=>by rw [hg x h1 h2]; exact Fo (le_refl _)
  have:=Bw this
  rwa [neg_neg,neg_neg] at this
def cs : Nat → Rat × Rat
  | 0=>(1,0)
  | k + 1=>(-(cs k).2,(cs k).1)
def cE : Nat → Rat:=fun _=>1
def cC : Nat → Rat:=fun k=>(cs k).1
def cS : Nat → Rat:=fun k=>(cs k).2
theorem Aey : ∀ k,(-1 ≤ (cs k).1 ∧ (cs k).1 ≤ 1) ∧ -1 ≤ (cs k).2 ∧ (cs k).2 ≤ 1
  | 0=>by
    show ((-1 : Rat) ≤ 1 ∧ (1 : Rat) ≤ 1) ∧ (-1 : Rat) ≤ 0 ∧ (0 : Rat) ≤ 1
    decide
  | k + 1=>by
    have:=Aey k
    show (-1 ≤ -(cs k).2 ∧ -(cs k).2 ≤ 1) ∧ -1 ≤ (cs k).1 ∧ (cs k).1 ≤ 1
    refine ⟨⟨by grind,by grind⟩,by grind,by grind⟩
theorem uE : Un cE:=fun k=>by show (-1 : Rat) ≤ 1 ∧ (1 : Rat) ≤ 1; decide
theorem uC : Un cC:=fun k=>(Aey k).1
theorem uS : Un cS:=fun k=>(Aey k).2
def ex : R → R:=F cE uE
def sn : R → R:=F cS uS
def cn : R → R:=F cC uC
theorem Acv : ∀ k,sg k * (cs k).1 = (cs k).1 ∧ sg k * (cs k).2 = -(cs k).2
  | 0=>by
    show (1 : Rat) * 1 = 1 ∧ (1 : Rat) * 0 = -0
    constructor <;> grind
  | k + 1=>by
    have:=Acv k
    show -sg k * -(cs k).2 = -(cs k).2 ∧ -sg k * (cs k).1 = -(cs k).1
    constructor <;> grind
theorem Mf (x : R) : cn (-x) = cn x:=by
  unfold cn
  rw [Afq]
  exact Afr _ _ (fun k=>(Acv k).1) x
theorem L1 (x : R) : sn (-x) = -sn x:=by
  unfold sn
  rw [Afq,← Aiv]
  exact Afr _ _ (fun k=>(Acv k).2) x
theorem Y9 : ex (q 0) = q 1:=x8 cE uE
theorem pT : cn (q 0) = q 1:=x8 cC uC
theorem Ih : sn (q 0) = q 0:=x8 cS uS
def Up (A : Rat) : R → Prop:=fun x=>Ab x (q A)
theorem V5 {A : Rat} (h : 0 ≤ A) : Fin (Up A):=⟨A,h,fun x hx=>hx⟩
theorem Aj7 (c : Nat → Rat) (hc : Un c) (A : Rat) (hA : 0 ≤ A) : Sm (Up A) (F c hc) (F (fun k=>c (k + 1)) (zG hc)):=by
  obtain ⟨B1,p1,h1⟩:=Aj8 c hc A hA
  obtain ⟨B2,p2,h2⟩:=Aj8 _ (zG hc) A hA
  obtain ⟨B3,p3,h3⟩:=Ald c hc A hA
  have t1:=Rat.mul_nonneg p3 (Rat.mul_nonneg p3 (Rat.mul_nonneg hA hA))
  have t2:=Rat.mul_nonneg p2 p2
  refine ⟨B1 + B2 + B3 + 2 * (B2 * B2) + 8 * (B3 * (B3 * (A * A))),by grind,fun x hx=>(h1 x hx).mono (Dd.2 (by grind)),fun x hx=>(h2 x hx).mono (Dd.2 (by grind)),fun x h hx hh=>(h3 x h hx hh).mono (qb (by grind) h),fun x h hx hh=>?_⟩
  have hb : Ab h (q (2 * A)):=by
    have:=(hh : Ab (x + h) (q A)).sub hx
    rw [J2,← L3] at this
    exact this.mono (Dd.2 (by grind))
  have v:=h3 x h hx hh
  have g:=h2 x hx
  obtain ⟨w,hw⟩ : ∃ w,w = F c hc (x + h) - F c hc x - h * F (fun k=>c (k + 1)) (zG hc) x:=⟨_,rfl⟩
  rw [← hw] at v
  have e : F c hc (x + h) - F c hc x = w + h * F (fun k=>c (k + 1)) (zG hc) x:=by rw [hw,C7]
  rw [e]
  refine le_trans (uT _ _) ?_
  have s1:=v.sq
  have s2:=Yx (le_refl (h * h)) g.sq (k7 h)
  have s3 : q B3 * (h * h) * (q B3 * (h * h)) ≤ q (4 * (B3 * (B3 * (A * A)))) * (h * h):=by
    have e3 : q B3 * (h * h) * (q B3 * (h * h)) = q (B3 * B3) * (h * h) * (h * h):=Dm (P:=fun h=>q B3 * (h * h) * (q B3 * (h * h)) = q (B3 * B3) * (h * h) * (h * h)) (fun h=>pt fun n=>by
      show B3 * (h.f n * h.f n) * (B3 * (h.f n * h.f n)) = B3 * B3 * (h.f n * h.f n) * (h.f n * h.f n)
      grind) h
    rw [e3]
    refine B6 (le_trans (Ba hb.sq (Jj (Rat.mul_nonneg p3 p3))) ?_) (k7 h)
    rw [← Ez,← Ez]
    exact Dd.2 (by grind)
  refine le_trans (Bc (Ba (le_trans s1 s3) (Jj (by decide))) (Ba s2 (Jj (by decide)))) ?_
  have e4 : q 2 * (q (4 * (B3 * (B3 * (A * A)))) * (h * h)) + q 2 * (h * h * (q B2 * q B2)) = q (8 * (B3 * (B3 * (A * A))) + 2 * (B2 * B2)) * (h * h):=Dm (P:=fun h=>q 2 * (q (4 * (B3 * (B3 * (A * A)))) * (h * h)) + q 2 * (h * h * (q B2 * q B2)) = q (8 * (B3 * (B3 * (A * A))) + 2 * (B2 * B2)) * (h * h)) (fun h=>pt fun n=>by
    show 2 * (4 * (B3 * (B3 * (A * A))) * (h.f n * h.f n)) + 2 * (h.f n * h.f n * (B2 * B2)) = (8 * (B3 * (B3 * (A * A))) + 2 * (B2 * B2)) * (h.f n * h.f n)
    grind) h
  rw [e4]
  exact qb (by grind) h
theorem n9 {A : Rat} (hA : 0 ≤ A) : Sm (Up A) ex ex:=Aj7 cE uE A hA
theorem bP {A : Rat} (hA : 0 ≤ A) : Sm (Up A) sn cn:=Aj7 cS uS A hA
theorem fS {A : Rat} (hA : 0 ≤ A) : Sm (Up A) cn (fun x=>-sn x):=(Aj7 cC uC A hA).congr fun x _=>by
  rw [show -sn x = F (fun k=>-cS k) (Akj uS) x from (Aiv cS uS x).symm]
  exact Afr _ _ (fun k=>rfl) x
theorem iJ {A : Rat} (hA : 0 ≤ A) (c : R) : Sm (Up A) (fun t=>c - t) (fun _=>-q 1):=
  ((Sm.const (Up A) c).sub (Sm.id (V5 hA))).congr fun x _=>by rw [Xm]
theorem dom (x y : R) : ∃ A : Rat,0 ≤ A ∧ Ab x (q A) ∧ ∀ t,Ab t (q A) → Ab (y - t) (q (2 * A)):=by
  obtain ⟨a,a0,ha⟩:=dH x
  obtain ⟨b,b0,hb⟩:=dH y
  refine ⟨a + b,by grind,ha.mono (Dd.2 (by grind)),fun t ht=>((hb.sub ht).mono ?_)⟩
  rw [← L3]
  exact Dd.2 (by grind)
theorem bB {A : Rat} {f g : R → R} (hf : Sm (Up A) f g) (hg : ∀ x,g x = q 0) {x : R} (hx : Ab x (q A)) : f x = f (q 0):=by
  have hA:=hx.nn
  have h0 : Ab (q 0) (q A):=I0 (le_refl _) hA
  rcases le_total (q 0) x with h | h
  · exact (hf.const_of h (fun y h1 h2=>I0 h1 (le_trans h2 hx.2)) (fun y _ _=>hg y)).symm
  · exact hf.const_of h (fun y h1 h2=>⟨le_trans hx.1 h1,le_trans h2 hA⟩) (fun y _ _=>hg y)
theorem Om (x y : R) : ex (x + y) = ex x * ex y:=by
  obtain ⟨A,hA,hx,hd⟩:=dom x (x + y)
  have h2 : 0 ≤ 2 * A:=by grind
  have s:=((n9 hA).mul ((n9 h2).comp (iJ hA (x + y)) hd))
  have:=bB s (fun t=>by
    generalize ex t = u
    generalize ex (x + y - t) = v
    exact Gw (P:=fun u v=>u * v + u * (v * -q 1) = q 0) (fun a b=>pt fun n=>by
      show a.f n * b.f n + a.f n * (b.f n * -1) = 0
      grind) u v) hx
  rw [Y9,one_mul,sub_zero,J2] at this
  exact this.symm
theorem dW (x y : R) : sn (x + y) = sn x * cn y + cn x * sn y:=by
  obtain ⟨A,hA,hx,hd⟩:=dom x (x + y)
  have h2 : 0 ≤ 2 * A:=by grind
  have s:=((bP hA).mul ((fS h2).comp (iJ hA (x + y)) hd)).add ((fS hA).mul ((bP h2).comp (iJ hA (x + y)) hd))
  have:=bB s (fun t=>by
    generalize sn t = a
    generalize cn t = b
    generalize sn (x + y - t) = c
    generalize cn (x + y - t) = d
    exact Mv (P:=fun a b c d=>b * d + a * (-c * -q 1) + (-a * c + b * (d * -q 1)) = q 0) (fun a b c d=>pt fun n=>by
      show b.f n * d.f n + a.f n * (-c.f n * -1) + (-a.f n * c.f n + b.f n * (d.f n * -1)) = 0
      grind) a b c d) hx
  rw [Ih,pT,one_mul,zero_mul,zero_add,sub_zero,J2] at this
  exact this.symm
theorem eQ (x y : R) : cn (x + y) = cn x * cn y - sn x * sn y:=by
  obtain ⟨A,hA,hx,hd⟩:=dom x (x + y)
  have h2 : 0 ≤ 2 * A:=by grind
  have s:=((fS hA).mul ((fS h2).comp (iJ hA (x + y)) hd)).sub ((bP hA).mul ((bP h2).comp (iJ hA (x + y)) hd))
  have:=bB s (fun t=>by
    generalize sn t = a
    generalize cn t = b
    generalize sn (x + y - t) = c
    generalize cn (x + y - t) = d
    exact Mv (P:=fun a b c d=>-a * d + b * (-c * -q 1) - (b * c + a * (d * -q 1)) = q 0) (fun a b c d=>pt fun n=>by
      show -a.f n * d.f n + b.f n * (-c.f n * -1) - (b.f n * c.f n + a.f n * (d.f n * -1)) = 0
      grind) a b c d) hx
  rw [Ih,pT,one_mul,zero_mul,sub_zero,sub_zero,J2] at this
  exact this.symm
theorem Xw (x : R) : cn x * cn x + sn x * sn x = q 1:=by
  have h:=eQ x (-x)
  rw [Mf,L1,mul_neg,J5,Ev,sub_self,pT] at h
  exact h.symm
theorem nT (x y : R) : sn (x - y) = sn x * cn y - cn x * sn y:=by rw [← Ev,dW,Mf,L1,mul_neg,Ev]
theorem wR (x y : R) : cn (x - y) = cn x * cn y + sn x * sn y:=by rw [← Ev,eQ,Mf,L1,mul_neg,J5]
theorem R4 (x : R) : ex x * ex (-x) = q 1:=by rw [← Om,Ev,sub_self,Y9]
theorem Ahe (x : R) : ex x = ex (q (1/2) * x) * ex (q (1/2) * x):=by
  rw [← Om]
  congr 1
  exact Dm (P:=fun x=>x = q (1/2) * x + q (1/2) * x) (fun a=>pt fun n=>by show a.f n = 1/2 * a.f n + 1/2 * a.f n; grind) x
theorem Qr (x : R) : q 0 < ex x:=fun h=>by
  have h0 : q 0 ≤ ex x:=by rw [Ahe]; exact D3 _
  have e:=Cs h h0
  have:=R4 x
  rw [e,zero_mul] at this
  have : (q 1 : R) ≤ q 0:=this ▸ le_refl _
  exact absurd (Dd.1 this) (by decide)
theorem Cu (a b : CS) (n : Nat) : (a.add b).f n = a.f n + b.f n:=rfl
theorem C1 (a b : CS) (n : Nat) : (a.sub b).f n = a.f n - b.f n:=rfl
theorem C4 (a : CS) (n : Nat) : (a.neg).f n = -a.f n:=rfl
theorem Ct (a b : CS) (n : Nat) : (a.mul b).f n = a.f n * b.f n:=rfl
theorem Jx (r : Rat) (n : Nat) : (CS.q r).f n = r:=rfl
theorem sr1 (c : Nat → Rat) (r : Rat) : ∀ n,SR c n (q r) = q (S c n r):=fun n=>by
  show SR c n (mk (CS.q r)) = _
  rw [nM]
  exact pt fun i=>Abv c (CS.q r) i n
theorem Alg (c : Nat → Rat) (hc : Un c) {B : Rat} (n : Nat) (r : Rat) (h1 : -r < B) (h2 : r < B) (hn : 2 * B ≤ n + 1) : Ab (F c hc (q r) - q (S c n r)) (q (2 * tm B n)):=by
  rw [← sr1]
  rcases @Rat.le_total 0 r with h | h
  · exact eZ c hc h h2 n hn _ (Afc (by grind) (by grind))
  · exact eZ c hc (A:=-r) (by grind) h1 n hn _ (Afc (by grind) (by grind))
theorem Alf {c : Nat → Rat} {hc : Un c} {B : Rat} {n : Nat} {r v : Rat} (h1 : -r < B) (h2 : r < B) (hn : 2 * B ≤ n + 1) (h : v + 2 * tm B n ≤ S c n r) : q v ≤ F c hc (q r):=by
  have:=(Alg c hc n r h1 h2 hn).1
  have:=Vp (x:=-q (2 * tm B n)) (y:=F c hc (q r)) (z:=q (S c n r)) this
  refine le_trans ?_ this
  rw [← Ii,← L3]
  exact Dd.2 (by grind)
theorem Ale {c : Nat → Rat} {hc : Un c} {B : Rat} {n : Nat} {r v : Rat} (h1 : -r < B) (h2 : r < B) (hn : 2 * B ≤ n + 1) (h : S c n r + 2 * tm B n ≤ v) : F c hc (q r) ≤ q v:=by
  have:=(Alg c hc n r h1 h2 hn).2
  have:=Vk this
  refine le_trans this ?_
  rw [← L3]
  exact Dd.2 (by grind)
theorem Hg {x y : R} (h : x * x ≤ y * y) (hy : q 0 ≤ y) : x ≤ y:=Classical.byContradiction fun k=>by
  have hx : q 0 < x:=Kw hy k
  have e:=Aii (show y < x from k)
  obtain ⟨d,hd,e⟩:=e
  have p1 : y * y ≤ y * x:=Ba (le_of_lt k) hy
  have p2 : (y + q d) * x ≤ x * x:=B6 e (le_of_lt hx)
  have p3:=mul_pos (Qb.2 hd) hx
  rw [add_mul] at p2
  have p4:=le_trans (le_trans (Bc p1 (le_refl _)) p2) h
  have : q d * x ≤ q 0:=by
    have:=Du p4 (le_refl (y * y))
    rwa [J2,sub_self] at this
  exact p3 this
theorem Ak1 (x : R) : Ab (cn x) (q 1):=by
  have h:=Xw x
  have h1 : cn x * cn x ≤ q 1 * q 1:=by
    rw [mul_one,← h]
    have:=Bc (le_refl (cn x * cn x)) (D3 (sn x))
    rwa [add_zero] at this
  refine ⟨?_,Hg h1 (Jj (by decide))⟩
  have h2 : -cn x * -cn x ≤ q 1 * q 1:=by rw [neg_mul,mul_neg,neg_neg]; exact h1
  have:=Bw (Hg h2 (Jj (by decide)))
  rwa [neg_neg] at this
theorem Zv (x : R) : Ab (sn x) (q 1):=by
  have h:=Xw x
  have h1 : sn x * sn x ≤ q 1 * q 1:=by
    rw [mul_one,← h]
    have:=Bc (D3 (cn x)) (le_refl (sn x * sn x))
    rwa [zero_add] at this
  refine ⟨?_,Hg h1 (Jj (by decide))⟩
  have h2 : -sn x * -sn x ≤ q 1 * q 1:=by rw [neg_mul,mul_neg,neg_neg]; exact h1
  have:=Bw (Hg h2 (Jj (by decide)))
  rwa [neg_neg] at this
theorem Sm.lip {P : R → Prop} {f g : R → R} (hf : Sm P f g) (hF : Fin P) {a b : R} {L : Rat} (hab : a ≤ b) (hP : ∀ x,a ≤ x → x ≤ b → P x) (hg : ∀ x,a ≤ x → x ≤ b → Ab (g x) (q L)) : Ab (f b - f a) (q L * (b - a)):=by
  have hl:=(Sm.const P (q L)).mul (Sm.id hF)
  have e : ∀ x : R,q 0 * x + q L * q 1 = q L:=fun x=>by rw [zero_mul,zero_add,mul_one]
  have h1:=(hl.sub hf).mono hab hP fun x h1 h2=>by
    rw [e]
    exact Ir (hg x h1 h2).2
  have h2:=(hl.add hf).mono hab hP fun x h1 h2=>by
    rw [e]
    have:=Ir (hg x h1 h2).1
    rw [J5,add_comm] at this
    exact this
  constructor
  · refine J0 ?_
    have:=Ir h2
    have e2 : f b - f a - -(q L * (b - a)) = q L * b + f b - (q L * a + f a):=Ag7 (P:=fun f1 f0 l b a=>f1 - f0 - -(l * (b - a)) = l * b + f1 - (l * a + f0)) (fun f1 f0 l b a=>pt fun n=>by
      show f1.f n - f0.f n - -(l.f n * (b.f n - a.f n)) = l.f n * b.f n + f1.f n - (l.f n * a.f n + f0.f n)
      grind) (f b) (f a) (q L) b a
    rw [e2]
    exact this
  · refine J0 ?_
    have:=Ir h1
    have e2 : q L * (b - a) - (f b - f a) = q L * b - f b - (q L * a - f a):=Ag7 (P:=fun f1 f0 l b a=>l * (b - a) - (f1 - f0) = l * b - f1 - (l * a - f0)) (fun f1 f0 l b a=>pt fun n=>by
      show l.f n * (b.f n - a.f n) - (f1.f n - f0.f n) = l.f n * b.f n - f1.f n - (l.f n * a.f n - f0.f n)
      grind) (f b) (f a) (q L) b a
    rw [e2]
    exact this
theorem big (a b : R) : ∃ A : Rat,0 ≤ A ∧ ∀ x,a ≤ x → x ≤ b → Ab x (q A):=by
  obtain ⟨A,hA,h1⟩:=dH a
  obtain ⟨B,hB,h2⟩:=dH b
  refine ⟨A + B,by grind,fun x h3 h4=>⟨le_trans ?_ h3,le_trans h4 ?_⟩⟩
  · exact le_trans (Bw (Dd.2 (by grind))) h1.1
  · exact le_trans h2.2 (Dd.2 (by grind))
theorem Acr {a b : R} (h : a ≤ b) : Ab (sn b - sn a) (b - a):=by
  obtain ⟨A,hA,hb⟩:=big a b
  have:=(bP hA).lip (V5 hA) h hb (L:=1) fun x _ _=>Ak1 x
  rwa [one_mul] at this
theorem Aj0 {a b : R} (h : a ≤ b) : Ab (cn b - cn a) (b - a):=by
  obtain ⟨A,hA,hb⟩:=big a b
  have:=(fS hA).lip (V5 hA) h hb (L:=1) fun x _ _=>(Zv x).neg
  rwa [one_mul] at this
def X5 : Rat:=7244019458077122842 / 4611686018427387904
def hhi : Rat:=7244019458077122843 / 4611686018427387904
set_option maxRecDepth 10000 in
theorem yM : ∃ t,q X5 ≤ t ∧ t ≤ q hhi ∧ cn t = q 0:=by
  have h1 : q 0 ≤ cn (q X5):=Alf (B:=8/5) (n:=32) (by decide +kernel) (by decide +kernel) (by decide +kernel) (by decide +kernel)
  have h2 : cn (q hhi) ≤ q 0:=Ale (B:=8/5) (n:=32) (by decide +kernel) (by decide +kernel) (by decide +kernel) (by decide +kernel)
  obtain ⟨t,a,b,c⟩:=ivt (fun x=>-cn x) X5 hhi 1 (q 0) (by decide +kernel) (by decide) (Iu h1) (Fo h2) fun x y hx hxy hy=>by
    have:=(Aj0 hxy).neg
    rw [one_mul]
    have e : -(cn y - cn x) = -cn y - -cn x:=by rw [J9,J5,add_comm,Ev]
    rwa [e] at this
  refine ⟨t,a,b,?_⟩
  have:=congrArg (fun x=>-x) c
  simp only [neg_neg] at this
  rw [this,← Ii]
  rfl
noncomputable def hp : R:=Classical.choose yM
theorem sS : q X5 ≤ hp:=(Classical.choose_spec yM).1
theorem yL : hp ≤ q hhi:=(Classical.choose_spec yM).2.1
theorem Yd : cn hp = q 0:=(Classical.choose_spec yM).2.2
theorem Fv : q 0 < hp:=lt_of_lt_of_le (Qb.2 (by decide +kernel)) sS
theorem tN {x : R} (h : Ab x (q (89/100))) : q (19/100) ≤ cn x:=by
  have t:=(eZ cC uC (A:=89/100) (B:=9/10) (by decide +kernel) (by decide +kernel) 2 (by decide +kernel) x h).1
  have e : SR cC 2 x = q 1:=by
    show q 0 + q 1 * q 1 + q (-0) * (q 1 * x * q (1 / ((0 : Nat) + 1))) = q 1
    rw [show (-0 : Rat) = 0 by decide,zero_mul,add_zero,zero_add,one_mul]
  rw [e] at t
  have:=Vp (x:=-q (2 * tm (9/10) 2)) (y:=F cC uC x) (z:=q 1) t
  refine le_trans ?_ this
  rw [← Ii,← L3]
  exact Dd.2 (by decide +kernel)
theorem Acq {x : R} (h0 : q 0 ≤ x) (h : x ≤ q (89/100)) : q (19/100) * x ≤ sn x:=by
  have hA : (0 : Rat) ≤ 89/100:=by decide +kernel
  have s:=(bP hA).sub ((Sm.const (Up (89/100)) (q (19/100))).mul (Sm.id (V5 hA)))
  have:=s.mono h0 (fun y h1 h2=>I0 h1 (le_trans h2 h)) fun y h1 h2=>by
    rw [zero_mul,zero_add,mul_one]
    exact Ir (tN (I0 h1 (le_trans h2 h)))
  rw [Ih,mul_zero,sub_zero] at this
  exact J0 this
theorem Hr (x : R) : q (1/2) * x + q (1/2) * x = x:=Dm (P:=fun x=>q (1/2) * x + q (1/2) * x = x) (fun a=>pt fun n=>by show 1/2 * a.f n + 1/2 * a.f n = a.f n; grind) x
theorem Ahb {x : R} {a : Rat} (h : x ≤ q a) : q (1/2) * x ≤ q (a / 2):=by
  have:=Ba h (Jj (show (0 : Rat) ≤ 1/2 by decide +kernel))
  rw [← Ez] at this
  exact le_trans this (Dd.2 (by grind))
theorem k8 {x : R} (h : q 0 < x) : q 0 < q (1/2) * x:=mul_pos (Qb.2 (by decide +kernel)) h
theorem Aha {x : R} (h : q 0 ≤ x) : q 0 ≤ q (1/2) * x:=mul_nonneg (Jj (by decide +kernel)) h
theorem nU {x : R} (h0 : q 0 < x) (h : x ≤ q (178/100)) : q 0 < sn x:=by
  have p1 : q 0 < q (1/2) * x:=k8 h0
  have p2 : q (1/2) * x ≤ q (89/100):=le_trans (Ahb h) (Dd.2 (by decide +kernel))
  have e : sn x = sn (q (1/2) * x) * cn (q (1/2) * x) + cn (q (1/2) * x) * sn (q (1/2) * x):=by rw [← dW,Hr]
  have s1 : q 0 < sn (q (1/2) * x):=lt_of_lt_of_le (mul_pos (Qb.2 (by decide +kernel)) p1) (Acq (le_of_lt p1) p2)
  have c1 : q 0 < cn (q (1/2) * x):=lt_of_lt_of_le (Qb.2 (by decide +kernel)) (tN (I0 (le_of_lt p1) p2))
  rw [e]
  exact Jv (mul_pos s1 c1) (le_of_lt (mul_pos c1 s1))
theorem jZ : hp ≤ q (178/100):=le_trans yL (Dd.2 (by decide +kernel))
theorem fD : sn hp = q 1:=by
  have h:=Xw hp
  rw [Yd,mul_zero,zero_add] at h
  have p:=nU Fv jZ
  refine Cs (Zv hp).2 ?_
  refine Hg ?_ (le_of_lt p)
  rw [h,mul_one]
  exact le_refl _
theorem Oz (x : R) : sn (x + hp) = cn x:=by rw [dW,Yd,fD,mul_zero,zero_add,mul_one]
theorem eP (x : R) : cn (x + hp) = -sn x:=by rw [eQ,Yd,fD,mul_zero,mul_one,Xm]
theorem Sj (x : R) : sn (hp - x) = cn x:=by rw [nT,Yd,fD,zero_mul,sub_zero,one_mul]
theorem Ze (x : R) : cn (hp - x) = sn x:=by rw [wR,Yd,fD,zero_mul,zero_add,one_mul]
theorem Hx {x : R} (h1 : -hp < x) (h2 : x < hp) : q 0 < cn x:=by
  have main : ∀ y : R,-hp < y → y ≤ q 0 → q 0 < cn y:=fun y h1 h2=>by
    rw [← Oz]
    refine nU (fun k=>h1 ?_) (le_trans ?_ jZ)
    · have:=Qo (x:=y) (y:=q 0) (z:=hp) k
      rwa [Xm] at this
    · have:=Bc h2 (le_refl hp)
      rwa [zero_add] at this
  rcases le_total x (q 0) with h | h
  · exact main x h1 h
  · rw [← Mf]
    exact main (-x) (fun k=>h2 (by have:=Bw k; rwa [neg_neg,neg_neg] at this)) (Iu h)
theorem z6 {x : R} (h1 : -hp ≤ x) (h2 : x ≤ hp) : q 0 ≤ cn x:=by
  by_cases a : -hp < x
  · by_cases b : x < hp
    · exact le_of_lt (Hx a b)
    · rw [show x = hp from Cs h2 (not_lt.1 b),Yd]
      exact le_refl _
  · rw [show x = -hp from Cs (not_lt.1 a) h1,Mf,Yd]
    exact le_refl _
noncomputable def pi : R:=hp + hp
theorem l_1 : ∀ h x : R,h - x ≤ -h → h + h ≤ x:=Gw fun a b k=>Xl k fun n e he p=>by simp only [Cu,C1,C4,Ct,Jx] at *; grind
theorem l_2 : ∀ h x : R,h ≤ h - x → x ≤ q 0:=Gw fun a b k=>Xl k fun n e he p=>by simp only [Cu,C1,C4,Ct,Jx] at *; grind
theorem l_4 : ∀ x y : R,q (1/2) * (y - x) ≤ q 0 → y ≤ x:=Gw fun a b k=>Xl k fun n e he p=>by simp only [Cu,C1,C4,Ct,Jx] at *; grind
theorem l_5 : ∀ h x y : R,-h ≤ x → q (1/2) * (x + y) ≤ -h → y ≤ x:=Mw fun a b c k l=>Xk k l fun n e he p r=>by simp only [Cu,C1,C4,Ct,Jx] at *; grind
theorem l_6 : ∀ h x y : R,y ≤ h → h ≤ q (1/2) * (x + y) → y ≤ x:=Mw fun a b c k l=>Xk k l fun n e he p r=>by simp only [Cu,C1,C4,Ct,Jx] at *; grind
theorem l_7 : ∀ h x y : R,-h ≤ x → y ≤ h → q (1/2) * (y - x) ≤ h:=Mw fun a b c k l=>Xk k l fun n e he p r=>by simp only [Cu,C1,C4,Ct,Jx] at *; grind
theorem Uv {x : R} (h1 : q 0 < x) (h2 : x < pi) : q 0 < sn x:=by
  rw [← Ze]
  exact Hx (fun k=>h2 (l_1 _ _ k)) (fun k=>h1 (l_2 _ _ k))
theorem Ajc (x y : R) : sn y - sn x = q 2 * (cn (q (1/2) * (x + y)) * sn (q (1/2) * (y - x))):=by
  have e1 : y = q (1/2) * (x + y) + q (1/2) * (y - x):=Gw (P:=fun x y=>y = q (1/2) * (x + y) + q (1/2) * (y - x)) (fun a b=>pt fun n=>by simp only [Cu,C1,C4,Ct,Jx] at *; grind) x y
  have e2 : x = q (1/2) * (x + y) - q (1/2) * (y - x):=Gw (P:=fun x y=>x = q (1/2) * (x + y) - q (1/2) * (y - x)) (fun a b=>pt fun n=>by simp only [Cu,C1,C4,Ct,Jx] at *; grind) x y
  have e3:=dW (q (1/2) * (x + y)) (q (1/2) * (y - x))
  have e4:=nT (q (1/2) * (x + y)) (q (1/2) * (y - x))
  rw [← e1] at e3
  rw [← e2] at e4
  rw [e3,e4]
  exact Mv (P:=fun a b c d=>a * b + c * d - (a * b - c * d) = q 2 * (c * d)) (fun a b c d=>pt fun n=>by simp only [Cu,C1,C4,Ct,Jx] at *; grind) _ _ _ _
theorem mF {x y : R} (h1 : -hp ≤ x) (h2 : y ≤ hp) (h : x < y) : sn x < sn y:=fun k=>by
  have c : q 0 < cn (q (1/2) * (x + y)):=Hx (fun k=>h (l_5 _ _ _ h1 k)) (fun k=>h (l_6 _ _ _ h2 k))
  have s : q 0 < sn (q (1/2) * (y - x)):=nU (fun k=>h (l_4 _ _ k)) (le_trans (l_7 _ _ _ h1 h2) jZ)
  have p:=mul_pos (Qb.2 (show (0 : Rat) < 2 by decide)) (mul_pos c s)
  rw [← Ajc] at p
  exact p (by have:=Du k (le_refl (sn x)); rwa [sub_self] at this)
theorem Qi {x y : R} (h1 : -hp ≤ x) (h2 : y ≤ hp) (h3 : x ≤ hp) (h4 : -hp ≤ y) : sn x ≤ sn y ↔ x ≤ y:=⟨fun h=>not_lt.1 fun k=>mF h4 h3 k h,fun h=>by
  by_cases e : y ≤ x
  · rw [Cs h e]; exact le_refl _
  · exact le_of_lt (mF h1 h2 e)⟩
theorem V6 {x : R} (h : q 0 ≤ x) : ∃ s,q 0 ≤ s ∧ s * s = x:=by
  obtain ⟨n,hn,_⟩:=Abl x
  have hn0:=S9 n
  obtain ⟨t,a,_,c⟩:=ivt (fun u=>u * u) 0 (n + 1) (2 * (n + 1)) x (by grind) (by grind) (by rw [zero_mul]; exact h) (by
    refine le_trans hn ?_
    show q n ≤ q (n + 1) * q (n + 1)
    rw [← Ez]
    refine Dd.2 ?_
    have:=Rat.mul_nonneg hn0 hn0
    grind) fun x y hx hxy hy=>by
      have hd:=Ir hxy
      have e : y * y - x * x = (x + y) * (y - x):=Gw (P:=fun x y=>y * y - x * x = (x + y) * (y - x)) (fun a b=>pt fun n=>by simp only [Cu,C1,C4,Ct,Jx] at *; grind) x y
      show Ab (y * y - x * x) _
      rw [e]
      have h0 : q 0 ≤ x + y:=Jm hx (le_trans hx hxy)
      refine I0 (mul_nonneg h0 hd) (B6 ?_ hd)
      refine le_trans (Bc (le_trans hxy hy) hy) ?_
      rw [← L3]
      exact Dd.2 (by grind)
  exact ⟨t,a,c⟩
theorem pV {s : R} (h1 : -q 1 ≤ s) (h2 : s ≤ q 1) : ∃ t,-hp ≤ t ∧ t ≤ hp ∧ sn t = s:=by
  have e1 : q (-1) * hp = -hp:=by rw [Ii,neg_mul,one_mul]
  obtain ⟨t,a,b,c⟩:=ivt (fun u=>sn (u * hp)) (-1) 1 2 s (by decide) (by decide) (by
    show sn (q (-1) * hp) ≤ s
    rw [e1,L1,fD]; exact h1) (by
    show s ≤ sn (q 1 * hp)
    rw [one_mul,fD]; exact h2) fun x y hx hxy hy=>by
      have hp0:=le_of_lt Fv
      have:=Acr (B6 hxy hp0)
      rw [← sub_mul] at this
      refine this.mono ?_
      rw [mul_comm (q 2)]
      exact Ba (le_trans jZ (Dd.2 (by decide +kernel))) (Ir hxy)
  refine ⟨t * hp,?_,?_,c⟩
  · rw [← e1]; exact B6 a (le_of_lt Fv)
  · have:=B6 b (le_of_lt Fv)
    rwa [one_mul] at this
theorem qS {x y : R} (hx : q 0 ≤ x) (hy : q 0 ≤ y) (h : x * x = y * y) : x = y:=Cs (Hg (h ▸ le_refl _) hy) (Hg (h ▸ le_refl _) hx)
theorem dC {t c : R} (h1 : -hp ≤ t) (h2 : t ≤ hp) (hc : q 0 ≤ c) (h : c * c + sn t * sn t = q 1) : cn t = c:=by
  refine qS (z6 h1 h2) hc ?_
  have e:=Xw t
  rw [← h] at e
  have:=congrArg (fun z=>z - sn t * sn t) e
  simpa only [add_sub_cancel] using this
def fx (n : Int) : R:=q (n / 4294967296)
def In (lo hi : Int) (x : R) : Prop:=fx lo ≤ x ∧ x ≤ fx hi
theorem E3 {a b : Int} (h : a ≤ b) : (a : Rat) ≤ (b : Rat):=Rat.intCast_le_intCast.2 h
theorem Df {a b : Int} : fx a ≤ fx b ↔ a ≤ b:=by
  unfold fx
  rw [Dd]
  constructor
  · intro h
    refine Rat.intCast_le_intCast.1 ?_
    grind
  · intro h
    have:=E3 h
    grind
theorem eL (a b : Int) : fx (a + b) = fx a + fx b:=by
  unfold fx
  rw [← L3]
  congr 1
  push_cast
  grind
theorem Nr (a : Int) : fx (-a) = -fx a:=by
  unfold fx
  rw [← Ii]
  congr 1
  push_cast
  grind
theorem Ajs (a b : Int) : fx (a - b) = fx a - fx b:=by
  rw [Int.sub_eq_add_neg,eL,Nr,Ev]
theorem Fy : fx 0 = q 0:=by unfold fx; congr 1; decide +kernel
theorem kA : fx 4294967296 = q 1:=by unfold fx; congr 1; decide +kernel
theorem Ld (a b : Int) : fx a * fx b = q (a * b / (4294967296 * 4294967296)):=by
  unfold fx
  rw [← Ez]
  congr 1
  grind
theorem Zr (a : Int) : fx a = q (a / 4294967296):=rfl
theorem Ky {c a b : Int} (h : c * 4294967296 ≤ a * b) : fx c ≤ fx a * fx b:=by
  rw [Ld,Zr,Dd]
  have:=E3 h
  push_cast at this
  grind
theorem eH {c a b : Int} (h : a * b ≤ c * 4294967296) : fx a * fx b ≤ fx c:=by
  rw [Ld,Zr,Dd]
  have:=E3 h
  push_cast at this
  grind
theorem In.mono {a b c d : Int} {x : R} (h : In a b x) (h1 : c ≤ a) (h2 : b ≤ d) : In c d x:=⟨le_trans (Df.2 h1) h.1,le_trans h.2 (Df.2 h2)⟩
theorem In.meet {a b c d : Int} {x : R} (h : In a b x) (k : In c d x) : a ≤ d ∧ c ≤ b:=⟨Df.1 (le_trans h.1 k.2),Df.1 (le_trans k.1 h.2)⟩
theorem In.ord {a b : Int} {x : R} (h : In a b x) : a ≤ b:=(h.meet h).1
theorem In.fix (a : Int) : In a a (fx a):=⟨le_refl _,le_refl _⟩
theorem In.add {a b c d : Int} {x y : R} (h : In a b x) (k : In c d y) : In (a + c) (b + d) (x + y):=by
  constructor
  · rw [eL]; exact Bc h.1 k.1
  · rw [eL]; exact Bc h.2 k.2
theorem In.neg {a b : Int} {x : R} (h : In a b x) : In (-b) (-a) (-x):=by
  constructor
  · rw [Nr]; exact Bw h.2
  · rw [Nr]; exact Bw h.1
theorem In.sub {a b c d : Int} {x y : R} (h : In a b x) (k : In c d y) : In (a - d) (b - c) (x - y):=by
  have:=h.add k.neg
  rw [Ev] at this
  exact this
theorem yB {x y a b c d l : R} (h1 : a ≤ x) (h2 : x ≤ c) (h3 : b ≤ y) (h4 : y ≤ d) (k1 : l ≤ a * b) (k2 : l ≤ a * d) (k3 : l ≤ c * b) (k4 : l ≤ c * d) : l ≤ x * y:=by
  have flip : ∀ {u v w : R},u ≤ v → w ≤ q 0 → v * w ≤ u * w:=fun {u v w} hu hw=>by
    have:=B6 hu (Fo hw)
    rw [mul_neg,mul_neg] at this
    have:=Bw this
    rwa [neg_neg,neg_neg] at this
  have flip2 : ∀ {u v w : R},u ≤ v → w ≤ q 0 → w * v ≤ w * u:=fun {u v w} hu hw=>by rw [mul_comm w v,mul_comm w u]; exact flip hu hw
  rcases le_total (q 0) y with hy | hy
  · refine le_trans ?_ (B6 h1 hy)
    rcases le_total (q 0) a with ha | ha
    · exact le_trans k1 (Ba h3 ha)
    · exact le_trans k2 (flip2 h4 ha)
  · refine le_trans ?_ (flip h2 hy)
    rcases le_total (q 0) c with hc | hc
    · exact le_trans k3 (Ba h3 hc)
    · exact le_trans k4 (flip2 h4 hc)
theorem In.mul {a b c d l u : Int} {x y : R} (h : In a c x) (k : In b d y) (k1 : l * 4294967296 ≤ a * b ∧ a * b ≤ u * 4294967296) (k2 : l * 4294967296 ≤ a * d ∧ a * d ≤ u * 4294967296)
    (k3 : l * 4294967296 ≤ c * b ∧ c * b ≤ u * 4294967296) (k4 : l * 4294967296 ≤ c * d ∧ c * d ≤ u * 4294967296) : In l u (x * y):=by
  refine ⟨yB h.1 h.2 k.1 k.2 (Ky k1.1) (Ky k2.1) (Ky k3.1) (Ky k4.1),?_⟩
  have hn:=h.neg
  have:=yB hn.1 hn.2 k.1 k.2 (l:=-fx u) (by rw [← Nr]; exact Ky (by rw [Int.neg_mul,Int.neg_mul]; omega)) (by rw [← Nr]; exact Ky (by rw [Int.neg_mul,Int.neg_mul]; omega))
    (by rw [← Nr]; exact Ky (by rw [Int.neg_mul,Int.neg_mul]; omega)) (by rw [← Nr]; exact Ky (by rw [Int.neg_mul,Int.neg_mul]; omega))
  rw [neg_mul] at this
  have:=Bw this
  rwa [neg_neg,neg_neg] at this
theorem Ol {n : Int} (h : 0 < n) : q 0 < fx n:=by
  rw [← Fy]
  exact fun k=>by have:=Df.1 k; omega
theorem In.div_pos {a b c d l u : Int} {x y z : R} (h : In a c x) (k : In b d y) (hb : 0 < b) (hz : z * y = x)
    (k1 : l * b ≤ a * 4294967296) (k2 : l * d ≤ a * 4294967296) (k3 : c * 4294967296 ≤ u * b) (k4 : c * 4294967296 ≤ u * d) : In l u z:=by
  have hy : q 0 < y:=lt_of_lt_of_le (Ol hb) k.1
  have one : ∀ n : Int,fx n = fx n * fx 4294967296:=fun n=>by rw [kA,mul_one]
  constructor
  · refine Fa ?_ hy
    rw [hz]
    refine le_trans ?_ h.1
    rw [one a,Ld]
    rcases Int.le_total 0 l with hl | hl
    · refine le_trans (Ba k.2 (by rw [← Fy]; exact Df.2 hl)) ?_
      rw [Ld,Dd]
      have:=E3 k2
      push_cast at this ⊢
      grind
    · refine le_trans (y:=fx l * fx b) ?_ ?_
      · have:=Ba k.1 (Fo (show fx l ≤ q 0 by rw [← Fy]; exact Df.2 hl))
        rw [neg_mul,neg_mul] at this
        have:=Bw this
        rwa [neg_neg,neg_neg] at this
      · rw [Ld,Dd]
        have:=E3 k1
        push_cast at this ⊢
        grind
  · refine Fa ?_ hy
    rw [hz]
    refine le_trans h.2 ?_
    rw [one c,Ld]
    rcases Int.le_total 0 u with hl | hl
    · refine le_trans ?_ (Ba k.1 (by rw [← Fy]; exact Df.2 hl))
      rw [Ld,Dd]
      have:=E3 k3
      push_cast at this ⊢
      grind
    · refine le_trans (y:=fx u * fx d) ?_ ?_
      · rw [Ld,Dd]
        have:=E3 k4
        push_cast at this ⊢
        grind
      · have:=Ba k.2 (Fo (show fx u ≤ q 0 by rw [← Fy]; exact Df.2 hl))
        rw [neg_mul,neg_mul] at this
        have:=Bw this
        rwa [neg_neg,neg_neg] at this
theorem zK {x a b : R} (h1 : a ≤ x) (h2 : x ≤ b) {u : R} (ka : a * a ≤ u) (kb : b * b ≤ u) : x * x ≤ u:=by
  rcases le_total (q 0) x with hx | hx
  · exact le_trans (le_trans (B6 h2 hx) (Ba h2 (le_trans hx h2))) kb
  · have n1:=Bw h1
    have n0:=Fo hx
    have:=le_trans (B6 n1 n0) (Ba n1 (le_trans n0 n1))
    rw [neg_mul,mul_neg,neg_neg,neg_mul,mul_neg,neg_neg] at this
    exact le_trans this ka
theorem In.sqr {a b l u : Int} {x : R} (h : In a b x) (k1 : a * a ≤ u * 4294967296) (k2 : b * b ≤ u * 4294967296) (k3 : 0 ≤ a → l * 4294967296 ≤ a * a) (k4 : b ≤ 0 → l * 4294967296 ≤ b * b) (k5 : a ≤ 0 → 0 ≤ b → l ≤ 0) : In l u (x * x):=by
  refine ⟨?_,zK h.1 h.2 (eH k1) (eH k2)⟩
  rcases Int.le_total 0 a with ha | ha
  · have a0 : q 0 ≤ fx a:=by rw [← Fy]; exact Df.2 ha
    exact le_trans (Ky (k3 ha)) (le_trans (B6 h.1 a0) (Ba h.1 (le_trans a0 h.1)))
  · rcases Int.le_total b 0 with hb | hb
    · have hn:=h.neg
      have b0 : q 0 ≤ fx (-b):=by rw [← Fy]; exact Df.2 (by omega)
      have:=le_trans (Ky (show l * 4294967296 ≤ -b * -b by rw [Int.neg_mul_neg]; exact k4 hb)) (le_trans (B6 hn.1 b0) (Ba hn.1 (le_trans b0 hn.1)))
      rwa [neg_mul,mul_neg,neg_neg] at this
    · refine le_trans ?_ (D3 x)
      rw [← Fy]
      exact Df.2 (k5 ha hb)
theorem In.sqrt {a b l u : Int} {x s : R} (h : In a b x) (hs : q 0 ≤ s) (e : s * s = x) (hl : 0 ≤ l) (hu : 0 ≤ u) (k1 : l * l ≤ a * 4294967296) (k2 : b * 4294967296 ≤ u * u) : In l u s:=by
  constructor
  · refine Hg ?_ hs
    rw [e]
    refine le_trans (eH k1) h.1
  · refine Hg ?_ (by rw [← Fy]; exact Df.2 hu)
    rw [e]
    exact le_trans h.2 (Ky k2)
def qP (c : Rat) (y s : R) : R:=q 1 - y * q (1 / c) * s
def mZ (y : R) : R:=qP 6 y (qP 20 y (qP 42 y (qP 72 y (qP 110 y (qP 156 y (qP 210 y (qP 272 y (q 1))))))))
def sU (y : R) : R:=qP 2 y (qP 12 y (qP 30 y (qP 56 y (qP 90 y (qP 132 y (qP 182 y (qP 240 y (q 1))))))))
theorem Ac7 (a : Rat) : S cS 18 a = a * (1 - a * a * (1/6) * (1 - a * a * (1/20) * (1 - a * a * (1/42) * (1 - a * a * (1/72) * (1 - a * a * (1/110) * (1 - a * a * (1/156) * (1 - a * a * (1/210) * (1 - a * a * (1/272) * 1)))))))):=by
  simp only [S,tm,cS,cs]
  grind
theorem Ac9 (a : Rat) : S cC 18 a = 1 - a * a * (1/2) * (1 - a * a * (1/12) * (1 - a * a * (1/30) * (1 - a * a * (1/56) * (1 - a * a * (1/90) * (1 - a * a * (1/132) * (1 - a * a * (1/182) * (1 - a * a * (1/240) * 1))))))):=by
  simp only [S,tm,cC,cs]
  grind
theorem Ala : ∀ x : R,SR cS 18 x = x * mZ (x * x):=Dm fun a=>(nM cS a 18).trans (pt fun n=>(Abv cS a n 18).trans (Ac7 (a.f n)))
theorem Alc : ∀ x : R,SR cC 18 x = sU (x * x):=Dm fun a=>(nM cC a 18).trans (pt fun n=>(Abv cC a n 18).trans (Ac9 (a.f n)))
theorem kB {r : Rat} (h : r ≤ 1 / 4294967296) : q r ≤ fx 1:=Dd.2 (by
  have : ((1 : Int) : Rat) / 4294967296 = 1 / 4294967296:=by decide +kernel
  rw [this]; exact h)
theorem Agn {x : R} (h : Ab x (q 1)) : Ab (sn x - x * mZ (x * x)) (fx 1):=by
  have t:=eZ cS uS (A:=1) (B:=101/100) (by decide) (by decide +kernel) 18 (by decide +kernel) x h
  rw [Ala] at t
  exact t.mono (kB (by decide +kernel))
theorem Aho {x : R} (h : Ab x (q 1)) : Ab (cn x - sU (x * x)) (fx 1):=by
  have t:=eZ cC uC (A:=1) (B:=101/100) (by decide) (by decide +kernel) 18 (by decide +kernel) x h
  rw [Alc] at t
  exact t.mono (kB (by decide +kernel))
noncomputable def kh (k : Int) : R:=q k * hp
theorem Np (a b : Int) : kh (a + b) = kh a + kh b:=by
  unfold kh
  rw [← add_mul,← L3]
  congr 2
  push_cast
  rfl
theorem Tb (a : Int) : kh (-a) = -kh a:=by
  unfold kh
  rw [← neg_mul,← Ii]
  congr 2
theorem Kx : kh 1 = hp:=by
  unfold kh
  rw [show ((1 : Int) : Rat) = 1 by decide,one_mul]
theorem cY : kh 0 = q 0:=by
  unfold kh
  rw [show ((0 : Int) : Rat) = 0 by decide,zero_mul]
theorem pB {a b : Int} (h : a ≤ b) : kh a ≤ kh b:=B6 (Dd.2 (E3 h)) (le_of_lt Fv)
theorem Akx {a b : Int} (h : a < b) : kh a < kh b:=fun k=>by
  have e : kh b = kh a + kh (b - a):=by rw [← Np]; congr 1; omega
  rw [e] at k
  have k2:=Du k (le_refl (kh a))
  rw [J2,sub_self] at k2
  have : kh 1 ≤ kh (b - a):=pB (by omega)
  rw [Kx] at this
  exact Fv (le_trans this k2)
theorem Ab5 : (List.range 4097).all (fun k=>decide ((k : Int) * 7244019458077122842 % 1073741824 + k ≤ 1073741824)) = true:=by decide +kernel
theorem Af9 {k : Int} (h0 : 0 < k) (h1 : k ≤ 4096) : In (k * 7244019458077122842 / 1073741824) (k * 7244019458077122842 / 1073741824 + 1) (kh k):=by
  obtain ⟨m,rfl⟩:=Int.eq_ofNat_of_zero_le (Int.le_of_lt h0)
  have t:=List.all_eq_true.1 Ab5 m (List.mem_range.2 (by omega))
  have tz:=of_decide_eq_true t
  have r0:=Int.emod_nonneg ((m : Int) * 7244019458077122842) (show (1073741824 : Int) ≠ 0 by decide)
  have d:=Int.emod_add_mul_ediv ((m : Int) * 7244019458077122842) 1073741824
  have mp : (0 : Rat) ≤ ((m : Int) : Rat):=by
    have:=E3 (Int.le_of_lt h0)
    exact this
  generalize ((m : Int) * 7244019458077122842) % 1073741824 = r at *
  generalize ((m : Int) * 7244019458077122842) / 1073741824 = f at *
  constructor
  · refine le_trans ?_ (Ba sS (Dd.2 mp))
    rw [← Ez]
    refine Dd.2 ?_
    have : f * 1073741824 ≤ (m : Int) * 7244019458077122842:=by omega
    have:=E3 this
    push_cast at this ⊢
    unfold X5
    grind
  · refine le_trans (Ba yL (Dd.2 mp)) ?_
    rw [← Ez]
    refine Dd.2 ?_
    have : (m : Int) * 7244019458077122843 ≤ (f + 1) * 1073741824:=by omega
    have:=E3 this
    push_cast at this ⊢
    unfold hhi
    grind
theorem nV (x : R) : sn (x + kh 2) = -sn x:=by
  have : kh 2 = hp + hp:=by rw [show (2 : Int) = 1 + 1 by decide,Np,Kx]
  rw [this,← add_assoc,Oz,eP]
theorem Aj2 (x : R) : cn (x + kh 2) = -cn x:=by
  have : kh 2 = hp + hp:=by rw [show (2 : Int) = 1 + 1 by decide,Np,Kx]
  rw [this,← add_assoc,eP,Oz]
theorem Akt (x : R) : sn (x + kh 4) = sn x ∧ cn (x + kh 4) = cn x:=by
  have : kh 4 = kh 2 + kh 2:=by rw [← Np]; rfl
  rw [this,← add_assoc,nV,nV,neg_neg,Aj2,Aj2,neg_neg]
  exact ⟨rfl,rfl⟩
theorem oG (x : R) : ∀ j : Nat,sn (x + kh (4 * j)) = sn x ∧ cn (x + kh (4 * j)) = cn x
  | 0=>by
    rw [show (4 * ((0 : Nat) : Int)) = 0 by decide,cY,add_zero]
    exact ⟨rfl,rfl⟩
  | j + 1=>by
    have ih:=oG x j
    have e : (4 * ((j + 1 : Nat) : Int)) = 4 * (j : Int) + 4:=by omega
    rw [e,Np,← add_assoc,(Akt _).1,(Akt _).2]
    exact ih
theorem per (x : R) (j : Int) : sn (x + kh (4 * j)) = sn x ∧ cn (x + kh (4 * j)) = cn x:=by
  rcases Int.le_total 0 j with h | h
  · obtain ⟨m,rfl⟩:=Int.eq_ofNat_of_zero_le h
    exact oG x m
  · obtain ⟨m,hm⟩:=Int.eq_ofNat_of_zero_le (show 0 ≤ -j by omega)
    have:=oG (x + kh (4 * j)) m
    have e : x + kh (4 * j) + kh (4 * m) = x:=by
      rw [add_assoc,← Np,show 4 * j + 4 * (m : Int) = 0 by omega,cY,add_zero]
    rw [e] at this
    exact ⟨this.1.symm,this.2.symm⟩
theorem Akr (x : R) (k : Int) : (k % 4 = 0 → sn (x + kh k) = sn x) ∧ (k % 4 = 1 → sn (x + kh k) = cn x) ∧ (k % 4 = 2 → sn (x + kh k) = -sn x) ∧ (k % 4 = 3 → sn (x + kh k) = -cn x):=by
  have e : ∀ r : Int,k % 4 = r → x + kh k = x + kh r + kh (4 * (k / 4)):=fun r hr=>by
    rw [add_assoc,← Np]
    congr 2
    omega
  refine ⟨fun h=>?_,fun h=>?_,fun h=>?_,fun h=>?_⟩
  · rw [e 0 h,(per _ _).1,cY,add_zero]
  · rw [e 1 h,(per _ _).1,Kx,Oz]
  · rw [e 2 h,(per _ _).1,nV]
  · rw [e 3 h,(per _ _).1,show (3 : Int) = 1 + 2 by decide,Np,Kx,← add_assoc,nV,Oz]
theorem Wu {x y : R} (h0 : q 0 ≤ x) (h : x ≤ y) (h1 : y ≤ kh 2) : cn y ≤ cn x:=by
  have e : kh 2 = pi:=by rw [show (2 : Int) = 1 + 1 by decide,Np,Kx]; rfl
  rw [e] at h1
  have hs : ∀ t,x ≤ t → t ≤ y → q 0 ≤ sn t:=fun t a b=>by
    by_cases p : q 0 < t
    · by_cases p2 : t < pi
      · exact le_of_lt (Uv p p2)
      · have : t = pi:=Cs (le_trans b h1) (not_lt.1 p2)
        rw [this,← e,← zero_add (kh 2),nV,Ih,← Ii]
        exact le_refl _
    · have : t = q 0:=Cs (not_lt.1 p) (le_trans h0 a)
      rw [this,Ih]
      exact le_refl _
  obtain ⟨A,hA,hb⟩:=big x y
  have:=(fS hA).neg.mono h hb fun t a b=>by rw [neg_neg]; exact hs t a b
  have:=Bw this
  rwa [neg_neg,neg_neg] at this
theorem Aez {a b t : R} (h1 : -kh 2 ≤ a) (h2 : b ≤ kh 2) (ha : a ≤ t) (hb : t ≤ b) : cn a ≤ cn t ∨ cn b ≤ cn t:=by
  rcases le_total (q 0) t with h | h
  · exact Or.inr (Wu h hb h2)
  · refine Or.inl ?_
    have:=Wu (Fo h) (Bw ha) (by have:=Bw h1; rwa [neg_neg] at this)
    rwa [Mf,Mf] at this
theorem Aed (a : R) (c : Int) : ∃ j : Int,kh (4 * j + c) ≤ a ∧ a < kh (4 * (j + 1) + c):=by
  obtain ⟨n,hn1,hn2⟩:=Abl a
  have big1 : ∀ m : Nat,q m ≤ kh (4 * (m : Int) + 0):=fun m=>by
    unfold kh
    have h1:=Ba sS (Dd.2 (show (0 : Rat) ≤ ((4 * (m : Int) + 0 : Int) : Rat) by have:=E3 (show (0 : Int) ≤ 4 * (m : Int) + 0 by omega); exact this))
    refine le_trans ?_ h1
    rw [← Ez]
    refine Dd.2 ?_
    have : (1 : Rat) / 4 ≤ X5:=by decide +kernel
    have hm:=S9 m
    have p:=Rat.mul_nonneg hm (show 0 ≤ X5 - 1 / 4 by grind)
    push_cast
    grind
  have hx : ∃ J : Nat,a < kh (4 * (J : Int) + c) ∧ kh (-(4 * (J : Int)) + c) ≤ a:=by
    refine ⟨n + 1 + c.natAbs,fun k=>?_,?_⟩
    · have h1:=le_trans k hn1
      have h2:=le_trans h1 (big1 n)
      exact Akx (show 4 * (n : Int) + 0 < 4 * ((n + 1 + c.natAbs : Nat) : Int) + c by omega) h2
    · refine le_trans ?_ hn2
      have h2:=Bw (big1 n)
      rw [← Tb] at h2
      exact le_trans (pB (by omega)) h2
  obtain ⟨J,hJ1,hJ2⟩:=hx
  have walk : ∀ m : Nat,∀ j : Int,kh (4 * j + c) ≤ a → a < kh (4 * (j + m) + c) → ∃ j : Int,kh (4 * j + c) ≤ a ∧ a < kh (4 * (j + 1) + c):=by
    intro m
    induction m with
    | zero=>
      intro j h1 h2
      rw [show j + ((0 : Nat) : Int) = j by omega] at h2
      exact absurd h1 h2
    | succ m ih=>
      intro j h1 h2
      by_cases h : a < kh (4 * (j + 1) + c)
      · exact ⟨j,h1,h⟩
      · exact ih (j + 1) (not_lt.1 h) (by rw [show j + 1 + (m : Int) = j + ((m + 1 : Nat) : Int) by omega]; exact h2)
  exact walk (2 * J) (-(J : Int)) (by rw [show 4 * -(J : Int) + c = -(4 * (J : Int)) + c by omega]; exact hJ2) (by rw [show -(J : Int) + ((2 * J : Nat) : Int) = J by omega]; exact hJ1)
theorem iD {a b t : R} (ha : a ≤ t) (hb : t ≤ b) (hn : ∀ k : Int,k % 4 = 1 → ¬ (a ≤ kh k ∧ kh k ≤ b)) : sn t ≤ sn a ∨ sn t ≤ sn b:=by
  obtain ⟨j,h1,h2⟩:=Aed a 1
  have h3 : b < kh (4 * (j + 1) + 1):=by
    refine Classical.byContradiction fun k=>?_
    exact hn _ (by omega) ⟨le_of_lt h2,not_lt.1 k⟩
  have mZ : ∀ u : R,sn u = -cn (u - kh (4 * j + 3)):=fun u=>by
    have e : u = u - kh (4 * j + 3) + kh (4 * j + 3):=(C7 _ _).symm
    have:=(Akr (u - kh (4 * j + 3)) (4 * j + 3)).2.2.2 (by omega)
    rw [← e] at this
    exact this
  have e1 : kh (4 * j + 1) = kh (4 * j + 3) - kh 2:=by rw [← Ev,← Tb,← Np]; congr 1; omega
  have e2 : kh (4 * (j + 1) + 1) = kh (4 * j + 3) + kh 2:=by rw [← Np]; congr 1; omega
  rw [e1] at h1
  rw [e2] at h3
  have g1 : -kh 2 ≤ a - kh (4 * j + 3):=Qo (by rw [add_comm,Ev]; exact h1)
  have g2 : b - kh (4 * j + 3) ≤ kh 2:=Oy (by rw [add_comm]; exact le_of_lt h3)
  rcases Aez g1 g2 (Du ha (le_refl _)) (Du hb (le_refl _)) with h | h
  · left
    rw [mZ t,mZ a]
    exact Bw h
  · right
    rw [mZ t,mZ b]
    exact Bw h
theorem vA {a b t : R} (ha : a ≤ t) (hb : t ≤ b) (hn : ∀ k : Int,k % 4 = 3 → ¬ (a ≤ kh k ∧ kh k ≤ b)) : sn a ≤ sn t ∨ sn b ≤ sn t:=by
  have r:=iD (a:=a + kh 2) (b:=b + kh 2) (t:=t + kh 2) (Bc ha (le_refl _)) (Bc hb (le_refl _)) fun k hk h=>hn (k - 2) (by omega) (by
    have e : kh (k - 2) = kh k - kh 2:=by rw [← Ev,← Tb,← Np]; congr 1
    rw [e]
    exact ⟨Qo h.1,Oy h.2⟩)
  rw [nV,nV,nV] at r
  rcases r with r | r
  · left; have:=Bw r; rwa [neg_neg,neg_neg] at this
  · right; have:=Bw r; rwa [neg_neg,neg_neg] at this
def U7 : List Rat → R → R
  | [],_=>q 0
  | c :: cs,x=>q c + x * U7 cs x
def dB : List Rat → R → R
  | [],_=>q 0
  | _ :: cs,x=>U7 cs x + x * dB cs x
def bZ : List Rat → Rat → Rat
  | [],_=>0
  | c :: cs,x=>c + x * bZ cs x
def nB : List Rat → Rat → Rat
  | [],_=>0
  | _ :: cs,x=>bZ cs x + x * nB cs x
def aG : List Rat → CS → CS
  | [],_=>CS.q 0
  | c :: cs,x=>(CS.q c).add (x.mul (aG cs x))
def kS : List Rat → CS → CS
  | [],_=>CS.q 0
  | _ :: cs,x=>(aG cs x).add (x.mul (kS cs x))
theorem R1 (a : CS) : ∀ cs,U7 cs (mk a) = mk (aG cs a)
  | []=>rfl
  | c :: cs=>by
    show q c + mk a * U7 cs (mk a) = _
    rw [R1 a cs]
    rfl
theorem gP (a : CS) : ∀ cs,dB cs (mk a) = mk (kS cs a)
  | []=>rfl
  | c :: cs=>by
    show U7 cs (mk a) + mk a * dB cs (mk a) = _
    rw [gP a cs,R1]
    rfl
theorem R2 (a : CS) (n : Nat) : ∀ cs,(aG cs a).f n = bZ cs (a.f n)
  | []=>rfl
  | c :: cs=>by
    show c + a.f n * (aG cs a).f n = c + a.f n * bZ cs (a.f n)
    rw [R2 a n cs]
theorem gQ (a : CS) (n : Nat) : ∀ cs,(kS cs a).f n = nB cs (a.f n)
  | []=>rfl
  | c :: cs=>by
    show (aG cs a).f n + a.f n * (kS cs a).f n = bZ cs (a.f n) + a.f n * nB cs (a.f n)
    rw [gQ a n cs,R2]
theorem vN {P : R → Prop} (hP : Fin P) : ∀ cs,Sm P (U7 cs) (dB cs)
  | []=>Sm.const P (q 0)
  | c :: cs=>(((Sm.const P (q c)).add ((Sm.id hP).mul (vN hP cs)))).congr fun x _=>by
    show q 0 + (q 1 * U7 cs x + x * dB cs x) = U7 cs x + x * dB cs x
    rw [zero_add,one_mul]
def pwr (x : R) : Nat → R
  | 0=>q 1
  | n + 1=>pwr x n * x
def pwQ (x : Rat) : Nat → Rat
  | 0=>1
  | n + 1=>pwQ x n * x
def pwS (x : CS) : Nat → CS
  | 0=>CS.q 1
  | n + 1=>(pwS x n).mul x
theorem iQ (a : CS) : ∀ n,pwr (mk a) n = mk (pwS a n)
  | 0=>rfl
  | n + 1=>by
    show pwr (mk a) n * mk a = _
    rw [iQ a n]
    rfl
theorem rG (a : CS) (i : Nat) : ∀ n,(pwS a n).f i = pwQ (a.f i) n
  | 0=>rfl
  | n + 1=>by
    show (pwS a n).f i * a.f i = pwQ (a.f i) n * a.f i
    rw [rG a i n]
theorem vM {x : R} {a : Rat} (h : Ab x (q a)) : ∀ n,Ab (pwr x n) (q (pwQ a n))
  | 0=>Afc (by show (-1 : Rat) ≤ 1; decide) Rat.le_refl
  | n + 1=>by
    show Ab (pwr x n * x) (q (pwQ a n * a))
    rw [Ez]
    exact (vM h n).mul h
theorem vK {x : R} (h : q 0 ≤ x) : ∀ n,q 0 ≤ pwr x n
  | 0=>Jj (by decide)
  | n + 1=>mul_nonneg (vK h n) h
def aC : List Rat:=[0,1,0,-1/3,0,1/5,0,-1/7,0,1/9,0,-1/11,0,1/13,0,-1/15,0,1/17,0,-1/19,0,1/21]
theorem Al0 : ∀ x : R,dB aC x * (q 1 + x * x) - q 1 = pwr x 22:=Dm fun a=>by
  rw [gP,iQ]
  refine pt fun n=>?_
  show (kS aC a).f n * (1 + a.f n * a.f n) - 1 = (pwS a 22).f n
  rw [gQ,rG]
  simp only [aC,nB,bZ,pwQ]
  grind
theorem Aj4 : ∀ x : R,U7 aC (-x) = -U7 aC x:=Dm fun a=>by
  show U7 aC (mk a.neg) = _
  rw [R1,R1]
  refine pt fun n=>?_
  show (aG aC a.neg).f n = -(aG aC a).f n
  rw [R2,R2]
  simp only [aC,bZ,C4]
  grind
theorem Ahy : U7 aC (q 0) = q 0:=by
  show q 0 + q 0 * _ = q 0
  rw [zero_mul,zero_add]
theorem yK {P : R → Prop} {f : R → R} {e : Rat} (he : 0 < e) (h : ∀ x,P x → q e ≤ f x) : ∃ k : R → R,∀ x,P x → f x * k x = q 1 ∧ q 0 ≤ k x ∧ k x ≤ q (2 / e):=by
  have : ∀ x,∃ y,P x → f x * y = q 1 ∧ q 0 ≤ y ∧ y ≤ q (2 / e):=fun x=>by
    by_cases hx : P x
    · obtain ⟨y,h1,h2,h3⟩:=Aij he (h x hx)
      exact ⟨y,fun _=>⟨h1,h2,h3⟩⟩
    · exact ⟨q 0,fun k=>absurd k hx⟩
  exact ⟨fun x=>Classical.choose (this x),fun x=>Classical.choose_spec (this x)⟩
theorem Akz : hp ≤ q 2:=le_trans jZ (Dd.2 (by decide +kernel))
theorem Ajo {t : R} (h : t ≤ hp) : t ≤ kh 2:=le_trans h (by rw [← Kx]; exact pB (by decide))
theorem tV {t x : R} (h0 : q 0 ≤ t) (h1 : t < hp) (e : sn t = x * cn t) (hx : x ≤ q (1/4)) : Ab (U7 aC x - t) (fx 1):=by
  have c0 : q 0 < cn t:=Hx (lt_of_lt_of_le (fun k=>Fv (by have:=Bw k; rwa [neg_neg,show -q 0 = q 0 from by rw [← Ii]; rfl] at this)) h0) h1
  obtain ⟨ee,he,hc⟩:=e6 c0
  let P : R → Prop:=fun u=>q 0 ≤ u ∧ u ≤ t
  have hP : ∀ u,P u → Ab u (q 2):=fun u hu=>I0 hu.1 (le_trans hu.2 (le_trans (le_of_lt h1) Akz))
  have fin : Fin P:=⟨2,by decide,hP⟩
  have sU : ∀ u,P u → q ee ≤ cn u:=fun u hu=>le_trans hc (Wu hu.1 hu.2 (Ajo (le_of_lt h1)))
  obtain ⟨k,hk⟩:=yK he sU
  have sK : Sm P k (fun u=>-(k u * k u * -sn u)):=((fS (A:=2) (by decide)).sub_dom hP).inv (fun u hu=>(hk u hu).1) ⟨2 / ee,Rat.le_of_lt (Ri (by decide) he),fun u hu=>I0 (hk u hu).2.1 (hk u hu).2.2⟩
  have sT : Sm P (fun u=>sn u * k u) (fun u=>q 1 + sn u * k u * (sn u * k u)):=(((bP (A:=2) (by decide)).sub_dom hP).mul sK).congr fun u hu=>by
    show cn u * k u + sn u * -(k u * k u * -sn u) = _
    rw [(hk u hu).1]
    generalize sn u = a
    generalize k u = b
    exact Gw (P:=fun a b=>q 1 + a * -(b * b * -a) = q 1 + a * b * (a * b)) (fun a b=>pt fun n=>by simp only [Cu,C1,C4,Ct,Jx]; grind) a b
  have T0 : sn (q 0) * k (q 0) = q 0:=by rw [Ih,zero_mul]
  have Tt : sn t * k t = x:=by rw [e,mul_assoc,(hk t ⟨h0,le_refl _⟩).1,mul_one]
  have Tp : ∀ u,P u → q 0 ≤ q 1 + sn u * k u * (sn u * k u):=fun u _=>Jm (Jj (by decide)) (D3 _)
  have Tlo : ∀ u,P u → q 0 ≤ sn u * k u:=fun u hu=>by
    have:=sT.mono hu.1 (fun v a b=>⟨a,le_trans b hu.2⟩) fun v a b=>Tp v ⟨a,le_trans b hu.2⟩
    rwa [T0] at this
  have Thi : ∀ u,P u → sn u * k u ≤ q (1/4):=fun u hu=>by
    have:=sT.mono hu.2 (fun v a b=>⟨le_trans hu.1 a,b⟩) fun v a b=>Tp v ⟨le_trans hu.1 a,b⟩
    rw [Tt] at this
    exact le_trans this hx
  have Tab : ∀ u,P u → Ab (sn u * k u) (q (1/4)):=fun u hu=>I0 (Tlo u hu) (Thi u hu)
  have sG : Sm P (fun u=>U7 aC (sn u * k u) - u) (fun u=>pwr (sn u * k u) 22):=
    ((((vN (P:=Up (1/4)) (V5 (by decide +kernel)) aC).comp sT Tab).sub (Sm.id fin))).congr fun u hu=>Al0 _
  have r:=sG.lip fin h0 (L:=pwQ (1/4) 22) (fun v a b=>⟨a,b⟩) fun v a b=>vM (Tab v ⟨a,b⟩) 22
  show Ab (U7 aC x - t) (fx 1)
  rw [T0,Ahy,Tt,sub_zero,sub_zero,sub_zero] at r
  refine r.mono (le_trans (Ba (le_trans (le_of_lt h1) Akz) (Jj (by decide +kernel))) ?_)
  rw [← Ez]
  exact kB (by decide +kernel)
theorem Gv {x y : R} (h : x < y) : -y < -x:=fun k=>h (by have:=Bw k; rwa [neg_neg,neg_neg] at this)
theorem tU {t x : R} (h1 : -hp < t) (h2 : t < hp) (e : sn t = x * cn t) (hx : Ab x (q (1/4))) : Ab (U7 aC x - t) (fx 1):=by
  rcases le_total (q 0) t with h | h
  · exact tV h h2 e hx.2
  · have n:=Gv h1
    rw [neg_neg] at n
    have r:=(tV (t:=-t) (x:=-x) (Fo h) n (by rw [L1,Mf,e,neg_mul]) (by have:=Bw hx.1; rwa [neg_neg] at this)).neg
    rw [Aj4,J5,L4,neg_neg] at r
    exact r
theorem qI {t x s z : R} (h1 : -hp < t) (h2 : t < hp) (e : sn t = x * cn t) (hs : q 0 ≤ s) (es : s * s = q 1 + x * x) (ez : z * (q 1 + s) = x) : sn (q (1/2) * t) = z * cn (q (1/2) * t):=by
  have c0:=Hx h1 h2
  have cs1 : cn t * s = q 1:=by
    refine qS (mul_nonneg (le_of_lt c0) hs) (Jj (by decide)) ?_
    have p:=Xw t
    rw [e] at p
    have : cn t * s * (cn t * s) = cn t * cn t * (s * s):=by rw [mul_assoc,mul_assoc,Ga s]
    rw [this,es,mul_one]
    refine Eq.trans ?_ p
    generalize cn t = c
    exact Gw (P:=fun c x=>c * c * (q 1 + x * x) = c * c + x * c * (x * c)) (fun a b=>pt fun n=>by simp only [Cu,C1,C4,Ct,Jx]; grind) c x
  have hu : q 0 < cn (q (1/2) * t):=by
    refine Hx (fun k=>h1 ?_) (fun k=>h2 ?_)
    · have hh:=Hr t
      have:=Bc k k
      rw [hh] at this
      refine le_trans this ?_
      have:=Bc (le_refl (-hp)) (Iu (le_of_lt Fv))
      rwa [add_zero] at this
    · have hh:=Hr t
      have:=Bc k k
      rw [hh] at this
      refine le_trans ?_ this
      have:=Bc (le_refl hp) (le_of_lt Fv)
      rwa [add_zero] at this
  have d1:=dW (q (1/2) * t) (q (1/2) * t)
  have d2:=eQ (q (1/2) * t) (q (1/2) * t)
  have d3:=Xw (q (1/2) * t)
  rw [Hr] at d1 d2
  generalize sn (q (1/2) * t) = a at *
  generalize cn (q (1/2) * t) = b at *
  have key : z * (q 1 + cn t) = x * cn t:=by
    rw [← ez,mul_assoc,add_mul,one_mul,mul_comm s,cs1,add_comm]
  have g1 : q 1 + cn t = b * b + b * b:=by
    rw [d2,← d3]
    exact Gw (P:=fun a b=>b * b + a * a + (b * b - a * a) = b * b + b * b) (fun a b=>pt fun n=>by simp only [Cu,C1,C4,Ct,Jx]; grind) a b
  rw [← e,d1,g1] at key
  refine Kz (z:=b + b) ?_ (Jv hu (le_of_lt hu))
  have k2 : a * (b + b) = a * b + b * a:=by rw [mul_add,mul_comm b a]
  have k3 : z * b * (b + b) = z * (b * b + b * b):=by rw [mul_assoc,mul_add b]
  rw [k2,k3,key]
def ep1 (c : Rat) (r p : R) : R:=q 1 + r * p * q (1 / c)
def ep (r : R) : R:=ep1 1 r (ep1 2 r (ep1 3 r (ep1 4 r (ep1 5 r (ep1 6 r (ep1 7 r (ep1 8 r (ep1 9 r (q 1)))))))))
theorem Ac8 (a : Rat) : S cE 10 a = 1 + a * (1 + a * (1 + a * (1 + a * (1 + a * (1 + a * (1 + a * (1 + a * (1 + a * 1 * (1/9)) * (1/8)) * (1/7)) * (1/6)) * (1/5)) * (1/4)) * (1/3)) * (1/2)) * (1/1):=by
  simp only [S,tm,cE]
  grind
theorem Alb : ∀ x : R,SR cE 10 x = ep x:=Dm fun a=>(nM cE a 10).trans (pt fun n=>(Abv cE a n 10).trans (Ac8 (a.f n)))
theorem Ahd {r : R} (h : Ab r (q (35/100))) : Ab (ex r - ep r) (fx 1):=by
  have t:=eZ cE uE (A:=35/100) (B:=36/100) (by decide +kernel) (by decide +kernel) 10 (by decide +kernel) r h
  rw [Alb] at t
  exact t.mono (kB (by decide +kernel))
theorem Q8 {x y : R} (h : x ≤ y) : ex x ≤ ex y:=by
  obtain ⟨A,hA,hb⟩:=big x y
  exact (n9 hA).mono h hb fun t _ _=>le_of_lt (Qr t)
theorem Aeg {x : R} (h : q 0 ≤ x) : q 1 + x ≤ ex x:=by
  obtain ⟨A,hA,hb⟩:=big (q 0) x
  have:=((n9 hA).sub (Sm.id (V5 hA))).mono h hb fun t a _=>by
    have:=Q8 a
    rw [Y9] at this
    exact Ir this
  rw [Y9,sub_zero] at this
  exact Vp this
theorem Aee {x y : R} (h : x < y) : ex x < ex y:=by
  obtain ⟨e,he,h⟩:=Aii h
  have h1:=Q8 h
  rw [Om] at h1
  have h2:=Ba (Aeg (Jj (Rat.le_of_lt he))) (le_of_lt (Qr x))
  rw [mul_add,mul_one] at h2
  have h3:=le_trans h2 h1
  have p:=mul_pos (Qr x) (Qb.2 he)
  intro k
  refine p ?_
  have:=Du (le_trans h3 k) (le_refl (ex x))
  rwa [J2,sub_self] at this
theorem Z6 {x y : R} : ex x ≤ ex y ↔ x ≤ y:=⟨fun h=>not_lt.1 fun k=>Aee k h,Q8⟩
theorem Ajv {x y : R} (h : ex x = ex y) : x = y:=Cs (Z6.1 (h ▸ le_refl _)) (Z6.1 (h ▸ le_refl _))
theorem U0 {x : R} (h : q 0 < x) : ∃ y,ex y = x:=by
  obtain ⟨i,hi,hi0⟩:=Td h
  obtain ⟨n,hn,_⟩:=Abl (x + i)
  have hn0:=S9 n
  have ge : q n ≤ ex (q n):=by
    have:=Aeg (Jj hn0)
    refine le_trans ?_ this
    rw [← L3]
    exact Dd.2 (by grind)
  have hx : x ≤ ex (q n):=le_trans (le_trans (by have:=Bc (le_refl x) (le_of_lt hi0); rwa [add_zero] at this) hn) ge
  have hii : i ≤ ex (q n):=le_trans (le_trans (by have:=Bc (le_of_lt h) (le_refl i); rwa [zero_add] at this) hn) ge
  have X5 : ex (q (-n)) ≤ x:=by
    have e:=R4 (q n)
    refine Fa (z:=ex (q n)) ?_ (Qr _)
    rw [Ii,mul_comm,e,← hi]
    exact Ba hii (le_of_lt h)
  obtain ⟨L,hL,hB⟩:=Aj8 cE uE n hn0
  obtain ⟨t,_,_,c⟩:=ivt ex (-n) n L x (by grind) hL X5 hx fun a b ha hab hb=>by
    have hdom : ∀ t,a ≤ t → t ≤ b → Ab t (q n):=fun t h1 h2=>⟨by rw [← Ii]; exact le_trans ha h1,le_trans h2 hb⟩
    exact (n9 hn0).lip (V5 hn0) hab hdom fun t h1 h2=>hB t (hdom t h1 h2)
  exact ⟨t,c⟩
def lC : List Rat:=[0,1,0,1/3,0,1/5,0,1/7,0,1/9,0,1/11]
def mC : List Rat:=[0,2,0,2/3,0,2/5,0,2/7,0,2/9,0,2/11]
def nC : List Rat:=[0,2,0,2/3,0,2/5,0,2/7,0,2/9,0,2/11,0,161/1000]
theorem Adv : ∀ x : R,U7 mC x = q 2 * U7 lC x:=Dm fun a=>by
  rw [R1,R1]
  refine pt fun n=>?_
  show (aG mC a).f n = 2 * (aG lC a).f n
  rw [R2,R2]
  simp only [mC,lC,bZ]
  grind
theorem Akv : ∀ x : R,U7 nC x = U7 mC x + q (161/1000) * pwr x 13:=Dm fun a=>by
  rw [R1,R1,iQ]
  refine pt fun n=>?_
  show (aG nC a).f n = (aG mC a).f n + 161/1000 * (pwS a 13).f n
  rw [R2,R2,rG]
  simp only [mC,nC,bZ,pwQ]
  grind
theorem Ajn : ∀ x : R,U7 lC (-x) = -U7 lC x:=Dm fun a=>by
  show U7 lC (mk a.neg) = _
  rw [R1,R1]
  refine pt fun n=>?_
  show (aG lC a.neg).f n = -(aG lC a).f n
  rw [R2,R2]
  simp only [lC,bZ,C4]
  grind
theorem Alt : ∀ x : R,dB mC x * (q 1 - x * x) - q 2 = -(q 2 * pwr x 12):=Dm fun a=>by
  rw [gP,iQ]
  refine pt fun n=>?_
  show (kS mC a).f n * (1 - a.f n * a.f n) - 2 = -(2 * (pwS a 12).f n)
  rw [gQ,rG]
  simp only [mC,nB,bZ,pwQ]
  grind
theorem Als : ∀ x : R,dB nC x * (q 1 - x * x) - q 2 = pwr x 12 * (q (2093/1000) * (q 1 - x * x) - q 2):=Dm fun a=>by
  rw [gP,iQ]
  refine pt fun n=>?_
  show (kS nC a).f n * (1 - a.f n * a.f n) - 2 = (pwS a 12).f n * (2093/1000 * (1 - a.f n * a.f n) - 2)
  rw [gQ,rG]
  simp only [nC,nB,bZ,pwQ]
  grind
theorem rI (cs : List Rat) : U7 (0 :: cs) (q 0) = q 0:=by
  show q 0 + q 0 * _ = q 0
  rw [zero_mul,zero_add]
theorem sM {z : R} (h0 : q 0 ≤ z) (h1 : z ≤ q (1/5)) (cs : List Rat) (hz : U7 cs (q 0) = q 0) :
    ((∀ u,q 0 ≤ u → u ≤ z → dB cs u * (q 1 - u * u) - q 2 ≤ q 0) → ex (U7 cs z) * (q 1 - z) ≤ q 1 + z) ∧ ((∀ u,q 0 ≤ u → u ≤ z → q 0 ≤ dB cs u * (q 1 - u * u) - q 2) → q 1 + z ≤ ex (U7 cs z) * (q 1 - z)):=by
  let P : R → Prop:=fun u=>q 0 ≤ u ∧ u ≤ z
  have hP : ∀ u,P u → Ab u (q 1):=fun u hu=>I0 hu.1 (le_trans (le_trans hu.2 h1) (Dd.2 (by decide +kernel)))
  have fin : Fin P:=⟨1,by decide,hP⟩
  have h1u : ∀ u,P u → q 1 ≤ q 1 + u:=fun u hu=>by have:=Bc (le_refl (q 1)) hu.1; rwa [add_zero] at this
  obtain ⟨k,hk⟩:=yK (f:=fun u=>q 1 + u) (show (0 : Rat) < 1 by decide) h1u
  have s1 : Sm P (fun u=>q 1 + u) (fun _=>q 1):=((Sm.const P (q 1)).add (Sm.id fin)).congr fun u _=>zero_add _
  have sK : Sm P k (fun u=>-(k u * k u * q 1)):=s1.inv (fun u hu=>(hk u hu).1) ⟨2 / 1,by decide +kernel,fun u hu=>I0 (hk u hu).2.1 (hk u hu).2.2⟩
  have s2 : Sm P (fun u=>q 1 - u) (fun _=>-q 1):=((Sm.const P (q 1)).sub (Sm.id fin)).congr fun u _=>Xm _
  have sp:=(vN fin cs)
  obtain ⟨B,hB,hb,_⟩:=sp.ex
  have se:=(n9 hB).comp sp hb
  have sG:=(se.mul s2).mul sK
  have G0 : ex (U7 cs (q 0)) * (q 1 - q 0) * k (q 0) = q 1:=by
    rw [hz,Y9,sub_zero,one_mul,one_mul]
    have : (q 1 + q 0) * k (q 0) = q 1:=(hk (q 0) ⟨le_refl _,h0⟩).1
    rwa [add_zero,one_mul] at this
  have dv : ∀ u,P u → (ex (U7 cs u) * dB cs u * (q 1 - u) + ex (U7 cs u) * -q 1) * k u + ex (U7 cs u) * (q 1 - u) * -(k u * k u * q 1) = ex (U7 cs u) * (k u * k u) * (dB cs u * (q 1 - u * u) - q 2):=fun u hu=>by
    have e : (q 1 + u) * k u = q 1:=(hk u hu).1
    generalize ex (U7 cs u) = E
    generalize dB cs u = D
    have : (E * D * (q 1 - u) + E * -q 1) * k u = (E * D * (q 1 - u) + E * -q 1) * k u * ((q 1 + u) * k u):=by rw [e,mul_one]
    rw [this]
    exact Mv (P:=fun E D u k=>(E * D * (q 1 - u) + E * -q 1) * k * ((q 1 + u) * k) + E * (q 1 - u) * -(k * k * q 1) = E * (k * k) * (D * (q 1 - u * u) - q 2)) (fun a b c d=>pt fun n=>by simp only [Cu,C1,C4,Ct,Jx]; grind) E D u (k u)
  have sG2:=sG.congr dv
  have kz:=hk z ⟨h0,le_refl _⟩
  have fac : ∀ u,P u → q 0 ≤ ex (U7 cs u) * (k u * k u):=fun u hu=>mul_nonneg (le_of_lt (Qr _)) (D3 _)
  have back : ex (U7 cs z) * (q 1 - z) = ex (U7 cs z) * (q 1 - z) * k z * (q 1 + z):=by rw [mul_assoc _ (k z),mul_comm (k z),kz.1,mul_one]
  have z1 : q 0 ≤ q 1 + z:=le_trans (Jj (by decide)) (h1u z ⟨h0,le_refl _⟩)
  constructor
  · intro hs
    have:=sG2.neg.mono h0 (fun v a b=>⟨a,b⟩) fun v a b=>by
      have:=mul_nonneg (fac v ⟨a,b⟩) (Fo (hs v a b))
      rwa [mul_neg] at this
    have:=Bw this
    rw [neg_neg,neg_neg,G0] at this
    rw [back]
    have:=B6 this z1
    rwa [one_mul] at this
  · intro hs
    have:=sG2.mono h0 (fun v a b=>⟨a,b⟩) fun v a b=>mul_nonneg (fac v ⟨a,b⟩) (hs v a b)
    rw [G0] at this
    rw [back]
    have:=B6 this z1
    rwa [one_mul] at this
theorem Alx : ∀ z : R,z ≤ q (1/5) → q (4/5) ≤ q 1 - z:=Dm fun a k=>Xl k fun n e he p=>by simp only [Cu,C1,C4,Ct,Jx] at *; grind
theorem Wk {y z : R} (h0 : q 0 ≤ z) (h1 : z ≤ q (1/5)) (e : ex y * (q 1 - z) = q 1 + z) : Ab (q 2 * U7 lC z - y) (fx 1):=by
  have z1 : q 0 < q 1 - z:=lt_of_lt_of_le (Qb.2 (by decide +kernel)) (Alx z h1)
  have a1:=(sM h0 h1 mC (rI _)).1 fun u a b=>by
    rw [Alt]
    exact Iu (mul_nonneg (Jj (by decide)) (vK a 12))
  have a2:=(sM h0 h1 nC (rI _)).2 fun u a b=>by
    rw [Als]
    refine mul_nonneg (vK a 12) ?_
    have hu : u * u ≤ q (1/25):=by
      have:=(I0 a (le_trans b h1)).sq
      rw [← Ez] at this
      exact le_trans this (Dd.2 (by decide +kernel))
    have : q (24/25) ≤ q 1 - u * u:=Qo (by
      have:=Bc (le_refl (q (24/25))) hu
      refine le_trans this ?_
      rw [← L3]
      exact Dd.2 (by decide +kernel))
    refine Ir (le_trans ?_ (Ba this (Jj (by decide +kernel))))
    rw [← Ez]
    exact Dd.2 (by decide +kernel)
  rw [← e] at a1 a2
  have b1:=Z6.1 (Fa a1 z1)
  have b2:=Z6.1 (Fa a2 z1)
  rw [Akv,Adv] at b2
  rw [Adv] at b1
  constructor
  · refine Qo ?_
    have p:=(vM (I0 h0 h1) 13).2
    have p2:=Ba p (Jj (show (0 : Rat) ≤ 161/1000 by decide +kernel))
    rw [← Ez] at p2
    have p3:=le_trans p2 (kB (by decide +kernel))
    have b3:=le_trans b2 (Bc (le_refl _) p3)
    rw [add_comm,Ev]
    exact Oy b3
  · refine Oy ?_
    refine le_trans b1 ?_
    have:=Bc (show q 0 ≤ fx 1 by rw [← Fy]; exact Df.2 (by decide)) (le_refl y)
    rwa [zero_add] at this
theorem Adz {y z : R} (hz : Ab z (q (1/5))) (e : ex y * (q 1 - z) = q 1 + z) : Ab (q 2 * U7 lC z - y) (fx 1):=by
  rcases le_total (q 0) z with h | h
  · exact Wk h hz.2 e
  · have n:=(Wk (y:=-y) (z:=-z) (Fo h) (by have:=Bw hz.1; rwa [neg_neg] at this) (by
      rw [J5,Ev,← e,Ga,← mul_assoc,R4,one_mul])).neg
    rw [Ajn,mul_neg,J5,L4,neg_neg] at n
    exact n
def llo : Rat:=1598288580650331957 / 2305843009213693952
def lhi : Rat:=1598288580650331958 / 2305843009213693952
theorem yE : ∃ t,q llo ≤ t ∧ t ≤ q lhi ∧ ex t = q 2:=by
  have h1 : ex (q llo) ≤ q 2:=Ale (B:=7/10) (n:=32) (by decide +kernel) (by decide +kernel) (by decide +kernel) (by decide +kernel)
  have h2 : q 2 ≤ ex (q lhi):=Alf (B:=7/10) (n:=32) (by decide +kernel) (by decide +kernel) (by decide +kernel) (by decide +kernel)
  obtain ⟨t,e⟩:=U0 (show q 0 < q 2 from Qb.2 (by decide))
  rw [← e] at h1 h2
  exact ⟨t,Z6.1 h1,Z6.1 h2,e⟩
noncomputable def dQ : R:=Classical.choose yE
theorem Ad1 : q llo ≤ dQ:=(Classical.choose_spec yE).1
theorem Ad2 : dQ ≤ q lhi:=(Classical.choose_spec yE).2.1
theorem Aef : ex dQ = q 2:=(Classical.choose_spec yE).2.2
theorem Qn : -hp < q 0:=fun k=>Fv (by have:=Bw k; rwa [neg_neg,show -q 0 = q 0 from by rw [← Ii]; rfl] at this)
theorem jR {x y z : R} (h : x < y) (k : y < z) : x < z:=lt_of_lt_of_le h (le_of_lt k)
theorem Y5 (x : R) : ¬ x < x:=fun h=>h (le_refl x)
theorem Acb (x : R) : ∃ t,-hp < t ∧ t < hp ∧ sn t = x * cn t:=by
  have hw0 : q 0 < q 1 + x * x:=Jv (Qb.2 (by decide)) (D3 x)
  obtain ⟨w,hw,ew⟩:=V6 (le_of_lt hw0)
  have wp : q 0 < w:=by
    refine Classical.byContradiction fun k=>?_
    have : w = q 0:=Cs (not_lt.1 k) hw
    rw [this,zero_mul] at ew
    rw [← ew] at hw0
    exact Y5 _ hw0
  obtain ⟨i,hi,hi0⟩:=Td wp
  have e2 : i * i + x * i * (x * i) = q 1:=by
    have : i * i + x * i * (x * i) = (q 1 + x * x) * (i * i):=Gw (P:=fun x i=>i * i + x * i * (x * i) = (q 1 + x * x) * (i * i)) (fun a b=>pt fun n=>by simp only [Cu,C1,C4,Ct,Jx]; grind) x i
    rw [this,← ew]
    have : w * w * (i * i) = w * i * (w * i):=by rw [mul_assoc,mul_assoc,Ga w i]
    rw [this,hi,mul_one]
  have h1 : x * i * (x * i) ≤ q 1 * q 1:=by
    rw [mul_one,← e2]
    have:=Bc (D3 i) (le_refl (x * i * (x * i)))
    rwa [zero_add] at this
  have b1:=Hg h1 (Jj (by decide))
  have b2 : -q 1 ≤ x * i:=by
    have : -(x * i) * -(x * i) ≤ q 1 * q 1:=by rw [neg_mul,mul_neg,neg_neg]; exact h1
    have:=Bw (Hg this (Jj (by decide)))
    rwa [neg_neg] at this
  obtain ⟨t,t1,t2,et⟩:=pV b2 b1
  have ec : cn t = i:=dC t1 t2 (le_of_lt hi0) (by rw [et]; exact e2)
  refine ⟨t,?_,?_,by rw [et,ec]⟩
  · intro k
    have : t = -hp:=Cs k t1
    rw [this,Mf,Yd] at ec
    rw [← ec] at hi0
    exact Y5 _ hi0
  · intro k
    have : t = hp:=Cs t2 k
    rw [this,Yd] at ec
    rw [← ec] at hi0
    exact Y5 _ hi0
theorem Alw : ∀ a b h : R,-h ≤ b → h + h ≤ a - b → h ≤ a:=Mw fun a b c k l=>Xk k l fun n e he p r=>by simp only [Cu,C1,C4,Ct,Jx] at *; grind
theorem Akw : ∀ a b : R,a - b ≤ q 0 → a ≤ b:=Gw fun a b k=>Xl k fun n e he p=>by simp only [Cu,C1,C4,Ct,Jx] at *; grind
theorem gY {t u x y : R} (t1 : -hp < t) (t2 : t < hp) (et : sn t = x * cn t) (u1 : -hp < u) (u2 : u < hp) (eu : sn u = y * cn u) (h : x ≤ y) : t ≤ u:=by
  refine Classical.byContradiction fun k=>?_
  have p : q 0 < sn (t - u):=Uv (fun c=>k (Akw _ _ c)) (fun c=>t2 (Alw _ _ _ (le_of_lt u1) c))
  rw [nT,et,eu] at p
  refine p ?_
  have e : x * cn t * cn u - cn t * (y * cn u) = -((y - x) * (cn t * cn u)):=Mv (P:=fun x y c d=>x * c * d - c * (y * d) = -((y - x) * (c * d))) (fun x y c d=>pt fun n=>by simp only [Cu,C1,C4,Ct,Jx]; grind) x y (cn t) (cn u)
  rw [e]
  exact Iu (mul_nonneg (Ir h) (mul_nonneg (le_of_lt (Hx t1 t2)) (le_of_lt (Hx u1 u2))))
def uO (y x t : R) : Prop:=-pi < t ∧ t ≤ pi ∧ ∃ r,q 0 < r ∧ y = r * sn t ∧ x = r * cn t
theorem mK : pi = kh 2:=by rw [show (2 : Int) = 1 + 1 by decide,Np,Kx]; rfl
theorem iC (x : R) : sn (x + pi) = -sn x:=by rw [mK]; exact nV x
theorem tO (x : R) : cn (x + pi) = -cn x:=by rw [mK]; exact Aj2 x
theorem zL (x : R) : sn (pi - x) = sn x:=by
  have:=iC (-x)
  rw [L1,neg_neg,add_comm,Ev] at this
  exact this
theorem Abj (x : R) : cn (pi - x) = -cn x:=by
  have:=tO (-x)
  rw [Mf,add_comm,Ev] at this
  exact this
theorem Ada : q 0 < pi:=Jv Fv (le_of_lt Fv)
theorem mT : -pi < q 0:=fun k=>Ada (by have:=Bw k; rwa [neg_neg,show -q 0 = q 0 from by rw [← Ii]; rfl] at this)
theorem Alv : ∀ h t : R,-h ≤ t → q 0 < h → -(h + h) < t:=fun h t k l c=>l (by
  have : ∀ h t : R,-h ≤ t → t ≤ -(h + h) → h ≤ q 0:=Gw fun a b k l=>Xk k l fun n e he p r=>by simp only [Cu,C1,C4,Ct,Jx] at *; grind
  exact this h t k c)
theorem Alu : ∀ h t : R,t ≤ h → q 0 ≤ h → t ≤ h + h:=Gw fun a b k l=>Xk k l fun n e he p r=>by simp only [Cu,C1,C4,Ct,Jx] at *; grind
theorem Aew {y x : R} (h : q 0 < x * x + y * y) : ∃ t,uO y x t:=by
  obtain ⟨w,hw,ew⟩:=V6 (le_of_lt h)
  have wp : q 0 < w:=by
    refine Classical.byContradiction fun k=>?_
    have : w = q 0:=Cs (not_lt.1 k) hw
    rw [this,zero_mul] at ew
    rw [← ew] at h
    exact Y5 _ h
  obtain ⟨i,hi,hi0⟩:=Td wp
  have e2 : x * i * (x * i) + y * i * (y * i) = q 1:=by
    have : x * i * (x * i) + y * i * (y * i) = (x * x + y * y) * (i * i):=Mw (P:=fun x y i=>x * i * (x * i) + y * i * (y * i) = (x * x + y * y) * (i * i)) (fun a b c=>pt fun n=>by simp only [Cu,C1,C4,Ct,Jx]; grind) x y i
    rw [this,← ew]
    have : w * w * (i * i) = w * i * (w * i):=by rw [mul_assoc,mul_assoc,Ga w i]
    rw [this,hi,mul_one]
  have bnd : ∀ {a b : R},a * a + b * b = q 1 → Ab b (q 1):=fun {a b} e=>by
    have h1 : b * b ≤ q 1 * q 1:=by
      rw [mul_one,← e]
      have:=Bc (D3 a) (le_refl (b * b))
      rwa [zero_add] at this
    refine ⟨?_,Hg h1 (Jj (by decide))⟩
    have : -b * -b ≤ q 1 * q 1:=by rw [neg_mul,mul_neg,neg_neg]; exact h1
    have:=Bw (Hg this (Jj (by decide)))
    rwa [neg_neg] at this
  have b:=bnd e2
  obtain ⟨t,t1,t2,et⟩:=pV b.1 b.2
  have ws : ∀ z : R,z = w * (z * i):=fun z=>by rw [Ga,hi,mul_one]
  rcases le_total (q 0) x with hx | hx
  · have ec : cn t = x * i:=dC t1 t2 (mul_nonneg hx (le_of_lt hi0)) (by rw [et]; exact e2)
    exact ⟨t,Alv _ _ t1 Fv,Alu _ _ t2 (le_of_lt Fv),w,wp,by rw [et]; exact ws y,by rw [ec]; exact ws x⟩
  · have ec : cn t = -(x * i):=dC t1 t2 (Fo (by have:=B6 hx (le_of_lt hi0); rwa [zero_mul] at this)) (by rw [et,neg_mul,mul_neg,neg_neg]; exact e2)
    rcases le_total (q 0) y with hy | hy
    · have t0 : q 0 ≤ t:=by
        have : sn (q 0) ≤ sn t:=by rw [Ih,et]; exact mul_nonneg hy (le_of_lt hi0)
        exact (Qi (le_of_lt Qn) t2 (le_of_lt Fv) t1).1 this
      refine ⟨pi - t,?_,?_,w,wp,by rw [zL,et]; exact ws y,by rw [Abj,ec,neg_neg]; exact ws x⟩
      · have:=le_trans (le_of_lt Fv) (Qo (x:=hp) (y:=pi) (z:=t) (Bc (le_refl hp) t2))
        exact lt_of_lt_of_le mT this
      · exact Oy (by have:=Bc (le_refl pi) t0; rwa [add_zero] at this)
    · by_cases ty : t < q 0
      · refine ⟨-pi - t,?_,?_,w,wp,?_,?_⟩
        · intro k
          exact ty (by
            have : ∀ p t : R,-p - t ≤ -p → q 0 ≤ t:=Gw fun a b k=>Xl k fun n e he p=>by simp only [Cu,C1,C4,Ct,Jx] at *; grind
            exact this _ _ k)
        · have : ∀ h t : R,-h ≤ t → q 0 ≤ h → -(h + h) - t ≤ h + h:=Gw fun a b k l=>Xk k l fun n e he p r=>by simp only [Cu,C1,C4,Ct,Jx] at *; grind
          exact this _ _ t1 (le_of_lt Fv)
        · have e3 : sn (-pi - t) = sn t:=by rw [← L4,L1,add_comm,iC,neg_neg]
          rw [e3,et]; exact ws y
        · have e3 : cn (-pi - t) = -cn t:=by rw [← L4,Mf,add_comm,tO]
          rw [e3,ec,neg_neg]; exact ws x
      · have t0 : q 0 ≤ t:=not_lt.1 ty
        have y0 : sn t = q 0:=by
          refine Cs ?_ ?_
          · rw [et]; have:=B6 hy (le_of_lt hi0); rwa [zero_mul] at this
          · have:=(Qi (x:=q 0) (y:=t) (le_of_lt Qn) t2 (le_of_lt Fv) t1).2 t0
            rwa [Ih] at this
        have tz : t = q 0:=by
          refine Cs ?_ t0
          exact (Qi (x:=t) (y:=q 0) t1 (le_of_lt Fv) t2 (le_of_lt Qn)).1 (by rw [y0,Ih]; exact le_refl _)
        subst tz
        refine ⟨pi,jR mT Ada,le_refl _,w,wp,?_,?_⟩
        · have e3 : sn pi = -sn (q 0):=by have:=iC (q 0); rwa [zero_add] at this
          rw [e3,y0,show -q 0 = q 0 from by rw [← Ii]; rfl,← y0,et]; exact ws y
        · have e3 : cn pi = -cn (q 0):=by have:=tO (q 0); rwa [zero_add] at this
          rw [e3,ec,neg_neg]; exact ws x
theorem Aeu {y x t v u s : R} (h : uO y x t) (k : uO v u s) (hd : t - s < pi) (hc : u * y - v * x ≤ q 0) : t ≤ s:=by
  obtain ⟨_,_,r,hr,ey,ex_⟩:=h
  obtain ⟨_,_,m,hm,ev,eu⟩:=k
  refine Classical.byContradiction fun c=>?_
  have p:=Uv (fun c2=>c (Akw _ _ c2)) hd
  refine mul_pos (mul_pos hr hm) p ?_
  rw [nT]
  refine le_trans ?_ hc
  rw [ey,ex_,ev,eu]
  have : r * m * (sn t * cn s - cn t * sn s) = m * cn s * (r * sn t) - m * sn s * (r * cn t):=Aea (P:=fun r m a b c d=>r * m * (a * d - b * c) = m * d * (r * a) - m * c * (r * b)) (fun r m a b c d=>pt fun n=>by simp only [Cu,C1,C4,Ct,Jx]; grind) r m (sn t) (cn t) (sn s) (cn s)
  rw [this]
  exact le_refl _
theorem Zd {y x t : R} (h : uO y x t) : (q 0 < x → -hp < t ∧ t < hp) ∧ (q 0 ≤ y → q 0 ≤ t) ∧ (y < q 0 → t < q 0):=by
  obtain ⟨h1,h2,r,hr,ey,ex_⟩:=h
  have shift : ∀ a : R,cn a = sn (a + hp):=fun a=>(Oz a).symm
  refine ⟨fun hx=>?_,fun hy=>?_,fun hy=>?_⟩
  · have c0 : q 0 < cn t:=by
      refine Classical.byContradiction fun k=>?_
      have:=Ba (not_lt.1 k) (le_of_lt hr)
      rw [mul_zero,← ex_] at this
      exact hx this
    constructor
    · intro k
      have : cn (-t) ≤ cn hp:=Wu (le_of_lt Fv) (by have:=Bw k; rwa [neg_neg] at this) (by rw [← mK]; have:=Bw (le_of_lt h1); rwa [neg_neg] at this)
      rw [Mf,Yd] at this
      exact c0 this
    · intro k
      have : cn t ≤ cn hp:=Wu (le_of_lt Fv) k (by rw [← mK]; exact h2)
      rw [Yd] at this
      exact c0 this
  · refine Classical.byContradiction fun k=>?_
    have p : q 0 < sn (-t):=Uv (fun c=>k (by have:=Bw c; rwa [neg_neg,show -q 0 = q 0 from by rw [← Ii]; rfl] at this)) (fun c=>h1 (by have:=Bw c; rwa [neg_neg] at this))
    rw [L1] at p
    have:=mul_pos hr p
    rw [mul_neg,← ey] at this
    exact this (Iu hy)
  · intro k
    have s0 : q 0 ≤ sn t:=by
      by_cases c : q 0 < t
      · by_cases c2 : t < pi
        · exact le_of_lt (Uv c c2)
        · have : t = pi:=Cs h2 (not_lt.1 c2)
          have e3 : sn pi = -sn (q 0):=by have:=iC (q 0); rwa [zero_add] at this
          rw [this,e3,Ih,← Ii]
          exact le_refl _
      · rw [Cs (not_lt.1 c) k,Ih]
        exact le_refl _
    have:=mul_nonneg (le_of_lt hr) s0
    rw [← ey] at this
    exact hy this
def stq (c : Rat) (y s : R) : R:=q c - y * s
def hat (y : R) : R:=stq 1 y (stq (1/3) y (stq (1/5) y (stq (1/7) y (stq (1/9) y (stq (1/11) y (stq (1/13) y (stq (1/15) y (stq (1/17) y (stq (1/19) y (q (1/21)))))))))))
def stS (c : Rat) (y s : CS) : CS:=(CS.q c).sub (y.mul s)
def Ak0 (y : CS) : CS:=stS 1 y (stS (1/3) y (stS (1/5) y (stS (1/7) y (stS (1/9) y (stS (1/11) y (stS (1/13) y (stS (1/15) y (stS (1/17) y (stS (1/19) y (CS.q (1/21)))))))))))
theorem Ajr (a : CS) : hat (mk a) = mk (Ak0 a):=rfl
theorem Ag9 : ∀ x : R,x * hat (x * x) = U7 aC x:=Dm fun a=>by
  rw [R1,show mk a * mk a = mk (a.mul a) from rfl,Ajr]
  refine pt fun n=>?_
  rw [R2]
  simp only [Ak0,stS,Ct,C1,Jx,aC,bZ]
  grind
theorem Sl : ∀ {x y : R},x + x ≤ y + y → x ≤ y:=fun {x y}=>Gw (P:=fun x y=>x + x ≤ y + y → x ≤ y) (fun a b k=>Xl k fun n e he p=>by simp only [Cu,C1,C4,Ct,Jx] at *; grind) x y
theorem Ahm {x y : R} (h : x + x = y + y) : x = y:=Cs (Sl (by rw [h]; exact le_refl _)) (Sl (by rw [h]; exact le_refl _))
theorem k9 {t : R} (h1 : -hp < t) (h2 : t < hp) : -hp < q (1/2) * t ∧ q (1/2) * t < hp:=by
  have hp0:=le_of_lt Fv
  constructor
  · intro k
    refine h1 ?_
    have e:=Bc k k
    rw [Hr] at e
    refine le_trans e ?_
    have:=Bc (Iu hp0) (le_refl (-hp))
    rwa [zero_add] at this
  · intro k
    refine h2 ?_
    have e:=Bc k k
    rw [Hr] at e
    refine le_trans ?_ e
    have:=Bc hp0 (le_refl hp)
    rwa [zero_add] at this
theorem yN {t : R} (h1 : -hp ≤ t) (h2 : t ≤ hp) : -hp < q (1/2) * t ∧ q (1/2) * t < hp:=by
  have key : ∀ h x : R,h + h ≤ x + x → x + x ≤ h → h ≤ q 0:=fun h x=>Gw (P:=fun h x=>h + h ≤ x + x → x + x ≤ h → h ≤ q 0) (fun a b k l=>Xk k l fun n e he p r=>by simp only [Cu,C1,C4,Ct,Jx] at *; grind) h x
  constructor
  · intro k
    have e:=Bc k k
    refine Fv (key hp (-(q (1/2) * t)) ?_ ?_)
    · have:=Bw e
      rw [Hr,L4,neg_neg,J5] at this
      rw [show -(q (1/2) * t) + -(q (1/2) * t) = -t from by rw [Ev,← L4,Hr]]
      exact this
    · rw [show -(q (1/2) * t) + -(q (1/2) * t) = -t from by rw [Ev,← L4,Hr]]
      have:=Bw h1
      rwa [neg_neg] at this
  · intro k
    have e:=Bc k k
    refine Fv (key hp (q (1/2) * t) e ?_)
    rw [Hr]; exact h2
theorem Acs {t x c z : R} (h1 : -hp ≤ t) (h2 : t ≤ hp) (e : sn t = x) (hc : q 0 ≤ c) (ec : c * c + x * x = q 1) (ez : z * (q 1 + c) = x) : sn (q (1/2) * t) = z * cn (q (1/2) * t):=by
  have sU : cn t = c:=dC h1 h2 hc (by rw [e]; exact ec)
  obtain ⟨k1,k2⟩:=yN h1 h2
  have cp:=Hx k1 k2
  have a1 : sn t = sn (q (1/2) * t) * cn (q (1/2) * t) + cn (q (1/2) * t) * sn (q (1/2) * t):=by rw [← dW,Hr]
  have a2 : cn t = cn (q (1/2) * t) * cn (q (1/2) * t) - sn (q (1/2) * t) * sn (q (1/2) * t):=by rw [← eQ,Hr]
  have a3:=Xw (q (1/2) * t)
  generalize sn (q (1/2) * t) = s at *
  generalize cn (q (1/2) * t) = w at *
  refine Kz (z:=w) (Ahm ?_) cp
  rw [← e,← sU,a1,a2,← a3] at ez
  have f1 : z * (w * w + s * s + (w * w - s * s)) = z * w * w + z * w * w:=Mw (P:=fun z w s=>z * (w * w + s * s + (w * w - s * s)) = z * w * w + z * w * w) (fun a b c=>pt fun n=>by simp only [Cu,C1,C4,Ct,Jx]; grind) z w s
  rw [f1] at ez
  rw [ez,mul_comm w s]
theorem Ae0 {x : R} (h : Ab x (q 1)) : ∃ c z,q 0 ≤ c ∧ c * c + x * x = q 1 ∧ z * (q 1 + c) = x:=by
  have h1 : q 0 ≤ q 1 - x * x:=by
    have:=Ab.sq h
    rw [mul_one] at this
    exact Ir this
  obtain ⟨c,c0,ec⟩:=V6 h1
  obtain ⟨i,hi,_⟩:=Td (Jv (Qb.2 (by decide : (0 : Rat) < 1)) c0)
  refine ⟨c,x * i,c0,by rw [ec,C7],?_⟩
  rw [mul_assoc,mul_comm i,hi,mul_one]
theorem Acx (x : R) : ∃ s z,q 0 ≤ s ∧ s * s = q 1 + x * x ∧ z * (q 1 + s) = x:=by
  obtain ⟨s,s0,es⟩:=V6 (le_of_lt (Jv (Qb.2 (by decide : (0 : Rat) < 1)) (D3 x)))
  obtain ⟨i,hi,_⟩:=Td (Jv (Qb.2 (by decide : (0 : Rat) < 1)) s0)
  refine ⟨s,x * i,s0,es,?_⟩
  rw [mul_assoc,mul_comm i,hi,mul_one]
theorem Agd {t x : R} (h1 : -hp < t) (h2 : t < hp) (e : sn t = x * cn t) (hx : q 0 < x) : q 0 < t:=fun k=>by
  have : sn t ≤ q 0:=by
    have:=(Qi (le_of_lt h1) (le_of_lt Fv) (le_of_lt h2) (le_of_lt Qn)).2 k
    rwa [Ih] at this
  rw [e] at this
  exact mul_pos hx (Hx h1 h2) this
theorem Ge : ∀ x y : R,x - (x - y) = y:=Gw fun a b=>pt fun n=>by simp only [Cu,C1,C4,Ct,Jx]; grind
theorem kV {n : Int} (h : 0 < n) : (0 : Rat) < (n : Rat):=by
  have:=E3 (show (1 : Int) ≤ n by omega)
  have e1 : ((1 : Int) : Rat) = 1:=by decide
  grind
theorem iB : sn pi = q 0:=by
  have:=iC (q 0)
  rw [zero_add,Ih] at this
  rw [this,← Ii]; rfl
theorem yZ {y x t : R} (h : uO y x t) (hx : x < q 0) : (q 0 ≤ y → hp < t) ∧ (y < q 0 → t < -hp):=by
  obtain ⟨d1,d2,d3⟩:=Zd h
  obtain ⟨h1,h2,r,hr,ey,ex_⟩:=h
  have key : -hp ≤ t → t ≤ hp → False:=fun a b=>hx (by rw [ex_]; exact mul_nonneg (le_of_lt hr) (z6 a b))
  constructor
  · intro hy c
    exact key (le_trans (le_of_lt Qn) (d2 hy)) c
  · intro hy c
    exact key c (le_trans (le_of_lt (d3 hy)) (le_of_lt Fv))
theorem Aes {y x t : R} (h : uO y x t) (hy : q 0 < y) : q 0 < t ∧ t < pi:=by
  have d2:=(Zd h).2.1 (le_of_lt hy)
  obtain ⟨h1,h2,r,hr,ey,ex_⟩:=h
  constructor
  · intro c
    have z : t = q 0:=Cs c d2
    rw [z,Ih,mul_zero] at ey
    rw [ey] at hy
    exact hy (le_refl _)
  · intro c
    have z : t = pi:=Cs h2 c
    rw [z,iB,mul_zero] at ey
    rw [ey] at hy
    exact hy (le_refl _)
theorem Aex {t s a : R} (h : t ≤ a + pi) (k : a < s) : t - s < pi:=fun c=>k (by
  have:=Du h c
  rw [add_sub_cancel,Ge] at this
  exact this)
theorem Ajz {xl xh yl yh x y : R} (x1 : xl ≤ x) (x2 : x ≤ xh) (y1 : yl ≤ y) (y2 : y ≤ yh) : (∃ u v,(u = xl ∨ u = xh) ∧ (v = yl ∨ v = yh) ∧ u * y - v * x ≤ q 0) ∧ (∃ u v,(u = xl ∨ u = xh) ∧ (v = yl ∨ v = yh) ∧ x * v - y * u ≤ q 0):=by
  have neg : ∀ {u w z : R},w ≤ u → z ≤ q 0 → u * z ≤ w * z:=fun {u w z} b h=>by
    have:=B6 b (Fo h)
    rw [mul_neg,mul_neg] at this
    have:=Bw this
    rwa [neg_neg,neg_neg] at this
  have pick : ∀ (a b w z : R),a ≤ w → w ≤ b → (∃ u,(u = a ∨ u = b) ∧ u * z ≤ w * z) ∧ ∃ u,(u = a ∨ u = b) ∧ w * z ≤ u * z:=fun a b w z h1 h2=>by
    rcases le_total (q 0) z with h | h
    · exact ⟨⟨a,.inl rfl,B6 h1 h⟩,⟨b,.inr rfl,B6 h2 h⟩⟩
    · exact ⟨⟨b,.inr rfl,neg h2 h⟩,⟨a,.inl rfl,neg h1 h⟩⟩
  obtain ⟨⟨u1,hu1,a1⟩,⟨u2,hu2,a2⟩⟩:=pick xl xh x y x1 x2
  obtain ⟨⟨v1,hv1,b1⟩,⟨v2,hv2,b2⟩⟩:=pick yl yh y x y1 y2
  constructor
  · refine ⟨u1,v2,hu1,hv2,?_⟩
    have:=Du a1 b2
    rwa [mul_comm y x,sub_self] at this
  · refine ⟨u2,v1,hu2,hv1,?_⟩
    have:=Du b1 a2
    rw [mul_comm y x,sub_self] at this
    rwa [mul_comm x v1,mul_comm y u2]
theorem Aev {yl yh xl xh y x t a : R} (h : uO y x t) (x1 : xl ≤ x) (x2 : x ≤ xh) (y1 : yl ≤ y) (y2 : y ≤ yh) (ht : a < t ∧ t ≤ a + pi)
    (hc : ∀ u v,(u = xl ∨ u = xh) → (v = yl ∨ v = yh) → ∃ s,uO v u s ∧ a < s ∧ s ≤ a + pi) :
    (∃ u v s,(u = xl ∨ u = xh) ∧ (v = yl ∨ v = yh) ∧ uO v u s ∧ s ≤ t) ∧ (∃ u v s,(u = xl ∨ u = xh) ∧ (v = yl ∨ v = yh) ∧ uO v u s ∧ t ≤ s):=by
  obtain ⟨⟨u,v,hu,hv,k⟩,⟨u',v',hu',hv',k'⟩⟩:=Ajz x1 x2 y1 y2
  obtain ⟨s,d,s1,s2⟩:=hc u v hu hv
  obtain ⟨s',d',s1',s2'⟩:=hc u' v' hu' hv'
  exact ⟨⟨u',v',s',hu',hv',d',Aeu d' h (Aex s2' ht.1) k'⟩,⟨u,v,s,hu,hv,d,Aeu h d (Aex ht.2 s1) k⟩⟩
theorem eN : ∀ k : Nat,ex (q ((k : Int) : Rat) * dQ) = q (((2 ^ k : Int)) : Rat)
  | 0=>by
    rw [show q (((0 : Nat) : Int) : Rat) = q 0 from rfl,zero_mul,Y9]
    congr 1
  | k + 1=>by
    have e : q (((k + 1 : Nat) : Int) : Rat) * dQ = q ((k : Int) : Rat) * dQ + dQ:=by
      rw [show (((k + 1 : Nat) : Int) : Rat) = ((k : Int) : Rat) + 1 from by push_cast; rfl,L3,add_mul,one_mul]
    rw [e,Om,eN k,Aef,← Ez,Int.pow_succ]
    congr 1
    push_cast
    rfl
theorem w8 : q (69/100) ≤ dQ ∧ dQ ≤ q (70/100):=⟨le_trans (Dd.2 (by decide +kernel)) Ad1,le_trans Ad2 (Dd.2 (by decide +kernel))⟩
theorem Ajw {x : R} (h : x ≤ q (-23)) : q 0 ≤ ex x ∧ ex x ≤ fx 1:=by
  refine ⟨le_of_lt (Qr x),?_⟩
  have e:=eN 32
  have b : q (((32 : Nat) : Int) : Rat) * dQ ≤ q 23:=by
    refine le_trans (Ba w8.2 (Jj (by decide))) ?_
    rw [← Ez]
    exact Dd.2 (by decide +kernel)
  have c : x ≤ -(q (((32 : Nat) : Int) : Rat) * dQ):=le_trans h (by
    rw [Ii]; exact Bw b)
  refine le_trans (Q8 c) ?_
  have m:=R4 (q (((32 : Nat) : Int) : Rat) * dQ)
  rw [e] at m
  refine Fa (z:=q ((2 ^ 32 : Int) : Rat)) ?_ (Qb.2 (by decide))
  rw [mul_comm,m,Zr,← Ez]
  exact Dd.2 (by decide +kernel)
theorem Ahl {c : Rat} (hc : 0 < c) (r p : R) : (r * p * q (1 / c)) * q c = r * p:=by
  rw [mul_assoc,← Ez,Rat.div_mul_cancel (Rat.ne_of_gt hc),mul_one]
theorem xR {s t : R} (h : s ≤ t) : ex s - ex (-s) ≤ ex t - ex (-t):=Du (Q8 h) (Q8 (Bw h))
def adq (c : Rat) (y s : R) : R:=q c + y * s
def lat (y : R) : R:=adq 1 y (adq (1/3) y (adq (1/5) y (adq (1/7) y (adq (1/9) y (q (1/11))))))
def adS (c : Rat) (y s : CS) : CS:=(CS.q c).add (y.mul s)
def Ajm (y : CS) : CS:=adS 1 y (adS (1/3) y (adS (1/5) y (adS (1/7) y (adS (1/9) y (CS.q (1/11))))))
theorem Ajl (a : CS) : lat (mk a) = mk (Ajm a):=rfl
theorem Ag3 : ∀ x : R,q 2 * x * lat (x * x) = q 2 * U7 lC x:=Dm fun a=>by
  rw [R1,show mk a * mk a = mk (a.mul a) from rfl,Ajl]
  refine pt fun n=>?_
  show 2 * a.f n * (Ajm (a.mul a)).f n = 2 * (aG lC a).f n
  rw [R2]
  simp only [Ajm,adS,Ct,Cu,Jx,lC,bZ]
  grind
theorem Ady {m z y : R} (h1 : q (3/4) ≤ m) (h2 : m ≤ q (3/2)) (e : ex y = m) (ez : z * (m + q 1) = m - q 1) : Ab z (q (1/5)) ∧ ex y * (q 1 - z) = q 1 + z:=by
  have mp : q 0 < m + q 1:=Jv (lt_of_lt_of_le (Qb.2 (by decide +kernel)) h1) (Dd.2 (by decide))
  refine ⟨⟨?_,?_⟩,?_⟩
  · refine Fa (z:=m + q 1) ?_ mp
    rw [ez]
    exact (Dm (P:=fun m=>q (3/4) ≤ m → -q (1/5) * (m + q 1) ≤ m - q 1) (fun a k=>Xl k fun n e he p=>by simp only [Cu,C1,C4,Ct,Jx] at *; grind) m) h1
  · refine Fa (z:=m + q 1) ?_ mp
    rw [ez]
    exact (Dm (P:=fun m=>m ≤ q (3/2) → m - q 1 ≤ q (1/5) * (m + q 1)) (fun a k=>Xl k fun n e he p=>by simp only [Cu,C1,C4,Ct,Jx] at *; grind) m) h2
  · rw [e]
    refine Kz (z:=m + q 1) ?_ mp
    have a : m * (q 1 - z) * (m + q 1) = m * (m + q 1) - m * (z * (m + q 1)):=Gw (P:=fun m z=>m * (q 1 - z) * (m + q 1) = m * (m + q 1) - m * (z * (m + q 1))) (fun a b=>pt fun n=>by simp only [Cu,C1,C4,Ct,Jx]; grind) m z
    have b : (q 1 + z) * (m + q 1) = m + q 1 + z * (m + q 1):=by rw [add_mul,one_mul]
    rw [a,b,ez]
    exact Dm (P:=fun m=>m * (m + q 1) - m * (m - q 1) = m + q 1 + (m - q 1)) (fun a=>pt fun n=>by simp only [Cu,C1,C4,Ct,Jx]; grind) m
theorem Aa4 (k : Nat) (y : R) : ex (y - q ((k : Int) : Rat) * dQ) * q ((2 ^ k : Int) : Rat) = ex y:=by
  rw [← eN,← Om,C7]
theorem Aa5 (k : Nat) (y : R) : ex (y + q ((k : Int) : Rat) * dQ) = ex y * q ((2 ^ k : Int) : Rat):=by
  rw [← eN,← Om]
def Ash (y t : R) : Prop:=ex t - ex (-t) = y + y
theorem tW {x y s t : R} (h : Ash x s) (k : Ash y t) (hl : x ≤ y) : s ≤ t:=by
  refine Classical.byContradiction fun c=>?_
  have c:=not_le.1 c
  have a:=Aee c
  have b:=Aee (Gv c)
  have e1 : x + x ≤ y + y:=Bc hl hl
  rw [← h,← k] at e1
  generalize ex s = u at *
  generalize ex t = v at *
  generalize ex (-s) = w at *
  generalize ex (-t) = z at *
  refine a ?_
  have b':=le_of_lt b
  exact (Mv (P:=fun u v w z=>u - w ≤ v - z → w ≤ z → u ≤ v) (fun a b c d k l=>Xk k l fun n e he p r=>by simp only [Cu,C1,C4,Ct,Jx] at *; grind) u v w z) e1 b'
theorem Aht {y t : R} (h : Ash y t) : Ash (-y) (-t):=by
  show ex (-t) - ex (- -t) = -y + -y
  rw [neg_neg,← J9,h,L4,Ev]
theorem Ae7 {y t : R} (h : Ash y t) : q 0 ≤ ex t - y ∧ (ex t - y) * (ex t - y) = y * y + q 1:=by
  have p:=Qr t
  have p':=Qr (-t)
  have n:=R4 t
  have h' : ex t - ex (-t) = y + y:=h
  generalize ex t = u at *
  generalize ex (-t) = v at *
  have two : (u - y) + (u - y) = u + v:=by
    have : (u - y) + (u - y) = u + u - (y + y):=Gw (P:=fun u y=>(u - y) + (u - y) = u + u - (y + y)) (fun a b=>pt fun n=>by simp only [Cu,C1,C4,Ct,Jx]; grind) u y
    rw [this,← h']
    exact Gw (P:=fun u v=>u + u - (u - v) = u + v) (fun a b=>pt fun n=>by simp only [Cu,C1,C4,Ct,Jx]; grind) u v
  constructor
  · refine Sl ?_
    rw [two,add_zero]
    exact le_of_lt (Jv p (le_of_lt p'))
  · have e : (u - y) * (u - y) - y * y = u * (u - (y + y)):=Gw (P:=fun u y=>(u - y) * (u - y) - y * y = u * (u - (y + y))) (fun a b=>pt fun n=>by simp only [Cu,C1,C4,Ct,Jx]; grind) u y
    rw [← h',Ge,n] at e
    have:=congrArg (fun z=>z + y * y) e
    simp only [C7] at this
    rw [this,add_comm]
theorem nI (y : R) : ∃ t,Ash y t:=by
  have w0 : q 0 < y * y + q 1:=by rw [add_comm]; exact Jv (Qb.2 (by decide)) (D3 y)
  obtain ⟨s,s0,es⟩:=V6 (le_of_lt w0)
  have pos : q 0 < y + s:=by
    have m : (y + s) * (s - y) = q 1:=by
      have : (y + s) * (s - y) = s * s - y * y:=Gw (P:=fun y s=>(y + s) * (s - y) = s * s - y * y) (fun a b=>pt fun n=>by simp only [Cu,C1,C4,Ct,Jx]; grind) y s
      rw [this,es,J2]
    rcases le_total (q 0) y with h | h
    · have sp : q 0 < s:=fun k=>by
        have z : s = q 0:=Cs k s0
        rw [z,zero_mul] at es
        rw [← es] at w0
        exact w0 (le_refl _)
      rw [add_comm]; exact Jv sp h
    · have d : q 0 ≤ s - y:=Ir (le_trans h s0)
      exact Oi (y:=s - y) (by rw [m]; exact Qb.2 (by decide)) d
  obtain ⟨t,et⟩:=U0 pos
  refine ⟨t,?_⟩
  have n:=R4 t
  have p:=Qr t
  show ex t - ex (-t) = y + y
  rw [et] at n p ⊢
  have m : (s - y) * (y + s) = q 1:=by
    have : (s - y) * (y + s) = s * s - y * y:=Gw (P:=fun y s=>(s - y) * (y + s) = s * s - y * y) (fun a b=>pt fun n=>by simp only [Cu,C1,C4,Ct,Jx]; grind) y s
    rw [this,es,J2]
  have : ex (-t) = s - y:=Kz (z:=y + s) (by rw [m,mul_comm,n]) p
  rw [this]
  exact Gw (P:=fun y s=>y + s - (s - y) = y + y) (fun a b=>pt fun n=>by simp only [Cu,C1,C4,Ct,Jx]; grind) y s
theorem Ahu {y t l : R} (h : Ash y t) (e : ex l = y) (hy : q 8192 ≤ y) : q 0 ≤ t - (dQ + l) ∧ t - (dQ + l) ≤ fx 16:=by
  have yp : q 0 < y:=lt_of_lt_of_le (Qb.2 (by decide)) hy
  obtain ⟨s0,es⟩:=Ae7 h
  have e2 : ex (dQ + l) = y + y:=by rw [Om,Aef,e,xC]
  obtain ⟨i,hi,i0⟩:=Td yp
  have ib : i ≤ q (1/8192):=by
    refine Fa (z:=y) ?_ yp
    rw [mul_comm i,hi]
    have:=Ba hy (Jj (by decide +kernel : (0 : Rat) ≤ 1/8192))
    rw [← Ez] at this
    exact le_trans (Dd.2 (by decide +kernel)) this
  have i0':=le_of_lt i0
  constructor
  · refine Ir (Z6.1 ?_)
    rw [e2]
    have ys : y ≤ ex t - y:=Hg (by
      rw [es]
      have:=Bc (le_refl (y * y)) (Jj (by decide : (0 : Rat) ≤ 1))
      rwa [add_zero] at this) s0
    have:=Bc ys (le_refl y)
    rwa [C7] at this
  · refine Oy (Z6.1 ?_)
    rw [Om,e2]
    have up : ex t - y ≤ y + q (1/2) * i:=Hg (by
      rw [es]
      have : (y + q (1/2) * i) * (y + q (1/2) * i) = y * y + y * i + q (1/4) * (i * i):=Gw (P:=fun y i=>(y + q (1/2) * i) * (y + q (1/2) * i) = y * y + y * i + q (1/4) * (i * i)) (fun a b=>pt fun n=>by simp only [Cu,C1,C4,Ct,Jx]; grind) y i
      rw [this,hi]
      have:=Bc (le_refl (y * y + q 1)) (mul_nonneg (Jj (by decide +kernel : (0 : Rat) ≤ 1/4)) (D3 i))
      rwa [add_zero] at this) (Jm (le_of_lt yp) (mul_nonneg (Jj (by decide +kernel)) i0'))
    have d : q (1/4) * (i * i) ≤ fx 16:=by
      have:=Ba (le_trans (Ba ib i0') (B6 ib (Jj (by decide +kernel)))) (Jj (by decide +kernel : (0 : Rat) ≤ 1/4))
      refine le_trans this ?_
      rw [← Ez,← Ez,Zr]
      exact Dd.2 (by decide +kernel)
    have g : q 1 + q (1/4) * (i * i) ≤ ex (fx 16):=le_trans (Aeg (mul_nonneg (Jj (by decide +kernel)) (D3 i))) (Q8 d)
    have m:=B6 g (le_of_lt (Jv yp (le_of_lt yp)))
    have f : (q 1 + q (1/4) * (i * i)) * (y + y) = y + y + q (1/2) * (i * (y * i)):=Gw (P:=fun y i=>(q 1 + q (1/4) * (i * i)) * (y + y) = y + y + q (1/2) * (i * (y * i))) (fun a b=>pt fun n=>by simp only [Cu,C1,C4,Ct,Jx]; grind) y i
    rw [f,hi,mul_one] at m
    refine le_trans ?_ m
    have:=Bc up (le_refl y)
    rw [C7] at this
    refine le_trans this ?_
    rw [show y + q (1/2) * i + y = y + y + q (1/2) * i from by rw [add_assoc,add_comm (q (1/2) * i),← add_assoc]]
    exact le_refl _
theorem Ta {x y : R} (h : x = y) : x ≤ y:=h ▸ le_refl _
theorem Adb : kh 2 = pi:=by rw [show (2 : Int) = 1 + 1 by decide,Np,Kx]; rfl
theorem Aie {t : R} (h0 : q 0 ≤ t) (h1 : t ≤ pi) : q 0 ≤ sn t:=by
  by_cases p : q 0 < t
  · by_cases p2 : t < pi
    · exact le_of_lt (Uv p p2)
    · rw [Cs h1 (not_lt.1 p2),iB]; exact le_refl _
  · rw [Cs (not_lt.1 p) h0,Ih]; exact le_refl _
theorem Af8 {u : R} (h0 : q 0 ≤ u) (h1 : u ≤ pi) : u * cn u ≤ sn u:=by
  obtain ⟨A,hA,hb⟩:=big (q 0) u
  have S : Sm (Up A) (fun x=>sn x - x * cn x) (fun x=>x * sn x):=((bP hA).sub ((Sm.id (V5 hA)).mul (fS hA))).congr fun x _=>(Mw (P:=fun x c s=>c - (q 1 * c + x * -s) = x * s) (fun x c s=>pt fun n__=>by simp only [Cu,C1,C4,Ct,Jx]; grind) x (cn x) (sn x))
  have:=S.mono h0 hb fun x a b=>mul_nonneg a (Aie a (le_trans b h1))
  rw [zero_mul,Ih,sub_zero] at this
  exact J0 this
theorem Aim {u v : R} (h0 : q 0 ≤ v) (h : v ≤ u) (h1 : u ≤ pi) : v * sn u ≤ u * sn v:=by
  obtain ⟨A,hA,hb⟩:=big (q 0) u
  have S : Sm (Up A) (fun x=>u * sn x - x * sn u) (fun x=>u * cn x - sn u):=((((Sm.const (Up A) u).mul (bP hA))).sub ((Sm.id (V5 hA)).mul (Sm.const (Up A) (sn u)))).congr fun x _=>(Ag7 (P:=fun u s c w x=>q 0 * s + u * c - (q 1 * w + x * q 0) = u * c - w) (fun u s c w x=>pt fun n__=>by simp only [Cu,C1,C4,Ct,Jx]; grind) u (sn x) (cn x) (sn u) x)
  have u0:=le_trans h0 h
  have v1:=le_trans h h1
  refine J0 ?_
  rcases le_total (q 0) (u * cn v - sn u) with k | k
  · have:=S.mono h0 (fun x a b=>hb x a (le_trans b h)) fun x a b=>le_trans k (Du (Ba (Wu a b (by rw [Adb]; exact v1)) u0) (le_refl _))
    rwa [Ih,mul_zero,zero_mul,sub_zero] at this
  · have:=S.neg.mono h (fun x a b=>hb x (le_trans h0 a) b) fun x a b=>Fo (le_trans (Du (Ba (Wu h0 a (by rw [Adb]; exact le_trans b h1)) u0) (le_refl _)) k)
    rw [sub_self] at this
    have:=Bw this
    rwa [neg_neg,neg_neg] at this
theorem Ahp {n u v : R} (u0 : q 0 ≤ u) (u1 : u ≤ pi) (v0 : q 0 ≤ v) (v1 : v ≤ pi) (hn : v < u ∨ u < v) (e : n * (u - v) = sn u - sn v) : n * u ≤ sn u:=by
  rcases hn with h | h
  · have p : q 0 < u - v:=fun k=>h (by have:=Bc k (le_refl v); rwa [C7,zero_add] at this)
    refine Fa (z:=u - v) ?_ p
    have c:=Aim v0 (le_of_lt h) u1
    have e1 : n * u * (u - v) = u * sn u - u * sn v:=by rw [mul_assoc,Ga,e,yA]
    rw [e1]
    exact (Mv (P:=fun a b c d=>c ≤ b → a - c ≤ d → a - b ≤ d) (fun a b c d k0__ k1__=>Xk k0__ k1__ fun n__ e__ he__ p0__ p1__=>by simp only [Cu,C1,C4,Ct,Jx] at *; grind) (u * sn u) (u * sn v) (v * sn u) (sn u * (u - v)) (by exact c) (by exact (Ta (Mw (P:=fun u v s=>u * s - v * s = s * (u - v)) (fun u v s=>pt fun n__=>by simp only [Cu,C1,C4,Ct,Jx]; grind) u v (sn u)))))
  · have p : q 0 < v - u:=fun k=>h (by have:=Bc k (le_refl u); rwa [C7,zero_add] at this)
    refine Fa (z:=v - u) ?_ p
    have c:=Aim u0 (le_of_lt h) v1
    have e0 : n * (v - u) = sn v - sn u:=by rw [← J9 u v,mul_neg,e,J9]
    have e1 : n * u * (v - u) = u * sn v - u * sn u:=by rw [mul_assoc,Ga,e0,yA]
    rw [e1]
    exact (Mv (P:=fun a b c d=>a ≤ c → c - b ≤ d → a - b ≤ d) (fun a b c d k0__ k1__=>Xk k0__ k1__ fun n__ e__ he__ p0__ p1__=>by simp only [Cu,C1,C4,Ct,Jx] at *; grind) (u * sn v) (u * sn u) (v * sn u) (sn u * (v - u)) (by exact c) (by exact (Ta (Mw (P:=fun u v s=>v * s - u * s = s * (v - u)) (fun u v s=>pt fun n__=>by simp only [Cu,C1,C4,Ct,Jx]; grind) u v (sn u)))))
theorem Yz {x y : R} (h : y < q 0 ∨ q 0 < y) : ∃ z,z * y = x:=by
  rcases h with h | h
  · obtain ⟨i,hi,_⟩:=Td (x:=-y) (by have:=Gv h; rwa [show -q 0 = q 0 from by rw [← Ii]; rfl] at this)
    exact ⟨-(x * i),by rw [neg_mul,mul_assoc,← mul_neg,← mul_neg,mul_comm i,hi,mul_one]⟩
  · obtain ⟨i,hi,_⟩:=Td h
    exact ⟨x * i,by rw [mul_assoc,mul_comm i,hi,mul_one]⟩
theorem Jt {x y : R} (h : x < y) : q 0 < y - x:=fun k=>h (by have:=Bc k (le_refl x); rwa [C7,zero_add] at this)
theorem Ki {x y : R} (h : q 0 < y - x) : x < y:=fun k=>h (by have:=Du k (le_refl x); rwa [sub_self] at this)
theorem y8 {x : R} (h : x < q 0) : q 0 < -x:=by have:=Gv h; rwa [show -q 0 = q 0 from by rw [← Ii]; rfl] at this
theorem jO {x : R} (h : q 0 < x) : -x < q 0:=by have:=Gv h; rwa [show -q 0 = q 0 from by rw [← Ii]; rfl] at this
theorem wS (x y : R) : cn x - cn y = q 2 * (sn (q (1/2) * (x + y)) * sn (q (1/2) * (y - x))):=by
  have e1 : y = q (1/2) * (x + y) + q (1/2) * (y - x):=(Gw (P:=fun x y=>y = q (1/2) * (x + y) + q (1/2) * (y - x)) (fun x y=>pt fun n__=>by simp only [Cu,C1,C4,Ct,Jx]; grind) x y)
  have e2 : x = q (1/2) * (x + y) - q (1/2) * (y - x):=(Gw (P:=fun x y=>x = q (1/2) * (x + y) - q (1/2) * (y - x)) (fun x y=>pt fun n__=>by simp only [Cu,C1,C4,Ct,Jx]; grind) x y)
  have e3:=eQ (q (1/2) * (x + y)) (q (1/2) * (y - x))
  have e4:=wR (q (1/2) * (x + y)) (q (1/2) * (y - x))
  rw [← e1] at e3
  rw [← e2] at e4
  rw [e3,e4]
  exact Mv (P:=fun a b c d=>a * b + c * d - (a * b - c * d) = q 2 * (c * d)) (fun a b c d=>pt fun n=>by simp only [Cu,C1,C4,Ct,Jx] at *; grind) _ _ _ _
theorem Yy {x : R} (h1 : -hp ≤ x) (h2 : x < hp) : sn x < q 1:=by have:=mF h1 (le_refl hp) h2; rwa [fD] at this
theorem e8 {x : R} (h1 : -hp < x) (h2 : x ≤ hp) : -q 1 < sn x:=by have:=mF (le_refl (-hp)) h2 h1; rwa [L1,fD] at this
theorem Y8 : hp < pi:=by
  have:=Jv Fv (le_refl (q 0))
  exact fun k=>Fv (by have:=Du k (le_refl hp); rwa [show pi - hp = hp from add_sub_cancel _ _,sub_self] at this)
theorem mid {a b h : R} (h1 : a < h) (h2 : b < h) : q (1/2) * (a + b) < h:=fun k=>h1 (by
  have:=(Mw (P:=fun a b h=>h ≤ q (1/2) * (a + b) → b ≤ h → h ≤ a) (fun a b h k0__ k1__=>Xk k0__ k1__ fun n__ e__ he__ p0__ p1__=>by simp only [Cu,C1,C4,Ct,Jx] at *; grind) a b h k (le_of_lt h2))
  exact this)
theorem Ajh {a b h : R} (h1 : h < a) (h2 : h < b) : h < q (1/2) * (a + b):=fun k=>h1 (by
  have:=(Mw (P:=fun a b h=>q (1/2) * (a + b) ≤ h → h ≤ b → a ≤ h) (fun a b h k0__ k1__=>Xk k0__ k1__ fun n__ e__ he__ p0__ p1__=>by simp only [Cu,C1,C4,Ct,Jx] at *; grind) a b h k (le_of_lt h2))
  exact this)
theorem pE {A B : R} (a1 : -hp < A) (a2 : A < hp) (b1 : -hp < B) (b2 : B < hp) (h : A < B) :
    (-q 1 < sn (q (1/2) * (A + B)) ∧ sn (q (1/2) * (A + B)) < q 1) ∧ (q 0 < A + B → q 0 < sn (q (1/2) * (A + B))) ∧ q 0 < q (1/2) * (B - A) ∧ q 0 < sn (q (1/2) * (B - A)) ∧ sn (q (1/2) * (B - A)) ≤ q (1/2) * (B - A):=by
  have m1:=Ajh a1 b1
  have m2:=mid a2 b2
  have d0 : q 0 < q (1/2) * (B - A):=k8 (Jt h)
  have d1 : q (1/2) * (B - A) ≤ hp:=(Mw (P:=fun A B h=>-h ≤ A → B ≤ h → q (1/2) * (B - A) ≤ h) (fun A B h k0__ k1__=>Xk k0__ k1__ fun n__ e__ he__ p0__ p1__=>by simp only [Cu,C1,C4,Ct,Jx] at *; grind) A B hp (le_of_lt a1) (le_of_lt b2))
  refine ⟨⟨e8 m1 (le_of_lt m2),Yy (le_of_lt m1) m2⟩,fun k=>Uv (k8 k) (lt_of_lt_of_le m2 (le_of_lt Y8)),d0,Uv d0 (Kw d1 Y8),?_⟩
  have:=(Acr (le_of_lt d0)).2
  rwa [Ih,sub_zero,sub_zero] at this
def Nf (n A B : R) : Prop:=(q 0 < A + B → q 0 < n) ∧ (A + B < q 0 → n < q 0) ∧ -q 1 < n ∧ n < q 1
theorem y7 {n A B : R} (h1 : q 0 < A + B → q 0 < n) (h2 : q 0 < -A + -B → q 0 < -n) (h3 : -q 1 < n) (h4 : n < q 1) : Nf n A B:=
  ⟨h1,fun k=>by
    have:=jO (h2 (by have:=y8 k; rwa [L4,← Ev] at this))
    rwa [neg_neg] at this,h3,h4⟩
theorem iU {A : R} (h : q 0 < A + A) : q 0 < A:=fun k=>h (by have:=Bc k k; rwa [add_zero] at this)
theorem Ado {A : R} (a1 : -hp < A) (a2 : A < hp) : Nf (sn A) A A:=y7 (fun k=>Uv (iU k) (lt_of_lt_of_le a2 (le_of_lt Y8)))
  (fun k=>by rw [← L1]; exact Uv (iU k) (lt_of_lt_of_le (by have:=Gv a1; rwa [neg_neg] at this) (le_of_lt Y8))) (e8 a1 (le_of_lt a2)) (Yy (le_of_lt a1) a2)
theorem Aap {n A B : R} (a1 : -hp < A) (a2 : A < hp) (b1 : -hp < B) (b2 : B < hp) (e : n + n = sn A + sn B) : Nf n A B:=by
  have key : ∀ {n A B : R},-hp < A → A < hp → -hp < B → B < hp → n + n = sn A + sn B → (q 0 < A + B → q 0 < n) ∧ n < q 1:=fun {n A B} a1 a2 b1 b2 e=>by
    constructor
    · intro k
      refine iU ?_
      have l : -B < A:=Ki (by rwa [J5])
      have:=Jt (mF (x:=-B) (le_of_lt (Gv b2)) (le_of_lt a2) l)
      rwa [L1,J5,← e] at this
    · refine fun k=>Yy (le_of_lt a1) a2 ?_
      have:=(Mw (P:=fun n a b=>q 1 ≤ n → n + n ≤ a + b → b ≤ q 1 → q 1 ≤ a) (fun n a b k0__ k1__ k2__=>Ad3 k0__ k1__ k2__ fun n__ e__ he__ p0__ p1__ p2__=>by simp only [Cu,C1,C4,Ct,Jx] at *; grind) n (sn A) (sn B) k (Ta e) (le_of_lt (Yy (le_of_lt b1) b2)))
      exact this
  have k1:=key a1 a2 b1 b2 e
  have k2:=key (n:=-n) (A:=-A) (B:=-B) (Gv a2) (by have:=Gv a1; rwa [neg_neg] at this) (Gv b2) (by have:=Gv b1; rwa [neg_neg] at this) (by rw [L1,L1,Ev,Ev,← L4,← L4,e])
  exact y7 k1.1 k2.1 (by have:=Gv k2.2; rwa [neg_neg] at this) k1.2
theorem yO {n d c : R} (d0 : q 0 < d) (e : n * d = c) (h1 : -d < c) (h2 : c < d) : -q 1 < n ∧ n < q 1:=by
  constructor
  · refine fun k=>h1 ?_
    have:=B6 k (le_of_lt d0)
    rwa [neg_mul,one_mul,e] at this
  · refine fun k=>h2 ?_
    have:=B6 k (le_of_lt d0)
    rwa [one_mul,e] at this
theorem w6 {s e d : R} (s1 : -q 1 < s) (s2 : s < q 1) (e0 : q 0 < e) (h : e ≤ d) : -d < s * e ∧ s * e < d:=by
  constructor
  · have:=mul_pos (Jt s1) e0
    refine fun k=>this ?_
    exact (Mv (P:=fun s e d t=>t ≤ -d → e ≤ d → (s - -q 1) * e ≤ t + e → (s - -q 1) * e ≤ q 0) (fun s e d t k0__ k1__ k2__=>Ad3 k0__ k1__ k2__ fun n__ e__ he__ p0__ p1__ p2__=>by simp only [Cu,C1,C4,Ct,Jx] at *; grind) s e d (s * e) k h (Ta (Gw (P:=fun s e=>(s - -q 1) * e = s * e + e) (fun s e=>pt fun n__=>by simp only [Cu,C1,C4,Ct,Jx]; grind) s e)))
  · have:=mul_pos (Jt s2) e0
    refine fun k=>this ?_
    exact (Mv (P:=fun s e d t=>d ≤ t → e ≤ d → (q 1 - s) * e ≤ e - t → (q 1 - s) * e ≤ q 0) (fun s e d t k0__ k1__ k2__=>Ad3 k0__ k1__ k2__ fun n__ e__ he__ p0__ p1__ p2__=>by simp only [Cu,C1,C4,Ct,Jx] at *; grind) s e d (s * e) k h (Ta (Gw (P:=fun s e=>(q 1 - s) * e = e - s * e) (fun s e=>pt fun n__=>by simp only [Cu,C1,C4,Ct,Jx]; grind) s e)))
theorem sB {n A B : R} (a1 : -hp < A) (a2 : A < hp) (b1 : -hp < B) (b2 : B < hp) (h : A < B) (e : n * (B - A) = cn A - cn B) : Nf n A B:=by
  obtain ⟨⟨s1,s2⟩,sp,d0,e0,ed⟩:=pE a1 a2 b1 b2 h
  obtain ⟨_,sp',_⟩:=pE (Gv b2) (by have:=Gv b1; rwa [neg_neg] at this) (Gv a2) (by have:=Gv a1; rwa [neg_neg] at this) (Gv h)
  have e' : n * (q (1/2) * (B - A)) = sn (q (1/2) * (A + B)) * sn (q (1/2) * (B - A)):=by
    rw [wS] at e
    rw [Ga,e,← mul_assoc,← Ez,show (1/2 : Rat) * 2 = 1 from by decide +kernel,one_mul]
  obtain ⟨m1,m2⟩:=w6 s1 s2 e0 ed
  obtain ⟨f1,f2⟩:=yO d0 e' m1 m2
  refine y7 (fun k=>Oi (y:=q (1/2) * (B - A)) (by rw [e']; exact mul_pos (sp k) e0) (le_of_lt d0)) (fun k=>?_) f1 f2
  refine Oi (y:=q (1/2) * (B - A)) ?_ (le_of_lt d0)
  rw [neg_mul,e',← neg_mul,← L1,show -(q (1/2) * (A + B)) = q (1/2) * (-B + -A) from (Gw (P:=fun A B=>-(q (1/2) * (A + B)) = q (1/2) * (-B + -A)) (fun A B=>pt fun n__=>by simp only [Cu,C1,C4,Ct,Jx]; grind) A B)]
  exact mul_pos (sp' (by rwa [add_comm])) e0
theorem y6 {n A B : R} (h : Nf n B A) : Nf n A B:=⟨fun k=>h.1 (by rwa [add_comm]),fun k=>h.2.1 (by rwa [add_comm]),h.2.2⟩
def Iso (x t : R) : Prop:=ex t * cn x = q 1 + sn x
theorem pC {x t : R} (h : Iso x t) (c : q 0 < cn x) : ex (-t) * cn x = q 1 - sn x:=by
  have p:=Qr t
  refine Kz (z:=ex t * cn x) ?_ (mul_pos p c)
  have n:=R4 t
  have py:=Xw x
  rw [show ex (-t) * cn x * (ex t * cn x) = ex t * ex (-t) * (cn x * cn x) from (Mw (P:=fun u v c=>u * c * (v * c) = v * u * (c * c)) (fun u v c=>pt fun n__=>by simp only [Cu,C1,C4,Ct,Jx]; grind) (ex (-t)) (ex t) (cn x)),n,one_mul,h]
  rw [show (q 1 - sn x) * (q 1 + sn x) = q 1 - sn x * sn x from (Dm (P:=fun s=>(q 1 - s) * (q 1 + s) = q 1 - s * s) (fun s=>pt fun n__=>by simp only [Cu,C1,C4,Ct,Jx]; grind) (sn x)),← py,add_sub_cancel]
theorem wB {x : R} (x1 : -hp < x) (x2 : x < hp) : ∃ t,Iso x t:=by
  have c:=Hx x1 x2
  obtain ⟨i,hi,i0⟩:=Td c
  have s : q 0 < q 1 + sn x:=by rw [← J5,← J9,J9]; have:=Jt (e8 x1 (le_of_lt x2)); rw [J5,add_comm] at this; rwa [J5]
  obtain ⟨t,ht⟩:=U0 (mul_pos s i0)
  exact ⟨t,by show ex t * cn x = _; rw [ht,mul_assoc,mul_comm i,hi,mul_one]⟩
theorem yI {x s t : R} (h : Iso x s) (k : Iso x t) (c : q 0 < cn x) : s = t:=Ajv (Kz (by rw [show ex s * cn x = _ from h,show ex t * cn x = _ from k]) c)
theorem Za {x y : R} (h : ex x < ex y) : x < y:=fun k=>h (Q8 k)
theorem Aj1 {A B : R} (a1 : -hp < A) (a2 : A < hp) (b1 : -hp < B) (b2 : B < hp) (h : A < B) : (q 0 < A + B → cn B < cn A) ∧ (q 0 < -A + -B → cn A < cn B):=by
  obtain ⟨_,sp,_,e0,_⟩:=pE a1 a2 b1 b2 h
  obtain ⟨_,sp',_⟩:=pE (Gv b2) (by have:=Gv b1; rwa [neg_neg] at this) (Gv a2) (by have:=Gv a1; rwa [neg_neg] at this) (Gv h)
  have two : q 0 < q 2:=Qb.2 (by decide)
  constructor
  · intro k
    refine Ki ?_
    rw [wS]
    exact mul_pos two (mul_pos (sp k) e0)
  · intro k
    refine Ki ?_
    rw [← J9,wS,← mul_neg,← neg_mul,← L1,show -(q (1/2) * (A + B)) = q (1/2) * (-B + -A) from (Gw (P:=fun A B=>-(q (1/2) * (A + B)) = q (1/2) * (-B + -A)) (fun A B=>pt fun n__=>by simp only [Cu,C1,C4,Ct,Jx]; grind) A B)]
    exact mul_pos two (mul_pos (sp' (by rwa [add_comm])) e0)
theorem yH {A B s t la lb : R} (a1 : -hp < A) (a2 : A < hp) (b1 : -hp < B) (b2 : B < hp) (h : A < B) (hs : Iso A s) (ht : Iso B t) (ea : ex la = cn A) (eb : ex lb = cn B) : la - lb < t - s ∧ -(t - s) < la - lb:=by
  have ca:=Hx a1 a2
  have cb:=Hx b1 b2
  have sl:=mF (le_of_lt a1) (le_of_lt b2) h
  have i1 : la + s < lb + t:=Za (by
    rw [Om,Om,ea,eb,mul_comm,show ex s * cn A = _ from hs,mul_comm,show ex t * cn B = _ from ht]
    exact Ki (by
      have:=Jt sl
      rwa [show sn B - sn A = q 1 + sn B - (q 1 + sn A) from (Gw (P:=fun u v=>v - u = q 1 + v - (q 1 + u)) (fun u v=>pt fun n__=>by simp only [Cu,C1,C4,Ct,Jx]; grind) (sn A) (sn B))] at this))
  have i2 : lb + -t < la + -s:=Za (by
    rw [Om,Om,ea,eb,mul_comm,pC ht cb,mul_comm (cn A),pC hs ca]
    exact Ki (by
      have:=Jt sl
      rwa [show sn B - sn A = q 1 - sn A - (q 1 - sn B) from (Gw (P:=fun u v=>v - u = q 1 - u - (q 1 - v)) (fun u v=>pt fun n__=>by simp only [Cu,C1,C4,Ct,Jx]; grind) (sn A) (sn B))] at this))
  exact ⟨Ki (by
    have:=Jt i1
    rwa [show lb + t - (la + s) = t - s - (la - lb) from (Mv (P:=fun a b s t=>b + t - (a + s) = t - s - (a - b)) (fun a b s t=>pt fun n__=>by simp only [Cu,C1,C4,Ct,Jx]; grind) la lb s t)] at this),Ki (by
    have:=Jt i2
    rwa [show la + -s - (lb + -t) = la - lb - -(t - s) from (Mv (P:=fun a b s t=>a + -s - (b + -t) = a - b - -(t - s)) (fun a b s t=>pt fun n__=>by simp only [Cu,C1,C4,Ct,Jx]; grind) la lb s t)] at this)⟩
theorem wA {A B s t : R} (a1 : -hp < A) (a2 : A < hp) (b1 : -hp < B) (b2 : B < hp) (h : A < B) (hs : Iso A s) (ht : Iso B t) : s < t:=by
  obtain ⟨la,ea⟩:=U0 (Hx a1 a2)
  obtain ⟨lb,eb⟩:=U0 (Hx b1 b2)
  obtain ⟨l1,l2⟩:=yH a1 a2 b1 b2 h hs ht ea eb
  exact Ki fun k=>l2 (le_trans (le_of_lt l1) (le_trans k (Fo k)))
theorem jM {n A B s t la lb : R} (a1 : -hp < A) (a2 : A < hp) (b1 : -hp < B) (b2 : B < hp) (h : A < B) (hs : Iso A s) (ht : Iso B t) (ea : ex la = cn A) (eb : ex lb = cn B) (e : n * (t - s) = la - lb) : Nf n A B:=by
  obtain ⟨l1,l2⟩:=yH a1 a2 b1 b2 h hs ht ea eb
  have d0:=Jt (wA a1 a2 b1 b2 h hs ht)
  obtain ⟨f1,f2⟩:=yO d0 e l2 l1
  obtain ⟨c1,c2⟩:=Aj1 a1 a2 b1 b2 h
  refine y7 (fun k=>Oi (y:=t - s) (by rw [e]; exact Jt (Za (by rw [ea,eb]; exact c1 k))) (le_of_lt d0)) (fun k=>Oi (y:=t - s) ?_ (le_of_lt d0)) f1 f2
  rw [neg_mul,e,J9]
  exact Jt (Za (by rw [ea,eb]; exact c2 k))
def lZ (n A B : R) : Prop:=(A = B ∧ n = sn A) ∨ ((A < B ∨ B < A) ∧ n * (B - A) = cn A - cn B)
theorem lZ.neg {n A B : R} (h : lZ n A B) : lZ (-n) (-A) (-B):=by
  rcases h with ⟨rfl,rfl⟩ | ⟨h,e⟩
  · exact .inl ⟨rfl,by rw [L1]⟩
  · refine .inr ⟨h.elim (fun k=>.inr (Gv k)) (fun k=>.inl (Gv k)),?_⟩
    rw [Mf,Mf,← e]
    exact (Mw (P:=fun n A B=>-n * (-B - -A) = n * (B - A)) (fun n A B=>pt fun n__=>by simp only [Cu,C1,C4,Ct,Jx]; grind) n A B)
theorem Agl {n A B : R} {f : R → R} (e : n * (B - A) = f A - f B) : n * (A - B) = f B - f A:=by
  rw [← J9 B A,mul_neg,e,J9]
theorem lZ.nf {n A B : R} (h : lZ n A B) (a1 : -hp < A) (a2 : A < hp) (b1 : -hp < B) (b2 : B < hp) : Nf n A B:=by
  rcases h with ⟨rfl,rfl⟩ | ⟨h | h,e⟩
  · exact Ado a1 a2
  · exact sB a1 a2 b1 b2 h e
  · exact y6 (sB b1 b2 a1 a2 h (Agl (f:=cn) e))
theorem lZ.hi {n A B : R} (h : lZ n A B) (a1 : -hp < A) (a2 : A < hp) (b1 : -hp < B) (b2 : B < hp) : n * (hp - A) ≤ cn A:=by
  have rng : ∀ {X : R},-hp < X → X < hp → q 0 ≤ hp - X ∧ hp - X ≤ pi:=fun {X} h1 h2=>⟨Ir (le_of_lt h2),(Gw (P:=fun X h=>-h ≤ X → h - X ≤ h + h) (fun X h k0__=>Xl k0__ fun n__ e__ he__ p0__=>by simp only [Cu,C1,C4,Ct,Jx] at *; grind) X hp (le_of_lt h1))⟩
  obtain ⟨u0,u1⟩:=rng a1 a2
  obtain ⟨v0,v1⟩:=rng b1 b2
  rcases h with ⟨rfl,rfl⟩ | ⟨h,e⟩
  · have:=Af8 u0 u1
    rwa [Ze,Sj,mul_comm] at this
  · have:=Ahp (n:=n) u0 u1 v0 v1 (h.elim (fun k=>.inl (Ki (by
      have:=Jt k
      rwa [show B - A = hp - A - (hp - B) from (Mw (P:=fun A B h=>B - A = h - A - (h - B)) (fun A B h=>pt fun n__=>by simp only [Cu,C1,C4,Ct,Jx]; grind) A B hp)] at this))) (fun k=>.inr (Ki (by
      have:=Jt k
      rwa [show A - B = hp - B - (hp - A) from (Mw (P:=fun A B h=>A - B = h - B - (h - A)) (fun A B h=>pt fun n__=>by simp only [Cu,C1,C4,Ct,Jx]; grind) A B hp)] at this)))) (by
      rw [Sj,Sj,← e]
      exact (Mv (P:=fun n A B h=>n * (h - A - (h - B)) = n * (B - A)) (fun n A B h=>pt fun n__=>by simp only [Cu,C1,C4,Ct,Jx]; grind) n A B hp))
    rwa [Sj] at this
theorem lZ.rad {n A B c x : R} (h : lZ n A B) (a1 : -hp < A) (a2 : A < hp) (b1 : -hp < B) (b2 : B < hp) (x1 : -hp ≤ x) (x2 : x ≤ hp) (e : c * n = cn A) (hn : q 0 < n ∨ n < q 0) : q 0 ≤ n * (c + A - x):=by
  have e1 : n * (c + A - x) = cn A + n * (A - x):=by rw [← e]; exact (Mv (P:=fun n c A x=>n * (c + A - x) = c * n + n * (A - x)) (fun n c A x=>pt fun n__=>by simp only [Cu,C1,C4,Ct,Jx]; grind) n c A x)
  rw [e1]
  rcases hn with hn | hn
  · have k:=h.hi a1 a2 b1 b2
    have m:=mul_nonneg (le_of_lt hn) (Ir x2)
    exact (Mv (P:=fun c u v w=>u ≤ c → q 0 ≤ w → w ≤ u + v → q 0 ≤ c + v) (fun c u v w k0__ k1__ k2__=>Ad3 k0__ k1__ k2__ fun n__ e__ he__ p0__ p1__ p2__=>by simp only [Cu,C1,C4,Ct,Jx] at *; grind) (cn A) (n * (hp - A)) (n * (A - x)) (n * (hp - x)) k m (Ta (Mv (P:=fun n A x h=>n * (h - x) = n * (h - A) + n * (A - x)) (fun n A x h=>pt fun n__=>by simp only [Cu,C1,C4,Ct,Jx]; grind) n A x hp)))
  · have k:=h.neg.hi (Gv a2) (by have:=Gv a1; rwa [neg_neg] at this) (Gv b2) (by have:=Gv b1; rwa [neg_neg] at this)
    rw [Mf] at k
    have m:=mul_nonneg (le_of_lt (y8 hn)) (Ir x1)
    exact (Mv (P:=fun c u v w=>u ≤ c → q 0 ≤ w → w ≤ u + v → q 0 ≤ c + v) (fun c u v w k0__ k1__ k2__=>Ad3 k0__ k1__ k2__ fun n__ e__ he__ p0__ p1__ p2__=>by simp only [Cu,C1,C4,Ct,Jx] at *; grind) (cn A) (-n * (hp - -A)) (n * (A - x)) (-n * (x - -hp)) k m (Ta (Mv (P:=fun n A x h=>-n * (x - -h) = -n * (h - -A) + n * (A - x)) (fun n A x h=>pt fun n__=>by simp only [Cu,C1,C4,Ct,Jx]; grind) n A x hp)))
theorem Afa {n A B x : R} (e : n + n = sn A + sn B) : cn A * cn A + q 2 * n * sn A - q 2 * n * sn x = q 1 + sn A * sn B - (sn A + sn B) * sn x:=by
  have py:=Xw A
  have : cn A * cn A = q 1 - sn A * sn A:=by rw [← py,add_sub_cancel]
  rw [this,xC,e]
  exact (Mw (P:=fun a b s=>q 1 - a * a + (a + b) * a - (a + b) * s = q 1 + a * b - (a + b) * s) (fun a b s=>pt fun n__=>by simp only [Cu,C1,C4,Ct,Jx]; grind) (sn A) (sn B) (sn x))
theorem Abm {A B x : R} : q 0 ≤ q 1 + sn A * sn B - (sn A + sn B) * sn x:=by
  have f : ∀ t : R,q 0 ≤ q 1 - sn t ∧ q 0 ≤ q 1 + sn t:=fun t=>by
    have:=Zv t
    exact ⟨Ir this.2,by have:=Ir this.1; rwa [J5,add_comm] at this⟩
  have p1:=mul_nonneg (f x).1 (mul_nonneg (f A).2 (f B).2)
  have p2:=mul_nonneg (f x).2 (mul_nonneg (f A).1 (f B).1)
  refine Sl ?_
  have:=Jm p1 p2
  rw [show (q 1 - sn x) * ((q 1 + sn A) * (q 1 + sn B)) + (q 1 + sn x) * ((q 1 - sn A) * (q 1 - sn B)) = q 1 + sn A * sn B - (sn A + sn B) * sn x + (q 1 + sn A * sn B - (sn A + sn B) * sn x) from (Mw (P:=fun a b s=>(q 1 - s) * ((q 1 + a) * (q 1 + b)) + (q 1 + s) * ((q 1 - a) * (q 1 - b)) = q 1 + a * b - (a + b) * s + (q 1 + a * b - (a + b) * s)) (fun a b s=>pt fun n__=>by simp only [Cu,C1,C4,Ct,Jx]; grind) (sn A) (sn B) (sn x))] at this
  rwa [add_zero]
end Go.Proofs.YtfhnlkinjbakgaaGreat.Rl
