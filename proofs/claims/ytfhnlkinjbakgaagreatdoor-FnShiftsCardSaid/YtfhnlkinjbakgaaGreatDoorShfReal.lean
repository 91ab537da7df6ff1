/- Real numbers from the ground up: classes of Cauchy sequences of rationals; exponential, sine, cosine by their series; arcs, logarithms, directions. -/
namespace Go.Proofs.YtfhnlkinjbakgaaGreatDoor.Rl
set_option linter.unusedVariables false
set_option linter.unusedSimpArgs false
theorem Bd.mul {x y a b : Rat} (h1 : -a ≤ x) (h2 : x ≤ a) (h3 : -b ≤ y) (h4 : y ≤ b) : -(a * b) ≤ x * y ∧ x * y ≤ a * b:=by
  have p1:=Rat.mul_nonneg (show 0 ≤ a - x by grind) (show 0 ≤ b + y by grind)
  have p2:=Rat.mul_nonneg (show 0 ≤ a + x by grind) (show 0 ≤ b - y by grind)
  have p3:=Rat.mul_nonneg (show 0 ≤ a - x by grind) (show 0 ≤ b - y by grind)
  have p4:=Rat.mul_nonneg (show 0 ≤ a + x by grind) (show 0 ≤ b + y by grind)
  constructor <;> grind
structure CS where
  f : Nat → Rat
  c : ∀ e : Rat,0 < e → ∃ N : Nat,∀ m n,N ≤ m → N ≤ n → f m ≤ f n + e
theorem CS.bd (a : CS) : ∃ B : Rat,0 < B ∧ ∃ N : Nat,∀ n,N ≤ n → -B ≤ a.f n ∧ a.f n ≤ B:=by
  obtain ⟨N,h⟩:=a.c 1 (by decide)
  refine ⟨1 + (if 0 ≤ a.f N then a.f N else - a.f N) ,by split <;> grind,N,fun n hn=>?_⟩
  have h1:=h n N hn (Nat.le_refl _)
  have h2:=h N n (Nat.le_refl _) hn
  split <;> grind
def CS.add (a b : CS) : CS:=⟨fun n=>a.f n + b.f n,fun e he=>by
  obtain ⟨N,h⟩:=a.c (e/2) (by grind)
  obtain ⟨M,k⟩:=b.c (e/2) (by grind)
  refine ⟨max N M,fun m n hm hn=>?_⟩
  have:=h m n (by omega) (by omega)
  have:=k m n (by omega) (by omega)
  grind⟩
def CS.neg (a : CS) : CS:=⟨fun n=>- a.f n,fun e he=>by
  obtain ⟨N,h⟩:=a.c e he
  refine ⟨N,fun m n hm hn=>?_⟩
  have:=h n m hn hm
  grind⟩
def CS.sub (a b : CS) : CS:=⟨fun n=>a.f n - b.f n,fun e he=>by
  obtain ⟨N,h⟩:=a.c (e/2) (by grind)
  obtain ⟨M,k⟩:=b.c (e/2) (by grind)
  refine ⟨max N M,fun m n hm hn=>?_⟩
  have:=h m n (by omega) (by omega)
  have:=k n m (by omega) (by omega)
  grind⟩
theorem div_pos' {a b : Rat} (ha : 0 < a) (hb : 0 < b) : 0 < a / b:=by
  rw [Rat.div_def]; exact Rat.mul_pos ha (Rat.inv_pos.2 hb)
def CS.mul (a b : CS) : CS:=⟨fun n=>a.f n * b.f n,fun e he=>by
  obtain ⟨A,hA,NA,ha⟩:=a.bd
  obtain ⟨B,hB,NB,hb⟩:=b.bd
  have hAB : 0 < 2 * (A + B):=by grind
  have h0:=div_pos' he hAB
  have hx : e / (2 * (A + B)) * (A + B) = e / 2:=by grind
  generalize e / (2 * (A + B)) = x at *
  obtain ⟨N,h⟩:=a.c x h0
  obtain ⟨M,k⟩:=b.c x h0
  refine ⟨max (max N M) (max NA NB),fun m n hm hn=>?_⟩
  have h1:=h m n (by omega) (by omega)
  have h2:=h n m (by omega) (by omega)
  have k1:=k m n (by omega) (by omega)
  have k2:=k n m (by omega) (by omega)
  have a1:=ha n (by omega)
  have b1:=hb m (by omega)
  have p1:=Bd.mul (x:=a.f m - a.f n) (a:=x) (by grind) (by grind) b1.1 b1.2
  have p2:=Bd.mul (x:=b.f m - b.f n) (a:=x) (by grind) (by grind) a1.1 a1.2
  grind⟩
def CS.q (r : Rat) : CS:=⟨fun _=>r,fun e he=>⟨0,fun _ _ _ _=>by grind⟩⟩
def CS.le (a b : CS) : Prop:=∀ e : Rat,0 < e → ∃ N : Nat,∀ n,N ≤ n → a.f n ≤ b.f n + e
theorem CS.le_refl (a : CS) : a.le a:=fun e he=>⟨0,fun n _=>by grind⟩
theorem CS.le_trans {a b c : CS} (h : a.le b) (k : b.le c) : a.le c:=fun e he=>by
  obtain ⟨N,h⟩:=h (e/2) (by grind)
  obtain ⟨M,k⟩:=k (e/2) (by grind)
  refine ⟨max N M,fun n hn=>?_⟩
  have:=h n (by omega)
  have:=k n (by omega)
  grind
theorem CS.le_total (a b : CS) : a.le b ∨ b.le a:=by
  by_cases h : a.le b
  · exact Or.inl h
  · right
    have : ∃ e : Rat,0 < e ∧ ∀ N : Nat,∃ n,N ≤ n ∧ ¬ a.f n ≤ b.f n + e:=by
      refine Classical.byContradiction fun hn=>h fun e he=>Classical.byContradiction fun h2=>hn ⟨e,he,fun N=>Classical.byContradiction fun h3=>h2 ⟨N,fun n hn=>Classical.byContradiction fun h4=>h3 ⟨n,hn,h4⟩⟩⟩
    obtain ⟨e,he,H⟩:=this
    obtain ⟨N,h⟩:=a.c (e/2) (by grind)
    obtain ⟨M,k⟩:=b.c (e/2) (by grind)
    obtain ⟨n,hn,h1⟩:=H (max N M)
    intro d hd
    refine ⟨max N M,fun m hm=>?_⟩
    have:=h n m (by omega) (by omega)
    have:=k m n (by omega) (by omega)
    grind
instance stR : Setoid CS:=⟨fun a b=>a.le b ∧ b.le a,fun a=>⟨a.le_refl,a.le_refl⟩,fun h=>⟨h.2,h.1⟩,fun h k=>⟨CS.le_trans h.1 k.1,CS.le_trans k.2 h.2⟩⟩
def R:=Quotient stR
def mk (a : CS) : R:=Quotient.mk stR a
theorem mk_ind {P : R → Prop} (h : ∀ a,P (mk a)) (x : R) : P x:=Quotient.ind h x
theorem pt {a b : CS} (h : ∀ n,a.f n = b.f n) : mk a = mk b:=by
  have : a = b:=by cases a; cases b; congr; exact funext h
  rw [this]
theorem CS.add_le {a b c d : CS} (h : a.le c) (k : b.le d) : (a.add b).le (c.add d):=fun e he=>by
  obtain ⟨N,h⟩:=h (e/2) (by grind)
  obtain ⟨M,k⟩:=k (e/2) (by grind)
  refine ⟨max N M,fun n hn=>?_⟩
  have:=h n (by omega)
  have:=k n (by omega)
  show a.f n + b.f n ≤ c.f n + d.f n + e
  grind
theorem CS.neg_le {a b : CS} (h : a.le b) : b.neg.le a.neg:=fun e he=>by
  obtain ⟨N,h⟩:=h e he
  refine ⟨N,fun n hn=>?_⟩
  have:=h n hn
  show - b.f n ≤ - a.f n + e
  grind
theorem CS.sub_le {a b c d : CS} (h : a.le c) (k : d.le b) : (a.sub b).le (c.sub d):=fun e he=>by
  obtain ⟨N,h⟩:=h (e/2) (by grind)
  obtain ⟨M,k⟩:=k (e/2) (by grind)
  refine ⟨max N M,fun n hn=>?_⟩
  have:=h n (by omega)
  have:=k n (by omega)
  show a.f n - b.f n ≤ c.f n - d.f n + e
  grind
theorem CS.mul_cong {a b c : CS} (h : a.le c ∧ c.le a) : (a.mul b).le (c.mul b):=fun e he=>by
  obtain ⟨B,hB,NB,hb⟩:=b.bd
  have h0:=div_pos' he hB
  have hx : e / B * B = e:=by grind
  generalize e / B = x at *
  obtain ⟨N,h1⟩:=h.1 x h0
  obtain ⟨M,h2⟩:=h.2 x h0
  refine ⟨max NB (max N M),fun n hn=>?_⟩
  have h1:=h1 n (by omega)
  have h2:=h2 n (by omega)
  have b1:=hb n (by omega)
  have p1:=Bd.mul (x:=a.f n - c.f n) (a:=x) (by grind) (by grind) b1.1 b1.2
  show a.f n * b.f n ≤ c.f n * b.f n + e
  grind
theorem CS.mul_comm_le (a b : CS) : (a.mul b).le (b.mul a):=fun e he=>⟨0,fun n _=>by
  show a.f n * b.f n ≤ b.f n * a.f n + e
  grind⟩
theorem CS.mul_both {a b c d : CS} (h : a.le c ∧ c.le a) (k : b.le d ∧ d.le b) : (a.mul b).le (c.mul d) ∧ (c.mul d).le (a.mul b):=
  ⟨CS.le_trans (CS.mul_cong h) (CS.le_trans (CS.mul_comm_le c b) (CS.le_trans (CS.mul_cong k) (CS.mul_comm_le d c))),
   CS.le_trans (CS.mul_cong ⟨h.2,h.1⟩) (CS.le_trans (CS.mul_comm_le a d) (CS.le_trans (CS.mul_cong ⟨k.2,k.1⟩) (CS.mul_comm_le b a)))⟩
def R.add : R → R → R:=Quotient.lift₂ (fun a b=>mk (a.add b)) fun a b c d h k=>Quotient.sound ⟨CS.add_le h.1 k.1,CS.add_le h.2 k.2⟩
def R.sub : R → R → R:=Quotient.lift₂ (fun a b=>mk (a.sub b)) fun a b c d h k=>Quotient.sound ⟨CS.sub_le h.1 k.2,CS.sub_le h.2 k.1⟩
def R.neg : R → R:=Quotient.lift (fun a=>mk a.neg) fun a b h=>Quotient.sound ⟨CS.neg_le h.2,CS.neg_le h.1⟩
def R.mul : R → R → R:=Quotient.lift₂ (fun a b=>mk (a.mul b)) fun a b c d h k=>Quotient.sound (CS.mul_both h k)
def R.le : R → R → Prop:=Quotient.lift₂ (fun a b=>a.le b) fun a b c d h k=>propext ⟨fun x=>CS.le_trans h.2 (CS.le_trans x k.1),fun x=>CS.le_trans h.1 (CS.le_trans x k.2)⟩
instance iA : Add R:=⟨R.add⟩
instance iS : Sub R:=⟨R.sub⟩
instance iN : Neg R:=⟨R.neg⟩
instance iM : Mul R:=⟨R.mul⟩
instance iL : LE R:=⟨R.le⟩
instance iT : LT R:=⟨fun x y=>¬ y ≤ x⟩
def q (r : Rat) : R:=mk (CS.q r)
theorem q_add (a b : Rat) : q (a + b) = q a + q b:=rfl
theorem q_sub (a b : Rat) : q (a - b) = q a - q b:=rfl
theorem q_neg (a : Rat) : q (-a) = -q a:=rfl
theorem q_mul (a b : Rat) : q (a * b) = q a * q b:=rfl
theorem q_le {a b : Rat} : q a ≤ q b ↔ a ≤ b:=⟨fun h=>by
  refine Rat.not_lt.1 fun hn=>?_
  obtain ⟨N,h⟩:=(h : (CS.q a).le (CS.q b)) ((a - b) / 2) (by grind)
  have : a ≤ b + (a - b) / 2:=h N (Nat.le_refl _)
  grind,fun h e he=>⟨0,fun n _=>by show a ≤ b + e; grind⟩⟩
theorem le_refl (x : R) : x ≤ x:=mk_ind (P:=fun x=>x ≤ x) (fun a=>a.le_refl) x
theorem le_trans {x y z : R} : x ≤ y → y ≤ z → x ≤ z:=
  mk_ind (P:=fun x=>x ≤ y → y ≤ z → x ≤ z) (fun a=>mk_ind (P:=fun y=>mk a ≤ y → y ≤ z → mk a ≤ z) (fun b=>mk_ind (P:=fun z=>mk a ≤ mk b → mk b ≤ z → mk a ≤ z) (fun c=>CS.le_trans) z) y) x
theorem le_antisymm {x y : R} : x ≤ y → y ≤ x → x = y:=
  mk_ind (P:=fun x=>x ≤ y → y ≤ x → x = y) (fun a=>mk_ind (P:=fun y=>mk a ≤ y → y ≤ mk a → mk a = y) (fun b h k=>Quotient.sound ⟨h,k⟩) y) x
theorem le_total (x y : R) : x ≤ y ∨ y ≤ x:=
  mk_ind (P:=fun x=>x ≤ y ∨ y ≤ x) (fun a=>mk_ind (P:=fun y=>mk a ≤ y ∨ y ≤ mk a) (fun b=>CS.le_total a b) y) x
theorem ind2 {P : R → R → Prop} (h : ∀ a b,P (mk a) (mk b)) (x y : R) : P x y:=mk_ind (P:=fun x=>P x y) (fun a=>mk_ind (P:=fun y=>P (mk a) y) (fun b=>h a b) y) x
theorem ind3 {P : R → R → R → Prop} (h : ∀ a b c,P (mk a) (mk b) (mk c)) (x y z : R) : P x y z:=ind2 (P:=fun x y=>P x y z) (fun a b=>mk_ind (P:=fun z=>P (mk a) (mk b) z) (fun c=>h a b c) z) x y
theorem ind4 {P : R → R → R → R → Prop} (h : ∀ a b c d,P (mk a) (mk b) (mk c) (mk d)) (x y z u : R) : P x y z u:=ind3 (P:=fun x y z=>P x y z u) (fun a b c=>mk_ind (P:=fun u=>P (mk a) (mk b) (mk c) u) (fun d=>h a b c d) u) x y z
theorem add_comm : ∀ x y : R,x + y = y + x:=ind2 fun a b=>pt fun n=>by show a.f n + b.f n = b.f n + a.f n; grind
theorem add_assoc : ∀ x y z : R,x + y + z = x + (y + z):=ind3 fun a b c=>pt fun n=>by show a.f n + b.f n + c.f n = a.f n + (b.f n + c.f n); grind
theorem mul_comm : ∀ x y : R,x * y = y * x:=ind2 fun a b=>pt fun n=>by show a.f n * b.f n = b.f n * a.f n; grind
theorem mul_assoc : ∀ x y z : R,x * y * z = x * (y * z):=ind3 fun a b c=>pt fun n=>by show a.f n * b.f n * c.f n = a.f n * (b.f n * c.f n); grind
theorem mul_add : ∀ x y z : R,x * (y + z) = x * y + x * z:=ind3 fun a b c=>pt fun n=>by show a.f n * (b.f n + c.f n) = a.f n * b.f n + a.f n * c.f n; grind
theorem zero_add : ∀ x : R,q 0 + x = x:=mk_ind fun a=>pt fun n=>by show 0 + a.f n = a.f n; grind
theorem one_mul : ∀ x : R,q 1 * x = x:=mk_ind fun a=>pt fun n=>by show 1 * a.f n = a.f n; grind
theorem zero_mul : ∀ x : R,q 0 * x = q 0:=mk_ind fun a=>pt fun n=>by show 0 * a.f n = 0; grind
theorem sub_self : ∀ x : R,x - x = q 0:=mk_ind fun a=>pt fun n=>by show a.f n - a.f n = 0; grind
theorem nonneg_pt : ∀ {x y : R},x ≤ y ↔ q 0 ≤ y - x:=fun {x y}=>ind2 (P:=fun x y=>x ≤ y ↔ q 0 ≤ y - x) (fun a b=>⟨fun h e he=>by
    obtain ⟨N,h⟩:=(h : a.le b) e he
    refine ⟨N,fun n hn=>?_⟩
    have:=h n hn
    show 0 ≤ b.f n - a.f n + e
    grind,fun h e he=>by
    obtain ⟨N,h⟩:=(h : (CS.q 0).le (b.sub a)) e he
    refine ⟨N,fun n hn=>?_⟩
    have : 0 ≤ b.f n - a.f n + e:=h n hn
    grind⟩) x y
theorem add_nonneg {x y : R} : q 0 ≤ x → q 0 ≤ y → q 0 ≤ x + y:=ind2 (P:=fun x y=>q 0 ≤ x → q 0 ≤ y → q 0 ≤ x + y) (fun a b h k e he=>by
    obtain ⟨N,h⟩:=(h : (CS.q 0).le a) (e/2) (by grind)
    obtain ⟨M,k⟩:=(k : (CS.q 0).le b) (e/2) (by grind)
    refine ⟨max N M,fun n hn=>?_⟩
    have : 0 ≤ a.f n + e / 2:=h n (by omega)
    have : 0 ≤ b.f n + e / 2:=k n (by omega)
    show 0 ≤ a.f n + b.f n + e
    grind) x y
theorem mul_nonneg {x y : R} : q 0 ≤ x → q 0 ≤ y → q 0 ≤ x * y:=ind2 (P:=fun x y=>q 0 ≤ x → q 0 ≤ y → q 0 ≤ x * y) (fun a b h k e he=>by
    obtain ⟨A,hA,NA,ha⟩:=a.bd
    obtain ⟨B,hB,NB,hb⟩:=b.bd
    have hAB : 0 < A + B + 1 + e:=by grind
    have h0:=div_pos' he hAB
    have hx : e / (A + B + 1 + e) * (A + B + 1 + e) = e:=by grind
    have h1x : e / (A + B + 1 + e) ≤ 1:=by
      refine Rat.not_lt.1 fun hn=>?_
      have:=Rat.mul_pos (show 0 < e / (A + B + 1 + e) - 1 by grind) hAB
      grind
    generalize e / (A + B + 1 + e) = d at *
    obtain ⟨N,h⟩:=(h : (CS.q 0).le a) d h0
    obtain ⟨M,k⟩:=(k : (CS.q 0).le b) d h0
    refine ⟨max (max NA NB) (max N M),fun n hn=>?_⟩
    have h2 : 0 ≤ a.f n + d:=h n (by omega)
    have h3 : 0 ≤ b.f n + d:=k n (by omega)
    have p:=Rat.mul_nonneg h2 h3
    have p2:=Rat.mul_nonneg (show 0 ≤ d by grind) (show 0 ≤ A - a.f n by have:=ha n (by omega); grind)
    have p3:=Rat.mul_nonneg (show 0 ≤ d by grind) (show 0 ≤ B - b.f n by have:=hb n (by omega); grind)
    have p4:=Rat.mul_nonneg (show 0 ≤ d by grind) (show 0 ≤ 1 - d by grind)
    have p5:=Rat.mul_nonneg (show 0 ≤ d by grind) (show 0 ≤ A by grind)
    have p6:=Rat.mul_nonneg (show 0 ≤ e by grind) (show 0 ≤ d by grind)
    show 0 ≤ a.f n * b.f n + e
    clear ha hb h k h1x hAB hn
    grind) x y
theorem lin1 {a b u v : CS} (h1 : a.le b) (H : ∀ n (e : Rat),0 < e → a.f n ≤ b.f n + e → u.f n ≤ v.f n + 8 * e) : u.le v:=fun e he=>by
  obtain ⟨N,h1⟩:=h1 (e / 8) (by grind)
  exact ⟨N,fun n hn=>by have:=H n (e / 8) (by grind) (h1 n hn); grind⟩
theorem lin2 {a b c d u v : CS} (h1 : a.le b) (h2 : c.le d) (H : ∀ n (e : Rat),0 < e → a.f n ≤ b.f n + e → c.f n ≤ d.f n + e → u.f n ≤ v.f n + 8 * e) : u.le v:=fun e he=>by
  obtain ⟨N,h1⟩:=h1 (e / 8) (by grind)
  obtain ⟨M,h2⟩:=h2 (e / 8) (by grind)
  exact ⟨N + M,fun n hn=>by have:=H n (e / 8) (by grind) (h1 n (by omega)) (h2 n (by omega)); grind⟩
theorem sub_nn {x y : R} (h : x ≤ y) : q 0 ≤ y - x:=nonneg_pt.1 h
theorem of_sub_nn {x y : R} (h : q 0 ≤ y - x) : x ≤ y:=nonneg_pt.2 h
theorem add_le_add : ∀ {x y z u : R},x ≤ y → z ≤ u → x + z ≤ y + u:=fun {x y z u}=>ind4 (P:=fun x y z u=>x ≤ y → z ≤ u → x + z ≤ y + u) (fun a b c d h k=>lin2 h k fun n e he p1 p2=>by show a.f n + c.f n ≤ b.f n + d.f n + _; grind) x y z u
theorem sub_le_sub : ∀ {x y z u : R},x ≤ y → z ≤ u → x - u ≤ y - z:=fun {x y z u}=>ind4 (P:=fun x y z u=>x ≤ y → z ≤ u → x - u ≤ y - z) (fun a b c d h k=>lin2 h k fun n e he p1 p2=>by show a.f n - d.f n ≤ b.f n - c.f n + _; grind) x y z u
theorem neg_le_neg : ∀ {x y : R},x ≤ y → -y ≤ -x:=fun {x y}=>ind2 (P:=fun x y=>x ≤ y → -y ≤ -x) (fun a b h=>lin1 h fun n e he p1=>by show - b.f n ≤ - a.f n + _; grind) x y
theorem le_sub_of : ∀ {x y z : R},x + z ≤ y → x ≤ y - z:=fun {x y z}=>ind3 (P:=fun x y z=>x + z ≤ y → x ≤ y - z) (fun a b c h=>lin1 h fun n e he p1=>by
  replace p1 : a.f n + c.f n ≤ b.f n + e:=p1
  show a.f n ≤ b.f n - c.f n + _; grind) x y z
theorem sub_le_of : ∀ {x y z : R},x ≤ y + z → x - z ≤ y:=fun {x y z}=>ind3 (P:=fun x y z=>x ≤ y + z → x - z ≤ y) (fun a b c h=>lin1 h fun n e he p1=>by
  replace p1 : a.f n ≤ b.f n + c.f n + e:=p1
  show a.f n - c.f n ≤ b.f n + _; grind) x y z
theorem add_le_of : ∀ {x y z : R},x ≤ y - z → x + z ≤ y:=fun {x y z}=>ind3 (P:=fun x y z=>x ≤ y - z → x + z ≤ y) (fun a b c h=>lin1 h fun n e he p1=>by
  replace p1 : a.f n ≤ b.f n - c.f n + e:=p1
  show a.f n + c.f n ≤ b.f n + _; grind) x y z
theorem le_add_of : ∀ {x y z : R},x - z ≤ y → x ≤ y + z:=fun {x y z}=>ind3 (P:=fun x y z=>x - z ≤ y → x ≤ y + z) (fun a b c h=>lin1 h fun n e he p1=>by
  replace p1 : a.f n - c.f n ≤ b.f n + e:=p1
  show a.f n ≤ b.f n + c.f n + _; grind) x y z
theorem add_zero (x : R) : x + q 0 = x:=by rw [add_comm,zero_add]
theorem mul_one (x : R) : x * q 1 = x:=by rw [mul_comm,one_mul]
theorem mul_zero (x : R) : x * q 0 = q 0:=by rw [mul_comm,zero_mul]
theorem add_mul (x y z : R) : (x + y) * z = x * z + y * z:=by rw [mul_comm,mul_add,mul_comm z x,mul_comm z y]
theorem sub_zero : ∀ x : R,x - q 0 = x:=mk_ind fun a=>pt fun n=>by show a.f n - 0 = a.f n; grind
theorem zero_sub : ∀ x : R,q 0 - x = -x:=mk_ind fun a=>pt fun n=>by show 0 - a.f n = -a.f n; grind
theorem neg_neg : ∀ x : R,- -x = x:=mk_ind fun a=>pt fun n=>by show - -a.f n = a.f n; grind
theorem neg_mul : ∀ x y : R,-x * y = -(x * y):=ind2 fun a b=>pt fun n=>by show -a.f n * b.f n = -(a.f n * b.f n); grind
theorem mul_neg : ∀ x y : R,x * -y = -(x * y):=ind2 fun a b=>pt fun n=>by show a.f n * -b.f n = -(a.f n * b.f n); grind
theorem sub_mul : ∀ x y z : R,(x - y) * z = x * z - y * z:=ind3 fun a b c=>pt fun n=>by show (a.f n - b.f n) * c.f n = a.f n * c.f n - b.f n * c.f n; grind
theorem mul_sub : ∀ x y z : R,x * (y - z) = x * y - x * z:=ind3 fun a b c=>pt fun n=>by show a.f n * (b.f n - c.f n) = a.f n * b.f n - a.f n * c.f n; grind
theorem sub_add_cancel : ∀ x y : R,x - y + y = x:=ind2 fun a b=>pt fun n=>by show a.f n - b.f n + b.f n = a.f n; grind
theorem add_sub_cancel : ∀ x y : R,x + y - y = x:=ind2 fun a b=>pt fun n=>by show a.f n + b.f n - b.f n = a.f n; grind
theorem neg_add : ∀ x y : R,-(x + y) = -x - y:=ind2 fun a b=>pt fun n=>by show -(a.f n + b.f n) = -a.f n - b.f n; grind
theorem neg_sub : ∀ x y : R,-(x - y) = y - x:=ind2 fun a b=>pt fun n=>by show -(a.f n - b.f n) = b.f n - a.f n; grind
theorem sub_neg : ∀ x y : R,x - -y = x + y:=ind2 fun a b=>pt fun n=>by show a.f n - -b.f n = a.f n + b.f n; grind
theorem add_neg : ∀ x y : R,x + -y = x - y:=ind2 fun a b=>pt fun n=>by show a.f n + -b.f n = a.f n - b.f n; grind
theorem mul_left_comm (x y z : R) : x * (y * z) = y * (x * z):=by rw [← mul_assoc,mul_comm x y,mul_assoc]
theorem mul_le_mul_r {x y z : R} (h : x ≤ y) (hz : q 0 ≤ z) : x * z ≤ y * z:=of_sub_nn (by rw [← sub_mul]; exact mul_nonneg (sub_nn h) hz)
theorem mul_le_mul_l {x y z : R} (h : x ≤ y) (hz : q 0 ≤ z) : z * x ≤ z * y:=by rw [mul_comm z x,mul_comm z y]; exact mul_le_mul_r h hz
theorem neg_nonneg {x : R} (h : x ≤ q 0) : q 0 ≤ -x:=by have:=neg_le_neg h; rwa [show -q 0 = q 0 from by rw [← q_neg]; rfl] at this
theorem neg_nonpos {x : R} (h : q 0 ≤ x) : -x ≤ q 0:=by have:=neg_le_neg h; rwa [show -q 0 = q 0 from by rw [← q_neg]; rfl] at this
theorem sq_nonneg (x : R) : q 0 ≤ x * x:=by
  rcases le_total (q 0) x with h | h
  · exact mul_nonneg h h
  · have:=mul_nonneg (neg_nonneg h) (neg_nonneg h)
    rwa [neg_mul,mul_neg,neg_neg] at this
theorem eps {x y : R} : (∀ e : Rat,0 < e → x ≤ y + q e) → x ≤ y:=ind2 (P:=fun x y=>(∀ e : Rat,0 < e → x ≤ y + q e) → x ≤ y) (fun a b h e he=>by
  obtain ⟨N,k⟩:=(h (e/2) (by grind) : a.le (b.add (CS.q (e/2)))) (e/2) (by grind)
  exact ⟨N,fun n hn=>by have : a.f n ≤ b.f n + e/2 + e/2:=k n hn; grind⟩) x y
theorem arch (x : R) : ∃ n : Nat,x ≤ q n ∧ -q n ≤ x:=mk_ind (P:=fun x=>∃ n : Nat,x ≤ q n ∧ -q n ≤ x) (fun a=>by
  obtain ⟨B,hB,N,h⟩:=a.bd
  have hc : ∃ n : Nat,B ≤ n:=⟨B.ceil.toNat,by
    have h1:=Rat.le_ceil (x:=B)
    have h2 : (B.ceil : Rat) ≤ ((B.ceil.toNat : Int) : Rat):=Rat.intCast_le_intCast.2 (by omega)
    exact Rat.le_trans h1 h2⟩
  obtain ⟨n,hn⟩:=hc
  refine ⟨n,fun e he=>⟨N,fun m hm=>?_⟩,fun e he=>⟨N,fun m hm=>?_⟩⟩
  · have:=h m hm
    show a.f m ≤ (n : Rat) + e
    grind
  · have:=h m hm
    show -(n : Rat) ≤ a.f m + e
    grind) x
theorem pos_of {x : R} : q 0 < x → ∃ e : Rat,0 < e ∧ q e ≤ x:=fun h=>Classical.byContradiction fun hn=>h (eps fun e he=>by
  rcases le_total (q e) x with k | k
  · exact absurd ⟨e,he,k⟩ hn
  · rw [zero_add]; exact k)
theorem lt_of {x y : R} (h : x < y) : ∃ e : Rat,0 < e ∧ x + q e ≤ y:=by
  obtain ⟨e,he,k⟩:=pos_of (x:=y - x) (fun k=>h (by have:=le_add_of k; rwa [zero_add] at this))
  exact ⟨e,he,by rw [add_comm]; exact add_le_of k⟩
theorem le_of_lt {x y : R} (h : x < y) : x ≤ y:=by
  rcases le_total x y with k | k
  · exact k
  · exact absurd k h
theorem lt_of_lt_of_le {x y z : R} (h : x < y) (k : y ≤ z) : x < z:=fun c=>h (le_trans k c)
theorem lt_of_le_of_lt {x y z : R} (h : x ≤ y) (k : y < z) : x < z:=fun c=>k (le_trans c h)
theorem not_lt {x y : R} : ¬ x < y ↔ y ≤ x:=⟨fun h=>Classical.byContradiction fun k=>h k,fun h k=>k h⟩
theorem not_le {x y : R} : ¬ x ≤ y ↔ y < x:=Iff.rfl
theorem q_lt {a b : Rat} : q a < q b ↔ a < b:=⟨fun h=>Rat.not_le.1 fun k=>h (q_le.2 k),fun h k=>Rat.not_le.2 h (q_le.1 k)⟩
theorem pos_q {x : R} {e : Rat} (he : 0 < e) (h : q e ≤ x) : q 0 < x:=lt_of_lt_of_le (q_lt.2 he) h
theorem mul_pos {x y : R} (h : q 0 < x) (k : q 0 < y) : q 0 < x * y:=by
  obtain ⟨a,ha,h⟩:=pos_of h
  obtain ⟨b,hb,k⟩:=pos_of k
  refine pos_q (Rat.mul_pos ha hb) ?_
  rw [q_mul]
  exact le_trans (mul_le_mul_r h (q_le.2 (by grind))) (mul_le_mul_l k (le_trans (q_le.2 (by grind)) h))
theorem add_pos {x y : R} (h : q 0 < x) (k : q 0 ≤ y) : q 0 < x + y:=by
  obtain ⟨a,ha,h⟩:=pos_of h
  refine pos_q ha ?_
  have:=add_le_add h k
  rwa [add_zero] at this
theorem le_of_mul {x y z : R} (h : x * z ≤ y * z) (hz : q 0 < z) : x ≤ y:=Classical.byContradiction fun c=>by
  have c' : q 0 < x - y:=fun k=>c (by have:=le_add_of k; rwa [zero_add] at this)
  have:=mul_pos c' hz
  rw [sub_mul] at this
  exact this (sub_le_of (by rw [zero_add]; exact h))
theorem eq_of_mul {x y z : R} (h : x * z = y * z) (hz : q 0 < z) : x = y:=le_antisymm (le_of_mul (h ▸ le_refl _) hz) (le_of_mul (h ▸ le_refl _) hz)
theorem inv_q {x : R} {e : Rat} (he : 0 < e) : q e ≤ x → ∃ y,x * y = q 1 ∧ q 0 ≤ y ∧ y ≤ q (2 / e):=mk_ind (P:=fun x=>q e ≤ x → ∃ y,x * y = q 1 ∧ q 0 ≤ y ∧ y ≤ q (2 / e)) (fun a h=>by
  obtain ⟨N,h⟩:=(h : (CS.q e).le a) (e/2) (by grind)
  have h : ∀ n,N ≤ n → e / 2 ≤ a.f n:=fun n hn=>by have : e ≤ a.f n + e / 2:=h n hn; grind
  have hi : ∀ n,N ≤ n → a.f n * (a.f n)⁻¹ = 1:=fun n hn=>Rat.mul_inv_cancel _ (by have:=h n hn; grind)
  have hp : ∀ n,N ≤ n → 0 < (a.f n)⁻¹:=fun n hn=>Rat.inv_pos.2 (by have:=h n hn; grind)
  have he2 : 2 / e * e = 2:=by grind
  have hu : ∀ n,N ≤ n → (a.f n)⁻¹ ≤ 2 / e:=fun n hn=>by
    have h1:=hi n hn
    have h2:=hp n hn
    have h3:=h n hn
    refine Rat.not_lt.1 fun c=>?_
    have p:=Rat.mul_pos (show 0 < (a.f n)⁻¹ - 2 / e by grind) he
    have p2:=Rat.mul_nonneg (show 0 ≤ (a.f n)⁻¹ by grind) (show 0 ≤ a.f n - e / 2 by grind)
    grind
  refine ⟨mk ⟨fun n=>(a.f n)⁻¹,fun d hd=>?_⟩,?_,fun d hd=>⟨N,fun n hn=>?_⟩,fun d hd=>⟨N,fun n hn=>?_⟩⟩
  · have hq : 0 < 2 / e:=div_pos' (by decide) he
    have hqq:=Rat.mul_pos hq hq
    have h0:=div_pos' hd hqq
    have hx : d / (2 / e * (2 / e)) * (2 / e * (2 / e)) = d:=by grind
    generalize d / (2 / e * (2 / e)) = x at *
    obtain ⟨M,k⟩:=a.c x h0
    refine ⟨max N M,fun m n hm hn=>?_⟩
    have k1:=k m n (by omega) (by omega)
    have k2:=k n m (by omega) (by omega)
    have i1:=hi m (by omega)
    have i2:=hi n (by omega)
    have j1:=hp m (by omega)
    have j2:=hp n (by omega)
    have u1:=hu m (by omega)
    have u2:=hu n (by omega)
    show (a.f m)⁻¹ ≤ (a.f n)⁻¹ + d
    generalize (a.f m)⁻¹ = u at *
    generalize (a.f n)⁻¹ = v at *
    generalize 2 / e = r at *
    have b1:=Bd.mul (x:=u) (a:=r) (y:=v) (b:=r) (by grind) (by grind) (by grind) (by grind)
    have b2:=Bd.mul (x:=u * v) (a:=r * r) (y:=a.f n - a.f m) (b:=x) (by grind) (by grind) (by grind) (by grind)
    have e1 : u * v * (a.f n - a.f m) = u - v:=by grind
    grind
  · refine le_antisymm ?_ ?_
    · exact fun d hd=>⟨N,fun n hn=>by
        have:=hi n hn
        show a.f n * (a.f n)⁻¹ ≤ 1 + d
        grind⟩
    · exact fun d hd=>⟨N,fun n hn=>by
        have:=hi n hn
        show 1 ≤ a.f n * (a.f n)⁻¹ + d
        grind⟩
  · have:=hp n hn
    show 0 ≤ (a.f n)⁻¹ + d
    grind
  · have:=hu n hn
    show (a.f n)⁻¹ ≤ 2 / e + d
    grind) x
theorem inv_ex {x : R} (h : q 0 < x) : ∃ y,x * y = q 1 ∧ q 0 < y:=by
  obtain ⟨e,he,k⟩:=pos_of h
  obtain ⟨y,h1,h2,_⟩:=inv_q he k
  refine ⟨y,h1,fun c=>?_⟩
  have:=mul_le_mul_l c (le_of_lt h)
  rw [h1,mul_zero] at this
  exact absurd (q_le.1 this) (by decide)
def Ab (x e : R) : Prop:=-e ≤ x ∧ x ≤ e
theorem Ab.nn {x e : R} (h : Ab x e) : q 0 ≤ e:=by
  rcases le_total (q 0) e with k | k
  · exact k
  · have h1:=le_trans h.1 h.2
    have h2:=le_trans (neg_nonneg k) h1
    exact h2
theorem Ab.add {x y a b : R} (h : Ab x a) (k : Ab y b) : Ab (x + y) (a + b):=⟨by rw [neg_add,← add_neg]; exact add_le_add h.1 k.1,add_le_add h.2 k.2⟩
theorem Ab.neg {x a : R} (h : Ab x a) : Ab (-x) a:=⟨neg_le_neg h.2,by have:=neg_le_neg h.1; rwa [neg_neg] at this⟩
theorem Ab.sub {x y a b : R} (h : Ab x a) (k : Ab y b) : Ab (x - y) (a + b):=by rw [← add_neg]; exact h.add k.neg
theorem Ab.mono {x a b : R} (h : Ab x a) (k : a ≤ b) : Ab x b:=⟨le_trans (neg_le_neg k) h.1,le_trans h.2 k⟩
theorem Ab.mul {x y a b : R} (h : Ab x a) (k : Ab y b) : Ab (x * y) (a * b):=by
  have ha1 : q 0 ≤ a - x:=sub_nn h.2
  have ha2 : q 0 ≤ a + x:=by have:=sub_nn h.1; rwa [sub_neg,add_comm] at this
  have hb1 : q 0 ≤ b - y:=sub_nn k.2
  have hb2 : q 0 ≤ b + y:=by have:=sub_nn k.1; rwa [sub_neg,add_comm] at this
  have half : ∀ {u : R},q 0 ≤ q 2 * u → q 0 ≤ u:=fun {u} hu=>by
    have : q 0 * q 2 ≤ u * q 2:=by rw [zero_mul,mul_comm]; exact hu
    exact le_of_mul this (q_lt.2 (by decide))
  constructor
  · refine of_sub_nn (half ?_)
    have e : q 2 * (x * y - -(a * b)) = (a - x) * (b - y) + (a + x) * (b + y):=ind4 (P:=fun x y a b=>q 2 * (x * y - -(a * b)) = (a - x) * (b - y) + (a + x) * (b + y)) (fun x y a b=>pt fun n=>by
      show 2 * (x.f n * y.f n - -(a.f n * b.f n)) = (a.f n - x.f n) * (b.f n - y.f n) + (a.f n + x.f n) * (b.f n + y.f n); grind) x y a b
    rw [e]
    exact add_nonneg (mul_nonneg ha1 hb1) (mul_nonneg ha2 hb2)
  · refine of_sub_nn (half ?_)
    have e : q 2 * (a * b - x * y) = (a - x) * (b + y) + (a + x) * (b - y):=ind4 (P:=fun x y a b=>q 2 * (a * b - x * y) = (a - x) * (b + y) + (a + x) * (b - y)) (fun x y a b=>pt fun n=>by
      show 2 * (a.f n * b.f n - x.f n * y.f n) = (a.f n - x.f n) * (b.f n + y.f n) + (a.f n + x.f n) * (b.f n - y.f n); grind) x y a b
    rw [e]
    exact add_nonneg (mul_nonneg ha1 hb2) (mul_nonneg ha2 hb1)
theorem rat_arch (r : Rat) : ∃ n : Nat,0 < n ∧ r ≤ n:=by
  obtain ⟨n,h,_⟩:=arch (q r)
  exact ⟨n + 1,by omega,by have:=q_le.1 h; grind⟩
theorem mv (F : R → R) (a b : R) (C d : Rat) (hC : 0 ≤ C) (hd : 0 < d) (hab : a ≤ b) (H : ∀ x h,a ≤ x → q 0 ≤ h → h ≤ q d → x + h ≤ b → F x ≤ F (x + h) + q C * (h * h)) : F a ≤ F b:=eps fun e he=>by
  have hD:=sub_nn hab
  obtain ⟨m,hm,_⟩:=arch (b - a)
  have hm0 : (0 : Rat) ≤ m:=q_le.1 (le_trans hD hm)
  obtain ⟨n,hn0,hn⟩:=rat_arch (m / d + C * (m * m) / e)
  have hn0' : (0 : Rat) < n:=by exact_mod_cast hn0
  have e1 : (1 / n : Rat) * n = 1:=by grind
  have p1 : (0 : Rat) ≤ 1 / n:=Rat.le_of_lt (div_pos' (by decide) hn0')
  have z1 : 0 ≤ (m : Rat) / d:=by rw [Rat.div_def]; exact Rat.mul_nonneg hm0 (Rat.le_of_lt (Rat.inv_pos.2 hd))
  have z2 : 0 ≤ C * (m * m) / e:=by rw [Rat.div_def]; exact Rat.mul_nonneg (Rat.mul_nonneg hC (Rat.mul_nonneg hm0 hm0)) (Rat.le_of_lt (Rat.inv_pos.2 he))
  have z3 : (m : Rat) / d * d = m:=by grind
  have z4 : C * (m * m) / e * e = C * (m * m):=by grind
  have s1 : (m : Rat) * (1 / n) ≤ d:=by
    clear H
    generalize (1 / n : Rat) = i at *
    generalize (m : Rat) / d = r at *
    generalize C * (m * m) / e = r2 at *
    generalize (n : Rat) = N at *
    generalize (m : Rat) = M at *
    refine Rat.not_lt.1 fun c=>?_
    have t1:=Rat.mul_pos (show 0 < M * i - d by grind) hn0'
    have t2:=Rat.mul_nonneg (show 0 ≤ N - r by grind) (Rat.le_of_lt hd)
    have t3 : (M * i - d) * N = M * (i * N) - d * N:=by grind
    rw [t3,e1] at t1
    grind
  have s2 : C * (m * m) * (1 / n) ≤ e:=by
    clear H
    generalize (1 / n : Rat) = i at *
    generalize (m : Rat) / d = r at *
    generalize C * (m * m) / e = r2 at *
    generalize (n : Rat) = N at *
    generalize C * ((m : Rat) * m) = M at *
    refine Rat.not_lt.1 fun c=>?_
    have t1:=Rat.mul_pos (show 0 < M * i - e by grind) hn0'
    have t2:=Rat.mul_nonneg (show 0 ≤ N - r2 by grind) (Rat.le_of_lt he)
    have t3 : (M * i - e) * N = M * (i * N) - e * N:=by grind
    rw [t3,e1] at t1
    grind
  obtain ⟨h,hh⟩ : ∃ h,h = (b - a) * q (1 / n):=⟨_,rfl⟩
  have h0 : q 0 ≤ h:=by rw [hh]; exact mul_nonneg hD (q_le.2 p1)
  have hle : h ≤ q (m * (1 / n)):=by rw [hh,q_mul]; exact mul_le_mul_r hm (q_le.2 p1)
  have hnh : q n * h = b - a:=by rw [hh,mul_left_comm,← q_mul,Rat.mul_comm,e1,mul_one]
  have hhd : h ≤ q d:=le_trans hle (q_le.2 s1)
  have main : ∀ k : Nat,k ≤ n → F a ≤ F (a + q k * h) + q k * (q C * (h * h)):=by
    intro k
    induction k with
    | zero=>
      intro _
      have : (((0 : Nat) : Rat)) = 0:=by decide
      rw [this,zero_mul,add_zero,zero_mul,add_zero]
      exact le_refl _
    | succ k ih=>
      intro hk
      have ih:=ih (by omega)
      have hk0 : (0 : Rat) ≤ (k : Rat):=by exact_mod_cast Nat.zero_le k
      have ek : (((k + 1 : Nat) : Rat)) = k + 1:=by push_cast; rfl
      have hx : q 0 ≤ q k * h:=mul_nonneg (q_le.2 hk0) h0
      have e2 : a + q k * h + h = a + q (k + 1 : Nat) * h:=by rw [ek,q_add,add_mul,one_mul,add_assoc]
      have st:=H (a + q k * h) h (by have:=add_le_add (le_refl a) hx; rwa [add_zero] at this) h0 hhd (by
        rw [e2]
        have t1 : q (k + 1 : Nat) * h ≤ b - a:=by rw [← hnh]; exact mul_le_mul_r (q_le.2 (by exact_mod_cast hk)) h0
        have:=add_le_of t1
        rwa [add_comm] at this)
      rw [e2] at st
      refine le_trans ih (le_trans (add_le_add st (le_refl _)) ?_)
      rw [ek,q_add,add_mul (q k) (q 1) (q C * (h * h)),one_mul,add_assoc,add_comm (q C * (h * h))]
      exact le_refl _
  have fin:=main n (Nat.le_refl _)
  rw [hnh] at fin
  have e3 : a + (b - a) = b:=by rw [add_comm,sub_add_cancel]
  rw [e3] at fin
  refine le_trans fin (add_le_add (le_refl _) ?_)
  have e4 : q n * (q C * (h * h)) = q C * ((b - a) * h):=by rw [← hnh,mul_left_comm,mul_assoc]
  rw [e4]
  have t2 : (b - a) * h ≤ q m * q (m * (1 / n)):=le_trans (mul_le_mul_r hm h0) (mul_le_mul_l hle (q_le.2 hm0))
  refine le_trans (mul_le_mul_l t2 (q_le.2 hC)) ?_
  rw [← q_mul,← q_mul]
  exact q_le.2 (by grind)
theorem wid_step {w w' n B : Rat} (h : w' = w / 2) (hw : 0 ≤ w) (hn : 0 ≤ n) (ih : w * (n + 1) ≤ B) : w' * (n + 1 + 1) ≤ B:=by
  have p:=Rat.mul_nonneg hw hn
  subst h
  grind
theorem wid_small {w n N B e r : Rat} (he : 0 < e) (hr : r * e = B) (hrN : r ≤ N) (hNn : N ≤ n) (hn : 0 ≤ n) (h : w * (n + 1) ≤ B) : w ≤ e:=by
  refine Rat.not_lt.1 fun k=>?_
  have p:=Rat.mul_pos (show 0 < w - e by grind) (show 0 < n + 1 by grind)
  have p2:=Rat.mul_nonneg (show 0 ≤ n - r by grind) (Rat.le_of_lt he)
  grind
theorem split_e {L e : Rat} (hL : 0 ≤ L) (he : 0 < e) : ∃ x,0 < x ∧ ∀ w,w ≤ x → L * w ≤ e:=by
  have hL1 : 0 < L + 1:=by grind
  have h0:=div_pos' he hL1
  have hx : e / (L + 1) * (L + 1) = e:=by grind
  refine ⟨_,h0,fun w hw=>?_⟩
  have p:=Rat.mul_nonneg hL (show 0 ≤ e / (L + 1) - w by grind)
  grind
theorem r_four {x y z w u e : Rat} (h4 : x ≤ y) (h3 : y ≤ z) (h1 : z - w ≤ e) (h2 : w ≤ u) : x ≤ u + e:=by grind
theorem r_two {x y e : Rat} (h : x ≤ y) (he : 0 ≤ e) : x ≤ y + e:=by grind
theorem nat_nn (n : Nat) : (0 : Rat) ≤ n:=by exact_mod_cast Nat.zero_le n
theorem nat_succ (n : Nat) : (((n + 1 : Nat) : Rat)) = n + 1:=by push_cast; rfl
theorem ivt (F : R → R) (a b L : Rat) (c : R) (hab : a ≤ b) (hL : 0 ≤ L) (ha : F (q a) ≤ c) (hb : c ≤ F (q b))
    (H : ∀ x y,q a ≤ x → x ≤ y → y ≤ q b → Ab (F y - F x) (q L * (y - x))) : ∃ t,q a ≤ t ∧ t ≤ q b ∧ F t = c:=by
  have step : ∀ p : Rat × Rat,∃ r : Rat × Rat,(a ≤ p.1 ∧ p.1 ≤ p.2 ∧ p.2 ≤ b ∧ F (q p.1) ≤ c ∧ c ≤ F (q p.2)) → (p.1 ≤ r.1 ∧ r.1 ≤ r.2 ∧ r.2 ≤ p.2 ∧ F (q r.1) ≤ c ∧ c ≤ F (q r.2) ∧ r.2 - r.1 = (p.2 - p.1) / 2):=by
    intro p
    by_cases hp : a ≤ p.1 ∧ p.1 ≤ p.2 ∧ p.2 ≤ b ∧ F (q p.1) ≤ c ∧ c ≤ F (q p.2)
    · obtain ⟨h1,h2,h3,h4,h5⟩:=hp
      rcases le_total (F (q ((p.1 + p.2) / 2))) c with k | k
      · exact ⟨((p.1 + p.2) / 2,p.2),fun _=>⟨by grind,by grind,by grind,k,h5,by grind⟩⟩
      · exact ⟨(p.1,(p.1 + p.2) / 2),fun _=>⟨by grind,by grind,by grind,h4,k,by grind⟩⟩
    · exact ⟨p,fun h=>absurd h hp⟩
  let nx : Rat × Rat → Rat × Rat:=fun p=>Classical.choose (step p)
  have nxs:=fun p=>Classical.choose_spec (step p)
  let s : Nat → Rat × Rat:=fun n=>Nat.rec (a,b) (fun _ p=>nx p) n
  have s0 : s 0 = (a,b):=rfl
  have ss : ∀ n,s (n + 1) = nx (s n):=fun n=>rfl
  have inv : ∀ n,a ≤ (s n).1 ∧ (s n).1 ≤ (s n).2 ∧ (s n).2 ≤ b ∧ F (q (s n).1) ≤ c ∧ c ≤ F (q (s n).2):=by
    intro n
    induction n with
    | zero=>exact ⟨Rat.le_refl,hab,Rat.le_refl,ha,hb⟩
    | succ n ih=>
      obtain ⟨h1,h2,h3,h4,h5,_⟩:=nxs (s n) ih
      rw [ss]
      exact ⟨Rat.le_trans ih.1 h1,h2,Rat.le_trans h3 ih.2.2.1,h4,h5⟩
  have one : ∀ n,(s n).1 ≤ (s (n + 1)).1 ∧ (s (n + 1)).2 ≤ (s n).2 ∧ (s (n + 1)).2 - (s (n + 1)).1 = ((s n).2 - (s n).1) / 2:=fun n=>by
    obtain ⟨h1,h2,h3,_,_,h6⟩:=nxs (s n) (inv n)
    rw [ss]
    exact ⟨h1,h3,h6⟩
  have mono : ∀ n m,n ≤ m → (s n).1 ≤ (s m).1 ∧ (s m).2 ≤ (s n).2:=by
    intro n m h
    induction m with
    | zero=>
      have : n = 0:=by omega
      subst this
      exact ⟨Rat.le_refl,Rat.le_refl⟩
    | succ m ih=>
      by_cases e : n = m + 1
      · subst e
        exact ⟨Rat.le_refl,Rat.le_refl⟩
      · have ih:=ih (by omega)
        exact ⟨Rat.le_trans ih.1 (one m).1,Rat.le_trans (one m).2.1 ih.2⟩
  have wid : ∀ n : Nat,((s n).2 - (s n).1) * (n + 1) ≤ b - a:=by
    intro n
    induction n with
    | zero=>rw [s0]; grind
    | succ n ih=>
      have h1:=(one n).2.2
      have h2:=(inv n).2.1
      rw [nat_succ]
      exact wid_step h1 (Rat.le_iff_sub_nonneg _ _ |>.1 h2) (nat_nn n) ih
  have small : ∀ e : Rat,0 < e → ∃ N,∀ n,N ≤ n → (s n).2 - (s n).1 ≤ e:=by
    intro e he
    obtain ⟨N,hN0,hN⟩:=rat_arch ((b - a) / e)
    refine ⟨N,fun n hn=>?_⟩
    exact wid_small he (show (b - a) / e * e = b - a from Rat.div_mul_cancel (Rat.ne_of_gt he)) hN (by exact_mod_cast hn) (nat_nn n) (wid n)
  let t : CS:=⟨fun n=>(s n).1,fun e he=>by
    obtain ⟨N,h⟩:=small e he
    refine ⟨N,fun m n hm hn=>?_⟩
    have h1:=h N (Nat.le_refl _)
    have h2:=(mono N n hn).1
    have h3:=(mono N m hm).2
    have h4:=(inv m).2.1
    exact r_four h4 h3 h1 h2⟩
  have lo : ∀ n,q (s n).1 ≤ mk t:=fun n e he=>⟨n,fun m hm=>by
    have:=(mono n m hm).1
    show (s n).1 ≤ (s m).1 + e
    exact r_two this (Rat.le_of_lt he)⟩
  have hi : ∀ n,mk t ≤ q (s n).2:=fun n e he=>⟨n,fun m hm=>by
    have h1:=(mono n m hm).2
    have h2:=(inv m).2.1
    show (s m).1 ≤ (s n).2 + e
    exact r_two (Rat.le_trans h2 h1) (Rat.le_of_lt he)⟩
  have dist : ∀ e : Rat,0 < e → ∃ n,q L * (mk t - q (s n).1) ≤ q e ∧ q L * (q (s n).2 - mk t) ≤ q e:=by
    intro e he
    obtain ⟨x,h0,hx⟩:=split_e hL he
    obtain ⟨N,h⟩:=small x h0
    have hw:=hx _ (h N (Nat.le_refl _))
    refine ⟨N,?_,?_⟩
    · refine le_trans (mul_le_mul_l (sub_le_sub (hi N) (le_refl _)) (q_le.2 hL)) ?_
      rw [← q_sub,← q_mul]
      exact q_le.2 hw
    · refine le_trans (mul_le_mul_l (sub_le_sub (le_refl _) (lo N)) (q_le.2 hL)) ?_
      rw [← q_sub,← q_mul]
      exact q_le.2 hw
  have ta : q a ≤ mk t:=lo 0
  have tb : mk t ≤ q b:=hi 0
  refine ⟨mk t,ta,tb,le_antisymm (eps fun e he=>?_) (eps fun e he=>?_)⟩
  · obtain ⟨n,h1,_⟩:=dist e he
    have:=(H (q (s n).1) (mk t) (q_le.2 (inv n).1) (lo n) tb).2
    have:=le_add_of (le_trans this h1)
    rw [add_comm] at this
    exact le_trans this (add_le_add (inv n).2.2.2.1 (le_refl _))
  · obtain ⟨n,_,h2⟩:=dist e he
    have:=(H (mk t) (q (s n).2) ta (hi n) (q_le.2 (inv n).2.2.1)).2
    have:=le_add_of (le_trans this h2)
    rw [add_comm] at this
    exact le_trans (inv n).2.2.2.2 this
def tm (a : Rat) : Nat → Rat
  | 0=>1
  | k + 1=>tm a k * a / (k + 1)
def tp (a : Rat) : Nat → Rat
  | 0=>0
  | k + 1=>tm a k
def tpp (a : Rat) : Nat → Rat
  | 0=>0
  | k + 1=>tp a k
theorem k1_pos (k : Nat) : (0 : Rat) < k + 1:=by have:=nat_nn k; grind
theorem tm_step (a : Rat) (k : Nat) : tm a (k + 1) * (k + 1) = tm a k * a:=by
  have:=k1_pos k
  show tm a k * a / (k + 1) * (k + 1) = _
  exact Rat.div_mul_cancel (Rat.ne_of_gt this)
theorem div_bd {x b k : Rat} (hk : 0 < k) (h1 : -(b * k) ≤ x * k) (h2 : x * k ≤ b * k) : -b ≤ x ∧ x ≤ b:=by
  constructor
  · refine Rat.not_lt.1 fun c=>?_
    have:=Rat.mul_pos (show 0 < -b - x by grind) hk
    grind
  · refine Rat.not_lt.1 fun c=>?_
    have:=Rat.mul_pos (show 0 < x - b by grind) hk
    grind
theorem tm_bd {a A : Rat} (h1 : -A ≤ a) (h2 : a ≤ A) : ∀ k,-tm A k ≤ tm a k ∧ tm a k ≤ tm A k
  | 0=>⟨by show (-1 : Rat) ≤ 1; decide,Rat.le_refl⟩
  | k + 1=>by
    have ih:=tm_bd h1 h2 k
    have p:=Bd.mul ih.1 ih.2 h1 h2
    refine div_bd (k1_pos k) ?_ ?_
    · rw [tm_step,tm_step]; exact p.1
    · rw [tm_step,tm_step]; exact p.2
theorem tm_nn {A : Rat} (h : 0 ≤ A) : ∀ k,0 ≤ tm A k
  | 0=>by show (0 : Rat) ≤ 1; decide
  | k + 1=>by
    have:=tm_nn h k
    have:=Rat.mul_nonneg this h
    refine Rat.not_lt.1 fun c=>?_
    have s:=tm_step A k
    have:=Rat.mul_pos (show 0 < -tm A (k + 1) by grind) (k1_pos k)
    grind
theorem tp_mul (a : Rat) : ∀ k : Nat,tp a k * a = k * tm a k
  | 0=>by show (0 : Rat) * a = (0 : Nat) * 1; grind
  | k + 1=>by
    show tm a k * a = _
    rw [← tm_step,nat_succ]
    grind
theorem tpp_mul {A : Rat} (hA : 0 ≤ A) : ∀ k : Nat,tpp A k * A ≤ k * tp A k
  | 0=>by show (0 : Rat) * A ≤ (0 : Nat) * 0; grind
  | k + 1=>by
    show tp A k * A ≤ (k + 1 : Nat) * tm A k
    rw [tp_mul,nat_succ]
    have:=tm_nn hA k
    grind
theorem tm_lip {a b A d : Rat} (a1 : -A ≤ a) (a2 : a ≤ A) (b1 : -A ≤ b) (b2 : b ≤ A) (d1 : -d ≤ a - b) (d2 : a - b ≤ d) : ∀ k,-(tp A k * d) ≤ tm a k - tm b k ∧ tm a k - tm b k ≤ tp A k * d
  | 0=>by
    constructor
    · show -(0 * d) ≤ (1 - 1 : Rat); grind
    · show (1 - 1 : Rat) ≤ 0 * d; grind
  | k + 1=>by
    have ih:=tm_lip a1 a2 b1 b2 d1 d2 k
    have p1:=Bd.mul ih.1 ih.2 a1 a2
    have tb:=tm_bd b1 b2 k
    have p2:=Bd.mul tb.1 tb.2 d1 d2
    have s1:=tm_step a k
    have s2:=tm_step b k
    have tA:=tp_mul A k
    refine div_bd (k1_pos k) ?_ ?_ <;> (show _ ≤ _; simp only [tp]; generalize tm a (k + 1) = x at *; generalize tm b (k + 1) = y at *; generalize tm a k = u at *; generalize tm b k = v at *; generalize tm A k = w at *; generalize tp A k = z at *; generalize (k : Rat) = kk at *; clear ih a1 a2 b1 b2 d1 d2 tb)
    · have e : (x - y) * (kk + 1) = (u - v) * a + v * (a - b):=by grind
      have e2 : z * d * A = kk * w * d:=by grind
      rw [e]; grind
    · have e : (x - y) * (kk + 1) = (u - v) * a + v * (a - b):=by grind
      have e2 : z * d * A = kk * w * d:=by grind
      rw [e]; grind
theorem sq_nn (h : Rat) : 0 ≤ h * h:=by
  rcases @Rat.le_total 0 h with k | k
  · exact Rat.mul_nonneg k k
  · have:=Rat.mul_nonneg (show 0 ≤ -h by grind) (show 0 ≤ -h by grind)
    grind
theorem tm_sec {a h A : Rat} (hA : 0 ≤ A) (a1 : -A ≤ a) (a2 : a ≤ A) (b1 : -A ≤ a + h) (b2 : a + h ≤ A) : ∀ k,-(tpp A k * (h * h)) ≤ tm (a + h) k - tm a k - h * tp a k ∧ tm (a + h) k - tm a k - h * tp a k ≤ tpp A k * (h * h)
  | 0=>by
    constructor
    · show -(0 * (h * h)) ≤ (1 - 1 - h * 0 : Rat); grind
    · show (1 - 1 - h * 0 : Rat) ≤ 0 * (h * h); grind
  | k + 1=>by
    have ih:=tm_sec hA a1 a2 b1 b2 k
    have p1:=Bd.mul ih.1 ih.2 b1 b2
    have tb : -tp A k ≤ tp a k ∧ tp a k ≤ tp A k:=by
      cases k with
      | zero=>exact ⟨by show -(0 : Rat) ≤ 0; decide,Rat.le_refl⟩
      | succ k=>exact tm_bd a1 a2 k
    have hh:=sq_nn h
    have p2:=Bd.mul (x:=h * h) (a:=h * h) (by grind) Rat.le_refl tb.1 tb.2
    have s1:=tm_step (a + h) k
    have s2:=tm_step a k
    have s3:=tp_mul a k
    have p3:=Rat.mul_nonneg (show 0 ≤ k * tp A k - tpp A k * A by have:=tpp_mul hA k; grind) hh
    refine div_bd (k1_pos k) ?_ ?_ <;> (show _ ≤ _; rw [show tpp A (k + 1) = tp A k from rfl,show tp a (k + 1) = tm a k from rfl]; generalize tm (a + h) (k + 1) = x at *; generalize tm a (k + 1) = y at *; generalize tm (a + h) k = u at *; generalize tm a k = v at *; generalize tp A k = w at *; generalize tp a k = z at *; generalize tpp A k = w2 at *; generalize (k : Rat) = kk at *; clear ih a1 a2 b1 b2 tb)
    · have e : (x - y - h * v) * (kk + 1) = (u - v - h * z) * (a + h) + h * h * z:=by grind
      rw [e]; grind
    · have e : (x - y - h * v) * (kk + 1) = (u - v - h * z) * (a + h) + h * h * z:=by grind
      rw [e]; grind
def S (c : Nat → Rat) : Nat → Rat → Rat
  | 0,_=>0
  | n + 1,a=>S c n a + c n * tm a n
def U (A : Rat) : Nat → Rat
  | 0=>0
  | n + 1=>U A n + tm A n
theorem half_step {A : Rat} (hA : 0 ≤ A) (n : Nat) (h : 2 * A ≤ n + 1) : 2 * tm A (n + 1) ≤ tm A n:=by
  have h1:=tm_nn hA n
  have h2:=tm_nn hA (n + 1)
  have s:=tm_step A n
  have p:=Rat.mul_nonneg h1 (show 0 ≤ (n : Rat) + 1 - 2 * A by grind)
  refine Rat.not_lt.1 fun c=>?_
  have:=Rat.mul_pos (show 0 < 2 * tm A (n + 1) - tm A n by grind) (k1_pos n)
  grind
theorem U_tail {A : Rat} (hA : 0 ≤ A) (n : Nat) (h : 2 * A ≤ n + 1) : ∀ j,U A (n + j) + 2 * tm A (n + j) ≤ U A n + 2 * tm A n
  | 0=>Rat.le_refl
  | j + 1=>by
    have ih:=U_tail hA n h j
    have:=half_step hA (n + j) (by have:=nat_nn j; push_cast; grind)
    show U A (n + j) + tm A (n + j) + 2 * tm A (n + j + 1) ≤ _
    grind
theorem U_up {A : Rat} (hA : 0 ≤ A) (n : Nat) : ∀ j,U A n ≤ U A (n + j)
  | 0=>Rat.le_refl
  | j + 1=>by
    have:=U_up hA n j
    have:=tm_nn hA (n + j)
    show _ ≤ U A (n + j) + tm A (n + j)
    grind
theorem U_bd {A : Rat} (hA : 0 ≤ A) : ∃ B : Rat,0 ≤ B ∧ ∀ n,U A n ≤ B:=by
  obtain ⟨K,_,hK⟩:=rat_arch (2 * A)
  refine ⟨U A K + 2 * tm A K,?_,fun n=>?_⟩
  · have:=U_up hA 0 K
    have:=tm_nn hA K
    have : U A 0 = 0:=rfl
    rw [Nat.zero_add] at *
    grind
  · rcases Nat.le_total n K with h | h
    · have:=U_up hA n (K - n)
      rw [show n + (K - n) = K by omega] at this
      have:=tm_nn hA K
      grind
    · have:=U_tail hA K (by grind) (n - K)
      rw [show K + (n - K) = n by omega] at this
      have:=tm_nn hA n
      grind
theorem tm_small {A : Rat} (hA : 0 ≤ A) (e : Rat) (he : 0 < e) : ∃ N : Nat,∀ n,N ≤ n → tm A n ≤ e ∧ 2 * A ≤ n + 1:=by
  obtain ⟨K,_,hK⟩:=rat_arch (2 * A)
  have hd : ∀ j : Nat,tm A (K + j) * (j + 1) ≤ tm A K:=by
    intro j
    induction j with
    | zero=>show tm A K * ((0 : Nat) + 1) ≤ _; push_cast; grind
    | succ j ih=>
      have h1:=half_step hA (K + j) (by have:=nat_nn j; push_cast; grind)
      have h2:=tm_nn hA (K + j)
      have h3:=nat_nn j
      have h4:=tm_nn hA (K + j + 1)
      have p:=Rat.mul_nonneg h2 h3
      have p2:=Rat.mul_nonneg (show 0 ≤ tm A (K + j) - 2 * tm A (K + j + 1) by grind) (show (0 : Rat) ≤ j + 2 by grind)
      show tm A (K + j + 1) * ((j + 1 : Nat) + 1) ≤ _
      push_cast
      grind
  obtain ⟨N,_,hN⟩:=rat_arch (tm A K / e)
  refine ⟨K + N,fun n hn=>⟨?_,?_⟩⟩
  · have:=hd (n - K)
    rw [show K + (n - K) = n by omega] at this
    exact wid_small he (Rat.div_mul_cancel (Rat.ne_of_gt he)) hN (by exact_mod_cast (by omega : N ≤ n - K)) (nat_nn _) this
  · have : (K : Rat) ≤ n:=by exact_mod_cast (by omega : K ≤ n)
    grind
def Un (c : Nat → Rat) : Prop:=∀ k,-1 ≤ c k ∧ c k ≤ 1
theorem S_tail {c : Nat → Rat} (hc : Un c) {a A : Rat} (h1 : -A ≤ a) (h2 : a ≤ A) (n : Nat) : ∀ j,-(U A (n + j) - U A n) ≤ S c (n + j) a - S c n a ∧ S c (n + j) a - S c n a ≤ U A (n + j) - U A n
  | 0=>by rw [Nat.add_zero]; constructor <;> grind
  | j + 1=>by
    have ih:=S_tail hc h1 h2 n j
    have t:=tm_bd h1 h2 (n + j)
    have p:=Bd.mul (hc (n + j)).1 (hc (n + j)).2 t.1 t.2
    have e1 : S c (n + (j + 1)) a = S c (n + j) a + c (n + j) * tm a (n + j):=rfl
    have e2 : U A (n + (j + 1)) = U A (n + j) + tm A (n + j):=rfl
    rw [e1,e2]
    constructor <;> grind
theorem S_lip {c : Nat → Rat} (hc : Un c) {a b A d : Rat} (hA : 0 ≤ A) (hd : 0 ≤ d) (a1 : -A ≤ a) (a2 : a ≤ A) (b1 : -A ≤ b) (b2 : b ≤ A) (d1 : -d ≤ a - b) (d2 : a - b ≤ d) : ∀ n,-(U A n * d) ≤ S c n a - S c n b ∧ S c n a - S c n b ≤ U A n * d:=by
  have main : ∀ n,-(U A (n - 1) * d) ≤ S c n a - S c n b ∧ S c n a - S c n b ≤ U A (n - 1) * d:=by
    intro n
    induction n with
    | zero=>constructor <;> (show _ ≤ _; rw [show S c 0 a = 0 from rfl]; (first | rw [show S c 0 b = 0 from rfl] | rw [show S c 0 (a + h) = 0 from rfl]); rw [show U A 0 = 0 from rfl]; grind)
    | succ n ih=>
      have t:=tm_lip a1 a2 b1 b2 d1 d2 n
      have p:=Bd.mul (hc n).1 (hc n).2 t.1 t.2
      have e1 : S c (n + 1) a = S c n a + c n * tm a n:=rfl
      have e2 : S c (n + 1) b = S c n b + c n * tm b n:=rfl
      have e3 : U A (n + 1 - 1) = U A (n - 1) + tp A n:=by
        cases n with
        | zero=>show (0 : Rat) = 0 + 0; grind
        | succ n=>rfl
      rw [e1,e2,e3]
      constructor <;> grind
  intro n
  have m:=main n
  have : U A (n - 1) ≤ U A n:=by
    have:=U_up hA (n - 1) (n - (n - 1))
    rwa [show n - 1 + (n - (n - 1)) = n by omega] at this
  have:=Rat.mul_nonneg (show 0 ≤ U A n - U A (n - 1) by grind) hd
  constructor <;> grind
def S' (c : Nat → Rat) : Nat → Rat → Rat
  | 0,_=>0
  | n + 1,a=>S' c n a + c n * tp a n
theorem S_shift (c : Nat → Rat) (a : Rat) : ∀ n,S' c (n + 1) a = S (fun k=>c (k + 1)) n a
  | 0=>by show (0 : Rat) + c 0 * 0 = 0; grind
  | n + 1=>by
    have:=S_shift c a n
    show S' c (n + 1) a + c (n + 1) * tm a n = S (fun k=>c (k + 1)) n a + c (n + 1) * tm a n
    rw [this]
theorem U_tpp (A : Rat) : ∀ n,U A (n - 2) + tpp A n = U A (n + 1 - 2)
  | 0=>by show (0 : Rat) + 0 = 0; grind
  | 1=>by show (0 : Rat) + 0 = 0; grind
  | n + 2=>rfl
theorem S_sec {c : Nat → Rat} (hc : Un c) {a h A : Rat} (hA : 0 ≤ A) (a1 : -A ≤ a) (a2 : a ≤ A) (b1 : -A ≤ a + h) (b2 : a + h ≤ A) : ∀ n,
    -(U A (n - 2) * (h * h)) ≤ S c n (a + h) - S c n a - h * S' c n a ∧ S c n (a + h) - S c n a - h * S' c n a ≤ U A (n - 2) * (h * h)
  | 0=>by
    constructor
    · show -(0 * (h * h)) ≤ (0 - 0 - h * 0 : Rat); grind
    · show (0 - 0 - h * 0 : Rat) ≤ 0 * (h * h); grind
  | n + 1=>by
    have ih:=S_sec hc hA a1 a2 b1 b2 n
    have t:=tm_sec hA a1 a2 b1 b2 n
    have p:=Bd.mul (hc n).1 (hc n).2 t.1 t.2
    have e1 : S c (n + 1) (a + h) = S c n (a + h) + c n * tm (a + h) n:=rfl
    have e2 : S c (n + 1) a = S c n a + c n * tm a n:=rfl
    have e4 : S' c (n + 1) a = S' c n a + c n * tp a n:=rfl
    rw [e1,e2,e4,← U_tpp]
    constructor <;> grind
theorem U_gap {A e : Rat} (hA : 0 ≤ A) {N : Nat} (h : ∀ n,N ≤ n → tm A n ≤ e ∧ 2 * A ≤ n + 1) (m n : Nat) (hn : N ≤ n) (hm : n ≤ m) : U A m - U A n ≤ 2 * e:=by
  obtain ⟨h1,h2⟩:=h n hn
  have:=U_tail hA n h2 (m - n)
  rw [show n + (m - n) = m by omega] at this
  have:=tm_nn hA m
  grind
theorem S_gap {c : Nat → Rat} (hc : Un c) {a A e : Rat} (hA : 0 ≤ A) (h1 : -A ≤ a) (h2 : a ≤ A) {N : Nat} (h : ∀ n,N ≤ n → tm A n ≤ e ∧ 2 * A ≤ n + 1) (m n : Nat) (hn : N ≤ n) (hm : N ≤ m) : S c m a - S c n a ≤ 2 * e:=by
  rcases Nat.le_total n m with k | k
  · have:=S_tail hc h1 h2 n (m - n)
    rw [show n + (m - n) = m by omega] at this
    have:=U_gap hA h m n hn k
    grind
  · have:=S_tail hc h1 h2 m (n - m)
    rw [show m + (n - m) = n by omega] at this
    have:=U_gap hA h n m hm k
    grind
theorem U_mul {M d n : Rat} (h : n ≤ M) (hd : 0 ≤ d) {e : Rat} (he : M * d ≤ e) : n * d ≤ e:=by
  have:=Rat.mul_nonneg (show 0 ≤ M - n by grind) hd
  grind
def FS (c : Nat → Rat) (hc : Un c) (a : CS) : CS:=⟨fun n=>S c n (a.f n),fun e he=>by
  obtain ⟨A,hA,N0,hb⟩:=a.bd
  have hA:=Rat.le_of_lt hA
  obtain ⟨M,hM,hU⟩:=U_bd hA
  obtain ⟨d,hd,hdd⟩:=split_e hM (show 0 < e / 2 by grind)
  obtain ⟨N1,h1⟩:=a.c d hd
  obtain ⟨N2,h2⟩:=tm_small hA (e / 4) (by grind)
  refine ⟨max N0 (max N1 N2),fun m n hm hn=>?_⟩
  have a1:=hb m (by omega)
  have a2:=hb n (by omega)
  have d1:=h1 m n (by omega) (by omega)
  have d2:=h1 n m (by omega) (by omega)
  have l:=(S_lip hc hA (Rat.le_of_lt hd) a1.1 a1.2 a2.1 a2.2 (d:=d) (by grind) (by grind) m).2
  have g:=S_gap hc hA a2.1 a2.2 h2 m n (by omega) (by omega)
  have u:=U_mul (hU m) (Rat.le_of_lt hd) (hdd d Rat.le_refl)
  show S c m (a.f m) ≤ S c n (a.f n) + e
  clear h1 h2 hU hdd hb
  grind⟩
theorem FS_le (c : Nat → Rat) (hc : Un c) {a b : CS} (h : a.le b ∧ b.le a) : (FS c hc a).le (FS c hc b):=fun e he=>by
  obtain ⟨A,hA,N0,ha⟩:=a.bd
  obtain ⟨B,hB,N1,hb⟩:=b.bd
  have hAB : 0 ≤ A + B:=by grind
  obtain ⟨M,hM,hU⟩:=U_bd hAB
  obtain ⟨d,hd,hdd⟩:=split_e hM he
  obtain ⟨N2,h1⟩:=h.1 d hd
  obtain ⟨N3,h2⟩:=h.2 d hd
  refine ⟨max (max N0 N1) (max N2 N3),fun n hn=>?_⟩
  have a1:=ha n (by omega)
  have a2:=hb n (by omega)
  have d1:=h1 n (by omega)
  have d2:=h2 n (by omega)
  have l:=(S_lip hc hAB (Rat.le_of_lt hd) (a:=a.f n) (b:=b.f n) (d:=d) (by grind) (by grind) (by grind) (by grind) (by grind) (by grind) n).2
  have u:=U_mul (hU n) (Rat.le_of_lt hd) (hdd d Rat.le_refl)
  show S c n (a.f n) ≤ S c n (b.f n) + e
  clear h1 h2 hU hdd ha hb
  grind
def F (c : Nat → Rat) (hc : Un c) : R → R:=Quotient.lift (fun a=>mk (FS c hc a)) fun a b h=>Quotient.sound ⟨FS_le c hc h,FS_le c hc ⟨h.2,h.1⟩⟩
theorem un_s {c : Nat → Rat} (hc : Un c) : Un (fun k=>c (k + 1)):=fun k=>hc (k + 1)
theorem ab_mk {a b : CS} (h : ∀ e : Rat,0 < e → ∃ N : Nat,∀ n,N ≤ n → -(b.f n + e) ≤ a.f n ∧ a.f n ≤ b.f n + e) : Ab (mk a) (mk b):=by
  constructor
  · intro e he
    obtain ⟨N,h⟩:=h e he
    exact ⟨N,fun n hn=>by
      have:=h n hn
      show -b.f n ≤ a.f n + e
      grind⟩
  · intro e he
    obtain ⟨N,h⟩:=h e he
    exact ⟨N,fun n hn=>(h n hn).2⟩
theorem ab_ev {a : CS} {A : Rat} (h : Ab (mk a) (q A)) {e : Rat} (he : 0 < e) : ∃ N : Nat,∀ n,N ≤ n → -(A + e) ≤ a.f n ∧ a.f n ≤ A + e:=by
  obtain ⟨N,h1⟩:=(h.1 : ((CS.q A).neg).le a) e he
  obtain ⟨M,h2⟩:=(h.2 : a.le (CS.q A)) e he
  refine ⟨max N M,fun n hn=>⟨?_,h2 n (by omega)⟩⟩
  have : -A ≤ a.f n + e:=h1 n (by omega)
  grind
theorem F_bd (c : Nat → Rat) (hc : Un c) (A : Rat) (hA : 0 ≤ A) : ∃ B : Rat,0 ≤ B ∧ ∀ x,Ab x (q A) → Ab (F c hc x) (q B):=by
  have hA1 : 0 ≤ A + 1:=by grind
  obtain ⟨M,hM,hU⟩:=U_bd hA1
  refine ⟨M,hM,mk_ind fun a h=>?_⟩
  obtain ⟨N,h⟩:=ab_ev h (show (0 : Rat) < 1 by decide)
  refine ab_mk (a:=FS c hc a) (b:=CS.q M) fun e he=>⟨N,fun n hn=>?_⟩
  have a1:=h n hn
  have t:=S_tail hc a1.1 a1.2 0 n
  rw [Nat.zero_add,show S c 0 (a.f n) = 0 from rfl,show U (A + 1) 0 = 0 from rfl] at t
  have:=hU n
  show -(M + e) ≤ S c n (a.f n) ∧ S c n (a.f n) ≤ M + e
  clear hU h
  constructor <;> grind
theorem extra_small {H t e b u : Rat} (hH : 0 ≤ H) (h1 : -H ≤ b) (h2 : b ≤ H) (u1 : -t ≤ u) (u2 : u ≤ t) (ht : H * t ≤ e) : -e ≤ b * u ∧ b * u ≤ e:=by
  have:=Bd.mul h1 h2 u1 u2
  constructor <;> grind
theorem F_sec (c : Nat → Rat) (hc : Un c) (A : Rat) (hA : 0 ≤ A) : ∃ B : Rat,0 ≤ B ∧ ∀ x h,Ab x (q A) → Ab (x + h) (q A) → Ab (F c hc (x + h) - F c hc x - h * F (fun k=>c (k + 1)) (un_s hc) x) (q B * (h * h)):=by
  have hA1 : 0 ≤ A + 1:=by grind
  obtain ⟨M,hM,hU⟩:=U_bd hA1
  refine ⟨M,hM,ind2 fun a b h1 h2=>?_⟩
  obtain ⟨N1,h1⟩:=ab_ev h1 (show (0 : Rat) < 1 by decide)
  obtain ⟨N2,h2⟩:=ab_ev (a:=a.add b) h2 (show (0 : Rat) < 1 by decide)
  refine ab_mk (a:=((FS c hc (a.add b)).sub (FS c hc a)).sub (b.mul (FS (fun k=>c (k + 1)) (un_s hc) a))) (b:=(CS.q M).mul (b.mul b)) fun e he=>?_
  obtain ⟨d,hd,hdd⟩:=split_e (show 0 ≤ 2 * (A + 1) by grind) he
  obtain ⟨N3,h3⟩:=tm_small hA1 d hd
  refine ⟨max (max N1 N2) (N3 + 1),fun n hn=>?_⟩
  obtain ⟨m,rfl⟩ : ∃ m,n = m + 1:=⟨n - 1,by omega⟩
  have a1:=h1 (m + 1) (by omega)
  have a2 : -(A + 1) ≤ a.f (m + 1) + b.f (m + 1) ∧ a.f (m + 1) + b.f (m + 1) ≤ A + 1:=h2 (m + 1) (by omega)
  have t:=(h3 m (by omega)).1
  have hx:=hdd _ t
  have sec:=S_sec hc hA1 a1.1 a1.2 a2.1 a2.2 (m + 1)
  rw [S_shift] at sec
  have tb:=tm_bd a1.1 a1.2 m
  have cb:=Bd.mul (hc (m + 1)).1 (hc (m + 1)).2 tb.1 tb.2
  have ex:=extra_small (H:=2 * (A + 1)) (t:=tm (A + 1) m) (e:=e) (b:=b.f (m + 1)) (u:=c (m + 1) * tm (a.f (m + 1)) m) (by grind) (by grind) (by grind) (by grind) (by grind) hx
  have hu:=hU (m + 1 - 2)
  have hh:=sq_nn (b.f (m + 1))
  have hm:=Rat.mul_nonneg (show 0 ≤ M - U (A + 1) (m + 1 - 2) by grind) hh
  have e1 : S (fun k=>c (k + 1)) (m + 1) (a.f (m + 1)) = S (fun k=>c (k + 1)) m (a.f (m + 1)) + c (m + 1) * tm (a.f (m + 1)) m:=rfl
  show -(M * (b.f (m + 1) * b.f (m + 1)) + e) ≤ S c (m + 1) (a.f (m + 1) + b.f (m + 1)) - S c (m + 1) (a.f (m + 1)) - b.f (m + 1) * S (fun k=>c (k + 1)) (m + 1) (a.f (m + 1)) ∧ S c (m + 1) (a.f (m + 1) + b.f (m + 1)) - S c (m + 1) (a.f (m + 1)) - b.f (m + 1) * S (fun k=>c (k + 1)) (m + 1) (a.f (m + 1)) ≤ M * (b.f (m + 1) * b.f (m + 1)) + e
  rw [e1]
  clear h1 h2 h3 hU hdd
  generalize a.f (m + 1) = x at *
  generalize b.f (m + 1) = y at *
  generalize S (fun k=>c (k + 1)) m x = s at *
  generalize S c (m + 1) (x + y) = s1 at *
  generalize S c (m + 1) x = s2 at *
  generalize U (A + 1) (m + 1 - 2) = uu at *
  generalize c (m + 1) * tm x m = w at *
  constructor <;> grind
def tR (x : R) : Nat → R
  | 0=>q 1
  | k + 1=>tR x k * x * q (1 / (k + 1))
def SR (c : Nat → Rat) : Nat → R → R
  | 0,_=>q 0
  | n + 1,x=>SR c n x + q (c n) * tR x n
def tS (a : CS) : Nat → CS
  | 0=>CS.q 1
  | k + 1=>((tS a k).mul a).mul (CS.q (1 / (k + 1)))
theorem tS_f (a : CS) (i : Nat) : ∀ k,(tS a k).f i = tm (a.f i) k
  | 0=>rfl
  | k + 1=>by
    show (tS a k).f i * a.f i * (1 / (k + 1)) = tm (a.f i) k * a.f i / (k + 1)
    rw [tS_f a i k]
    grind
theorem tR_mk (a : CS) : ∀ k,tR (mk a) k = mk (tS a k)
  | 0=>rfl
  | k + 1=>by
    show tR (mk a) k * mk a * q (1 / (k + 1)) = _
    rw [tR_mk a k]
    rfl
def SS (c : Nat → Rat) : Nat → CS → CS
  | 0,_=>CS.q 0
  | n + 1,a=>(SS c n a).add ((CS.q (c n)).mul (tS a n))
theorem SS_f (c : Nat → Rat) (a : CS) (i : Nat) : ∀ n,(SS c n a).f i = S c n (a.f i)
  | 0=>rfl
  | n + 1=>by
    show (SS c n a).f i + c n * (tS a n).f i = S c n (a.f i) + c n * tm (a.f i) n
    rw [SS_f c a i n,tS_f]
theorem SR_mk (c : Nat → Rat) (a : CS) : ∀ n,SR c n (mk a) = mk (SS c n a)
  | 0=>rfl
  | n + 1=>by
    show SR c n (mk a) + q (c n) * tR (mk a) n = _
    rw [SR_mk c a n,tR_mk]
    rfl
theorem F_tail (c : Nat → Rat) (hc : Un c) {A B : Rat} (hA : 0 ≤ A) (hAB : A < B) (n : Nat) (hn : 2 * B ≤ n + 1) (x : R) : Ab x (q A) → Ab (F c hc x - SR c n x) (q (2 * tm B n)):=mk_ind (P:=fun x=>Ab x (q A) → Ab (F c hc x - SR c n x) (q (2 * tm B n))) (fun a h=>by
  obtain ⟨N,h⟩:=ab_ev h (show 0 < B - A by grind)
  rw [SR_mk]
  refine ab_mk (a:=(FS c hc a).sub (SS c n a)) (b:=CS.q (2 * tm B n)) fun e he=>⟨max N n,fun m hm=>?_⟩
  have a1:=h m (by omega)
  have hB : 0 ≤ B:=by grind
  have t:=S_tail hc (A:=B) (a:=a.f m) (by grind) (by grind) n (m - n)
  have u:=U_tail hB n hn (m - n)
  rw [show n + (m - n) = m by omega] at t u
  have w:=tm_nn hB m
  show -(2 * tm B n + e) ≤ S c m (a.f m) - (SS c n a).f m ∧ S c m (a.f m) - (SS c n a).f m ≤ 2 * tm B n + e
  rw [SS_f]
  clear h
  constructor <;> grind) x
theorem tm_zero : ∀ k,tm 0 (k + 1) = 0:=fun k=>by
  show tm 0 k * 0 / (k + 1) = 0
  grind
theorem S_zero (c : Nat → Rat) : ∀ n,S c (n + 1) 0 = c 0
  | 0=>by show 0 + c 0 * 1 = c 0; grind
  | n + 1=>by
    show S c (n + 1) 0 + c (n + 1) * tm 0 (n + 1) = c 0
    rw [S_zero c n,tm_zero]
    grind
theorem F_zero (c : Nat → Rat) (hc : Un c) : F c hc (q 0) = q (c 0):=by
  refine le_antisymm ?_ ?_
  · exact fun e he=>⟨1,fun n hn=>by
      obtain ⟨m,rfl⟩ : ∃ m,n = m + 1:=⟨n - 1,by omega⟩
      show S c (m + 1) 0 ≤ c 0 + e
      rw [S_zero]
      grind⟩
  · exact fun e he=>⟨1,fun n hn=>by
      obtain ⟨m,rfl⟩ : ∃ m,n = m + 1:=⟨n - 1,by omega⟩
      show c 0 ≤ S c (m + 1) 0 + e
      rw [S_zero]
      grind⟩
theorem S_neg (c : Nat → Rat) (a : Rat) : ∀ n,S (fun k=>-c k) n a = -S c n a
  | 0=>by show (0 : Rat) = -0; grind
  | n + 1=>by
    show S (fun k=>-c k) n a + -c n * tm a n = -(S c n a + c n * tm a n)
    rw [S_neg c a n]
    grind
theorem un_n {c : Nat → Rat} (hc : Un c) : Un (fun k=>-c k):=fun k=>by have:=hc k; constructor <;> grind
theorem F_neg (c : Nat → Rat) (hc : Un c) : ∀ x,F (fun k=>-c k) (un_n hc) x = -F c hc x:=mk_ind fun a=>pt fun n=>S_neg c _ n
def sg : Nat → Rat
  | 0=>1
  | k + 1=>-sg k
theorem tm_flip (a : Rat) : ∀ k,tm (-a) k = sg k * tm a k
  | 0=>by show (1 : Rat) = 1 * 1; grind
  | k + 1=>by
    show tm (-a) k * -a / (k + 1) = -sg k * (tm a k * a / (k + 1))
    rw [tm_flip a k]
    grind
theorem S_flip (c : Nat → Rat) (a : Rat) : ∀ n,S c n (-a) = S (fun k=>sg k * c k) n a
  | 0=>rfl
  | n + 1=>by
    show S c n (-a) + c n * tm (-a) n = S (fun k=>sg k * c k) n a + sg n * c n * tm a n
    rw [S_flip c a n,tm_flip]
    grind
theorem sg_bd : ∀ k,-1 ≤ sg k ∧ sg k ≤ 1
  | 0=>by constructor <;> decide
  | k + 1=>by have:=sg_bd k; show -1 ≤ -sg k ∧ -sg k ≤ 1; constructor <;> grind
theorem un_f {c : Nat → Rat} (hc : Un c) : Un (fun k=>sg k * c k):=fun k=>by
  have:=Bd.mul (sg_bd k).1 (sg_bd k).2 (hc k).1 (hc k).2
  constructor <;> grind
theorem F_flip (c : Nat → Rat) (hc : Un c) : ∀ x,F c hc (-x) = F (fun k=>sg k * c k) (un_f hc) x:=mk_ind fun a=>pt fun n=>S_flip c _ n
theorem F_ext {c d : Nat → Rat} (hc : Un c) (hd : Un d) (h : ∀ k,c k = d k) (x : R) : F c hc x = F d hd x:=by
  have : c = d:=funext h
  subst this
  rfl
theorem ind5 {P : R → R → R → R → R → Prop} (h : ∀ a b c d e,P (mk a) (mk b) (mk c) (mk d) (mk e)) (x y z u v : R) : P x y z u v:=ind4 (P:=fun x y z u=>P x y z u v) (fun a b c d=>mk_ind (P:=fun v=>P (mk a) (mk b) (mk c) (mk d) v) (fun e=>h a b c d e) v) x y z u
theorem ind6 {P : R → R → R → R → R → R → Prop} (h : ∀ a b c d e f,P (mk a) (mk b) (mk c) (mk d) (mk e) (mk f)) (x y z u v w : R) : P x y z u v w:=ind5 (P:=fun x y z u v=>P x y z u v w) (fun a b c d e=>mk_ind (P:=fun w=>P (mk a) (mk b) (mk c) (mk d) (mk e) w) (fun f=>h a b c d e f) w) x y z u v
theorem ind7 {P : R → R → R → R → R → R → R → Prop} (h : ∀ a b c d e f g,P (mk a) (mk b) (mk c) (mk d) (mk e) (mk f) (mk g)) (x y z u v w t : R) : P x y z u v w t:=ind6 (P:=fun x y z u v w=>P x y z u v w t) (fun a b c d e f=>mk_ind (P:=fun t=>P (mk a) (mk b) (mk c) (mk d) (mk e) (mk f) t) (fun g=>h a b c d e f g) t) x y z u v w
theorem hh_nn (h : R) : q 0 ≤ h * h:=sq_nonneg h
theorem Ab.sq {x e : R} (h : Ab x e) : x * x ≤ e * e:=(h.mul h).2
theorem ab_of_le {x e : R} (h0 : q 0 ≤ x) (h : x ≤ e) : Ab x e:=⟨le_trans (neg_nonpos (le_trans h0 h)) h0,h⟩
theorem q_nn {a : Rat} (h : 0 ≤ a) : q 0 ≤ q a:=q_le.2 h
theorem ab_q {a b : Rat} (h1 : -b ≤ a) (h2 : a ≤ b) : Ab (q a) (q b):=⟨by rw [← q_neg]; exact q_le.2 h1,q_le.2 h2⟩
theorem two_sq (x y : R) : (x + y) * (x + y) ≤ q 2 * (x * x) + q 2 * (y * y):=of_sub_nn (by
  have e : q 2 * (x * x) + q 2 * (y * y) - (x + y) * (x + y) = (x - y) * (x - y):=ind2 (P:=fun x y=>q 2 * (x * x) + q 2 * (y * y) - (x + y) * (x + y) = (x - y) * (x - y)) (fun a b=>pt fun n=>by
    show 2 * (a.f n * a.f n) + 2 * (b.f n * b.f n) - (a.f n + b.f n) * (a.f n + b.f n) = (a.f n - b.f n) * (a.f n - b.f n)
    grind) x y
  rw [e]
  exact sq_nonneg _)
structure Sm (P : R → Prop) (f g : R → R) : Prop where
  ex : ∃ B : Rat,0 ≤ B ∧ (∀ x,P x → Ab (f x) (q B)) ∧ (∀ x,P x → Ab (g x) (q B)) ∧ (∀ x h,P x → P (x + h) → Ab (f (x + h) - f x - h * g x) (q B * (h * h))) ∧ ∀ x h,P x → P (x + h) → (f (x + h) - f x) * (f (x + h) - f x) ≤ q B * (h * h)
def Fin (P : R → Prop) : Prop:=∃ D : Rat,0 ≤ D ∧ ∀ x,P x → Ab x (q D)
theorem qb {B C : Rat} (h : B ≤ C) (x : R) : q B * (x * x) ≤ q C * (x * x):=mul_le_mul_r (q_le.2 h) (hh_nn x)
theorem Sm.congr {P : R → Prop} {f g g' : R → R} (h : Sm P f g) (e : ∀ x,P x → g x = g' x) : Sm P f g':=by
  obtain ⟨B,h0,h1,h2,h3,h4⟩:=h.ex
  exact ⟨B,h0,h1,fun x hx=>e x hx ▸ h2 x hx,fun x k hx hk=>e x hx ▸ h3 x k hx hk,h4⟩
theorem Sm.congrf {P : R → Prop} {f f' g : R → R} (h : Sm P f g) (e : ∀ x,P x → f x = f' x) : Sm P f' g:=by
  obtain ⟨B,h0,h1,h2,h3,h4⟩:=h.ex
  refine ⟨B,h0,fun x hx=>e x hx ▸ h1 x hx,h2,fun x k hx hk=>?_,fun x k hx hk=>?_⟩
  · rw [← e x hx,← e _ hk]; exact h3 x k hx hk
  · rw [← e x hx,← e _ hk]; exact h4 x k hx hk
theorem ab_arch (c : R) : ∃ B : Rat,0 ≤ B ∧ Ab c (q B):=by
  obtain ⟨n,h1,h2⟩:=arch c
  exact ⟨n,nat_nn n,h2,h1⟩
theorem Sm.const (P : R → Prop) (c : R) : Sm P (fun _=>c) (fun _=>q 0):=by
  obtain ⟨B,h0,hc⟩:=ab_arch c
  refine ⟨B,h0,fun _ _=>hc,fun _ _=>ab_q (by grind) h0,fun x h _ _=>?_,fun x h _ _=>?_⟩
  · rw [sub_self,mul_zero,sub_self]
    exact ab_of_le (le_refl _) (mul_nonneg (q_nn h0) (hh_nn h))
  · rw [sub_self,zero_mul]
    exact mul_nonneg (q_nn h0) (hh_nn h)
theorem add_sub_l : ∀ x h : R,x + h - x = h:=ind2 fun a b=>pt fun n=>by show a.f n + b.f n - a.f n = b.f n; grind
theorem Sm.id {P : R → Prop} (hP : Fin P) : Sm P (fun x=>x) (fun _=>q 1):=by
  obtain ⟨D,hD,hP⟩:=hP
  refine ⟨D + 1,by grind,fun x hx=>(hP x hx).mono (q_le.2 (by grind)),fun _ _=>ab_q (by grind) (by grind),fun x h _ _=>?_,fun x h _ _=>?_⟩
  · show Ab (x + h - x - h * q 1) _
    rw [add_sub_l,mul_one,sub_self]
    exact ab_of_le (le_refl _) (mul_nonneg (q_nn (by grind)) (hh_nn h))
  · show (x + h - x) * (x + h - x) ≤ _
    rw [add_sub_l]
    have:=qb (show (1 : Rat) ≤ D + 1 by grind) h
    rwa [one_mul] at this
theorem Sm.add {P : R → Prop} {f g k l : R → R} (h1 : Sm P f g) (h2 : Sm P k l) : Sm P (fun x=>f x + k x) (fun x=>g x + l x):=by
  obtain ⟨B,b0,b1,b2,b3,b4⟩:=h1.ex
  obtain ⟨C,c0,c1,c2,c3,c4⟩:=h2.ex
  refine ⟨2 * B + 2 * C,by grind,fun x hx=>((b1 x hx).add (c1 x hx)).mono (by rw [← q_add]; exact q_le.2 (by grind)),fun x hx=>((b2 x hx).add (c2 x hx)).mono (by rw [← q_add]; exact q_le.2 (by grind)),fun x h hx hh=>?_,fun x h hx hh=>?_⟩
  · have e : f (x + h) + k (x + h) - (f x + k x) - h * (g x + l x) = (f (x + h) - f x - h * g x) + (k (x + h) - k x - h * l x):=ind7 (P:=fun f1 k1 f0 k0 h g l=>f1 + k1 - (f0 + k0) - h * (g + l) = (f1 - f0 - h * g) + (k1 - k0 - h * l)) (fun f1 k1 f0 k0 h g l=>pt fun n=>by
      show f1.f n + k1.f n - (f0.f n + k0.f n) - h.f n * (g.f n + l.f n) = (f1.f n - f0.f n - h.f n * g.f n) + (k1.f n - k0.f n - h.f n * l.f n)
      grind) (f (x + h)) (k (x + h)) (f x) (k x) h (g x) (l x)
    show Ab (f (x + h) + k (x + h) - (f x + k x) - h * (g x + l x)) _
    rw [e]
    refine ((b3 x h hx hh).add (c3 x h hx hh)).mono ?_
    rw [← add_mul,← q_add]
    exact qb (by grind) h
  · have e : f (x + h) + k (x + h) - (f x + k x) = (f (x + h) - f x) + (k (x + h) - k x):=ind4 (P:=fun f1 k1 f0 k0=>f1 + k1 - (f0 + k0) = (f1 - f0) + (k1 - k0)) (fun f1 k1 f0 k0=>pt fun n=>by
      show f1.f n + k1.f n - (f0.f n + k0.f n) = (f1.f n - f0.f n) + (k1.f n - k0.f n)
      grind) (f (x + h)) (k (x + h)) (f x) (k x)
    show (f (x + h) + k (x + h) - (f x + k x)) * (f (x + h) + k (x + h) - (f x + k x)) ≤ _
    rw [e]
    refine le_trans (two_sq _ _) (le_trans (add_le_add (mul_le_mul_l (b4 x h hx hh) (q_nn (by decide))) (mul_le_mul_l (c4 x h hx hh) (q_nn (by decide)))) ?_)
    rw [← mul_assoc,← q_mul,← mul_assoc (q 2),← q_mul,← add_mul,← q_add]
    exact le_refl _
theorem Sm.neg {P : R → Prop} {f g : R → R} (h1 : Sm P f g) : Sm P (fun x=>-f x) (fun x=>-g x):=by
  obtain ⟨B,b0,b1,b2,b3,b4⟩:=h1.ex
  refine ⟨B,b0,fun x hx=>(b1 x hx).neg,fun x hx=>(b2 x hx).neg,fun x h hx hh=>?_,fun x h hx hh=>?_⟩
  · have e : -f (x + h) - -f x - h * -g x = -(f (x + h) - f x - h * g x):=ind4 (P:=fun f1 f0 h g=>-f1 - -f0 - h * -g = -(f1 - f0 - h * g)) (fun f1 f0 h g=>pt fun n=>by
      show -f1.f n - -f0.f n - h.f n * -g.f n = -(f1.f n - f0.f n - h.f n * g.f n)
      grind) (f (x + h)) (f x) h (g x)
    show Ab (-f (x + h) - -f x - h * -g x) _
    rw [e]
    exact (b3 x h hx hh).neg
  · have e : (-f (x + h) - -f x) * (-f (x + h) - -f x) = (f (x + h) - f x) * (f (x + h) - f x):=ind2 (P:=fun f1 f0=>(-f1 - -f0) * (-f1 - -f0) = (f1 - f0) * (f1 - f0)) (fun f1 f0=>pt fun n=>by
      show (-f1.f n - -f0.f n) * (-f1.f n - -f0.f n) = (f1.f n - f0.f n) * (f1.f n - f0.f n)
      grind) (f (x + h)) (f x)
    show (-f (x + h) - -f x) * (-f (x + h) - -f x) ≤ _
    rw [e]
    exact b4 x h hx hh
theorem Sm.sub {P : R → Prop} {f g k l : R → R} (h1 : Sm P f g) (h2 : Sm P k l) : Sm P (fun x=>f x - k x) (fun x=>g x - l x):=((h1.add h2.neg).congrf fun x _=>add_neg _ _).congr fun x _=>add_neg _ _
theorem am_gm (h k : R) : Ab (h * k) (h * h + k * k):=by
  have e1 : h * h + k * k - h * k = q (3/4) * ((h - k) * (h - k)) + q (1/4) * ((h + k) * (h + k)):=ind2 (P:=fun h k=>h * h + k * k - h * k = q (3/4) * ((h - k) * (h - k)) + q (1/4) * ((h + k) * (h + k))) (fun a b=>pt fun n=>by
    show a.f n * a.f n + b.f n * b.f n - a.f n * b.f n = 3/4 * ((a.f n - b.f n) * (a.f n - b.f n)) + 1/4 * ((a.f n + b.f n) * (a.f n + b.f n))
    grind) h k
  have e2 : h * k - -(h * h + k * k) = q (1/4) * ((h - k) * (h - k)) + q (3/4) * ((h + k) * (h + k)):=ind2 (P:=fun h k=>h * k - -(h * h + k * k) = q (1/4) * ((h - k) * (h - k)) + q (3/4) * ((h + k) * (h + k))) (fun a b=>pt fun n=>by
    show a.f n * b.f n - -(a.f n * a.f n + b.f n * b.f n) = 1/4 * ((a.f n - b.f n) * (a.f n - b.f n)) + 3/4 * ((a.f n + b.f n) * (a.f n + b.f n))
    grind) h k
  refine ⟨of_sub_nn ?_,of_sub_nn ?_⟩
  · rw [e2]
    exact add_nonneg (mul_nonneg (q_nn (by grind)) (sq_nonneg _)) (mul_nonneg (q_nn (by grind)) (sq_nonneg _))
  · rw [e1]
    exact add_nonneg (mul_nonneg (q_nn (by grind)) (sq_nonneg _)) (mul_nonneg (q_nn (by grind)) (sq_nonneg _))
theorem Sm.two {P : R → Prop} {f g k l : R → R} (h1 : Sm P f g) (h2 : Sm P k l) : ∃ M : Rat,1 ≤ M ∧ (∀ x,P x → Ab (f x) (q M) ∧ Ab (g x) (q M) ∧ Ab (k x) (q M) ∧ Ab (l x) (q M)) ∧
    ∀ x h,P x → P (x + h) → Ab (f (x + h) - f x - h * g x) (q M * (h * h)) ∧ (f (x + h) - f x) * (f (x + h) - f x) ≤ q M * (h * h) ∧ Ab (k (x + h) - k x - h * l x) (q M * (h * h)) ∧ (k (x + h) - k x) * (k (x + h) - k x) ≤ q M * (h * h):=by
  obtain ⟨B,b0,b1,b2,b3,b4⟩:=h1.ex
  obtain ⟨C,c0,c1,c2,c3,c4⟩:=h2.ex
  have hB : B ≤ B + C + 1:=by grind
  have hC : C ≤ B + C + 1:=by grind
  exact ⟨B + C + 1,by grind,fun x hx=>⟨(b1 x hx).mono (q_le.2 hB),(b2 x hx).mono (q_le.2 hB),(c1 x hx).mono (q_le.2 hC),(c2 x hx).mono (q_le.2 hC)⟩,
    fun x h hx hh=>⟨(b3 x h hx hh).mono (qb hB h),le_trans (b4 x h hx hh) (qb hB h),(c3 x h hx hh).mono (qb hC h),le_trans (c4 x h hx hh) (qb hC h)⟩⟩
theorem pows {M : Rat} (h : 1 ≤ M) : M ≤ M * M ∧ M * M ≤ M * M * M ∧ M * M * M ≤ M * M * (M * M):=by
  have h0:=Rat.mul_nonneg (show 0 ≤ M by grind) (show 0 ≤ M - 1 by grind)
  have h1:=Rat.mul_nonneg (show 0 ≤ M * M - M by grind) (show 0 ≤ M by grind)
  have h2:=Rat.mul_nonneg (show 0 ≤ M * M * M - M * M by grind) (show 0 ≤ M by grind)
  refine ⟨by grind,by grind,by grind⟩
theorem sq_mul_le {x y a b : R} (h1 : x * x ≤ a) (h2 : y * y ≤ b) (ha : q 0 ≤ a) : x * y * (x * y) ≤ a * b:=by
  have e : x * y * (x * y) = x * x * (y * y):=by rw [mul_assoc,mul_assoc,mul_left_comm y]
  rw [e]
  exact le_trans (mul_le_mul_r h1 (sq_nonneg y)) (mul_le_mul_l h2 ha)
theorem Sm.mul {P : R → Prop} {f g k l : R → R} (h1 : Sm P f g) (h2 : Sm P k l) : Sm P (fun x=>f x * k x) (fun x=>g x * k x + f x * l x):=by
  obtain ⟨M,hM,bd,er⟩:=h1.two h2
  obtain ⟨m1,m2,m3⟩:=pows hM
  refine ⟨8 * (M * M * (M * M)),by grind,fun x hx=>?_,fun x hx=>?_,fun x h hx hh=>?_,fun x h hx hh=>?_⟩
  · obtain ⟨b1,b2,c1,c2⟩:=bd x hx
    exact (b1.mul c1).mono (by rw [← q_mul]; exact q_le.2 (by grind))
  · obtain ⟨b1,b2,c1,c2⟩:=bd x hx
    exact ((b2.mul c1).add (b1.mul c2)).mono (by rw [← q_mul,← q_add]; exact q_le.2 (by grind))
  · obtain ⟨b1,b2,c1,c2⟩:=bd x hx
    obtain ⟨_,_,d1,_⟩:=bd _ hh
    obtain ⟨b3,b4,c3,c4⟩:=er x h hx hh
    have e : f (x + h) * k (x + h) - f x * k x - h * (g x * k x + f x * l x) = (f (x + h) - f x - h * g x) * k (x + h) + g x * (h * (k (x + h) - k x)) + f x * (k (x + h) - k x - h * l x):=ind7 (P:=fun f1 k1 f0 k0 h g l=>f1 * k1 - f0 * k0 - h * (g * k0 + f0 * l) = (f1 - f0 - h * g) * k1 + g * (h * (k1 - k0)) + f0 * (k1 - k0 - h * l)) (fun f1 k1 f0 k0 h g l=>pt fun n=>by
      show f1.f n * k1.f n - f0.f n * k0.f n - h.f n * (g.f n * k0.f n + f0.f n * l.f n) = (f1.f n - f0.f n - h.f n * g.f n) * k1.f n + g.f n * (h.f n * (k1.f n - k0.f n)) + f0.f n * (k1.f n - k0.f n - h.f n * l.f n)
      grind) (f (x + h)) (k (x + h)) (f x) (k x) h (g x) (l x)
    show Ab (f (x + h) * k (x + h) - f x * k x - h * (g x * k x + f x * l x)) _
    rw [e]
    have p1:=b3.mul d1
    have p2:=b2.mul ((am_gm h (k (x + h) - k x)).mono (add_le_add (le_refl _) c4))
    have p3:=b1.mul c3
    refine ((p1.add p2).add p3).mono ?_
    have e2 : q M * (h * h) * q M + q M * (h * h + q M * (h * h)) + q M * (q M * (h * h)) = q (3 * (M * M) + M) * (h * h):=mk_ind (P:=fun h=>q M * (h * h) * q M + q M * (h * h + q M * (h * h)) + q M * (q M * (h * h)) = q (3 * (M * M) + M) * (h * h)) (fun h=>pt fun n=>by
      show M * (h.f n * h.f n) * M + M * (h.f n * h.f n + M * (h.f n * h.f n)) + M * (M * (h.f n * h.f n)) = (3 * (M * M) + M) * (h.f n * h.f n)
      grind) h
    rw [e2]
    exact qb (by grind) h
  · obtain ⟨b1,b2,c1,c2⟩:=bd x hx
    obtain ⟨_,_,d1,_⟩:=bd _ hh
    obtain ⟨b3,b4,c3,c4⟩:=er x h hx hh
    have e : f (x + h) * k (x + h) - f x * k x = (f (x + h) - f x) * k (x + h) + f x * (k (x + h) - k x):=ind4 (P:=fun f1 k1 f0 k0=>f1 * k1 - f0 * k0 = (f1 - f0) * k1 + f0 * (k1 - k0)) (fun f1 k1 f0 k0=>pt fun n=>by
      show f1.f n * k1.f n - f0.f n * k0.f n = (f1.f n - f0.f n) * k1.f n + f0.f n * (k1.f n - k0.f n)
      grind) (f (x + h)) (k (x + h)) (f x) (k x)
    show (f (x + h) * k (x + h) - f x * k x) * (f (x + h) * k (x + h) - f x * k x) ≤ _
    rw [e]
    have hM0 : q 0 ≤ q M * (h * h):=mul_nonneg (q_nn (by grind)) (hh_nn h)
    have p1:=sq_mul_le b4 d1.sq hM0
    have p2:=sq_mul_le b1.sq c4 (by rw [← q_mul]; exact q_nn (by grind))
    refine le_trans (two_sq _ _) (le_trans (add_le_add (mul_le_mul_l p1 (q_nn (by decide))) (mul_le_mul_l p2 (q_nn (by decide)))) ?_)
    have e2 : q 2 * (q M * (h * h) * (q M * q M)) + q 2 * (q M * q M * (q M * (h * h))) = q (4 * (M * M * M)) * (h * h):=mk_ind (P:=fun h=>q 2 * (q M * (h * h) * (q M * q M)) + q 2 * (q M * q M * (q M * (h * h))) = q (4 * (M * M * M)) * (h * h)) (fun h=>pt fun n=>by
      show 2 * (M * (h.f n * h.f n) * (M * M)) + 2 * (M * M * (M * (h.f n * h.f n))) = (4 * (M * M * M)) * (h.f n * h.f n)
      grind) h
    rw [e2]
    exact qb (by grind) h
theorem Sm.comp {P Q : R → Prop} {f g k l : R → R} (h1 : Sm Q f g) (h2 : Sm P k l) (hQ : ∀ x,P x → Q (k x)) : Sm P (fun x=>f (k x)) (fun x=>g (k x) * l x):=by
  obtain ⟨B,b0,b1,b2,b3,b4⟩:=h1.ex
  obtain ⟨C,c0,c1,c2,c3,c4⟩:=h2.ex
  have bc:=Rat.mul_nonneg b0 c0
  have ek : ∀ x h,k x + (k (x + h) - k x) = k (x + h):=fun x h=>by rw [add_comm,sub_add_cancel]
  refine ⟨2 * (B * C) + B,by grind,fun x hx=>(b1 _ (hQ x hx)).mono (q_le.2 (by grind)),fun x hx=>((b2 _ (hQ x hx)).mul (c2 x hx)).mono (by rw [← q_mul]; exact q_le.2 (by grind)),fun x h hx hh=>?_,fun x h hx hh=>?_⟩
  · have r:=b3 (k x) (k (x + h) - k x) (hQ x hx) (by rw [ek]; exact hQ _ hh)
    rw [ek] at r
    have r2:=r.mono (mul_le_mul_l (c4 x h hx hh) (q_nn b0))
    have r3:=(b2 _ (hQ x hx)).mul (c3 x h hx hh)
    have e : f (k (x + h)) - f (k x) - h * (g (k x) * l x) = f (k (x + h)) - f (k x) - (k (x + h) - k x) * g (k x) + g (k x) * (k (x + h) - k x - h * l x):=ind7 (P:=fun f1 f0 k1 k0 h g l=>f1 - f0 - h * (g * l) = f1 - f0 - (k1 - k0) * g + g * (k1 - k0 - h * l)) (fun f1 f0 k1 k0 h g l=>pt fun n=>by
      show f1.f n - f0.f n - h.f n * (g.f n * l.f n) = f1.f n - f0.f n - (k1.f n - k0.f n) * g.f n + g.f n * (k1.f n - k0.f n - h.f n * l.f n)
      grind) (f (k (x + h))) (f (k x)) (k (x + h)) (k x) h (g (k x)) (l x)
    show Ab (f (k (x + h)) - f (k x) - h * (g (k x) * l x)) _
    rw [e]
    refine (r2.add r3).mono ?_
    rw [← mul_assoc (q B) (q C) (h * h),← q_mul,← add_mul,← q_add]
    exact qb (by grind) h
  · have r:=b4 (k x) (k (x + h) - k x) (hQ x hx) (by rw [ek]; exact hQ _ hh)
    rw [ek] at r
    refine le_trans r (le_trans (mul_le_mul_l (c4 x h hx hh) (q_nn b0)) ?_)
    rw [← mul_assoc,← q_mul]
    exact qb (by grind) h
theorem Sm.inv {P : R → Prop} {f g k : R → R} (h1 : Sm P f g) (hk : ∀ x,P x → f x * k x = q 1) (hb : ∃ C : Rat,0 ≤ C ∧ ∀ x,P x → Ab (k x) (q C)) : Sm P k (fun x=>-(k x * k x * g x)):=by
  obtain ⟨B,b0,b1,b2,b3,b4⟩:=h1.ex
  obtain ⟨C,c0,c1⟩:=hb
  obtain ⟨M,hM,hBM,hCM⟩ : ∃ M : Rat,1 ≤ M ∧ B ≤ M ∧ C ≤ M:=⟨B + C + 1,by grind,by grind,by grind⟩
  obtain ⟨m1,m2,m3⟩:=pows hM
  have m4:=Rat.mul_nonneg (show 0 ≤ M * M * (M * M) - M * M * M by grind) (show 0 ≤ M by grind)
  have c2 : ∀ x,P x → Ab (k x) (q M):=fun x hx=>(c1 x hx).mono (q_le.2 hCM)
  have dif : ∀ x h,P x → P (x + h) → k (x + h) - k x = -(k (x + h) * k x * (f (x + h) - f x)):=fun x h hx hh=>by
    have e1:=hk x hx
    have e2:=hk _ hh
    have : -(k (x + h) * k x * (f (x + h) - f x)) = k (x + h) * (f x * k x) - k x * (f (x + h) * k (x + h)):=ind4 (P:=fun k1 k0 f1 f0=>-(k1 * k0 * (f1 - f0)) = k1 * (f0 * k0) - k0 * (f1 * k1)) (fun k1 k0 f1 f0=>pt fun n=>by
      show -(k1.f n * k0.f n * (f1.f n - f0.f n)) = k1.f n * (f0.f n * k0.f n) - k0.f n * (f1.f n * k1.f n)
      grind) (k (x + h)) (k x) (f (x + h)) (f x)
    rw [this,e1,e2,mul_one,mul_one]
  refine ⟨2 * (M * M * (M * M) * M),by grind,fun x hx=>(c2 x hx).mono (q_le.2 (by grind)),fun x hx=>((((c2 x hx).mul (c2 x hx)).mul ((b2 x hx).mono (q_le.2 hBM))).neg).mono (by rw [← q_mul,← q_mul]; exact q_le.2 (by grind)),fun x h hx hh=>?_,fun x h hx hh=>?_⟩
  · have e : k (x + h) - k x - h * -(k x * k x * g x) = -(k x * k x * (f (x + h) - f x - h * g x)) + k x * (k (x + h) * k x * ((f (x + h) - f x) * (f (x + h) - f x))):=by
      have d:=dif x h hx hh
      have t : k (x + h) - k x - h * -(k x * k x * g x) = -(k x * k x * (f (x + h) - f x - h * g x)) + (k (x + h) - k x) + k x * k x * (f (x + h) - f x):=ind6 (P:=fun k1 k0 f1 f0 h g=>k1 - k0 - h * -(k0 * k0 * g) = -(k0 * k0 * (f1 - f0 - h * g)) + (k1 - k0) + k0 * k0 * (f1 - f0)) (fun k1 k0 f1 f0 h g=>pt fun n=>by
        show k1.f n - k0.f n - h.f n * -(k0.f n * k0.f n * g.f n) = -(k0.f n * k0.f n * (f1.f n - f0.f n - h.f n * g.f n)) + (k1.f n - k0.f n) + k0.f n * k0.f n * (f1.f n - f0.f n)
        grind) (k (x + h)) (k x) (f (x + h)) (f x) h (g x)
      have t2 : k x * (k (x + h) * k x * ((f (x + h) - f x) * (f (x + h) - f x))) = -(k x * (f (x + h) - f x) * (-(k (x + h) * k x * (f (x + h) - f x)))):=ind3 (P:=fun k1 k0 d=>k0 * (k1 * k0 * (d * d)) = -(k0 * d * (-(k1 * k0 * d)))) (fun k1 k0 d=>pt fun n=>by
        show k0.f n * (k1.f n * k0.f n * (d.f n * d.f n)) = -(k0.f n * d.f n * (-(k1.f n * k0.f n * d.f n)))
        grind) (k (x + h)) (k x) (f (x + h) - f x)
      rw [t,t2,← d]
      have t3 : -(k x * (f (x + h) - f x) * (k (x + h) - k x)) = k x * k x * (f (x + h) - f x) + -(k (x + h) * k x * (f (x + h) - f x)):=ind3 (P:=fun k1 k0 d=>-(k0 * d * (k1 - k0)) = k0 * k0 * d + -(k1 * k0 * d)) (fun k1 k0 d=>pt fun n=>by
        show -(k0.f n * d.f n * (k1.f n - k0.f n)) = k0.f n * k0.f n * d.f n + -(k1.f n * k0.f n * d.f n)
        grind) (k (x + h)) (k x) (f (x + h) - f x)
      rw [t3,← d,add_assoc,add_comm (k (x + h) - k x)]
    rw [e]
    have p1:=(((c2 x hx).mul (c2 x hx)).mul ((b3 x h hx hh).mono (qb hBM h))).neg
    have p2:=(c2 x hx).mul (((c2 _ hh).mul (c2 x hx)).mul (ab_of_le (sq_nonneg _) (le_trans (b4 x h hx hh) (qb hBM h))))
    refine (p1.add p2).mono ?_
    have e2 : q M * q M * (q M * (h * h)) + q M * (q M * q M * (q M * (h * h))) = q (M * M * M + M * M * (M * M)) * (h * h):=mk_ind (P:=fun h=>q M * q M * (q M * (h * h)) + q M * (q M * q M * (q M * (h * h))) = q (M * M * M + M * M * (M * M)) * (h * h)) (fun h=>pt fun n=>by
      show M * M * (M * (h.f n * h.f n)) + M * (M * M * (M * (h.f n * h.f n))) = (M * M * M + M * M * (M * M)) * (h.f n * h.f n)
      grind) h
    rw [e2]
    exact qb (by grind) h
  · rw [dif x h hx hh,neg_mul,mul_neg,neg_neg]
    have p:=sq_mul_le (((c2 _ hh).mul (c2 x hx)).sq) (le_trans (b4 x h hx hh) (qb hBM h)) (by rw [← q_mul,← q_mul]; exact q_nn (by have:=Rat.mul_nonneg (show 0 ≤ M * M by grind) (show 0 ≤ M * M by grind); grind))
    refine le_trans p ?_
    rw [← mul_assoc,← q_mul,← q_mul,← q_mul]
    exact qb (by grind) h
theorem Sm.mono {P : R → Prop} {f g : R → R} (hf : Sm P f g) {a b : R} (hab : a ≤ b) (hP : ∀ x,a ≤ x → x ≤ b → P x) (hg : ∀ x,a ≤ x → x ≤ b → q 0 ≤ g x) : f a ≤ f b:=by
  obtain ⟨B,b0,b1,b2,b3,b4⟩:=hf.ex
  refine mv f a b B 1 b0 (by decide) hab fun x h hx h0 h1 hb=>?_
  have hxb : x ≤ b:=le_trans (by have:=add_le_add (le_refl x) h0; rwa [add_zero] at this) hb
  have hax : a ≤ x + h:=le_trans hx (by have:=add_le_add (le_refl x) h0; rwa [add_zero] at this)
  have r:=(b3 x h (hP x hx hxb) (hP _ hax hb)).1
  have g0:=mul_nonneg h0 (hg x hx hxb)
  have : q 0 ≤ (f (x + h) - f x - h * g x - -(q B * (h * h))) + h * g x:=add_nonneg (sub_nn r) g0
  refine of_sub_nn ?_
  have e : f (x + h) + q B * (h * h) - f x = (f (x + h) - f x - h * g x - -(q B * (h * h))) + h * g x:=ind4 (P:=fun f1 f0 y z=>f1 + y - f0 = (f1 - f0 - z - -y) + z) (fun f1 f0 y z=>pt fun n=>by
    show f1.f n + y.f n - f0.f n = (f1.f n - f0.f n - z.f n - -y.f n) + z.f n
    grind) (f (x + h)) (f x) (q B * (h * h)) (h * g x)
  rw [e]
  exact this
theorem Sm.const_of {P : R → Prop} {f g : R → R} (hf : Sm P f g) {a b : R} (hab : a ≤ b) (hP : ∀ x,a ≤ x → x ≤ b → P x) (hg : ∀ x,a ≤ x → x ≤ b → g x = q 0) : f a = f b:=by
  refine le_antisymm (hf.mono hab hP fun x h1 h2=>by rw [hg x h1 h2]; exact le_refl _) ?_
  have:=hf.neg.mono hab hP fun x h1 h2=>by rw [hg x h1 h2]; exact neg_nonneg (le_refl _)
  have:=neg_le_neg this
  rwa [neg_neg,neg_neg] at this
def cs : Nat → Rat × Rat
  | 0=>(1,0)
  | k + 1=>(-(cs k).2,(cs k).1)
def cE : Nat → Rat:=fun _=>1
def cC : Nat → Rat:=fun k=>(cs k).1
def cS : Nat → Rat:=fun k=>(cs k).2
theorem cs_bd : ∀ k,(-1 ≤ (cs k).1 ∧ (cs k).1 ≤ 1) ∧ -1 ≤ (cs k).2 ∧ (cs k).2 ≤ 1
  | 0=>by
    show ((-1 : Rat) ≤ 1 ∧ (1 : Rat) ≤ 1) ∧ (-1 : Rat) ≤ 0 ∧ (0 : Rat) ≤ 1
    decide
  | k + 1=>by
    have:=cs_bd k
    show (-1 ≤ -(cs k).2 ∧ -(cs k).2 ≤ 1) ∧ -1 ≤ (cs k).1 ∧ (cs k).1 ≤ 1
    refine ⟨⟨by grind,by grind⟩,by grind,by grind⟩
theorem uE : Un cE:=fun k=>by show (-1 : Rat) ≤ 1 ∧ (1 : Rat) ≤ 1; decide
theorem uC : Un cC:=fun k=>(cs_bd k).1
theorem uS : Un cS:=fun k=>(cs_bd k).2
def ex : R → R:=F cE uE
def sn : R → R:=F cS uS
def cn : R → R:=F cC uC
theorem sg_cs : ∀ k,sg k * (cs k).1 = (cs k).1 ∧ sg k * (cs k).2 = -(cs k).2
  | 0=>by
    show (1 : Rat) * 1 = 1 ∧ (1 : Rat) * 0 = -0
    constructor <;> grind
  | k + 1=>by
    have:=sg_cs k
    show -sg k * -(cs k).2 = -(cs k).2 ∧ -sg k * (cs k).1 = -(cs k).1
    constructor <;> grind
theorem cn_neg (x : R) : cn (-x) = cn x:=by
  unfold cn
  rw [F_flip]
  exact F_ext _ _ (fun k=>(sg_cs k).1) x
theorem sn_neg (x : R) : sn (-x) = -sn x:=by
  unfold sn
  rw [F_flip,← F_neg]
  exact F_ext _ _ (fun k=>(sg_cs k).2) x
theorem cn_zero : cn (q 0) = q 1:=F_zero cC uC
theorem sn_zero : sn (q 0) = q 0:=F_zero cS uS
def Up (A : Rat) : R → Prop:=fun x=>Ab x (q A)
theorem up_fin {A : Rat} (h : 0 ≤ A) : Fin (Up A):=⟨A,h,fun x hx=>hx⟩
theorem F_sm (c : Nat → Rat) (hc : Un c) (A : Rat) (hA : 0 ≤ A) : Sm (Up A) (F c hc) (F (fun k=>c (k + 1)) (un_s hc)):=by
  obtain ⟨B1,p1,h1⟩:=F_bd c hc A hA
  obtain ⟨B2,p2,h2⟩:=F_bd _ (un_s hc) A hA
  obtain ⟨B3,p3,h3⟩:=F_sec c hc A hA
  have t1:=Rat.mul_nonneg p3 (Rat.mul_nonneg p3 (Rat.mul_nonneg hA hA))
  have t2:=Rat.mul_nonneg p2 p2
  refine ⟨B1 + B2 + B3 + 2 * (B2 * B2) + 8 * (B3 * (B3 * (A * A))),by grind,fun x hx=>(h1 x hx).mono (q_le.2 (by grind)),fun x hx=>(h2 x hx).mono (q_le.2 (by grind)),fun x h hx hh=>(h3 x h hx hh).mono (qb (by grind) h),fun x h hx hh=>?_⟩
  have hb : Ab h (q (2 * A)):=by
    have:=(hh : Ab (x + h) (q A)).sub hx
    rw [add_sub_l,← q_add] at this
    exact this.mono (q_le.2 (by grind))
  have v:=h3 x h hx hh
  have g:=h2 x hx
  obtain ⟨w,hw⟩ : ∃ w,w = F c hc (x + h) - F c hc x - h * F (fun k=>c (k + 1)) (un_s hc) x:=⟨_,rfl⟩
  rw [← hw] at v
  have e : F c hc (x + h) - F c hc x = w + h * F (fun k=>c (k + 1)) (un_s hc) x:=by rw [hw,sub_add_cancel]
  rw [e]
  refine le_trans (two_sq _ _) ?_
  have s1:=v.sq
  have s2:=sq_mul_le (le_refl (h * h)) g.sq (hh_nn h)
  have s3 : q B3 * (h * h) * (q B3 * (h * h)) ≤ q (4 * (B3 * (B3 * (A * A)))) * (h * h):=by
    have e3 : q B3 * (h * h) * (q B3 * (h * h)) = q (B3 * B3) * (h * h) * (h * h):=mk_ind (P:=fun h=>q B3 * (h * h) * (q B3 * (h * h)) = q (B3 * B3) * (h * h) * (h * h)) (fun h=>pt fun n=>by
      show B3 * (h.f n * h.f n) * (B3 * (h.f n * h.f n)) = B3 * B3 * (h.f n * h.f n) * (h.f n * h.f n)
      grind) h
    rw [e3]
    refine mul_le_mul_r (le_trans (mul_le_mul_l hb.sq (q_nn (Rat.mul_nonneg p3 p3))) ?_) (hh_nn h)
    rw [← q_mul,← q_mul]
    exact q_le.2 (by grind)
  refine le_trans (add_le_add (mul_le_mul_l (le_trans s1 s3) (q_nn (by decide))) (mul_le_mul_l s2 (q_nn (by decide)))) ?_
  have e4 : q 2 * (q (4 * (B3 * (B3 * (A * A)))) * (h * h)) + q 2 * (h * h * (q B2 * q B2)) = q (8 * (B3 * (B3 * (A * A))) + 2 * (B2 * B2)) * (h * h):=mk_ind (P:=fun h=>q 2 * (q (4 * (B3 * (B3 * (A * A)))) * (h * h)) + q 2 * (h * h * (q B2 * q B2)) = q (8 * (B3 * (B3 * (A * A))) + 2 * (B2 * B2)) * (h * h)) (fun h=>pt fun n=>by
    show 2 * (4 * (B3 * (B3 * (A * A))) * (h.f n * h.f n)) + 2 * (h.f n * h.f n * (B2 * B2)) = (8 * (B3 * (B3 * (A * A))) + 2 * (B2 * B2)) * (h.f n * h.f n)
    grind) h
  rw [e4]
  exact qb (by grind) h
theorem sn_sm {A : Rat} (hA : 0 ≤ A) : Sm (Up A) sn cn:=F_sm cS uS A hA
theorem cn_sm {A : Rat} (hA : 0 ≤ A) : Sm (Up A) cn (fun x=>-sn x):=(F_sm cC uC A hA).congr fun x _=>by
  rw [show -sn x = F (fun k=>-cS k) (un_n uS) x from (F_neg cS uS x).symm]
  exact F_ext _ _ (fun k=>rfl) x
theorem rev_sm {A : Rat} (hA : 0 ≤ A) (c : R) : Sm (Up A) (fun t=>c - t) (fun _=>-q 1):=
  ((Sm.const (Up A) c).sub (Sm.id (up_fin hA))).congr fun x _=>by rw [zero_sub]
theorem dom (x y : R) : ∃ A : Rat,0 ≤ A ∧ Ab x (q A) ∧ ∀ t,Ab t (q A) → Ab (y - t) (q (2 * A)):=by
  obtain ⟨a,a0,ha⟩:=ab_arch x
  obtain ⟨b,b0,hb⟩:=ab_arch y
  refine ⟨a + b,by grind,ha.mono (q_le.2 (by grind)),fun t ht=>((hb.sub ht).mono ?_)⟩
  rw [← q_add]
  exact q_le.2 (by grind)
theorem const_zero {A : Rat} {f g : R → R} (hf : Sm (Up A) f g) (hg : ∀ x,g x = q 0) {x : R} (hx : Ab x (q A)) : f x = f (q 0):=by
  have hA:=hx.nn
  have h0 : Ab (q 0) (q A):=ab_of_le (le_refl _) hA
  rcases le_total (q 0) x with h | h
  · exact (hf.const_of h (fun y h1 h2=>ab_of_le h1 (le_trans h2 hx.2)) (fun y _ _=>hg y)).symm
  · exact hf.const_of h (fun y h1 h2=>⟨le_trans hx.1 h1,le_trans h2 hA⟩) (fun y _ _=>hg y)
theorem sn_add (x y : R) : sn (x + y) = sn x * cn y + cn x * sn y:=by
  obtain ⟨A,hA,hx,hd⟩:=dom x (x + y)
  have h2 : 0 ≤ 2 * A:=by grind
  have s:=((sn_sm hA).mul ((cn_sm h2).comp (rev_sm hA (x + y)) hd)).add ((cn_sm hA).mul ((sn_sm h2).comp (rev_sm hA (x + y)) hd))
  have:=const_zero s (fun t=>by
    generalize sn t = a
    generalize cn t = b
    generalize sn (x + y - t) = c
    generalize cn (x + y - t) = d
    exact ind4 (P:=fun a b c d=>b * d + a * (-c * -q 1) + (-a * c + b * (d * -q 1)) = q 0) (fun a b c d=>pt fun n=>by
      show b.f n * d.f n + a.f n * (-c.f n * -1) + (-a.f n * c.f n + b.f n * (d.f n * -1)) = 0
      grind) a b c d) hx
  rw [sn_zero,cn_zero,one_mul,zero_mul,zero_add,sub_zero,add_sub_l] at this
  exact this.symm
theorem cn_add (x y : R) : cn (x + y) = cn x * cn y - sn x * sn y:=by
  obtain ⟨A,hA,hx,hd⟩:=dom x (x + y)
  have h2 : 0 ≤ 2 * A:=by grind
  have s:=((cn_sm hA).mul ((cn_sm h2).comp (rev_sm hA (x + y)) hd)).sub ((sn_sm hA).mul ((sn_sm h2).comp (rev_sm hA (x + y)) hd))
  have:=const_zero s (fun t=>by
    generalize sn t = a
    generalize cn t = b
    generalize sn (x + y - t) = c
    generalize cn (x + y - t) = d
    exact ind4 (P:=fun a b c d=>-a * d + b * (-c * -q 1) - (b * c + a * (d * -q 1)) = q 0) (fun a b c d=>pt fun n=>by
      show -a.f n * d.f n + b.f n * (-c.f n * -1) - (b.f n * c.f n + a.f n * (d.f n * -1)) = 0
      grind) a b c d) hx
  rw [sn_zero,cn_zero,one_mul,zero_mul,sub_zero,sub_zero,add_sub_l] at this
  exact this.symm
theorem pyth (x : R) : cn x * cn x + sn x * sn x = q 1:=by
  have h:=cn_add x (-x)
  rw [cn_neg,sn_neg,mul_neg,sub_neg,add_neg,sub_self,cn_zero] at h
  exact h.symm
theorem sn_sub (x y : R) : sn (x - y) = sn x * cn y - cn x * sn y:=by rw [← add_neg,sn_add,cn_neg,sn_neg,mul_neg,add_neg]
theorem cn_sub (x y : R) : cn (x - y) = cn x * cn y + sn x * sn y:=by rw [← add_neg,cn_add,cn_neg,sn_neg,mul_neg,sub_neg]
theorem f_add (a b : CS) (n : Nat) : (a.add b).f n = a.f n + b.f n:=rfl
theorem f_sub (a b : CS) (n : Nat) : (a.sub b).f n = a.f n - b.f n:=rfl
theorem f_neg (a : CS) (n : Nat) : (a.neg).f n = -a.f n:=rfl
theorem f_mul (a b : CS) (n : Nat) : (a.mul b).f n = a.f n * b.f n:=rfl
theorem f_q (r : Rat) (n : Nat) : (CS.q r).f n = r:=rfl
theorem sr1 (c : Nat → Rat) (r : Rat) : ∀ n,SR c n (q r) = q (S c n r):=fun n=>by
  show SR c n (mk (CS.q r)) = _
  rw [SR_mk]
  exact pt fun i=>SS_f c (CS.q r) i n
theorem F_at (c : Nat → Rat) (hc : Un c) {B : Rat} (n : Nat) (r : Rat) (h1 : -r < B) (h2 : r < B) (hn : 2 * B ≤ n + 1) : Ab (F c hc (q r) - q (S c n r)) (q (2 * tm B n)):=by
  rw [← sr1]
  rcases @Rat.le_total 0 r with h | h
  · exact F_tail c hc h h2 n hn _ (ab_q (by grind) (by grind))
  · exact F_tail c hc (A:=-r) (by grind) h1 n hn _ (ab_q (by grind) (by grind))
theorem F_ge {c : Nat → Rat} {hc : Un c} {B : Rat} {n : Nat} {r v : Rat} (h1 : -r < B) (h2 : r < B) (hn : 2 * B ≤ n + 1) (h : v + 2 * tm B n ≤ S c n r) : q v ≤ F c hc (q r):=by
  have:=(F_at c hc n r h1 h2 hn).1
  have:=add_le_of (x:=-q (2 * tm B n)) (y:=F c hc (q r)) (z:=q (S c n r)) this
  refine le_trans ?_ this
  rw [← q_neg,← q_add]
  exact q_le.2 (by grind)
theorem F_le {c : Nat → Rat} {hc : Un c} {B : Rat} {n : Nat} {r v : Rat} (h1 : -r < B) (h2 : r < B) (hn : 2 * B ≤ n + 1) (h : S c n r + 2 * tm B n ≤ v) : F c hc (q r) ≤ q v:=by
  have:=(F_at c hc n r h1 h2 hn).2
  have:=le_add_of this
  refine le_trans this ?_
  rw [← q_add]
  exact q_le.2 (by grind)
theorem le_of_sq {x y : R} (h : x * x ≤ y * y) (hy : q 0 ≤ y) : x ≤ y:=Classical.byContradiction fun k=>by
  have hx : q 0 < x:=lt_of_le_of_lt hy k
  have e:=lt_of (show y < x from k)
  obtain ⟨d,hd,e⟩:=e
  have p1 : y * y ≤ y * x:=mul_le_mul_l (le_of_lt k) hy
  have p2 : (y + q d) * x ≤ x * x:=mul_le_mul_r e (le_of_lt hx)
  have p3:=mul_pos (q_lt.2 hd) hx
  rw [add_mul] at p2
  have p4:=le_trans (le_trans (add_le_add p1 (le_refl _)) p2) h
  have : q d * x ≤ q 0:=by
    have:=sub_le_sub p4 (le_refl (y * y))
    rwa [add_sub_l,sub_self] at this
  exact p3 this
theorem sn_le (x : R) : Ab (sn x) (q 1):=by
  have h:=pyth x
  have h1 : sn x * sn x ≤ q 1 * q 1:=by
    rw [mul_one,← h]
    have:=add_le_add (sq_nonneg (cn x)) (le_refl (sn x * sn x))
    rwa [zero_add] at this
  refine ⟨?_,le_of_sq h1 (q_nn (by decide))⟩
  have h2 : -sn x * -sn x ≤ q 1 * q 1:=by rw [neg_mul,mul_neg,neg_neg]; exact h1
  have:=neg_le_neg (le_of_sq h2 (q_nn (by decide)))
  rwa [neg_neg] at this
theorem Sm.lip {P : R → Prop} {f g : R → R} (hf : Sm P f g) (hF : Fin P) {a b : R} {L : Rat} (hab : a ≤ b) (hP : ∀ x,a ≤ x → x ≤ b → P x) (hg : ∀ x,a ≤ x → x ≤ b → Ab (g x) (q L)) : Ab (f b - f a) (q L * (b - a)):=by
  have hl:=(Sm.const P (q L)).mul (Sm.id hF)
  have e : ∀ x : R,q 0 * x + q L * q 1 = q L:=fun x=>by rw [zero_mul,zero_add,mul_one]
  have h1:=(hl.sub hf).mono hab hP fun x h1 h2=>by
    rw [e]
    exact sub_nn (hg x h1 h2).2
  have h2:=(hl.add hf).mono hab hP fun x h1 h2=>by
    rw [e]
    have:=sub_nn (hg x h1 h2).1
    rw [sub_neg,add_comm] at this
    exact this
  constructor
  · refine of_sub_nn ?_
    have:=sub_nn h2
    have e2 : f b - f a - -(q L * (b - a)) = q L * b + f b - (q L * a + f a):=ind5 (P:=fun f1 f0 l b a=>f1 - f0 - -(l * (b - a)) = l * b + f1 - (l * a + f0)) (fun f1 f0 l b a=>pt fun n=>by
      show f1.f n - f0.f n - -(l.f n * (b.f n - a.f n)) = l.f n * b.f n + f1.f n - (l.f n * a.f n + f0.f n)
      grind) (f b) (f a) (q L) b a
    rw [e2]
    exact this
  · refine of_sub_nn ?_
    have:=sub_nn h1
    have e2 : q L * (b - a) - (f b - f a) = q L * b - f b - (q L * a - f a):=ind5 (P:=fun f1 f0 l b a=>l * (b - a) - (f1 - f0) = l * b - f1 - (l * a - f0)) (fun f1 f0 l b a=>pt fun n=>by
      show l.f n * (b.f n - a.f n) - (f1.f n - f0.f n) = l.f n * b.f n - f1.f n - (l.f n * a.f n - f0.f n)
      grind) (f b) (f a) (q L) b a
    rw [e2]
    exact this
theorem big (a b : R) : ∃ A : Rat,0 ≤ A ∧ ∀ x,a ≤ x → x ≤ b → Ab x (q A):=by
  obtain ⟨A,hA,h1⟩:=ab_arch a
  obtain ⟨B,hB,h2⟩:=ab_arch b
  refine ⟨A + B,by grind,fun x h3 h4=>⟨le_trans ?_ h3,le_trans h4 ?_⟩⟩
  · exact le_trans (neg_le_neg (q_le.2 (by grind))) h1.1
  · exact le_trans h2.2 (q_le.2 (by grind))
theorem cn_lip {a b : R} (h : a ≤ b) : Ab (cn b - cn a) (b - a):=by
  obtain ⟨A,hA,hb⟩:=big a b
  have:=(cn_sm hA).lip (up_fin hA) h hb (L:=1) fun x _ _=>(sn_le x).neg
  rwa [one_mul] at this
def hlo : Rat:=7244019458077122842 / 4611686018427387904
def hhi : Rat:=7244019458077122843 / 4611686018427387904
set_option maxRecDepth 10000 in
theorem hp_ex : ∃ t,q hlo ≤ t ∧ t ≤ q hhi ∧ cn t = q 0:=by
  have h1 : q 0 ≤ cn (q hlo):=F_ge (B:=8/5) (n:=32) (by decide +kernel) (by decide +kernel) (by decide +kernel) (by decide +kernel)
  have h2 : cn (q hhi) ≤ q 0:=F_le (B:=8/5) (n:=32) (by decide +kernel) (by decide +kernel) (by decide +kernel) (by decide +kernel)
  obtain ⟨t,a,b,c⟩:=ivt (fun x=>-cn x) hlo hhi 1 (q 0) (by decide +kernel) (by decide) (neg_nonpos h1) (neg_nonneg h2) fun x y hx hxy hy=>by
    have:=(cn_lip hxy).neg
    rw [one_mul]
    have e : -(cn y - cn x) = -cn y - -cn x:=by rw [neg_sub,sub_neg,add_comm,add_neg]
    rwa [e] at this
  refine ⟨t,a,b,?_⟩
  have:=congrArg (fun x=>-x) c
  simp only [neg_neg] at this
  rw [this,← q_neg]
  rfl
noncomputable def hp : R:=Classical.choose hp_ex
theorem hp_lo : q hlo ≤ hp:=(Classical.choose_spec hp_ex).1
theorem hp_hi : hp ≤ q hhi:=(Classical.choose_spec hp_ex).2.1
theorem cn_hp : cn hp = q 0:=(Classical.choose_spec hp_ex).2.2
theorem hp_pos : q 0 < hp:=lt_of_lt_of_le (q_lt.2 (by decide +kernel)) hp_lo
theorem cn_small {x : R} (h : Ab x (q (89/100))) : q (19/100) ≤ cn x:=by
  have t:=(F_tail cC uC (A:=89/100) (B:=9/10) (by decide +kernel) (by decide +kernel) 2 (by decide +kernel) x h).1
  have e : SR cC 2 x = q 1:=by
    show q 0 + q 1 * q 1 + q (-0) * (q 1 * x * q (1 / ((0 : Nat) + 1))) = q 1
    rw [show (-0 : Rat) = 0 by decide,zero_mul,add_zero,zero_add,one_mul]
  rw [e] at t
  have:=add_le_of (x:=-q (2 * tm (9/10) 2)) (y:=F cC uC x) (z:=q 1) t
  refine le_trans ?_ this
  rw [← q_neg,← q_add]
  exact q_le.2 (by decide +kernel)
theorem sn_small {x : R} (h0 : q 0 ≤ x) (h : x ≤ q (89/100)) : q (19/100) * x ≤ sn x:=by
  have hA : (0 : Rat) ≤ 89/100:=by decide +kernel
  have s:=(sn_sm hA).sub ((Sm.const (Up (89/100)) (q (19/100))).mul (Sm.id (up_fin hA)))
  have:=s.mono h0 (fun y h1 h2=>ab_of_le h1 (le_trans h2 h)) fun y h1 h2=>by
    rw [zero_mul,zero_add,mul_one]
    exact sub_nn (cn_small (ab_of_le h1 (le_trans h2 h)))
  rw [sn_zero,mul_zero,sub_zero] at this
  exact of_sub_nn this
theorem half_two (x : R) : q (1/2) * x + q (1/2) * x = x:=mk_ind (P:=fun x=>q (1/2) * x + q (1/2) * x = x) (fun a=>pt fun n=>by show 1/2 * a.f n + 1/2 * a.f n = a.f n; grind) x
theorem half_le {x : R} {a : Rat} (h : x ≤ q a) : q (1/2) * x ≤ q (a / 2):=by
  have:=mul_le_mul_l h (q_nn (show (0 : Rat) ≤ 1/2 by decide +kernel))
  rw [← q_mul] at this
  exact le_trans this (q_le.2 (by grind))
theorem half_pos {x : R} (h : q 0 < x) : q 0 < q (1/2) * x:=mul_pos (q_lt.2 (by decide +kernel)) h
theorem sn_pos0 {x : R} (h0 : q 0 < x) (h : x ≤ q (178/100)) : q 0 < sn x:=by
  have p1 : q 0 < q (1/2) * x:=half_pos h0
  have p2 : q (1/2) * x ≤ q (89/100):=le_trans (half_le h) (q_le.2 (by decide +kernel))
  have e : sn x = sn (q (1/2) * x) * cn (q (1/2) * x) + cn (q (1/2) * x) * sn (q (1/2) * x):=by rw [← sn_add,half_two]
  have s1 : q 0 < sn (q (1/2) * x):=lt_of_lt_of_le (mul_pos (q_lt.2 (by decide +kernel)) p1) (sn_small (le_of_lt p1) p2)
  have c1 : q 0 < cn (q (1/2) * x):=lt_of_lt_of_le (q_lt.2 (by decide +kernel)) (cn_small (ab_of_le (le_of_lt p1) p2))
  rw [e]
  exact add_pos (mul_pos s1 c1) (le_of_lt (mul_pos c1 s1))
theorem hp_178 : hp ≤ q (178/100):=le_trans hp_hi (q_le.2 (by decide +kernel))
theorem sn_hp : sn hp = q 1:=by
  have h:=pyth hp
  rw [cn_hp,mul_zero,zero_add] at h
  have p:=sn_pos0 hp_pos hp_178
  refine le_antisymm (sn_le hp).2 ?_
  refine le_of_sq ?_ (le_of_lt p)
  rw [h,mul_one]
  exact le_refl _
theorem sn_hp_add (x : R) : sn (x + hp) = cn x:=by rw [sn_add,cn_hp,sn_hp,mul_zero,zero_add,mul_one]
theorem cn_hp_add (x : R) : cn (x + hp) = -sn x:=by rw [cn_add,cn_hp,sn_hp,mul_zero,mul_one,zero_sub]
theorem sn_hp_sub (x : R) : sn (hp - x) = cn x:=by rw [sn_sub,cn_hp,sn_hp,zero_mul,sub_zero,one_mul]
theorem cn_hp_sub (x : R) : cn (hp - x) = sn x:=by rw [cn_sub,cn_hp,sn_hp,zero_mul,zero_add,one_mul]
theorem cn_pos {x : R} (h1 : -hp < x) (h2 : x < hp) : q 0 < cn x:=by
  have main : ∀ y : R,-hp < y → y ≤ q 0 → q 0 < cn y:=fun y h1 h2=>by
    rw [← sn_hp_add]
    refine sn_pos0 (fun k=>h1 ?_) (le_trans ?_ hp_178)
    · have:=le_sub_of (x:=y) (y:=q 0) (z:=hp) k
      rwa [zero_sub] at this
    · have:=add_le_add h2 (le_refl hp)
      rwa [zero_add] at this
  rcases le_total x (q 0) with h | h
  · exact main x h1 h
  · rw [← cn_neg]
    exact main (-x) (fun k=>h2 (by have:=neg_le_neg k; rwa [neg_neg,neg_neg] at this)) (neg_nonpos h)
noncomputable def pi : R:=hp + hp
theorem l_1 : ∀ h x : R,h - x ≤ -h → h + h ≤ x:=ind2 fun a b k=>lin1 k fun n e he p=>by simp only [f_add,f_sub,f_neg,f_mul,f_q] at *; grind
theorem l_2 : ∀ h x : R,h ≤ h - x → x ≤ q 0:=ind2 fun a b k=>lin1 k fun n e he p=>by simp only [f_add,f_sub,f_neg,f_mul,f_q] at *; grind
theorem sn_pos {x : R} (h1 : q 0 < x) (h2 : x < pi) : q 0 < sn x:=by
  rw [← cn_hp_sub]
  exact cn_pos (fun k=>h2 (l_1 _ _ k)) (fun k=>h1 (l_2 _ _ k))
def fx (n : Int) : R:=q (n / 4294967296)
def In (lo hi : Int) (x : R) : Prop:=fx lo ≤ x ∧ x ≤ fx hi
theorem cast_le {a b : Int} (h : a ≤ b) : (a : Rat) ≤ (b : Rat):=Rat.intCast_le_intCast.2 h
theorem fx_le {a b : Int} : fx a ≤ fx b ↔ a ≤ b:=by
  unfold fx
  rw [q_le]
  constructor
  · intro h
    refine Rat.intCast_le_intCast.1 ?_
    grind
  · intro h
    have:=cast_le h
    grind
theorem fx_add (a b : Int) : fx (a + b) = fx a + fx b:=by
  unfold fx
  rw [← q_add]
  congr 1
  push_cast
  grind
theorem fx_neg (a : Int) : fx (-a) = -fx a:=by
  unfold fx
  rw [← q_neg]
  congr 1
  push_cast
  grind
theorem fx_zero : fx 0 = q 0:=by unfold fx; congr 1; decide +kernel
theorem fx_one : fx 4294967296 = q 1:=by unfold fx; congr 1; decide +kernel
theorem fx_mul (a b : Int) : fx a * fx b = q (a * b / (4294967296 * 4294967296)):=by
  unfold fx
  rw [← q_mul]
  congr 1
  grind
theorem fx_q (a : Int) : fx a = q (a / 4294967296):=rfl
theorem fx_le_mul {c a b : Int} (h : c * 4294967296 ≤ a * b) : fx c ≤ fx a * fx b:=by
  rw [fx_mul,fx_q,q_le]
  have:=cast_le h
  push_cast at this
  grind
theorem In.mono {a b c d : Int} {x : R} (h : In a b x) (h1 : c ≤ a) (h2 : b ≤ d) : In c d x:=⟨le_trans (fx_le.2 h1) h.1,le_trans h.2 (fx_le.2 h2)⟩
theorem In.meet {a b c d : Int} {x : R} (h : In a b x) (k : In c d x) : a ≤ d ∧ c ≤ b:=⟨fx_le.1 (le_trans h.1 k.2),fx_le.1 (le_trans k.1 h.2)⟩
theorem In.ord {a b : Int} {x : R} (h : In a b x) : a ≤ b:=(h.meet h).1
theorem In.add {a b c d : Int} {x y : R} (h : In a b x) (k : In c d y) : In (a + c) (b + d) (x + y):=by
  constructor
  · rw [fx_add]; exact add_le_add h.1 k.1
  · rw [fx_add]; exact add_le_add h.2 k.2
theorem In.neg {a b : Int} {x : R} (h : In a b x) : In (-b) (-a) (-x):=by
  constructor
  · rw [fx_neg]; exact neg_le_neg h.2
  · rw [fx_neg]; exact neg_le_neg h.1
theorem In.sub {a b c d : Int} {x y : R} (h : In a b x) (k : In c d y) : In (a - d) (b - c) (x - y):=by
  have:=h.add k.neg
  rw [add_neg] at this
  exact this
theorem mul_low {x y a b c d l : R} (h1 : a ≤ x) (h2 : x ≤ c) (h3 : b ≤ y) (h4 : y ≤ d) (k1 : l ≤ a * b) (k2 : l ≤ a * d) (k3 : l ≤ c * b) (k4 : l ≤ c * d) : l ≤ x * y:=by
  have flip : ∀ {u v w : R},u ≤ v → w ≤ q 0 → v * w ≤ u * w:=fun {u v w} hu hw=>by
    have:=mul_le_mul_r hu (neg_nonneg hw)
    rw [mul_neg,mul_neg] at this
    have:=neg_le_neg this
    rwa [neg_neg,neg_neg] at this
  have flip2 : ∀ {u v w : R},u ≤ v → w ≤ q 0 → w * v ≤ w * u:=fun {u v w} hu hw=>by rw [mul_comm w v,mul_comm w u]; exact flip hu hw
  rcases le_total (q 0) y with hy | hy
  · refine le_trans ?_ (mul_le_mul_r h1 hy)
    rcases le_total (q 0) a with ha | ha
    · exact le_trans k1 (mul_le_mul_l h3 ha)
    · exact le_trans k2 (flip2 h4 ha)
  · refine le_trans ?_ (flip h2 hy)
    rcases le_total (q 0) c with hc | hc
    · exact le_trans k3 (mul_le_mul_l h3 hc)
    · exact le_trans k4 (flip2 h4 hc)
theorem In.mul {a b c d l u : Int} {x y : R} (h : In a c x) (k : In b d y) (k1 : l * 4294967296 ≤ a * b ∧ a * b ≤ u * 4294967296) (k2 : l * 4294967296 ≤ a * d ∧ a * d ≤ u * 4294967296)
    (k3 : l * 4294967296 ≤ c * b ∧ c * b ≤ u * 4294967296) (k4 : l * 4294967296 ≤ c * d ∧ c * d ≤ u * 4294967296) : In l u (x * y):=by
  refine ⟨mul_low h.1 h.2 k.1 k.2 (fx_le_mul k1.1) (fx_le_mul k2.1) (fx_le_mul k3.1) (fx_le_mul k4.1),?_⟩
  have hn:=h.neg
  have:=mul_low hn.1 hn.2 k.1 k.2 (l:=-fx u) (by rw [← fx_neg]; exact fx_le_mul (by rw [Int.neg_mul,Int.neg_mul]; omega)) (by rw [← fx_neg]; exact fx_le_mul (by rw [Int.neg_mul,Int.neg_mul]; omega))
    (by rw [← fx_neg]; exact fx_le_mul (by rw [Int.neg_mul,Int.neg_mul]; omega)) (by rw [← fx_neg]; exact fx_le_mul (by rw [Int.neg_mul,Int.neg_mul]; omega))
  rw [neg_mul] at this
  have:=neg_le_neg this
  rwa [neg_neg,neg_neg] at this
theorem fx_pos {n : Int} (h : 0 < n) : q 0 < fx n:=by
  rw [← fx_zero]
  exact fun k=>by have:=fx_le.1 k; omega
theorem In.div_pos {a b c d l u : Int} {x y z : R} (h : In a c x) (k : In b d y) (hb : 0 < b) (hz : z * y = x)
    (k1 : l * b ≤ a * 4294967296) (k2 : l * d ≤ a * 4294967296) (k3 : c * 4294967296 ≤ u * b) (k4 : c * 4294967296 ≤ u * d) : In l u z:=by
  have hy : q 0 < y:=lt_of_lt_of_le (fx_pos hb) k.1
  have one : ∀ n : Int,fx n = fx n * fx 4294967296:=fun n=>by rw [fx_one,mul_one]
  constructor
  · refine le_of_mul ?_ hy
    rw [hz]
    refine le_trans ?_ h.1
    rw [one a,fx_mul]
    rcases Int.le_total 0 l with hl | hl
    · refine le_trans (mul_le_mul_l k.2 (by rw [← fx_zero]; exact fx_le.2 hl)) ?_
      rw [fx_mul,q_le]
      have:=cast_le k2
      push_cast at this ⊢
      grind
    · refine le_trans (y:=fx l * fx b) ?_ ?_
      · have:=mul_le_mul_l k.1 (neg_nonneg (show fx l ≤ q 0 by rw [← fx_zero]; exact fx_le.2 hl))
        rw [neg_mul,neg_mul] at this
        have:=neg_le_neg this
        rwa [neg_neg,neg_neg] at this
      · rw [fx_mul,q_le]
        have:=cast_le k1
        push_cast at this ⊢
        grind
  · refine le_of_mul ?_ hy
    rw [hz]
    refine le_trans h.2 ?_
    rw [one c,fx_mul]
    rcases Int.le_total 0 u with hl | hl
    · refine le_trans ?_ (mul_le_mul_l k.1 (by rw [← fx_zero]; exact fx_le.2 hl))
      rw [fx_mul,q_le]
      have:=cast_le k3
      push_cast at this ⊢
      grind
    · refine le_trans (y:=fx u * fx d) ?_ ?_
      · rw [fx_mul,q_le]
        have:=cast_le k4
        push_cast at this ⊢
        grind
      · have:=mul_le_mul_l k.2 (neg_nonneg (show fx u ≤ q 0 by rw [← fx_zero]; exact fx_le.2 hl))
        rw [neg_mul,neg_mul] at this
        have:=neg_le_neg this
        rwa [neg_neg,neg_neg] at this
def stp (c : Rat) (y s : R) : R:=q 1 - y * q (1 / c) * s
def hsn (y : R) : R:=stp 6 y (stp 20 y (stp 42 y (stp 72 y (stp 110 y (stp 156 y (stp 210 y (stp 272 y (q 1))))))))
def hcn (y : R) : R:=stp 2 y (stp 12 y (stp 30 y (stp 56 y (stp 90 y (stp 132 y (stp 182 y (stp 240 y (q 1))))))))
noncomputable def kh (k : Int) : R:=q k * hp
theorem kh_add (a b : Int) : kh (a + b) = kh a + kh b:=by
  unfold kh
  rw [← add_mul,← q_add]
  congr 2
  push_cast
  rfl
theorem kh_one : kh 1 = hp:=by
  unfold kh
  rw [show ((1 : Int) : Rat) = 1 by decide,one_mul]
theorem sn_2 (x : R) : sn (x + kh 2) = -sn x:=by
  have : kh 2 = hp + hp:=by rw [show (2 : Int) = 1 + 1 by decide,kh_add,kh_one]
  rw [this,← add_assoc,sn_hp_add,cn_hp_add]
theorem cn_anti {x y : R} (h0 : q 0 ≤ x) (h : x ≤ y) (h1 : y ≤ kh 2) : cn y ≤ cn x:=by
  have e : kh 2 = pi:=by rw [show (2 : Int) = 1 + 1 by decide,kh_add,kh_one]; rfl
  rw [e] at h1
  have hs : ∀ t,x ≤ t → t ≤ y → q 0 ≤ sn t:=fun t a b=>by
    by_cases p : q 0 < t
    · by_cases p2 : t < pi
      · exact le_of_lt (sn_pos p p2)
      · have : t = pi:=le_antisymm (le_trans b h1) (not_lt.1 p2)
        rw [this,← e,← zero_add (kh 2),sn_2,sn_zero,← q_neg]
        exact le_refl _
    · have : t = q 0:=le_antisymm (not_lt.1 p) (le_trans h0 a)
      rw [this,sn_zero]
      exact le_refl _
  obtain ⟨A,hA,hb⟩:=big x y
  have:=(cn_sm hA).neg.mono h hb fun t a b=>by rw [neg_neg]; exact hs t a b
  have:=neg_le_neg this
  rwa [neg_neg,neg_neg] at this
theorem neg_lt {x y : R} (h : x < y) : -y < -x:=fun k=>h (by have:=neg_le_neg k; rwa [neg_neg,neg_neg] at this)
theorem lt_irrefl (x : R) : ¬ x < x:=fun h=>h (le_refl x)
theorem pi_kh : pi = kh 2:=by rw [show (2 : Int) = 1 + 1 by decide,kh_add,kh_one]; rfl
theorem sn_pi (x : R) : sn (x + pi) = -sn x:=by rw [pi_kh]; exact sn_2 x
def stq (c : Rat) (y s : R) : R:=q c - y * s
def hat (y : R) : R:=stq 1 y (stq (1/3) y (stq (1/5) y (stq (1/7) y (stq (1/9) y (stq (1/11) y (stq (1/13) y (stq (1/15) y (stq (1/17) y (stq (1/19) y (q (1/21)))))))))))
theorem sn_pi_zero : sn pi = q 0:=by
  have:=sn_pi (q 0)
  rw [zero_add,sn_zero] at this
  rw [this,← q_neg]; rfl
def adq (c : Rat) (y s : R) : R:=q c + y * s
def lat (y : R) : R:=adq 1 y (adq (1/3) y (adq (1/5) y (adq (1/7) y (adq (1/9) y (q (1/11))))))
theorem le_of_eq {x y : R} (h : x = y) : x ≤ y:=h ▸ le_refl _
theorem pi_kh2 : kh 2 = pi:=by rw [show (2 : Int) = 1 + 1 by decide,kh_add,kh_one]; rfl
theorem sn_nn {t : R} (h0 : q 0 ≤ t) (h1 : t ≤ pi) : q 0 ≤ sn t:=by
  by_cases p : q 0 < t
  · by_cases p2 : t < pi
    · exact le_of_lt (sn_pos p p2)
    · rw [le_antisymm h1 (not_lt.1 p2),sn_pi_zero]; exact le_refl _
  · rw [le_antisymm (not_lt.1 p) h0,sn_zero]; exact le_refl _
theorem ucos_le {u : R} (h0 : q 0 ≤ u) (h1 : u ≤ pi) : u * cn u ≤ sn u:=by
  obtain ⟨A,hA,hb⟩:=big (q 0) u
  have S : Sm (Up A) (fun x=>sn x - x * cn x) (fun x=>x * sn x):=((sn_sm hA).sub ((Sm.id (up_fin hA)).mul (cn_sm hA))).congr fun x _=>(ind3 (P:=fun x c s=>c - (q 1 * c + x * -s) = x * s) (fun x c s=>pt fun n__=>by simp only [f_add,f_sub,f_neg,f_mul,f_q]; grind) x (cn x) (sn x))
  have:=S.mono h0 hb fun x a b=>mul_nonneg a (sn_nn a (le_trans b h1))
  rw [zero_mul,sn_zero,sub_zero] at this
  exact of_sub_nn this
theorem chord {u v : R} (h0 : q 0 ≤ v) (h : v ≤ u) (h1 : u ≤ pi) : v * sn u ≤ u * sn v:=by
  obtain ⟨A,hA,hb⟩:=big (q 0) u
  have S : Sm (Up A) (fun x=>u * sn x - x * sn u) (fun x=>u * cn x - sn u):=((((Sm.const (Up A) u).mul (sn_sm hA))).sub ((Sm.id (up_fin hA)).mul (Sm.const (Up A) (sn u)))).congr fun x _=>(ind5 (P:=fun u s c w x=>q 0 * s + u * c - (q 1 * w + x * q 0) = u * c - w) (fun u s c w x=>pt fun n__=>by simp only [f_add,f_sub,f_neg,f_mul,f_q]; grind) u (sn x) (cn x) (sn u) x)
  have u0:=le_trans h0 h
  have v1:=le_trans h h1
  refine of_sub_nn ?_
  rcases le_total (q 0) (u * cn v - sn u) with k | k
  · have:=S.mono h0 (fun x a b=>hb x a (le_trans b h)) fun x a b=>le_trans k (sub_le_sub (mul_le_mul_l (cn_anti a b (by rw [pi_kh2]; exact v1)) u0) (le_refl _))
    rwa [sn_zero,mul_zero,zero_mul,sub_zero] at this
  · have:=S.neg.mono h (fun x a b=>hb x (le_trans h0 a) b) fun x a b=>neg_nonneg (le_trans (sub_le_sub (mul_le_mul_l (cn_anti h0 a (by rw [pi_kh2]; exact le_trans b h1)) u0) (le_refl _)) k)
    rw [sub_self] at this
    have:=neg_le_neg this
    rwa [neg_neg,neg_neg] at this
theorem chord_n {n u v : R} (u0 : q 0 ≤ u) (u1 : u ≤ pi) (v0 : q 0 ≤ v) (v1 : v ≤ pi) (hn : v < u ∨ u < v) (e : n * (u - v) = sn u - sn v) : n * u ≤ sn u:=by
  rcases hn with h | h
  · have p : q 0 < u - v:=fun k=>h (by have:=add_le_add k (le_refl v); rwa [sub_add_cancel,zero_add] at this)
    refine le_of_mul (z:=u - v) ?_ p
    have c:=chord v0 (le_of_lt h) u1
    have e1 : n * u * (u - v) = u * sn u - u * sn v:=by rw [mul_assoc,mul_left_comm,e,mul_sub]
    rw [e1]
    exact (ind4 (P:=fun a b c d=>c ≤ b → a - c ≤ d → a - b ≤ d) (fun a b c d k0__ k1__=>lin2 k0__ k1__ fun n__ e__ he__ p0__ p1__=>by simp only [f_add,f_sub,f_neg,f_mul,f_q] at *; grind) (u * sn u) (u * sn v) (v * sn u) (sn u * (u - v)) (by exact c) (by exact (le_of_eq (ind3 (P:=fun u v s=>u * s - v * s = s * (u - v)) (fun u v s=>pt fun n__=>by simp only [f_add,f_sub,f_neg,f_mul,f_q]; grind) u v (sn u)))))
  · have p : q 0 < v - u:=fun k=>h (by have:=add_le_add k (le_refl u); rwa [sub_add_cancel,zero_add] at this)
    refine le_of_mul (z:=v - u) ?_ p
    have c:=chord u0 (le_of_lt h) v1
    have e0 : n * (v - u) = sn v - sn u:=by rw [← neg_sub u v,mul_neg,e,neg_sub]
    have e1 : n * u * (v - u) = u * sn v - u * sn u:=by rw [mul_assoc,mul_left_comm,e0,mul_sub]
    rw [e1]
    exact (ind4 (P:=fun a b c d=>a ≤ c → c - b ≤ d → a - b ≤ d) (fun a b c d k0__ k1__=>lin2 k0__ k1__ fun n__ e__ he__ p0__ p1__=>by simp only [f_add,f_sub,f_neg,f_mul,f_q] at *; grind) (u * sn v) (u * sn u) (v * sn u) (sn u * (v - u)) (by exact c) (by exact (le_of_eq (ind3 (P:=fun u v s=>v * s - u * s = s * (v - u)) (fun u v s=>pt fun n__=>by simp only [f_add,f_sub,f_neg,f_mul,f_q]; grind) u v (sn u)))))
theorem quot_ex {x y : R} (h : y < q 0 ∨ q 0 < y) : ∃ z,z * y = x:=by
  rcases h with h | h
  · obtain ⟨i,hi,_⟩:=inv_ex (x:=-y) (by have:=neg_lt h; rwa [show -q 0 = q 0 from by rw [← q_neg]; rfl] at this)
    exact ⟨-(x * i),by rw [neg_mul,mul_assoc,← mul_neg,← mul_neg,mul_comm i,hi,mul_one]⟩
  · obtain ⟨i,hi,_⟩:=inv_ex h
    exact ⟨x * i,by rw [mul_assoc,mul_comm i,hi,mul_one]⟩
theorem sub_pos {x y : R} (h : x < y) : q 0 < y - x:=fun k=>h (by have:=add_le_add k (le_refl x); rwa [sub_add_cancel,zero_add] at this)
theorem of_sub_pos {x y : R} (h : q 0 < y - x) : x < y:=fun k=>h (by have:=sub_le_sub k (le_refl x); rwa [sub_self] at this)
theorem neg_pos {x : R} (h : x < q 0) : q 0 < -x:=by have:=neg_lt h; rwa [show -q 0 = q 0 from by rw [← q_neg]; rfl] at this
theorem mid {a b h : R} (h1 : a < h) (h2 : b < h) : q (1/2) * (a + b) < h:=fun k=>h1 (by
  have:=(ind3 (P:=fun a b h=>h ≤ q (1/2) * (a + b) → b ≤ h → h ≤ a) (fun a b h k0__ k1__=>lin2 k0__ k1__ fun n__ e__ he__ p0__ p1__=>by simp only [f_add,f_sub,f_neg,f_mul,f_q] at *; grind) a b h k (le_of_lt h2))
  exact this)
def Cone (n A B : R) : Prop:=(A = B ∧ n = sn A) ∨ ((A < B ∨ B < A) ∧ n * (B - A) = cn A - cn B)
theorem Cone.neg {n A B : R} (h : Cone n A B) : Cone (-n) (-A) (-B):=by
  rcases h with ⟨rfl,rfl⟩ | ⟨h,e⟩
  · exact .inl ⟨rfl,by rw [sn_neg]⟩
  · refine .inr ⟨h.elim (fun k=>.inr (neg_lt k)) (fun k=>.inl (neg_lt k)),?_⟩
    rw [cn_neg,cn_neg,← e]
    exact (ind3 (P:=fun n A B=>-n * (-B - -A) = n * (B - A)) (fun n A B=>pt fun n__=>by simp only [f_add,f_sub,f_neg,f_mul,f_q]; grind) n A B)
theorem Cone.hi {n A B : R} (h : Cone n A B) (a1 : -hp < A) (a2 : A < hp) (b1 : -hp < B) (b2 : B < hp) : n * (hp - A) ≤ cn A:=by
  have rng : ∀ {X : R},-hp < X → X < hp → q 0 ≤ hp - X ∧ hp - X ≤ pi:=fun {X} h1 h2=>⟨sub_nn (le_of_lt h2),(ind2 (P:=fun X h=>-h ≤ X → h - X ≤ h + h) (fun X h k0__=>lin1 k0__ fun n__ e__ he__ p0__=>by simp only [f_add,f_sub,f_neg,f_mul,f_q] at *; grind) X hp (le_of_lt h1))⟩
  obtain ⟨u0,u1⟩:=rng a1 a2
  obtain ⟨v0,v1⟩:=rng b1 b2
  rcases h with ⟨rfl,rfl⟩ | ⟨h,e⟩
  · have:=ucos_le u0 u1
    rwa [cn_hp_sub,sn_hp_sub,mul_comm] at this
  · have:=chord_n (n:=n) u0 u1 v0 v1 (h.elim (fun k=>.inl (of_sub_pos (by
      have:=sub_pos k
      rwa [show B - A = hp - A - (hp - B) from (ind3 (P:=fun A B h=>B - A = h - A - (h - B)) (fun A B h=>pt fun n__=>by simp only [f_add,f_sub,f_neg,f_mul,f_q]; grind) A B hp)] at this))) (fun k=>.inr (of_sub_pos (by
      have:=sub_pos k
      rwa [show A - B = hp - B - (hp - A) from (ind3 (P:=fun A B h=>A - B = h - B - (h - A)) (fun A B h=>pt fun n__=>by simp only [f_add,f_sub,f_neg,f_mul,f_q]; grind) A B hp)] at this)))) (by
      rw [sn_hp_sub,sn_hp_sub,← e]
      exact (ind4 (P:=fun n A B h=>n * (h - A - (h - B)) = n * (B - A)) (fun n A B h=>pt fun n__=>by simp only [f_add,f_sub,f_neg,f_mul,f_q]; grind) n A B hp))
    rwa [sn_hp_sub] at this
theorem inv_row {d e f g p q' r u v w s t k x : R} (nz : d < q 0 ∨ q 0 < d) (h1 : e * d = p) (h2 : f * d = q') (h3 : g * d = r) (h : p * u + q' * v + r * w = d * x) : e * (u + s) + f * (v + t) + g * (w + k) + -(e * s + f * t + g * k) = x:=by
  have e1 : e * (u + s) + f * (v + t) + g * (w + k) + -(e * s + f * t + g * k) = e * u + f * v + g * w:=((ind7 (P:=fun e f g u v w s=>∀ t k : R,e * (u + s) + f * (v + t) + g * (w + k) + -(e * s + f * t + g * k) = e * u + f * v + g * w) (fun e f g u v w s=>ind2 fun t k=>pt fun n__=>by simp only [f_add,f_sub,f_neg,f_mul,f_q]; grind) e f g u v w s) t k)
  have e2 : (e * u + f * v + g * w) * d = d * x:=by
    rw [← h,← h1,← h2,← h3]
    exact (ind7 (P:=fun e f g u v w d=>(e * u + f * v + g * w) * d = e * d * u + f * d * v + g * d * w) (fun e f g u v w d=>pt fun n__=>by simp only [f_add,f_sub,f_neg,f_mul,f_q]; grind) e f g u v w d)
  rw [e1]
  rcases nz with c | c
  · refine eq_of_mul (z:=-d) ?_ (neg_pos c)
    rw [mul_neg,mul_neg,e2,mul_comm]
  · exact eq_of_mul (by rw [e2,mul_comm]) c
end Go.Proofs.YtfhnlkinjbakgaaGreatDoor.Rl
