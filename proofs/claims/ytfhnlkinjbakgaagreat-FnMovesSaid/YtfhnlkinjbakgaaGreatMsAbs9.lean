/- The abstract machine, ninth part: structs of two whole numbers, compared. -/
import Derived.Test.YtfhnlkinjbakgaaGreatMsAbs8
import Derived.Laws.StructEq
namespace Go.Proofs.YtfhnlkinjbakgaaGreat.Abs
open Go Go.RowKit
def eq2 (k l : IntKind) : Value → Value → Option Bool
  | .agg ⟨[.int p a,.int q b]⟩,.agg ⟨[.int p' a',.int q' b']⟩=>if p = k ∧ q = l ∧ p' = k ∧ q' = l then some ((a == a') && (b == b')) else none
  | _,_=>none
structure Two (P : Program) (T : TypeId) (f1 f2 : Field) (k l : IntKind) : Prop where
  fs : (P.fieldsOf T).toList = [f1,f2]
  und : P.underlying T = some (.struct (P.fieldsOf T))
  held : P.stoodInHeld T = false
  guard : P.eqGuardType P.depth T = false
  n1 : (f1.name == "_") = false
  n2 : (f2.name == "_") = false
  o1 : f1.offset = 0
  o2 : f2.offset = 1
  t1 : P.underlying f1.type = some (.int k)
  t2 : P.underlying f2.type = some (.int l)
def isKind (P : Program) (T : TypeId) (k : IntKind) : Bool:=
  match P.underlying T with
  | some (.int k')=>decide (k' = k)
  | _=>false
def twoB (P : Program) (T : TypeId) (k l : IntKind) : Bool:=
  (match P.underlying T with | some (.struct _)=>true | _=>false) && (match (P.fieldsOf T).toList with
    | [f1, f2] => !(f1.name == "_") && !(f2.name == "_") && decide (f1.offset = 0) && decide (f2.offset = 1) && isKind P f1.type k && isKind P f2.type l
    | _=>false) && !P.stoodInHeld T && !P.eqGuardType P.depth T
theorem isKind_spec {P : Program} {T : TypeId} {k : IntKind} (h : isKind P T k = true) : P.underlying T = some (.int k):=by
  unfold isKind at h
  split at h
  · rename_i k' hk
    rw [of_decide_eq_true h] at hk
    exact hk
  · cases h
theorem two_of {P : Program} {T : TypeId} {k l : IntKind} (h : twoB P T k l = true) : ∃ f1 f2,Two P T f1 f2 k l:=by
  unfold twoB at h
  simp only [Bool.and_eq_true,Bool.not_eq_true'] at h
  obtain ⟨⟨⟨h1,h2⟩,h3⟩,h4⟩:=h
  have hu : P.underlying T = some (.struct (P.fieldsOf T)):=by
    cases hd : P.underlying T with
    | none=>rw [hd] at h1; cases h1
    | some d=>
      rw [hd] at h1
      cases d <;> first | (cases h1; done) | (simp [Program.fieldsOf,hd])
  split at h2
  · rename_i f1 f2 hf
    simp only [Bool.and_eq_true,Bool.not_eq_true',decide_eq_true_eq] at h2
    obtain ⟨⟨⟨⟨⟨n1,n2⟩,o1⟩,o2⟩,t1⟩,t2⟩:=h2
    exact ⟨f1,f2,hf,hu,h3,h4,n1,n2,o1,o2,isKind_spec t1,isKind_spec t2⟩
  · cases h2
variable {P : Program}
theorem run_part_int {T : TypeId} {k : IntKind} (h : P.underlying T = some (.int k)) (cs : Array Value) (o : Nat) (v : Value) (hv : cs[o]? = some v) (w : World) : (part T cs o).run P w = .ok v w:=by
  have ha : (isAgg T).run P w = .ok false w:=by
    unfold isAgg
    rw [Sem.run_bind,run_underlying h w]
    rfl
  simp [part,ha,hv]
theorem run_equalIn_int {T : TypeId} {k : IntKind} (h : P.underlying T = some (.int k)) (w : World) (d : Nat) (a b : Int) : (Op.equalIn (d + 1) T (.int k a) (.int k b)).run P w = .ok (a == b) w:=by
  simp only [Op.equalIn,Sem.run_bind,run_underlying h w,Result.andThen_ok]
  simp
theorem eq2_form {k l : IntKind} {x y : Value} {b : Bool} (hb : eq2 k l x y = some b) : ∃ a1 b1 a2 b2,x = .agg #[.int k a1,.int l b1] ∧ y = .agg #[.int k a2,.int l b2] ∧ b = ((a1 == a2) && (b1 == b2)):=by
  unfold eq2 at hb
  split at hb
  case h_2=>cases hb
  rename_i p a q b0 p' a' q' b'
  split at hb
  case isFalse=>cases hb
  rename_i hk
  obtain ⟨rfl,rfl,rfl,rfl⟩:=hk
  simp only [Option.some.injEq] at hb
  exact ⟨a,b0,a',b',rfl,rfl,hb.symm⟩
theorem eq2_ok {T : TypeId} {k l : IntKind} (h0 : twoB P T k l = true) {x y : Value} {b : Bool} (hb : eq2 k l x y = some b) (ox oy : Operand) (w : World) :
    (do eqGuard .eql T ox oy x y; binOp .eql T x y : Sem Value).run P w = .ok (.bool b) w ∧ (do eqGuard .neq T ox oy x y; binOp .neq T x y : Sem Value).run P w = .ok (.bool (!b)) w:=by
  obtain ⟨f1,f2,h⟩:=two_of h0
  obtain ⟨a1,b1,a2,b2,rfl,rfl,rfl⟩:=eq2_form hb
  have he : (Op.equal T (.agg #[.int k a1,.int l b1]) (.agg #[.int k a2,.int l b2])).run P w = .ok ((a1 == a2) && (b1 == b2)) w:=by
    unfold Op.equal
    obtain ⟨d,hd⟩ : ∃ d,Op.maxDepth = d + 1 + 1:=⟨9998,rfl⟩
    rw [hd,run_equalIn_struct (P:=P) w (d + 1) T _ _ h.und h.held,h.fs]
    have hn1 : f1.name ≠ "_" := by simpa using h.n1
    have hn2 : f2.name ≠ "_" := by simpa using h.n2
    have p1 : ∀ (a b : Int),(part f1.type #[.int k a,.int l b] 0).run P w = .ok (.int k a) w:=fun a b=>run_part_int h.t1 _ 0 _ (by simp) w
    have p2 : ∀ (a b : Int),(part f2.type #[.int k a,.int l b] 1).run P w = .ok (.int l b) w:=fun a b=>run_part_int h.t2 _ 1 _ (by simp) w
    simp only [Op.eqFields,if_pos hn1,if_pos hn2,Sem.run_bind,h.o1,h.o2,p1,Result.andThen_ok,run_equalIn_int h.t1 w]
    cases (a1 == a2)
    · simp
    · cases hb2 : (b1 == b2) <;> simp [run_equalIn_int h.t2 w,p2] <;> simpa using hb2
  have g1 : ∀ op,(op matches .eql | .neq) = true → (eqGuard op T ox oy (.agg #[.int k a1,.int l b1]) (.agg #[.int k a2,.int l b2])).run P w = .ok () w:=fun op hop=>by
    cases op <;> first | (simp at hop; done) | simp [eqGuard,program,Sem.run,h.guard]
  constructor
  · rw [Sem.run_bind,g1 .eql rfl,Result.andThen_ok]
    simp [binOp,he]
  · rw [Sem.run_bind,g1 .neq rfl,Result.andThen_ok]
    simp [binOp,he]
end Go.Proofs.YtfhnlkinjbakgaaGreat.Abs
