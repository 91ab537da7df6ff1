/- The abstract machine: structs of whole numbers, however nested, compared. -/
import Derived.Test.YtcdkepbgjgcjfaaGreatAbs9
namespace Go.Proofs.YtcdkepbgjgcjfaaGreat.Abs
open Go Go.RowKit

/-- How many whole numbers make up a value of the type; none if it is of another form. -/
def cellsI (P : Program) : Nat → TypeId → Option Nat
  | 0, _ => none
  | d + 1, T =>
    match P.underlying T with
    | some (.int .i64) => some 1
    | some (.struct _) =>
      match (P.fieldsOf T).toList.foldl (fun acc f => acc.bind fun o => if f.name == "_" || f.offset != o then none else (cellsI P d f.type).map (o + ·)) (some 0) with
      | some n => if P.stoodInHeld T = false ∧ tsize P T = some n then some n else none
      | none => none
    | _ => none

def ints (xs : List Int) : Array Value := (xs.map (Value.int .i64)).toArray

variable {P : Program}

/-- A value of such a type. -/
def IsI (P : Program) (T : TypeId) (xs : List Int) (v : Value) : Prop :=
  (P.underlying T = some (.int .i64) ∧ ∃ a, xs = [a] ∧ v = .int .i64 a) ∨ ((∃ fs, P.underlying T = some (.struct fs)) ∧ v = .agg (ints xs))

theorem cellsI_kind {d : Nat} {T : TypeId} {n : Nat} (h : cellsI P d T = some n) : (P.underlying T = some (.int .i64) ∧ n = 1) ∨
    ((∃ fs, P.underlying T = some (.struct fs)) ∧ P.stoodInHeld T = false ∧ tsize P T = some n ∧ ∃ d', d = d' + 1 ∧ (P.fieldsOf T).toList.foldl (fun acc f => acc.bind fun o => if f.name == "_" || f.offset != o then none else (cellsI P d' f.type).map (o + ·)) (some 0) = some n) := by
  cases d with
  | zero => simp [cellsI] at h
  | succ d =>
    unfold cellsI at h
    split at h
    · rename_i hu
      exact .inl ⟨hu, (Option.some.inj h).symm⟩
    · rename_i fs hu
      split at h
      · rename_i m hm
        split at h
        · rename_i hc
          cases h
          exact .inr ⟨⟨fs, hu⟩, hc.1, hc.2, d, rfl, hm⟩
        · cases h
      · cases h
    · cases h

theorem part_I {d : Nat} {T : TypeId} {n o : Nat} (h : cellsI P d T = some n) (xs : List Int) (hl : o + n ≤ xs.length) (w : World) : ∃ v, (part T (ints xs) o).run P w = .ok v w ∧ IsI P T ((xs.drop o).take n) v := by
  rcases cellsI_kind h with ⟨hu, rfl⟩ | ⟨⟨fs, hu⟩, _, hs, _⟩
  · have hlt : o < xs.length := by omega
    refine ⟨.int .i64 xs[o], run_part_int hu _ o _ (by simp [ints, List.getElem?_eq_getElem hlt]) w, .inl ⟨hu, xs[o], ?_, rfl⟩⟩
    rw [List.drop_eq_getElem_cons hlt]
    rfl
  · have ha : (isAgg T).run P w = .ok true w := by
      unfold isAgg
      rw [Sem.run_bind, run_underlying hu w]
      rfl
    refine ⟨.agg ((ints xs).extract o (o + n)), ?_, .inr ⟨⟨fs, hu⟩, ?_⟩⟩
    · unfold part
      simp only [Sem.run_bind, ha, Result.andThen_ok, if_true, run_sizeOf hs w, Sem.run_pure]
    · congr 1
      unfold ints
      rw [List.extract_toArray]
      congr 1
      rw [List.extract_eq_take_drop, Nat.add_sub_cancel_left, List.map_take, List.map_drop]

theorem beq_split (xs ys : List Int) (o m : Nat) : ((xs.drop o).take m == (ys.drop o).take m && xs.drop (o + m) == ys.drop (o + m)) = (xs.drop o == ys.drop o) := by
  have e : ∀ l : List Int, l.drop (o + m) = (l.drop o).drop m := fun l => by rw [List.drop_drop]
  rw [e, e]
  generalize xs.drop o = a
  generalize ys.drop o = b
  by_cases h : a = b
  · subst h; simp
  · have h2 : ¬ (a.take m = b.take m ∧ a.drop m = b.drop m) := fun ⟨h1, h2⟩ => h (by rw [← List.take_append_drop m a, h1, h2, List.take_append_drop])
    rw [beq_eq_false_iff_ne.2 h]
    cases hx : (a.take m == b.take m && a.drop m == b.drop m) with
    | false => rfl
    | true =>
      simp only [Bool.and_eq_true, beq_iff_eq] at hx
      exact absurd hx h2

theorem eqI : ∀ (d : Nat) (T : TypeId) (n : Nat), cellsI P d T = some n → ∀ (e : Nat), d ≤ e → ∀ (xs ys : List Int) (v u : Value), xs.length = n → ys.length = n → IsI P T xs v → IsI P T ys u → ∀ w, (Op.equalIn e T v u).run P w = .ok (xs == ys) w := by
  intro d
  induction d with
  | zero => intro T n h; simp [cellsI] at h
  | succ d ih =>
    intro T n h e he xs ys v u hx hy hv hu' w
    obtain ⟨e, rfl⟩ : ∃ m, e = m + 1 := ⟨e - 1, by omega⟩
    rcases cellsI_kind h with ⟨hu, rfl⟩ | ⟨⟨fs, hu⟩, hh, hs, d', hd, hf⟩
    · rcases hv with ⟨_, a, rfl, rfl⟩ | ⟨⟨fs, h2⟩, _⟩
      · rcases hu' with ⟨_, b, rfl, rfl⟩ | ⟨⟨fs, h2⟩, _⟩
        · rw [run_equalIn_int hu w e a b]
          congr 1
          cases hab : a == b <;> simp_all
        · rw [hu] at h2; cases h2
      · rw [hu] at h2; cases h2
    · have hd' : d' = d := by omega
      subst hd'
      have hv' : v = .agg (ints xs) := by
        rcases hv with ⟨h2, _⟩ | ⟨_, h2⟩
        · rw [hu] at h2; cases h2
        · exact h2
      have hu2 : u = .agg (ints ys) := by
        rcases hu' with ⟨h2, _⟩ | ⟨_, h2⟩
        · rw [hu] at h2; cases h2
        · exact h2
      subst hv'; subst hu2
      have hfo : P.underlying T = some (.struct (P.fieldsOf T)) := by simp [Program.fieldsOf, hu]
      rw [run_equalIn_struct (P := P) w e T _ _ hfo hh]
      have none_stays : ∀ (l : List Field), l.foldl (fun acc f => acc.bind fun o => if f.name == "_" || f.offset != o then none else (cellsI P d' f.type).map (o + ·)) none = none := by
        intro l
        induction l with
        | nil => rfl
        | cons f l ih2 => exact ih2
      have go : ∀ (l : List Field) (o : Nat), l.foldl (fun acc f => acc.bind fun o => if f.name == "_" || f.offset != o then none else (cellsI P d' f.type).map (o + ·)) (some o) = some n → (Op.eqFields e (ints xs) (ints ys) l).run P w = .ok (xs.drop o == ys.drop o) w := by
        intro l
        induction l with
        | nil =>
          intro o ho
          simp only [List.foldl_nil, Option.some.injEq] at ho
          subst ho
          rw [List.drop_of_length_le (by omega), List.drop_of_length_le (by omega)]
          rfl
        | cons f l ih2 =>
          intro o ho
          simp only [List.foldl_cons, Option.bind_some] at ho
          split at ho
          · rw [none_stays] at ho; cases ho
          · rename_i hc
            simp only [Bool.or_eq_true, not_or, Bool.not_eq_true, bne_eq_false_iff_eq] at hc
            obtain ⟨hname, hoff⟩ := hc
            cases hm : cellsI P d' f.type with
            | none => rw [hm] at ho; simp only [Option.map_none, none_stays] at ho; cases ho
            | some m =>
              rw [hm] at ho
              simp only [Option.map_some] at ho
              have hle : o + m ≤ n := by
                have mono : ∀ (l : List Field) (a : Nat), l.foldl (fun acc f => acc.bind fun o => if f.name == "_" || f.offset != o then none else (cellsI P d' f.type).map (o + ·)) (some a) = some n → a ≤ n := by
                  intro l
                  induction l with
                  | nil => intro a h; simp at h; omega
                  | cons g l ih3 =>
                    intro a h
                    simp only [List.foldl_cons, Option.bind_some] at h
                    split at h
                    · rw [none_stays] at h; cases h
                    · cases hg : cellsI P d' g.type with
                      | none => rw [hg] at h; simp only [Option.map_none, none_stays] at h; cases h
                      | some q =>
                        rw [hg] at h
                        simp only [Option.map_some] at h
                        have := ih3 _ h
                        omega
                exact mono l _ ho
              obtain ⟨v1, r1, k1⟩ := part_I hm xs (o := o) (by omega) w
              obtain ⟨v2, r2, k2⟩ := part_I hm ys (o := o) (by omega) w
              have hn : f.name ≠ "_" := by simpa using hname
              have hr := ih f.type m hm e (by omega) _ _ v1 v2 (by simp; omega) (by simp; omega) k1 k2 w
              simp only [Op.eqFields, if_pos hn, Sem.run_bind, hoff, r1, r2, Result.andThen_ok, hr]
              have h3 := ih2 (o + m) ho
              rw [← beq_split xs ys o m]
              cases hb : ((xs.drop o).take m == (ys.drop o).take m) with
              | true => simp only [Bool.not_true, Bool.false_eq_true, if_false, Bool.true_and]; exact h3
              | false => simp only [Bool.not_false, if_true, Bool.false_and]; rfl
      exact go _ 0 hf

/-- The outcome, place by place. -/
def eqL : List Value → List Value → Option Bool
  | [], [] => some true
  | .int .i64 a :: l, .int .i64 b :: m => (eqL l m).map ((a == b) && ·)
  | _, _ => none

theorem eqL_form : ∀ (l m : List Value) {b : Bool}, eqL l m = some b → ∃ xs ys : List Int, l = xs.map (Value.int .i64) ∧ m = ys.map (Value.int .i64) ∧ xs.length = ys.length ∧ b = (xs == ys)
  | [], [], b, h => by cases h; exact ⟨[], [], rfl, rfl, rfl, rfl⟩
  | [], _ :: _, b, h => by simp [eqL] at h
  | v :: l, [], b, h => by
    have : eqL (v :: l) [] = none := by cases v with | int k a => cases k <;> rfl | _ => rfl
    rw [this] at h; cases h
  | v :: l, u :: m, b, h => by
    have key : (∃ a c, v = .int .i64 a ∧ u = .int .i64 c) ∨ eqL (v :: l) (u :: m) = none := by
      cases v with
      | int k a =>
        cases k with
        | i64 =>
          cases u with
          | int k c =>
            cases k with
            | i64 => exact .inl ⟨a, c, rfl, rfl⟩
            | _ => exact .inr rfl
          | _ => exact .inr rfl
        | _ => exact .inr rfl
      | _ => exact .inr rfl
    rcases key with ⟨a, c, rfl, rfl⟩ | h2
    · have e : eqL (.int .i64 a :: l) (.int .i64 c :: m) = (eqL l m).map ((a == c) && ·) := rfl
      rw [e, Option.map_eq_some_iff] at h
      obtain ⟨q, hq, rfl⟩ := h
      obtain ⟨xs, ys, rfl, rfl, hl, rfl⟩ := eqL_form l m hq
      exact ⟨a :: xs, c :: ys, rfl, rfl, by simp [hl], rfl⟩
    · rw [h2] at h; cases h

def eqN (n : Nat) : Value → Value → Option Bool
  | .agg x, .agg y => if x.size = n ∧ y.size = n then eqL x.toList y.toList else none
  | _, _ => none

def eqNB (P : Program) (T : TypeId) (n : Nat) : Bool := (match P.underlying T with | some (.struct _) => true | _ => false) && decide (cellsI P 6 T = some n) && !P.eqGuardType P.depth T

theorem eqN_ok {T : TypeId} {n : Nat} (h0 : eqNB P T n = true) {x y : Value} {b : Bool} (hb : eqN n x y = some b) (ox oy : Operand) (w : World) :
    (do eqGuard .eql T ox oy x y; binOp .eql T x y : Sem Value).run P w = .ok (.bool b) w ∧ (do eqGuard .neq T ox oy x y; binOp .neq T x y : Sem Value).run P w = .ok (.bool (!b)) w := by
  unfold eqNB at h0
  simp only [Bool.and_eq_true, decide_eq_true_eq, Bool.not_eq_true'] at h0
  obtain ⟨⟨h1, h2⟩, h3⟩ := h0
  have hst : ∃ fs, P.underlying T = some (.struct fs) := by
    split at h1
    · rename_i fs hu; exact ⟨fs, hu⟩
    · cases h1
  unfold eqN at hb
  split at hb
  case h_2 => cases hb
  rename_i a c
  split at hb
  case isFalse => cases hb
  rename_i hsz
  obtain ⟨xs, ys, e1, e2, _, rfl⟩ := eqL_form _ _ hb
  have ha : a = ints xs := by unfold ints; rw [← e1]
  have hc : c = ints ys := by unfold ints; rw [← e2]
  subst ha; subst hc
  have lx : xs.length = n := by simpa [ints] using hsz.1
  have ly : ys.length = n := by simpa [ints] using hsz.2
  have he : (Op.equal T (.agg (ints xs)) (.agg (ints ys))).run P w = .ok (xs == ys) w := by
    unfold Op.equal
    exact eqI 6 T n h2 Op.maxDepth (by decide) xs ys _ _ lx ly (.inr ⟨hst, rfl⟩) (.inr ⟨hst, rfl⟩) w
  have g1 : ∀ op, (op matches .eql | .neq) = true → (eqGuard op T ox oy (.agg (ints xs)) (.agg (ints ys))).run P w = .ok () w := fun op hop => by
    cases op <;> first | (simp at hop; done) | simp [eqGuard, program, Sem.run, h3]
  constructor
  · rw [Sem.run_bind, g1 .eql rfl, Result.andThen_ok]
    simp [binOp, he]
  · rw [Sem.run_bind, g1 .neq rfl, Result.andThen_ok]
    simp [binOp, he]

end Go.Proofs.YtcdkepbgjgcjfaaGreat.Abs
