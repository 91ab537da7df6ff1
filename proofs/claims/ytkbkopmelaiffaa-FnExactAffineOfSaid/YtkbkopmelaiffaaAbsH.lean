/- The abstract machine: loops whose rounds vary; branches that are never taken. -/
import Derived.Test.YtkbkopmelaiffaaAbsR
namespace Go.Proofs.Ytkbkopmelaiffaa.Abs
open Go Go.RowKit

/-- What is left at the head of each loop of a code, in the text's order. -/
def loopsOf : Code → List Item → List (List Item)
  | .seq a b, r => loopsOf a (.code b :: r) ++ loopsOf b r
  | .cond _ x y, r => loopsOf x r ++ loopsOf y r
  | .block id body, r => loopsOf body (.inBlock id :: r)
  | .loop body, r => (.code body :: .inLoop body :: r) :: loopsOf body (.inLoop body :: r)
  | _, _ => []

def loopAt (fn : Func) (k : Nat) : List Item :=
  match fn.body with
  | some c => (loopsOf c []).getD k []
  | none => []

/-- The slots that a loop's round fills anew are blanked. -/
def maskA (t : Array Value) (M : List Nat) : Array Value := M.foldl (fun a i => a.setIfInBounds i undef) t
def fillM (t : Array Value) (M : List Nat) (g : Nat → Value) : Array Value := M.foldl (fun a i => a.setIfInBounds i (g i)) t

theorem fillM_size (M : List Nat) : ∀ (t : Array Value) (g : Nat → Value), (fillM t M g).size = t.size := by
  induction M with
  | nil => intro t g; rfl
  | cons a M ih => intro t g; show (fillM (t.setIfInBounds a (g a)) M g).size = _; rw [ih]; simp

theorem fillM_get (M : List Nat) : ∀ (t : Array Value) (g : Nat → Value) (i : Nat), (fillM t M g)[i]? = if i ∈ M ∧ i < t.size then some (g i) else t[i]? := by
  induction M with
  | nil => intro t g i; simp [fillM]
  | cons a M ih =>
    intro t g i
    show (fillM (t.setIfInBounds a (g a)) M g)[i]? = _
    rw [ih]
    by_cases h : i ∈ M ∧ i < t.size
    · rw [if_pos (by simpa using h), if_pos ⟨by simp [h.1], h.2⟩]
    · rw [if_neg (by simpa using h)]
      by_cases e : a = i
      · subst e
        rw [Array.getElem?_setIfInBounds_self]
        by_cases hl : a < t.size
        · rw [if_pos hl, if_pos ⟨by simp, hl⟩]
        · rw [if_neg hl, if_neg (fun q => hl q.2)]
          simp [Array.getElem?_eq_none (Nat.le_of_not_lt hl)]
      · rw [Array.getElem?_setIfInBounds_ne e]
        by_cases hl : i < t.size
        · have : ¬ i ∈ M := fun q => h ⟨q, hl⟩
          rw [if_neg]
          rintro ⟨q, _⟩
          rcases List.mem_cons.1 q with q | q
          · exact e q.symm
          · exact this q
        · rw [if_neg (fun q => hl q.2)]

theorem unmask {t lit : Array Value} {M : List Nat} (h : maskA t M = lit) : ∃ g, t = fillM lit M g := by
  refine ⟨fun i => t.getD i undef, ?_⟩
  subst h
  have e : maskA t M = fillM t M (fun _ => undef) := rfl
  refine Array.ext_getElem? fun i => ?_
  rw [fillM_get, e, fillM_size, fillM_get]
  by_cases hm : i ∈ M ∧ i < t.size
  · rw [if_pos hm]
    simp [hm.2]
  · rw [if_neg hm, if_neg hm]

variable {P : Program} {E : Eqs} {f : FuncId} {fn : Func} {tr : T} {R : Value → List Blk → Prop}

/-- At a loop's head: the loop's own theorem. -/
theorem Run.l {M : List Nat} {lit : Array Value} {td : List Item} {H : List Blk} (h0 : tr.isHead = true) (h1 : tr.todoOf = td) (h2 : maskA tr.tmpsOf M = lit) (h3 : tr.blksOf = H) (h : ∀ t, maskA t M = lit → Cfg P f td t H R) : Run P f R tr :=
  Run.h h0 h1 rfl h3 (h _ h2)

/-- The loop's own theorem, a round. -/
theorem Cfg.round {M : List Nat} {lit t : Array Value} {td : List Item} {H : List Blk} (hE : EqsOk P E) (hm : P.follows .mixedOrders = true) (hf : P.funcs[f]? = some fn) (ht : maskA t M = lit) (h : ∀ g, Run P f R (exec P E fn 400 td (fillM lit M g) H)) : Cfg P f td t H R := by
  obtain ⟨g, rfl⟩ := unmask ht
  exact exec_cfg hE hm hf 400 _ _ _ _ (h g)

end Go.Proofs.Ytkbkopmelaiffaa.Abs
