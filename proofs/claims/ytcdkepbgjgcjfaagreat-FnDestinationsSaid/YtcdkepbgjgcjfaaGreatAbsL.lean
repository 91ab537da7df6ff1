/- A law's arguments: what a struct of whole numbers is when it comes in. -/
import Derived.Test.YtcdkepbgjgcjfaaGreatAbsR
import Derived.WalkKit
import Derived.ProofKit
import Derived.OpenShut
import Derived.ShutString
import Derived.ChangeOld
import Derived.Below
import Derived.SizedLaws
namespace Go.Proofs.YtcdkepbgjgcjfaaGreat.Abs
open Go Go.RowKit

theorem cell_i64 {P : Program} {w : World} {base : Nat} {t : TypeId} {v : Value} (ht : isKind P t .i64 = true) (h : Cell.okWide P w .any base t v) : ∃ x : I64, v = .int .i64 x.val := by
  have hu := isKind_spec ht
  simp only [Cell.okWide, hu] at h
  cases v <;> simp [Cell.ok, hu] at h
  obtain ⟨rfl, h⟩ := h
  exact ⟨⟨_, h⟩, rfl⟩

def allI64 (P : Program) (t : TypeId) (n : Nat) : Bool :=
  (match P.underlying t with | some (.struct _) => true | _ => false) && decide (P.cellsOf t = n) && (match P.cellTypes P.depth t with | some ts => ts.all (isKind P · .i64) && decide (ts.length = n) | none => false)

theorem open_i64s {P : Program} {w : World} {base : Nat} {t : TypeId} {n : Nat} {v : Value} (hb : allI64 P t n = true) (h : Value.okWide P w .any base t v) : ∃ xs : List I64, xs.length = n ∧ v = .agg (xs.map fun x => Value.int .i64 x.val).toArray := by
  unfold allI64 at hb
  simp only [Bool.and_eq_true, decide_eq_true_eq] at hb
  obtain ⟨⟨h1, h2⟩, h3⟩ := hb
  split at h1
  case h_2 => cases h1
  rename_i fs hu
  simp only [Value.okWide, hu] at h
  obtain ⟨cs, rfl, hs, ts, hts, _, hc⟩ := h
  rw [hts] at h3
  simp only [Bool.and_eq_true, decide_eq_true_eq, List.all_eq_true] at h3
  have key : ∀ l : List Value, (∀ v ∈ l, ∃ x : I64, v = .int .i64 x.val) → ∃ xs : List I64, l = xs.map fun x => Value.int .i64 x.val := by
    intro l
    induction l with
    | nil => intro _; exact ⟨[], rfl⟩
    | cons a l ih =>
      intro hl
      obtain ⟨x, rfl⟩ := hl a (by simp)
      obtain ⟨xs, rfl⟩ := ih fun v hv => hl v (by simp [hv])
      exact ⟨x :: xs, rfl⟩
  obtain ⟨xs, hx⟩ := key cs.toList fun v hv => by
    obtain ⟨i, hi, rfl⟩ := List.mem_iff_getElem.1 hv
    obtain ⟨u, hu', hok⟩ := hc i _ (by rw [Array.getElem?_eq_getElem (by simpa using hi)])
    exact cell_i64 (h3.1 u (List.mem_of_getElem? hu')) hok
  refine ⟨xs, ?_, ?_⟩
  · have := congrArg List.length hx
    simp at this
    omega
  · have : cs = (xs.map fun x => Value.int .i64 x.val).toArray := by rw [← hx]
    rw [this]

theorem open_I {P : Program} {w : World} {base : Nat} {t : TypeId} {v : Value} (ht : isKind P t .i64 = true) (h : Value.okWide P w .any base t v) : ∃ x : I64, v = vI x := by
  have hu := isKind_spec ht
  have h' : Cell.okWide P w .any base t v := by simpa only [Value.okWide, hu] using h
  exact cell_i64 ht h'

theorem cons_of {n : Nat} {xs : List I64} (h : xs.length = n + 1) : ∃ x ys, xs = x :: ys ∧ ys.length = n := by
  cases xs with
  | nil => cases h
  | cons x ys => exact ⟨x, ys, rfl, by simpa using h⟩

theorem nil_of {xs : List I64} (h : xs.length = 0) : xs = [] := List.length_eq_zero_iff.1 h

theorem open_Iv {P : Program} {w : World} {base : Nat} {t : TypeId} {v : Value} (hb : allI64 P t 2 = true) (h : Value.okWide P w .any base t v) : ∃ a : Iv, v = vIv a := by
  obtain ⟨xs, hn, rfl⟩ := open_i64s hb h
  obtain ⟨x0, l0, rfl, n0⟩ := cons_of hn
  obtain ⟨x1, l1, rfl, n1⟩ := cons_of n0
  cases nil_of n1
  exact ⟨⟨x0, x1⟩, rfl⟩

theorem open_Pt {P : Program} {w : World} {base : Nat} {t : TypeId} {v : Value} (hb : allI64 P t 2 = true) (h : Value.okWide P w .any base t v) : ∃ a : Pt, v = vPt a := by
  obtain ⟨xs, hn, rfl⟩ := open_i64s hb h
  obtain ⟨x0, l0, rfl, n0⟩ := cons_of hn
  obtain ⟨x1, l1, rfl, n1⟩ := cons_of n0
  cases nil_of n1
  exact ⟨⟨x0, x1⟩, rfl⟩

theorem open_El {P : Program} {w : World} {base : Nat} {t : TypeId} {v : Value} (hb : allI64 P t 3 = true) (h : Value.okWide P w .any base t v) : ∃ a : El, v = vEl a := by
  obtain ⟨xs, hn, rfl⟩ := open_i64s hb h
  obtain ⟨x0, l0, rfl, n0⟩ := cons_of hn
  obtain ⟨x1, l1, rfl, n1⟩ := cons_of n0
  obtain ⟨x2, l2, rfl, n2⟩ := cons_of n1
  cases nil_of n2
  exact ⟨⟨x0, x1, x2⟩, rfl⟩

theorem open_Pl {P : Program} {w : World} {base : Nat} {t : TypeId} {v : Value} (hb : allI64 P t 3 = true) (h : Value.okWide P w .any base t v) : ∃ a : Pl, v = vPl a := by
  obtain ⟨xs, hn, rfl⟩ := open_i64s hb h
  obtain ⟨x0, l0, rfl, n0⟩ := cons_of hn
  obtain ⟨x1, l1, rfl, n1⟩ := cons_of n0
  obtain ⟨x2, l2, rfl, n2⟩ := cons_of n1
  cases nil_of n2
  exact ⟨⟨⟨x0, x1⟩, x2⟩, rfl⟩

theorem open_Pj {P : Program} {w : World} {base : Nat} {t : TypeId} {v : Value} (hb : allI64 P t 5 = true) (h : Value.okWide P w .any base t v) : ∃ a : Pj, v = vPj a := by
  obtain ⟨xs, hn, rfl⟩ := open_i64s hb h
  obtain ⟨x0, l0, rfl, n0⟩ := cons_of hn
  obtain ⟨x1, l1, rfl, n1⟩ := cons_of n0
  obtain ⟨x2, l2, rfl, n2⟩ := cons_of n1
  obtain ⟨x3, l3, rfl, n3⟩ := cons_of n2
  obtain ⟨x4, l4, rfl, n4⟩ := cons_of n3
  cases nil_of n4
  exact ⟨⟨x0, x1, x2, x3, x4⟩, rfl⟩

theorem open_Pn {P : Program} {w : World} {base : Nat} {t : TypeId} {v : Value} (hb : allI64 P t 4 = true) (h : Value.okWide P w .any base t v) : ∃ a : Pn, v = vPn a := by
  obtain ⟨xs, hn, rfl⟩ := open_i64s hb h
  obtain ⟨x0, l0, rfl, n0⟩ := cons_of hn
  obtain ⟨x1, l1, rfl, n1⟩ := cons_of n0
  obtain ⟨x2, l2, rfl, n2⟩ := cons_of n1
  obtain ⟨x3, l3, rfl, n3⟩ := cons_of n2
  cases nil_of n3
  exact ⟨⟨⟨x0, x1⟩, ⟨x2, x3⟩⟩, rfl⟩

theorem open_Sf {P : Program} {w : World} {base : Nat} {t : TypeId} {v : Value} (hb : allI64 P t 7 = true) (h : Value.okWide P w .any base t v) : ∃ a : Sf, v = vSf a := by
  obtain ⟨xs, hn, rfl⟩ := open_i64s hb h
  obtain ⟨x0, l0, rfl, n0⟩ := cons_of hn
  obtain ⟨x1, l1, rfl, n1⟩ := cons_of n0
  obtain ⟨x2, l2, rfl, n2⟩ := cons_of n1
  obtain ⟨x3, l3, rfl, n3⟩ := cons_of n2
  obtain ⟨x4, l4, rfl, n4⟩ := cons_of n3
  obtain ⟨x5, l5, rfl, n5⟩ := cons_of n4
  obtain ⟨x6, l6, rfl, n6⟩ := cons_of n5
  cases nil_of n6
  exact ⟨⟨x0, x1, x2, x3, x4, x5, x6⟩, rfl⟩

theorem open_Vc {P : Program} {w : World} {base : Nat} {t : TypeId} {v : Value} (hb : allI64 P t 6 = true) (h : Value.okWide P w .any base t v) : ∃ a : Vc, v = vVc a := by
  obtain ⟨xs, hn, rfl⟩ := open_i64s hb h
  obtain ⟨x0, l0, rfl, n0⟩ := cons_of hn
  obtain ⟨x1, l1, rfl, n1⟩ := cons_of n0
  obtain ⟨x2, l2, rfl, n2⟩ := cons_of n1
  obtain ⟨x3, l3, rfl, n3⟩ := cons_of n2
  obtain ⟨x4, l4, rfl, n4⟩ := cons_of n3
  obtain ⟨x5, l5, rfl, n5⟩ := cons_of n4
  cases nil_of n5
  exact ⟨⟨⟨x0, x1⟩, ⟨x2, x3⟩, ⟨x4, x5⟩⟩, rfl⟩

theorem open_Mt {P : Program} {w : World} {base : Nat} {t : TypeId} {v : Value} (hb : allI64 P t 18 = true) (h : Value.okWide P w .any base t v) : ∃ a : Mt, v = vMt a := by
  obtain ⟨xs, hn, rfl⟩ := open_i64s hb h
  obtain ⟨x0, l0, rfl, n0⟩ := cons_of hn
  obtain ⟨x1, l1, rfl, n1⟩ := cons_of n0
  obtain ⟨x2, l2, rfl, n2⟩ := cons_of n1
  obtain ⟨x3, l3, rfl, n3⟩ := cons_of n2
  obtain ⟨x4, l4, rfl, n4⟩ := cons_of n3
  obtain ⟨x5, l5, rfl, n5⟩ := cons_of n4
  obtain ⟨x6, l6, rfl, n6⟩ := cons_of n5
  obtain ⟨x7, l7, rfl, n7⟩ := cons_of n6
  obtain ⟨x8, l8, rfl, n8⟩ := cons_of n7
  obtain ⟨x9, l9, rfl, n9⟩ := cons_of n8
  obtain ⟨x10, l10, rfl, n10⟩ := cons_of n9
  obtain ⟨x11, l11, rfl, n11⟩ := cons_of n10
  obtain ⟨x12, l12, rfl, n12⟩ := cons_of n11
  obtain ⟨x13, l13, rfl, n13⟩ := cons_of n12
  obtain ⟨x14, l14, rfl, n14⟩ := cons_of n13
  obtain ⟨x15, l15, rfl, n15⟩ := cons_of n14
  obtain ⟨x16, l16, rfl, n16⟩ := cons_of n15
  obtain ⟨x17, l17, rfl, n17⟩ := cons_of n16
  cases nil_of n17
  exact ⟨⟨⟨⟨x0, x1⟩, ⟨x2, x3⟩, ⟨x4, x5⟩⟩, ⟨⟨x6, x7⟩, ⟨x8, x9⟩, ⟨x10, x11⟩⟩, ⟨⟨x12, x13⟩, ⟨x14, x15⟩, ⟨x16, x17⟩⟩⟩, rfl⟩

theorem open_Af {P : Program} {w : World} {base : Nat} {t : TypeId} {v : Value} (hb : allI64 P t 24 = true) (h : Value.okWide P w .any base t v) : ∃ a : Af, v = vAf a := by
  obtain ⟨xs, hn, rfl⟩ := open_i64s hb h
  obtain ⟨x0, l0, rfl, n0⟩ := cons_of hn
  obtain ⟨x1, l1, rfl, n1⟩ := cons_of n0
  obtain ⟨x2, l2, rfl, n2⟩ := cons_of n1
  obtain ⟨x3, l3, rfl, n3⟩ := cons_of n2
  obtain ⟨x4, l4, rfl, n4⟩ := cons_of n3
  obtain ⟨x5, l5, rfl, n5⟩ := cons_of n4
  obtain ⟨x6, l6, rfl, n6⟩ := cons_of n5
  obtain ⟨x7, l7, rfl, n7⟩ := cons_of n6
  obtain ⟨x8, l8, rfl, n8⟩ := cons_of n7
  obtain ⟨x9, l9, rfl, n9⟩ := cons_of n8
  obtain ⟨x10, l10, rfl, n10⟩ := cons_of n9
  obtain ⟨x11, l11, rfl, n11⟩ := cons_of n10
  obtain ⟨x12, l12, rfl, n12⟩ := cons_of n11
  obtain ⟨x13, l13, rfl, n13⟩ := cons_of n12
  obtain ⟨x14, l14, rfl, n14⟩ := cons_of n13
  obtain ⟨x15, l15, rfl, n15⟩ := cons_of n14
  obtain ⟨x16, l16, rfl, n16⟩ := cons_of n15
  obtain ⟨x17, l17, rfl, n17⟩ := cons_of n16
  obtain ⟨x18, l18, rfl, n18⟩ := cons_of n17
  obtain ⟨x19, l19, rfl, n19⟩ := cons_of n18
  obtain ⟨x20, l20, rfl, n20⟩ := cons_of n19
  obtain ⟨x21, l21, rfl, n21⟩ := cons_of n20
  obtain ⟨x22, l22, rfl, n22⟩ := cons_of n21
  obtain ⟨x23, l23, rfl, n23⟩ := cons_of n22
  cases nil_of n23
  exact ⟨⟨⟨⟨⟨x0, x1⟩, ⟨x2, x3⟩, ⟨x4, x5⟩⟩, ⟨⟨x6, x7⟩, ⟨x8, x9⟩, ⟨x10, x11⟩⟩, ⟨⟨x12, x13⟩, ⟨x14, x15⟩, ⟨x16, x17⟩⟩⟩, ⟨⟨x18, x19⟩, ⟨x20, x21⟩, ⟨x22, x23⟩⟩⟩, rfl⟩

end Go.Proofs.YtcdkepbgjgcjfaaGreat.Abs
