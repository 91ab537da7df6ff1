/- Plain laws of the functions on numbers: what the program computes is what the reference computes. -/
import Derived.Test.YtfhnlkinjbakgaaGreatMsReal
import Derived.Test.YtfhnlkinjbakgaaGreatMsQzpzqzrzs
import Derived.Test.YtfhnlkinjbakgaaGreatMsF4
set_option linter.unusedVariables false
set_option linter.unusedSimpArgs false
namespace Go.Proofs.YtfhnlkinjbakgaaGreat.Abs
open Go
theorem Bd.of {N : Int} {z : Iv} (h : Bo N z) (o : S_l04Ok z = true) : Bd N z:=⟨o,h o⟩
theorem Bo.half {z : Iv} {N M : Int} (h : Bo N z) (hM : N + 1 ≤ 2 * M) : Bo M (S_HalfI z):=fun ho=>by
  unfold S_HalfI at ho ⊢
  simp only [bindP_e] at ho ⊢
  cases h1 : S_l04Ok z with
  | false=>rw [h1] at ho; simp only [Bool.not_false,cond_t] at ho; exact absurd ho (by decide)
  | true=>
    rw [h1] at ho
    simp only [Bool.not_true,cond_f] at ho ⊢
    rw [Make_out ho]
    have a:=h h1
    have p:=Ok4p h1
    have w : (w64 (z.hi.val + 1)).val = z.hi.val + 1:=by rw [w64_val]; omega
    show -M ≤ (ishr z.lo 1).val ∧ (ishr (w64 (z.hi.val + 1)) 1).val ≤ M
    rw [shr1_val,shr1_val,w]
    omega
end Go.Proofs.YtfhnlkinjbakgaaGreat.Abs
