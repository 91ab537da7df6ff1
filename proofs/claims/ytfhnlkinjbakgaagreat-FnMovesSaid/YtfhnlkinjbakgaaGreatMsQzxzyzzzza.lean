/- Plain laws of the functions on numbers: what the program computes is what the reference computes. -/
import Derived.Test.YtfhnlkinjbakgaaGreatMsReal
import Derived.Test.YtfhnlkinjbakgaaGreatMsQztzuzvzw
import Derived.Test.YtfhnlkinjbakgaaGreatMsF4
set_option linter.unusedVariables false
set_option linter.unusedSimpArgs false
namespace Go.Proofs.YtfhnlkinjbakgaaGreat.Abs
open Go
theorem sq_polar (r t : Rl.R) : r * Rl.sn t * (r * Rl.sn t) + r * Rl.cn t * (r * Rl.cn t) = r * r:=by
  have e : r * Rl.sn t * (r * Rl.sn t) + r * Rl.cn t * (r * Rl.cn t) = r * r * (Rl.cn t * Rl.cn t + Rl.sn t * Rl.sn t):=(Rl.ind3 (P:=fun r s c=>r * s * (r * s) + r * c * (r * c) = r * r * (c * c + s * s)) (fun r s c=>Rl.pt fun n__=>by simp only [Rl.f_add,Rl.f_sub,Rl.f_neg,Rl.f_mul,Rl.f_q]; grind) r (Rl.sn t) (Rl.cn t))
  rw [e,Rl.pyth,Rl.mul_one]
theorem tDirPolar {Y X : Iv} {r t : Rl.R} (hY : Tr Y (r * Rl.sn t)) (hX : Tr X (r * Rl.cn t)) (r0 : Rl.q 0 ≤ r) (t1 : -Rl.pi < t) (t2 : t ≤ Rl.pi) : Tr (S_DirectionI Y X) t:=fun o=>by
  have k:=Dir_known o hY hX
  rw [Rl.add_comm,sq_polar] at k
  have rp : Rl.q 0 < r:=fun c=>by
    rw [Rl.le_antisymm c r0,Rl.mul_zero] at k
    exact k (Rl.le_refl _)
  exact tDirS hY hX (dir_scale rp t1 t2) o
end Go.Proofs.YtfhnlkinjbakgaaGreat.Abs
