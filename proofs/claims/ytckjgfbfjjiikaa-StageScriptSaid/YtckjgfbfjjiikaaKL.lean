/- A number brought below another one. -/
import Derived.Test.YtckjgfbfjjiikaaT
set_option linter.unusedVariables false
set_option linter.unusedSimpArgs false
namespace Go.Proofs.Ytckjgfbfjjiikaa.K
open Go.RowKit Go.Proofs.YtckjgfbfjjiikaaW.PrintWords Go.Proofs.YtckjgfbfjjiikaaW.PrintLast Go.Proofs.YtckjgfbfjjiikaaW.PrintMore Go.Proofs.Ytckjgfbfjjiikaa.U Go.Proofs.Ytckjgfbfjjiikaa.T
/-- Low. -/
def lowN (x n : Int) : Int := x % 18446744073709551616 % n
theorem lowN_range (x n : Int) (h : 1 ≤ n) : 0 ≤ lowN x n ∧ lowN x n < n := by
  unfold lowN
  exact ⟨Int.emod_nonneg _ (by omega), Int.emod_lt_of_pos _ (by omega)⟩
theorem low (x n : Int) (w : World) (h1 : 1 ≤ n) (h2 : n ≤ 9223372036854775807) : Calls Try.prog 20 #[.int .i64 x, .int .i64 n] w fun e w' => e = .returned (.int .i64 (lowN x n)) ∧ w' = w := by
  have hfin : wrap64 ((IntKind.u64.wrap x).tmod n) = lowN x n := by
    have hr := lowN_range x n h1
    rw [u64_wrap, Int.tmod_eq_emod_of_nonneg (by omega)]
    show wrap64 (lowN x n) = lowN x n
    unfold wrap64
    omega
  have HF := Aside0.mk hfin
  have hn0 : (n == 0) = false := by simp; omega
  clear hfin
  go_enter Try.func20, Try.ntmps20
  go_wp2_with fail
  go_ret
  exact ⟨by rw [← HF.out]; rfl, rfl⟩
end Go.Proofs.Ytckjgfbfjjiikaa.K
