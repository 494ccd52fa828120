/- The statement over numbers and lists that is left of the law WideSquares; no condition but the kinds of its arguments. -/
import Derived.Test.YtanpjfejnlfpmaaBWide
namespace Go.Proofs.Ytanpjfejnlfpmaa.Pure
open Go.RowKit Go.Proofs.Ytanpjfejnlfpmaa.MWide Go.Proofs.YtanpjfejnlfpmaaW.PrintWords Go.Proofs.YtanpjfejnlfpmaaW.PrintLast Go.Proofs.YtanpjfejnlfpmaaW.PrintMore
set_option linter.unusedVariables false
set_option linter.unusedSimpArgs false

theorem WideSquares : analemmalaw01_WideSquares.Pure := by
  intro a b h1 h2
  have b1 := bounds_u64 h1
  have b2 := bounds_u64 h2
  clear h1 h2
  refine ⟨65, ?_⟩
  unfold analemmalaw01_WideSquares.f
  have pb := mul_bd a a b1.1 b1.2 b1.1 b1.2
  rw [mul_eq a b b1.1 b1.2 b2.1 b2.2, mul_eq b a b2.1 b2.2 b1.1 b1.2, mul_eq a a b1.1 b1.2 b1.1 b1.2]
  simp only [Option.bind_some]
  rw [if_pos (by rw [Int.mul_comm]), if_pos (by rw [Int.mul_comm])]
  obtain ⟨r, hr, r0, r1, r2, r3⟩ := sqrt_eq 65 (a * a / 18446744073709551616) (a * a % 18446744073709551616) (by omega) (by omega) (by omega) (by omega) (by omega)
  have e : a * a / 18446744073709551616 * 18446744073709551616 + a * a % 18446744073709551616 = a * a := by omega
  rw [e] at r2 r3
  have q : a * a < (a + 1) * (a + 1) := by
    rw [Int.add_mul, Int.mul_add]
    omega
  have er : r = a := root_eq (a * a) r a r0 b1.1 r2 r3 (by omega) q
  rw [hr]
  simp only [Option.bind_some]
  rw [if_pos er, shown_eq]
  rfl


end Go.Proofs.Ytanpjfejnlfpmaa.Pure
