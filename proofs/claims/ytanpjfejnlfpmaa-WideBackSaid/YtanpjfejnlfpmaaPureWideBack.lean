/- The statement over numbers and lists that is left of the law WideBack; no condition but the kinds of its arguments. -/
import Derived.Test.YtanpjfejnlfpmaaBWide
namespace Go.Proofs.Ytanpjfejnlfpmaa.Pure
open Go.RowKit Go.Proofs.Ytanpjfejnlfpmaa.MWide Go.Proofs.YtanpjfejnlfpmaaW.PrintWords Go.Proofs.YtanpjfejnlfpmaaW.PrintLast Go.Proofs.YtanpjfejnlfpmaaW.PrintMore
set_option linter.unusedVariables false
set_option linter.unusedSimpArgs false

theorem WideBack : analemmalaw01_WideBack.Pure := by
  intro hi lo d h1 h2 h3
  have b1 := bounds_u64 h1
  have b2 := bounds_u64 h2
  have b3 := bounds_u64 h3
  clear h1 h2 h3
  refine ⟨1, ?_⟩
  unfold analemmalaw01_WideBack.f
  by_cases c : hi < d
  · rw [div_yes hi lo d b1.1 b2.1 b2.2 b3.2 c]
    simp only [Option.bind_some]
    rw [if_neg (by rw [decide_eq_true c]; decide), shown_eq]
    simp only [Option.bind_some, analemmalaw01_WideBack.j0]
    rw [if_neg (by decide), if_pos trivial]
    obtain ⟨q0, q1, r0, r1⟩ := quot_bd hi lo d b1.1 b2.1 b2.2 c
    have e := Int.mul_ediv_add_emod (hi * 18446744073709551616 + lo) d
    obtain ⟨q, hq⟩ : ∃ q, (hi * 18446744073709551616 + lo) / d = q := ⟨_, rfl⟩
    obtain ⟨r, hr⟩ : ∃ r, (hi * 18446744073709551616 + lo) % d = r := ⟨_, rfl⟩
    rw [hq] at q0 q1 e ⊢
    rw [hr] at r0 r1 e ⊢
    rw [Int.mul_comm] at e
    rw [mul_eq q d q0 q1 b3.1 b3.2]
    simp only [Option.bind_some]
    obtain ⟨p, hp⟩ : ∃ p, q * d = p := ⟨_, rfl⟩
    rw [hp] at e ⊢
    have hp0 : 0 ≤ p := by rw [← hp]; exact Int.mul_nonneg q0 b3.1
    rw [plus_eq _ _ _ _ (by omega) (by omega) (by omega) (by omega) (by omega) (by omega) (by omega) (by omega)]
    simp only [Option.bind_some]
    rw [if_pos r1, if_neg (by rw [decide_eq_false (by omega)]; decide), if_pos (by omega)]
    congr 1
    rw [beq_iff_eq]
    omega
  · rw [div_no hi lo d b1.1 b1.2 b2.1 b2.2 b3.1 b3.2 (by omega)]
    simp only [Option.bind_some]
    rw [if_neg (by rw [decide_eq_false c]; decide), shown_eq]
    simp only [Option.bind_some, analemmalaw01_WideBack.j0]
    rfl


end Go.Proofs.Ytanpjfejnlfpmaa.Pure
