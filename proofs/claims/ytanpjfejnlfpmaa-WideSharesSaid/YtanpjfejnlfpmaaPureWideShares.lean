/- The statement over numbers and lists that is left of the law WideShares; no condition but the kinds of its arguments. -/
import Derived.Test.YtanpjfejnlfpmaaBWide
namespace Go.Proofs.Ytanpjfejnlfpmaa.Pure
open Go.RowKit Go.Proofs.Ytanpjfejnlfpmaa.MWide Go.Proofs.YtanpjfejnlfpmaaW.PrintWords Go.Proofs.YtanpjfejnlfpmaaW.PrintLast Go.Proofs.YtanpjfejnlfpmaaW.PrintMore
set_option linter.unusedVariables false
set_option linter.unusedSimpArgs false

theorem share_div (a b r : Int) (hb : 0 < b) (h0 : 0 ≤ r) (h1 : r < b) : (a * b + r) / b = a ∧ (a * b + r) % b = r := by
  have e1 : (a * b + r) / b = a := by
    rw [Int.add_comm, Int.add_mul_ediv_right _ _ (by omega), Int.ediv_eq_zero_of_lt h0 h1]
    omega
  refine ⟨e1, ?_⟩
  have e2 := Int.mul_ediv_add_emod (a * b + r) b
  rw [e1, Int.mul_comm] at e2
  omega

theorem WideShares : analemmalaw01_WideShares.Pure := by
  intro a b r h1 h2 h3
  have b1 := bounds_u64 h1
  have b2 := bounds_u64 h2
  have b3 := bounds_u64 h3
  clear h1 h2 h3
  unfold analemmalaw01_WideShares.f
  have pb := mul_bd a b b1.1 b1.2 b2.1 b2.2
  rw [mul_eq a b b1.1 b1.2 b2.1 b2.2]
  simp only [Option.bind_some]
  by_cases c : b = 0
  · subst c
    rw [Int.mul_zero, div_no _ _ 0 (by omega) (by omega) (by omega) (by omega) (by omega) (by omega) (by omega)]
    simp only [Option.bind_some]
    rw [if_pos trivial, if_neg (by decide), if_pos trivial, if_pos trivial, shown_eq]
    rfl
  · have et : Int.tmod r b = r % b := Int.tmod_eq_emod_of_nonneg b3.1
    have m0 := Int.emod_nonneg r (b := b) c
    have m1 := Int.emod_lt_of_pos r (b := b) (by omega)
    rw [et]
    obtain ⟨m, hm⟩ : ∃ m, r % b = m := ⟨_, rfl⟩
    rw [hm] at m0 m1 ⊢
    have hlt : a * b / 18446744073709551616 < b := Int.ediv_lt_of_lt_mul (by omega) (by
      have : a * b ≤ 18446744073709551615 * b := Int.mul_le_mul_of_nonneg_right b1.2 b2.1
      omega)
    have hle : a * b ≤ 18446744073709551615 * b := Int.mul_le_mul_of_nonneg_right b1.2 b2.1
    obtain ⟨s1, s2⟩ := share_div a b 0 (by omega) (by omega) (by omega)
    obtain ⟨s3, s4⟩ := share_div a b m (by omega) m0 m1
    obtain ⟨p, hp⟩ : ∃ p, a * b = p := ⟨_, rfl⟩
    rw [hp] at pb hlt hle s1 s2 s3 s4 ⊢
    rw [div_yes _ _ b (by omega) (by omega) (by omega) b2.2 hlt]
    have e1 : p / 18446744073709551616 * 18446744073709551616 + p % 18446744073709551616 = p + 0 := by omega
    rw [e1, s1, s2]
    simp only [Option.bind_some]
    rw [if_neg c, plus_eq _ _ _ _ (by omega) (by omega) (by omega) (by omega) (by omega) (by omega) (by omega) (by omega)]
    simp only [Option.bind_some]
    rw [div_yes _ _ b (by omega) (by omega) (by omega) b2.2 (by omega)]
    have e2 : (p / 18446744073709551616 + 0 + (p % 18446744073709551616 + m) / 18446744073709551616) % 18446744073709551616 * 18446744073709551616 + (p % 18446744073709551616 + m) % 18446744073709551616 = p + m := by omega
    rw [e2, s3, s4]
    simp only [Option.bind_some, if_true]
    rw [if_neg (by rw [decide_eq_false (by omega)]; decide), shown_eq]
    rfl


end Go.Proofs.Ytanpjfejnlfpmaa.Pure
