/- The statement over numbers and lists that is left of the law WideRises; no condition but the kinds of its arguments. -/
import Derived.Test.YtanpjfejnlfpmaaBWide
namespace Go.Proofs.Ytanpjfejnlfpmaa.Pure
open Go.RowKit Go.Proofs.Ytanpjfejnlfpmaa.MWide Go.Proofs.YtanpjfejnlfpmaaW.PrintWords Go.Proofs.YtanpjfejnlfpmaaW.PrintLast Go.Proofs.YtanpjfejnlfpmaaW.PrintMore
set_option linter.unusedVariables false
set_option linter.unusedSimpArgs false

theorem logv_mono (a b : Int) (h : a ≤ b) : wide_Log.v a ≤ wide_Log.v b := by
  by_cases c : a ≤ 0
  · rw [logv_zero a c]
    by_cases d : b ≤ 0
    · rw [logv_zero b d]
      omega
    · obtain ⟨l, hl, _, _⟩ := logv_spec b (by omega)
      rw [hl]
      omega
  · obtain ⟨l, hl, l1, l2⟩ := logv_spec a (by omega)
    obtain ⟨m, hm, m1, m2⟩ := logv_spec b (by omega)
    rw [hl, hm]
    by_cases d : l ≤ m
    · omega
    · have := pow2_mono (m + 1) l (by omega)
      omega

theorem WideRises : analemmalaw01_WideRises.Pure := by
  intro a b c d h1 h2 h3 h4
  have b1 := bounds_u64 h1
  have b2 := bounds_u64 h2
  have b3 := bounds_u64 h3
  have b4 := bounds_u64 h4
  clear h1 h2 h3 h4
  refine ⟨66, ?_⟩
  unfold analemmalaw01_WideRises.f
  obtain ⟨x, hx⟩ : ∃ x, mn a b = x := ⟨_, rfl⟩
  obtain ⟨y, hy⟩ : ∃ y, mx a b = y := ⟨_, rfl⟩
  have bx : 0 ≤ x ∧ x ≤ y ∧ y ≤ 18446744073709551615 := by
    rw [← hx, ← hy]
    unfold mn mx
    split <;> split <;> omega
  rw [hx, hy]
  clear hx hy
  have p1 := mul_bd x c bx.1 (by omega) b3.1 b3.2
  have p2 := mul_bd y c (by omega) bx.2.2 b3.1 b3.2
  have p3 : x * c ≤ y * c := Int.mul_le_mul_of_nonneg_right bx.2.1 b3.1
  rw [mul_eq x c bx.1 (by omega) b3.1 b3.2, mul_eq y c (by omega) bx.2.2 b3.1 b3.2]
  simp only [Option.bind_some]
  rw [less_eq _ _ _ _ (by omega) (by omega) (by omega) (by omega)]
  simp only [Option.bind_some]
  rw [if_neg (by rw [decide_eq_false (by omega)]; decide)]
  obtain ⟨r, hr, r0, r1, r2, r3⟩ := sqrt_eq 66 x c bx.1 (by omega) b3.1 b3.2 (by omega)
  obtain ⟨s, hs, s0, s1, s2, s3⟩ := sqrt_eq 66 y c (by omega) bx.2.2 b3.1 b3.2 (by omega)
  have hrs : r ≤ s := root_one (y * 18446744073709551616 + c) r s r0 s0 (by omega) s3
  rw [hr, hs]
  simp only [Option.bind_some]
  have hl := logv_mono x y bx.2.1
  rw [if_neg (by omega), log_eq x bx.1 (by omega), log_eq y (by omega) bx.2.2]
  simp only [Option.bind_some]
  rw [if_neg (by omega), shown_eq]
  simp only [Option.bind_some, analemmalaw01_WideRises.j0]
  rw [if_neg (by decide)]
  by_cases z : y < d
  · rw [div_yes x c d bx.1 b3.1 b3.2 b4.2 (by omega), div_yes y c d (by omega) b3.1 b3.2 b4.2 z]
    simp only [Option.bind_some, if_true]
    congr 1
    apply decide_eq_true
    exact Int.ediv_le_ediv (by omega) (by omega)
  · rw [div_no y c d (by omega) bx.2.2 b3.1 b3.2 b4.1 b4.2 (by omega)]
    by_cases w : x < d
    · rw [div_yes x c d bx.1 b3.1 b3.2 b4.2 w]
      rfl
    · rw [div_no x c d bx.1 (by omega) b3.1 b3.2 b4.1 b4.2 (by omega)]
      rfl


end Go.Proofs.Ytanpjfejnlfpmaa.Pure
