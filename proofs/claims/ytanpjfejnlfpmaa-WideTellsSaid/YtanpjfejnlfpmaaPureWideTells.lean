/- The statement over numbers and lists that is left of the law WideTells; no condition but the kinds of its arguments. -/
import Derived.Test.YtanpjfejnlfpmaaBWide
import Derived.Test.YtanpjfejnlfpmaaMWidex5
namespace Go.Proofs.Ytanpjfejnlfpmaa.Pure
open Go.RowKit Go.Proofs.Ytanpjfejnlfpmaa.MWide Go.Proofs.YtanpjfejnlfpmaaW.PrintWords Go.Proofs.YtanpjfejnlfpmaaW.PrintLast Go.Proofs.YtanpjfejnlfpmaaW.PrintMore
set_option linter.unusedVariables false
set_option linter.unusedSimpArgs false

theorem WideTells : analemmalaw01_WideTells.Pure := by
  intro a b c d h1 h2 h3 h4
  have b1 := bounds_u64 h1
  have b2 := bounds_u64 h2
  have b3 := bounds_u64 h3
  have b4 := bounds_u64 h4
  clear h1 h2 h3 h4
  refine ⟨140, ?_⟩
  obtain ⟨r, hr, r0, r1, r2, r3⟩ := sqrt_eq 140 a b b1.1 b1.2 b2.1 b2.2 (by omega)
  obtain ⟨s, hs, s0, s1, s2, s3⟩ := rsqrt_eq 140 a b b1.1 b1.2 b2.1 b2.2 (by omega)
  have hrs : r = s := root_eq _ r s r0 s0 r2 r3 s2 s3
  have hd : analemmaref01_Div.f 140 a b c = wide_Div.f a b c := by
    by_cases z : a < c
    · rw [div_yes a b c b1.1 b2.1 b2.2 b3.2 z, rdiv_yes 140 a b c b1.1 b2.1 b2.2 z b3.2 (by omega)]
    · rw [div_no a b c b1.1 b1.2 b2.1 b2.2 b3.1 b3.2 (by omega), rdiv_no 140 a b c (by omega)]
  obtain ⟨x, hx⟩ : ∃ x, wide_Div.f a b c = some x := by
    by_cases z : a < c
    · exact ⟨_, div_yes a b c b1.1 b2.1 b2.2 b3.2 z⟩
    · exact ⟨_, div_no a b c b1.1 b1.2 b2.1 b2.2 b3.1 b3.2 (by omega)⟩
  unfold analemmalaw01_WideTells.f
  rw [mul_eq a b b1.1 b1.2 b2.1 b2.2, rmul_eq 140 a b b1.1 b1.2 b2.1 b2.2 (by omega), hd, hx, plus_eq a b c d b1.1 b1.2 b2.1 b2.2 b3.1 b3.2 b4.1 b4.2, rplus_eq a b c d b1.1 b1.2 b2.1 b2.2 b3.1 b3.2 b4.1 b4.2,
    less_eq a b c d b2.1 b2.2 b4.1 b4.2, rless_eq a b c d b2.1 b2.2 b4.1 b4.2, hr, hs, log_eq a b1.1 b1.2, rlog_eq 140 a b1.1 b1.2 (by omega), shown_eq, hrs]
  simp only [Option.bind_some, if_true, beq_self_eq_true]


end Go.Proofs.Ytanpjfejnlfpmaa.Pure
