/- The statement over numbers and lists that is left of the law WideRoots; no condition but the kinds of its arguments. -/
import Derived.Test.YtanpjfejnlfpmaaBWide
namespace Go.Proofs.Ytanpjfejnlfpmaa.Pure
open Go.RowKit Go.Proofs.Ytanpjfejnlfpmaa.MWide Go.Proofs.YtanpjfejnlfpmaaW.PrintWords Go.Proofs.YtanpjfejnlfpmaaW.PrintLast Go.Proofs.YtanpjfejnlfpmaaW.PrintMore
set_option linter.unusedVariables false
set_option linter.unusedSimpArgs false

theorem WideRoots : analemmalaw01_WideRoots.Pure := by
  intro hi lo h1 h2
  have b1 := bounds_u64 h1
  have b2 := bounds_u64 h2
  clear h1 h2
  refine ⟨65, ?_⟩
  unfold analemmalaw01_WideRoots.f
  obtain ⟨r, hr, r0, r1, r2, r3⟩ := sqrt_eq 65 hi lo b1.1 b1.2 b2.1 b2.2 (by omega)
  have pb := mul_bd r r r0 r1 r0 r1
  rw [hr]
  simp only [Option.bind_some]
  rw [mul_eq r r r0 r1 r0 r1]
  simp only [Option.bind_some]
  rw [less_eq _ _ _ _ (by omega) (by omega) (by omega) (by omega)]
  simp only [Option.bind_some]
  rw [if_neg (by rw [decide_eq_false (by omega)]; decide), shown_eq]
  simp only [Option.bind_some, analemmalaw01_WideRoots.j0]
  rw [if_neg (by decide)]
  by_cases c : r = 18446744073709551615
  · rw [if_pos c]
  · have e : IntKind.u64.wrap (r + 1) = r + 1 := by rw [IntKind.wrap_u64]; omega
    have pb2 := mul_bd (r + 1) (r + 1) (by omega) (by omega) (by omega) (by omega)
    rw [if_neg c, e, mul_eq _ _ (by omega) (by omega) (by omega) (by omega)]
    simp only [Option.bind_some]
    rw [less_eq _ _ _ _ (by omega) (by omega) (by omega) (by omega)]
    simp only [Option.bind_some]
    congr 1
    apply decide_eq_true
    omega


end Go.Proofs.Ytanpjfejnlfpmaa.Pure
