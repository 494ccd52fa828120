/- The statement over numbers and lists that is left of the law WideSums; no condition but the kinds of its arguments. -/
import Derived.Test.YtanpjfejnlfpmaaBWide
namespace Go.Proofs.Ytanpjfejnlfpmaa.Pure
open Go.RowKit Go.Proofs.Ytanpjfejnlfpmaa.MWide Go.Proofs.YtanpjfejnlfpmaaW.PrintWords Go.Proofs.YtanpjfejnlfpmaaW.PrintLast Go.Proofs.YtanpjfejnlfpmaaW.PrintMore
set_option linter.unusedVariables false
set_option linter.unusedSimpArgs false

theorem WideSums : analemmalaw01_WideSums.Pure := by
  intro ah al bh bl h1 h2 h3 h4
  have b1 := bounds_u64 h1
  have b2 := bounds_u64 h2
  have b3 := bounds_u64 h3
  have b4 := bounds_u64 h4
  clear h1 h2 h3 h4
  unfold analemmalaw01_WideSums.f
  rw [plus_eq ah al bh bl b1.1 b1.2 b2.1 b2.2 b3.1 b3.2 b4.1 b4.2, plus_eq bh bl ah al b3.1 b3.2 b4.1 b4.2 b1.1 b1.2 b2.1 b2.2]
  simp only [Option.bind_some]
  rw [if_pos (by rw [Int.add_comm ah bh, Int.add_comm al bl]), if_pos (by rw [Int.add_comm al bl]), if_pos (by rw [Int.add_comm ah bh, Int.add_comm al bl, beq_self_eq_true])]
  rw [less_eq _ _ _ _ (by omega) (by omega) (by omega) (by omega), less_eq _ _ _ _ (by omega) (by omega) (by omega) (by omega)]
  simp only [Option.bind_some]
  rw [if_pos (by rw [beq_iff_eq, Bool.eq_iff_iff, decide_eq_true_iff, decide_eq_true_iff]; omega), if_pos (by rw [beq_iff_eq, Bool.eq_iff_iff, decide_eq_true_iff, decide_eq_true_iff]; omega), shown_eq]
  rfl


end Go.Proofs.Ytanpjfejnlfpmaa.Pure
