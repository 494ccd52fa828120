/- The statement over numbers and lists that is left of the law FixMeans; no condition but the kinds of its arguments. -/
import Derived.Test.YtomjongnjfodmaaBFixR
import Derived.Test.YtomjongnjfodmaaMFixRx5
namespace Go.Proofs.Ytomjongnjfodmaa.Pure
open Go.RowKit Go.Proofs.Ytomjongnjfodmaa.MFixR Go.Proofs.YtomjongnjfodmaaW.PrintWords Go.Proofs.YtomjongnjfodmaaW.PrintLast Go.Proofs.YtomjongnjfodmaaW.PrintMore
set_option linter.unusedVariables false
set_option linter.unusedSimpArgs false

theorem FixMeans : analemmalaw02_FixMeans.Pure := by
  intro l _ _ hw
  have h : ∀ x ∈ l, -9223372036854775808 ≤ x ∧ x ≤ 9223372036854775807 := fun x hx => bounds_i64 (hw x hx)
  refine ⟨4000, ?_⟩
  unfold analemmalaw02_FixMeans.f
  by_cases c : (l.length : Int) > 1024
  · rw [if_pos c, shown_eq 4000 (by omega)]
    rfl
  · rw [if_neg c, mean_v l h (by omega), rmean_v 4000 l h (by omega) (by omega), root_v 4000 l h (by omega) (by omega), rroot_v 4000 l h (by omega) (by omega), shown_eq 4000 (by omega)]
    simp only [Option.bind_some, if_true]


end Go.Proofs.Ytomjongnjfodmaa.Pure
