/- A short time is not below what it is of, and less than its unit above, but at its end, and a long one comes back, as the printed functions tell it; the numbers are of their kinds, no other condition. -/
import Derived.Test.YtilbkdlbbnkgdaaPEraShortx0
import Derived.Test.YtilbkdlbbnkgdaaPEraShortx1
import Derived.OpenShut
import Derived.Laws.Bits64
import Derived.Laws.BitsLemmas
namespace Go.Proofs.Ytilbkdlbbnkgdaa.Pure
open Go.RowKit Go.Proofs.Ytilbkdlbbnkgdaa.PEraShort Go.Proofs.YtilbkdlbbnkgdaaW.PrintWords Go.Proofs.YtilbkdlbbnkgdaaW.PrintLast Go.Proofs.YtilbkdlbbnkgdaaW.PrintMore

theorem long_eq (n : Int) (h0 : 0 ≤ n) (h1 : n ≤ 4294967295) : era_Long.f n = some (n * 65536) := by
  unfold era_Long.f wrap64
  congr 1
  omega

def shortv (a : Int) : Int := if a ≤ 0 then 0 else if 4294967295 < (a + 65535) / 65536 then 4294967295 else (a + 65535) / 65536

theorem short_eq (a : Int) (h0 : -9223372036854775808 ≤ a) (h1 : a ≤ 9223372036854775807) : era_Short.f a = some (shortv a) := by
  unfold era_Short.f
  rw [long_eq _ (by omega) (by omega)]
  simp only [Option.bind_some]
  unfold shortv mx mn wrap64
  by_cases c : a < 0
  · simp only [if_pos c]
    rw [if_neg (by omega), if_pos (by omega : a ≤ 0), if_neg (by omega)]
    rfl
  · simp only [if_neg c]
    by_cases d : a ≤ 0
    · rw [if_pos d, if_neg (by omega), if_neg (by omega)]
      congr 1
      omega
    · rw [if_neg d]
      split <;> rename_i e
      · split <;> rename_i f
        · split <;> rename_i g <;> congr 1 <;> omega
        · split <;> rename_i g <;> congr 1 <;> omega
      · split <;> rename_i f
        · split <;> rename_i g <;> congr 1 <;> omega
        · split <;> rename_i g <;> congr 1 <;> omega

def diffv (a b : Int) : Int := mx ((a - b + 9223372036854775808) % 18446744073709551616 - 9223372036854775808) (-9223372036854775807)

theorem diff_eq (a b : Int) : era_Diff.f a b = some (diffv a b) := by
  unfold era_Diff.f diffv wrap64
  rw [IntKind.wrap_u64]
  congr 2
  omega

theorem shown_eq : analemmalaw04_shown.f = some true := by decide +kernel

theorem EraShort : analemmalaw04_EraShort.Pure := by
  intro a n ha hn
  have ba := bounds_i64 ha
  have bn := bounds_u32 hn
  clear ha hn
  refine ⟨1, ?_⟩
  unfold analemmalaw04_EraShort.f
  rw [short_eq a (by omega) (by omega), long_eq n (by omega) (by omega)]
  simp only [Option.bind_some]
  rw [short_eq (n * 65536) (by omega) (by omega)]
  simp only [Option.bind_some]
  have e : shortv (n * 65536) = n := by
    unfold shortv
    split
    · omega
    · split <;> omega
  rw [if_pos e, shown_eq]
  simp only [Option.bind_some, analemmalaw04_EraShort.j0]
  rw [if_neg (by decide)]
  by_cases c : a ≤ 0
  · rw [if_pos c]
    have : shortv a = 0 := by unfold shortv; rw [if_pos c]
    rw [this]
    rfl
  · rw [if_neg c]
    have hs : shortv a = if 4294967295 < (a + 65535) / 65536 then 4294967295 else (a + 65535) / 65536 := by
      unfold shortv
      rw [if_neg c]
    by_cases d : shortv a = 4294967295
    · rw [if_pos d, d, long_eq _ (by omega) (by omega)]
      simp only [Option.bind_some]
      congr 1
      apply decide_eq_true
      unfold wrap64
      rw [d] at hs
      split at hs <;> omega
    · rw [if_neg d]
      have hb : 0 ≤ shortv a ∧ shortv a ≤ 4294967295 ∧ shortv a = (a + 65535) / 65536 := by
        split at hs <;> omega
      rw [long_eq _ (by omega) (by omega)]
      simp only [Option.bind_some]
      rw [if_pos (by omega)]
      congr 1
      apply decide_eq_true
      unfold wrap64
      omega


end Go.Proofs.Ytilbkdlbbnkgdaa.Pure
