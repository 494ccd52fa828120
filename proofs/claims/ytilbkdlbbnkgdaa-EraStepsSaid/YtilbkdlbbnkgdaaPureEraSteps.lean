/- What is put to a stamp bit by bit is put at once, and half an era away is the least difference, as the printed functions tell it; the numbers are of their kinds, no other condition. -/
import Derived.Test.YtilbkdlbbnkgdaaPEraStepsx0
import Derived.Test.YtilbkdlbbnkgdaaPEraStepsx1
import Derived.OpenShut
import Derived.Laws.Bits64
import Derived.Laws.BitsLemmas
namespace Go.Proofs.Ytilbkdlbbnkgdaa.Pure
open Go.RowKit Go.Proofs.Ytilbkdlbbnkgdaa.PEraSteps Go.Proofs.YtilbkdlbbnkgdaaW.PrintWords Go.Proofs.YtilbkdlbbnkgdaaW.PrintLast Go.Proofs.YtilbkdlbbnkgdaaW.PrintMore

theorem long_eq (n : Int) (h0 : 0 ≤ n) (h1 : n ≤ 4294967295) : era_Long.f n = some (n * 65536) := by
  unfold era_Long.f wrap64
  congr 1
  omega

def shortv (a : Int) : Int := if a ≤ 0 then 0 else if 4294967295 < (a + 65535) / 65536 then 4294967295 else (a + 65535) / 65536

theorem short_eq (a : Int) (h0 : -9223372036854775808 ≤ a) (h1 : a ≤ 9223372036854775807) : era_Short.f a = some (shortv a) := by
  unfold era_Short.f
  rw [long_eq _ (by omega) (by omega)]
  simp only [Option.bind_some]
  unfold shortv mx mn wrap64
  by_cases c : a < 0
  · simp only [if_pos c]
    rw [if_neg (by omega), if_pos (by omega : a ≤ 0), if_neg (by omega)]
    rfl
  · simp only [if_neg c]
    by_cases d : a ≤ 0
    · rw [if_pos d, if_neg (by omega), if_neg (by omega)]
      congr 1
      omega
    · rw [if_neg d]
      split <;> rename_i e
      · split <;> rename_i f
        · split <;> rename_i g <;> congr 1 <;> omega
        · split <;> rename_i g <;> congr 1 <;> omega
      · split <;> rename_i f
        · split <;> rename_i g <;> congr 1 <;> omega
        · split <;> rename_i g <;> congr 1 <;> omega

def diffv (a b : Int) : Int := mx ((a - b + 9223372036854775808) % 18446744073709551616 - 9223372036854775808) (-9223372036854775807)

theorem diff_eq (a b : Int) : era_Diff.f a b = some (diffv a b) := by
  unfold era_Diff.f diffv wrap64
  rw [IntKind.wrap_u64]
  congr 2
  omega

theorem shown_eq : analemmalaw04_shown.f = some true := by decide +kernel

theorem plus_eq (a d : Int) : era_Plus.f a d = some ((a + d) % 18446744073709551616) := by
  unfold era_Plus.f
  rw [IntKind.wrap_u64, IntKind.wrap_u64]
  congr 1
  omega

theorem EraSteps : analemmalaw04_EraSteps.Pure := by
  intro a d e ha hd he
  have ba := bounds_u64 ha
  have bd := bounds_i64 hd
  have be := bounds_i64 he
  clear ha hd he
  have e1 : era_Seconds.f a = some (a / 4294967296, a % 4294967296) := by
    unfold era_Seconds.f
    congr 2
    omega
  unfold analemmalaw04_EraSteps.f
  rw [plus_eq]
  simp only [Option.bind_some]
  rw [plus_eq, e1, plus_eq]
  simp only [Option.bind_some]
  rw [plus_eq]
  simp only [Option.bind_some]
  rw [if_pos (by omega), diff_eq]
  simp only [Option.bind_some]
  simp only [IntKind.wrap_u64]
  rw [if_pos (by unfold diffv mx; split <;> omega)]
  have e2 : Go.bits .or .u64 ((a / 4294967296) % 18446744073709551616 * 4294967296 % 18446744073709551616) (a % 4294967296 % 18446744073709551616) = a := by
    rw [bits_join .u64 64 (by decide) (fun n h0 h1 => by rw [IntKind.wrap_u64]; omega) 32 _ _ (by omega) (by omega) (by omega) (by omega) (by omega) (by omega)]
    omega
  rw [if_pos e2, diff_eq]
  simp only [Option.bind_some]
  rw [if_pos (by unfold diffv mx; split <;> omega), shown_eq]
  rfl


end Go.Proofs.Ytilbkdlbbnkgdaa.Pure
