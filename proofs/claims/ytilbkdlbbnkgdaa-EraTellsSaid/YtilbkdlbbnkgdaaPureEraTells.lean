/- Differences, sums, parts, short and long times are the reference's, as the printed functions tell it; the numbers are of their kinds, no other condition. -/
import Derived.Test.YtilbkdlbbnkgdaaPEraTellsx0
import Derived.Test.YtilbkdlbbnkgdaaPEraTellsx1
import Derived.OpenShut
import Derived.Laws.Bits64
import Derived.Laws.BitsLemmas
namespace Go.Proofs.Ytilbkdlbbnkgdaa.Pure
open Go.RowKit Go.Proofs.Ytilbkdlbbnkgdaa.PEraTells Go.Proofs.YtilbkdlbbnkgdaaW.PrintWords Go.Proofs.YtilbkdlbbnkgdaaW.PrintLast Go.Proofs.YtilbkdlbbnkgdaaW.PrintMore

theorem long_eq (n : Int) (h0 : 0 ≤ n) (h1 : n ≤ 4294967295) : era_Long.f n = some (n * 65536) := by
  unfold era_Long.f wrap64
  congr 1
  omega

def shortv (a : Int) : Int := if a ≤ 0 then 0 else if 4294967295 < (a + 65535) / 65536 then 4294967295 else (a + 65535) / 65536

theorem short_eq (a : Int) (h0 : -9223372036854775808 ≤ a) (h1 : a ≤ 9223372036854775807) : era_Short.f a = some (shortv a) := by
  unfold era_Short.f
  rw [long_eq _ (by omega) (by omega)]
  simp only [Option.bind_some]
  unfold shortv mx mn wrap64
  by_cases c : a < 0
  · simp only [if_pos c]
    rw [if_neg (by omega), if_pos (by omega : a ≤ 0), if_neg (by omega)]
    rfl
  · simp only [if_neg c]
    by_cases d : a ≤ 0
    · rw [if_pos d, if_neg (by omega), if_neg (by omega)]
      congr 1
      omega
    · rw [if_neg d]
      split <;> rename_i e
      · split <;> rename_i f
        · split <;> rename_i g <;> congr 1 <;> omega
        · split <;> rename_i g <;> congr 1 <;> omega
      · split <;> rename_i f
        · split <;> rename_i g <;> congr 1 <;> omega
        · split <;> rename_i g <;> congr 1 <;> omega

def diffv (a b : Int) : Int := mx ((a - b + 9223372036854775808) % 18446744073709551616 - 9223372036854775808) (-9223372036854775807)

theorem diff_eq (a b : Int) : era_Diff.f a b = some (diffv a b) := by
  unfold era_Diff.f diffv wrap64
  rw [IntKind.wrap_u64]
  congr 2
  omega

theorem shown_eq : analemmalaw04_shown.f = some true := by decide +kernel

theorem plus_eq (a d : Int) : era_Plus.f a d = some ((a + d) % 18446744073709551616) := by
  unfold era_Plus.f
  rw [IntKind.wrap_u64, IntKind.wrap_u64]
  congr 1
  omega

theorem EraTells : analemmalaw04_EraTells.Pure := by
  intro a b d n ha hb hd hn
  have ba := bounds_u64 ha
  have bb := bounds_u64 hb
  have bd := bounds_i64 hd
  have bn := bounds_u32 hn
  clear ha hb hd hn
  refine ⟨2, ?_⟩
  have e1 : era_Seconds.f a = some (a / 4294967296, a % 4294967296) := by
    unfold era_Seconds.f
    congr 2
    omega
  have e2 : analemmaref04_Seconds.f a = some (a / 4294967296, a % 4294967296) := by
    unfold analemmaref04_Seconds.f
    rw [IntKind.wrap_u64, Int.tdiv_eq_ediv_of_nonneg (by omega), Int.tmod_eq_emod_of_nonneg (by omega)]
    congr 2 <;> omega
  have e3 : analemmaref04_Diff.f 2 a b = some (diffv a b) := by
    unfold analemmaref04_Diff.f analemmaref02_Cut.f
    rw [IntKind.wrap_u64, IntKind.wrap_u64]
    by_cases c : (a - b) % 18446744073709551616 < 9223372036854775808
    · rw [if_pos c]
      congr 1
      unfold diffv mx wrap64
      split <;> omega
    · rw [if_neg c, if_pos rfl, if_neg (by decide)]
      simp only [analemmaref02_Cut.j0, analemmaref02_Cut.j1]
      rw [if_neg (by decide)]
      by_cases e : (b - a) % 18446744073709551616 > 9223372036854775807
      · rw [if_pos e, if_pos trivial]
        simp only [Option.bind_some]
        congr 1
        unfold diffv mx
        split <;> omega
      · rw [if_neg e, if_pos trivial]
        simp only [Option.bind_some]
        congr 1
        unfold diffv mx wrap64
        split <;> omega
  have e4 : analemmaref04_Plus.f a d = some ((a + d) % 18446744073709551616) := by
    unfold analemmaref04_Plus.f wrap64
    simp only [IntKind.wrap_u64]
    split <;> congr 1 <;> omega
  have e5 : analemmaref04_Short.f d = some (shortv d) := by
    unfold analemmaref04_Short.f
    by_cases c : d ≤ 0
    · rw [if_pos c]
      unfold shortv
      rw [if_pos c]
    · rw [if_neg c, IntKind.wrap_u64, IntKind.wrap_u64, Int.tdiv_eq_ediv_of_nonneg (by omega), Int.tmod_eq_emod_of_nonneg (by omega), IntKind.wrap_u64]
      unfold shortv mn
      rw [if_neg c]
      (repeat' split) <;> congr 1 <;> omega
  have e6 : analemmaref04_Long.f n = some (n * 65536) := by
    unfold analemmaref04_Long.f wrap64
    congr 1
    omega
  unfold analemmalaw04_EraTells.f
  rw [e1, e2, diff_eq, e3, plus_eq, e4, short_eq d (by omega) (by omega), e5, long_eq n (by omega) (by omega), e6, shown_eq]
  simp only [Option.bind_some, if_true]


end Go.Proofs.Ytilbkdlbbnkgdaa.Pure
