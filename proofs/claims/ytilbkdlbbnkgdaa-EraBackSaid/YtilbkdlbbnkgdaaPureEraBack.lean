/- What is put to a stamp is its difference, there and back it is the same, and differences are turned, as the printed functions tell it; the numbers are of their kinds, no other condition. -/
import Derived.Test.YtilbkdlbbnkgdaaPEraBackx0
import Derived.Test.YtilbkdlbbnkgdaaPEraBackx1
import Derived.OpenShut
import Derived.Laws.Bits64
import Derived.Laws.BitsLemmas
namespace Go.Proofs.Ytilbkdlbbnkgdaa.Pure
open Go.RowKit Go.Proofs.Ytilbkdlbbnkgdaa.PEraBack Go.Proofs.YtilbkdlbbnkgdaaW.PrintWords Go.Proofs.YtilbkdlbbnkgdaaW.PrintLast Go.Proofs.YtilbkdlbbnkgdaaW.PrintMore

theorem long_eq (n : Int) (h0 : 0 ≤ n) (h1 : n ≤ 4294967295) : era_Long.f n = some (n * 65536) := by
  unfold era_Long.f wrap64
  congr 1
  omega

def shortv (a : Int) : Int := if a ≤ 0 then 0 else if 4294967295 < (a + 65535) / 65536 then 4294967295 else (a + 65535) / 65536

theorem short_eq (a : Int) (h0 : -9223372036854775808 ≤ a) (h1 : a ≤ 9223372036854775807) : era_Short.f a = some (shortv a) := by
  unfold era_Short.f
  rw [long_eq _ (by omega) (by omega)]
  simp only [Option.bind_some]
  unfold shortv mx mn wrap64
  by_cases c : a < 0
  · simp only [if_pos c]
    rw [if_neg (by omega), if_pos (by omega : a ≤ 0), if_neg (by omega)]
    rfl
  · simp only [if_neg c]
    by_cases d : a ≤ 0
    · rw [if_pos d, if_neg (by omega), if_neg (by omega)]
      congr 1
      omega
    · rw [if_neg d]
      split <;> rename_i e
      · split <;> rename_i f
        · split <;> rename_i g <;> congr 1 <;> omega
        · split <;> rename_i g <;> congr 1 <;> omega
      · split <;> rename_i f
        · split <;> rename_i g <;> congr 1 <;> omega
        · split <;> rename_i g <;> congr 1 <;> omega

def diffv (a b : Int) : Int := mx ((a - b + 9223372036854775808) % 18446744073709551616 - 9223372036854775808) (-9223372036854775807)

theorem diff_eq (a b : Int) : era_Diff.f a b = some (diffv a b) := by
  unfold era_Diff.f diffv wrap64
  rw [IntKind.wrap_u64]
  congr 2
  omega

theorem shown_eq : analemmalaw04_shown.f = some true := by decide +kernel

theorem plus_eq (a d : Int) : era_Plus.f a d = some ((a + d) % 18446744073709551616) := by
  unfold era_Plus.f
  rw [IntKind.wrap_u64, IntKind.wrap_u64]
  congr 1
  omega

theorem EraBack : analemmalaw04_EraBack.Pure := by
  intro a b d ha hb hd
  have ba := bounds_u64 ha
  have bb := bounds_u64 hb
  have bd := bounds_i64 hd
  clear ha hb hd
  refine ⟨1, ?_⟩
  unfold analemmalaw04_EraBack.f
  obtain ⟨e, he⟩ : ∃ e, mx d (-9223372036854775807) = e := ⟨_, rfl⟩
  have be : -9223372036854775807 ≤ e ∧ e ≤ 9223372036854775807 := by
    rw [← he]
    unfold mx
    split <;> omega
  rw [he, plus_eq]
  simp only [Option.bind_some]
  rw [diff_eq]
  simp only [Option.bind_some]
  have h1 : diffv ((a + e) % 18446744073709551616) a = e := by
    unfold diffv mx
    split <;> omega
  rw [if_pos h1, plus_eq]
  simp only [Option.bind_some]
  have h2 : ((a + e) % 18446744073709551616 + wrap64 (-e)) % 18446744073709551616 = a := by
    unfold wrap64
    omega
  rw [if_pos h2, shown_eq]
  simp only [Option.bind_some, analemmalaw04_EraBack.j0]
  rw [if_neg (by decide), diff_eq, diff_eq]
  simp only [Option.bind_some]
  rw [IntKind.wrap_u64, plus_eq]
  simp only [Option.bind_some]
  by_cases c : (a - b) % 18446744073709551616 = 9223372036854775808
  · rw [c]
    (repeat' split) <;> rfl
  · have h3 : diffv a b = wrap64 (-(diffv b a)) := by
      unfold diffv mx wrap64
      split <;> split <;> omega
    rw [if_pos h3]
    by_cases h4 : diffv a b = -9223372036854775807
    · rw [if_pos h4]
    · rw [if_neg h4]
      by_cases h5 : diffv a b = 9223372036854775807
      · rw [if_pos h5]
      · rw [if_neg h5, if_pos]
        revert h4
        unfold diffv mx
        split <;> omega


end Go.Proofs.Ytilbkdlbbnkgdaa.Pure
