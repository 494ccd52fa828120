/- The statement over numbers and lists that is left of the law FixShares; no condition but the kinds of its arguments. -/
import Derived.Test.YtomjongnjfodmaaBFix
namespace Go.Proofs.Ytomjongnjfodmaa.Pure
open Go.RowKit Go.Proofs.Ytomjongnjfodmaa.MFix Go.Proofs.YtomjongnjfodmaaW.PrintWords Go.Proofs.YtomjongnjfodmaaW.PrintLast Go.Proofs.YtomjongnjfodmaaW.PrintMore
set_option linter.unusedVariables false
set_option linter.unusedSimpArgs false

theorem FixShares : analemmalaw02_FixShares.Pure := by
  intro a b ha hb
  have ba := bounds_i32 ha
  have bb := bounds_u32 hb
  clear ha hb
  refine ⟨65, ?_⟩
  unfold analemmalaw02_FixShares.f
  have w1 : wrap64 a = a := by unfold wrap64; omega
  have w2 : wrap64 (wrap64 b + 1) = b + 1 := by unfold wrap64; omega
  rw [w1, w2]
  obtain ⟨d, hd⟩ : ∃ d, b + 1 = d := ⟨_, rfl⟩
  have bd : 1 ≤ d ∧ d ≤ 4294967296 := by omega
  rw [hd]
  have e := Int.mul_ediv_add_emod (a * 4294967296) d
  have m0 := Int.emod_nonneg (a * 4294967296) (b := d) (by omega)
  have m1 := Int.emod_lt_of_pos (a * 4294967296) (b := d) (by omega)
  obtain ⟨q, hq⟩ : ∃ q, a * 4294967296 / d = q := ⟨_, rfl⟩
  obtain ⟨m, hm⟩ : ∃ m, a * 4294967296 % d = m := ⟨_, rfl⟩
  rw [hq, hm] at e
  rw [hm] at m0 m1
  rw [Int.mul_comm] at e
  have q1 : q ≤ 9223372036854775807 := by
    have : a * 4294967296 / d < 9223372036854775808 := Int.ediv_lt_of_lt_mul (by omega) (by omega)
    omega
  have edv : divv a d = cutv q := by
    unfold divv
    rw [if_neg (by omega), if_neg (by omega), hq]
  have ep : mulv (cutv q) d = a ∨ mulv (cutv q) d = a - 1 ∧ 0 < m := by
    by_cases c : -9223372036854775807 ≤ q
    · rw [cutv_id q c q1]
      unfold mulv
      rw [cutv_id _ (by omega) (by omega)]
      omega
    · have h1 : q * d ≤ -9223372036854775808 * d := Int.mul_le_mul_of_nonneg_right (by omega) (by omega)
      have d1 : d = 1 := by omega
      subst d1
      rw [cutv_lo q (by omega)]
      unfold mulv
      rw [cutv_id _ (by omega) (by omega)]
      omega
  have bq := cutv_bd q
  rw [divf_eq a d (by omega) (by omega) (by omega) (by omega), edv]
  simp only [Option.bind_some]
  rw [mulf_eq _ d (by omega) (by omega) (by omega) (by omega)]
  simp only [Option.bind_some]
  have w3 : wrap64 (d / 4294967296 + 1) = d / 4294967296 + 1 := by unfold wrap64; omega
  have w4 : wrap64 (a - mulv (cutv q) d) = a - mulv (cutv q) d := by unfold wrap64; omega
  have ed : divv a 4294967296 = a := by
    unfold divv
    rw [if_neg (by decide), if_neg (by decide), cutv_id _ (by omega) (by omega)]
    omega
  rw [if_pos (by omega), w3, w4, if_pos (by omega), divf_eq a _ (by omega) (by omega) (by omega) (by omega), ed]
  simp only [Option.bind_some, if_true]
  rw [shown_eq 65 (by omega)]
  rfl


end Go.Proofs.Ytomjongnjfodmaa.Pure
