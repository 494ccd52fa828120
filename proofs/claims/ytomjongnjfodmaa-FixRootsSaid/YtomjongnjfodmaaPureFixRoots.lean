/- The statement over numbers and lists that is left of the law FixRoots; no condition but the kinds of its arguments. -/
import Derived.Test.YtomjongnjfodmaaBFix
namespace Go.Proofs.Ytomjongnjfodmaa.Pure
open Go.RowKit Go.Proofs.Ytomjongnjfodmaa.MFix Go.Proofs.YtomjongnjfodmaaW.PrintWords Go.Proofs.YtomjongnjfodmaaW.PrintLast Go.Proofs.YtomjongnjfodmaaW.PrintMore
set_option linter.unusedVariables false
set_option linter.unusedSimpArgs false

theorem FixRoots : analemmalaw02_FixRoots.Pure := by
  intro a n ha hn
  have ba := bounds_i64 ha
  have bn := bounds_u32 hn
  clear ha hn
  refine ⟨65, ?_⟩
  unfold analemmalaw02_FixRoots.f
  obtain ⟨r, hr, r0, r1, r2, r3⟩ := sqrtf_eq 65 a ba.1 ba.2 (by omega)
  obtain ⟨y, hy⟩ : ∃ y, n % 46340 = y := ⟨_, rfl⟩
  have by_ : 0 ≤ y ∧ y ≤ 46339 := by omega
  have ex : wrap64 (wrap64 (Int.tmod n 46340) * 4294967296) = y * 4294967296 := by
    rw [Int.tmod_eq_emod_of_nonneg bn.1, hy]
    unfold wrap64
    omega
  have hyy : y * y ≤ 46339 * 46339 := Int.mul_le_mul by_.2 by_.2 by_.1 (by decide)
  have hy0 : 0 ≤ y * y := Int.mul_nonneg by_.1 by_.1
  obtain ⟨q, hq⟩ : ∃ q, y * y = q := ⟨_, rfl⟩
  rw [hq] at hyy hy0
  have em : mulv (y * 4294967296) (y * 4294967296) = q * 4294967296 := by
    unfold mulv
    have e : y * 4294967296 * (y * 4294967296) = q * 18446744073709551616 := by
      rw [mul4, hq]
      rfl
    rw [e, cutv_id _ (by omega) (by omega)]
    omega
  obtain ⟨s, hs, s0, s1, s2, s3⟩ := sqrtf_eq 65 (q * 4294967296) (by omega) (by omega) (by omega)
  have ep : pos0 (q * 4294967296) = q * 4294967296 := by unfold pos0; rw [if_neg (by omega)]
  rw [ep] at s2 s3
  have e5 : y * 4294967296 * (y * 4294967296) = q * 4294967296 * 4294967296 := by
    rw [mul4, hq]
    omega
  have e6 : (y * 4294967296 + 1) * (y * 4294967296 + 1) = q * 4294967296 * 4294967296 + 2 * (y * 4294967296) + 1 := by
    rw [Int.add_mul, Int.mul_add, e5]
    omega
  have es : s = y * 4294967296 := root_eq (q * 4294967296 * 4294967296) s (y * 4294967296) s0 (by omega) s2 s3 (by omega) (by omega)
  rw [hr, ex]
  simp only [Option.bind_some]
  rw [mulf_eq _ _ (by omega) (by omega) (by omega) (by omega), em]
  simp only [Option.bind_some]
  rw [hs]
  simp only [Option.bind_some]
  rw [if_pos es, shown_eq 65 (by omega)]
  simp only [Option.bind_some]
  by_cases c : a < 0
  · rw [if_pos c, if_pos (by omega)]
  · rw [if_neg c, mulf_eq r r (by omega) (by omega) (by omega) (by omega)]
    simp only [Option.bind_some]
    have e7 : pos0 a = a := by unfold pos0; rw [if_neg c]
    rw [e7] at r2
    have e8 : mulv r r ≤ a := by
      unfold mulv
      have : r * r / 4294967296 ≤ a := by omega
      have h0 : 0 ≤ r * r := Int.mul_nonneg r0 r0
      rw [cutv_id _ (by omega) (by omega)]
      exact this
    rw [if_pos e8, if_pos (by omega)]


end Go.Proofs.Ytomjongnjfodmaa.Pure
