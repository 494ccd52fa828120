/- The statement over numbers and lists that is left of the law FixRises; no condition but the kinds of its arguments. -/
import Derived.Test.YtomjongnjfodmaaBFix
namespace Go.Proofs.Ytomjongnjfodmaa.Pure
open Go.RowKit Go.Proofs.Ytomjongnjfodmaa.MFix Go.Proofs.YtomjongnjfodmaaW.PrintWords Go.Proofs.YtomjongnjfodmaaW.PrintLast Go.Proofs.YtomjongnjfodmaaW.PrintMore
set_option linter.unusedVariables false
set_option linter.unusedSimpArgs false

theorem shiftv_mono (a b n : Int) (h : a ≤ b) : shiftv a n ≤ shiftv b n := by
  unfold shiftv
  split
  · exact cutv_mono _ _ (Int.ediv_le_ediv (pow2_pos _) h)
  · exact cutv_mono _ _ (Int.mul_le_mul_of_nonneg_right h (by have := pow2_pos n.toNat; omega))

theorem logv_mono (a b : Int) (h : a ≤ b) : wide_Log.v a ≤ wide_Log.v b := by
  by_cases c : a ≤ 0
  · rw [logv_zero a c]
    by_cases d : b ≤ 0
    · rw [logv_zero b d]
      omega
    · obtain ⟨l, hl, _, _⟩ := logv_spec b (by omega)
      rw [hl]
      omega
  · obtain ⟨l, hl, l1, l2⟩ := logv_spec a (by omega)
    obtain ⟨m, hm, m1, m2⟩ := logv_spec b (by omega)
    rw [hl, hm]
    by_cases d : l ≤ m
    · omega
    · have := pow2_mono (m + 1) l (by omega)
      omega

theorem FixRises : analemmalaw02_FixRises.Pure := by
  intro a b c n h1 h2 h3 h4
  have b1 := bounds_i64 h1
  have b2 := bounds_i64 h2
  have b3 := bounds_i64 h3
  have b4 := bounds_i64 h4
  clear h1 h2 h3 h4
  refine ⟨66, ?_⟩
  unfold analemmalaw02_FixRises.f
  obtain ⟨x, hx⟩ : ∃ x, mn a b = x := ⟨_, rfl⟩
  obtain ⟨y, hy⟩ : ∃ y, mx a b = y := ⟨_, rfl⟩
  have bx : -9223372036854775808 ≤ x ∧ x ≤ y ∧ y ≤ 9223372036854775807 := by
    rw [← hx, ← hy]
    unfold mn mx
    split <;> split <;> omega
  rw [hx, hy]
  clear hx hy
  obtain ⟨r, hr, r0, r1, r2, r3⟩ := sqrtf_eq 66 x (by omega) (by omega) (by omega)
  obtain ⟨s, hs, s0, s1, s2, s3⟩ := sqrtf_eq 66 y (by omega) (by omega) (by omega)
  have hp : pos0 x ≤ pos0 y := by unfold pos0; split <;> split <;> omega
  have hrs : r ≤ s := root_one (pos0 y * 4294967296) r s r0 s0 (by omega) s3
  have c1 := cutv_mono (x + c) (y + c) (by omega)
  have c2 := cutv_mono (x - c) (y - c) (by omega)
  have c3 := shiftv_mono x y n bx.2.1
  have c4 := logv_mono x y bx.2.1
  rw [add_eq 66 x c (by omega) (by omega) (by omega) (by omega) (by omega), add_eq 66 y c (by omega) (by omega) (by omega) (by omega) (by omega)]
  simp only [Option.bind_some]
  rw [if_neg (by omega), sub_eq 66 x c (by omega) (by omega) (by omega) (by omega) (by omega), sub_eq 66 y c (by omega) (by omega) (by omega) (by omega) (by omega)]
  simp only [Option.bind_some]
  rw [if_neg (by omega), shift_eq x n (by omega) (by omega) b4.1 b4.2, shift_eq y n (by omega) (by omega) b4.1 b4.2]
  simp only [Option.bind_some]
  rw [if_neg (by omega), hr, hs]
  simp only [Option.bind_some]
  rw [if_neg (by omega), logf_eq x (by omega) (by omega), logf_eq y (by omega) (by omega)]
  simp only [Option.bind_some]
  rw [if_neg (by omega), shown_eq 66 (by omega)]
  simp only [Option.bind_some, analemmalaw02_FixRises.j0]
  rw [if_neg (by decide)]
  by_cases z : c ≤ 0
  · rw [if_pos z]
  · rw [if_neg z, mulf_eq x c (by omega) (by omega) (by omega) (by omega), mulf_eq y c (by omega) (by omega) (by omega) (by omega)]
    simp only [Option.bind_some]
    have c5 : mulv x c ≤ mulv y c := by
      unfold mulv
      exact cutv_mono _ _ (Int.ediv_le_ediv (by omega) (Int.mul_le_mul_of_nonneg_right bx.2.1 (by omega)))
    rw [if_pos c5, divf_eq x c (by omega) (by omega) (by omega) (by omega), divf_eq y c (by omega) (by omega) (by omega) (by omega)]
    simp only [Option.bind_some]
    congr 1
    apply decide_eq_true
    unfold divv
    rw [if_neg (by omega), if_neg (by omega), if_neg (by omega), if_neg (by omega)]
    exact cutv_mono _ _ (Int.ediv_le_ediv (by omega) (by omega))


end Go.Proofs.Ytomjongnjfodmaa.Pure
