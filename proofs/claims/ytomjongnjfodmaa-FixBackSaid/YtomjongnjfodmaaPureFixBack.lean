/- The statement over numbers and lists that is left of the law FixBack; no condition but the kinds of its arguments. -/
import Derived.Test.YtomjongnjfodmaaBFix
namespace Go.Proofs.Ytomjongnjfodmaa.Pure
open Go.RowKit Go.Proofs.Ytomjongnjfodmaa.MFix Go.Proofs.YtomjongnjfodmaaW.PrintWords Go.Proofs.YtomjongnjfodmaaW.PrintLast Go.Proofs.YtomjongnjfodmaaW.PrintMore
set_option linter.unusedVariables false
set_option linter.unusedSimpArgs false

theorem tdiv4 (a : Int) (h0 : -9223372036854775808 ≤ a) (h1 : a ≤ 9223372036854775807) : -2305843009213693952 ≤ Int.tdiv a 4 ∧ Int.tdiv a 4 ≤ 2305843009213693951 := by
  by_cases c : 0 ≤ a
  · rw [Int.tdiv_eq_ediv_of_nonneg c]
    omega
  · have e : Int.tdiv (-(-a)) 4 = -(Int.tdiv (-a) 4) := Int.neg_tdiv (-a) 4
    rw [Int.neg_neg] at e
    rw [e, Int.tdiv_eq_ediv_of_nonneg (by omega)]
    omega

theorem FixBack : analemmalaw02_FixBack.Pure := by
  intro a b ha hb
  have ba := bounds_i64 ha
  have bb := bounds_i64 hb
  clear ha hb
  refine ⟨65, ?_⟩
  unfold analemmalaw02_FixBack.f
  have t1 := tdiv4 a ba.1 ba.2
  have t2 := tdiv4 b bb.1 bb.2
  obtain ⟨x, hx⟩ : ∃ x, Int.tdiv a 4 = x := ⟨_, rfl⟩
  obtain ⟨y, hy⟩ : ∃ y, Int.tdiv b 4 = y := ⟨_, rfl⟩
  rw [hx] at t1 ⊢
  rw [hy] at t2 ⊢
  have wx : wrap64 x = x := by unfold wrap64; omega
  have wy : wrap64 y = y := by unfold wrap64; omega
  obtain ⟨c, hc⟩ : ∃ c, mx a (-9223372036854775807) = c := ⟨_, rfl⟩
  have bc : -9223372036854775807 ≤ c ∧ c ≤ 9223372036854775807 := by
    rw [← hc]
    unfold mx
    split <;> omega
  have em : mulv c 4294967296 = c := by
    unfold mulv
    rw [cutv_id _ (by omega) (by omega)]
    omega
  have ed : divv c 4294967296 = c := by
    unfold divv
    rw [if_neg (by decide), if_neg (by decide), cutv_id _ (by omega) (by omega)]
    omega
  rw [wx, wy, hc, add_eq 65 x y (by omega) (by omega) (by omega) (by omega) (by omega), add_eq 65 y x (by omega) (by omega) (by omega) (by omega) (by omega), cutv_id (x + y) (by omega) (by omega), cutv_id (y + x) (by omega) (by omega)]
  simp only [Option.bind_some]
  rw [sub_eq 65 (x + y) y (by omega) (by omega) (by omega) (by omega) (by omega), sub_eq 65 0 c (by omega) (by omega) (by omega) (by omega) (by omega), cutv_id (0 - c) (by omega) (by omega)]
  simp only [Option.bind_some]
  rw [sub_eq 65 0 (0 - c) (by omega) (by omega) (by omega) (by omega) (by omega), cutv_id (0 - (0 - c)) (by omega) (by omega), cutv_id (x + y - y) (by omega) (by omega)]
  simp only [Option.bind_some]
  rw [if_pos (by omega), if_pos (by omega), if_pos (by omega), mulf_eq c _ (by omega) (by omega) (by omega) (by omega), em, divf_eq c _ (by omega) (by omega) (by omega) (by omega), ed, mulf_eq a b ba.1 ba.2 bb.1 bb.2, mulf_eq b a bb.1 bb.2 ba.1 ba.2, mulv_comm a b]
  simp only [Option.bind_some, if_true]
  rw [shown_eq 65 (by omega)]
  rfl


end Go.Proofs.Ytomjongnjfodmaa.Pure
