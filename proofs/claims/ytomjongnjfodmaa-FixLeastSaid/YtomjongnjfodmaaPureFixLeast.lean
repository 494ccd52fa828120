/- The statement over numbers and lists that is left of the law FixLeast; no condition but the kinds of its arguments. -/
import Derived.Test.YtomjongnjfodmaaBFixR
import Derived.Test.YtomjongnjfodmaaMFixRx6
namespace Go.Proofs.Ytomjongnjfodmaa.Pure
open Go.RowKit Go.Proofs.Ytomjongnjfodmaa.MFixR Go.Proofs.YtomjongnjfodmaaW.PrintWords Go.Proofs.YtomjongnjfodmaaW.PrintLast Go.Proofs.YtomjongnjfodmaaW.PrintMore
set_option linter.unusedVariables false
set_option linter.unusedSimpArgs false

theorem least_l0 (a : Int) (l : List Int) (r : Int) (h : ∀ x ∈ l, -9223372036854775807 ≤ x) (hl : l.length ≤ 1000) (habs : ∃ x, fix_Abs.f a = some x ∧ 0 ≤ x) (h0 : -9223372036854775808 ≤ a) (h1 : a ≤ 9223372036854775807) (d : Nat) :
    ∀ (k j : Nat), j + d = l.length → d + 70 ≤ k → analemmalaw02_FixLeast.l0 k a l j = some true := by
  obtain ⟨x, hx, x0⟩ := habs
  induction d with
  | zero =>
    intro k j hj hk
    obtain ⟨k, rfl⟩ : ∃ q, k = q + 1 := ⟨k - 1, by omega⟩
    have hs := sqrt_v k a h0 h1 (by omega)
    simp only [analemmalaw02_FixLeast.l0]
    rw [if_neg (by omega), hx, hs.1, shown_eq k (by omega)]
    simp only [Option.bind_some]
    rw [if_pos x0, if_pos hs.2.1]
  | succ d ih =>
    intro k j hj hk
    obtain ⟨k, rfl⟩ : ∃ q, k = q + 1 := ⟨k - 1, by omega⟩
    have hr := h (rd l j) (rd_mem l j (by omega) (by omega))
    have ej : wrap64 ((j : Int) + 1) = ((j + 1 : Nat) : Int) := by unfold wrap64; omega
    simp only [analemmalaw02_FixLeast.l0]
    rw [if_pos (by omega), if_pos (by omega), if_neg (by omega), ej, ih k (j + 1) (by omega) (by omega)]

theorem FixLeast : analemmalaw02_FixLeast.Pure := by
  intro a b n h1 h2 h4
  have b1 := bounds_i64 h1
  have b2 := bounds_i64 h2
  have b4 := bounds_i64 h4
  clear h1 h2 h4
  have ha : ∃ x, fix_Abs.f a = some x ∧ 0 ≤ x := by
    have sa := size_bd a b1.1 b1.2
    unfold fix_Abs.f
    rw [size_eq a b1.1 b1.2]
    simp only [Option.bind_some]
    rw [cut_eq _ _ _ sa.1 (by omega)]
    refine ⟨_, rfl, ?_⟩
    rw [if_neg (by decide)]
    unfold cutv
    (repeat' split) <;> omega
  have hc : ∃ x, fix_Clamp.f a b a = some x ∧ -9223372036854775807 ≤ x := by
    unfold fix_Clamp.f mx
    (repeat' split) <;> exact ⟨_, rfl, by omega⟩
  obtain ⟨x, hx, x0⟩ := ha
  obtain ⟨y, hy, y0⟩ := hc
  have hl (u v : Int) (p : -9223372036854775808 ≤ u ∧ u ≤ 9223372036854775807) (q : -9223372036854775808 ≤ v ∧ v ≤ 9223372036854775807) : ∀ z ∈ [u, v], -9223372036854775808 ≤ z ∧ z ≤ 9223372036854775807 := by
    intro z hz
    rcases List.mem_cons.1 hz with e | hz
    · rw [e]; exact p
    · rw [List.mem_singleton.1 hz]; exact q
  refine ⟨400, ?_⟩
  unfold analemmalaw02_FixLeast.f
  rw [add_eq 400 a b b1.1 b1.2 b2.1 b2.2 (by omega), sub_eq 400 a b b1.1 b1.2 b2.1 b2.2 (by omega), hx, mulf_eq a b b1.1 b1.2 b2.1 b2.2, divf_eq a b b1.1 b1.2 b2.1 b2.2, shift_eq a n b1.1 b1.2 b4.1 b4.2, (sqrt_v 400 a b1.1 b1.2 (by omega)).1, hy,
    mean_v [a, a] (hl a a b1 b1) (by simp), root_v 400 [a, b] (hl a b b1 b2) (by simp) (by simp)]
  simp only [Option.bind_some]
  refine least_l0 a _ x ?_ (by simp) ⟨x, hx, x0⟩ b1.1 b1.2 10 400 0 (by simp) (by omega)
  have c1 := cutv_bd (a + b)
  have c2 := cutv_bd (a - b)
  have c3 := mulv_bd a b
  have c4 := divv_bd a b
  have c5 := shiftv_bd a n
  have c6 := (sqrt_v 400 a b1.1 b1.2 (by omega)).2.1
  have c7 := meanv_bd [a, a]
  have c8 := rootm_bd [a, b]
  intro z hz
  simp only [List.mem_cons, List.not_mem_nil, or_false] at hz
  omega


end Go.Proofs.Ytomjongnjfodmaa.Pure
