/- The statement over numbers and lists that is left of the law FixShifts; no condition but the kinds of its arguments. -/
import Derived.Test.YtomjongnjfodmaaBFix
namespace Go.Proofs.Ytomjongnjfodmaa.Pure
open Go.RowKit Go.Proofs.Ytomjongnjfodmaa.MFix Go.Proofs.YtomjongnjfodmaaW.PrintWords Go.Proofs.YtomjongnjfodmaaW.PrintLast Go.Proofs.YtomjongnjfodmaaW.PrintMore
set_option linter.unusedVariables false
set_option linter.unusedSimpArgs false

theorem shift_down (x : Int) (h0 : -8796093022208 ≤ x) (h1 : x ≤ 8796093022207) (j : Nat) : -8796093022208 ≤ x / 2 ^ j ∧ x / 2 ^ j ≤ 8796093022207 := by
  have hp := pow2_pos j
  constructor
  · exact Int.le_ediv_of_mul_le hp (by
      have : (8796093022208 : Int) * 1 ≤ 8796093022208 * 2 ^ j := Int.mul_le_mul_of_nonneg_left (by omega) (by omega)
      omega)
  · have : x / 2 ^ j < 8796093022208 := Int.ediv_lt_of_lt_mul hp (by
      have : (8796093022208 : Int) * 1 ≤ 8796093022208 * 2 ^ j := Int.mul_le_mul_of_nonneg_left (by omega) (by omega)
      omega)
    omega

theorem shift_one (x : Int) (h0 : -9223372036854775808 ≤ x) (h1 : x ≤ 9223372036854775807) : fix_Shift.f x 1 = some (cutv (x * 2)) := by
  rw [shift_eq x 1 h0 h1 (by omega) (by omega)]
  unfold shiftv
  rw [if_neg (by decide)]
  rfl

theorem shift_half (x : Int) (h0 : -9223372036854775807 ≤ x) (h1 : x ≤ 9223372036854775807) : fix_Shift.f x (-1) = some (x / 2) := by
  rw [shift_eq x (-1) (by omega) h1 (by omega) (by omega)]
  unfold shiftv
  rw [if_pos (by decide)]
  have e : (2 : Int) ^ (-(-1) : Int).toNat = 2 := rfl
  rw [e, cutv_id _ (by omega) (by omega)]

theorem shifts_l1 (m : Nat) (x y z w : Int) (hm : m ≤ 59) (hx0 : -8796093022208 ≤ x) (hx1 : x ≤ 8796093022207) (hy : y ≤ x) (hy2 : x - y < 2 ^ m) (hz : z = x / 2 ^ m) (hw : w = cutv (x * 2 ^ m)) (d : Nat) : ∀ (k : Nat) (v i : Int), i + d = m → 0 ≤ i → 66 + d ≤ k →
    v = cutv (x * 2 ^ i.toNat) → analemmalaw02_FixShifts.l1 k m x y z w v i = some true := by
  have e18 : (2 : Int) ^ 18 = 262144 := by decide
  have e63 : (2 : Int) ^ 59 = 576460752303423488 := by decide
  have hpm := pow2_pos m
  have hpm2 := pow2_mono m 59 hm
  induction d with
  | zero =>
    intro k v i hi hi0 hk hv
    obtain ⟨k, rfl⟩ : ∃ j, k = j + 1 := ⟨k - 1, by omega⟩
    simp only [analemmalaw02_FixShifts.l1]
    have ei : i.toNat = m := by omega
    rw [ei] at hv
    have ew : wrap64 (-(m : Int)) = -(m : Int) := by unfold wrap64; omega
    have esh : shiftv x (-(m : Int)) = z := by
      unfold shiftv
      have e : (-(-(m : Int))).toNat = m := by omega
      have b := shift_down x hx0 hx1 m
      rw [if_pos (by omega), e, cutv_id _ (by omega) (by omega), hz]
    rw [if_neg (by omega), if_pos hy, ew, shift_eq x _ (by omega) (by omega) (by omega) (by omega), esh]
    simp only [Option.bind_some]
    rw [if_pos trivial, if_pos (by rw [hw, hv])]
    by_cases c : (m : Int) > 18
    · rw [if_pos c, shown_eq k (by omega)]
      rfl
    · have es : shl .i64 1 (m : Int) = 2 ^ m := by
        unfold shl
        have e : min (m : Int).toNat (IntKind.bits .i64) = m := by simp [IntKind.bits]; omega
        have := pow2_mono m 18 (by omega)
        rw [e, IntKind.wrap_i64]
        omega
      have hxy : 0 ≤ x - y := by omega
      have ew2 : wrap64 (x - y) = x - y := by unfold wrap64; omega
      rw [if_neg c, if_pos (by omega), es, ew2, if_pos hy2, shown_eq k (by omega)]
      rfl
  | succ d ih =>
    intro k v i hi hi0 hk hv
    obtain ⟨k, rfl⟩ : ∃ j, k = j + 1 := ⟨k - 1, by omega⟩
    have bv := cutv_bd (x * 2 ^ i.toNat)
    rw [← hv] at bv
    have ew : wrap64 (i + 1) = i + 1 := by unfold wrap64; omega
    simp only [analemmalaw02_FixShifts.l1]
    rw [if_pos (by omega), shift_one v (by omega) (by omega)]
    simp only [Option.bind_some]
    rw [ew]
    refine ih k _ (i + 1) (by omega) (by omega) (by omega) ?_
    have e : (i + 1).toNat = i.toNat + 1 := by omega
    rw [e, hv, cutv_mul _ _ (by decide), Int.pow_succ, Int.mul_assoc]

theorem shifts_l0 (m : Nat) (x y : Int) (hm : m ≤ 59) (hx0 : -8796093022208 ≤ x) (hx1 : x ≤ 8796093022207) (hy : y ≤ x) (hy2 : x - y < 2 ^ m) (d : Nat) : ∀ (k : Nat) (z i : Int), i + d = m → 0 ≤ i → 130 + d ≤ k →
    z = x / 2 ^ i.toNat → analemmalaw02_FixShifts.l0 k m x y z i = some true := by
  induction d with
  | zero =>
    intro k z i hi hi0 hk hz
    obtain ⟨k, rfl⟩ : ∃ j, k = j + 1 := ⟨k - 1, by omega⟩
    have ei : i.toNat = m := by omega
    rw [ei] at hz
    simp only [analemmalaw02_FixShifts.l0]
    rw [if_neg (by omega), shift_eq x m (by omega) (by omega) (by omega) (by omega)]
    simp only [Option.bind_some]
    refine shifts_l1 m x y z _ hm hx0 hx1 hy hy2 hz ?_ m k x 0 (by omega) (by omega) (by omega) ?_
    · unfold shiftv
      by_cases c : m = 0
      · subst c
        have e : (2 : Int) ^ 0 = 1 := rfl
        have e2 : (-(((0 : Nat) : Int))).toNat = 0 := rfl
        rw [if_pos (by decide), e2, e, Int.ediv_one, Int.mul_one]
      · have e : ((m : Int)).toNat = m := by omega
        rw [if_neg (by omega), e]
    · have e : (2 : Int) ^ (0 : Int).toNat = 1 := rfl
      rw [e, Int.mul_one, cutv_id _ (by omega) (by omega)]
  | succ d ih =>
    intro k z i hi hi0 hk hz
    obtain ⟨k, rfl⟩ : ∃ j, k = j + 1 := ⟨k - 1, by omega⟩
    have bz := shift_down x hx0 hx1 i.toNat
    rw [← hz] at bz
    have ew : wrap64 (i + 1) = i + 1 := by unfold wrap64; omega
    simp only [analemmalaw02_FixShifts.l0]
    rw [if_pos (by omega), shift_half z (by omega) (by omega)]
    simp only [Option.bind_some]
    rw [ew]
    refine ih k _ (i + 1) (by omega) (by omega) (by omega) ?_
    have e : (i + 1).toNat = i.toNat + 1 := by omega
    rw [e, hz, Int.pow_succ, Int.ediv_ediv_of_nonneg (by have := pow2_pos i.toNat; omega)]

theorem FixShifts : analemmalaw02_FixShifts.Pure := by
  intro a n ha hn
  have ba := bounds_i64 ha
  have bn := bounds_u8 hn
  clear ha hn
  refine ⟨200, ?_⟩
  unfold analemmalaw02_FixShifts.f
  have em : Int.tmod (wrap64 n) 60 = n % 60 := by
    have : wrap64 n = n := by unfold wrap64; omega
    rw [this, Int.tmod_eq_emod_of_nonneg bn.1]
  obtain ⟨m, hm⟩ : ∃ m : Nat, n % 60 = (m : Int) := ⟨(n % 60).toNat, by omega⟩
  have hm59 : m ≤ 59 := by omega
  obtain ⟨x, hx⟩ : ∃ x, a / 1048576 = x := ⟨_, rfl⟩
  have bx : -8796093022208 ≤ x ∧ x ≤ 8796093022207 := by omega
  rw [em, hm, hx]
  clear em hm hx ba bn
  have hp := pow2_pos m
  have hp59 := pow2_mono m 59 hm59
  have e59 : (2 : Int) ^ 59 = 576460752303423488 := by decide
  have ew : wrap64 (-(m : Int)) = -(m : Int) := by unfold wrap64; omega
  have bd := shift_down x bx.1 bx.2 m
  have e1 : shiftv x (-(m : Int)) = x / 2 ^ m := by
    unfold shiftv
    have e : (-(-(m : Int))).toNat = m := by omega
    rw [if_pos (by omega), e, cutv_id _ (by omega) (by omega)]
  have e2 : shiftv (x / 2 ^ m) m = x / 2 ^ m * 2 ^ m := by
    have em1 := Int.mul_ediv_add_emod x (2 ^ m)
    have em2 := Int.emod_nonneg x (b := 2 ^ m) (by omega)
    have em3 := Int.emod_lt_of_pos x hp
    rw [Int.mul_comm] at em1
    unfold shiftv
    by_cases c : m = 0
    · subst c
      have e : (2 : Int) ^ 0 = 1 := rfl
      have e2 : (-(((0 : Nat) : Int))).toNat = 0 := rfl
      rw [if_pos (by decide), e2, e, Int.ediv_one, Int.mul_one, Int.ediv_one, cutv_id _ (by omega) (by omega)]
    · have e : ((m : Int)).toNat = m := by omega
      rw [if_neg (by omega), e, cutv_id _ (by omega) (by omega)]
  rw [ew, shift_eq x _ (by omega) (by omega) (by omega) (by omega), e1]
  simp only [Option.bind_some]
  rw [shift_eq _ _ (by omega) (by omega) (by omega) (by omega), e2]
  simp only [Option.bind_some]
  have em1 := Int.mul_ediv_add_emod x (2 ^ m)
  have em2 := Int.emod_nonneg x (b := 2 ^ m) (by omega)
  have em3 := Int.emod_lt_of_pos x hp
  rw [Int.mul_comm] at em1
  refine shifts_l0 m x _ hm59 bx.1 bx.2 (by omega) (by omega) m 200 x 0 (by omega) (by omega) (by omega) ?_
  have e : (2 : Int) ^ (0 : Int).toNat = 1 := rfl
  rw [e, Int.ediv_one]


end Go.Proofs.Ytomjongnjfodmaa.Pure
