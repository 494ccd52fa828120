/- Plain laws of what a float64 comes to and back: rounded down it is not above, and the next one is not below. Each says its own condition. -/
import Derived.Test.YtlbelgdcicholaaProg
import Derived.Below
import Derived.Deep.Draws
import Derived.Deep.AppendLies
import Derived.Maps.AppendAt
import Derived.OwnWalk
import Derived.Laws.BytesArg
import Derived.Laws.MakeOwn
import Derived.Laws.OwnMore
import Derived.Deep.OwnRows
import Derived.Tactics
import Derived.Lib.ConvBytes
import Derived.Laws.Slices
import Derived.WalkKit
import Derived.KernelRfl
import Derived.RowKit3
import Derived.Deep.LoopGhost
import Derived.Deep.QuietTactic
import Derived.BigQuiet
import Derived.WideLaws
import Derived.Deep.DeepCutAuto
import Derived.Deep.CutBlock
import Derived.Deep.RegionHeld3
import Derived.Laws.Rows
import Derived.Lib.AppendStr
import Derived.ArgAppend
import Derived.Laws.IdiomCopy
import Derived.OrdersHeld
import Derived.Laws.BitsLemmas
import Derived.RowKit
import Derived.Test.YtlbelgdcicholaaWWords
import Derived.Test.YtlbelgdcicholaaWLast
import Derived.Test.YtlbelgdcicholaaWTab
import Derived.Test.YtlbelgdcicholaaWFour
import Derived.Test.YtlbelgdcicholaaWQPut
import Derived.Test.YtlbelgdcicholaaWApart
import Derived.Test.YtlbelgdcicholaaWArr
import Derived.Test.YtlbelgdcicholaaWZeros
import Derived.Test.YtlbelgdcicholaaWFoot
import Derived.Test.YtlbelgdcicholaaWKept
import Derived.Test.YtlbelgdcicholaaWShare
import Derived.Test.YtlbelgdcicholaaWN
import Derived.Test.YtlbelgdcicholaaWFootNe
import Derived.Test.YtlbelgdcicholaaWAt
import Derived.Test.YtlbelgdcicholaaWEqStruct
import Derived.Test.YtlbelgdcicholaaWRepsOne
import Derived.Test.YtlbelgdcicholaaWInv
import Derived.Test.YtlbelgdcicholaaWInvWords
import Derived.Test.YtlbelgdcicholaaWGuard
import Derived.Test.YtlbelgdcicholaaWNEv
import Derived.Test.YtlbelgdcicholaaWMore
import Derived.WalkLawsBesides
import Derived.Outline
import Derived.Laws.Externs
import Derived.Test.YtlbelgdcicholaaFlMono
import Derived.Test.YtlbelgdcicholaaFlBack
namespace Go.Proofs.Ytlbelgdcicholaa.Fl
open Go.RowKit Go.Proofs.YtlbelgdcicholaaW.PrintWords Go.Proofs.YtlbelgdcicholaaW.PrintLast Go.Proofs.YtlbelgdcicholaaW.PrintMore
attribute [local go_sem] max2_int min2_int max_two min_two max_three min_three max_four min_four
set_option linter.unusedVariables false
set_option linter.unusedSimpArgs false
def SV (x : Nat) : Int := sv (neg x) (V (rung x))

theorem sr_le (x y : Nat) (h : SV x ≤ SV y) : sr x ≤ sr y := by
  have e := sv_cmp x y
  rw [cmp_def, cmp_def] at e
  unfold SV at h
  by_cases c : sr x ≤ sr y
  · exact c
  · rw [if_neg (show ¬ sr x < sr y by omega), if_neg (show ¬ sr x = sr y by omega)] at e
    by_cases d : sv (neg x) (V (rung x)) < sv (neg y) (V (rung y))
    · rw [if_pos d] at e
      cases e
    · rw [if_neg d, if_pos (by omega)] at e
      cases e

theorem SV_le (x y : Nat) (h : sr x ≤ sr y) : SV x ≤ SV y := by
  have e := sv_cmp x y
  rw [cmp_def, cmp_def] at e
  unfold SV
  by_cases c : sv (neg x) (V (rung x)) ≤ sv (neg y) (V (rung y))
  · exact c
  · rw [if_neg (show ¬ sv (neg x) (V (rung x)) < sv (neg y) (V (rung y)) by omega), if_neg (show ¬ sv (neg x) (V (rung x)) = sv (neg y) (V (rung y)) by omega)] at e
    by_cases d : sr x < sr y
    · rw [if_pos d] at e
      cases e
    · rw [if_neg d, if_pos (by omega)] at e
      cases e

theorem ofn_SV (x : Nat) (h : rung x < 4746794007248502784) : ofn x = SV x / 2 ^ EE := by
  unfold ofn SV
  rw [if_pos h]

theorem d_pos : (0 : Int) < 2 ^ EE := Int.pow_pos (by decide)

theorem ofn_mono (a b : Nat) (ha : rung a < 4746794007248502784) (hb : rung b < 4746794007248502784) (h : sr a ≤ sr b) : ofn a ≤ ofn b := by
  rw [ofn_SV a ha, ofn_SV b hb]
  exact Int.ediv_le_ediv d_pos (SV_le a b h)

theorem tow_word (n : Int) (hn : n ≠ 0) (h0 : -9223372036854775808 ≤ n) (h1 : n ≤ 9223372036854775807) :
    tow n = Ieee.double.word (decide (n < 0)) (nrung n.natAbs - 144115188075855872) ∧ 4607182418800017408 ≤ nrung n.natAbs ∧ nrung n.natAbs ≤ 4895412794951729152 := by
  obtain ⟨R, e, er, r0, r1⟩ := int_float n hn h0 h1
  have ef : floatOfInt .f64 n = Ieee.double.nearest (decide (n < 0)) n.natAbs 0 := rfl
  rw [ef, near_nrung _ _ (by omega)] at e
  obtain ⟨K, eK, _, k1⟩ := nrung_bd n.natAbs (by omega)
  have hl : n.natAbs.log2 ≤ 63 := log_le _ 63 (by omega) (by omega)
  have e2 := congrArg rung e
  rw [(word_parts _ _ (show nrung n.natAbs < 9223372036854775808 by omega)).1, (word_parts _ R (by omega)).1] at e2
  have et : tow n = Ieee.double.word (decide (n < 0)) (R - 144115188075855872) := by unfold tow; rw [if_neg hn, er]
  rw [e2]
  exact ⟨et, r0, r1⟩

theorem tow_nan (n : Int) (h0 : -9223372036854775808 ≤ n) (h1 : n ≤ 9223372036854775807) : tow n < 18446744073709551616 ∧ ¬ isNan (tow n) := by
  by_cases z : n = 0
  · have e1 : tow n = 0 := if_pos z
    rw [e1]
    exact ⟨by decide, by decide⟩
  · obtain ⟨e, r0, r1⟩ := tow_word n z h0 h1
    have w := word_parts (decide (n < 0)) (nrung n.natAbs - 144115188075855872) (by omega)
    rw [e]
    exact ⟨w.2.2, by unfold isNan; rw [w.1]; omega⟩

theorem tow_SV (n : Int) (m k : Nat) (hn : n.natAbs = m * 2 ^ k) (hm : m < 9007199254740992) (hk : k ≤ 200) (h0 : -9223372036854775808 ≤ n) (h1 : n ≤ 9223372036854775807) : SV (tow n) = n * 2 ^ EE := by
  by_cases z : n = 0
  · have e1 : tow n = 0 := if_pos z
    rw [e1, z, Int.zero_mul]
    rfl
  · obtain ⟨e, r0, r1⟩ := tow_word n z h0 h1
    have w := word_parts (decide (n < 0)) (nrung n.natAbs - 144115188075855872) (by omega)
    have h32 := V_sub32 (nrung n.natAbs) r0
    have hV := nrung_V m k hm hk (by omega)
    rw [← hn] at hV
    unfold SV
    rw [e, w.1, w.2.1]
    have hv : V (nrung n.natAbs - 144115188075855872) = n.natAbs * 2 ^ EE := by
      rw [hV, LL_EE, Nat.pow_add, ← Nat.mul_assoc] at h32
      exact Nat.eq_of_mul_eq_mul_right (Nat.two_pow_pos 32) h32
    rw [hv, sv_mul, sv_int]
    have ep : ((2 ^ EE : Nat) : Int) = 2 ^ EE := by rw [Int.natCast_pow]; rfl
    rw [ep]

theorem mag_lt (r : Nat) : mag r < 9007199254740992 := by unfold mag; split <;> omega

theorem sv_abs (s : Bool) (n : Nat) : (sv s n).natAbs = n := by
  unfold sv
  cases s
  · simp
  · simp

/-- What comes to 54 digits or more is exact. -/
theorem big_exact (a : Nat) (ha : rung a < 4746794007248502784) (hb : 9007199254740992 ≤ (ofn a).natAbs) : ∃ k, k ≤ 10 ∧ (ofn a).natAbs = mag (rung a) * 2 ^ k ∧ SV a = ofn a * 2 ^ EE := by
  have hd := d_pos
  have e := ofn_SV a ha
  have l1 := Int.ediv_mul_le (SV a) (Int.ne_of_gt hd)
  have l2 := Int.lt_ediv_add_one_mul_self (SV a) hd
  rw [← e] at l1 l2
  have hA : (SV a).natAbs = mag (rung a) * 2 ^ up (rung a) := by unfold SV; rw [sv_abs, V_eq]
  have hup : up (rung a) ≤ 1052 := by unfold up; split <;> omega
  have hm := mag_lt (rung a)
  have ep : ((2 ^ EE : Nat) : Int) = 2 ^ EE := by rw [Int.natCast_pow]; rfl
  obtain ⟨d, hdd⟩ : ∃ d : Nat, 2 ^ EE = d := ⟨_, rfl⟩
  have hdn : (2 : Int) ^ EE = (d : Int) := by rw [← ep, hdd]
  have hbig : 9007199254740991 * d < (SV a).natAbs := by
    rw [hdn] at l1 l2 hd
    generalize SV a = A at *
    generalize ofn a = n at *
    rcases Int.le_total 0 n with c | c
    · have := Int.mul_le_mul_of_nonneg_right (show (9007199254740992 : Int) ≤ n by omega) (show (0 : Int) ≤ d by omega)
      omega
    · have := Int.mul_le_mul_of_nonneg_right (show n + 1 ≤ (-9007199254740991 : Int) by omega) (show (0 : Int) ≤ d by omega)
      omega
  rw [hA] at hbig
  have hue : EE ≤ up (rung a) := by
    refine Nat.not_lt.1 fun c => ?_
    have h1 : 2 ^ up (rung a) ≤ 2 ^ EE := Nat.pow_le_pow_right (by decide) (by omega)
    rw [hdd] at h1
    have h2 : mag (rung a) * 2 ^ up (rung a) ≤ 9007199254740991 * d := Nat.mul_le_mul (by omega) h1
    omega
  obtain ⟨k, hk⟩ : ∃ k, up (rung a) = k + EE := ⟨up (rung a) - EE, by omega⟩
  have hS : SV a = sv (neg a) (mag (rung a) * 2 ^ k) * 2 ^ EE := by
    unfold SV
    rw [V_eq, hk, Nat.pow_add, ← Nat.mul_assoc, sv_mul, ep]
  have hn : ofn a = sv (neg a) (mag (rung a) * 2 ^ k) := by
    rw [e, hS, Int.mul_ediv_cancel _ (Int.ne_of_gt d_pos)]
  refine ⟨k, by rw [hk, EE_eq] at hup; omega, by rw [hn, sv_abs], by rw [hS, hn]⟩

theorem ofn_bd (a : Nat) (ha : rung a < 4746794007248502784) : (ofn a).natAbs ≤ 9223372036854774784 := by
  by_cases c : 9007199254740992 ≤ (ofn a).natAbs
  · obtain ⟨k, hk, hn, _⟩ := big_exact a ha c
    have hm := mag_lt (rung a)
    have hp : 2 ^ k ≤ 1024 := Nat.pow_le_pow_right (n := 2) (j := 10) (by decide) hk
    have : mag (rung a) * 2 ^ k ≤ 9007199254740991 * 1024 := Nat.mul_le_mul (by omega) hp
    omega
  · omega

/-- Rounded down it is not above. -/
theorem below_it (a : Nat) (ha : rung a < 4746794007248502784) : SV (tow (ofn a)) ≤ SV a := by
  have bd := ofn_bd a ha
  have l1 := Int.ediv_mul_le (SV a) (Int.ne_of_gt d_pos)
  rw [← ofn_SV a ha] at l1
  by_cases c : 9007199254740992 ≤ (ofn a).natAbs
  · obtain ⟨k, hk, hn, he⟩ := big_exact a ha c
    rw [tow_SV (ofn a) _ k hn (mag_lt _) (by omega) (by omega) (by omega), he]
    exact Int.le_refl _
  · rw [tow_SV (ofn a) (ofn a).natAbs 0 (by rw [Nat.pow_zero, Nat.mul_one]) (by omega) (by omega) (by omega) (by omega)]
    exact l1

/-- The next one is not below. -/
theorem above_it (a : Nat) (ha : rung a < 4746794007248502784) : SV a ≤ SV (tow (ofn a + 1)) := by
  have bd := ofn_bd a ha
  have l2 := Int.lt_ediv_add_one_mul_self (SV a) d_pos
  rw [← ofn_SV a ha] at l2
  by_cases c : (ofn a + 1).natAbs < 9007199254740992
  · rw [tow_SV (ofn a + 1) (ofn a + 1).natAbs 0 (by rw [Nat.pow_zero, Nat.mul_one]) c (by omega) (by omega) (by omega)]
    exact Int.le_of_lt l2
  · by_cases c2 : (ofn a + 1).natAbs = 9007199254740992
    · rw [tow_SV (ofn a + 1) 1 53 (by rw [c2]) (by decide) (by decide) (by omega) (by omega)]
      exact Int.le_of_lt l2
    · obtain ⟨k, hk, hn, he⟩ := big_exact a ha (by omega)
      have e0 := tow_SV (ofn a) _ k hn (mag_lt _) (by omega) (by omega) (by omega)
      rw [he, ← e0]
      obtain ⟨t0, r0, r1⟩ := tow_word (ofn a) (by omega) (by omega) (by omega)
      obtain ⟨t1, q0, q1⟩ := tow_word (ofn a + 1) (by omega) (by omega) (by omega)
      have w0 := word_parts (decide (ofn a < 0)) (nrung (ofn a).natAbs - 144115188075855872) (by omega)
      have w1 := word_parts (decide (ofn a + 1 < 0)) (nrung (ofn a + 1).natAbs - 144115188075855872) (by omega)
      refine SV_le _ _ ?_
      unfold sr
      rw [t0, t1, w0.1, w0.2.1, w1.1, w1.2.1]
      rcases Int.lt_or_le (ofn a) 0 with s | s
      · have m := nrung_mono (ofn a + 1).natAbs (ofn a).natAbs (by omega)
        rw [decide_eq_true s, decide_eq_true (show ofn a + 1 < 0 by omega), if_pos rfl, if_pos rfl]
        omega
      · have m := nrung_mono (ofn a).natAbs (ofn a + 1).natAbs (by omega)
        rw [decide_eq_false (show ¬ ofn a < 0 by omega), decide_eq_false (show ¬ ofn a + 1 < 0 by omega), if_neg (by decide), if_neg (by decide)]
        omega

end Go.Proofs.Ytlbelgdcicholaa.Fl
