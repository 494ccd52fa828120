/- The walk of the statement FloatyBack: a number of no more than 53 bits, shifted by no more than nine places, comes back. -/
import Derived.Test.YtlbelgdcicholaaProg
import Derived.Below
import Derived.Deep.Draws
import Derived.Deep.AppendLies
import Derived.Maps.AppendAt
import Derived.OwnWalk
import Derived.Laws.BytesArg
import Derived.Laws.MakeOwn
import Derived.Laws.OwnMore
import Derived.Deep.OwnRows
import Derived.Tactics
import Derived.Lib.ConvBytes
import Derived.Laws.Slices
import Derived.WalkKit
import Derived.KernelRfl
import Derived.RowKit3
import Derived.Deep.LoopGhost
import Derived.Deep.QuietTactic
import Derived.BigQuiet
import Derived.WideLaws
import Derived.Deep.DeepCutAuto
import Derived.Deep.CutBlock
import Derived.Deep.RegionHeld3
import Derived.Laws.Rows
import Derived.Lib.AppendStr
import Derived.ArgAppend
import Derived.Laws.IdiomCopy
import Derived.OrdersHeld
import Derived.Laws.BitsLemmas
import Derived.RowKit
import Derived.Test.YtlbelgdcicholaaWWords
import Derived.Test.YtlbelgdcicholaaWLast
import Derived.Test.YtlbelgdcicholaaWTab
import Derived.Test.YtlbelgdcicholaaWFour
import Derived.Test.YtlbelgdcicholaaWQPut
import Derived.Test.YtlbelgdcicholaaWApart
import Derived.Test.YtlbelgdcicholaaWArr
import Derived.Test.YtlbelgdcicholaaWZeros
import Derived.Test.YtlbelgdcicholaaWFoot
import Derived.Test.YtlbelgdcicholaaWKept
import Derived.Test.YtlbelgdcicholaaWShare
import Derived.Test.YtlbelgdcicholaaWN
import Derived.Test.YtlbelgdcicholaaWFootNe
import Derived.Test.YtlbelgdcicholaaWAt
import Derived.Test.YtlbelgdcicholaaWEqStruct
import Derived.Test.YtlbelgdcicholaaWRepsOne
import Derived.Test.YtlbelgdcicholaaWInv
import Derived.Test.YtlbelgdcicholaaWInvWords
import Derived.Test.YtlbelgdcicholaaWGuard
import Derived.Test.YtlbelgdcicholaaWNEv
import Derived.Test.YtlbelgdcicholaaWMore
import Derived.WalkLawsBesides
import Derived.Outline
import Derived.Laws.Externs
import Derived.Test.YtlbelgdcicholaaFlTo
import Derived.Test.YtlbelgdcicholaaFlOf
import Derived.Test.YtlbelgdcicholaaFlKinds
import Derived.Test.YtlbelgdcicholaaFlWithinL
namespace Go.Proofs.Ytlbelgdcicholaa.Fl
open Go.RowKit Go.Proofs.YtlbelgdcicholaaW.PrintWords Go.Proofs.YtlbelgdcicholaaW.PrintLast Go.Proofs.YtlbelgdcicholaaW.PrintMore
attribute [local go_sem] max2_int min2_int max_two min_two max_three min_three max_four min_four
set_option linter.unusedVariables false
set_option linter.unusedSimpArgs false
theorem V_sub32 (R : Nat) (h : 4607182418800017408 ≤ R) : V (R - 144115188075855872) * 2 ^ 32 = V R := by
  have e1 : up R = up (R - 144115188075855872) + 32 := by unfold up; rw [if_neg (by omega), if_neg (by omega)]; omega
  have e2 : mag R = mag (R - 144115188075855872) := by unfold mag; rw [if_neg (by omega), if_neg (by omega)]; omega
  rw [V_eq, V_eq, e1, e2, Nat.pow_add, Nat.mul_assoc]

theorem float_V (s : Bool) (m k R : Nat) (hm : m < 9007199254740992) (hk : k ≤ 200) (hR : R < 9223372036854775808) (h : Ieee.double.nearest s (m * 2 ^ k) 0 = Ieee.double.word s R) : V R = m * 2 ^ k * 2 ^ LL := by
  have e := near_shift s m k (k : Int)
  rw [Int.sub_self, h] at e
  have ht : m = 0 ∨ (k : Int) + (m.log2 : Int) ≤ 1023 := by
    by_cases z : m = 0
    · exact .inl z
    · have := log_le m 52 z hm
      exact .inr (by omega)
  obtain ⟨r, hr, hw, hV⟩ := near_V s m k hm (by omega) ht
  rw [hw] at e
  have e2 := congrArg rung e
  rw [(word_parts s R hR).1, (word_parts s r (by omega)).1] at e2
  rw [e2, hV, show ((k : Int) + 1074).toNat = k + LL from by unfold LL; omega, Nat.pow_add, Nat.mul_assoc]

theorem LL_EE : LL = EE + 32 := rfl

theorem sv_int (n : Int) : sv (decide (n < 0)) n.natAbs = n := by
  unfold sv
  by_cases c : n < 0
  · rw [decide_eq_true c, if_pos rfl]
    omega
  · rw [decide_eq_false c, if_neg (by decide)]
    omega

/-- What comes back. -/
theorem back_val (n : Int) (m k : Nat) (hn : n.natAbs = m * 2 ^ k) (hm : m < 9007199254740992) (hk : k ≤ 200) (h0 : -9223372036854775808 ≤ n) (h1 : n ≤ 9223372036854775807) :
    tow n < 18446744073709551616 ∧ ¬ isNan (tow n) ∧ rung (tow n) < 9218868437227405312 ∧ (rung (tow n) < 4746794007248502784 → ofn (tow n) = n) := by
  by_cases z : n = 0
  · have e1 : tow n = 0 := if_pos z
    have o : ofn 0 = 0 := by
      unfold ofn
      rw [if_pos (by decide), show rung 0 = 0 from rfl, V_zero]
      show sv false 0 / _ = 0
      unfold sv
      simp
    rw [e1, z]
    exact ⟨by decide, by decide, by decide, fun _ => o⟩
  · obtain ⟨R, e, er, r0, r1⟩ := int_float n z h0 h1
    have et : tow n = Ieee.double.word (decide (n < 0)) (R - 144115188075855872) := by unfold tow; rw [if_neg z, er]
    have ef : floatOfInt .f64 n = Ieee.double.nearest (decide (n < 0)) n.natAbs 0 := rfl
    have w := word_parts (decide (n < 0)) (R - 144115188075855872) (by omega)
    rw [ef, hn] at e
    have hV := float_V _ m k R hm hk (by omega) e
    have h32 := V_sub32 R r0
    rw [et]
    refine ⟨w.2.2, by unfold isNan; rw [w.1]; omega, by rw [w.1]; omega, fun hb => ?_⟩
    rw [w.1] at hb
    unfold ofn
    rw [w.1, if_pos hb, w.2.1]
    have hv : V (R - 144115188075855872) = n.natAbs * 2 ^ EE := by
      rw [hV, LL_EE, Nat.pow_add, ← Nat.mul_assoc] at h32
      have := Nat.eq_of_mul_eq_mul_right (Nat.two_pow_pos 32) h32
      rw [this, hn]
    rw [hv, sv_mul, sv_int]
    have ep : ((2 ^ EE : Nat) : Int) = 2 ^ EE := by rw [Int.natCast_pow]; rfl
    rw [ep, Int.mul_ediv_cancel _ (Int.ne_of_gt (Int.pow_pos (by decide)))]

theorem gt_low (x : Nat) (hn : ¬ isNan x) : (FloatKind.f64.format.order x 13970166044103278592 == some .gt) = (!neg x || decide (rung x < 4746794007248502784)) := by
  have e0 : FloatKind.f64.format.order x 13970166044103278592 = some (compare (sr x) (sr 13970166044103278592)) := order_eq hn (by decide)
  have e2 : sr 13970166044103278592 = -4746794007248502784 := by decide
  rw [e0, e2, cmp_def]
  unfold sr
  by_cases c : rung x < 4746794007248502784
  · rw [decide_eq_true c]
    cases neg x <;> simp only [Bool.false_eq_true, if_false, if_true] <;> (repeat' split) <;> first | rfl | omega
  · rw [decide_eq_false c]
    cases neg x <;> simp only [Bool.false_eq_true, if_false, if_true] <;> (repeat' split) <;> first | rfl | omega

theorem lt_high (x : Nat) (hn : ¬ isNan x) : (FloatKind.f64.format.order x 4746794007248502784 == some .lt) = (neg x || decide (rung x < 4746794007248502784)) := by
  have e0 : FloatKind.f64.format.order x 4746794007248502784 = some (compare (sr x) (sr 4746794007248502784)) := order_eq hn (by decide)
  have e2 : sr 4746794007248502784 = 4746794007248502784 := by decide
  rw [e0, e2, cmp_def]
  unfold sr
  by_cases c : rung x < 4746794007248502784
  · rw [decide_eq_true c]
    cases neg x <;> simp only [Bool.false_eq_true, if_false, if_true] <;> (repeat' split) <;> first | rfl | omega
  · rw [decide_eq_false c]
    cases neg x <;> simp only [Bool.false_eq_true, if_false, if_true] <;> (repeat' split) <;> first | rfl | omega

theorem tmod_bd (a : Int) : -9007199254740992 < Int.tmod a 9007199254740992 ∧ Int.tmod a 9007199254740992 < 9007199254740992 := by
  constructor
  · rcases Int.le_total 0 a with h | h
    · have := Int.tmod_nonneg 9007199254740992 h
      omega
    · have h1 := Int.tmod_lt_of_pos (-a) (show (0 : Int) < 9007199254740992 by decide)
      rw [Int.neg_tmod] at h1
      omega
  · exact Int.tmod_lt_of_pos a (by decide)

theorem shl_bd (t : Int) (j : Nat) (h0 : -9007199254740992 < t) (h1 : t < 9007199254740992) (hj : j ≤ 9) : -4611686018427387904 < t * 2 ^ j ∧ t * 2 ^ j < 4611686018427387904 ∧ (t * 2 ^ j).natAbs = t.natAbs * 2 ^ j := by
  have hp : (2 : Nat) ^ j ≤ 512 := Nat.pow_le_pow_right (n := 2) (j := 9) (by decide) hj
  have ea : (t * 2 ^ j).natAbs = t.natAbs * 2 ^ j := by
    rw [Int.natAbs_mul, Int.natAbs_pow]
    rfl
  have hb : t.natAbs * 2 ^ j ≤ 9007199254740991 * 512 := Nat.mul_le_mul (by omega) hp
  refine ⟨by omega, by omega, ea⟩

set_option maxHeartbeats 8000000 in
/-- The rest of the walk, from the number on. -/
theorem back_rest (a k n : Int) (w : World) (hk : 0 ≤ k ∧ k ≤ 255) (m j : Nat) (hn : n.natAbs = m * 2 ^ j) (hm : m < 9007199254740992) (hj : j ≤ 200) (h0 : -9223372036854775807 < n) (h1 : n ≤ 9223372036854775807)
    (hc : (k % 2 = 1 ∧ wrap64 (Int.tmod a 9007199254740992 * 2 ^ (k / 2 % 10).toNat) = n) ∨ (¬ k % 2 = 1 ∧ Int.tmod a 9007199254740992 = n)) :
    Calls Try.prog 9 #[.int .i64 a, .int .u8 k] w fun e w' => e = .returned (.bool true) ∧ w' = w := by
  obtain ⟨hx64, hxn, hxr, hxo⟩ := back_val n m j hn hm hj (by omega) h1
  have TC := Aside0.mk (fun w => to_calls n w (by omega) h1)
  obtain ⟨x, hx⟩ : ∃ x, tow n = x := ⟨_, rfl⟩
  rw [hx] at hx64 hxn hxr hxo TC
  have HX := Aside0.mk hx64
  have g1 := gt_low x hxn
  have g2 := lt_high x hxn
  have l1 : (n ≤ -9223372036854775807) = False := eq_false (by omega)
  have l2 : (-9223372036854775808 < n) = True := eq_true (by omega)
  by_cases c : rung x < 4746794007248502784
  · have oe : ofe x = 0 := ofe_small x c
    have on := hxo c
    rw [decide_eq_true c, Bool.or_true] at g1 g2
    clear hxo hxn hxr hx64 hx h0 h1 hn hm hj c
    rcases hc with ⟨k1, e1⟩ | ⟨k1, e1⟩
    all_goals
      go_enter Try.func9, Try.ntmps9
      go_wp2_with (first | (go_at_call 27; (with_reducible refine (TC.out _).mono ?_); rintro e w1 ⟨rfl, rfl⟩) | (go_at_call 23; (with_reducible refine (of_calls x _ HX.out).mono ?_); rintro e w1 ⟨rfl, rfl⟩) | (go_at_call 15; (with_reducible refine (shown_calls _).mono ?_); rintro e w1 ⟨rfl, rfl⟩))
    all_goals
      go_ret
      exact ⟨rfl, rfl⟩
  · have oe : ofe x = 32 := by
      unfold ofe
      rw [if_neg hxn, if_neg (by omega), if_neg c]
    rw [decide_eq_false c, Bool.or_false] at g1 g2
    clear hxo hxn hxr hx64 hx h0 h1 hn hm hj c
    cases hs : neg x
    all_goals
      rw [hs] at g1 g2
      rcases hc with ⟨k1, e1⟩ | ⟨k1, e1⟩
    all_goals
      go_enter Try.func9, Try.ntmps9
      go_wp2_with (first | (go_at_call 27; (with_reducible refine (TC.out _).mono ?_); rintro e w1 ⟨rfl, rfl⟩) | (go_at_call 23; (with_reducible refine (of_calls x _ HX.out).mono ?_); rintro e w1 ⟨rfl, rfl⟩) | (go_at_call 15; (with_reducible refine (shown_calls _).mono ?_); rintro e w1 ⟨rfl, rfl⟩))
    all_goals
      go_ret
      exact ⟨rfl, rfl⟩

theorem back_calls (a k : Int) (w : World) (h0 : -9223372036854775808 ≤ a) (h1 : a ≤ 9223372036854775807) (hk : 0 ≤ k ∧ k ≤ 255) :
    Calls Try.prog 9 #[.int .i64 a, .int .u8 k] w fun e w' => e = .returned (.bool true) ∧ Below w.heap.size w w' := by
  have tb := tmod_bd a
  by_cases c : k % 2 = 1
  · have hj : (k / 2 % 10).toNat ≤ 9 := by omega
    have sb := shl_bd (Int.tmod a 9007199254740992) _ tb.1 tb.2 hj
    have ew : wrap64 (Int.tmod a 9007199254740992 * 2 ^ (k / 2 % 10).toNat) = Int.tmod a 9007199254740992 * 2 ^ (k / 2 % 10).toNat := by
      obtain ⟨p, hp⟩ : ∃ p, Int.tmod a 9007199254740992 * 2 ^ (k / 2 % 10).toNat = p := ⟨_, rfl⟩
      rw [hp] at sb ⊢
      unfold wrap64
      omega
    refine (back_rest a k _ w hk _ _ sb.2.2 (by omega) (by omega) (by omega) (by omega) (.inl ⟨c, ew⟩)).mono fun e w' ⟨he, hw⟩ => ⟨he, by rw [hw]; exact Below.refl _ _⟩
  · refine (back_rest a k _ w hk (Int.tmod a 9007199254740992).natAbs 0 (by rw [Nat.pow_zero, Nat.mul_one]) (by omega) (by omega) (by omega) (by omega) (.inr ⟨c, rfl⟩)).mono fun e w' ⟨he, hw⟩ => ⟨he, by rw [hw]; exact Below.refl _ _⟩

end Go.Proofs.Ytlbelgdcicholaa.Fl
