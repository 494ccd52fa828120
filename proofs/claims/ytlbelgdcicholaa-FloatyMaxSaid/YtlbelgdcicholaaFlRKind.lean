/- The contract of the document's Kind of a float64: it is floaty's; its condition, a float64 of 64 bits. -/
import Derived.Test.YtlbelgdcicholaaProg
import Derived.Below
import Derived.Deep.Draws
import Derived.Deep.AppendLies
import Derived.Maps.AppendAt
import Derived.OwnWalk
import Derived.Laws.BytesArg
import Derived.Laws.MakeOwn
import Derived.Laws.OwnMore
import Derived.Deep.OwnRows
import Derived.Tactics
import Derived.Lib.ConvBytes
import Derived.Laws.Slices
import Derived.WalkKit
import Derived.KernelRfl
import Derived.RowKit3
import Derived.Deep.LoopGhost
import Derived.Deep.QuietTactic
import Derived.BigQuiet
import Derived.WideLaws
import Derived.Deep.DeepCutAuto
import Derived.Deep.CutBlock
import Derived.Deep.RegionHeld3
import Derived.Laws.Rows
import Derived.Lib.AppendStr
import Derived.ArgAppend
import Derived.Laws.IdiomCopy
import Derived.OrdersHeld
import Derived.Laws.BitsLemmas
import Derived.RowKit
import Derived.Test.YtlbelgdcicholaaWWords
import Derived.Test.YtlbelgdcicholaaWLast
import Derived.Test.YtlbelgdcicholaaWTab
import Derived.Test.YtlbelgdcicholaaWFour
import Derived.Test.YtlbelgdcicholaaWQPut
import Derived.Test.YtlbelgdcicholaaWApart
import Derived.Test.YtlbelgdcicholaaWArr
import Derived.Test.YtlbelgdcicholaaWZeros
import Derived.Test.YtlbelgdcicholaaWFoot
import Derived.Test.YtlbelgdcicholaaWKept
import Derived.Test.YtlbelgdcicholaaWShare
import Derived.Test.YtlbelgdcicholaaWN
import Derived.Test.YtlbelgdcicholaaWFootNe
import Derived.Test.YtlbelgdcicholaaWAt
import Derived.Test.YtlbelgdcicholaaWEqStruct
import Derived.Test.YtlbelgdcicholaaWRepsOne
import Derived.Test.YtlbelgdcicholaaWInv
import Derived.Test.YtlbelgdcicholaaWInvWords
import Derived.Test.YtlbelgdcicholaaWGuard
import Derived.Test.YtlbelgdcicholaaWNEv
import Derived.Test.YtlbelgdcicholaaWMore
import Derived.WalkLawsBesides
import Derived.Outline
import Derived.Laws.Externs
import Derived.Test.YtlbelgdcicholaaFlRises
import Derived.Test.YtlbelgdcicholaaFlKinds
namespace Go.Proofs.Ytlbelgdcicholaa.Fl
open Go.RowKit Go.Proofs.YtlbelgdcicholaaW.PrintWords Go.Proofs.YtlbelgdcicholaaW.PrintLast Go.Proofs.YtlbelgdcicholaaW.PrintMore
attribute [local go_sem] max2_int min2_int max_two min_two max_three min_three max_four min_four
set_option linter.unusedVariables false
set_option linter.unusedSimpArgs false
theorem over_ok (K : Nat) (h : 4503599627370496 ≤ K) : min (2046 * 4503599627370496 + K) 9218868437227405312 = 9218868437227405312 := Nat.min_eq_right (by omega)

/-- One place too far: infinity. -/
theorem near_over (s : Bool) (m : Nat) (p : Int) (h0 : m ≠ 0) (hm : m < 9007199254740992) (hp : p + (m.log2 : Int) = 1024) : Ieee.double.nearest s m p = Ieee.double.word s 9218868437227405312 := by
  have b := log_bounds m h0
  have hl := log_le m 52 h0 hm
  have n := norm_lo m m.log2 b.1 b.2 hl
  have e2 : Ieee.double.binade = 4503599627370496 := by decide
  have e3 : Ieee.double.infRung = 9218868437227405312 := by decide
  have e4 : Ieee.double.leastPlace = -1074 := by decide
  have e5 : ((Ieee.double.fractionBits : Nat) : Int) = 52 := rfl
  have el : max (p + (m.log2 : Int) - 52) (-1074) = 972 := by omega
  have a1 : (p - 972).toNat = 52 - m.log2 := by omega
  have a2 : (972 - p).toNat = 0 := by omega
  have a3 : ((972 : Int) - -1074).toNat = 2046 := by decide
  unfold Ieee.Format.nearest
  rw [if_neg h0, e5, e4, e2, e3]
  simp only [el, a1, a2, a3, cut_zero, Nat.shiftLeft_eq, over_ok _ n.1]

theorem sv_add (s : Bool) (m : Nat) : sv s m + sv s m = sv s (m * 2) := by
  unfold sv
  cases s <;> simp <;> omega

theorem sv_sign (s : Bool) (n : Nat) (h : n ≠ 0) : decide (sv s n < 0) = s := by
  unfold sv
  cases s
  · simp
  · simp
    omega

theorem self_word (b : Nat) (hb : b < 18446744073709551616) : Ieee.double.word (neg b) (rung b) = b := by
  have e1 : Ieee.double.signWeight = 9223372036854775808 := by decide
  unfold Ieee.Format.word
  rw [e1]
  unfold neg rung
  by_cases c : b < 9223372036854775808
  · have e : b / 9223372036854775808 % 2 = 0 := by omega
    rw [e]
    simp
    omega
  · have e : b / 9223372036854775808 % 2 = 1 := by omega
    rw [e]
    simp
    omega

/-- Twice a number is another one, but for the infinite ones. -/
theorem dbl (b : Nat) (hb : b < 18446744073709551616) (hn : ¬ isNan b) (hz : rung b ≠ 0) : ∃ z, floatBits .add .f64 b b = some z ∧ (FloatKind.f64.format.order b z == some .eq) = decide (rung b = 9218868437227405312) := by
  have e : floatBits .add .f64 b b = ((Ieee.double.read b).sum (Ieee.double.read b)).map Ieee.double.write := rfl
  rw [e]
  by_cases i : rung b = 9218868437227405312
  · rw [read_inf i]
    have e2 : ((Ieee.Datum.infinity (neg b)).sum (Ieee.Datum.infinity (neg b))).map Ieee.double.write = some (Ieee.double.word (neg b) 9218868437227405312) := by
      show (if neg b = neg b then some (Ieee.Datum.infinity (neg b)) else none).map Ieee.double.write = _
      rw [if_pos rfl]
      rfl
    refine ⟨_, e2, ?_⟩
    rw [decide_eq_true i, ← i, self_word b hb, show FloatKind.f64.format.order b b = some (compare (sr b) (sr b)) from order_eq hn hn, cmp_def, if_neg (by omega), if_pos rfl]
    rfl
  · have hf : rung b < 9218868437227405312 := by unfold isNan at hn; omega
    rw [read_num hf]
    have hm : mag (rung b) ≠ 0 := by
      unfold mag
      split <;> omega
    have hml := mag_lt (rung b)
    have hup : up (rung b) ≤ 2045 := by unfold up; split <;> omega
    obtain ⟨p, hp⟩ : ∃ p : Int, (up (rung b) : Int) - 1074 = p := ⟨_, rfl⟩
    have es : ((Ieee.Datum.number (neg b) (mag (rung b)) p).sum (Ieee.Datum.number (neg b) (mag (rung b)) p)).map Ieee.double.write = some (Ieee.double.nearest (neg b) (mag (rung b) * 2) p) := by
      have t : Ieee.signed (neg b) (mag (rung b)) (p - min p p).toNat + Ieee.signed (neg b) (mag (rung b)) (p - min p p).toNat = sv (neg b) (mag (rung b) * 2) := by
        have z : (p - min p p).toNat = 0 := by omega
        rw [z, ← sv_add]
        unfold Ieee.signed sv
        rw [Nat.shiftLeft_zero]
      show some (Ieee.double.nearest (if Ieee.signed (neg b) (mag (rung b)) (p - min p p).toNat + Ieee.signed (neg b) (mag (rung b)) (p - min p p).toNat = 0 then neg b && neg b else decide (Ieee.signed (neg b) (mag (rung b)) (p - min p p).toNat + Ieee.signed (neg b) (mag (rung b)) (p - min p p).toNat < 0)) (Ieee.signed (neg b) (mag (rung b)) (p - min p p).toNat + Ieee.signed (neg b) (mag (rung b)) (p - min p p).toNat).natAbs (min p p)) = _
      have nz : sv (neg b) (mag (rung b) * 2) ≠ 0 := by
        intro q
        have := congrArg Int.natAbs q
        rw [sv_abs] at this
        simp at this
        exact hm (by omega)
      rw [t, if_neg nz, sv_sign _ _ (by omega), sv_abs, Int.min_self]
    rw [hp, es]
    refine ⟨_, rfl, ?_⟩
    have e3 : Ieee.double.nearest (neg b) (mag (rung b) * 2) p = Ieee.double.nearest (neg b) (mag (rung b)) (p + 1) := by
      have := near_shift (neg b) (mag (rung b)) 1 (p + 1)
      rw [show p + 1 - ((1 : Nat) : Int) = p by omega, Nat.pow_one] at this
      exact this
    rw [e3, decide_eq_false i]
    have hlog := log_le (mag (rung b)) 52 hm hml
    have key : ∃ r, r < 9223372036854775808 ∧ r ≤ 9218868437227405312 ∧ Ieee.double.nearest (neg b) (mag (rung b)) (p + 1) = Ieee.double.word (neg b) r ∧ r ≠ rung b := by
      by_cases c : p + 1 + ((mag (rung b)).log2 : Int) ≤ 1023
      · obtain ⟨r, hr, hw, hV⟩ := near_V (neg b) (mag (rung b)) (p + 1) hml (by omega) (.inr c)
        refine ⟨r, by omega, by omega, hw, fun q => ?_⟩
        rw [q, V_eq, show (p + 1 + 1074).toNat = up (rung b) + 1 by omega, Nat.pow_succ, ← Nat.mul_assoc] at hV
        have hpos : 0 < mag (rung b) * 2 ^ up (rung b) := Nat.mul_pos (by omega) (Nat.two_pow_pos _)
        omega
      · exact ⟨9218868437227405312, by decide, by decide, near_over _ _ _ hm hml (by omega), fun q => i q.symm⟩
    obtain ⟨r, hr, hri, hw, hne⟩ := key
    have wp := word_parts (neg b) r hr
    rw [hw]
    have nz : ¬ isNan (Ieee.double.word (neg b) r) := by unfold isNan; rw [wp.1]; omega
    rw [show FloatKind.f64.format.order b (Ieee.double.word (neg b) r) = some (compare (sr b) (sr (Ieee.double.word (neg b) r))) from order_eq hn nz, cmp_def]
    have hsr : sr b ≠ sr (Ieee.double.word (neg b) r) := by
      unfold sr
      rw [wp.1, wp.2.1]
      cases neg b <;> simp <;> omega
    by_cases d : sr b < sr (Ieee.double.word (neg b) r)
    · rw [if_pos d]
      rfl
    · rw [if_neg d, if_neg hsr]
      rfl

set_option maxHeartbeats 8000000 in
theorem rkind_calls (b : Nat) (w : World) (hb64 : b < 18446744073709551616) : Calls Try.prog 36 #[.float .f64 b] w fun e w' => e = .returned (.int .i64 (kindv b)) ∧ w' = w := by
  have hself : (FloatKind.f64.format.order b b != some .eq) = decide (isNan b) := self_nan b
  by_cases n : isNan b
  · have ek : kindv b = 0 := by unfold kindv; rw [if_pos n]
    rw [decide_eq_true n] at hself
    rw [ek]
    clear n ek hb64
    go_enter Try.func36, Try.ntmps36
    go_wp2_with (fail)
    go_ret
    exact ⟨rfl, rfl⟩
  · have hgt := gt_zero b n
    rw [decide_eq_false n] at hself
    by_cases z : rung b = 0
    · have ek : kindv b = 3 + sgn01 b := by unfold kindv; rw [if_neg n, if_neg (by omega), if_pos z]
      have hlt : (FloatKind.f64.format.order b 0 == some .lt) = false := by
        have e0 : FloatKind.f64.format.order b 0 = some (compare (sr b) (sr 0)) := order_eq n (by decide)
        have es : sr b = 0 := by unfold sr; rw [z]; cases neg b <;> rfl
        have e2 : sr 0 = 0 := by decide
        rw [e0, e2, es]
        rfl
      rw [decide_eq_false (by omega)] at hgt
      obtain ⟨q, hq, hqo⟩ : ∃ q, (∀ (t : TypeId) (w : World), (binOp .quo t (.float .f64 4607182418800017408) (.float .f64 b)).run Try.prog w = .ok (.float .f64 q) w) ∧ (FloatKind.f64.format.order q 0 == some .gt) = !neg b := by
        rcases zero_two b hb64 z with rfl | rfl
        · exact ⟨9218868437227405312, fun t w => run_float_arith _ .quo t .f64 _ _ _ (by decide +kernel), by decide +kernel⟩
        · exact ⟨18442240474082181120, fun t w => run_float_arith _ .quo t .f64 _ _ _ (by decide +kernel), by decide +kernel⟩
      rw [ek]
      unfold sgn01
      clear n z ek hb64
      cases hg : neg b
      all_goals
        rw [hg] at hgt hqo
        go_enter Try.func36, Try.ntmps36
        go_wp2_with (fail)
        go_ret
        exact ⟨rfl, rfl⟩
    · have hlt := lt_zero b n z
      rw [decide_eq_true z] at hgt
      obtain ⟨s, hs, hse⟩ := dbl b hb64 n z
      have hadd : ∀ (t : TypeId) (w : World), (binOp .add t (.float .f64 b) (.float .f64 b)).run Try.prog w = .ok (.float .f64 s) w := fun t w => run_float_arith _ .add t .f64 _ _ _ hs
      by_cases i : rung b = 9218868437227405312
      · have ek : kindv b = 1 + sgn01 b := by unfold kindv; rw [if_neg n, if_pos i]
        rw [decide_eq_true i] at hse
        rw [ek]
        unfold sgn01
        clear n z i ek hb64 hs
        cases hg : neg b
        all_goals
          rw [hg] at hgt hlt
          go_enter Try.func36, Try.ntmps36
          go_wp2_with (fail)
          go_ret
          exact ⟨rfl, rfl⟩
      · have ek : kindv b = 5 + sgn01 b := by unfold kindv; rw [if_neg n, if_neg i, if_neg z]
        rw [decide_eq_false i] at hse
        rw [ek]
        unfold sgn01
        clear n z i ek hb64 hs
        cases hg : neg b
        all_goals
          rw [hg] at hgt hlt
          go_enter Try.func36, Try.ntmps36
          go_wp2_with (fail)
          go_ret
          exact ⟨rfl, rfl⟩

end Go.Proofs.Ytlbelgdcicholaa.Fl
