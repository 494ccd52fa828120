/- The contract of floaty.Of: what a float64 comes to, and its error; its condition, a float64 of 64 bits. -/
import Derived.Test.YtlbelgdcicholaaProg
import Derived.Below
import Derived.Deep.Draws
import Derived.Deep.AppendLies
import Derived.Maps.AppendAt
import Derived.OwnWalk
import Derived.Laws.BytesArg
import Derived.Laws.MakeOwn
import Derived.Laws.OwnMore
import Derived.Deep.OwnRows
import Derived.Tactics
import Derived.Lib.ConvBytes
import Derived.Laws.Slices
import Derived.WalkKit
import Derived.KernelRfl
import Derived.RowKit3
import Derived.Deep.LoopGhost
import Derived.Deep.QuietTactic
import Derived.BigQuiet
import Derived.WideLaws
import Derived.Deep.DeepCutAuto
import Derived.Deep.CutBlock
import Derived.Deep.RegionHeld3
import Derived.Laws.Rows
import Derived.Lib.AppendStr
import Derived.ArgAppend
import Derived.Laws.IdiomCopy
import Derived.OrdersHeld
import Derived.Laws.BitsLemmas
import Derived.RowKit
import Derived.Test.YtlbelgdcicholaaWWords
import Derived.Test.YtlbelgdcicholaaWLast
import Derived.Test.YtlbelgdcicholaaWTab
import Derived.Test.YtlbelgdcicholaaWFour
import Derived.Test.YtlbelgdcicholaaWQPut
import Derived.Test.YtlbelgdcicholaaWApart
import Derived.Test.YtlbelgdcicholaaWArr
import Derived.Test.YtlbelgdcicholaaWZeros
import Derived.Test.YtlbelgdcicholaaWFoot
import Derived.Test.YtlbelgdcicholaaWKept
import Derived.Test.YtlbelgdcicholaaWShare
import Derived.Test.YtlbelgdcicholaaWN
import Derived.Test.YtlbelgdcicholaaWFootNe
import Derived.Test.YtlbelgdcicholaaWAt
import Derived.Test.YtlbelgdcicholaaWEqStruct
import Derived.Test.YtlbelgdcicholaaWRepsOne
import Derived.Test.YtlbelgdcicholaaWInv
import Derived.Test.YtlbelgdcicholaaWInvWords
import Derived.Test.YtlbelgdcicholaaWGuard
import Derived.Test.YtlbelgdcicholaaWNEv
import Derived.Test.YtlbelgdcicholaaWMore
import Derived.WalkLawsBesides
import Derived.Outline
import Derived.Laws.Externs
import Derived.Test.YtlbelgdcicholaaFlOrd
import Derived.Test.YtlbelgdcicholaaFlKind
namespace Go.Proofs.Ytlbelgdcicholaa.Fl
open Go.RowKit Go.Proofs.YtlbelgdcicholaaW.PrintWords Go.Proofs.YtlbelgdcicholaaW.PrintLast Go.Proofs.YtlbelgdcicholaaW.PrintMore
attribute [local go_sem] max2_int min2_int max_two min_two max_three min_three max_four min_four
set_option linter.unusedVariables false
set_option linter.unusedSimpArgs false
theorem and_u64 (b m k : Nat) (hb : b < 18446744073709551616) (hk : k ≤ 63) (hm : m = 2 ^ k - 1) : Go.bits .and .u64 (b : Int) (m : Int) = ((b % 2 ^ k : Nat) : Int) := by
  have h1 : (BitVec.ofInt 64 (b : Int)).toNat = b := by
    rw [BitVec.ofInt_natCast, BitVec.toNat_ofNat]; exact Nat.mod_eq_of_lt (by omega)
  have hp : 2 ^ k ≤ 2 ^ 63 := Nat.pow_le_pow_right (by decide) hk
  have h2 : (BitVec.ofInt 64 (m : Int)).toNat = m := by
    rw [BitVec.ofInt_natCast, BitVec.toNat_ofNat]; exact Nat.mod_eq_of_lt (by omega)
  have h3 : (BitVec.ofInt 64 (b : Int) &&& BitVec.ofInt 64 (m : Int)).toNat = b % 2 ^ k := by
    rw [BitVec.toNat_and, h1, h2, hm]
    exact Nat.and_two_pow_sub_one_eq_mod b k
  have h4 : Go.bits .and .u64 (b : Int) (m : Int) = IntKind.u64.wrap ((BitVec.ofInt 64 (b : Int) &&& BitVec.ofInt 64 (m : Int)).toNat : Int) := rfl
  have h5 : b % 2 ^ k ≤ b := Nat.mod_le _ _
  rw [h4, h3, IntKind.wrap_u64]
  omega

theorem or_hidden (f : Nat) (hf : f < 4503599627370496) : Go.bits .or .i64 (f : Int) 4503599627370496 = (f : Int) + 4503599627370496 := by
  have h1 : (BitVec.ofInt 64 (f : Int)).toNat = f := by
    rw [BitVec.ofInt_natCast, BitVec.toNat_ofNat]; exact Nat.mod_eq_of_lt (by omega)
  have h2 : (BitVec.ofInt 64 (4503599627370496 : Int)).toNat = 4503599627370496 := by decide
  have h3 : (BitVec.ofInt 64 (f : Int) ||| BitVec.ofInt 64 (4503599627370496 : Int)).toNat = f + 4503599627370496 := by
    rw [BitVec.toNat_or, h1, h2, Nat.or_comm]
    have e : 4503599627370496 + f = 4503599627370496 ||| f := by
      have := Nat.two_pow_add_eq_or_of_lt (i := 52) (b := f) hf 1
      simpa using this
    omega
  have h4 : Go.bits .or .i64 (f : Int) 4503599627370496 = IntKind.i64.wrap ((BitVec.ofInt 64 (f : Int) ||| BitVec.ofInt 64 (4503599627370496 : Int)).toNat : Int) := rfl
  rw [h4, h3, IntKind.wrap_i64]
  omega

/-- 1042, not to be reckoned with. -/
def EE : Nat := 1042
theorem EE_eq : EE = 1042 := rfl
/-- What a float comes to: seconds by 2 ^ 32, rounded down. -/
def ofn (b : Nat) : Int := if rung b < 4746794007248502784 then sv (neg b) (V (rung b)) / 2 ^ EE else 0
def ofe (b : Nat) : Int := if isNan b then 30 else if rung b = 9218868437227405312 then 31 else if rung b < 4746794007248502784 then 0 else 32

theorem sv_mul (s : Bool) (m k : Nat) : sv s (m * k) = sv s m * (k : Int) := by
  unfold sv
  cases s
  · simp
  · simp [Int.neg_mul]

theorem of_shl (s : Int) (k : Nat) : s * ((2 ^ (EE + k) : Nat) : Int) / 2 ^ EE = s * 2 ^ k := by
  have e : ((2 ^ (EE + k) : Nat) : Int) = 2 ^ EE * 2 ^ k := by
    rw [Nat.pow_add]
    simp
  rw [e, Int.mul_comm, Int.mul_assoc, Int.mul_ediv_cancel_left _ (Int.ne_of_gt (Int.pow_pos (by decide))), Int.mul_comm]

theorem of_shr (s : Int) (k j : Nat) (h : k + j = EE) : s * ((2 ^ k : Nat) : Int) / 2 ^ EE = s / 2 ^ j := by
  have e : (2 : Int) ^ EE = 2 ^ j * ((2 ^ k : Nat) : Int) := by
    rw [← h, Int.pow_add, Int.mul_comm]
    simp
  rw [e, Int.mul_ediv_mul_of_pos_left _ _ (by exact_mod_cast Nat.two_pow_pos k)]

theorem far_shr (s : Int) (j : Nat) (h0 : -9007199254740992 ≤ s) (h1 : s ≤ 9007199254740992) (hj : 63 ≤ j) : s / 2 ^ j = s / 9223372036854775808 := by
  have hp : (9223372036854775808 : Int) ≤ 2 ^ j := by
    have : (2 : Nat) ^ 63 ≤ 2 ^ j := Nat.pow_le_pow_right (by decide) hj
    have e : ((2 ^ j : Nat) : Int) = 2 ^ j := by rw [Int.natCast_pow]; rfl
    omega
  rcases Int.lt_or_le s 0 with c | c
  · have e1 : s / 2 ^ j = -1 := by
      rw [Int.ediv_eq_iff_of_pos (by omega)]
      omega
    omega
  · rw [Int.ediv_eq_zero_of_lt c (by omega)]
    omega

/-- The number, from the field of the exponent and the fraction. -/
theorem ofn_sub (b : Nat) (hb : b < 18446744073709551616) (hq : b / 4503599627370496 % 2048 = 0) : ofn b = sv (neg b) (b % 4503599627370496) / 9223372036854775808 := by
  have hr : rung b = b % 4503599627370496 := by unfold rung; omega
  unfold ofn
  rw [if_pos (by omega), V_eq, sv_mul]
  have hu : up (rung b) = 0 := by unfold up; rw [if_pos (by omega)]
  have hm : mag (rung b) = b % 4503599627370496 := by unfold mag; rw [if_pos (by omega), hr]
  rw [hu, hm, of_shr _ 0 EE (Nat.zero_add _)]
  refine far_shr _ _ ?_ ?_ (by rw [EE_eq]; decide)
  · unfold sv; split <;> omega
  · unfold sv; split <;> omega

theorem ofn_parts (b : Nat) (hb : b < 18446744073709551616) (hi : rung b < 4746794007248502784) (hq : 0 < b / 4503599627370496 % 2048) :
    ofn b = sv (neg b) (4503599627370496 + b % 4503599627370496) * ((2 ^ (b / 4503599627370496 % 2048 - 1) : Nat) : Int) / 2 ^ EE := by
  have hr : rung b / 4503599627370496 = b / 4503599627370496 % 2048 := by unfold rung; omega
  have hr2 : rung b % 4503599627370496 = b % 4503599627370496 := by unfold rung; omega
  unfold ofn
  rw [if_pos hi, V_eq, sv_mul]
  have hu : up (rung b) = b / 4503599627370496 % 2048 - 1 := by unfold up; rw [if_neg (by omega), hr]
  have hm : mag (rung b) = 4503599627370496 + b % 4503599627370496 := by unfold mag; rw [if_neg (by omega), hr2]
  rw [hu, hm]

theorem ofn_shl (b k : Nat) (hb : b < 18446744073709551616) (hi : rung b < 4746794007248502784) (hq : b / 4503599627370496 % 2048 = k + 1043) :
    ofn b = sv (neg b) (4503599627370496 + b % 4503599627370496) * 2 ^ k := by
  have e : k + 1043 - 1 = EE + k := by rw [EE_eq]; omega
  rw [ofn_parts b hb hi (by omega), hq, e, of_shl]

theorem ofn_shr (b j : Nat) (hb : b < 18446744073709551616) (hi : rung b < 4746794007248502784) (hq0 : 0 < b / 4503599627370496 % 2048) (hq : b / 4503599627370496 % 2048 + j = 1043) :
    ofn b = sv (neg b) (4503599627370496 + b % 4503599627370496) / 2 ^ j := by
  rw [ofn_parts b hb hi hq0, of_shr _ _ j (by rw [EE_eq]; omega)]

theorem ofn_far (b j : Nat) (hb : b < 18446744073709551616) (hi : rung b < 4746794007248502784) (hq0 : 0 < b / 4503599627370496 % 2048) (hq : b / 4503599627370496 % 2048 + j = 1043) (hj : 63 ≤ j) :
    ofn b = sv (neg b) (4503599627370496 + b % 4503599627370496) / 9223372036854775808 := by
  have hf : b % 4503599627370496 < 4503599627370496 := Nat.mod_lt _ (by decide)
  rw [ofn_shr b j hb hi hq0 hq]
  refine far_shr _ _ ?_ ?_ hj
  · unfold sv; split <;> omega
  · unfold sv; split <;> omega

theorem abs_ge (b : Nat) (hn : ¬ isNan b) : (FloatKind.f64.format.order (rung b) 4746794007248502784 == some .gt || FloatKind.f64.format.order (rung b) 4746794007248502784 == some .eq) = decide (4746794007248502784 ≤ rung b) := by
  have nr := neg_rung b
  have h1 : ¬ isNan (rung b) := by unfold isNan at *; rw [nr.1]; exact hn
  have h2 : ¬ isNan 4746794007248502784 := by decide
  have e0 : FloatKind.f64.format.order (rung b) 4746794007248502784 = some (compare (sr (rung b)) (sr 4746794007248502784)) := order_eq h1 h2
  have e1 : sr (rung b) = rung b := by unfold sr; rw [nr.2, nr.1]; rfl
  have e2 : sr 4746794007248502784 = 4746794007248502784 := by decide
  rw [e0, e1, e2, cmp_def]
  by_cases c : 4746794007248502784 ≤ rung b
  · rw [decide_eq_true c, if_neg (by omega)]
    split <;> rfl
  · rw [decide_eq_false c, if_pos (by omega)]
    rfl

theorem lt_zero (b : Nat) (hn : ¬ isNan b) (hz : rung b ≠ 0) : (FloatKind.f64.format.order b 0 == some .lt) = neg b := by
  have e0 : FloatKind.f64.format.order b 0 = some (compare (sr b) (sr 0)) := order_eq hn (by decide)
  have e2 : sr 0 = 0 := by decide
  rw [e0, e2, cmp_def]
  unfold sr
  cases neg b <;> simp only [Bool.false_eq_true, if_false, if_true] <;> (repeat' split) <;> first | rfl | omega

theorem kind_small (b : Nat) (hn : ¬ isNan b) (hi : rung b ≠ 9218868437227405312) (hz : rung b ≠ 0) : kindv b = 5 + sgn01 b := by
  unfold kindv
  rw [if_neg hn, if_neg hi, if_neg hz]


theorem wn1 (f : Nat) (h : f < 4503599627370496) : wrap64 (-((f : Int) + 4503599627370496)) = -((f : Int) + 4503599627370496) := by unfold wrap64; omega
theorem wq1 (q : Nat) (h : q < 2048) : wrap64 (q : Int) = q ∧ wrap64 ((q : Int) - 1023) = q - 1023 ∧ wrap64 ((q : Int) - 1023 - 52) = q - 1023 - 52 ∧ wrap64 ((q : Int) - 1023 - 52 + 32) = q - 1023 - 52 + 32 ∧ wrap64 (-((q : Int) - 1023 - 52 + 32)) = -((q : Int) - 1023 - 52 + 32) := by unfold wrap64; omega
theorem wf1 (f : Nat) (h : f < 4503599627370496) : wrap64 (f : Int) = f := by unfold wrap64; omega
def nn (s : Bool) (f : Nat) : Int := if s then -((f : Int) + 4503599627370496) else (f : Int) + 4503599627370496

set_option maxHeartbeats 8000000 in
theorem of_up (b f q : Nat) (w : World) (hb : b < 18446744073709551616) (dk : kindv b = 5 ∨ kindv b = 6) (hge : (FloatKind.f64.format.order (rung b) 4746794007248502784 == some .gt || FloatKind.f64.format.order (rung b) 4746794007248502784 == some .eq) = false)
    (hlt : (FloatKind.f64.format.order b 0 == some .lt) = neg b) (hm : Go.bits .and .u64 (b : Int) 4503599627370495 = (f : Int)) (hq : Go.bits .and .u64 ((b : Int) / 4503599627370496) 2047 = (q : Int)) (hf : f < 4503599627370496) (hq0 : 0 < q) (hq1 : q < 2048) (hp : 1043 ≤ q) :
    Calls Try.prog 23 #[.float .f64 b] w fun e w' => e = .returned (.tuple #[.int .i64 (wrap64 (nn (neg b) f * 2 ^ min ((q : Int) - 1023 - 52 + 32).toNat 64)), .int .i64 0]) ∧ w' = w := by
  have hbits := bits_run b
  have HB := Aside0.mk hb
  have ho := or_hidden f hf
  have wn := wn1 f hf
  have wf := wf1 f hf
  obtain ⟨x0, x1, x2, x3, x4⟩ := wq1 q hq1
  have d0 : decide (0 < (q : Int)) = true := decide_eq_true (by omega)
  have d1 : (0 < q) = True := eq_true hq0
  have d2 : (q = 0) = False := eq_false (by omega)
  have p0 : decide (0 ≤ (q : Int) - 1023 - 52 + 32) = true := decide_eq_true (by omega)
  have p1 : (0 ≤ (q : Int) - 1023 - 52 + 32) = True := eq_true (by omega)
  clear hb hf hq0 hq1 hp
  cases hg : neg b
  all_goals
    rw [hg] at hlt
    simp only [nn, Bool.false_eq_true, if_false, if_true]
    rcases dk with dk | dk
  all_goals
    go_enter Try.func23, Try.ntmps23
    go_wp2_with (first | (go_at_call 14; (with_reducible refine (kind_calls b w HB.out).mono ?_); rintro e w1 ⟨rfl, rfl⟩) | (go_at_call 46; (with_reducible refine (abs_calls b _ HB.out).mono ?_); rintro e w1 ⟨rfl, rfl⟩))
    go_ret2
    exact ⟨rfl, rfl⟩

set_option maxHeartbeats 8000000 in
theorem of_down (b f q : Nat) (w : World) (hb : b < 18446744073709551616) (dk : kindv b = 5 ∨ kindv b = 6) (hge : (FloatKind.f64.format.order (rung b) 4746794007248502784 == some .gt || FloatKind.f64.format.order (rung b) 4746794007248502784 == some .eq) = false)
    (hlt : (FloatKind.f64.format.order b 0 == some .lt) = neg b) (hm : Go.bits .and .u64 (b : Int) 4503599627370495 = (f : Int)) (hq : Go.bits .and .u64 ((b : Int) / 4503599627370496) 2047 = (q : Int)) (hf : f < 4503599627370496) (hq0 : 0 < q) (hq1 : q < 2048) (hp : q < 1043 ∧ 979 < q) :
    Calls Try.prog 23 #[.float .f64 b] w fun e w' => e = .returned (.tuple #[.int .i64 (nn (neg b) f / 2 ^ min (-((q : Int) - 1023 - 52 + 32)).toNat 64), .int .i64 0]) ∧ w' = w := by
  have hbits := bits_run b
  have HB := Aside0.mk hb
  have ho := or_hidden f hf
  have wn := wn1 f hf
  have wf := wf1 f hf
  obtain ⟨x0, x1, x2, x3, x4⟩ := wq1 q hq1
  have d0 : decide (0 < (q : Int)) = true := decide_eq_true (by omega)
  have d1 : (0 < q) = True := eq_true hq0
  have d2 : (q = 0) = False := eq_false (by omega)
  have p0 : decide (0 ≤ (q : Int) - 1023 - 52 + 32) = false := decide_eq_false (by omega)
  have p1 : (63 < -((q : Int) - 1023 - 52 + 32)) = False := eq_false (by omega)
  have p2 : (0 ≤ -((q : Int) - 1023 - 52 + 32)) = True := eq_true (by omega)
  have p3 : (-((q : Int) - 1023 - 52 + 32) < 0) = False := eq_false (by omega)
  have p4 : decide (-((q : Int) - 1023 - 52 + 32) < 0) = false := decide_eq_false (by omega)
  have p5 : ((q : Int) - 1023 - 52 + 32 ≤ 0) = True := eq_true (by omega)
  clear hb hf hq0 hq1 hp
  cases hg : neg b
  all_goals
    rw [hg] at hlt
    simp only [nn, Bool.false_eq_true, if_false, if_true]
    rcases dk with dk | dk
  all_goals
    go_enter Try.func23, Try.ntmps23
    go_wp2_with (first | (go_at_call 14; (with_reducible refine (kind_calls b w HB.out).mono ?_); rintro e w1 ⟨rfl, rfl⟩) | (go_at_call 46; (with_reducible refine (abs_calls b _ HB.out).mono ?_); rintro e w1 ⟨rfl, rfl⟩))
    go_ret2
    exact ⟨rfl, rfl⟩

set_option maxHeartbeats 8000000 in
theorem of_far (b f q : Nat) (w : World) (hb : b < 18446744073709551616) (dk : kindv b = 5 ∨ kindv b = 6) (hge : (FloatKind.f64.format.order (rung b) 4746794007248502784 == some .gt || FloatKind.f64.format.order (rung b) 4746794007248502784 == some .eq) = false)
    (hlt : (FloatKind.f64.format.order b 0 == some .lt) = neg b) (hm : Go.bits .and .u64 (b : Int) 4503599627370495 = (f : Int)) (hq : Go.bits .and .u64 ((b : Int) / 4503599627370496) 2047 = (q : Int)) (hf : f < 4503599627370496) (hq0 : 0 < q) (hq1 : q < 2048) (hp : q ≤ 979) :
    Calls Try.prog 23 #[.float .f64 b] w fun e w' => e = .returned (.tuple #[.int .i64 (nn (neg b) f / 9223372036854775808), .int .i64 0]) ∧ w' = w := by
  have hbits := bits_run b
  have HB := Aside0.mk hb
  have ho := or_hidden f hf
  have wn := wn1 f hf
  have wf := wf1 f hf
  obtain ⟨x0, x1, x2, x3, x4⟩ := wq1 q hq1
  have d0 : decide (0 < (q : Int)) = true := decide_eq_true (by omega)
  have d1 : (0 < q) = True := eq_true hq0
  have d2 : (q = 0) = False := eq_false (by omega)
  have p0 : decide (0 ≤ (q : Int) - 1023 - 52 + 32) = false := decide_eq_false (by omega)
  have p1 : (63 < -((q : Int) - 1023 - 52 + 32)) = True := eq_true (by omega)
  clear hb hf hq0 hq1 hp
  cases hg : neg b
  all_goals
    rw [hg] at hlt
    simp only [nn, Bool.false_eq_true, if_false, if_true]
    rcases dk with dk | dk
  all_goals
    go_enter Try.func23, Try.ntmps23
    go_wp2_with (first | (go_at_call 14; (with_reducible refine (kind_calls b w HB.out).mono ?_); rintro e w1 ⟨rfl, rfl⟩) | (go_at_call 46; (with_reducible refine (abs_calls b _ HB.out).mono ?_); rintro e w1 ⟨rfl, rfl⟩))
    go_ret2
    exact ⟨rfl, rfl⟩

theorem nn_sv (s : Bool) (f : Nat) : nn s f = sv s (4503599627370496 + f) := by
  unfold nn sv
  cases s <;> simp <;> omega

theorem nn_bd (s : Bool) (f : Nat) (h : f < 4503599627370496) : -9007199254740992 < nn s f ∧ nn s f < 9007199254740992 := by
  unfold nn
  cases s <;> simp <;> omega

theorem up_val (b k : Nat) (hb : b < 18446744073709551616) (hi : rung b < 4746794007248502784) (hq : b / 4503599627370496 % 2048 = k + 1043) (hk : k ≤ 10) :
    ofn b = wrap64 (nn (neg b) (b % 4503599627370496) * 2 ^ min (((b / 4503599627370496 % 2048 : Nat) : Int) - 1023 - 52 + 32).toNat 64) := by
  have e : (((b / 4503599627370496 % 2048 : Nat) : Int) - 1023 - 52 + 32).toNat = k := by omega
  have em : min k 64 = k := by omega
  have bd := nn_bd (neg b) (b % 4503599627370496) (Nat.mod_lt _ (by decide))
  rw [ofn_shl b k hb hi hq, e, em, ← nn_sv]
  have hp : (2 : Int) ^ k ≤ 1024 := by
    have : (2 : Nat) ^ k ≤ 2 ^ 10 := Nat.pow_le_pow_right (by decide) hk
    have e : ((2 ^ k : Nat) : Int) = 2 ^ k := by rw [Int.natCast_pow]; rfl
    omega
  have h0 : (0 : Int) < 2 ^ k := Int.pow_pos (by decide)
  generalize nn (neg b) (b % 4503599627370496) = n at *
  generalize (2 : Int) ^ k = p at *
  have l1 : n * p ≤ 9007199254740991 * 1024 := by
    rcases Int.lt_or_le n 0 with c | c
    · have := Int.mul_neg_of_neg_of_pos c h0
      omega
    · exact Int.mul_le_mul (by omega) hp (by omega) (by omega)
  have l2 : -(9007199254740991 * 1024) ≤ n * p := by
    rcases Int.lt_or_le n 0 with c | c
    · have : (-n) * p ≤ 9007199254740991 * 1024 := Int.mul_le_mul (by omega) hp (by omega) (by omega)
      rw [Int.neg_mul] at this
      omega
    · have := Int.mul_nonneg c (Int.le_of_lt h0)
      omega
  generalize n * p = x at *
  unfold wrap64
  omega

theorem down_val (b : Nat) (hb : b < 18446744073709551616) (hi : rung b < 4746794007248502784) (hq0 : 0 < b / 4503599627370496 % 2048) (hq : b / 4503599627370496 % 2048 < 1043) (hq2 : 979 < b / 4503599627370496 % 2048) :
    ofn b = nn (neg b) (b % 4503599627370496) / 2 ^ min (-(((b / 4503599627370496 % 2048 : Nat) : Int) - 1023 - 52 + 32)).toNat 64 := by
  obtain ⟨j, hj⟩ : ∃ j, b / 4503599627370496 % 2048 + j = 1043 := ⟨1043 - b / 4503599627370496 % 2048, by omega⟩
  have e : (-(((b / 4503599627370496 % 2048 : Nat) : Int) - 1023 - 52 + 32)).toNat = j := by omega
  have em : min j 64 = j := by omega
  rw [ofn_shr b j hb hi hq0 hj, e, em, nn_sv]

theorem far_val (b : Nat) (hb : b < 18446744073709551616) (hi : rung b < 4746794007248502784) (hq0 : 0 < b / 4503599627370496 % 2048) (hq : b / 4503599627370496 % 2048 ≤ 979) :
    ofn b = nn (neg b) (b % 4503599627370496) / 9223372036854775808 := by
  rw [ofn_far b (1043 - b / 4503599627370496 % 2048) hb hi hq0 (by omega) (by omega), nn_sv]

set_option maxHeartbeats 8000000 in
theorem of_calls (b : Nat) (w : World) (hb64 : b < 18446744073709551616) : Calls Try.prog 23 #[.float .f64 b] w fun e w' => e = .returned (.tuple #[.int .i64 (ofn b), .int .i64 (ofe b)]) ∧ w' = w := by
  have hbits := bits_run b
  have HB := Aside0.mk hb64
  have sg : sgn01 b = 0 ∨ sgn01 b = 1 := by unfold sgn01; cases neg b <;> simp
  by_cases n : isNan b
  · have en : ofn b = 0 := by unfold ofn; rw [if_neg (by unfold isNan at n; omega)]
    have ee : ofe b = 30 := by unfold ofe; rw [if_pos n]
    have ek : kindv b = 0 := by unfold kindv; rw [if_pos n]
    rw [en, ee]
    clear n hb64 en ee sg
    go_enter Try.func23, Try.ntmps23
    go_wp2_with (first | (go_at_call 14; (with_reducible refine (kind_calls b w HB.out).mono ?_); rintro e w1 ⟨rfl, rfl⟩) | (go_at_call 46; (with_reducible refine (abs_calls b _ HB.out).mono ?_); rintro e w1 ⟨rfl, rfl⟩))
    go_ret2
    exact ⟨rfl, rfl⟩
  by_cases i : rung b = 9218868437227405312
  · have en : ofn b = 0 := by unfold ofn; rw [if_neg (by omega)]
    have ee : ofe b = 31 := by unfold ofe; rw [if_neg n, if_pos i]
    have ek : kindv b = 1 + sgn01 b := by unfold kindv; rw [if_neg n, if_pos i]
    rw [en, ee]
    clear n hb64 en ee i
    rcases sg with e | e
    all_goals
      rw [e] at ek
      clear e
      go_enter Try.func23, Try.ntmps23
      go_wp2_with (first | (go_at_call 14; (with_reducible refine (kind_calls b w HB.out).mono ?_); rintro e w1 ⟨rfl, rfl⟩) | (go_at_call 46; (with_reducible refine (abs_calls b _ HB.out).mono ?_); rintro e w1 ⟨rfl, rfl⟩))
      go_ret2
      exact ⟨rfl, rfl⟩
  by_cases z : rung b = 0
  · have en : ofn b = 0 := by
      unfold ofn
      rw [if_pos (by omega), z, V_zero]
      unfold sv
      cases neg b <;> simp
    have ee : ofe b = 0 := by unfold ofe; rw [if_neg n, if_neg i, if_pos (by omega)]
    have ek : kindv b = 3 + sgn01 b := by unfold kindv; rw [if_neg n, if_neg i, if_pos z]
    rw [en, ee]
    clear n hb64 en ee i z
    rcases sg with e | e
    all_goals
      rw [e] at ek
      clear e
      go_enter Try.func23, Try.ntmps23
      go_wp2_with (first | (go_at_call 14; (with_reducible refine (kind_calls b w HB.out).mono ?_); rintro e w1 ⟨rfl, rfl⟩) | (go_at_call 46; (with_reducible refine (abs_calls b _ HB.out).mono ?_); rintro e w1 ⟨rfl, rfl⟩))
      go_ret2
      exact ⟨rfl, rfl⟩
  have ek := kind_small b n i z
  have hge := abs_ge b n
  by_cases c : 4746794007248502784 ≤ rung b
  · have en : ofn b = 0 := by unfold ofn; rw [if_neg (by omega)]
    have ee : ofe b = 32 := by unfold ofe; rw [if_neg n, if_neg i, if_neg (by omega)]
    rw [decide_eq_true c] at hge
    rw [en, ee]
    clear n hb64 en ee i z c
    rcases sg with e | e
    all_goals
      rw [e] at ek
      clear e
      go_enter Try.func23, Try.ntmps23
      go_wp2_with (first | (go_at_call 14; (with_reducible refine (kind_calls b w HB.out).mono ?_); rintro e w1 ⟨rfl, rfl⟩) | (go_at_call 46; (with_reducible refine (abs_calls b _ HB.out).mono ?_); rintro e w1 ⟨rfl, rfl⟩))
      go_ret2
      exact ⟨rfl, rfl⟩
  have ee : ofe b = 0 := by unfold ofe; rw [if_neg n, if_neg i, if_pos (by omega)]
  rw [decide_eq_false c] at hge
  rw [ee]
  have hlt := lt_zero b n z
  have hm : Go.bits .and .u64 (b : Int) 4503599627370495 = ((b % 4503599627370496 : Nat) : Int) := and_u64 b 4503599627370495 52 hb64 (by decide) (by decide)
  have hq : Go.bits .and .u64 ((b : Int) / 4503599627370496) 2047 = ((b / 4503599627370496 % 2048 : Nat) : Int) := by
    have := and_u64 (b / 4503599627370496) 2047 11 (by omega) (by decide) (by decide)
    rw [Int.natCast_ediv] at this
    exact this
  have eg : sgn01 b = if neg b = true then 1 else 0 := rfl
  have hfb : b % 4503599627370496 < 4503599627370496 := Nat.mod_lt _ (by decide)
  have hqb : b / 4503599627370496 % 2048 < 2048 := Nat.mod_lt _ (by decide)
  have hqi : b / 4503599627370496 % 2048 ≤ 1053 := by unfold rung at c; omega
  have p0 := ofn_sub b hb64
  have dk : kindv b = 5 ∨ kindv b = 6 := by rw [ek, eg]; cases neg b <;> simp
  clear ek eg
  by_cases q0 : b / 4503599627370496 % 2048 = 0
  · have d1 := p0 q0
    have hq2 : Go.bits .and .u64 ((b : Int) / 4503599627370496) 2047 = 0 := by rw [hq, q0]; rfl
    have wn : wrap64 (-((b % 4503599627370496 : Nat) : Int)) = -((b % 4503599627370496 : Nat) : Int) := by unfold wrap64; omega
    have wf := wf1 _ hfb
    obtain ⟨r, hr⟩ : ∃ r, ofn b = r := ⟨_, rfl⟩
    rw [hr] at d1 ⊢
    generalize b % 4503599627370496 = f at *
    clear n hb64 ee i z c hr sg p0 hq q0 hqb hqi hfb
    have v0 : wrap64 0 = 0 := by unfold wrap64; omega
    have v1 : wrap64 (-1023) = -1023 := by unfold wrap64; omega
    have v2 : wrap64 (-1075) = -1075 := by unfold wrap64; omega
    have v3 : wrap64 (-1043) = -1043 := by unfold wrap64; omega
    have v4 : wrap64 (-1042) = -1042 := by unfold wrap64; omega
    have v5 : wrap64 1042 = 1042 := by unfold wrap64; omega
    cases hg : neg b
    all_goals
      rw [hg] at hlt d1
      unfold sv at d1
      simp only [Bool.false_eq_true, if_false, if_true] at d1
      rcases dk with dk | dk
    all_goals
      go_enter Try.func23, Try.ntmps23
      go_wp2_with (first | (go_at_call 14; (with_reducible refine (kind_calls b w HB.out).mono ?_); rintro e w1 ⟨rfl, rfl⟩) | (go_at_call 46; (with_reducible refine (abs_calls b _ HB.out).mono ?_); rintro e w1 ⟨rfl, rfl⟩))
      go_ret2
      exact ⟨by rw [d1]; rfl, rfl⟩
  · have hi : rung b < 4746794007248502784 := by omega
    by_cases pw : 1043 ≤ b / 4503599627370496 % 2048
    · obtain ⟨k, hk⟩ : ∃ k, b / 4503599627370496 % 2048 = k + 1043 := ⟨b / 4503599627370496 % 2048 - 1043, by omega⟩
      rw [up_val b k hb64 hi hk (by omega)]
      exact of_up b _ _ w hb64 dk hge hlt hm hq hfb (by omega) hqb pw
    · by_cases pf : b / 4503599627370496 % 2048 ≤ 979
      · rw [far_val b hb64 hi (by omega) pf]
        exact of_far b _ _ w hb64 dk hge hlt hm hq hfb (by omega) hqb pf
      · rw [down_val b hb64 hi (by omega) (by omega) (by omega)]
        exact of_down b _ _ w hb64 dk hge hlt hm hq hfb (by omega) hqb ⟨by omega, by omega⟩

end Go.Proofs.Ytlbelgdcicholaa.Fl
