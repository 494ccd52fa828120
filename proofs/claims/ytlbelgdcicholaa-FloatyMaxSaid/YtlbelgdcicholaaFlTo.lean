/- Contracts of math.Ldexp at -32 and of floaty.To: what a number of seconds by 2 ^ 32 is as a float64. -/
import Derived.Test.YtlbelgdcicholaaProg
import Derived.Below
import Derived.Deep.Draws
import Derived.Deep.AppendLies
import Derived.Maps.AppendAt
import Derived.OwnWalk
import Derived.Laws.BytesArg
import Derived.Laws.MakeOwn
import Derived.Laws.OwnMore
import Derived.Deep.OwnRows
import Derived.Tactics
import Derived.Lib.ConvBytes
import Derived.Laws.Slices
import Derived.WalkKit
import Derived.KernelRfl
import Derived.RowKit3
import Derived.Deep.LoopGhost
import Derived.Deep.QuietTactic
import Derived.BigQuiet
import Derived.WideLaws
import Derived.Deep.DeepCutAuto
import Derived.Deep.CutBlock
import Derived.Deep.RegionHeld3
import Derived.Laws.Rows
import Derived.Lib.AppendStr
import Derived.ArgAppend
import Derived.Laws.IdiomCopy
import Derived.OrdersHeld
import Derived.Laws.BitsLemmas
import Derived.RowKit
import Derived.Test.YtlbelgdcicholaaWWords
import Derived.Test.YtlbelgdcicholaaWLast
import Derived.Test.YtlbelgdcicholaaWTab
import Derived.Test.YtlbelgdcicholaaWFour
import Derived.Test.YtlbelgdcicholaaWQPut
import Derived.Test.YtlbelgdcicholaaWApart
import Derived.Test.YtlbelgdcicholaaWArr
import Derived.Test.YtlbelgdcicholaaWZeros
import Derived.Test.YtlbelgdcicholaaWFoot
import Derived.Test.YtlbelgdcicholaaWKept
import Derived.Test.YtlbelgdcicholaaWShare
import Derived.Test.YtlbelgdcicholaaWN
import Derived.Test.YtlbelgdcicholaaWFootNe
import Derived.Test.YtlbelgdcicholaaWAt
import Derived.Test.YtlbelgdcicholaaWEqStruct
import Derived.Test.YtlbelgdcicholaaWRepsOne
import Derived.Test.YtlbelgdcicholaaWInv
import Derived.Test.YtlbelgdcicholaaWInvWords
import Derived.Test.YtlbelgdcicholaaWGuard
import Derived.Test.YtlbelgdcicholaaWNEv
import Derived.Test.YtlbelgdcicholaaWMore
import Derived.WalkLawsBesides
import Derived.Outline
import Derived.Laws.Externs
import Derived.Test.YtlbelgdcicholaaFlBits
namespace Go.Proofs.Ytlbelgdcicholaa.Fl
open Go.RowKit Go.Proofs.YtlbelgdcicholaaW.PrintWords Go.Proofs.YtlbelgdcicholaaW.PrintLast Go.Proofs.YtlbelgdcicholaaW.PrintMore
attribute [local go_sem] max2_int min2_int max_two min_two max_three min_three max_four min_four
set_option linter.unusedVariables false
set_option linter.unusedSimpArgs false
theorem far_ok (E K : Nat) (h0 : 1075 ≤ E) (h1 : E ≤ 1085) (h2 : 4503599627370496 ≤ K) (h3 : K ≤ 9007199254740992) : min (E * 4503599627370496 + K) 9218868437227405312 = E * 4503599627370496 + K ∧ 4607182418800017408 ≤ E * 4503599627370496 + K ∧ E * 4503599627370496 + K ≤ 4895412794951729152 :=
  ⟨Nat.min_eq_left (by omega), by omega, by omega⟩

theorem near_ok (E K : Nat) (h0 : 1022 ≤ E) (h1 : E ≤ 1074) (h2 : 4503599627370496 ≤ K) (h3 : K < 9007199254740992) : 4607182418800017408 ≤ E * 4503599627370496 + K ∧ E * 4503599627370496 + K ≤ 4895412794951729152 := ⟨by omega, by omega⟩

theorem near_int (s : Bool) (m : Nat) (h : m ≠ 0) (hm : m < 18446744073709551616) : ∃ R, Ieee.double.nearest s m 0 = Ieee.double.word s R ∧ 4607182418800017408 ≤ R ∧ R ≤ 4895412794951729152 := by
  have b := log_bounds m h
  have hl : m.log2 ≤ 63 := log_le m 63 h hm
  by_cases c : m.log2 ≤ 52
  · have n := norm_lo m m.log2 b.1 b.2 c
    have e := near_exact s m m.log2 0 b.1 b.2 c (by omega) (by omega)
    have a : ((0 : Int) + (m.log2 : Int) + 1022).toNat = m.log2 + 1022 := by omega
    rw [a] at e
    have fin := near_ok (m.log2 + 1022) _ (by omega) (by omega) n.1 n.2
    exact ⟨_, e, fin.1, fin.2⟩
  · obtain ⟨d, hd⟩ : ∃ d, m.log2 = d + 52 := ⟨m.log2 - 52, by omega⟩
    have e2 : Ieee.double.binade = 4503599627370496 := by decide
    have e3 : Ieee.double.infRung = 9218868437227405312 := by decide
    have e4 : Ieee.double.leastPlace = -1074 := by decide
    have e5 : ((Ieee.double.fractionBits : Nat) : Int) = 52 := rfl
    have el : max (0 + (m.log2 : Int) - 52) (-1074) = (d : Int) := by omega
    have a1 : ((0 : Int) - (d : Int)).toNat = 0 := by omega
    have a2 : ((d : Int) - 0).toNat = d := by omega
    have a3 : ((d : Int) - -1074).toNat = d + 1074 := by omega
    have a4 : min d (m.log2 + 2) = d := by omega
    have hq : 4503599627370496 ≤ m / 2 ^ d ∧ m / 2 ^ d < 9007199254740992 := by
      constructor
      · rw [Nat.le_div_iff_mul_le (Nat.two_pow_pos d)]
        have := b.1
        rw [hd, Nat.add_comm, Nat.pow_add] at this
        exact this
      · rw [Nat.div_lt_iff_lt_mul (Nat.two_pow_pos d)]
        have := b.2
        rw [hd, show d + 52 + 1 = 53 + d by omega, Nat.pow_add] at this
        exact this
    have hk : m / 2 ^ d ≤ cutg m (2 ^ d) ∧ cutg m (2 ^ d) ≤ m / 2 ^ d + 1 := by
      unfold cutg
      have hb (b : Bool) : b.toNat ≤ 1 := by cases b <;> simp
      have := hb (decide (2 ^ d < 2 * (m % 2 ^ d)) || 2 ^ d == 2 * (m % 2 ^ d) && m / 2 ^ d % 2 == 1)
      omega
    have hK : 4503599627370496 ≤ cutg m (2 ^ d) ∧ cutg m (2 ^ d) ≤ 9007199254740992 := ⟨Nat.le_trans hq.1 hk.1, Nat.le_trans hk.2 hq.2⟩
    have hE : 1075 ≤ d + 1074 ∧ d + 1074 ≤ 1085 := by omega
    have fin := far_ok (d + 1074) (cutg m (2 ^ d)) hE.1 hE.2 hK.1 hK.2
    refine ⟨(d + 1074) * 4503599627370496 + cutg m (2 ^ d), ?_, fin.2.1, fin.2.2⟩
    unfold Ieee.Format.nearest
    rw [if_neg h, e5, e4, e2, e3]
    simp only [el, a1, a2, a3, cut_g, Nat.shiftLeft_zero, a4, fin.1]

theorem not_zero (x : Nat) (h : rung x ≠ 0) : (FloatKind.f64.format.order x 0 == some .eq) = false := by
  have e : (FloatKind.f64.format.order x 0 == some .eq) = decide (rung x = 0) := is_zero x
  rw [e]
  exact decide_eq_false h

theorem abs_big (x : Nat) (hn : ¬ isNan x) (h : 4503599627370496 ≤ rung x) : (FloatKind.f64.format.order (rung x) 4503599627370496 == some .lt) = false := by
  have nr := neg_rung x
  have h1 : ¬ isNan (rung x) := by unfold isNan at *; rw [nr.1]; exact hn
  have e0 : FloatKind.f64.format.order (rung x) 4503599627370496 = some (compare (sr (rung x)) (sr 4503599627370496)) := order_eq h1 (by decide)
  have e1 : sr (rung x) = rung x := by unfold sr; rw [nr.2, nr.1]; rfl
  have e2 : sr 4503599627370496 = 4503599627370496 := by decide
  rw [e0, e1, e2, cmp_def, if_neg (by omega)]
  split <;> rfl

theorem normalize_calls (x : Nat) (w : World) (hb64 : x < 18446744073709551616) (hn : ¬ isNan x) (h : 4503599627370496 ≤ rung x) :
    Calls Try.prog 68 #[.float .f64 x] w fun e w' => e = .returned (.tuple #[.float .f64 x, .int .i64 0]) ∧ w' = w := by
  have HB := Aside0.mk hb64
  have hs := abs_big x hn h
  clear hb64 hn h
  go_enter Try.func68, Try.ntmps68
  go_wp2_with (first | (go_at_call 46; (with_reducible refine (abs_calls x _ HB.out).mono ?_); rintro e w1 ⟨rfl, rfl⟩))
  go_ret2
  exact ⟨rfl, rfl⟩

theorem and_i64 (b q : Nat) (hb : b < 18446744073709551616) (hq : b / 4503599627370496 % 2048 = q) : Go.bits .and .i64 (wrap64 ((b : Int) / 4503599627370496)) 2047 = (q : Int) ∧ Go.bits .and .i64 ((b : Int) / 4503599627370496) 2047 = (q : Int) := by
  have e1 : wrap64 ((b : Int) / 4503599627370496) = ((b / 4503599627370496 : Nat) : Int) := by
    have : ((b / 4503599627370496 : Nat) : Int) = (b : Int) / 4503599627370496 := Int.natCast_ediv b 4503599627370496
    unfold wrap64
    omega
  have h3 : (BitVec.ofInt 64 ((b / 4503599627370496 : Nat) : Int) &&& BitVec.ofInt 64 (2047 : Int)).toNat = q := by
    rw [BitVec.toNat_and, u64_nat _ (by omega), ← hq]
    exact Nat.and_two_pow_sub_one_eq_mod (b / 4503599627370496) 11
  have h4 : Go.bits .and .i64 ((b / 4503599627370496 : Nat) : Int) 2047 = IntKind.i64.wrap ((BitVec.ofInt 64 ((b / 4503599627370496 : Nat) : Int) &&& BitVec.ofInt 64 (2047 : Int)).toNat : Int) := rfl
  refine ⟨?_, ?_⟩
  · rw [e1, h4, h3, IntKind.wrap_i64]
    omega
  · have e2 : ((b : Int) / 4503599627370496) = ((b / 4503599627370496 : Nat) : Int) := (Int.natCast_ediv b 4503599627370496).symm
    rw [e2, h4, h3, IntKind.wrap_i64]
    omega

theorem exp_facts (q : Nat) (h0 : 1023 ≤ q) (h1 : q ≤ 1087) : wrap64 ((q : Int) - 1023) = q - 1023 ∧ wrap64 (-32 + ((q : Int) - 1023)) = q - 1055 ∧ ((q : Int) - 1055 < -1075) = False ∧ (1023 < (q : Int) - 1055) = False ∧ ((q : Int) - 1055 < -1022) = False ∧ wrap64 ((q : Int) - 1055 + 1023) = q - 32 ∧ IntKind.u64.wrap ((q : Int) - 32) = q - 32 ∧ IntKind.u64.wrap (((q : Int) - 32) * 4503599627370496) = ((q : Int) - 32) * 4503599627370496 := by
  refine ⟨by unfold wrap64; omega, by unfold wrap64; omega, eq_false (by omega), eq_false (by omega), eq_false (by omega), by unfold wrap64; omega, by rw [IntKind.wrap_u64]; omega, by rw [IntKind.wrap_u64]; omega⟩

set_option maxHeartbeats 8000000 in
theorem ldexp_calls (s : Bool) (R : Nat) (w : World) (h0 : 4607182418800017408 ≤ R) (h1 : R ≤ 4895412794951729152) :
    Calls Try.prog 64 #[.float .f64 (Ieee.double.word s R), .int .i64 (-32)] w fun e w' => e = .returned (.float .f64 (Ieee.double.word s (R - 144115188075855872))) ∧ w' = w := by
  have wp := word_parts s R (by omega)
  have f := frombits_run
  obtain ⟨x, hx⟩ : ∃ x, Ieee.double.word s R = x := ⟨_, rfl⟩
  rw [hx] at wp ⊢
  have hbits := bits_run x
  have hn : ¬ isNan x := by unfold isNan; rw [wp.1]; omega
  have hz := not_zero x (by rw [wp.1]; omega)
  have NO := Aside0.mk (normalize_calls x w wp.2.2 hn (by rw [wp.1]; omega))
  have hi : decide (rung x = 9218868437227405312) = false := decide_eq_false (by rw [wp.1]; omega)
  have hnn : decide (isNan x) = false := decide_eq_false hn
  have HB := Aside0.mk wp.2.2
  have HN := Aside0.mk hn
  obtain ⟨q, hq⟩ : ∃ q, R / 4503599627370496 = q := ⟨_, rfl⟩
  have hqx : x / 4503599627370496 % 2048 = q := by
    have r := wp.1
    unfold rung at r
    omega
  have hfx : x % 4503599627370496 = R % 4503599627370496 := by
    have r := wp.1
    unfold rung at r
    omega
  obtain ⟨ha1, ha⟩ := and_i64 x q wp.2.2 hqx
  have hqb : 1023 ≤ q ∧ q ≤ 1087 := by omega
  obtain ⟨v1, v2, v3, v4, v5, v6, v7, v8⟩ := exp_facts q hqb.1 hqb.2
  have hc := clear_exp x wp.2.2
  rw [wp.2.1, hfx] at hc
  have hfr : R % 4503599627370496 < 4503599627370496 := Nat.mod_lt _ (by decide)
  have hR : R - 144115188075855872 = (q - 32) * 4503599627370496 + R % 4503599627370496 := by omega
  have hlay := lay_exp s (R % 4503599627370496) (q - 32) hfr (by omega)
  rw [← hR, show ((q - 32 : Nat) : Int) = (q : Int) - 32 by omega] at hlay
  have hone := one_mul s (R - 144115188075855872) (by omega)
  obtain ⟨y, hy⟩ : ∃ y, Ieee.double.word s (R - 144115188075855872) = y := ⟨_, rfl⟩
  rw [hy] at hlay hone ⊢
  have hmul : ∀ (t : TypeId) (w : World), (binOp .mul t (.float .f64 4607182418800017408) (.float .f64 y)).run Try.prog w = .ok (.float .f64 y) w := fun t w => run_float_arith _ .mul t .f64 _ _ _ hone
  clear hn hfr hR hone hy hqx hfx hqb hq ha1
  go_enter Try.func64, Try.ntmps64
  go_wp2_with (first | (go_at_call 40; (with_reducible refine (isinf_calls x _ HB.out HN.out).mono ?_); rintro e w1 ⟨rfl, rfl⟩) | (go_at_call 39; (with_reducible refine (isnan_calls x _).mono ?_); rintro e w1 ⟨rfl, rfl⟩) | (go_at_call 68; (with_reducible refine (NO.out).mono ?_); rintro e w1 ⟨rfl, rfl⟩))
  go_ret
  exact ⟨rfl, rfl⟩

theorem Ldexp_calls (s : Bool) (R : Nat) (w : World) (h0 : 4607182418800017408 ≤ R) (h1 : R ≤ 4895412794951729152) :
    Calls Try.prog 50 #[.float .f64 (Ieee.double.word s R), .int .i64 (-32)] w fun e w' => e = .returned (.float .f64 (Ieee.double.word s (R - 144115188075855872))) ∧ w' = w := by
  have L := Aside0.mk (ldexp_calls s R w h0 h1)
  go_enter Try.func50, Try.ntmps50
  go_wp2_with (first | (go_at_call 64; (with_reducible refine (L.out).mono ?_); rintro e w1 ⟨rfl, rfl⟩))
  go_ret
  exact ⟨rfl, rfl⟩

theorem ldexp_zero (w : World) : Calls Try.prog 64 #[.float .f64 0, .int .i64 (-32)] w fun e w' => e = .returned (.float .f64 0) ∧ w' = w := by
  have hz : (FloatKind.f64.format.order 0 0 == some .eq) = true := by decide
  go_enter Try.func64, Try.ntmps64
  go_wp2_with (fail)
  go_ret
  exact ⟨rfl, rfl⟩

theorem Ldexp_zero (w : World) : Calls Try.prog 50 #[.float .f64 0, .int .i64 (-32)] w fun e w' => e = .returned (.float .f64 0) ∧ w' = w := by
  go_enter Try.func50, Try.ntmps50
  go_wp2_with (first | (go_at_call 64; (with_reducible refine (ldexp_zero _).mono ?_); rintro e w1 ⟨rfl, rfl⟩))
  go_ret
  exact ⟨rfl, rfl⟩

/-- The float64 of a number of seconds by 2 ^ 32. -/
def tow (a : Int) : Nat := if a = 0 then 0 else Ieee.double.word (decide (a < 0)) (rung (floatOfInt .f64 a) - 144115188075855872)

theorem int_float (a : Int) (ha : a ≠ 0) (h0 : -9223372036854775808 ≤ a) (h1 : a ≤ 9223372036854775807) : ∃ R, floatOfInt .f64 a = Ieee.double.word (decide (a < 0)) R ∧ rung (floatOfInt .f64 a) = R ∧ 4607182418800017408 ≤ R ∧ R ≤ 4895412794951729152 := by
  obtain ⟨R, e, r0, r1⟩ := near_int (decide (a < 0)) a.natAbs (by omega) (by omega)
  have ef : floatOfInt .f64 a = Ieee.double.nearest (decide (a < 0)) a.natAbs 0 := rfl
  rw [ef, e]
  exact ⟨R, rfl, (word_parts _ R (by omega)).1, r0, r1⟩

theorem to_calls (a : Int) (w : World) (h0 : -9223372036854775808 ≤ a) (h1 : a ≤ 9223372036854775807) : Calls Try.prog 27 #[.int .i64 a] w fun e w' => e = .returned (.float .f64 (tow a)) ∧ w' = w := by
  by_cases z : a = 0
  · subst z
    have e0 : floatOfInt .f64 0 = 0 := by decide
    have e1 : tow 0 = 0 := if_pos rfl
    rw [e1]
    go_enter Try.func27, Try.ntmps27
    go_wp2_with (first | (go_at_call 50; (with_reducible refine (Ldexp_zero _).mono ?_); rintro e w1 ⟨rfl, rfl⟩))
    go_ret
    exact ⟨rfl, rfl⟩
  · obtain ⟨R, e, er, r0, r1⟩ := int_float a z h0 h1
    have et : tow a = Ieee.double.word (decide (a < 0)) (R - 144115188075855872) := by unfold tow; rw [if_neg z, er]
    rw [et]
    have L := Aside0.mk (Ldexp_calls (decide (a < 0)) R w r0 r1)
    obtain ⟨s, hs⟩ : ∃ s, decide (a < 0) = s := ⟨_, rfl⟩
    rw [hs] at e L ⊢
    clear er et z h0 h1 hs
    go_enter Try.func27, Try.ntmps27
    go_wp2_with (first | (go_at_call 50; (with_reducible refine (L.out).mono ?_); rintro e w1 ⟨rfl, rfl⟩))
    go_ret
    exact ⟨rfl, rfl⟩

end Go.Proofs.Ytlbelgdcicholaa.Fl
