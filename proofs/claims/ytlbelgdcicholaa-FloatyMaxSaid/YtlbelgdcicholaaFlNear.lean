/- Plain laws of the model's float64: their order is that of their signed rungs. Each says its own condition. -/
import Ieee.Arith
import Derived.Test.YtlbelgdcicholaaFlOrd
namespace Go.Proofs.Ytlbelgdcicholaa.Fl
-- import Derived.Test.YtlbelgdcicholaaFlOrd
theorem word_parts (s : Bool) (r : Nat) (h : r < 9223372036854775808) : rung (Ieee.double.word s r) = r ∧ neg (Ieee.double.word s r) = s ∧ Ieee.double.word s r < 18446744073709551616 := by
  have e1 : Ieee.double.signWeight = 9223372036854775808 := by decide
  unfold Ieee.Format.word
  rw [e1]
  cases s
  · simp only [Bool.false_eq_true, if_false]
    refine ⟨by unfold rung; omega, ?_, by omega⟩
    unfold neg
    have : r / 9223372036854775808 % 2 = 0 := by omega
    rw [this]
    rfl
  · simp only [if_true]
    refine ⟨by unfold rung; omega, ?_, by omega⟩
    unfold neg
    have : (9223372036854775808 + r) / 9223372036854775808 % 2 = 1 := by omega
    rw [this]
    rfl

theorem cut_zero (s : Bool) (n : Nat) : Ieee.Toward.even.cut s n 0 = n := by
  have h1 : min 0 (n.log2 + 2) = 0 := by omega
  have e1 : (1 : Nat) <<< (0 : Nat) = 1 := rfl
  simp only [Ieee.Toward.cut, h1, e1, Nat.div_one, Nat.mod_one, Nat.mul_zero]
  rfl

theorem min_ok (E K : Nat) (hE : E ≤ 2045) (hK : K < 9007199254740992) : min (E * 4503599627370496 + K) 9218868437227405312 = E * 4503599627370496 + K := Nat.min_eq_left (by omega)

theorem place_max (p l : Int) (hp : -1022 ≤ p + l) : max (p + l - 52) (-1074) = p + l - 52 := by omega

theorem kept_lt (m l : Nat) (h1 : m < 2 ^ (l + 1)) (hl : l ≤ 52) : m * 2 ^ (52 - l) < 9007199254740992 := by
  have h : m * 2 ^ (52 - l) < 2 ^ (l + 1) * 2 ^ (52 - l) := Nat.mul_lt_mul_of_pos_right h1 (Nat.two_pow_pos _)
  rw [← Nat.pow_add, show l + 1 + (52 - l) = 53 by omega] at h
  exact h

/-- A number of no more than 53 digits, not too small and not too great, is written as it is. -/
theorem near_exact (s : Bool) (m l : Nat) (p : Int) (h0 : 2 ^ l ≤ m) (h1 : m < 2 ^ (l + 1)) (hl : l ≤ 52) (hp : -1022 ≤ p + l) (ht : p + l ≤ 1023) :
    Ieee.double.nearest s m p = Ieee.double.word s (((p + l + 1022).toNat) * 4503599627370496 + m * 2 ^ (52 - l)) := by
  have e2 : Ieee.double.binade = 4503599627370496 := by decide
  have e3 : Ieee.double.infRung = 9218868437227405312 := by decide
  have e4 : Ieee.double.leastPlace = -1074 := by decide
  have e5 : ((Ieee.double.fractionBits : Nat) : Int) = 52 := rfl
  have hp0 : 0 < 2 ^ l := Nat.two_pow_pos l
  have hm : m ≠ 0 := by
    intro h
    rw [h] at h0
    exact absurd h0 (Nat.not_le.2 hp0)
  have hlog : m.log2 = l := (Nat.log2_eq_iff hm).2 ⟨h0, h1⟩
  have hE : (p + l + 1022).toNat ≤ 2045 := by omega
  have a1 : (p - (p + (l : Int) - 52)).toNat = 52 - l := by omega
  have a2 : (p + (l : Int) - 52 - p).toNat = 0 := by omega
  have a3 : (p + (l : Int) - 52 - -1074).toNat = (p + l + 1022).toNat := by omega
  unfold Ieee.Format.nearest
  rw [if_neg hm, hlog, e5, e4, e2, e3]
  simp only [place_max p l hp, a1, a2, a3, cut_zero, Nat.shiftLeft_eq, min_ok _ _ hE (kept_lt m l h1 hl)]

theorem norm_lo (m l : Nat) (h0 : 2 ^ l ≤ m) (h1 : m < 2 ^ (l + 1)) (hl : l ≤ 52) : 4503599627370496 ≤ m * 2 ^ (52 - l) ∧ m * 2 ^ (52 - l) < 9007199254740992 := by
  constructor
  · have : 2 ^ l * 2 ^ (52 - l) ≤ m * 2 ^ (52 - l) := Nat.mul_le_mul_right _ h0
    rw [← Nat.pow_add, show l + (52 - l) = 52 by omega] at this
    exact this
  · have : m * 2 ^ (52 - l) < 2 ^ (l + 1) * 2 ^ (52 - l) := Nat.mul_lt_mul_of_pos_right h1 (Nat.two_pow_pos _)
    rw [← Nat.pow_add, show l + 1 + (52 - l) = 53 by omega] at this
    exact this

/-- The rung of a whole number of no more than 53 digits; the bits of its digits are l. -/
def irung (m : Nat) : Nat := if m = 0 then 0 else (m.log2 + 1022) * 4503599627370496 + m * 2 ^ (52 - m.log2)

theorem log_bounds (m : Nat) (h : m ≠ 0) : 2 ^ m.log2 ≤ m ∧ m < 2 ^ (m.log2 + 1) := ⟨Nat.log2_self_le h, Nat.lt_log2_self⟩

theorem log_le (m k : Nat) (h : m ≠ 0) (hm : m < 2 ^ (k + 1)) : m.log2 ≤ k := by
  have := (Nat.log2_lt h).2 hm
  omega

theorem irung_parts (m : Nat) (h : m ≠ 0) (hm : m < 9007199254740992) : irung m / 4503599627370496 = m.log2 + 1023 ∧ irung m % 4503599627370496 = m * 2 ^ (52 - m.log2) - 4503599627370496 := by
  have b := log_bounds m h
  have hl := log_le m 52 h hm
  have n := norm_lo m m.log2 b.1 b.2 hl
  unfold irung
  rw [if_neg h]
  omega

theorem irung_lt (m : Nat) (hm : m < 9007199254740992) : irung m < 4845873199050653696 := by
  by_cases h : m = 0
  · unfold irung
    rw [if_pos h]
    decide
  · have := irung_parts m h hm
    have hl := log_le m 52 h hm
    omega

theorem int_word (s : Bool) (m : Nat) (hm : m < 9007199254740992) : Ieee.double.nearest s m 0 = Ieee.double.word s (irung m) := by
  by_cases h : m = 0
  · subst h
    unfold irung Ieee.Format.nearest
    rw [if_pos rfl, if_pos rfl]
  · have b := log_bounds m h
    have hl := log_le m 52 h hm
    rw [near_exact s m m.log2 0 b.1 b.2 hl (by omega) (by omega)]
    have e : ((0 : Int) + (m.log2 : Int) + 1022).toNat = m.log2 + 1022 := by omega
    unfold irung
    rw [if_neg h, e]

/-- 1074, not to be reckoned with. -/
def LL : Nat := 1074
theorem V_irung (m : Nat) (hm : m < 9007199254740992) : V (irung m) = m * 2 ^ LL := by
  by_cases h : m = 0
  · rw [h, Nat.zero_mul, show irung 0 = 0 from if_pos rfl, V_zero]
  · have pa := irung_parts m h hm
    have b := log_bounds m h
    have hl := log_le m 52 h hm
    have n := norm_lo m m.log2 b.1 b.2 hl
    rw [V_eq]
    have hu : up (irung m) = m.log2 + 1022 := by unfold up; rw [if_neg (by omega), pa.1]; omega
    have hg : mag (irung m) = m * 2 ^ (52 - m.log2) := by unfold mag; rw [if_neg (by omega), pa.2]; omega
    rw [hu, hg, Nat.mul_assoc, ← Nat.pow_add, show 52 - m.log2 + (m.log2 + 1022) = LL from by unfold LL; omega]
end Go.Proofs.Ytlbelgdcicholaa.Fl
