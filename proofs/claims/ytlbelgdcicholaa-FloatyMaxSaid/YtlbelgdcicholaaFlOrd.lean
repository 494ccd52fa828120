/- Plain laws of the model's float64: their order is that of their signed rungs. Each says its own condition. -/
import Ieee.Arith
namespace Go.Proofs.Ytlbelgdcicholaa.Fl
/-- The rungs of a float64, its sign apart. -/
def rung (b : Nat) : Nat := b % 9223372036854775808
def neg (b : Nat) : Bool := b / 9223372036854775808 % 2 == 1
/-- The signed rung: the order of floats. -/
def sr (b : Nat) : Int := if neg b then -(rung b : Int) else (rung b : Int)
def isNan (b : Nat) : Prop := 9218868437227405312 < rung b
instance (b : Nat) : Decidable (isNan b) := inferInstanceAs (Decidable (_ < _))
/-- A rung's number, in units of the least one. -/
def V (r : Nat) : Nat := if r < 4503599627370496 then r else (4503599627370496 + r % 4503599627370496) * 2 ^ (r / 4503599627370496 - 1)
def mag (r : Nat) : Nat := if r < 4503599627370496 then r else 4503599627370496 + r % 4503599627370496
def up (r : Nat) : Nat := if r < 4503599627370496 then 0 else r / 4503599627370496 - 1

theorem V_eq (r : Nat) : V r = mag r * 2 ^ up r := by
  unfold V mag up
  split <;> simp

theorem V_mono {r q : Nat} (h : r < q) : V r < V q := by
  unfold V
  by_cases hr : r < 4503599627370496
  · rw [if_pos hr]
    by_cases hq : q < 4503599627370496
    · rw [if_pos hq]; exact h
    · rw [if_neg hq]
      have : 1 ≤ 2 ^ (q / 4503599627370496 - 1) := Nat.one_le_two_pow
      calc r < (4503599627370496 + q % 4503599627370496) * 1 := by omega
        _ ≤ _ := Nat.mul_le_mul_left _ this
  · have hq : ¬ q < 4503599627370496 := by omega
    rw [if_neg hr, if_neg hq]
    by_cases e : r / 4503599627370496 = q / 4503599627370496
    · rw [e]
      exact Nat.mul_lt_mul_of_pos_right (by omega) (Nat.two_pow_pos _)
    · have hlt : r / 4503599627370496 < q / 4503599627370496 := by
        have := Nat.div_le_div_right (c := 4503599627370496) (Nat.le_of_lt h)
        omega
      obtain ⟨d, hd⟩ : ∃ d, q / 4503599627370496 - 1 = (r / 4503599627370496 - 1) + 1 + d := ⟨q / 4503599627370496 - 1 - (r / 4503599627370496 - 1) - 1, by omega⟩
      have h2 : 2 ^ (q / 4503599627370496 - 1) = 2 ^ (r / 4503599627370496 - 1) * 2 * 2 ^ d := by rw [hd, Nat.pow_add, Nat.pow_succ]
      have hd1 : 1 ≤ 2 ^ d := Nat.one_le_two_pow
      have hp : 0 < 2 ^ (r / 4503599627370496 - 1) := Nat.two_pow_pos _
      calc (4503599627370496 + r % 4503599627370496) * 2 ^ (r / 4503599627370496 - 1) < (4503599627370496 * 2) * 2 ^ (r / 4503599627370496 - 1) := Nat.mul_lt_mul_of_pos_right (by omega) hp
        _ = 4503599627370496 * (2 ^ (r / 4503599627370496 - 1) * 2) := by rw [Nat.mul_assoc, Nat.mul_comm 2]
        _ ≤ 4503599627370496 * (2 ^ (r / 4503599627370496 - 1) * 2 * 2 ^ d) := Nat.mul_le_mul_left _ (Nat.le_mul_of_pos_right _ hd1)
        _ ≤ _ := by rw [h2]; exact Nat.mul_le_mul_right _ (by omega)

theorem V_inj {r q : Nat} (h : V r = V q) : r = q := by
  rcases Nat.lt_trichotomy r q with h1 | h1 | h1
  · have := V_mono h1; omega
  · exact h1
  · have := V_mono h1; omega

theorem V_zero : V 0 = 0 := rfl

open Ieee in
theorem read_num {b : Nat} (h : rung b < 9218868437227405312) : double.read b = .number (neg b) (mag (rung b)) ((up (rung b) : Int) - 1074) := by
  have e1 : double.signWeight = 9223372036854775808 := by decide
  have e2 : double.binade = 4503599627370496 := by decide
  have e3 : double.infRung = 9218868437227405312 := by decide
  have e4 : double.leastPlace = -1074 := by decide
  unfold Format.read
  simp only [e1, e2, e3, e4]
  have hr : b % 9223372036854775808 = rung b := rfl
  have hn : (b / 9223372036854775808 % 2 == 1) = neg b := rfl
  rw [hr, hn]
  unfold mag up
  by_cases c : rung b < 4503599627370496
  · rw [if_pos c, if_pos c, if_pos c]
    rfl
  · rw [if_neg c, if_pos h, if_neg c, if_neg c]
    congr 1

open Ieee in
theorem read_inf {b : Nat} (h : rung b = 9218868437227405312) : double.read b = .infinity (neg b) := by
  have e1 : double.signWeight = 9223372036854775808 := by decide
  have e2 : double.binade = 4503599627370496 := by decide
  have e3 : double.infRung = 9218868437227405312 := by decide
  unfold Format.read
  simp only [e1, e2, e3]
  have hr : b % 9223372036854775808 = rung b := rfl
  have hn : (b / 9223372036854775808 % 2 == 1) = neg b := rfl
  rw [hr, hn, if_neg (by omega), if_neg (by omega), if_pos h]

open Ieee in
theorem read_nan {b : Nat} (h : isNan b) : ∃ s f, double.read b = .nan s f := by
  have e1 : double.signWeight = 9223372036854775808 := by decide
  have e2 : double.binade = 4503599627370496 := by decide
  have e3 : double.infRung = 9218868437227405312 := by decide
  unfold isNan at h
  unfold Format.read
  simp only [e1, e2, e3]
  have hr : b % 9223372036854775808 = rung b := rfl
  rw [hr, if_neg (by omega), if_neg (by omega), if_neg (by omega)]
  exact ⟨_, _, rfl⟩

theorem cmp_def (a b : Int) : compare a b = if a < b then .lt else if a = b then .eq else .gt := rfl

theorem cmp_scale (a b : Int) (k : Int) (h : 0 < k) : compare (a * k) (b * k) = compare a b := by
  rw [cmp_def, cmp_def]
  by_cases c : a < b
  · rw [if_pos c, if_pos (Int.mul_lt_mul_of_pos_right c h)]
  · rw [if_neg c, if_neg (fun q => c (Int.lt_of_mul_lt_mul_right q (Int.le_of_lt h)))]
    by_cases e : a = b
    · rw [if_pos e, if_pos (by rw [e])]
    · rw [if_neg e, if_neg (fun q => e (Int.eq_of_mul_eq_mul_right (by omega) q))]

theorem signed_scale (s : Bool) (m k j : Nat) : Ieee.signed s m k * ((2 ^ j : Nat) : Int) = Ieee.signed s m (k + j) := by
  unfold Ieee.signed
  have e : ((m <<< k : Nat) : Int) * ((2 ^ j : Nat) : Int) = ((m <<< (k + j) : Nat) : Int) := by
    rw [Nat.shiftLeft_eq, Nat.shiftLeft_eq, Nat.pow_add, ← Nat.mul_assoc]
    exact (Int.natCast_mul _ _).symm
  cases s
  · simp only [Bool.false_eq_true, if_false]
    exact e
  · simp only [if_true]
    rw [Int.neg_mul, e]

/-- A signed number, in units of the least one. -/
def sv (s : Bool) (n : Nat) : Int := if s then -(n : Int) else (n : Int)

theorem signed_V (b : Nat) : Ieee.signed (neg b) (mag (rung b)) (up (rung b)) = sv (neg b) (V (rung b)) := by
  unfold Ieee.signed sv
  rw [Nat.shiftLeft_eq, V_eq]

theorem sv_cmp (b c : Nat) : compare (sv (neg b) (V (rung b))) (sv (neg c) (V (rung c))) = compare (sr b) (sr c) := by
  rw [cmp_def, cmp_def]
  unfold sv sr
  have m1 : rung b < rung c → V (rung b) < V (rung c) := V_mono
  have m2 : rung c < rung b → V (rung c) < V (rung b) := V_mono
  have m3 : rung b = rung c → V (rung b) = V (rung c) := fun h => by rw [h]
  have z1 : rung b = 0 → V (rung b) = 0 := fun h => by rw [h]; rfl
  have z2 : rung c = 0 → V (rung c) = 0 := fun h => by rw [h]; rfl
  have p1 : 0 < rung b → 0 < V (rung b) := fun h => by have := V_mono h; rwa [V_zero] at this
  have p2 : 0 < rung c → 0 < V (rung c) := fun h => by have := V_mono h; rwa [V_zero] at this
  generalize V (rung b) = x at *
  generalize V (rung c) = y at *
  generalize rung b = r at *
  generalize rung c = q at *
  have key : (r < q ∧ x < y) ∨ (r = q ∧ x = y) ∨ (q < r ∧ y < x) := by omega
  have k1 : (r = 0 ∧ x = 0) ∨ (0 < r ∧ 0 < x) := by omega
  have k2 : (q = 0 ∧ y = 0) ∨ (0 < q ∧ 0 < y) := by omega
  clear m1 m2 m3 z1 z2 p1 p2
  cases neg b <;> cases neg c <;> simp only [Bool.false_eq_true, if_false, if_true] <;> (repeat' split) <;> first | rfl | omega

open Ieee in
theorem order_num {b c : Nat} (hb : rung b < 9218868437227405312) (hc : rung c < 9218868437227405312) : double.order b c = some (compare (sr b) (sr c)) := by
  unfold Format.order
  rw [read_num hb, read_num hc]
  unfold Datum.order
  simp only [Option.some.injEq]
  rw [← sv_cmp, ← signed_V, ← signed_V]
  by_cases h : up (rung b) ≤ up (rung c)
  · have e1 : (((up (rung b) : Int) - 1074) - min ((up (rung b) : Int) - 1074) ((up (rung c) : Int) - 1074)).toNat = 0 := by omega
    have e2 : (((up (rung c) : Int) - 1074) - min ((up (rung b) : Int) - 1074) ((up (rung c) : Int) - 1074)).toNat = up (rung c) - up (rung b) := by omega
    rw [e1, e2, ← cmp_scale _ _ ((2 ^ up (rung b) : Nat) : Int) (by exact_mod_cast Nat.two_pow_pos _), signed_scale, signed_scale]
    congr 2 <;> omega
  · have e1 : (((up (rung b) : Int) - 1074) - min ((up (rung b) : Int) - 1074) ((up (rung c) : Int) - 1074)).toNat = up (rung b) - up (rung c) := by omega
    have e2 : (((up (rung c) : Int) - 1074) - min ((up (rung b) : Int) - 1074) ((up (rung c) : Int) - 1074)).toNat = 0 := by omega
    rw [e1, e2, ← cmp_scale _ _ ((2 ^ up (rung c) : Nat) : Int) (by exact_mod_cast Nat.two_pow_pos _), signed_scale, signed_scale]
    congr 2 <;> omega

open Ieee in
/-- The order of floats is the order of their signed rungs; a NaN has none. -/
theorem order_eq {b c : Nat} (hb : ¬ isNan b) (hc : ¬ isNan c) : double.order b c = some (compare (sr b) (sr c)) := by
  unfold isNan at hb hc
  by_cases h1 : rung b = 9218868437227405312
  · unfold Format.order
    by_cases h2 : rung c = 9218868437227405312
    · rw [read_inf h1, read_inf h2]
      unfold sr
      rw [h1, h2]
      cases neg b <;> cases neg c <;> rfl
    · rw [read_inf h1, read_num (by omega)]
      unfold Datum.order sr
      simp only [Option.some.injEq]
      rw [h1, cmp_def]
      cases neg b <;> cases neg c <;> simp only [Bool.false_eq_true, if_false, if_true] <;> (repeat' split) <;> first | rfl | omega
  · by_cases h2 : rung c = 9218868437227405312
    · unfold Format.order
      rw [read_num (by omega), read_inf h2]
      unfold Datum.order sr
      simp only [Option.some.injEq]
      rw [h2, cmp_def]
      cases neg b <;> cases neg c <;> simp only [Bool.false_eq_true, if_false, if_true] <;> (repeat' split) <;> first | rfl | omega
    · exact order_num (by omega) (by omega)

open Ieee in
theorem order_nan_l {b c : Nat} (h : isNan b) : double.order b c = none := by
  obtain ⟨s, f, e⟩ := read_nan h
  unfold Format.order
  rw [e]
  rfl

open Ieee in
theorem order_nan_r {b c : Nat} (h : isNan c) : double.order b c = none := by
  obtain ⟨s, f, e⟩ := read_nan h
  unfold Format.order
  rw [e]
  cases double.read b <;> rfl
end Go.Proofs.Ytlbelgdcicholaa.Fl
