/- Plain laws of the functions that several statements of this seat reach; each says its own conditions. -/
import Derived.Test.YtoddgpaopejeoaaMClux0
import Derived.Test.YtoddgpaopejeoaaMClux1
import Derived.Test.YtoddgpaopejeoaaMClux2
import Derived.Test.YtoddgpaopejeoaaMClux3
import Derived.Test.YtoddgpaopejeoaaMClux4
import Derived.Test.YtoddgpaopejeoaaMClux5
import Derived.Test.YtoddgpaopejeoaaMClux6
import Derived.Test.YtoddgpaopejeoaaMClux7
import Derived.Test.YtoddgpaopejeoaaMClux8
import Derived.OpenShut
import Derived.Laws.Bits64
import Derived.Laws.BitsLemmas
namespace Go.Proofs.Ytoddgpaopejeoaa.Pure
open Go.RowKit Go.Proofs.Ytoddgpaopejeoaa.MClu Go.Proofs.YtoddgpaopejeoaaW.PrintWords Go.Proofs.YtoddgpaopejeoaaW.PrintLast Go.Proofs.YtoddgpaopejeoaaW.PrintMore
set_option linter.unusedVariables false
set_option linter.unusedSimpArgs false

def cutv (x : Int) : Int := if x < -9223372036854775807 then -9223372036854775807 else if x > 9223372036854775807 then 9223372036854775807 else x

theorem cutv_bd (x : Int) : -9223372036854775807 ≤ cutv x ∧ cutv x ≤ 9223372036854775807 := by
  unfold cutv
  split
  · omega
  · split <;> omega

theorem cutv_id (x : Int) (h0 : -9223372036854775807 ≤ x) (h1 : x ≤ 9223372036854775807) : cutv x = x := by
  unfold cutv
  rw [if_neg (by omega), if_neg (by omega)]

theorem cutv_hi (x : Int) (h : 9223372036854775807 ≤ x) : cutv x = 9223372036854775807 := by
  unfold cutv
  split
  · omega
  · split <;> omega

theorem cutv_lo (x : Int) (h : x ≤ -9223372036854775807) : cutv x = -9223372036854775807 := by
  unfold cutv
  split
  · omega
  · split <;> omega

theorem cutv_mono (x y : Int) (h : x ≤ y) : cutv x ≤ cutv y := by
  unfold cutv
  (repeat' split) <;> omega

theorem cutv_mx (x : Int) (h1 : x ≤ 9223372036854775807) : mx x (-9223372036854775807) = cutv x := by
  unfold cutv mx
  (repeat' split) <;> omega

theorem pow2_pos (n : Nat) : (0 : Int) < 2 ^ n := Int.pow_pos (by decide)

theorem pow2_mono (m n : Nat) (h : m ≤ n) : (2 : Int) ^ m ≤ 2 ^ n := by
  have h1 : (2 : Nat) ^ m ≤ 2 ^ n := Nat.pow_le_pow_right (by decide) h
  have h2 : ((2 : Int) ^ m) = ((2 ^ m : Nat) : Int) := by simp
  have h3 : ((2 : Int) ^ n) = ((2 ^ n : Nat) : Int) := by simp
  rw [h2, h3]
  exact_mod_cast h1

theorem pow2_succ (n : Nat) : (2 : Int) ^ (n + 1) = 2 * 2 ^ n := by rw [Int.pow_succ]; omega

theorem mul_le_left (a b c : Int) (hc : 0 ≤ c) (h : a ≤ b) : a * c ≤ b * c := Int.mul_le_mul_of_nonneg_right h hc

theorem div_far (a b : Int) (hb : 9223372036854775808 ≤ b) (h0 : -9223372036854775808 ≤ a) (h1 : a ≤ 9223372036854775807) : a / b = if a < 0 then -1 else 0 := by
  by_cases c : a < 0
  · rw [if_pos c]
    have h2 : -1 ≤ a / b := Int.le_ediv_of_mul_le (by omega) (by omega)
    have h3 : a / b < 0 := Int.ediv_lt_of_lt_mul (by omega) (by omega)
    omega
  · rw [if_neg c]
    exact Int.ediv_eq_zero_of_lt (by omega) (by omega)

theorem cutv_mul (y p : Int) (hp : 1 ≤ p) : cutv (cutv y * p) = cutv (y * p) := by
  by_cases c : y < -9223372036854775807
  · have h1 : y * p ≤ y * 1 := Int.mul_le_mul_of_nonpos_left (by omega) hp
    have h2 : -9223372036854775807 * p ≤ -9223372036854775807 * 1 := Int.mul_le_mul_of_nonpos_left (by omega) hp
    rw [cutv_lo y (by omega), cutv_lo (y * p) (by omega), cutv_lo _ (by omega)]
  · by_cases d : y > 9223372036854775807
    · have h1 : y * 1 ≤ y * p := Int.mul_le_mul_of_nonneg_left hp (by omega)
      have h2 : 9223372036854775807 * 1 ≤ 9223372036854775807 * p := Int.mul_le_mul_of_nonneg_left hp (by omega)
      rw [cutv_hi y (by omega), cutv_hi (y * p) (by omega), cutv_hi _ (by omega)]
    · rw [cutv_id y (by omega) (by omega)]

def shiftv (a n : Int) : Int := if n ≤ 0 then cutv (a / 2 ^ (-n).toNat) else cutv (a * 2 ^ n.toNat)

theorem shiftv_bd (a n : Int) : -9223372036854775807 ≤ shiftv a n ∧ shiftv a n ≤ 9223372036854775807 := by
  unfold shiftv
  split <;> exact cutv_bd _

theorem logv_spec (n : Int) (h : 0 < n) : ∃ l : Nat, wide_Log.v n = (l : Int) ∧ (2 : Int) ^ l ≤ n ∧ n < 2 ^ (l + 1) := by
  refine ⟨Nat.log2 n.toNat, ?_, ?_, ?_⟩
  · unfold wide_Log.v
    rw [if_neg (by omega)]
  · have h1 := Nat.log2_self_le (n := n.toNat) (by omega)
    have h2 : ((2 : Int) ^ Nat.log2 n.toNat) = ((2 ^ Nat.log2 n.toNat : Nat) : Int) := by simp
    rw [h2]
    omega
  · have h1 : n.toNat < 2 ^ (Nat.log2 n.toNat + 1) := Nat.lt_log2_self
    have h2 : ((2 : Int) ^ (Nat.log2 n.toNat + 1)) = ((2 ^ (Nat.log2 n.toNat + 1) : Nat) : Int) := by simp
    rw [h2]
    omega

theorem logv_zero (n : Int) (h : n ≤ 0) : wide_Log.v n = -1 := by
  unfold wide_Log.v
  rw [if_pos h]

theorem log_eq (n : Int) (h0 : 0 ≤ n) (h1 : n ≤ 18446744073709551615) : wide_Log.f n = some (wide_Log.v n) := by
  unfold wide_Log.f
  rw [if_pos ⟨h0, h1⟩]

theorem pow_lt_64 (l : Nat) (n : Int) (h : (2 : Int) ^ l ≤ n) (hn : n ≤ 18446744073709551615) : l ≤ 63 := by
  by_cases c : l ≤ 63
  · exact c
  · have h1 := pow2_mono 64 l (by omega)
    have h2 : (2 : Int) ^ 64 = 18446744073709551616 := by decide
    omega

theorem pow_lt_63 (l : Nat) (n : Int) (h : (2 : Int) ^ l ≤ n) (hn : n ≤ 9223372036854775807) : l ≤ 62 := by
  by_cases c : l ≤ 62
  · exact c
  · have h1 := pow2_mono 63 l (by omega)
    have h2 : (2 : Int) ^ 63 = 9223372036854775808 := by decide
    omega

theorem mul_eq (a b : Int) (h0 : 0 ≤ a) (h1 : a ≤ 18446744073709551615) (h2 : 0 ≤ b) (h3 : b ≤ 18446744073709551615) : wide_Mul.f a b = some (a * b / 18446744073709551616, a * b % 18446744073709551616) := by
  unfold wide_Mul.f
  rw [if_pos ⟨h0, h1, h2, h3⟩]

theorem mul_bd (a b : Int) (h0 : 0 ≤ a) (h1 : a ≤ 18446744073709551615) (h2 : 0 ≤ b) (h3 : b ≤ 18446744073709551615) : 0 ≤ a * b ∧ a * b ≤ 18446744073709551615 * 18446744073709551615 := by
  have e0 := Int.mul_nonneg h0 h2
  have e1 : a * b ≤ 18446744073709551615 * b := Int.mul_le_mul_of_nonneg_right h1 h2
  omega

theorem div_no (hi lo d : Int) (h0 : 0 ≤ hi) (h1 : hi ≤ 18446744073709551615) (h2 : 0 ≤ lo) (h3 : lo ≤ 18446744073709551615) (h4 : 0 ≤ d) (h5 : d ≤ 18446744073709551615) (c : hi ≥ d) : wide_Div.f hi lo d = some (0, 0, false) := by
  unfold wide_Div.f
  rw [if_pos ⟨h0, h1, h2, h3, h4, h5⟩, if_pos c]

theorem div_yes (hi lo d : Int) (h0 : 0 ≤ hi) (h2 : 0 ≤ lo) (h3 : lo ≤ 18446744073709551615) (h5 : d ≤ 18446744073709551615) (c : hi < d) : wide_Div.f hi lo d = some ((hi * 18446744073709551616 + lo) / d, (hi * 18446744073709551616 + lo) % d, true) := by
  unfold wide_Div.f
  rw [if_pos ⟨h0, by omega, h2, h3, by omega, h5⟩, if_neg (by omega)]

theorem quot_bd (hi lo d : Int) (h0 : 0 ≤ hi) (h2 : 0 ≤ lo) (h3 : lo ≤ 18446744073709551615) (c : hi < d) : 0 ≤ (hi * 18446744073709551616 + lo) / d ∧ (hi * 18446744073709551616 + lo) / d ≤ 18446744073709551615 ∧ 0 ≤ (hi * 18446744073709551616 + lo) % d ∧ (hi * 18446744073709551616 + lo) % d < d := by
  refine ⟨Int.ediv_nonneg (by omega) (by omega), ?_, Int.emod_nonneg _ (by omega), Int.emod_lt_of_pos _ (by omega)⟩
  have : (hi * 18446744073709551616 + lo) / d < 18446744073709551616 := Int.ediv_lt_of_lt_mul (by omega) (by omega)
  omega

theorem less_eq (ah al bh bl : Int) (h2 : 0 ≤ al) (h3 : al ≤ 18446744073709551615) (h6 : 0 ≤ bl) (h7 : bl ≤ 18446744073709551615) :
    wide_Less.f ah al bh bl = some (decide (ah * 18446744073709551616 + al < bh * 18446744073709551616 + bl)) := by
  unfold wide_Less.f
  by_cases c : ah = bh
  · rw [if_pos c]
    congr 1
    rw [Bool.eq_iff_iff, decide_eq_true_iff, decide_eq_true_iff]
    omega
  · rw [if_neg c]
    congr 1
    rw [Bool.eq_iff_iff, decide_eq_true_iff, decide_eq_true_iff]
    omega

theorem minus_eq (ah al bh bl : Int) (h0 : 0 ≤ ah) (h1 : ah ≤ 18446744073709551615) (h2 : 0 ≤ al) (h3 : al ≤ 18446744073709551615) (h4 : 0 ≤ bh) (h6 : 0 ≤ bl) (h7 : bl ≤ 18446744073709551615) (c : bh * 18446744073709551616 + bl ≤ ah * 18446744073709551616 + al) :
    wide_minus.f ah al bh bl = some ((ah * 18446744073709551616 + al - (bh * 18446744073709551616 + bl)) / 18446744073709551616, (ah * 18446744073709551616 + al - (bh * 18446744073709551616 + bl)) % 18446744073709551616) := by
  unfold wide_minus.f
  simp only [IntKind.wrap_u64]
  by_cases d : al < bl
  · rw [if_pos d]
    congr 2 <;> omega
  · rw [if_neg d]
    congr 2 <;> omega

theorem or_low (x y : Int) (i : Nat) (hi : i ≤ 63) (h0 : 0 ≤ x) (h1 : x ≤ 18446744073709551615) (h2 : x % 2 ^ i = 0) (h3 : 0 ≤ y) (h4 : y < 2 ^ i) : Go.bits .or .u64 x y = x + y := by
  have hp : (2 : Int) ^ i ≤ 2 ^ 63 := by
    have h1 : (2 : Nat) ^ i ≤ 2 ^ 63 := Nat.pow_le_pow_right (by decide) hi
    have h2 : ((2 : Int) ^ i) = ((2 ^ i : Nat) : Int) := by simp
    have h3 : ((2 : Int) ^ 63) = ((2 ^ 63 : Nat) : Int) := by simp
    rw [h2, h3]
    exact_mod_cast h1
  have e : (2 : Int) ^ 63 = 9223372036854775808 := by decide
  exact bits_join .u64 64 (by decide) (fun n q0 q1 => by rw [IntKind.wrap_u64]; omega) i _ _ h0 h2 (by omega) h3 h4 (by omega)

theorem mul4 (a b c d : Int) : a * b * (c * d) = a * c * (b * d) := by rw [Int.mul_assoc, Int.mul_assoc, Int.mul_left_comm b]

theorem sqrt_round (n s rem cur T : Int) (hs : n * n = s) : 2 * n * (2 * n) = 4 * s ∧ (2 * n + 1) * (2 * n + 1) = 4 * s + 4 * n + 1 := by
  have e : 2 * n * (2 * n) = 4 * s := by
    rw [mul4, hs]
    omega
  refine ⟨e, ?_⟩
  rw [Int.add_mul, Int.mul_add, e]
  omega

theorem sqrt_l0 (N : Int) (hN0 : 0 ≤ N) (hN1 : N < 340282366920938463463374607431768211456) (d : Nat) : ∀ (k : Nat) (hi lo n lh ll i T s : Int), i + d = 64 → 0 ≤ i → d < k →
    0 ≤ hi → hi ≤ 18446744073709551615 → 0 ≤ lo → lo ≤ 18446744073709551615 → 0 ≤ n → 0 ≤ lh → 0 ≤ ll → ll ≤ 18446744073709551615 →
    n * n = s → lh * 18446744073709551616 + ll ≤ 2 * n →
    (n + 1) * 2 ^ d ≤ 18446744073709551616 →
    T = (s + (lh * 18446744073709551616 + ll)) * 340282366920938463463374607431768211456 + (hi * 18446744073709551616 + lo) →
    T * 4 ^ d = N * 340282366920938463463374607431768211456 →
    ∃ r, wide_Sqrt.l0 k hi lo n lh ll i = some r ∧ 0 ≤ r ∧ r ≤ 18446744073709551615 ∧ r * r ≤ N ∧ N < (r + 1) * (r + 1) := by
  induction d with
  | zero =>
    intro k hi lo n lh ll i T s hid hi0 hk b0 b1 b2 b3 b4 b7 b9 b10 hs hrem hb hT hTN
    obtain ⟨k, rfl⟩ : ∃ j, k = j + 1 := ⟨k - 1, by omega⟩
    have t0 : T * 4 ^ 0 = T := by rw [show (4 : Int) ^ 0 = 1 from rfl]; omega
    have n0 : (n + 1) * 2 ^ 0 = n + 1 := by rw [show (2 : Int) ^ 0 = 1 from rfl]; omega
    refine ⟨n, ?_, b4, by omega, ?_, ?_⟩
    · simp only [wide_Sqrt.l0]
      rw [if_neg (by omega)]
    · rw [hs]
      omega
    · have e : (n + 1) * (n + 1) = s + 2 * n + 1 := by
        rw [Int.add_mul, Int.mul_add, hs]
        omega
      rw [e]
      omega
  | succ d ih =>
    intro k hi lo n lh ll i T s hid hi0 hk b0 b1 b2 b3 b4 b7 b9 b10 hs hrem hb hT hTN
    obtain ⟨k, rfl⟩ : ∃ j, k = j + 1 := ⟨k - 1, by omega⟩
    have hp : (0 : Int) < 2 ^ d := Int.pow_pos (by decide)
    have hb2 : (2 * n + 1 + 1) * 2 ^ d ≤ 18446744073709551616 := by
      have e : (2 * n + 1 + 1) * 2 ^ d = (n + 1) * 2 ^ (d + 1) := by
        rw [Int.pow_succ, Int.mul_comm (2 ^ d) 2, ← Int.mul_assoc]
        congr 1
        omega
      rw [e]
      exact hb
    have hb1 : (2 * n + 1) * 2 ^ d ≤ 18446744073709551616 := by
      have : (2 * n + 1 + 1) * 2 ^ d = (2 * n + 1) * 2 ^ d + 2 ^ d := by rw [Int.add_mul, Int.one_mul]
      omega
    have hn : n ≤ 9223372036854775807 := by
      have h1 : (2 * n + 1 + 1) * 1 ≤ (2 * n + 1 + 1) * 2 ^ d := Int.mul_le_mul_of_nonneg_left (by omega) (by omega)
      omega
    simp only [wide_Sqrt.l0, IntKind.wrap_u64]
    rw [if_pos (by omega)]
    have o1 : Go.bits .or .u64 (lh * 4 % 18446744073709551616) (ll / 4611686018427387904) = lh * 4 % 18446744073709551616 + ll / 4611686018427387904 := or_low _ _ 2 (by decide) (by omega) (by omega) (by omega) (by omega) (by omega)
    have o2 : Go.bits .or .u64 (ll * 4 % 18446744073709551616) (hi / 4611686018427387904) = ll * 4 % 18446744073709551616 + hi / 4611686018427387904 := or_low _ _ 2 (by decide) (by omega) (by omega) (by omega) (by omega) (by omega)
    have o3 : Go.bits .or .u64 (n * 4 % 18446744073709551616) 1 = n * 4 % 18446744073709551616 + 1 := or_low _ _ 2 (by decide) (by omega) (by omega) (by omega) (by omega) (by omega)
    have o4 : Go.bits .or .u64 (hi * 4 % 18446744073709551616) (lo / 4611686018427387904) = hi * 4 % 18446744073709551616 + lo / 4611686018427387904 := or_low _ _ 2 (by decide) (by omega) (by omega) (by omega) (by omega) (by omega)
    have e2n : n * 2 % 18446744073709551616 = 2 * n := by omega
    have o5 : Go.bits .or .u64 (2 * n) 1 = 2 * n + 1 := or_low _ _ 1 (by decide) (by omega) (by omega) (by omega) (by omega) (by omega)
    have wi : wrap64 (i + 1) = i + 1 := by unfold wrap64; omega
    simp only [e2n, o1, o2, o3, o4, o5, wi]
    rw [less_eq _ _ _ _ (by omega) (by omega) (by omega) (by omega)]
    simp only [Option.bind_some]
    obtain ⟨q1, q2⟩ := sqrt_round n s 0 0 0 hs
    have hT4 : 4 * T * 4 ^ d = N * 340282366920938463463374607431768211456 := by
      rw [← hTN, Int.pow_succ, Int.mul_comm 4 T, Int.mul_assoc, Int.mul_comm 4]
    by_cases c : (lh * 4 % 18446744073709551616 + ll / 4611686018427387904) * 18446744073709551616 + (ll * 4 % 18446744073709551616 + hi / 4611686018427387904) < n / 4611686018427387904 * 18446744073709551616 + (n * 4 % 18446744073709551616 + 1)
    · rw [if_pos (decide_eq_true c)]
      exact ih k _ _ _ _ _ _ (4 * T) (4 * s) (by omega) (by omega) (by omega) (by omega) (by omega) (by omega) (by omega) (by omega) (by omega) (by omega) (by omega) q1 (by omega) hb1 (by omega) hT4
    · rw [if_neg (by rw [decide_eq_false c]; decide), minus_eq _ _ _ _ (by omega) (by omega) (by omega) (by omega) (by omega) (by omega) (by omega) (by omega)]
      simp only [Option.bind_some]
      exact ih k _ _ _ _ _ _ (4 * T) (4 * s + 4 * n + 1) (by omega) (by omega) (by omega) (by omega) (by omega) (by omega) (by omega) (by omega) (by omega) (by omega) (by omega) q2 (by omega) hb2 (by omega) hT4

theorem sqrt_eq (k : Nat) (hi lo : Int) (h0 : 0 ≤ hi) (h1 : hi ≤ 18446744073709551615) (h2 : 0 ≤ lo) (h3 : lo ≤ 18446744073709551615) (hk : 65 ≤ k) :
    ∃ r, wide_Sqrt.f k hi lo = some r ∧ 0 ≤ r ∧ r ≤ 18446744073709551615 ∧ r * r ≤ hi * 18446744073709551616 + lo ∧ hi * 18446744073709551616 + lo < (r + 1) * (r + 1) := by
  unfold wide_Sqrt.f
  have e4 : (4 : Int) ^ 64 = 340282366920938463463374607431768211456 := by decide
  have e2 : (2 : Int) ^ 64 = 18446744073709551616 := by decide
  exact sqrt_l0 (hi * 18446744073709551616 + lo) (by omega) (by omega) 64 k hi lo 0 0 0 0 (hi * 18446744073709551616 + lo) 0 (by omega) (by omega) (by omega) h0 h1 h2 h3 (by omega) (by omega) (by omega) (by omega) (by omega) (by omega) (by omega) (by omega) (by rw [e4])

theorem sq_le (a b : Int) (h0 : 0 ≤ a) (h : a ≤ b) : a * a ≤ b * b := Int.mul_le_mul h h h0 (by omega)

theorem root_one (N a b : Int) (h0 : 0 ≤ a) (h1 : 0 ≤ b) (h2 : a * a ≤ N) (h3 : N < (b + 1) * (b + 1)) : a ≤ b := by
  by_cases c : a ≤ b
  · exact c
  · have := sq_le (b + 1) a (by omega) (by omega)
    omega

theorem root_eq (N a b : Int) (h0 : 0 ≤ a) (h1 : 0 ≤ b) (h2 : a * a ≤ N) (h3 : N < (a + 1) * (a + 1)) (h4 : b * b ≤ N) (h5 : N < (b + 1) * (b + 1)) : a = b := by
  have e1 := root_one N a b h0 h1 h2 h5
  have e2 := root_one N b a h1 h0 h4 h3
  omega

theorem size_eq (a : Int) (h0 : -9223372036854775808 ≤ a) (h1 : a ≤ 9223372036854775807) : fix_size.f a = some (if a < 0 then -a else a, decide (a < 0)) := by
  unfold fix_size.f
  rw [IntKind.wrap_u64, IntKind.wrap_u64]
  by_cases c : a < 0
  · rw [if_pos c, if_pos c, decide_eq_true c]
    congr 2
    omega
  · rw [if_neg c, if_neg c, decide_eq_false c]
    congr 2
    omega

theorem cut_eq (n rest : Int) (b : Bool) (h0 : 0 ≤ n) (h1 : n ≤ 18446744073709551615) : fix_cut.f n rest b = some (cutv (if b = true then (if rest > 0 then -n - 1 else -n) else n)) := by
  unfold fix_cut.f mn wrap64 cutv
  rw [IntKind.wrap_u64]
  (repeat' split) <;> first | (exfalso; omega) | (congr 1 <;> omega)

theorem sub_eq (k : Nat) (a b : Int) (h0 : -9223372036854775808 ≤ a) (h1 : a ≤ 9223372036854775807) (h2 : -9223372036854775808 ≤ b) (h3 : b ≤ 9223372036854775807) (hk : 2 ≤ k) : fix_Sub.f k a b = some (cutv (a - b)) := by
  obtain ⟨k, rfl⟩ : ∃ j, k = j + 2 := ⟨k - 2, by omega⟩
  unfold fix_Sub.f
  simp only [fix_Sub.j0, decide_eq_true_eq, Bool.false_eq_true, if_false]
  unfold cutv mx wrap64
  (repeat' split) <;> first | (exfalso; omega) | (congr 1 <;> omega)

def mulv (a b : Int) : Int := cutv (a * b / 4294967296)

theorem sizes_mul (a b : Int) : (if a < 0 then -a else a) * (if b < 0 then -b else b) = (if (decide (a < 0) != decide (b < 0)) = true then -(a * b) else a * b) := by
  by_cases c : a < 0
  · by_cases d : b < 0
    · rw [if_pos c, if_pos d, decide_eq_true c, decide_eq_true d, if_neg (by decide), Int.neg_mul_neg]
    · rw [if_pos c, if_neg d, decide_eq_true c, decide_eq_false d, if_pos (by decide), Int.neg_mul]
  · by_cases d : b < 0
    · rw [if_neg c, if_pos d, decide_eq_false c, decide_eq_true d, if_pos (by decide), Int.mul_neg]
    · rw [if_neg c, if_neg d, decide_eq_false c, decide_eq_false d, if_neg (by decide)]

theorem size_bd (a : Int) (h0 : -9223372036854775808 ≤ a) (h1 : a ≤ 9223372036854775807) : 0 ≤ (if a < 0 then -a else a) ∧ (if a < 0 then -a else a) ≤ 9223372036854775808 := by
  split <;> omega

theorem or32 (x y : Int) (h0 : 0 ≤ x) (h1 : x ≤ 4294967295) (h3 : 0 ≤ y) (h4 : y ≤ 4294967295) : Go.bits .or .u64 (x * 4294967296) y = x * 4294967296 + y :=
  bits_join .u64 64 (by decide) (fun n q0 q1 => by rw [IntKind.wrap_u64]; omega) 32 _ _ (by omega) (by omega) (by omega) (by omega) (by omega) (by omega)

theorem mulf_eq (a b : Int) (h0 : -9223372036854775808 ≤ a) (h1 : a ≤ 9223372036854775807) (h2 : -9223372036854775808 ≤ b) (h3 : b ≤ 9223372036854775807) : fix_Mul.f a b = some (mulv a b) := by
  unfold fix_Mul.f mulv
  rw [size_eq a h0 h1, size_eq b h2 h3]
  simp only [Option.bind_some]
  have sa := size_bd a h0 h1
  have sb := size_bd b h2 h3
  have hs := sizes_mul a b
  obtain ⟨m, hm⟩ : ∃ m, (if a < 0 then -a else a) = m := ⟨_, rfl⟩
  obtain ⟨n, hn⟩ : ∃ n, (if b < 0 then -b else b) = n := ⟨_, rfl⟩
  obtain ⟨s, hss⟩ : ∃ s, (decide (a < 0) != decide (b < 0)) = s := ⟨_, rfl⟩
  rw [hm] at sa hs ⊢
  rw [hn] at sb hs ⊢
  rw [hss] at hs ⊢
  have p0 : 0 ≤ m * n := Int.mul_nonneg sa.1 sb.1
  have p1 : m * n ≤ 9223372036854775808 * n := Int.mul_le_mul_of_nonneg_right sa.2 sb.1
  rw [mul_eq m n sa.1 (by omega) sb.1 (by omega)]
  simp only [Option.bind_some]
  obtain ⟨P, hP⟩ : ∃ P, m * n = P := ⟨_, rfl⟩
  obtain ⟨Q, hQ⟩ : ∃ Q, a * b = Q := ⟨_, rfl⟩
  rw [hP] at p0 p1 hs ⊢
  rw [hQ] at hs ⊢
  by_cases c : P / 18446744073709551616 / 2147483648 > 0
  · rw [if_pos c, cut_eq _ _ _ (by omega) (by omega)]
    simp only [Option.bind_some]
    congr 1
    cases s
    · rw [if_neg (by decide)] at hs ⊢
      rw [cutv_hi _ (by omega), cutv_hi _ (by omega)]
    · rw [if_pos rfl] at hs
      rw [if_pos rfl, if_neg (by decide), cutv_lo _ (by omega), cutv_lo _ (by omega)]
  · rw [if_neg c, IntKind.wrap_u64, IntKind.wrap_u64]
    have e1 : P / 18446744073709551616 * 4294967296 % 18446744073709551616 = P / 18446744073709551616 * 4294967296 := by omega
    rw [e1, or32 _ _ (by omega) (by omega) (by omega) (by omega), cut_eq _ _ _ (by omega) (by omega)]
    simp only [Option.bind_some]
    congr 2
    cases s
    · rw [if_neg (by decide)] at hs ⊢
      omega
    · rw [if_pos rfl] at hs
      rw [if_pos rfl]
      split <;> omega

theorem mulv_bd (a b : Int) : -9223372036854775807 ≤ mulv a b ∧ mulv a b ≤ 9223372036854775807 := cutv_bd _

theorem mulv_comm (a b : Int) : mulv a b = mulv b a := by unfold mulv; rw [Int.mul_comm]

def pos0 (a : Int) : Int := if a < 0 then 0 else a

theorem sqrtf_eq (k : Nat) (a : Int) (h0 : -9223372036854775808 ≤ a) (h1 : a ≤ 9223372036854775807) (hk : 65 ≤ k) :
    ∃ r, fix_Sqrt.f k a = some r ∧ 0 ≤ r ∧ r ≤ 199032864766430 ∧ r * r ≤ pos0 a * 4294967296 ∧ pos0 a * 4294967296 < (r + 1) * (r + 1) := by
  unfold fix_Sqrt.f
  have em : mx a 0 = pos0 a := rfl
  rw [em, IntKind.wrap_u64, IntKind.wrap_u64]
  have hp : 0 ≤ pos0 a ∧ pos0 a ≤ 9223372036854775807 := by unfold pos0; split <;> omega
  obtain ⟨p, hpp⟩ : ∃ p, pos0 a = p := ⟨_, rfl⟩
  rw [hpp] at hp ⊢
  have e1 : p % 18446744073709551616 = p := by omega
  rw [e1]
  obtain ⟨r, hr, r0, r1, r2, r3⟩ := sqrt_eq k (p / 4294967296) (p * 4294967296 % 18446744073709551616) (by omega) (by omega) (by omega) (by omega) hk
  have e2 : p / 4294967296 * 18446744073709551616 + p * 4294967296 % 18446744073709551616 = p * 4294967296 := by omega
  rw [e2] at r2 r3
  have rb : r ≤ 199032864766430 := root_one (p * 4294967296) r 199032864766430 r0 (by decide) r2 (by omega)
  rw [hr]
  simp only [Option.bind_some]
  rw [cut_eq _ _ _ r0 r1]
  refine ⟨r, ?_, r0, rb, r2, r3⟩
  simp only [Option.bind_some]
  rw [if_neg (by decide), cutv_id _ (by omega) (by omega)]

theorem rplus_eq (ah al bh bl : Int) (h0 : 0 ≤ ah) (h1 : ah ≤ 18446744073709551615) (h2 : 0 ≤ al) (h3 : al ≤ 18446744073709551615) (h4 : 0 ≤ bh) (h5 : bh ≤ 18446744073709551615) (h6 : 0 ≤ bl) (h7 : bl ≤ 18446744073709551615) :
    analemmaref01_Plus.f ah al bh bl = some ((ah + bh + (al + bl) / 18446744073709551616) % 18446744073709551616, (al + bl) % 18446744073709551616, decide (ah + bh + (al + bl) / 18446744073709551616 ≥ 18446744073709551616)) := by
  unfold analemmaref01_Plus.f
  simp only [IntKind.wrap_u64]
  by_cases c : (al + bl) % 18446744073709551616 < al
  · rw [if_pos c]
    by_cases d : (ah + bh) % 18446744073709551616 < ah
    · rw [if_pos d, decide_eq_true (by omega)]
      congr 2
      omega
    · rw [if_neg d]
      congr 2
      · omega
      · congr 1
        rw [Bool.eq_iff_iff, decide_eq_true_iff, decide_eq_true_iff]
        omega
  · rw [if_neg c]
    by_cases d : (ah + bh) % 18446744073709551616 < ah
    · rw [if_pos d, decide_eq_true (by omega)]
      congr 2
      omega
    · rw [if_neg d]
      congr 2
      · omega
      · congr 1
        rw [Bool.eq_iff_iff, decide_eq_true_iff, decide_eq_true_iff]
        omega

theorem rbit_eq (n : Int) (j : Nat) (h0 : 0 ≤ n) (h1 : n ≤ 18446744073709551615) (hj : j ≤ 63) : analemmaref01_bit.f n (j : Int) = some (n / 2 ^ j % 2) := by
  unfold analemmaref01_bit.f
  rw [if_pos (by omega)]
  have e : shr .u64 n (j : Int) = n / 2 ^ j := by
    unfold shr
    have e : min (j : Int).toNat (IntKind.bits .u64) = j := by simp [IntKind.bits]; omega
    rw [e]
  have hp := pow2_pos j
  have q0 : 0 ≤ n / 2 ^ j := Int.ediv_nonneg h0 (by omega)
  have q1 : n / 2 ^ j ≤ n := Int.ediv_le_self _ h0
  rw [e]
  congr 1
  exact bits_mask .u64 64 (by decide) (fun m h0 h1 => by rw [IntKind.wrap_u64]; omega) 1 (by decide) _ q0 (by omega)

theorem halve (n : Int) (j : Nat) : n / 2 ^ j = 2 * (n / 2 ^ (j + 1)) + n / 2 ^ j % 2 := by
  have e : n / 2 ^ (j + 1) = n / 2 ^ j / 2 := by rw [Int.pow_succ, Int.ediv_ediv_of_nonneg (by have := pow2_pos j; omega)]
  rw [e]
  omega

theorem rless_eq (ah al bh bl : Int) (h2 : 0 ≤ al) (h3 : al ≤ 18446744073709551615) (h6 : 0 ≤ bl) (h7 : bl ≤ 18446744073709551615) :
    analemmaref01_Less.f ah al bh bl = some (decide (ah * 18446744073709551616 + al < bh * 18446744073709551616 + bl)) := by
  unfold analemmaref01_Less.f
  by_cases c : ah < bh
  · rw [if_pos c, decide_eq_true (by omega)]
  · rw [if_neg c]
    by_cases d : ah = bh
    · rw [if_pos d]
      congr 1
      rw [Bool.eq_iff_iff, decide_eq_true_iff, decide_eq_true_iff]
      omega
    · rw [if_neg d, decide_eq_false (by omega)]

theorem rmul_l0 (a b : Int) (ha0 : 0 ≤ a) (ha1 : a ≤ 18446744073709551615) (hb0 : 0 ≤ b) (hb1 : b ≤ 18446744073709551615) (d : Nat) : ∀ (k : Nat) (hi lo : Int), d ≤ 64 → d < k → 0 ≤ hi → hi ≤ 18446744073709551615 → 0 ≤ lo → lo ≤ 18446744073709551615 →
    hi * 18446744073709551616 + lo = a * (b / 2 ^ d) → analemmaref01_Mul.l0 k a b hi lo ((d : Int) - 1) = some (a * b / 18446744073709551616, a * b % 18446744073709551616) := by
  induction d with
  | zero =>
    intro k hi lo hd hk b0 b1 b2 b3 he
    obtain ⟨k, rfl⟩ : ∃ j, k = j + 1 := ⟨k - 1, by omega⟩
    simp only [analemmaref01_Mul.l0]
    rw [if_neg (by omega)]
    rw [show (2 : Int) ^ 0 = 1 from rfl, Int.ediv_one] at he
    congr 2 <;> omega
  | succ d ih =>
    intro k hi lo hd hk b0 b1 b2 b3 he
    obtain ⟨k, rfl⟩ : ∃ j, k = j + 1 := ⟨k - 1, by omega⟩
    have hp := pow2_pos d
    have hq := halve b d
    have z0 : 0 ≤ b / 2 ^ d := Int.ediv_nonneg hb0 (by omega)
    have z1 : b / 2 ^ d ≤ b := Int.ediv_le_self _ hb0
    have z2 : a * (b / 2 ^ d) ≤ a * b := Int.mul_le_mul_of_nonneg_left z1 ha0
    have z3 := mul_bd a b ha0 ha1 hb0 hb1
    obtain ⟨q, hqq⟩ : ∃ q, b / 2 ^ (d + 1) = q := ⟨_, rfl⟩
    obtain ⟨t, ht⟩ : ∃ t, b / 2 ^ d % 2 = t := ⟨_, rfl⟩
    have t01 : t = 0 ∨ t = 1 := by omega
    rw [hqq] at he hq
    rw [ht] at hq
    have e0 : a * (b / 2 ^ d) = 2 * (a * q) + a * t := by rw [hq, Int.mul_add, Int.mul_left_comm]
    simp only [analemmaref01_Mul.l0]
    have ed : ((d + 1 : Nat) : Int) - 1 = (d : Int) := by omega
    have ew : wrap64 ((d : Int) - 1) = (d : Int) - 1 := by unfold wrap64; omega
    rw [ed, if_pos (by omega), rplus_eq _ _ _ _ b0 b1 b2 b3 b0 b1 b2 b3, rbit_eq b d hb0 hb1 (by omega), ht]
    simp only [Option.bind_some]
    rw [ew]
    rcases t01 with t0 | t1
    · subst t0
      rw [Int.mul_zero] at e0
      rw [if_neg (by decide)]
      exact ih k _ _ (by omega) (by omega) (by omega) (by omega) (by omega) (by omega) (by omega)
    · subst t1
      rw [Int.mul_one] at e0
      rw [if_pos rfl, rplus_eq _ _ _ _ (by omega) (by omega) (by omega) (by omega) (by omega) (by omega) (by omega) (by omega)]
      simp only [Option.bind_some]
      exact ih k _ _ (by omega) (by omega) (by omega) (by omega) (by omega) (by omega) (by omega)

theorem rmul_eq (k : Nat) (a b : Int) (ha0 : 0 ≤ a) (ha1 : a ≤ 18446744073709551615) (hb0 : 0 ≤ b) (hb1 : b ≤ 18446744073709551615) (hk : 65 ≤ k) : analemmaref01_Mul.f k a b = some (a * b / 18446744073709551616, a * b % 18446744073709551616) := by
  unfold analemmaref01_Mul.f
  have e64 : (2 : Int) ^ 64 = 18446744073709551616 := by decide
  have e : b / 2 ^ 64 = 0 := Int.ediv_eq_zero_of_lt hb0 (by omega)
  exact rmul_l0 a b ha0 ha1 hb0 hb1 64 k 0 0 (by omega) (by omega) (by omega) (by omega) (by omega) (by omega) (by rw [e]; omega)

theorem low_bit (hi lo : Int) (j : Nat) (hj : j ≤ 63) : (hi * 18446744073709551616 + lo) / 2 ^ j % 2 = lo / 2 ^ j % 2 := by
  have hp := pow2_pos j
  have e : (18446744073709551616 : Int) = 2 ^ (63 - j) * 2 * 2 ^ j := by
    rw [Int.mul_assoc, Int.mul_comm 2, ← Int.pow_succ, ← Int.pow_add, show 63 - j + (j + 1) = 64 by omega]
    decide
  have e2 : (hi * 18446744073709551616 + lo) / 2 ^ j = hi * (2 ^ (63 - j) * 2) + lo / 2 ^ j := by
    rw [e, ← Int.mul_assoc, Int.add_comm, Int.add_mul_ediv_right _ _ (by omega), Int.add_comm]
  rw [e2, ← Int.mul_assoc]
  omega

theorem rsqrt_l0 (hi lo : Int) (h0 : 0 ≤ hi) (h1 : hi ≤ 18446744073709551615) (h2 : 0 ≤ lo) (h3 : lo ≤ 18446744073709551615) (d : Nat) : ∀ (k : Nat) (n : Int), d ≤ 64 → d + 66 < k → 0 ≤ n → n % 2 ^ d = 0 → n + 2 ^ d ≤ 18446744073709551616 →
    n * n ≤ hi * 18446744073709551616 + lo → hi * 18446744073709551616 + lo < (n + 2 ^ d) * (n + 2 ^ d) →
    ∃ r, analemmaref01_Sqrt.l0 k hi lo n ((d : Int) - 1) = some r ∧ 0 ≤ r ∧ r ≤ 18446744073709551615 ∧ r * r ≤ hi * 18446744073709551616 + lo ∧ hi * 18446744073709551616 + lo < (r + 1) * (r + 1) := by
  induction d with
  | zero =>
    intro k n hd hk b0 b1 b2 b3 b4
    obtain ⟨k, rfl⟩ : ∃ j, k = j + 1 := ⟨k - 1, by omega⟩
    rw [show (2 : Int) ^ 0 = 1 from rfl] at b2 b4
    refine ⟨n, ?_, b0, by omega, b3, b4⟩
    simp only [analemmaref01_Sqrt.l0]
    rw [if_neg (by omega)]
  | succ d ih =>
    intro k n hd hk b0 b1 b2 b3 b4
    obtain ⟨k, rfl⟩ : ∃ j, k = j + 1 := ⟨k - 1, by omega⟩
    have hp := pow2_pos d
    have hm := pow2_mono d 63 (by omega)
    have e63 : (2 : Int) ^ 63 = 9223372036854775808 := by decide
    rw [pow2_succ] at b2 b4
    have ed : ((d + 1 : Nat) : Int) - 1 = (d : Int) := by omega
    have ew : wrap64 ((d : Int) - 1) = (d : Int) - 1 := by unfold wrap64; omega
    have es : shl .u64 1 (d : Int) = 2 ^ d := by
      unfold shl
      have e : min (d : Int).toNat (IntKind.bits .u64) = d := by simp [IntKind.bits]; omega
      rw [e, IntKind.wrap_u64]
      omega
    have eo : Go.bits .or .u64 n (2 ^ d) = n + 2 ^ d := by
      rw [bits_join .u64 64 (by decide) (fun n q0 q1 => by rw [IntKind.wrap_u64]; omega) (d + 1) _ _ b0 b1 (by omega) (by omega) (by rw [pow2_succ]; omega) (by omega)]
    have b1' : n % 2 ^ d = 0 := by
      have e : n = 2 ^ (d + 1) * (n / 2 ^ (d + 1)) := by
        have := Int.mul_ediv_add_emod n (2 ^ (d + 1))
        omega
      rw [e, Int.pow_succ, Int.mul_assoc]
      exact Int.mul_emod_right _ _
    have b1'' : (n + 2 ^ d) % 2 ^ d = 0 := by rw [Int.add_emod_right]; exact b1'
    have pb := mul_bd (n + 2 ^ d) (n + 2 ^ d) (by omega) (by omega) (by omega) (by omega)
    simp only [analemmaref01_Sqrt.l0]
    rw [ed, if_pos (by omega), if_pos (by omega), es, eo, rmul_eq k _ _ (by omega) (by omega) (by omega) (by omega) (by omega)]
    simp only [Option.bind_some]
    rw [rless_eq _ _ _ _ h2 h3 (by omega) (by omega)]
    simp only [Option.bind_some]
    rw [ew]
    by_cases c : hi * 18446744073709551616 + lo < (n + 2 ^ d) * (n + 2 ^ d) / 18446744073709551616 * 18446744073709551616 + (n + 2 ^ d) * (n + 2 ^ d) % 18446744073709551616
    · rw [if_pos (decide_eq_true c)]
      exact ih k n (by omega) (by omega) b0 b1' (by omega) b3 (by omega)
    · rw [if_neg (by rw [decide_eq_false c]; decide)]
      exact ih k _ (by omega) (by omega) (by omega) b1'' (by omega) (by omega) (by rw [show n + 2 ^ d + 2 ^ d = n + 2 * 2 ^ d by omega]; exact b4)

theorem rsqrt_eq (k : Nat) (hi lo : Int) (h0 : 0 ≤ hi) (h1 : hi ≤ 18446744073709551615) (h2 : 0 ≤ lo) (h3 : lo ≤ 18446744073709551615) (hk : 140 ≤ k) :
    ∃ r, analemmaref01_Sqrt.f k hi lo = some r ∧ 0 ≤ r ∧ r ≤ 18446744073709551615 ∧ r * r ≤ hi * 18446744073709551616 + lo ∧ hi * 18446744073709551616 + lo < (r + 1) * (r + 1) := by
  unfold analemmaref01_Sqrt.f
  have e2 : (2 : Int) ^ 64 = 18446744073709551616 := by decide
  exact rsqrt_l0 hi lo h0 h1 h2 h3 64 k 0 (by omega) (by omega) (by omega) (by rw [e2]; decide) (by omega) (by omega) (by rw [e2]; omega)


theorem rsize_eq (a : Int) (h0 : -9223372036854775808 ≤ a) (h1 : a ≤ 9223372036854775807) : analemmaref02_size.f a = some (if a < 0 then -a else a) := by
  unfold analemmaref02_size.f
  rw [IntKind.wrap_u64, IntKind.wrap_u64]
  by_cases c : a < 0
  · rw [if_pos c, if_pos c]
    congr 1
    omega
  · rw [if_neg c, if_neg c]
    congr 1
    omega

theorem rcut_eq (k : Nat) (m : Bool) (n : Int) (rest : Bool) (h0 : 0 ≤ n) (h1 : n ≤ 18446744073709551615) (hk : 2 ≤ k) :
    analemmaref02_Cut.f k m n rest = some (cutv (if m = true then (if rest = true then -n - 1 else -n) else n)) := by
  obtain ⟨k, rfl⟩ : ∃ j, k = j + 2 := ⟨k - 2, by omega⟩
  unfold analemmaref02_Cut.f
  simp only [analemmaref02_Cut.j0, analemmaref02_Cut.j1, IntKind.wrap_u64]
  unfold cutv wrap64
  cases m <;> cases rest <;> simp only [if_true, if_false, decide_eq_true_eq, Bool.false_eq_true] <;> (repeat' split) <;> first | (exfalso; omega) | (congr 1 <;> omega)


theorem rmulf_eq (k : Nat) (a b : Int) (h0 : -9223372036854775808 ≤ a) (h1 : a ≤ 9223372036854775807) (h2 : -9223372036854775808 ≤ b) (h3 : b ≤ 9223372036854775807) (hk : 65 ≤ k) : analemmaref02_Mul.f k a b = some (mulv a b) := by
  unfold analemmaref02_Mul.f mulv
  rw [rsize_eq a h0 h1, rsize_eq b h2 h3]
  simp only [Option.bind_some]
  have sa := size_bd a h0 h1
  have sb := size_bd b h2 h3
  have hs := sizes_mul a b
  obtain ⟨m, hm⟩ : ∃ m, (if a < 0 then -a else a) = m := ⟨_, rfl⟩
  obtain ⟨n, hn⟩ : ∃ n, (if b < 0 then -b else b) = n := ⟨_, rfl⟩
  obtain ⟨s, hss⟩ : ∃ s, (decide (a < 0) != decide (b < 0)) = s := ⟨_, rfl⟩
  rw [hm] at sa hs ⊢
  rw [hn] at sb hs ⊢
  rw [hss] at hs ⊢
  have p0 : 0 ≤ m * n := Int.mul_nonneg sa.1 sb.1
  have p1 : m * n ≤ 9223372036854775808 * n := Int.mul_le_mul_of_nonneg_right sa.2 sb.1
  rw [rmul_eq k m n sa.1 (by omega) sb.1 (by omega) hk]
  simp only [Option.bind_some]
  obtain ⟨P, hP⟩ : ∃ P, m * n = P := ⟨_, rfl⟩
  obtain ⟨Q, hQ⟩ : ∃ Q, a * b = Q := ⟨_, rfl⟩
  rw [hP] at p0 p1 hs ⊢
  rw [hQ] at hs ⊢
  by_cases c : P / 18446744073709551616 ≥ 2147483648
  · rw [if_pos c, rcut_eq k _ _ _ (by omega) (by omega) (by omega)]
    simp only [Option.bind_some]
    congr 1
    cases s
    · rw [if_neg (by decide)] at hs ⊢
      rw [cutv_hi _ (by omega), cutv_hi _ (by omega)]
    · rw [if_pos rfl] at hs
      rw [if_pos rfl, if_neg (by decide), cutv_lo _ (by omega), cutv_lo _ (by omega)]
  · rw [if_neg c, IntKind.wrap_u64, IntKind.wrap_u64]
    have e1 : P / 18446744073709551616 * 4294967296 % 18446744073709551616 = P / 18446744073709551616 * 4294967296 := by omega
    rw [e1, or32 _ _ (by omega) (by omega) (by omega) (by omega), rcut_eq k _ _ _ (by omega) (by omega) (by omega)]
    simp only [Option.bind_some]
    congr 2
    cases s
    · rw [if_neg (by decide)] at hs ⊢
      omega
    · rw [if_pos rfl] at hs
      rw [if_pos rfl]
      by_cases z : P % 18446744073709551616 * 4294967296 % 18446744073709551616 = 0
      · rw [if_neg (by rw [z]; decide)]
        omega
      · rw [if_pos (by rw [bne_iff_ne]; exact z)]
        omega

theorem rsubf_eq (k : Nat) (a b : Int) (h0 : -9223372036854775808 ≤ a) (h1 : a ≤ 9223372036854775807) (h2 : -9223372036854775808 ≤ b) (h3 : b ≤ 9223372036854775807) (hk : 2 ≤ k) :
    analemmaref02_Sub.f k a b = some (cutv (a - b)) := by
  unfold analemmaref02_Sub.f
  by_cases p : a < 0
  · by_cases q : b < 0
    · rw [if_pos (by rw [decide_eq_true p, decide_eq_true q]; decide)]
      have : wrap64 (a - b) = a - b := by unfold wrap64; omega
      rw [this, cutv_mx _ (by omega)]
    · rw [if_neg (by rw [decide_eq_true p, decide_eq_false q]; decide), rsize_eq a h0 h1, rsize_eq b h2 h3]
      simp only [Option.bind_some]
      rw [if_pos p, if_neg q, IntKind.wrap_u64, if_neg (by omega), rcut_eq k _ _ _ (by omega) (by omega) hk]
      simp only [Option.bind_some]
      rw [if_pos (decide_eq_true p), if_neg (by decide)]
      congr 2
      omega
  · by_cases q : b < 0
    · rw [if_neg (by rw [decide_eq_false p, decide_eq_true q]; decide), rsize_eq a h0 h1, rsize_eq b h2 h3]
      simp only [Option.bind_some]
      rw [if_neg p, if_pos q, IntKind.wrap_u64, if_neg (by omega), rcut_eq k _ _ _ (by omega) (by omega) hk]
      simp only [Option.bind_some]
      rw [if_neg (by rw [decide_eq_false p]; decide)]
      congr 2
      omega
    · rw [if_pos (by rw [decide_eq_false p, decide_eq_false q]; decide)]
      have : wrap64 (a - b) = a - b := by unfold wrap64; omega
      rw [this, cutv_mx _ (by omega)]

theorem rsqrtf_eq (k : Nat) (a r : Int) (h1 : a ≤ 9223372036854775807) (hk : 140 ≤ k) (r0 : 0 ≤ r) (r1 : r ≤ 199032864766430) (r2 : r * r ≤ pos0 a * 4294967296) (r3 : pos0 a * 4294967296 < (r + 1) * (r + 1)) : analemmaref02_Sqrt.f k a = some r := by
  unfold analemmaref02_Sqrt.f
  by_cases c : a ≤ 0
  · rw [if_pos c]
    have e : pos0 a = 0 := by unfold pos0; split <;> omega
    rw [e] at r2 r3
    have := root_eq 0 r 0 r0 (by decide) (by omega) (by omega) (by decide) (by decide)
    rw [this]
  · rw [if_neg c, IntKind.wrap_u64, IntKind.wrap_u64]
    have e : pos0 a = a := by unfold pos0; rw [if_neg (by omega)]
    have e1 : a % 18446744073709551616 = a := by omega
    rw [e] at r2 r3
    rw [e1]
    obtain ⟨s, hs, s0, s1, s2, s3⟩ := rsqrt_eq k (a / 4294967296) (a * 4294967296 % 18446744073709551616) (by omega) (by omega) (by omega) (by omega) hk
    have e2 : a / 4294967296 * 18446744073709551616 + a * 4294967296 % 18446744073709551616 = a * 4294967296 := by omega
    rw [e2] at s2 s3
    have es : s = r := root_eq (a * 4294967296) s r s0 r0 s2 s3 r2 r3
    rw [hs, es]
    simp only [Option.bind_some]
    rw [rcut_eq k _ _ _ (by omega) (by omega) (by omega)]
    simp only [Option.bind_some]
    rw [if_neg (by decide), cutv_id _ (by omega) (by omega)]


def lsum (l : List Int) : Int := fix_Mean.psum l - fix_Mean.nsum l

theorem lsum_nil : lsum [] = 0 := rfl

theorem lsum_cons (x : Int) (l : List Int) : lsum (x :: l) = x + lsum l := by
  unfold lsum
  simp only [fix_Mean.psum, fix_Mean.nsum]
  split <;> omega

theorem lsum_ge (c : Int) (l : List Int) (h : ∀ x ∈ l, c ≤ x) : c * l.length ≤ lsum l := by
  induction l with
  | nil => simp [lsum_nil]
  | cons x xs ih =>
    have h1 := ih (fun y hy => h y (List.mem_cons_of_mem _ hy))
    have h2 := h x (List.mem_cons_self ..)
    rw [lsum_cons, List.length_cons]
    have e : c * ((xs.length + 1 : Nat) : Int) = c * xs.length + c := by
      rw [show ((xs.length + 1 : Nat) : Int) = (xs.length : Int) + 1 by omega, Int.mul_add, Int.mul_one]
    omega

theorem lsum_le (c : Int) (l : List Int) (h : ∀ x ∈ l, x ≤ c) : lsum l ≤ c * l.length := by
  induction l with
  | nil => simp [lsum_nil]
  | cons x xs ih =>
    have h1 := ih (fun y hy => h y (List.mem_cons_of_mem _ hy))
    have h2 := h x (List.mem_cons_self ..)
    rw [lsum_cons, List.length_cons]
    have e : c * ((xs.length + 1 : Nat) : Int) = c * xs.length + c := by
      rw [show ((xs.length + 1 : Nat) : Int) = (xs.length : Int) + 1 by omega, Int.mul_add, Int.mul_one]
    omega

theorem neg_floor (D n : Int) (hn : 0 < n) : -D / n = if D % n > 0 then -(D / n) - 1 else -(D / n) := by
  have e := Int.mul_ediv_add_emod D n
  have m0 := Int.emod_nonneg D (b := n) (by omega)
  have m1 := Int.emod_lt_of_pos D hn
  obtain ⟨q, hq⟩ : ∃ q, D / n = q := ⟨_, rfl⟩
  obtain ⟨r, hr⟩ : ∃ r, D % n = r := ⟨_, rfl⟩
  rw [hq, hr] at e ⊢
  rw [hr] at m0 m1
  rw [Int.mul_comm] at e
  by_cases w : r > 0
  · rw [if_pos w]
    have e2 : -D = (n - r) + (-q - 1) * n := by
      rw [Int.sub_mul, Int.neg_mul]
      omega
    rw [e2, Int.add_mul_ediv_right _ _ (by omega), Int.ediv_eq_zero_of_lt (by omega) (by omega)]
    omega
  · rw [if_neg w]
    have e2 : -D = 0 + (-q) * n := by
      rw [Int.neg_mul]
      omega
    rw [e2, Int.add_mul_ediv_right _ _ (by omega), Int.zero_ediv]
    omega

theorem in_all (l : List Int) (h : ∀ x ∈ l, -9223372036854775808 ≤ x ∧ x ≤ 9223372036854775807) : l.all fix_Mean.In = true := by
  rw [List.all_eq_true]
  intro x hx
  have := h x hx
  unfold fix_Mean.In
  rw [Bool.and_eq_true, decide_eq_true_iff, decide_eq_true_iff]
  exact this

theorem mean_nil : fix_Mean.f [] = some 0 := rfl

theorem mean_eq (l : List Int) (h0 : l ≠ []) (h : ∀ x ∈ l, -9223372036854775808 ≤ x ∧ x ≤ 9223372036854775807) (hl : l.length ≤ 17592186044416) : fix_Mean.f l = some (cutv (lsum l / l.length)) := by
  have hne : l.length ≠ 0 := by
    intro e
    exact h0 (List.eq_nil_of_length_eq_zero e)
  have b := fix_Mean.bd l (in_all l h)
  unfold fix_Mean.f
  rw [if_neg hne, if_pos ⟨in_all l h, hl⟩]
  unfold fix_Mean.fin lsum
  obtain ⟨p, hp⟩ : ∃ p, fix_Mean.psum l = p := ⟨_, rfl⟩
  obtain ⟨n, hn⟩ : ∃ n, fix_Mean.nsum l = n := ⟨_, rfl⟩
  obtain ⟨len, hlen⟩ : ∃ len : Int, (l.length : Int) = len := ⟨_, rfl⟩
  rw [hp, hn, hlen] at b ⊢
  have lp : 0 < len := by omega
  by_cases c : p < n
  · have q0 : 0 ≤ (n - p) / len := Int.ediv_nonneg (by omega) (by omega)
    have q1 : (n - p) / len < 18446744073709551616 := Int.ediv_lt_of_lt_mul lp (by omega)
    rw [if_pos c, cut_eq _ _ _ q0 (by omega), if_pos rfl]
    have e := neg_floor (n - p) len lp
    rw [show p - n = -(n - p) by omega, e]
  · have q0 : 0 ≤ (p - n) / len := Int.ediv_nonneg (by omega) (by omega)
    have q1 : (p - n) / len < 18446744073709551616 := Int.ediv_lt_of_lt_mul lp (by omega)
    rw [if_neg c, cut_eq _ _ _ q0 (by omega), if_neg (by decide)]

theorem mean_bd (lo hi : Int) (l : List Int) (h0 : l ≠ []) (h : ∀ x ∈ l, lo ≤ x ∧ x ≤ hi) : lo ≤ lsum l / l.length ∧ lsum l / l.length ≤ hi := by
  have hne : l.length ≠ 0 := by
    intro e
    exact h0 (List.eq_nil_of_length_eq_zero e)
  have a := lsum_ge lo l (fun x hx => (h x hx).1)
  have b := lsum_le hi l (fun x hx => (h x hx).2)
  refine ⟨Int.le_ediv_of_mul_le (by omega) a, ?_⟩
  have : lsum l / l.length < hi + 1 := Int.ediv_lt_of_lt_mul (by omega) (by rw [Int.add_mul, Int.one_mul]; omega)
  omega

theorem rd_mem (l : List Int) (i : Int) (h0 : 0 ≤ i) (h1 : i < l.length) : rd l i ∈ l := by
  unfold rd
  have e : l.getD i.toNat 0 = l[i.toNat]'(by omega) := by
    simp [List.getD, show i.toNat < l.length by omega]
  rw [e]
  exact List.getElem_mem _

theorem tdiv_cases (x n : Int) (hn : 0 < n) : (Int.tmod x n < 0 → Int.tdiv x n = x / n + 1 ∧ Int.tmod x n = x % n - n) ∧ (¬ Int.tmod x n < 0 → Int.tdiv x n = x / n ∧ Int.tmod x n = x % n) := by
  have e1 := Int.mul_tdiv_add_tmod x n
  have e2 := Int.mul_ediv_add_emod x n
  have m0 := Int.emod_nonneg x (show n ≠ 0 by omega)
  have m1 := Int.emod_lt_of_pos x hn
  have t1 : Int.tmod x n < n := Int.tmod_lt_of_pos x hn
  have t0 : -n < Int.tmod x n := by
    by_cases h : 0 ≤ x
    · have := Int.tmod_nonneg n h
      omega
    · have h1 := Int.tmod_lt_of_pos (-x) hn
      rw [Int.neg_tmod] at h1
      omega
  have key : n * (Int.tdiv x n - x / n) = x % n - Int.tmod x n := by
    rw [Int.mul_sub]
    omega
  constructor
  · intro h
    have : Int.tdiv x n - x / n = 1 := by
      have lo : 0 < n * (Int.tdiv x n - x / n) := by omega
      have hi : n * (Int.tdiv x n - x / n) < n * 2 := by omega
      have a1 := Int.lt_of_mul_lt_mul_left (show n * 0 < n * (Int.tdiv x n - x / n) by omega) (by omega)
      have a2 := Int.lt_of_mul_lt_mul_left hi (by omega)
      omega
    rw [this] at key
    omega
  · intro h
    have : Int.tdiv x n - x / n = 0 := by
      have lo : n * (-1) < n * (Int.tdiv x n - x / n) := by omega
      have hi : n * (Int.tdiv x n - x / n) < n * 1 := by omega
      have a1 := Int.lt_of_mul_lt_mul_left lo (by omega)
      have a2 := Int.lt_of_mul_lt_mul_left hi (by omega)
      omega
    rw [this] at key
    omega

def qsum (n : Int) : List Int → Int
  | [] => 0
  | x :: xs => x / n + qsum n xs
def rsum (n : Int) : List Int → Int
  | [] => 0
  | x :: xs => x % n + rsum n xs

theorem qr_sum (n : Int) (l : List Int) : lsum l = n * qsum n l + rsum n l := by
  induction l with
  | nil => simp [qsum, rsum, lsum_nil]
  | cons x xs ih =>
    rw [lsum_cons, ih]
    simp only [qsum, rsum]
    have := Int.mul_ediv_add_emod x n
    rw [Int.mul_add]
    omega

theorem rsum_bd (n : Int) (hn : 0 < n) (l : List Int) : 0 ≤ rsum n l ∧ rsum n l ≤ n * l.length := by
  induction l with
  | nil => simp [rsum]
  | cons x xs ih =>
    simp only [rsum, List.length_cons]
    have m0 := Int.emod_nonneg x (show n ≠ 0 by omega)
    have m1 := Int.emod_lt_of_pos x hn
    have e : n * ((xs.length + 1 : Nat) : Int) = n * xs.length + n := by rw [Int.natCast_add, Int.mul_add]; simp
    rw [e]
    omega

theorem w_add (a b : Int) : wrap64 (wrap64 a + b) = wrap64 (a + b) := by unfold wrap64; omega

theorem drop_cons (l : List Int) (j : Nat) (h : j < l.length) : l.drop j = rd l (j : Int) :: l.drop (j + 1) := by
  rw [List.drop_eq_getElem_cons h]
  congr 1
  unfold rd
  rw [Int.toNat_natCast]
  simp [h]

theorem rmean_l0 (l : List Int) (h : ∀ x ∈ l, -9223372036854775808 ≤ x ∧ x ≤ 9223372036854775807) (n : Int) (hn : n = l.length) (h0 : 0 < n) (hl : l.length ≤ 1000000) (d : Nat) :
    ∀ (k j : Nat) (a b : Int), j + d = l.length → d + 1 ≤ k → 0 ≤ b → b ≤ n * j →
    analemmaref02_Mean.l0 k l n (wrap64 a) b j = some (mx (wrap64 (a + qsum n (l.drop j) + (b + rsum n (l.drop j)) / n)) (-9223372036854775807)) := by
  induction d with
  | zero =>
    intro k j a b hj hk hb0 hb1
    obtain ⟨k, rfl⟩ : ∃ q, k = q + 1 := ⟨k - 1, by omega⟩
    have hjn : n * (j : Int) ≤ 1000000000000 := by
      have : n * (j : Int) ≤ 1000000 * 1000000 := Int.mul_le_mul (by omega) (by omega) (by omega) (by omega)
      omega
    simp only [analemmaref02_Mean.l0]
    rw [if_neg (by omega), if_neg (by omega), List.drop_of_length_le (by omega)]
    simp only [qsum, rsum, Int.add_zero]
    have hq : 0 ≤ b / n := Int.ediv_nonneg hb0 (by omega)
    have hq2 : b / n ≤ b := Int.ediv_le_self _ hb0
    rw [Int.tdiv_eq_ediv_of_nonneg hb0, show wrap64 (b / n) = b / n by unfold wrap64; omega, w_add]
  | succ d ih =>
    intro k j a b hj hk hb0 hb1
    obtain ⟨k, rfl⟩ : ∃ q, k = q + 1 := ⟨k - 1, by omega⟩
    have hx := h (rd l j) (rd_mem l j (by omega) (by omega))
    have ej : wrap64 ((j : Int) + 1) = ((j + 1 : Nat) : Int) := by unfold wrap64; omega
    have hjn : n * (j : Int) ≤ 1000000000000 := by
      have : n * (j : Int) ≤ 1000000 * 1000000 := Int.mul_le_mul (by omega) (by omega) (by omega) (by omega)
      omega
    have hjs : n * ((j + 1 : Nat) : Int) = n * j + n := by rw [Int.natCast_add, Int.mul_add]; simp
    have tc := tdiv_cases (rd l j) n h0
    have e1 := Int.mul_tdiv_add_tmod (rd l j) n
    have m0 := Int.emod_nonneg (rd l j) (show n ≠ 0 by omega)
    have m1 := Int.emod_lt_of_pos (rd l j) h0
    have q0 : -9223372036854775808 ≤ Int.tdiv (rd l j) n := by
      rcases Int.le_total 0 (rd l j) with s | s
      · have := Int.tdiv_nonneg s (show 0 ≤ n by omega)
        omega
      · have e : Int.tdiv (rd l j) n = -(Int.tdiv (-(rd l j)) n) := by rw [Int.neg_tdiv]; omega
        have := Int.tdiv_le_self n (show 0 ≤ -(rd l j) by omega)
        omega
    have q1 : Int.tdiv (rd l j) n ≤ 9223372036854775807 := by
      rcases Int.le_total 0 (rd l j) with s | s
      · have := Int.tdiv_le_self n s
        omega
      · have e : Int.tdiv (rd l j) n = -(Int.tdiv (-(rd l j)) n) := by rw [Int.neg_tdiv]; omega
        have := Int.tdiv_nonneg (show 0 ≤ -(rd l j) by omega) (show 0 ≤ n by omega)
        omega
    have em : wrap64 (rd l j - wrap64 (wrap64 (Int.tdiv (rd l j) n) * n)) = Int.tmod (rd l j) n := by
      rw [show wrap64 (Int.tdiv (rd l j) n) = Int.tdiv (rd l j) n by unfold wrap64; omega, Int.mul_comm (Int.tdiv (rd l j) n) n]
      have t1 : Int.tmod (rd l j) n < n ∧ -n ≤ Int.tmod (rd l j) n := by
        by_cases s : Int.tmod (rd l j) n < 0
        · have := (tc.1 s).2; omega
        · have := (tc.2 s).2; omega
      obtain ⟨p, hp⟩ : ∃ p, n * Int.tdiv (rd l j) n = p := ⟨_, rfl⟩
      rw [hp] at e1 ⊢
      unfold wrap64
      omega
    have e2 := Int.mul_ediv_add_emod (rd l j) n
    have f0 : -9223372036854775808 ≤ rd l j / n := by
      refine Int.not_lt.mp fun hc => ?_
      have := Int.mul_le_mul_of_nonneg_left (show rd l j / n ≤ -9223372036854775809 by omega) (show 0 ≤ n by omega)
      omega
    have f1 : rd l j / n ≤ 9223372036854775807 := by
      refine Int.not_lt.mp fun hc => ?_
      have := Int.mul_le_mul_of_nonneg_left (show 9223372036854775808 ≤ rd l j / n by omega) (show 0 ≤ n by omega)
      omega
    have eq : wrap64 (Int.tdiv (rd l j) n) = Int.tdiv (rd l j) n := by unfold wrap64; omega
    simp only [analemmaref02_Mean.l0]
    rw [if_pos (by omega), if_pos (by omega), if_neg (by omega), em, eq, drop_cons l j (by omega)]
    simp only [qsum, rsum]
    by_cases s : Int.tmod (rd l j) n < 0
    · have t1 := (tc.1 s).1
      have t2 := (tc.1 s).2
      rw [if_pos s, t1, t2, ej, show wrap64 (rd l j / n + 1 - 1) = rd l j / n by rw [Int.add_sub_cancel]; unfold wrap64; omega, show wrap64 (rd l j % n - n + n) = rd l j % n by unfold wrap64; omega,
        w_add, show wrap64 (b + rd l j % n) = b + rd l j % n by unfold wrap64; omega, ih k (j + 1) (a + rd l j / n) (b + rd l j % n) (by omega) (by omega) (by omega) (by omega),
        show a + rd l j / n + qsum n (l.drop (j + 1)) = a + (rd l j / n + qsum n (l.drop (j + 1))) by omega, show b + rd l j % n + rsum n (l.drop (j + 1)) = b + (rd l j % n + rsum n (l.drop (j + 1))) by omega]
    · rw [if_neg s, (tc.2 s).1, (tc.2 s).2, ej, w_add, show wrap64 (b + rd l j % n) = b + rd l j % n by unfold wrap64; omega, ih k (j + 1) (a + rd l j / n) (b + rd l j % n) (by omega) (by omega) (by omega) (by omega),
        show a + rd l j / n + qsum n (l.drop (j + 1)) = a + (rd l j / n + qsum n (l.drop (j + 1))) by omega, show b + rd l j % n + rsum n (l.drop (j + 1)) = b + (rd l j % n + rsum n (l.drop (j + 1))) by omega]

theorem rmean_eq (k : Nat) (l : List Int) (h0 : l ≠ []) (h : ∀ x ∈ l, -9223372036854775808 ≤ x ∧ x ≤ 9223372036854775807) (hl : l.length ≤ 1000000) (hk : l.length + 1 ≤ k) : analemmaref02_Mean.f k l = some (cutv (lsum l / l.length)) := by
  have hp : 0 < l.length := List.length_pos_iff.2 h0
  unfold analemmaref02_Mean.f
  rw [if_neg (by omega)]
  have e := rmean_l0 l h l.length rfl (by omega) hl l.length k 0 0 0 (by omega) (by omega) (by omega) (by simp)
  rw [show wrap64 0 = 0 from by unfold wrap64; omega] at e
  refine e.trans ?_
  rw [List.drop_zero, Int.zero_add, Int.zero_add]
  have b := mean_bd _ _ l h0 h
  have r := rsum_bd l.length (by omega) l
  have key : lsum l / l.length = qsum l.length l + rsum l.length l / l.length := by
    rw [qr_sum l.length l, Int.mul_add_ediv_left _ _ (by omega)]
  rw [← key, show wrap64 (lsum l / l.length) = lsum l / l.length by unfold wrap64; omega, cutv_mx _ b.2]

theorem rmean_nil (k : Nat) : analemmaref02_Mean.f k [] = some 0 := rfl

def rootv (a : Int) : Int := (fix_Sqrt.f 65 a).getD 0

theorem sqrt_v (k : Nat) (a : Int) (h0 : -9223372036854775808 ≤ a) (h1 : a ≤ 9223372036854775807) (hk : 65 ≤ k) :
    fix_Sqrt.f k a = some (rootv a) ∧ 0 ≤ rootv a ∧ rootv a ≤ 199032864766430 ∧ rootv a * rootv a ≤ pos0 a * 4294967296 ∧ pos0 a * 4294967296 < (rootv a + 1) * (rootv a + 1) := by
  obtain ⟨r, e, r0, r1, r2, r3⟩ := sqrtf_eq k a h0 h1 hk
  obtain ⟨s, f, s0, s1, s2, s3⟩ := sqrtf_eq 65 a h0 h1 (by omega)
  have es : rootv a = s := by
    unfold rootv
    rw [f]
    rfl
  have er : r = s := root_eq _ r s r0 s0 r2 r3 s2 s3
  rw [es, ← er]
  exact ⟨e, r0, r1, r2, r3⟩

def sqs (l : List Int) : List Int := l.map fun x => mulv x x
def meanv (l : List Int) : Int := if l = [] then 0 else cutv (lsum l / l.length)
def rootm (l : List Int) : Int := rootv (meanv (sqs l))

theorem sqs_bd (l : List Int) : ∀ x ∈ sqs l, -9223372036854775808 ≤ x ∧ x ≤ 9223372036854775807 := by
  intro x hx
  unfold sqs at hx
  obtain ⟨y, _, rfl⟩ := List.mem_map.1 hx
  have := mulv_bd y y
  omega

theorem meanv_bd (l : List Int) : -9223372036854775807 ≤ meanv l ∧ meanv l ≤ 9223372036854775807 := by
  unfold meanv
  split
  · omega
  · exact cutv_bd _

theorem mean_v (l : List Int) (h : ∀ x ∈ l, -9223372036854775808 ≤ x ∧ x ≤ 9223372036854775807) (hl : l.length ≤ 17592186044416) : fix_Mean.f l = some (meanv l) := by
  unfold meanv
  split
  · rename_i e
    rw [e]
    rfl
  · rename_i e
    exact mean_eq l e h hl

theorem sqs_snoc (l : List Int) (j : Nat) (h : j < l.length) : sqs (l.take j) ++ [mulv (rd l (j : Int)) (rd l (j : Int))] = sqs (l.take (j + 1)) := by
  unfold sqs
  rw [List.take_succ_eq_append_getElem h, List.map_append]
  congr 1
  unfold rd
  rw [Int.toNat_natCast]
  simp [h]

theorem sqs_length (l : List Int) : (sqs l).length = l.length := List.length_map _

theorem root_l0 (l : List Int) (h : ∀ x ∈ l, -9223372036854775808 ≤ x ∧ x ≤ 9223372036854775807) (hl : l.length ≤ 1000000) (d : Nat) : ∀ (k j : Nat), j + d = l.length → d + 66 ≤ k →
    fix_Root.l0 k l (sqs (l.take j)) j = some (rootm l) := by
  induction d with
  | zero =>
    intro k j hj hk
    obtain ⟨k, rfl⟩ : ∃ q, k = q + 1 := ⟨k - 1, by omega⟩
    have hm := meanv_bd (sqs l)
    simp only [fix_Root.l0]
    rw [if_neg (by omega), List.take_of_length_le (by omega), mean_v _ (sqs_bd l) (by rw [sqs_length]; omega)]
    simp only [Option.bind_some]
    rw [(sqrt_v k (meanv (sqs l)) (by omega) (by omega) (by omega)).1]
    rfl
  | succ d ih =>
    intro k j hj hk
    obtain ⟨k, rfl⟩ : ∃ q, k = q + 1 := ⟨k - 1, by omega⟩
    have hx := h (rd l j) (rd_mem l j (by omega) (by omega))
    have ej : wrap64 ((j : Int) + 1) = ((j + 1 : Nat) : Int) := by unfold wrap64; omega
    simp only [fix_Root.l0]
    rw [if_pos (by omega), if_pos (by omega), mulf_eq _ _ hx.1 hx.2 hx.1 hx.2]
    simp only [Option.bind_some]
    rw [if_pos (by rw [sqs_length, List.length_take]; omega), ej, sqs_snoc l j (by omega), ih k (j + 1) (by omega) (by omega)]

theorem root_v (k : Nat) (l : List Int) (h : ∀ x ∈ l, -9223372036854775808 ≤ x ∧ x ≤ 9223372036854775807) (hl : l.length ≤ 1000000) (hk : l.length + 66 ≤ k) : fix_Root.f k l = some (rootm l) := by
  have := root_l0 l h hl l.length k 0 (by omega) (by omega)
  exact this

theorem rootm_bd (l : List Int) : 0 ≤ rootm l ∧ rootm l ≤ 199032864766430 := by
  have hm := meanv_bd (sqs l)
  have := sqrt_v 65 (meanv (sqs l)) (by omega) (by omega) (by omega)
  exact ⟨this.2.1, this.2.2.1⟩

theorem rmean_v (k : Nat) (l : List Int) (h : ∀ x ∈ l, -9223372036854775808 ≤ x ∧ x ≤ 9223372036854775807) (hl : l.length ≤ 1000000) (hk : l.length + 1 ≤ k) : analemmaref02_Mean.f k l = some (meanv l) := by
  unfold meanv
  split
  · rename_i e
    rw [e]
    rfl
  · rename_i e
    exact rmean_eq k l e h hl hk

theorem rsqrt_v (k : Nat) (a : Int) (h0 : -9223372036854775808 ≤ a) (h1 : a ≤ 9223372036854775807) (hk : 140 ≤ k) : analemmaref02_Sqrt.f k a = some (rootv a) := by
  obtain ⟨_, r0, r1, r2, r3⟩ := sqrt_v 65 a h0 h1 (by omega)
  exact rsqrtf_eq k a _ h1 hk r0 r1 r2 r3

theorem rroot_l0 (l : List Int) (h : ∀ x ∈ l, -9223372036854775808 ≤ x ∧ x ≤ 9223372036854775807) (hl : l.length ≤ 1000000) (d : Nat) : ∀ (k j : Nat), j + d = l.length → d + l.length + 150 ≤ k →
    analemmaref02_Root.l0 k l (sqs (l.take j)) j = some (rootm l) := by
  induction d with
  | zero =>
    intro k j hj hk
    obtain ⟨k, rfl⟩ : ∃ q, k = q + 1 := ⟨k - 1, by omega⟩
    have hm := meanv_bd (sqs l)
    simp only [analemmaref02_Root.l0]
    rw [if_neg (by omega), List.take_of_length_le (by omega), rmean_v k _ (sqs_bd l) (by rw [sqs_length]; omega) (by rw [sqs_length]; omega)]
    simp only [Option.bind_some]
    rw [rsqrt_v k (meanv (sqs l)) (by omega) (by omega) (by omega)]
    rfl
  | succ d ih =>
    intro k j hj hk
    obtain ⟨k, rfl⟩ : ∃ q, k = q + 1 := ⟨k - 1, by omega⟩
    have hx := h (rd l j) (rd_mem l j (by omega) (by omega))
    have ej : wrap64 ((j : Int) + 1) = ((j + 1 : Nat) : Int) := by unfold wrap64; omega
    simp only [analemmaref02_Root.l0]
    rw [if_pos (by omega), if_pos (by omega), rmulf_eq k _ _ hx.1 hx.2 hx.1 hx.2 (by omega)]
    simp only [Option.bind_some]
    rw [if_pos (by rw [sqs_length, List.length_take]; omega), ej, sqs_snoc l j (by omega), ih k (j + 1) (by omega) (by omega)]

theorem rroot_v (k : Nat) (l : List Int) (h : ∀ x ∈ l, -9223372036854775808 ≤ x ∧ x ≤ 9223372036854775807) (hl : l.length ≤ 1000000) (hk : 2 * l.length + 150 ≤ k) : analemmaref02_Root.f k l = some (rootm l) := by
  have := rroot_l0 l h hl l.length k 0 (by omega) (by omega)
  exact this


end Go.Proofs.Ytoddgpaopejeoaa.Pure
