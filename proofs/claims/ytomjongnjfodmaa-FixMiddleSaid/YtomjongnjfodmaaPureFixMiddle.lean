/- The statement over numbers and lists that is left of the law FixMiddle -/
import Derived.Test.YtomjongnjfodmaaMFixMiddlex0
import Derived.Test.YtomjongnjfodmaaMFixMiddlex1
import Derived.Test.YtomjongnjfodmaaMFixMiddlex2
import Derived.Test.YtomjongnjfodmaaMFixMiddlex3
import Derived.OpenShut
import Derived.Laws.Bits64
import Derived.Laws.BitsLemmas
namespace Go.Proofs.Ytomjongnjfodmaa.Pure
open Go.RowKit Go.Proofs.Ytomjongnjfodmaa.MFixMiddle Go.Proofs.YtomjongnjfodmaaW.PrintWords Go.Proofs.YtomjongnjfodmaaW.PrintLast Go.Proofs.YtomjongnjfodmaaW.PrintMore
set_option linter.unusedVariables false
set_option linter.unusedSimpArgs false

def cutv (x : Int) : Int := if x < -9223372036854775807 then -9223372036854775807 else if x > 9223372036854775807 then 9223372036854775807 else x

theorem cutv_bd (x : Int) : -9223372036854775807 ≤ cutv x ∧ cutv x ≤ 9223372036854775807 := by
  unfold cutv
  split
  · omega
  · split <;> omega

theorem cutv_id (x : Int) (h0 : -9223372036854775807 ≤ x) (h1 : x ≤ 9223372036854775807) : cutv x = x := by
  unfold cutv
  rw [if_neg (by omega), if_neg (by omega)]

theorem cutv_hi (x : Int) (h : 9223372036854775807 ≤ x) : cutv x = 9223372036854775807 := by
  unfold cutv
  split
  · omega
  · split <;> omega

theorem cutv_lo (x : Int) (h : x ≤ -9223372036854775807) : cutv x = -9223372036854775807 := by
  unfold cutv
  split
  · omega
  · split <;> omega

theorem cutv_mono (x y : Int) (h : x ≤ y) : cutv x ≤ cutv y := by
  unfold cutv
  (repeat' split) <;> omega

theorem cutv_mx (x : Int) (h1 : x ≤ 9223372036854775807) : mx x (-9223372036854775807) = cutv x := by
  unfold cutv mx
  (repeat' split) <;> omega

theorem pow2_pos (n : Nat) : (0 : Int) < 2 ^ n := Int.pow_pos (by decide)

theorem pow2_mono (m n : Nat) (h : m ≤ n) : (2 : Int) ^ m ≤ 2 ^ n := by
  have h1 : (2 : Nat) ^ m ≤ 2 ^ n := Nat.pow_le_pow_right (by decide) h
  have h2 : ((2 : Int) ^ m) = ((2 ^ m : Nat) : Int) := by simp
  have h3 : ((2 : Int) ^ n) = ((2 ^ n : Nat) : Int) := by simp
  rw [h2, h3]
  exact_mod_cast h1

theorem pow2_succ (n : Nat) : (2 : Int) ^ (n + 1) = 2 * 2 ^ n := by rw [Int.pow_succ]; omega

theorem mul_le_left (a b c : Int) (hc : 0 ≤ c) (h : a ≤ b) : a * c ≤ b * c := Int.mul_le_mul_of_nonneg_right h hc

theorem div_far (a b : Int) (hb : 9223372036854775808 ≤ b) (h0 : -9223372036854775808 ≤ a) (h1 : a ≤ 9223372036854775807) : a / b = if a < 0 then -1 else 0 := by
  by_cases c : a < 0
  · rw [if_pos c]
    have h2 : -1 ≤ a / b := Int.le_ediv_of_mul_le (by omega) (by omega)
    have h3 : a / b < 0 := Int.ediv_lt_of_lt_mul (by omega) (by omega)
    omega
  · rw [if_neg c]
    exact Int.ediv_eq_zero_of_lt (by omega) (by omega)

theorem mul_eq (a b : Int) (h0 : 0 ≤ a) (h1 : a ≤ 18446744073709551615) (h2 : 0 ≤ b) (h3 : b ≤ 18446744073709551615) : wide_Mul.f a b = some (a * b / 18446744073709551616, a * b % 18446744073709551616) := by
  unfold wide_Mul.f
  rw [if_pos ⟨h0, h1, h2, h3⟩]

theorem mul_bd (a b : Int) (h0 : 0 ≤ a) (h1 : a ≤ 18446744073709551615) (h2 : 0 ≤ b) (h3 : b ≤ 18446744073709551615) : 0 ≤ a * b ∧ a * b ≤ 18446744073709551615 * 18446744073709551615 := by
  have e0 := Int.mul_nonneg h0 h2
  have e1 : a * b ≤ 18446744073709551615 * b := Int.mul_le_mul_of_nonneg_right h1 h2
  omega

theorem div_no (hi lo d : Int) (h0 : 0 ≤ hi) (h1 : hi ≤ 18446744073709551615) (h2 : 0 ≤ lo) (h3 : lo ≤ 18446744073709551615) (h4 : 0 ≤ d) (h5 : d ≤ 18446744073709551615) (c : hi ≥ d) : wide_Div.f hi lo d = some (0, 0, false) := by
  unfold wide_Div.f
  rw [if_pos ⟨h0, h1, h2, h3, h4, h5⟩, if_pos c]

theorem div_yes (hi lo d : Int) (h0 : 0 ≤ hi) (h2 : 0 ≤ lo) (h3 : lo ≤ 18446744073709551615) (h5 : d ≤ 18446744073709551615) (c : hi < d) : wide_Div.f hi lo d = some ((hi * 18446744073709551616 + lo) / d, (hi * 18446744073709551616 + lo) % d, true) := by
  unfold wide_Div.f
  rw [if_pos ⟨h0, by omega, h2, h3, by omega, h5⟩, if_neg (by omega)]

theorem quot_bd (hi lo d : Int) (h0 : 0 ≤ hi) (h2 : 0 ≤ lo) (h3 : lo ≤ 18446744073709551615) (c : hi < d) : 0 ≤ (hi * 18446744073709551616 + lo) / d ∧ (hi * 18446744073709551616 + lo) / d ≤ 18446744073709551615 ∧ 0 ≤ (hi * 18446744073709551616 + lo) % d ∧ (hi * 18446744073709551616 + lo) % d < d := by
  refine ⟨Int.ediv_nonneg (by omega) (by omega), ?_, Int.emod_nonneg _ (by omega), Int.emod_lt_of_pos _ (by omega)⟩
  have : (hi * 18446744073709551616 + lo) / d < 18446744073709551616 := Int.ediv_lt_of_lt_mul (by omega) (by omega)
  omega

theorem less_eq (ah al bh bl : Int) (h2 : 0 ≤ al) (h3 : al ≤ 18446744073709551615) (h6 : 0 ≤ bl) (h7 : bl ≤ 18446744073709551615) :
    wide_Less.f ah al bh bl = some (decide (ah * 18446744073709551616 + al < bh * 18446744073709551616 + bl)) := by
  unfold wide_Less.f
  by_cases c : ah = bh
  · rw [if_pos c]
    congr 1
    rw [Bool.eq_iff_iff, decide_eq_true_iff, decide_eq_true_iff]
    omega
  · rw [if_neg c]
    congr 1
    rw [Bool.eq_iff_iff, decide_eq_true_iff, decide_eq_true_iff]
    omega

theorem minus_eq (ah al bh bl : Int) (h0 : 0 ≤ ah) (h1 : ah ≤ 18446744073709551615) (h2 : 0 ≤ al) (h3 : al ≤ 18446744073709551615) (h4 : 0 ≤ bh) (h6 : 0 ≤ bl) (h7 : bl ≤ 18446744073709551615) (c : bh * 18446744073709551616 + bl ≤ ah * 18446744073709551616 + al) :
    wide_minus.f ah al bh bl = some ((ah * 18446744073709551616 + al - (bh * 18446744073709551616 + bl)) / 18446744073709551616, (ah * 18446744073709551616 + al - (bh * 18446744073709551616 + bl)) % 18446744073709551616) := by
  unfold wide_minus.f
  simp only [IntKind.wrap_u64]
  by_cases d : al < bl
  · rw [if_pos d]
    congr 2 <;> omega
  · rw [if_neg d]
    congr 2 <;> omega

theorem or_low (x y : Int) (i : Nat) (hi : i ≤ 63) (h0 : 0 ≤ x) (h1 : x ≤ 18446744073709551615) (h2 : x % 2 ^ i = 0) (h3 : 0 ≤ y) (h4 : y < 2 ^ i) : Go.bits .or .u64 x y = x + y := by
  have hp : (2 : Int) ^ i ≤ 2 ^ 63 := by
    have h1 : (2 : Nat) ^ i ≤ 2 ^ 63 := Nat.pow_le_pow_right (by decide) hi
    have h2 : ((2 : Int) ^ i) = ((2 ^ i : Nat) : Int) := by simp
    have h3 : ((2 : Int) ^ 63) = ((2 ^ 63 : Nat) : Int) := by simp
    rw [h2, h3]
    exact_mod_cast h1
  have e : (2 : Int) ^ 63 = 9223372036854775808 := by decide
  exact bits_join .u64 64 (by decide) (fun n q0 q1 => by rw [IntKind.wrap_u64]; omega) i _ _ h0 h2 (by omega) h3 h4 (by omega)

theorem mul4 (a b c d : Int) : a * b * (c * d) = a * c * (b * d) := by rw [Int.mul_assoc, Int.mul_assoc, Int.mul_left_comm b]

theorem sqrt_round (n s rem cur T : Int) (hs : n * n = s) : 2 * n * (2 * n) = 4 * s ∧ (2 * n + 1) * (2 * n + 1) = 4 * s + 4 * n + 1 := by
  have e : 2 * n * (2 * n) = 4 * s := by
    rw [mul4, hs]
    omega
  refine ⟨e, ?_⟩
  rw [Int.add_mul, Int.mul_add, e]
  omega

theorem sqrt_l0 (N : Int) (hN0 : 0 ≤ N) (hN1 : N < 340282366920938463463374607431768211456) (d : Nat) : ∀ (k : Nat) (hi lo n lh ll i T s : Int), i + d = 64 → 0 ≤ i → d < k →
    0 ≤ hi → hi ≤ 18446744073709551615 → 0 ≤ lo → lo ≤ 18446744073709551615 → 0 ≤ n → 0 ≤ lh → 0 ≤ ll → ll ≤ 18446744073709551615 →
    n * n = s → lh * 18446744073709551616 + ll ≤ 2 * n →
    (n + 1) * 2 ^ d ≤ 18446744073709551616 →
    T = (s + (lh * 18446744073709551616 + ll)) * 340282366920938463463374607431768211456 + (hi * 18446744073709551616 + lo) →
    T * 4 ^ d = N * 340282366920938463463374607431768211456 →
    ∃ r, wide_Sqrt.l0 k hi lo n lh ll i = some r ∧ 0 ≤ r ∧ r ≤ 18446744073709551615 ∧ r * r ≤ N ∧ N < (r + 1) * (r + 1) := by
  induction d with
  | zero =>
    intro k hi lo n lh ll i T s hid hi0 hk b0 b1 b2 b3 b4 b7 b9 b10 hs hrem hb hT hTN
    obtain ⟨k, rfl⟩ : ∃ j, k = j + 1 := ⟨k - 1, by omega⟩
    have t0 : T * 4 ^ 0 = T := by rw [show (4 : Int) ^ 0 = 1 from rfl]; omega
    have n0 : (n + 1) * 2 ^ 0 = n + 1 := by rw [show (2 : Int) ^ 0 = 1 from rfl]; omega
    refine ⟨n, ?_, b4, by omega, ?_, ?_⟩
    · simp only [wide_Sqrt.l0]
      rw [if_neg (by omega)]
    · rw [hs]
      omega
    · have e : (n + 1) * (n + 1) = s + 2 * n + 1 := by
        rw [Int.add_mul, Int.mul_add, hs]
        omega
      rw [e]
      omega
  | succ d ih =>
    intro k hi lo n lh ll i T s hid hi0 hk b0 b1 b2 b3 b4 b7 b9 b10 hs hrem hb hT hTN
    obtain ⟨k, rfl⟩ : ∃ j, k = j + 1 := ⟨k - 1, by omega⟩
    have hp : (0 : Int) < 2 ^ d := Int.pow_pos (by decide)
    have hb2 : (2 * n + 1 + 1) * 2 ^ d ≤ 18446744073709551616 := by
      have e : (2 * n + 1 + 1) * 2 ^ d = (n + 1) * 2 ^ (d + 1) := by
        rw [Int.pow_succ, Int.mul_comm (2 ^ d) 2, ← Int.mul_assoc]
        congr 1
        omega
      rw [e]
      exact hb
    have hb1 : (2 * n + 1) * 2 ^ d ≤ 18446744073709551616 := by
      have : (2 * n + 1 + 1) * 2 ^ d = (2 * n + 1) * 2 ^ d + 2 ^ d := by rw [Int.add_mul, Int.one_mul]
      omega
    have hn : n ≤ 9223372036854775807 := by
      have h1 : (2 * n + 1 + 1) * 1 ≤ (2 * n + 1 + 1) * 2 ^ d := Int.mul_le_mul_of_nonneg_left (by omega) (by omega)
      omega
    simp only [wide_Sqrt.l0, IntKind.wrap_u64]
    rw [if_pos (by omega)]
    have o1 : Go.bits .or .u64 (lh * 4 % 18446744073709551616) (ll / 4611686018427387904) = lh * 4 % 18446744073709551616 + ll / 4611686018427387904 := or_low _ _ 2 (by decide) (by omega) (by omega) (by omega) (by omega) (by omega)
    have o2 : Go.bits .or .u64 (ll * 4 % 18446744073709551616) (hi / 4611686018427387904) = ll * 4 % 18446744073709551616 + hi / 4611686018427387904 := or_low _ _ 2 (by decide) (by omega) (by omega) (by omega) (by omega) (by omega)
    have o3 : Go.bits .or .u64 (n * 4 % 18446744073709551616) 1 = n * 4 % 18446744073709551616 + 1 := or_low _ _ 2 (by decide) (by omega) (by omega) (by omega) (by omega) (by omega)
    have o4 : Go.bits .or .u64 (hi * 4 % 18446744073709551616) (lo / 4611686018427387904) = hi * 4 % 18446744073709551616 + lo / 4611686018427387904 := or_low _ _ 2 (by decide) (by omega) (by omega) (by omega) (by omega) (by omega)
    have e2n : n * 2 % 18446744073709551616 = 2 * n := by omega
    have o5 : Go.bits .or .u64 (2 * n) 1 = 2 * n + 1 := or_low _ _ 1 (by decide) (by omega) (by omega) (by omega) (by omega) (by omega)
    have wi : wrap64 (i + 1) = i + 1 := by unfold wrap64; omega
    simp only [e2n, o1, o2, o3, o4, o5, wi]
    rw [less_eq _ _ _ _ (by omega) (by omega) (by omega) (by omega)]
    simp only [Option.bind_some]
    obtain ⟨q1, q2⟩ := sqrt_round n s 0 0 0 hs
    have hT4 : 4 * T * 4 ^ d = N * 340282366920938463463374607431768211456 := by
      rw [← hTN, Int.pow_succ, Int.mul_comm 4 T, Int.mul_assoc, Int.mul_comm 4]
    by_cases c : (lh * 4 % 18446744073709551616 + ll / 4611686018427387904) * 18446744073709551616 + (ll * 4 % 18446744073709551616 + hi / 4611686018427387904) < n / 4611686018427387904 * 18446744073709551616 + (n * 4 % 18446744073709551616 + 1)
    · rw [if_pos (decide_eq_true c)]
      exact ih k _ _ _ _ _ _ (4 * T) (4 * s) (by omega) (by omega) (by omega) (by omega) (by omega) (by omega) (by omega) (by omega) (by omega) (by omega) (by omega) q1 (by omega) hb1 (by omega) hT4
    · rw [if_neg (by rw [decide_eq_false c]; decide), minus_eq _ _ _ _ (by omega) (by omega) (by omega) (by omega) (by omega) (by omega) (by omega) (by omega)]
      simp only [Option.bind_some]
      exact ih k _ _ _ _ _ _ (4 * T) (4 * s + 4 * n + 1) (by omega) (by omega) (by omega) (by omega) (by omega) (by omega) (by omega) (by omega) (by omega) (by omega) (by omega) q2 (by omega) hb2 (by omega) hT4

theorem sqrt_eq (k : Nat) (hi lo : Int) (h0 : 0 ≤ hi) (h1 : hi ≤ 18446744073709551615) (h2 : 0 ≤ lo) (h3 : lo ≤ 18446744073709551615) (hk : 65 ≤ k) :
    ∃ r, wide_Sqrt.f k hi lo = some r ∧ 0 ≤ r ∧ r ≤ 18446744073709551615 ∧ r * r ≤ hi * 18446744073709551616 + lo ∧ hi * 18446744073709551616 + lo < (r + 1) * (r + 1) := by
  unfold wide_Sqrt.f
  have e4 : (4 : Int) ^ 64 = 340282366920938463463374607431768211456 := by decide
  have e2 : (2 : Int) ^ 64 = 18446744073709551616 := by decide
  exact sqrt_l0 (hi * 18446744073709551616 + lo) (by omega) (by omega) 64 k hi lo 0 0 0 0 (hi * 18446744073709551616 + lo) 0 (by omega) (by omega) (by omega) h0 h1 h2 h3 (by omega) (by omega) (by omega) (by omega) (by omega) (by omega) (by omega) (by omega) (by rw [e4])

theorem sq_le (a b : Int) (h0 : 0 ≤ a) (h : a ≤ b) : a * a ≤ b * b := Int.mul_le_mul h h h0 (by omega)

theorem root_one (N a b : Int) (h0 : 0 ≤ a) (h1 : 0 ≤ b) (h2 : a * a ≤ N) (h3 : N < (b + 1) * (b + 1)) : a ≤ b := by
  by_cases c : a ≤ b
  · exact c
  · have := sq_le (b + 1) a (by omega) (by omega)
    omega

theorem root_eq (N a b : Int) (h0 : 0 ≤ a) (h1 : 0 ≤ b) (h2 : a * a ≤ N) (h3 : N < (a + 1) * (a + 1)) (h4 : b * b ≤ N) (h5 : N < (b + 1) * (b + 1)) : a = b := by
  have e1 := root_one N a b h0 h1 h2 h5
  have e2 := root_one N b a h1 h0 h4 h3
  omega

theorem size_eq (a : Int) (h0 : -9223372036854775808 ≤ a) (h1 : a ≤ 9223372036854775807) : fix_size.f a = some (if a < 0 then -a else a, decide (a < 0)) := by
  unfold fix_size.f
  rw [IntKind.wrap_u64, IntKind.wrap_u64]
  by_cases c : a < 0
  · rw [if_pos c, if_pos c, decide_eq_true c]
    congr 2
    omega
  · rw [if_neg c, if_neg c, decide_eq_false c]
    congr 2
    omega

theorem cut_eq (n rest : Int) (b : Bool) (h0 : 0 ≤ n) (h1 : n ≤ 18446744073709551615) : fix_cut.f n rest b = some (cutv (if b = true then (if rest > 0 then -n - 1 else -n) else n)) := by
  unfold fix_cut.f mn wrap64 cutv
  rw [IntKind.wrap_u64]
  (repeat' split) <;> first | (exfalso; omega) | (congr 1 <;> omega)

theorem add_eq (k : Nat) (a b : Int) (h0 : -9223372036854775808 ≤ a) (h1 : a ≤ 9223372036854775807) (h2 : -9223372036854775808 ≤ b) (h3 : b ≤ 9223372036854775807) (hk : 2 ≤ k) : fix_Add.f k a b = some (cutv (a + b)) := by
  obtain ⟨k, rfl⟩ : ∃ j, k = j + 2 := ⟨k - 2, by omega⟩
  unfold fix_Add.f
  simp only [fix_Add.j0, decide_eq_true_eq, Bool.false_eq_true, if_false]
  unfold cutv mx wrap64
  (repeat' split) <;> first | (exfalso; omega) | (congr 1 <;> omega)

def mulv (a b : Int) : Int := cutv (a * b / 4294967296)

theorem sizes_mul (a b : Int) : (if a < 0 then -a else a) * (if b < 0 then -b else b) = (if (decide (a < 0) != decide (b < 0)) = true then -(a * b) else a * b) := by
  by_cases c : a < 0
  · by_cases d : b < 0
    · rw [if_pos c, if_pos d, decide_eq_true c, decide_eq_true d, if_neg (by decide), Int.neg_mul_neg]
    · rw [if_pos c, if_neg d, decide_eq_true c, decide_eq_false d, if_pos (by decide), Int.neg_mul]
  · by_cases d : b < 0
    · rw [if_neg c, if_pos d, decide_eq_false c, decide_eq_true d, if_pos (by decide), Int.mul_neg]
    · rw [if_neg c, if_neg d, decide_eq_false c, decide_eq_false d, if_neg (by decide)]

theorem size_bd (a : Int) (h0 : -9223372036854775808 ≤ a) (h1 : a ≤ 9223372036854775807) : 0 ≤ (if a < 0 then -a else a) ∧ (if a < 0 then -a else a) ≤ 9223372036854775808 := by
  split <;> omega

theorem or32 (x y : Int) (h0 : 0 ≤ x) (h1 : x ≤ 4294967295) (h3 : 0 ≤ y) (h4 : y ≤ 4294967295) : Go.bits .or .u64 (x * 4294967296) y = x * 4294967296 + y :=
  bits_join .u64 64 (by decide) (fun n q0 q1 => by rw [IntKind.wrap_u64]; omega) 32 _ _ (by omega) (by omega) (by omega) (by omega) (by omega) (by omega)

theorem mulf_eq (a b : Int) (h0 : -9223372036854775808 ≤ a) (h1 : a ≤ 9223372036854775807) (h2 : -9223372036854775808 ≤ b) (h3 : b ≤ 9223372036854775807) : fix_Mul.f a b = some (mulv a b) := by
  unfold fix_Mul.f mulv
  rw [size_eq a h0 h1, size_eq b h2 h3]
  simp only [Option.bind_some]
  have sa := size_bd a h0 h1
  have sb := size_bd b h2 h3
  have hs := sizes_mul a b
  obtain ⟨m, hm⟩ : ∃ m, (if a < 0 then -a else a) = m := ⟨_, rfl⟩
  obtain ⟨n, hn⟩ : ∃ n, (if b < 0 then -b else b) = n := ⟨_, rfl⟩
  obtain ⟨s, hss⟩ : ∃ s, (decide (a < 0) != decide (b < 0)) = s := ⟨_, rfl⟩
  rw [hm] at sa hs ⊢
  rw [hn] at sb hs ⊢
  rw [hss] at hs ⊢
  have p0 : 0 ≤ m * n := Int.mul_nonneg sa.1 sb.1
  have p1 : m * n ≤ 9223372036854775808 * n := Int.mul_le_mul_of_nonneg_right sa.2 sb.1
  rw [mul_eq m n sa.1 (by omega) sb.1 (by omega)]
  simp only [Option.bind_some]
  obtain ⟨P, hP⟩ : ∃ P, m * n = P := ⟨_, rfl⟩
  obtain ⟨Q, hQ⟩ : ∃ Q, a * b = Q := ⟨_, rfl⟩
  rw [hP] at p0 p1 hs ⊢
  rw [hQ] at hs ⊢
  by_cases c : P / 18446744073709551616 / 2147483648 > 0
  · rw [if_pos c, cut_eq _ _ _ (by omega) (by omega)]
    simp only [Option.bind_some]
    congr 1
    cases s
    · rw [if_neg (by decide)] at hs ⊢
      rw [cutv_hi _ (by omega), cutv_hi _ (by omega)]
    · rw [if_pos rfl] at hs
      rw [if_pos rfl, if_neg (by decide), cutv_lo _ (by omega), cutv_lo _ (by omega)]
  · rw [if_neg c, IntKind.wrap_u64, IntKind.wrap_u64]
    have e1 : P / 18446744073709551616 * 4294967296 % 18446744073709551616 = P / 18446744073709551616 * 4294967296 := by omega
    rw [e1, or32 _ _ (by omega) (by omega) (by omega) (by omega), cut_eq _ _ _ (by omega) (by omega)]
    simp only [Option.bind_some]
    congr 2
    cases s
    · rw [if_neg (by decide)] at hs ⊢
      omega
    · rw [if_pos rfl] at hs
      rw [if_pos rfl]
      split <;> omega

theorem mulv_bd (a b : Int) : -9223372036854775807 ≤ mulv a b ∧ mulv a b ≤ 9223372036854775807 := cutv_bd _

theorem mulv_comm (a b : Int) : mulv a b = mulv b a := by unfold mulv; rw [Int.mul_comm]

def pos0 (a : Int) : Int := if a < 0 then 0 else a

theorem sqrtf_eq (k : Nat) (a : Int) (h0 : -9223372036854775808 ≤ a) (h1 : a ≤ 9223372036854775807) (hk : 65 ≤ k) :
    ∃ r, fix_Sqrt.f k a = some r ∧ 0 ≤ r ∧ r ≤ 199032864766430 ∧ r * r ≤ pos0 a * 4294967296 ∧ pos0 a * 4294967296 < (r + 1) * (r + 1) := by
  unfold fix_Sqrt.f
  have em : mx a 0 = pos0 a := rfl
  rw [em, IntKind.wrap_u64, IntKind.wrap_u64]
  have hp : 0 ≤ pos0 a ∧ pos0 a ≤ 9223372036854775807 := by unfold pos0; split <;> omega
  obtain ⟨p, hpp⟩ : ∃ p, pos0 a = p := ⟨_, rfl⟩
  rw [hpp] at hp ⊢
  have e1 : p % 18446744073709551616 = p := by omega
  rw [e1]
  obtain ⟨r, hr, r0, r1, r2, r3⟩ := sqrt_eq k (p / 4294967296) (p * 4294967296 % 18446744073709551616) (by omega) (by omega) (by omega) (by omega) hk
  have e2 : p / 4294967296 * 18446744073709551616 + p * 4294967296 % 18446744073709551616 = p * 4294967296 := by omega
  rw [e2] at r2 r3
  have rb : r ≤ 199032864766430 := root_one (p * 4294967296) r 199032864766430 r0 (by decide) r2 (by omega)
  rw [hr]
  simp only [Option.bind_some]
  rw [cut_eq _ _ _ r0 r1]
  refine ⟨r, ?_, r0, rb, r2, r3⟩
  simp only [Option.bind_some]
  rw [if_neg (by decide), cutv_id _ (by omega) (by omega)]

theorem shown_eq (k : Nat) (hk : 65 ≤ k) : analemmalaw02_shown.f k = some true := by
  unfold analemmalaw02_shown.f
  have e1 : mulv 2147483648 2147483648 = 1073741824 := by decide +kernel
  have e2 : cutv (1 + 2) = 3 := by decide +kernel
  obtain ⟨r, hr, r0, r1, r2, r3⟩ := sqrtf_eq k 17179869184 (by omega) (by omega) hk
  have e3 : pos0 17179869184 = 17179869184 := by decide
  rw [e3] at r2 r3
  have e4 : r = 8589934592 := root_eq (17179869184 * 4294967296) r 8589934592 r0 (by decide) r2 r3 (by decide) (by decide)
  rw [mulf_eq _ _ (by omega) (by omega) (by omega) (by omega), add_eq k 1 2 (by omega) (by omega) (by omega) (by omega) (by omega), hr, e1, e2, e4]
  rfl

def lsum (l : List Int) : Int := fix_Mean.psum l - fix_Mean.nsum l

theorem lsum_nil : lsum [] = 0 := rfl

theorem lsum_cons (x : Int) (l : List Int) : lsum (x :: l) = x + lsum l := by
  unfold lsum
  simp only [fix_Mean.psum, fix_Mean.nsum]
  split <;> omega

theorem lsum_ge (c : Int) (l : List Int) (h : ∀ x ∈ l, c ≤ x) : c * l.length ≤ lsum l := by
  induction l with
  | nil => simp [lsum_nil]
  | cons x xs ih =>
    have h1 := ih (fun y hy => h y (List.mem_cons_of_mem _ hy))
    have h2 := h x (List.mem_cons_self ..)
    rw [lsum_cons, List.length_cons]
    have e : c * ((xs.length + 1 : Nat) : Int) = c * xs.length + c := by
      rw [show ((xs.length + 1 : Nat) : Int) = (xs.length : Int) + 1 by omega, Int.mul_add, Int.mul_one]
    omega

theorem lsum_le (c : Int) (l : List Int) (h : ∀ x ∈ l, x ≤ c) : lsum l ≤ c * l.length := by
  induction l with
  | nil => simp [lsum_nil]
  | cons x xs ih =>
    have h1 := ih (fun y hy => h y (List.mem_cons_of_mem _ hy))
    have h2 := h x (List.mem_cons_self ..)
    rw [lsum_cons, List.length_cons]
    have e : c * ((xs.length + 1 : Nat) : Int) = c * xs.length + c := by
      rw [show ((xs.length + 1 : Nat) : Int) = (xs.length : Int) + 1 by omega, Int.mul_add, Int.mul_one]
    omega

theorem neg_floor (D n : Int) (hn : 0 < n) : -D / n = if D % n > 0 then -(D / n) - 1 else -(D / n) := by
  have e := Int.mul_ediv_add_emod D n
  have m0 := Int.emod_nonneg D (b := n) (by omega)
  have m1 := Int.emod_lt_of_pos D hn
  obtain ⟨q, hq⟩ : ∃ q, D / n = q := ⟨_, rfl⟩
  obtain ⟨r, hr⟩ : ∃ r, D % n = r := ⟨_, rfl⟩
  rw [hq, hr] at e ⊢
  rw [hr] at m0 m1
  rw [Int.mul_comm] at e
  by_cases w : r > 0
  · rw [if_pos w]
    have e2 : -D = (n - r) + (-q - 1) * n := by
      rw [Int.sub_mul, Int.neg_mul]
      omega
    rw [e2, Int.add_mul_ediv_right _ _ (by omega), Int.ediv_eq_zero_of_lt (by omega) (by omega)]
    omega
  · rw [if_neg w]
    have e2 : -D = 0 + (-q) * n := by
      rw [Int.neg_mul]
      omega
    rw [e2, Int.add_mul_ediv_right _ _ (by omega), Int.zero_ediv]
    omega

theorem in_all (l : List Int) (h : ∀ x ∈ l, -9223372036854775808 ≤ x ∧ x ≤ 9223372036854775807) : l.all fix_Mean.In = true := by
  rw [List.all_eq_true]
  intro x hx
  have := h x hx
  unfold fix_Mean.In
  rw [Bool.and_eq_true, decide_eq_true_iff, decide_eq_true_iff]
  exact this

theorem mean_nil : fix_Mean.f [] = some 0 := rfl

theorem mean_eq (l : List Int) (h0 : l ≠ []) (h : ∀ x ∈ l, -9223372036854775808 ≤ x ∧ x ≤ 9223372036854775807) (hl : l.length ≤ 17592186044416) : fix_Mean.f l = some (cutv (lsum l / l.length)) := by
  have hne : l.length ≠ 0 := by
    intro e
    exact h0 (List.eq_nil_of_length_eq_zero e)
  have b := fix_Mean.bd l (in_all l h)
  unfold fix_Mean.f
  rw [if_neg hne, if_pos ⟨in_all l h, hl⟩]
  unfold fix_Mean.fin lsum
  obtain ⟨p, hp⟩ : ∃ p, fix_Mean.psum l = p := ⟨_, rfl⟩
  obtain ⟨n, hn⟩ : ∃ n, fix_Mean.nsum l = n := ⟨_, rfl⟩
  obtain ⟨len, hlen⟩ : ∃ len : Int, (l.length : Int) = len := ⟨_, rfl⟩
  rw [hp, hn, hlen] at b ⊢
  have lp : 0 < len := by omega
  by_cases c : p < n
  · have q0 : 0 ≤ (n - p) / len := Int.ediv_nonneg (by omega) (by omega)
    have q1 : (n - p) / len < 18446744073709551616 := Int.ediv_lt_of_lt_mul lp (by omega)
    rw [if_pos c, cut_eq _ _ _ q0 (by omega), if_pos rfl]
    have e := neg_floor (n - p) len lp
    rw [show p - n = -(n - p) by omega, e]
  · have q0 : 0 ≤ (p - n) / len := Int.ediv_nonneg (by omega) (by omega)
    have q1 : (p - n) / len < 18446744073709551616 := Int.ediv_lt_of_lt_mul lp (by omega)
    rw [if_neg c, cut_eq _ _ _ q0 (by omega), if_neg (by decide)]

theorem mean_bd (lo hi : Int) (l : List Int) (h0 : l ≠ []) (h : ∀ x ∈ l, lo ≤ x ∧ x ≤ hi) : lo ≤ lsum l / l.length ∧ lsum l / l.length ≤ hi := by
  have hne : l.length ≠ 0 := by
    intro e
    exact h0 (List.eq_nil_of_length_eq_zero e)
  have a := lsum_ge lo l (fun x hx => (h x hx).1)
  have b := lsum_le hi l (fun x hx => (h x hx).2)
  refine ⟨Int.le_ediv_of_mul_le (by omega) a, ?_⟩
  have : lsum l / l.length < hi + 1 := Int.ediv_lt_of_lt_mul (by omega) (by rw [Int.add_mul, Int.one_mul]; omega)
  omega

theorem rd_mem (l : List Int) (i : Int) (h0 : 0 ≤ i) (h1 : i < l.length) : rd l i ∈ l := by
  unfold rd
  have e : l.getD i.toNat 0 = l[i.toNat]'(by omega) := by
    simp [List.getD, show i.toNat < l.length by omega]
  rw [e]
  exact List.getElem_mem _

theorem mem_rd (l : List Int) (x : Int) (h : x ∈ l) : ∃ i : Int, 0 ≤ i ∧ i < l.length ∧ rd l i = x := by
  obtain ⟨j, hj, rfl⟩ := List.getElem_of_mem h
  refine ⟨j, by omega, by omega, ?_⟩
  unfold rd
  simp [hj]

theorem middle_l1 (a n lo hi m : Int) (ba : -9223372036854775808 ≤ a ∧ a ≤ 9223372036854775807) (bn : 0 ≤ n ∧ n ≤ 255) (h1 : mx lo (-9223372036854775807) ≤ m) (h2 : m ≤ mx hi (-9223372036854775807)) (d : Nat) : ∀ (k : Nat) (j : Nat), (j : Int) + d = n + 1 → d + 70 ≤ k →
    analemmalaw02_FixMiddle.l1 k a n lo hi m (List.replicate j a) j = some true := by
  have ew : wrap64 n = n := by unfold wrap64; omega
  induction d with
  | zero =>
    intro k j hj hk
    obtain ⟨k, rfl⟩ : ∃ q, k = q + 1 := ⟨k - 1, by omega⟩
    have hj0 : j ≠ 0 := by omega
    have hne : List.replicate j a ≠ [] := by
      intro e
      have := congrArg List.length e
      rw [List.length_replicate] at this
      exact hj0 this
    have hall : ∀ x ∈ List.replicate j a, a ≤ x ∧ x ≤ a := by
      intro x hx
      have := List.eq_of_mem_replicate hx
      omega
    have hb := mean_bd a a (List.replicate j a) hne hall
    have em : lsum (List.replicate j a) / (List.replicate j a).length = a := by omega
    simp only [analemmalaw02_FixMiddle.l1]
    rw [ew, if_neg (by omega), if_pos h1, if_pos h2, mean_eq _ hne (fun x hx => by have := hall x hx; omega) (by rw [List.length_replicate]; omega), em]
    simp only [Option.bind_some]
    rw [if_pos (by rw [cutv_mx a ba.2]), shown_eq k (by omega)]
    rfl
  | succ d ih =>
    intro k j hj hk
    obtain ⟨k, rfl⟩ : ∃ q, k = q + 1 := ⟨k - 1, by omega⟩
    have ej : wrap64 ((j : Int) + 1) = ((j + 1 : Nat) : Int) := by unfold wrap64; omega
    have er : List.replicate j a ++ [a] = List.replicate (j + 1) a := by rw [List.replicate_succ']
    simp only [analemmalaw02_FixMiddle.l1]
    rw [ew, if_pos (by omega), if_pos (by rw [List.length_replicate]; omega), ej, er, ih k (j + 1) (by omega) (by omega)]

theorem middle_l0 (l : List Int) (a n : Int) (ba : -9223372036854775808 ≤ a ∧ a ≤ 9223372036854775807) (bn : 0 ≤ n ∧ n ≤ 255) (hne : l ≠ []) (hl : l.length ≤ 1024) (hin : ∀ x ∈ l, -9223372036854775808 ≤ x ∧ x ≤ 9223372036854775807) (d : Nat) :
    ∀ (k : Nat) (lo hi i : Int), i + d = l.length → 0 ≤ i → d + 400 ≤ k → lo ≤ hi → -9223372036854775808 ≤ lo → hi ≤ 9223372036854775807 → (∀ j : Int, 0 ≤ j → j < i → lo ≤ rd l j ∧ rd l j ≤ hi) →
    analemmalaw02_FixMiddle.l0 k l a n lo hi i = some true := by
  induction d with
  | zero =>
    intro k lo hi i hi_ hi0 hk hlh b0 b1 hb
    obtain ⟨k, rfl⟩ : ∃ q, k = q + 1 := ⟨k - 1, by omega⟩
    have hall : ∀ x ∈ l, lo ≤ x ∧ x ≤ hi := by
      intro x hx
      obtain ⟨j, j0, j1, rfl⟩ := mem_rd l x hx
      exact hb j j0 (by omega)
    have hm := mean_bd lo hi l hne hall
    simp only [analemmalaw02_FixMiddle.l0]
    rw [if_neg (by omega), mean_eq l hne hin (by omega)]
    simp only [Option.bind_some]
    have c1 := cutv_mono _ _ hm.1
    have c2 := cutv_mono _ _ hm.2
    exact middle_l1 a n lo hi _ ba bn (by rw [cutv_mx lo (by omega)]; exact c1) (by rw [cutv_mx hi b1]; exact c2) (n + 1).toNat k 0 (by omega) (by omega)
  | succ d ih =>
    intro k lo hi i hi_ hi0 hk hlh b0 b1 hb
    obtain ⟨k, rfl⟩ : ∃ q, k = q + 1 := ⟨k - 1, by omega⟩
    have hx := hin (rd l i) (rd_mem l i hi0 (by omega))
    have ew : wrap64 (i + 1) = i + 1 := by unfold wrap64; omega
    have m1 : mn lo (rd l i) ≤ lo ∧ mn lo (rd l i) ≤ rd l i ∧ -9223372036854775808 ≤ mn lo (rd l i) := by unfold mn; split <;> omega
    have m2 : hi ≤ mx hi (rd l i) ∧ rd l i ≤ mx hi (rd l i) ∧ mx hi (rd l i) ≤ 9223372036854775807 := by unfold mx; split <;> omega
    simp only [analemmalaw02_FixMiddle.l0]
    rw [if_pos (by omega), if_pos hi0, ew]
    refine ih k _ _ (i + 1) (by omega) (by omega) (by omega) (by omega) m1.2.2 m2.2.2 ?_
    intro j j0 j1
    by_cases e : j = i
    · subst e
      omega
    · have := hb j j0 (by omega)
      omega

theorem FixMiddle : analemmalaw02_FixMiddle.Pure := by
  intro l a n _ _ hl ha hn
  have ba := bounds_i64 ha
  have bn := bounds_u8 hn
  have hin : ∀ x ∈ l, -9223372036854775808 ≤ x ∧ x ≤ 9223372036854775807 := fun x hx => bounds_i64 (hl x hx)
  clear ha hn hl
  refine ⟨2000, ?_⟩
  have e1 : (2000 : Nat) = 1999 + 1 := rfl
  have s1 := shown_eq 1999 (by omega)
  unfold analemmalaw02_FixMiddle.f
  by_cases c : (l.length : Int) > 1024
  · rw [if_pos c, e1]
    simp only [analemmalaw02_FixMiddle.j0]
    rw [if_pos trivial, mean_nil]
    simp only [Option.bind_some]
    rw [if_pos trivial, s1]
    rfl
  · rw [if_neg c, e1]
    by_cases z : (l.length : Int) = 0
    · simp only [analemmalaw02_FixMiddle.j0]
      rw [if_pos (beq_iff_eq.mpr z), mean_nil]
      simp only [Option.bind_some]
      rw [if_pos trivial, s1]
      rfl
    · have hne : l ≠ [] := by
        intro e
        rw [e] at z
        exact z rfl
      have h0 := hin (rd l 0) (rd_mem l 0 (by omega) (by omega))
      simp only [analemmalaw02_FixMiddle.j0]
      rw [if_neg (by rw [beq_iff_eq]; exact z), if_pos (by omega)]
      exact middle_l0 l a n ba bn hne (by omega) hin l.length 1999 _ _ 0 (by omega) (by omega) (by omega) (by omega) h0.1 h0.2 (fun j j0 j1 => by omega)


end Go.Proofs.Ytomjongnjfodmaa.Pure
