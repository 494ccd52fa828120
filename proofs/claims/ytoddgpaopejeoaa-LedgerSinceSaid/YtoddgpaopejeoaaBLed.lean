/- Plain laws of the functions that several statements of this seat reach; each says its own conditions. -/
import Derived.Test.YtoddgpaopejeoaaMLedx0
import Derived.Test.YtoddgpaopejeoaaMLedx1
import Derived.Test.YtoddgpaopejeoaaMLedx2
import Derived.Test.YtoddgpaopejeoaaMLedx3
import Derived.Test.YtoddgpaopejeoaaMLedx4
import Derived.OpenShut
import Derived.Laws.Bits64
import Derived.Laws.BitsLemmas
namespace Go.Proofs.Ytoddgpaopejeoaa.Pure
open Go.RowKit Go.Proofs.Ytoddgpaopejeoaa.MLed Go.Proofs.YtoddgpaopejeoaaW.PrintWords Go.Proofs.YtoddgpaopejeoaaW.PrintLast Go.Proofs.YtoddgpaopejeoaaW.PrintMore
set_option linter.unusedVariables false
set_option linter.unusedSimpArgs false

def cutv (x : Int) : Int := if x < -9223372036854775807 then -9223372036854775807 else if x > 9223372036854775807 then 9223372036854775807 else x

theorem cutv_bd (x : Int) : -9223372036854775807 ≤ cutv x ∧ cutv x ≤ 9223372036854775807 := by
  unfold cutv
  split
  · omega
  · split <;> omega

theorem cutv_id (x : Int) (h0 : -9223372036854775807 ≤ x) (h1 : x ≤ 9223372036854775807) : cutv x = x := by
  unfold cutv
  rw [if_neg (by omega), if_neg (by omega)]

theorem cutv_hi (x : Int) (h : 9223372036854775807 ≤ x) : cutv x = 9223372036854775807 := by
  unfold cutv
  split
  · omega
  · split <;> omega

theorem cutv_lo (x : Int) (h : x ≤ -9223372036854775807) : cutv x = -9223372036854775807 := by
  unfold cutv
  split
  · omega
  · split <;> omega

theorem cutv_mono (x y : Int) (h : x ≤ y) : cutv x ≤ cutv y := by
  unfold cutv
  (repeat' split) <;> omega

theorem cutv_mx (x : Int) (h1 : x ≤ 9223372036854775807) : mx x (-9223372036854775807) = cutv x := by
  unfold cutv mx
  (repeat' split) <;> omega

theorem pow2_pos (n : Nat) : (0 : Int) < 2 ^ n := Int.pow_pos (by decide)

theorem pow2_mono (m n : Nat) (h : m ≤ n) : (2 : Int) ^ m ≤ 2 ^ n := by
  have h1 : (2 : Nat) ^ m ≤ 2 ^ n := Nat.pow_le_pow_right (by decide) h
  have h2 : ((2 : Int) ^ m) = ((2 ^ m : Nat) : Int) := by simp
  have h3 : ((2 : Int) ^ n) = ((2 ^ n : Nat) : Int) := by simp
  rw [h2, h3]
  exact_mod_cast h1

theorem pow2_succ (n : Nat) : (2 : Int) ^ (n + 1) = 2 * 2 ^ n := by rw [Int.pow_succ]; omega

theorem mul_le_left (a b c : Int) (hc : 0 ≤ c) (h : a ≤ b) : a * c ≤ b * c := Int.mul_le_mul_of_nonneg_right h hc

theorem div_far (a b : Int) (hb : 9223372036854775808 ≤ b) (h0 : -9223372036854775808 ≤ a) (h1 : a ≤ 9223372036854775807) : a / b = if a < 0 then -1 else 0 := by
  by_cases c : a < 0
  · rw [if_pos c]
    have h2 : -1 ≤ a / b := Int.le_ediv_of_mul_le (by omega) (by omega)
    have h3 : a / b < 0 := Int.ediv_lt_of_lt_mul (by omega) (by omega)
    omega
  · rw [if_neg c]
    exact Int.ediv_eq_zero_of_lt (by omega) (by omega)

theorem mul_eq (a b : Int) (h0 : 0 ≤ a) (h1 : a ≤ 18446744073709551615) (h2 : 0 ≤ b) (h3 : b ≤ 18446744073709551615) : wide_Mul.f a b = some (a * b / 18446744073709551616, a * b % 18446744073709551616) := by
  unfold wide_Mul.f
  rw [if_pos ⟨h0, h1, h2, h3⟩]

theorem mul_bd (a b : Int) (h0 : 0 ≤ a) (h1 : a ≤ 18446744073709551615) (h2 : 0 ≤ b) (h3 : b ≤ 18446744073709551615) : 0 ≤ a * b ∧ a * b ≤ 18446744073709551615 * 18446744073709551615 := by
  have e0 := Int.mul_nonneg h0 h2
  have e1 : a * b ≤ 18446744073709551615 * b := Int.mul_le_mul_of_nonneg_right h1 h2
  omega


theorem size_eq (a : Int) (h0 : -9223372036854775808 ≤ a) (h1 : a ≤ 9223372036854775807) : fix_size.f a = some (if a < 0 then -a else a, decide (a < 0)) := by
  unfold fix_size.f
  rw [IntKind.wrap_u64, IntKind.wrap_u64]
  by_cases c : a < 0
  · rw [if_pos c, if_pos c, decide_eq_true c]
    congr 2
    omega
  · rw [if_neg c, if_neg c, decide_eq_false c]
    congr 2
    omega

theorem cut_eq (n rest : Int) (b : Bool) (h0 : 0 ≤ n) (h1 : n ≤ 18446744073709551615) : fix_cut.f n rest b = some (cutv (if b = true then (if rest > 0 then -n - 1 else -n) else n)) := by
  unfold fix_cut.f mn wrap64 cutv
  rw [IntKind.wrap_u64]
  (repeat' split) <;> first | (exfalso; omega) | (congr 1 <;> omega)

theorem add_eq (k : Nat) (a b : Int) (h0 : -9223372036854775808 ≤ a) (h1 : a ≤ 9223372036854775807) (h2 : -9223372036854775808 ≤ b) (h3 : b ≤ 9223372036854775807) (hk : 2 ≤ k) : fix_Add.f k a b = some (cutv (a + b)) := by
  obtain ⟨k, rfl⟩ : ∃ j, k = j + 2 := ⟨k - 2, by omega⟩
  unfold fix_Add.f
  simp only [fix_Add.j0, decide_eq_true_eq, Bool.false_eq_true, if_false]
  unfold cutv mx wrap64
  (repeat' split) <;> first | (exfalso; omega) | (congr 1 <;> omega)

theorem sub_eq (k : Nat) (a b : Int) (h0 : -9223372036854775808 ≤ a) (h1 : a ≤ 9223372036854775807) (h2 : -9223372036854775808 ≤ b) (h3 : b ≤ 9223372036854775807) (hk : 2 ≤ k) : fix_Sub.f k a b = some (cutv (a - b)) := by
  obtain ⟨k, rfl⟩ : ∃ j, k = j + 2 := ⟨k - 2, by omega⟩
  unfold fix_Sub.f
  simp only [fix_Sub.j0, decide_eq_true_eq, Bool.false_eq_true, if_false]
  unfold cutv mx wrap64
  (repeat' split) <;> first | (exfalso; omega) | (congr 1 <;> omega)

def mulv (a b : Int) : Int := cutv (a * b / 4294967296)

theorem sizes_mul (a b : Int) : (if a < 0 then -a else a) * (if b < 0 then -b else b) = (if (decide (a < 0) != decide (b < 0)) = true then -(a * b) else a * b) := by
  by_cases c : a < 0
  · by_cases d : b < 0
    · rw [if_pos c, if_pos d, decide_eq_true c, decide_eq_true d, if_neg (by decide), Int.neg_mul_neg]
    · rw [if_pos c, if_neg d, decide_eq_true c, decide_eq_false d, if_pos (by decide), Int.neg_mul]
  · by_cases d : b < 0
    · rw [if_neg c, if_pos d, decide_eq_false c, decide_eq_true d, if_pos (by decide), Int.mul_neg]
    · rw [if_neg c, if_neg d, decide_eq_false c, decide_eq_false d, if_neg (by decide)]

theorem size_bd (a : Int) (h0 : -9223372036854775808 ≤ a) (h1 : a ≤ 9223372036854775807) : 0 ≤ (if a < 0 then -a else a) ∧ (if a < 0 then -a else a) ≤ 9223372036854775808 := by
  split <;> omega

theorem or32 (x y : Int) (h0 : 0 ≤ x) (h1 : x ≤ 4294967295) (h3 : 0 ≤ y) (h4 : y ≤ 4294967295) : Go.bits .or .u64 (x * 4294967296) y = x * 4294967296 + y :=
  bits_join .u64 64 (by decide) (fun n q0 q1 => by rw [IntKind.wrap_u64]; omega) 32 _ _ (by omega) (by omega) (by omega) (by omega) (by omega) (by omega)

theorem mulf_eq (a b : Int) (h0 : -9223372036854775808 ≤ a) (h1 : a ≤ 9223372036854775807) (h2 : -9223372036854775808 ≤ b) (h3 : b ≤ 9223372036854775807) : fix_Mul.f a b = some (mulv a b) := by
  unfold fix_Mul.f mulv
  rw [size_eq a h0 h1, size_eq b h2 h3]
  simp only [Option.bind_some]
  have sa := size_bd a h0 h1
  have sb := size_bd b h2 h3
  have hs := sizes_mul a b
  obtain ⟨m, hm⟩ : ∃ m, (if a < 0 then -a else a) = m := ⟨_, rfl⟩
  obtain ⟨n, hn⟩ : ∃ n, (if b < 0 then -b else b) = n := ⟨_, rfl⟩
  obtain ⟨s, hss⟩ : ∃ s, (decide (a < 0) != decide (b < 0)) = s := ⟨_, rfl⟩
  rw [hm] at sa hs ⊢
  rw [hn] at sb hs ⊢
  rw [hss] at hs ⊢
  have p0 : 0 ≤ m * n := Int.mul_nonneg sa.1 sb.1
  have p1 : m * n ≤ 9223372036854775808 * n := Int.mul_le_mul_of_nonneg_right sa.2 sb.1
  rw [mul_eq m n sa.1 (by omega) sb.1 (by omega)]
  simp only [Option.bind_some]
  obtain ⟨P, hP⟩ : ∃ P, m * n = P := ⟨_, rfl⟩
  obtain ⟨Q, hQ⟩ : ∃ Q, a * b = Q := ⟨_, rfl⟩
  rw [hP] at p0 p1 hs ⊢
  rw [hQ] at hs ⊢
  by_cases c : P / 18446744073709551616 / 2147483648 > 0
  · rw [if_pos c, cut_eq _ _ _ (by omega) (by omega)]
    simp only [Option.bind_some]
    congr 1
    cases s
    · rw [if_neg (by decide)] at hs ⊢
      rw [cutv_hi _ (by omega), cutv_hi _ (by omega)]
    · rw [if_pos rfl] at hs
      rw [if_pos rfl, if_neg (by decide), cutv_lo _ (by omega), cutv_lo _ (by omega)]
  · rw [if_neg c, IntKind.wrap_u64, IntKind.wrap_u64]
    have e1 : P / 18446744073709551616 * 4294967296 % 18446744073709551616 = P / 18446744073709551616 * 4294967296 := by omega
    rw [e1, or32 _ _ (by omega) (by omega) (by omega) (by omega), cut_eq _ _ _ (by omega) (by omega)]
    simp only [Option.bind_some]
    congr 2
    cases s
    · rw [if_neg (by decide)] at hs ⊢
      omega
    · rw [if_pos rfl] at hs
      rw [if_pos rfl]
      split <;> omega

theorem mulv_bd (a b : Int) : -9223372036854775807 ≤ mulv a b ∧ mulv a b ≤ 9223372036854775807 := cutv_bd _

theorem mulv_comm (a b : Int) : mulv a b = mulv b a := by unfold mulv; rw [Int.mul_comm]

theorem rplus_eq (ah al bh bl : Int) (h0 : 0 ≤ ah) (h1 : ah ≤ 18446744073709551615) (h2 : 0 ≤ al) (h3 : al ≤ 18446744073709551615) (h4 : 0 ≤ bh) (h5 : bh ≤ 18446744073709551615) (h6 : 0 ≤ bl) (h7 : bl ≤ 18446744073709551615) :
    analemmaref01_Plus.f ah al bh bl = some ((ah + bh + (al + bl) / 18446744073709551616) % 18446744073709551616, (al + bl) % 18446744073709551616, decide (ah + bh + (al + bl) / 18446744073709551616 ≥ 18446744073709551616)) := by
  unfold analemmaref01_Plus.f
  simp only [IntKind.wrap_u64]
  by_cases c : (al + bl) % 18446744073709551616 < al
  · rw [if_pos c]
    by_cases d : (ah + bh) % 18446744073709551616 < ah
    · rw [if_pos d, decide_eq_true (by omega)]
      congr 2
      omega
    · rw [if_neg d]
      congr 2
      · omega
      · congr 1
        rw [Bool.eq_iff_iff, decide_eq_true_iff, decide_eq_true_iff]
        omega
  · rw [if_neg c]
    by_cases d : (ah + bh) % 18446744073709551616 < ah
    · rw [if_pos d, decide_eq_true (by omega)]
      congr 2
      omega
    · rw [if_neg d]
      congr 2
      · omega
      · congr 1
        rw [Bool.eq_iff_iff, decide_eq_true_iff, decide_eq_true_iff]
        omega

theorem rbit_eq (n : Int) (j : Nat) (h0 : 0 ≤ n) (h1 : n ≤ 18446744073709551615) (hj : j ≤ 63) : analemmaref01_bit.f n (j : Int) = some (n / 2 ^ j % 2) := by
  unfold analemmaref01_bit.f
  rw [if_pos (by omega)]
  have e : shr .u64 n (j : Int) = n / 2 ^ j := by
    unfold shr
    have e : min (j : Int).toNat (IntKind.bits .u64) = j := by simp [IntKind.bits]; omega
    rw [e]
  have hp := pow2_pos j
  have q0 : 0 ≤ n / 2 ^ j := Int.ediv_nonneg h0 (by omega)
  have q1 : n / 2 ^ j ≤ n := Int.ediv_le_self _ h0
  rw [e]
  congr 1
  exact bits_mask .u64 64 (by decide) (fun m h0 h1 => by rw [IntKind.wrap_u64]; omega) 1 (by decide) _ q0 (by omega)

theorem halve (n : Int) (j : Nat) : n / 2 ^ j = 2 * (n / 2 ^ (j + 1)) + n / 2 ^ j % 2 := by
  have e : n / 2 ^ (j + 1) = n / 2 ^ j / 2 := by rw [Int.pow_succ, Int.ediv_ediv_of_nonneg (by have := pow2_pos j; omega)]
  rw [e]
  omega

theorem rmul_l0 (a b : Int) (ha0 : 0 ≤ a) (ha1 : a ≤ 18446744073709551615) (hb0 : 0 ≤ b) (hb1 : b ≤ 18446744073709551615) (d : Nat) : ∀ (k : Nat) (hi lo : Int), d ≤ 64 → d < k → 0 ≤ hi → hi ≤ 18446744073709551615 → 0 ≤ lo → lo ≤ 18446744073709551615 →
    hi * 18446744073709551616 + lo = a * (b / 2 ^ d) → analemmaref01_Mul.l0 k a b hi lo ((d : Int) - 1) = some (a * b / 18446744073709551616, a * b % 18446744073709551616) := by
  induction d with
  | zero =>
    intro k hi lo hd hk b0 b1 b2 b3 he
    obtain ⟨k, rfl⟩ : ∃ j, k = j + 1 := ⟨k - 1, by omega⟩
    simp only [analemmaref01_Mul.l0]
    rw [if_neg (by omega)]
    rw [show (2 : Int) ^ 0 = 1 from rfl, Int.ediv_one] at he
    congr 2 <;> omega
  | succ d ih =>
    intro k hi lo hd hk b0 b1 b2 b3 he
    obtain ⟨k, rfl⟩ : ∃ j, k = j + 1 := ⟨k - 1, by omega⟩
    have hp := pow2_pos d
    have hq := halve b d
    have z0 : 0 ≤ b / 2 ^ d := Int.ediv_nonneg hb0 (by omega)
    have z1 : b / 2 ^ d ≤ b := Int.ediv_le_self _ hb0
    have z2 : a * (b / 2 ^ d) ≤ a * b := Int.mul_le_mul_of_nonneg_left z1 ha0
    have z3 := mul_bd a b ha0 ha1 hb0 hb1
    obtain ⟨q, hqq⟩ : ∃ q, b / 2 ^ (d + 1) = q := ⟨_, rfl⟩
    obtain ⟨t, ht⟩ : ∃ t, b / 2 ^ d % 2 = t := ⟨_, rfl⟩
    have t01 : t = 0 ∨ t = 1 := by omega
    rw [hqq] at he hq
    rw [ht] at hq
    have e0 : a * (b / 2 ^ d) = 2 * (a * q) + a * t := by rw [hq, Int.mul_add, Int.mul_left_comm]
    simp only [analemmaref01_Mul.l0]
    have ed : ((d + 1 : Nat) : Int) - 1 = (d : Int) := by omega
    have ew : wrap64 ((d : Int) - 1) = (d : Int) - 1 := by unfold wrap64; omega
    rw [ed, if_pos (by omega), rplus_eq _ _ _ _ b0 b1 b2 b3 b0 b1 b2 b3, rbit_eq b d hb0 hb1 (by omega), ht]
    simp only [Option.bind_some]
    rw [ew]
    rcases t01 with t0 | t1
    · subst t0
      rw [Int.mul_zero] at e0
      rw [if_neg (by decide)]
      exact ih k _ _ (by omega) (by omega) (by omega) (by omega) (by omega) (by omega) (by omega)
    · subst t1
      rw [Int.mul_one] at e0
      rw [if_pos rfl, rplus_eq _ _ _ _ (by omega) (by omega) (by omega) (by omega) (by omega) (by omega) (by omega) (by omega)]
      simp only [Option.bind_some]
      exact ih k _ _ (by omega) (by omega) (by omega) (by omega) (by omega) (by omega) (by omega)

theorem rmul_eq (k : Nat) (a b : Int) (ha0 : 0 ≤ a) (ha1 : a ≤ 18446744073709551615) (hb0 : 0 ≤ b) (hb1 : b ≤ 18446744073709551615) (hk : 65 ≤ k) : analemmaref01_Mul.f k a b = some (a * b / 18446744073709551616, a * b % 18446744073709551616) := by
  unfold analemmaref01_Mul.f
  have e64 : (2 : Int) ^ 64 = 18446744073709551616 := by decide
  have e : b / 2 ^ 64 = 0 := Int.ediv_eq_zero_of_lt hb0 (by omega)
  exact rmul_l0 a b ha0 ha1 hb0 hb1 64 k 0 0 (by omega) (by omega) (by omega) (by omega) (by omega) (by omega) (by rw [e]; omega)

theorem low_bit (hi lo : Int) (j : Nat) (hj : j ≤ 63) : (hi * 18446744073709551616 + lo) / 2 ^ j % 2 = lo / 2 ^ j % 2 := by
  have hp := pow2_pos j
  have e : (18446744073709551616 : Int) = 2 ^ (63 - j) * 2 * 2 ^ j := by
    rw [Int.mul_assoc, Int.mul_comm 2, ← Int.pow_succ, ← Int.pow_add, show 63 - j + (j + 1) = 64 by omega]
    decide
  have e2 : (hi * 18446744073709551616 + lo) / 2 ^ j = hi * (2 ^ (63 - j) * 2) + lo / 2 ^ j := by
    rw [e, ← Int.mul_assoc, Int.add_comm, Int.add_mul_ediv_right _ _ (by omega), Int.add_comm]
  rw [e2, ← Int.mul_assoc]
  omega


theorem rsize_eq (a : Int) (h0 : -9223372036854775808 ≤ a) (h1 : a ≤ 9223372036854775807) : analemmaref02_size.f a = some (if a < 0 then -a else a) := by
  unfold analemmaref02_size.f
  rw [IntKind.wrap_u64, IntKind.wrap_u64]
  by_cases c : a < 0
  · rw [if_pos c, if_pos c]
    congr 1
    omega
  · rw [if_neg c, if_neg c]
    congr 1
    omega

theorem rcut_eq (k : Nat) (m : Bool) (n : Int) (rest : Bool) (h0 : 0 ≤ n) (h1 : n ≤ 18446744073709551615) (hk : 2 ≤ k) :
    analemmaref02_Cut.f k m n rest = some (cutv (if m = true then (if rest = true then -n - 1 else -n) else n)) := by
  obtain ⟨k, rfl⟩ : ∃ j, k = j + 2 := ⟨k - 2, by omega⟩
  unfold analemmaref02_Cut.f
  simp only [analemmaref02_Cut.j0, analemmaref02_Cut.j1, IntKind.wrap_u64]
  unfold cutv wrap64
  cases m <;> cases rest <;> simp only [if_true, if_false, decide_eq_true_eq, Bool.false_eq_true] <;> (repeat' split) <;> first | (exfalso; omega) | (congr 1 <;> omega)

theorem radd_eq (k : Nat) (a b : Int) (h0 : -9223372036854775808 ≤ a) (h1 : a ≤ 9223372036854775807) (h2 : -9223372036854775808 ≤ b) (h3 : b ≤ 9223372036854775807) (hk : 2 ≤ k) :
    analemmaref02_Add.f k a b = some (cutv (a + b)) := by
  unfold analemmaref02_Add.f
  by_cases c : (decide (a < 0) != decide (b < 0)) = true
  · rw [if_pos c]
    congr 1
    have d : (a < 0) ≠ (b < 0) := by
      intro e
      rw [bne_iff_ne] at c
      exact c (by simp only [e])
    have e : a + b ≤ 9223372036854775807 ∧ -9223372036854775808 ≤ a + b := by
      by_cases p : a < 0 <;> by_cases q : b < 0 <;> first | (exfalso; simp [p, q] at d; done) | omega
    have : wrap64 (a + b) = a + b := by unfold wrap64; omega
    rw [this, cutv_mx _ e.1]
  · rw [if_neg c, rsize_eq a h0 h1, rsize_eq b h2 h3]
    simp only [Option.bind_some]
    have d : (a < 0) ↔ (b < 0) := by
      by_cases p : a < 0 <;> by_cases q : b < 0 <;> simp [p, q] at c ⊢
    rw [IntKind.wrap_u64]
    by_cases e : ((if a < 0 then -a else a) + (if b < 0 then -b else b)) % 18446744073709551616 < (if a < 0 then -a else a)
    · rw [if_pos e]
      rw [rcut_eq k _ _ _ (by omega) (by omega) hk]
      simp only [Option.bind_some]
      congr 1
      by_cases p : a < 0
      · have q := d.mp p
        rw [if_pos p, if_pos q] at e
        rw [if_pos (decide_eq_true p), if_neg (by decide), cutv_lo (a + b) (by omega), cutv_lo _ (by omega)]
      · have q : ¬ b < 0 := fun q => p (d.mpr q)
        rw [if_neg p, if_neg q] at e
        omega
    · rw [if_neg e]
      rw [rcut_eq k _ _ _ (by omega) (by omega) hk]
      simp only [Option.bind_some]
      congr 1
      by_cases p : a < 0
      · have q := d.mp p
        rw [if_pos p, if_pos q] at e
        rw [if_pos (decide_eq_true p), if_neg (by decide), if_pos p, if_pos q]
        congr 1
        omega
      · have q : ¬ b < 0 := fun q => p (d.mpr q)
        rw [if_neg p, if_neg q] at e
        rw [if_neg (by rw [decide_eq_false p]; decide), if_neg p, if_neg q]
        congr 1
        omega


theorem rmulf_eq (k : Nat) (a b : Int) (h0 : -9223372036854775808 ≤ a) (h1 : a ≤ 9223372036854775807) (h2 : -9223372036854775808 ≤ b) (h3 : b ≤ 9223372036854775807) (hk : 65 ≤ k) : analemmaref02_Mul.f k a b = some (mulv a b) := by
  unfold analemmaref02_Mul.f mulv
  rw [rsize_eq a h0 h1, rsize_eq b h2 h3]
  simp only [Option.bind_some]
  have sa := size_bd a h0 h1
  have sb := size_bd b h2 h3
  have hs := sizes_mul a b
  obtain ⟨m, hm⟩ : ∃ m, (if a < 0 then -a else a) = m := ⟨_, rfl⟩
  obtain ⟨n, hn⟩ : ∃ n, (if b < 0 then -b else b) = n := ⟨_, rfl⟩
  obtain ⟨s, hss⟩ : ∃ s, (decide (a < 0) != decide (b < 0)) = s := ⟨_, rfl⟩
  rw [hm] at sa hs ⊢
  rw [hn] at sb hs ⊢
  rw [hss] at hs ⊢
  have p0 : 0 ≤ m * n := Int.mul_nonneg sa.1 sb.1
  have p1 : m * n ≤ 9223372036854775808 * n := Int.mul_le_mul_of_nonneg_right sa.2 sb.1
  rw [rmul_eq k m n sa.1 (by omega) sb.1 (by omega) hk]
  simp only [Option.bind_some]
  obtain ⟨P, hP⟩ : ∃ P, m * n = P := ⟨_, rfl⟩
  obtain ⟨Q, hQ⟩ : ∃ Q, a * b = Q := ⟨_, rfl⟩
  rw [hP] at p0 p1 hs ⊢
  rw [hQ] at hs ⊢
  by_cases c : P / 18446744073709551616 ≥ 2147483648
  · rw [if_pos c, rcut_eq k _ _ _ (by omega) (by omega) (by omega)]
    simp only [Option.bind_some]
    congr 1
    cases s
    · rw [if_neg (by decide)] at hs ⊢
      rw [cutv_hi _ (by omega), cutv_hi _ (by omega)]
    · rw [if_pos rfl] at hs
      rw [if_pos rfl, if_neg (by decide), cutv_lo _ (by omega), cutv_lo _ (by omega)]
  · rw [if_neg c, IntKind.wrap_u64, IntKind.wrap_u64]
    have e1 : P / 18446744073709551616 * 4294967296 % 18446744073709551616 = P / 18446744073709551616 * 4294967296 := by omega
    rw [e1, or32 _ _ (by omega) (by omega) (by omega) (by omega), rcut_eq k _ _ _ (by omega) (by omega) (by omega)]
    simp only [Option.bind_some]
    congr 2
    cases s
    · rw [if_neg (by decide)] at hs ⊢
      omega
    · rw [if_pos rfl] at hs
      rw [if_pos rfl]
      by_cases z : P % 18446744073709551616 * 4294967296 % 18446744073709551616 = 0
      · rw [if_neg (by rw [z]; decide)]
        omega
      · rw [if_pos (by rw [bne_iff_ne]; exact z)]
        omega

theorem rsubf_eq (k : Nat) (a b : Int) (h0 : -9223372036854775808 ≤ a) (h1 : a ≤ 9223372036854775807) (h2 : -9223372036854775808 ≤ b) (h3 : b ≤ 9223372036854775807) (hk : 2 ≤ k) :
    analemmaref02_Sub.f k a b = some (cutv (a - b)) := by
  unfold analemmaref02_Sub.f
  by_cases p : a < 0
  · by_cases q : b < 0
    · rw [if_pos (by rw [decide_eq_true p, decide_eq_true q]; decide)]
      have : wrap64 (a - b) = a - b := by unfold wrap64; omega
      rw [this, cutv_mx _ (by omega)]
    · rw [if_neg (by rw [decide_eq_true p, decide_eq_false q]; decide), rsize_eq a h0 h1, rsize_eq b h2 h3]
      simp only [Option.bind_some]
      rw [if_pos p, if_neg q, IntKind.wrap_u64, if_neg (by omega), rcut_eq k _ _ _ (by omega) (by omega) hk]
      simp only [Option.bind_some]
      rw [if_pos (decide_eq_true p), if_neg (by decide)]
      congr 2
      omega
  · by_cases q : b < 0
    · rw [if_neg (by rw [decide_eq_false p, decide_eq_true q]; decide), rsize_eq a h0 h1, rsize_eq b h2 h3]
      simp only [Option.bind_some]
      rw [if_neg p, if_pos q, IntKind.wrap_u64, if_neg (by omega), rcut_eq k _ _ _ (by omega) (by omega) hk]
      simp only [Option.bind_some]
      rw [if_neg (by rw [decide_eq_false p]; decide)]
      congr 2
      omega
    · rw [if_pos (by rw [decide_eq_false p, decide_eq_false q]; decide)]
      have : wrap64 (a - b) = a - b := by unfold wrap64; omega
      rw [this, cutv_mx _ (by omega)]



end Go.Proofs.Ytoddgpaopejeoaa.Pure
