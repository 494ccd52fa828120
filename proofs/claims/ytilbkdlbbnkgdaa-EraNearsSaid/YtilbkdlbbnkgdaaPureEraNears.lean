/- Near and Precision answer as the reference does, as the printed functions tell it; the numbers are of their kinds, no other condition. -/
import Derived.Test.YtilbkdlbbnkgdaaMEraNearsx0
import Derived.Test.YtilbkdlbbnkgdaaMEraNearsx1
import Derived.Test.YtilbkdlbbnkgdaaMEraNearsx2
import Derived.Test.YtilbkdlbbnkgdaaMEraNearsx3
import Derived.Test.YtilbkdlbbnkgdaaMEraNearsx4
import Derived.OpenShut
import Derived.Laws.Bits64
import Derived.Laws.BitsLemmas
namespace Go.Proofs.Ytilbkdlbbnkgdaa.Pure
open Go.RowKit Go.Proofs.Ytilbkdlbbnkgdaa.MEraNears Go.Proofs.YtilbkdlbbnkgdaaW.PrintWords Go.Proofs.YtilbkdlbbnkgdaaW.PrintLast Go.Proofs.YtilbkdlbbnkgdaaW.PrintMore

theorem long_eq (n : Int) (h0 : 0 ≤ n) (h1 : n ≤ 4294967295) : era_Long.f n = some (n * 65536) := by
  unfold era_Long.f wrap64
  congr 1
  omega

def shortv (a : Int) : Int := if a ≤ 0 then 0 else if 4294967295 < (a + 65535) / 65536 then 4294967295 else (a + 65535) / 65536

theorem short_eq (a : Int) (h0 : -9223372036854775808 ≤ a) (h1 : a ≤ 9223372036854775807) : era_Short.f a = some (shortv a) := by
  unfold era_Short.f
  rw [long_eq _ (by omega) (by omega)]
  simp only [Option.bind_some]
  unfold shortv mx mn wrap64
  by_cases c : a < 0
  · simp only [if_pos c]
    rw [if_neg (by omega), if_pos (by omega : a ≤ 0), if_neg (by omega)]
    rfl
  · simp only [if_neg c]
    by_cases d : a ≤ 0
    · rw [if_pos d, if_neg (by omega), if_neg (by omega)]
      congr 1
      omega
    · rw [if_neg d]
      split <;> rename_i e
      · split <;> rename_i f
        · split <;> rename_i g <;> congr 1 <;> omega
        · split <;> rename_i g <;> congr 1 <;> omega
      · split <;> rename_i f
        · split <;> rename_i g <;> congr 1 <;> omega
        · split <;> rename_i g <;> congr 1 <;> omega

def diffv (a b : Int) : Int := mx ((a - b + 9223372036854775808) % 18446744073709551616 - 9223372036854775808) (-9223372036854775807)

theorem diff_eq (a b : Int) : era_Diff.f a b = some (diffv a b) := by
  unfold era_Diff.f diffv wrap64
  rw [IntKind.wrap_u64]
  congr 2
  omega

theorem shown_eq : analemmalaw04_shown.f = some true := by decide +kernel

def nearv (s b : Int) : Int :=
  if b % 4294967296 = s then b
  else if (b / 4294967296) * 4294967296 + s - b ≥ 2147483648 then (b / 4294967296 - 1) * 4294967296 + s
  else if (b / 4294967296) * 4294967296 + s - b < -2147483648 then (b / 4294967296 + 1) * 4294967296 + s
  else (b / 4294967296) * 4294967296 + s

theorem seconds_eq (e s : Int) (h0 : -1073741825 ≤ e) (h1 : e ≤ 1073741825) (h2 : 0 ≤ s) (h3 : s ≤ 4294967295) : era_round_seconds.f e s = some (e * 4294967296 + s) := by
  unfold era_round_seconds.f wrap64
  congr 1
  omega

def clampv (a : Int) : Int := if a < -4611686018427387904 then -4611686018427387904 else if a > 4611686018427387904 then 4611686018427387904 else a

theorem clampv_bd (a : Int) : -4611686018427387904 ≤ clampv a ∧ clampv a ≤ 4611686018427387904 := by
  unfold clampv
  split
  · omega
  · split <;> omega

theorem clamp_eq (a : Int) : fix_Clamp.f a (-4611686018427387904) 4611686018427387904 = some (clampv a) := by
  unfold fix_Clamp.f clampv mx
  (repeat' split) <;> first | rfl | (exfalso; omega)

theorem near_eq (s a : Int) (h0 : 0 ≤ s) (h1 : s ≤ 4294967295) : era_Near.f s a = some (nearv s (clampv a)) := by
  have hb := clampv_bd a
  unfold era_Near.f
  rw [clamp_eq]
  simp only [Option.bind_some]
  obtain ⟨b, hbb⟩ : ∃ b, clampv a = b := ⟨_, rfl⟩
  rw [hbb] at hb ⊢
  unfold nearv wrap64
  by_cases c : b % 4294967296 = s
  · rw [if_pos c, if_pos (by rw [c]; exact beq_self_eq_true s)]
  · rw [if_neg c, if_neg (by rw [beq_iff_eq]; omega), seconds_eq _ _ (by omega) (by omega) h0 h1]
    simp only [Option.bind_some]
    by_cases d : (b / 4294967296) * 4294967296 + s - b ≥ 2147483648
    · rw [if_pos d, if_pos (by omega), seconds_eq _ _ (by omega) (by omega) h0 h1]
      simp only [Option.bind_some]
      congr 1
      omega
    · rw [if_neg d, if_neg (by omega)]
      by_cases e : (b / 4294967296) * 4294967296 + s - b < -2147483648
      · rw [if_pos e, if_pos (by omega), seconds_eq _ _ (by omega) (by omega) h0 h1]
        simp only [Option.bind_some]
        congr 1
        omega
      · rw [if_neg e, if_neg (by omega)]


def cutv (x : Int) : Int := if x < -9223372036854775807 then -9223372036854775807 else if x > 9223372036854775807 then 9223372036854775807 else x

theorem cutv_bd (x : Int) : -9223372036854775807 ≤ cutv x ∧ cutv x ≤ 9223372036854775807 := by
  unfold cutv
  split
  · omega
  · split <;> omega

theorem cutv_id (x : Int) (h0 : -9223372036854775807 ≤ x) (h1 : x ≤ 9223372036854775807) : cutv x = x := by
  unfold cutv
  rw [if_neg (by omega), if_neg (by omega)]

theorem cutv_hi (x : Int) (h : 9223372036854775807 ≤ x) : cutv x = 9223372036854775807 := by
  unfold cutv
  split
  · omega
  · split <;> omega

theorem cutv_lo (x : Int) (h : x ≤ -9223372036854775807) : cutv x = -9223372036854775807 := by
  unfold cutv
  split
  · omega
  · split <;> omega

theorem cutv_mono (x y : Int) (h : x ≤ y) : cutv x ≤ cutv y := by
  unfold cutv
  (repeat' split) <;> omega

theorem cutv_mx (x : Int) (h1 : x ≤ 9223372036854775807) : mx x (-9223372036854775807) = cutv x := by
  unfold cutv mx
  (repeat' split) <;> omega

theorem pow2_pos (n : Nat) : (0 : Int) < 2 ^ n := Int.pow_pos (by decide)

theorem pow2_mono (m n : Nat) (h : m ≤ n) : (2 : Int) ^ m ≤ 2 ^ n := by
  have h1 : (2 : Nat) ^ m ≤ 2 ^ n := Nat.pow_le_pow_right (by decide) h
  have h2 : ((2 : Int) ^ m) = ((2 ^ m : Nat) : Int) := by simp
  have h3 : ((2 : Int) ^ n) = ((2 ^ n : Nat) : Int) := by simp
  rw [h2, h3]
  exact_mod_cast h1

theorem pow2_succ (n : Nat) : (2 : Int) ^ (n + 1) = 2 * 2 ^ n := by rw [Int.pow_succ]; omega

theorem mul_le_left (a b c : Int) (hc : 0 ≤ c) (h : a ≤ b) : a * c ≤ b * c := Int.mul_le_mul_of_nonneg_right h hc

theorem div_far (a b : Int) (hb : 9223372036854775808 ≤ b) (h0 : -9223372036854775808 ≤ a) (h1 : a ≤ 9223372036854775807) : a / b = if a < 0 then -1 else 0 := by
  by_cases c : a < 0
  · rw [if_pos c]
    have h2 : -1 ≤ a / b := Int.le_ediv_of_mul_le (by omega) (by omega)
    have h3 : a / b < 0 := Int.ediv_lt_of_lt_mul (by omega) (by omega)
    omega
  · rw [if_neg c]
    exact Int.ediv_eq_zero_of_lt (by omega) (by omega)

theorem cutv_mul (y p : Int) (hp : 1 ≤ p) : cutv (cutv y * p) = cutv (y * p) := by
  by_cases c : y < -9223372036854775807
  · have h1 : y * p ≤ y * 1 := Int.mul_le_mul_of_nonpos_left (by omega) hp
    have h2 : -9223372036854775807 * p ≤ -9223372036854775807 * 1 := Int.mul_le_mul_of_nonpos_left (by omega) hp
    rw [cutv_lo y (by omega), cutv_lo (y * p) (by omega), cutv_lo _ (by omega)]
  · by_cases d : y > 9223372036854775807
    · have h1 : y * 1 ≤ y * p := Int.mul_le_mul_of_nonneg_left hp (by omega)
      have h2 : 9223372036854775807 * 1 ≤ 9223372036854775807 * p := Int.mul_le_mul_of_nonneg_left hp (by omega)
      rw [cutv_hi y (by omega), cutv_hi (y * p) (by omega), cutv_hi _ (by omega)]
    · rw [cutv_id y (by omega) (by omega)]

def shiftv (a n : Int) : Int := if n ≤ 0 then cutv (a / 2 ^ (-n).toNat) else cutv (a * 2 ^ n.toNat)

theorem shiftv_bd (a n : Int) : -9223372036854775807 ≤ shiftv a n ∧ shiftv a n ≤ 9223372036854775807 := by
  unfold shiftv
  split <;> exact cutv_bd _

theorem logv_spec (n : Int) (h : 0 < n) : ∃ l : Nat, wide_Log.v n = (l : Int) ∧ (2 : Int) ^ l ≤ n ∧ n < 2 ^ (l + 1) := by
  refine ⟨Nat.log2 n.toNat, ?_, ?_, ?_⟩
  · unfold wide_Log.v
    rw [if_neg (by omega)]
  · have h1 := Nat.log2_self_le (n := n.toNat) (by omega)
    have h2 : ((2 : Int) ^ Nat.log2 n.toNat) = ((2 ^ Nat.log2 n.toNat : Nat) : Int) := by simp
    rw [h2]
    omega
  · have h1 : n.toNat < 2 ^ (Nat.log2 n.toNat + 1) := Nat.lt_log2_self
    have h2 : ((2 : Int) ^ (Nat.log2 n.toNat + 1)) = ((2 ^ (Nat.log2 n.toNat + 1) : Nat) : Int) := by simp
    rw [h2]
    omega

theorem logv_zero (n : Int) (h : n ≤ 0) : wide_Log.v n = -1 := by
  unfold wide_Log.v
  rw [if_pos h]

theorem log_eq (n : Int) (h0 : 0 ≤ n) (h1 : n ≤ 18446744073709551615) : wide_Log.f n = some (wide_Log.v n) := by
  unfold wide_Log.f
  rw [if_pos ⟨h0, h1⟩]

theorem pow_lt_64 (l : Nat) (n : Int) (h : (2 : Int) ^ l ≤ n) (hn : n ≤ 18446744073709551615) : l ≤ 63 := by
  by_cases c : l ≤ 63
  · exact c
  · have h1 := pow2_mono 64 l (by omega)
    have h2 : (2 : Int) ^ 64 = 18446744073709551616 := by decide
    omega

theorem pow_lt_63 (l : Nat) (n : Int) (h : (2 : Int) ^ l ≤ n) (hn : n ≤ 9223372036854775807) : l ≤ 62 := by
  by_cases c : l ≤ 62
  · exact c
  · have h1 := pow2_mono 63 l (by omega)
    have h2 : (2 : Int) ^ 63 = 9223372036854775808 := by decide
    omega

theorem size_eq (a : Int) (h0 : -9223372036854775808 ≤ a) (h1 : a ≤ 9223372036854775807) : fix_size.f a = some (if a < 0 then -a else a, decide (a < 0)) := by
  unfold fix_size.f
  rw [IntKind.wrap_u64, IntKind.wrap_u64]
  by_cases c : a < 0
  · rw [if_pos c, if_pos c, decide_eq_true c]
    congr 2
    omega
  · rw [if_neg c, if_neg c, decide_eq_false c]
    congr 2
    omega

theorem cut_eq (n rest : Int) (b : Bool) (h0 : 0 ≤ n) (h1 : n ≤ 18446744073709551615) : fix_cut.f n rest b = some (cutv (if b = true then (if rest > 0 then -n - 1 else -n) else n)) := by
  unfold fix_cut.f mn wrap64 cutv
  rw [IntKind.wrap_u64]
  (repeat' split) <;> first | (exfalso; omega) | (congr 1 <;> omega)

theorem shift_eq (a n : Int) (h0 : -9223372036854775808 ≤ a) (h1 : a ≤ 9223372036854775807) (h2 : -9223372036854775808 ≤ n) (h3 : n ≤ 9223372036854775807) :
    fix_Shift.f a n = some (shiftv a n) := by
  unfold fix_Shift.f shiftv
  by_cases c : n ≤ 0
  · rw [if_pos c, if_pos c, if_pos (by omega)]
    have e : fix_Shift.m n = if -n < 63 then -n else 63 := by
      unfold fix_Shift.m
      (repeat' split) <;> omega
    rw [e]
    by_cases d : -n < 63
    · rw [if_pos d, cutv_mx]
      have hp := pow2_pos (-n).toNat
      have : a / 2 ^ (-n).toNat < 9223372036854775808 := Int.ediv_lt_of_lt_mul hp (by
        have := Int.mul_le_mul_of_nonneg_left (show (1 : Int) ≤ 2 ^ (-n).toNat by omega) (show (0 : Int) ≤ 9223372036854775808 by omega)
        omega)
      omega
    · rw [if_neg d]
      have e1 : ((63 : Int).toNat) = 63 := rfl
      have e2 : (2 : Int) ^ 63 = 9223372036854775808 := by decide
      have e3 := pow2_mono 63 (-n).toNat (by omega)
      rw [e1, div_far a _ (by omega) h0 h1, div_far a _ (by omega) h0 h1, cutv_mx]
      split <;> omega
  · rw [if_neg c, if_neg c, size_eq a h0 h1]
    simp only [Option.bind_some]
    by_cases z : (if a < 0 then -a else a) > 0
    · rw [if_pos z, log_eq _ (by omega) (by split <;> omega)]
      simp only [Option.bind_some]
      obtain ⟨l, hl, hl1, hl2⟩ := logv_spec _ z
      have hl3 := pow_lt_64 l _ hl1 (by split <;> omega)
      rw [hl]
      have em : mn n 64 = if 64 < n then 64 else n := rfl
      have hw : wrap64 ((l : Int) + mn n 64) = (l : Int) + mn n 64 := by
        unfold wrap64
        rw [em]
        split <;> omega
      rw [hw, em]
      have hp := pow2_pos n.toNat
      by_cases d : (l : Int) + (if 64 < n then 64 else n) ≥ 63
      · rw [if_pos d, cut_eq _ _ _ (by omega) (by omega)]
        congr 1
        have hbig : 9223372036854775808 ≤ (if a < 0 then -a else a) * 2 ^ n.toNat := by
          have e1 : (2 : Int) ^ 63 ≤ 2 ^ (l + n.toNat) := pow2_mono _ _ (by split at d <;> omega)
          rw [Int.pow_add] at e1
          have e2 : (2 : Int) ^ 63 = 9223372036854775808 := by decide
          have e3 := mul_le_left _ _ (2 ^ n.toNat) (by omega) hl1
          omega
        by_cases s : a < 0
        · rw [if_pos s, Int.neg_mul] at hbig
          rw [if_pos (decide_eq_true s), if_neg (by omega), cutv_lo (a * 2 ^ n.toNat) (by omega), cutv_lo _ (by omega)]
        · rw [if_neg s] at hbig
          rw [if_neg (by rw [decide_eq_false s]; decide), cutv_hi (a * 2 ^ n.toNat) (by omega), cutv_hi _ (by omega)]
      · rw [if_neg d]
        have hn : n < 63 := by split at d <;> omega
        have em2 : mn n 63 = n := by unfold mn; rw [if_neg (by omega)]
        rw [em2]
        have hsm : (if a < 0 then -a else a) * 2 ^ n.toNat < 9223372036854775808 := by
          have e1 : (2 : Int) ^ (l + 1 + n.toNat) ≤ 2 ^ 63 := pow2_mono _ _ (by split at d <;> omega)
          rw [Int.pow_add] at e1
          have e2 : (2 : Int) ^ 63 = 9223372036854775808 := by decide
          have e3 := Int.mul_lt_mul_of_pos_right hl2 hp
          omega
        have hge : 0 ≤ (if a < 0 then -a else a) * 2 ^ n.toNat := Int.mul_nonneg (by split <;> omega) (by omega)
        have hu : IntKind.u64.wrap ((if a < 0 then -a else a) * 2 ^ n.toNat) = (if a < 0 then -a else a) * 2 ^ n.toNat := by
          rw [IntKind.wrap_u64]
          omega
        rw [hu, cut_eq _ _ _ hge (by omega)]
        congr 1
        by_cases s : a < 0
        · rw [if_pos (decide_eq_true s), if_neg (by omega), if_pos s, Int.neg_mul, Int.neg_neg]
        · rw [if_neg (by rw [decide_eq_false s]; decide), if_neg s]
    · rw [if_neg z]
      have ha : a = 0 := by split at z <;> omega
      subst ha
      have e0 : (if (0 : Int) < 0 then -0 else 0) = 0 := rfl
      rw [e0, Int.zero_mul, Int.zero_mul]
      have hu : IntKind.u64.wrap 0 = 0 := rfl
      rw [hu, cut_eq _ _ _ (by omega) (by omega)]
      rfl

theorem powf_eq (n : Int) (h2 : -9223372036854775808 ≤ n) (h3 : n ≤ 9223372036854775807) : fix_Pow.f n = some (shiftv 4294967296 n) := by
  unfold fix_Pow.f
  rw [shift_eq _ n (by omega) (by omega) h2 h3]
  rfl

theorem logf_eq (a : Int) (h0 : -9223372036854775808 ≤ a) (h1 : a ≤ 9223372036854775807) : fix_Log.f a = some (wide_Log.v a - 32) := by
  unfold fix_Log.f
  rw [IntKind.wrap_u64]
  have e : mx a 0 = if a < 0 then 0 else a := rfl
  rw [e]
  by_cases c : a ≤ 0
  · have e1 : (if a < 0 then 0 else a) % 18446744073709551616 = 0 := by split <;> omega
    rw [e1, log_eq 0 (by omega) (by omega), logv_zero 0 (by omega), logv_zero a c]
    decide +kernel
  · have e1 : (if a < 0 then 0 else a) % 18446744073709551616 = a := by split <;> omega
    rw [e1, log_eq a (by omega) (by omega)]
    obtain ⟨l, hl, hl1, hl2⟩ := logv_spec a (by omega)
    have hl3 := pow_lt_64 l _ hl1 (by omega)
    rw [hl]
    simp only [Option.bind_some]
    congr 1
    unfold wrap64
    omega

theorem rsize_eq (a : Int) (h0 : -9223372036854775808 ≤ a) (h1 : a ≤ 9223372036854775807) : analemmaref02_size.f a = some (if a < 0 then -a else a) := by
  unfold analemmaref02_size.f
  rw [IntKind.wrap_u64, IntKind.wrap_u64]
  by_cases c : a < 0
  · rw [if_pos c, if_pos c]
    congr 1
    omega
  · rw [if_neg c, if_neg c]
    congr 1
    omega

theorem rcut_eq (k : Nat) (m : Bool) (n : Int) (rest : Bool) (h0 : 0 ≤ n) (h1 : n ≤ 18446744073709551615) (hk : 2 ≤ k) :
    analemmaref02_Cut.f k m n rest = some (cutv (if m = true then (if rest = true then -n - 1 else -n) else n)) := by
  obtain ⟨k, rfl⟩ : ∃ j, k = j + 2 := ⟨k - 2, by omega⟩
  unfold analemmaref02_Cut.f
  simp only [analemmaref02_Cut.j0, analemmaref02_Cut.j1, IntKind.wrap_u64]
  unfold cutv wrap64
  cases m <;> cases rest <;> simp only [if_true, if_false, decide_eq_true_eq, Bool.false_eq_true] <;> (repeat' split) <;> first | (exfalso; omega) | (congr 1 <;> omega)

theorem radd_eq (k : Nat) (a b : Int) (h0 : -9223372036854775808 ≤ a) (h1 : a ≤ 9223372036854775807) (h2 : -9223372036854775808 ≤ b) (h3 : b ≤ 9223372036854775807) (hk : 2 ≤ k) :
    analemmaref02_Add.f k a b = some (cutv (a + b)) := by
  unfold analemmaref02_Add.f
  by_cases c : (decide (a < 0) != decide (b < 0)) = true
  · rw [if_pos c]
    congr 1
    have d : (a < 0) ≠ (b < 0) := by
      intro e
      rw [bne_iff_ne] at c
      exact c (by simp only [e])
    have e : a + b ≤ 9223372036854775807 ∧ -9223372036854775808 ≤ a + b := by
      by_cases p : a < 0 <;> by_cases q : b < 0 <;> first | (exfalso; simp [p, q] at d; done) | omega
    have : wrap64 (a + b) = a + b := by unfold wrap64; omega
    rw [this, cutv_mx _ e.1]
  · rw [if_neg c, rsize_eq a h0 h1, rsize_eq b h2 h3]
    simp only [Option.bind_some]
    have d : (a < 0) ↔ (b < 0) := by
      by_cases p : a < 0 <;> by_cases q : b < 0 <;> simp [p, q] at c ⊢
    rw [IntKind.wrap_u64]
    by_cases e : ((if a < 0 then -a else a) + (if b < 0 then -b else b)) % 18446744073709551616 < (if a < 0 then -a else a)
    · rw [if_pos e]
      rw [rcut_eq k _ _ _ (by omega) (by omega) hk]
      simp only [Option.bind_some]
      congr 1
      by_cases p : a < 0
      · have q := d.mp p
        rw [if_pos p, if_pos q] at e
        rw [if_pos (decide_eq_true p), if_neg (by decide), cutv_lo (a + b) (by omega), cutv_lo _ (by omega)]
      · have q : ¬ b < 0 := fun q => p (d.mpr q)
        rw [if_neg p, if_neg q] at e
        omega
    · rw [if_neg e]
      rw [rcut_eq k _ _ _ (by omega) (by omega) hk]
      simp only [Option.bind_some]
      congr 1
      by_cases p : a < 0
      · have q := d.mp p
        rw [if_pos p, if_pos q] at e
        rw [if_pos (decide_eq_true p), if_neg (by decide), if_pos p, if_pos q]
        congr 1
        omega
      · have q : ¬ b < 0 := fun q => p (d.mpr q)
        rw [if_neg p, if_neg q] at e
        rw [if_neg (by rw [decide_eq_false p]; decide), if_neg p, if_neg q]
        congr 1
        omega

theorem rshift_l1 (m : Nat) : ∀ (k : Nat) (x : Int), -9223372036854775808 ≤ x → x ≤ 9223372036854775807 → m ≤ 1000 → m + 3 ≤ k → analemmaref02_Shift.l1 k x m = some (cutv (x * 2 ^ m)) := by
  induction m with
  | zero =>
    intro k x h0 h1 hm hk
    obtain ⟨k, rfl⟩ : ∃ j, k = j + 1 := ⟨k - 1, by omega⟩
    simp only [analemmaref02_Shift.l1]
    rw [if_neg (by omega), cutv_mx x h1]
    congr 2
    have : (2 : Int) ^ 0 = 1 := rfl
    rw [this]
    omega
  | succ m ih =>
    intro k x h0 h1 hm hk
    obtain ⟨k, rfl⟩ : ∃ j, k = j + 1 := ⟨k - 1, by omega⟩
    simp only [analemmaref02_Shift.l1]
    rw [if_pos (by omega)]
    by_cases c : x = 0
    · subst c
      rw [if_pos rfl, Int.zero_mul]
      rfl
    · rw [if_neg c, radd_eq k x x h0 h1 h0 h1 (by omega)]
      simp only [Option.bind_some]
      have e : wrap64 (((m + 1 : Nat) : Int) - 1) = (m : Int) := by unfold wrap64; omega
      have b := cutv_bd (x + x)
      rw [e, ih k _ (by omega) (by omega) (by omega) (by omega), cutv_mul _ _ (by have := pow2_pos m; omega), pow2_succ]
      congr 2
      rw [← Int.mul_assoc]
      congr 1
      omega

theorem rshift_l0 (m : Nat) : ∀ (k : Nat) (x : Int), -9223372036854775808 ≤ x → x ≤ 9223372036854775807 → m ≤ 1000 → m + 5 ≤ k → analemmaref02_Shift.l0 k x (-(m : Int)) = some (cutv (x / 2 ^ m)) := by
  induction m with
  | zero =>
    intro k x h0 h1 hm hk
    obtain ⟨k, rfl⟩ : ∃ j, k = j + 2 := ⟨k - 2, by omega⟩
    simp only [analemmaref02_Shift.l0, analemmaref02_Shift.j1]
    rw [if_neg (by omega), if_neg (by omega)]
    have := rshift_l1 0 k x h0 h1 (by omega) (by omega)
    have e : (-((0 : Nat) : Int)) = ((0 : Nat) : Int) := rfl
    rw [e, this]
    congr 2
    have : (2 : Int) ^ 0 = 1 := rfl
    rw [this]
    omega
  | succ m ih =>
    intro k x h0 h1 hm hk
    obtain ⟨k, rfl⟩ : ∃ j, k = j + 2 := ⟨k - 2, by omega⟩
    have hp := pow2_pos (m + 1)
    rw [analemmaref02_Shift.l0]
    rw [if_pos (by omega)]
    by_cases c : x = 0
    · subst c
      rw [if_pos rfl]
      simp only [analemmaref02_Shift.j1]
      rw [if_pos (by omega), Int.zero_ediv]
      rfl
    · rw [if_neg c]
      by_cases d : x = -1
      · subst d
        rw [if_pos rfl]
        simp only [analemmaref02_Shift.j1]
        rw [if_pos (by omega)]
        have h2 : -1 ≤ (-1 : Int) / 2 ^ (m + 1) := Int.le_ediv_of_mul_le hp (by omega)
        have h3 : (-1 : Int) / 2 ^ (m + 1) < 0 := Int.ediv_lt_of_lt_mul hp (by omega)
        have h4 : (-1 : Int) / 2 ^ (m + 1) = -1 := by omega
        rw [h4]
        rfl
      · rw [if_neg d]
        have e : wrap64 (-((m + 1 : Nat) : Int) + 1) = -(m : Int) := by unfold wrap64; omega
        rw [e, ih (k + 1) _ (by omega) (by omega) (by omega) (by omega), pow2_succ]
        congr 2
        rw [Int.ediv_ediv_of_nonneg (by omega)]

theorem rshift_eq (k : Nat) (a n : Int) (h0 : -9223372036854775808 ≤ a) (h1 : a ≤ 9223372036854775807) (hk : 1010 ≤ k) : analemmaref02_Shift.f k a n = some (shiftv a n) := by
  unfold analemmaref02_Shift.f
  have e : mx (-1000) (mn n 1000) = if n < -1000 then -1000 else if n > 1000 then 1000 else n := by
    unfold mx mn
    (repeat' split) <;> omega
  rw [e]
  have e63 : (2 : Int) ^ 63 = 9223372036854775808 := by decide
  by_cases c : n ≤ 0
  · obtain ⟨m, hm⟩ : ∃ m : Nat, (if n < -1000 then -1000 else if n > 1000 then 1000 else n) = -(m : Int) := ⟨(-(if n < -1000 then -1000 else if n > 1000 then 1000 else n)).toNat, by (repeat' split) <;> omega⟩
    have hm1 : m ≤ 1000 ∧ m ≤ (-n).toNat ∧ (m = (-n).toNat ∨ m = 1000 ∧ 1000 ≤ (-n).toNat) := by
      (repeat' split at hm) <;> omega
    rw [hm, rshift_l0 m k a h0 h1 hm1.1 (by omega)]
    unfold shiftv
    rw [if_pos c]
    congr 1
    rcases hm1.2.2 with h | ⟨h, h'⟩
    · rw [h]
    · have p1 := pow2_mono 63 m (by omega)
      have p2 := pow2_mono 63 (-n).toNat (by omega)
      rw [div_far a _ (by omega) h0 h1, div_far a _ (by omega) h0 h1]
  · obtain ⟨m, hm⟩ : ∃ m : Nat, (if n < -1000 then -1000 else if n > 1000 then 1000 else n) = (m : Int) := ⟨(if n < -1000 then -1000 else if n > 1000 then 1000 else n).toNat, by (repeat' split) <;> omega⟩
    have hm1 : 0 < m ∧ m ≤ 1000 ∧ (m = n.toNat ∨ m = 1000 ∧ 1000 ≤ n.toNat) := by
      (repeat' split at hm) <;> omega
    obtain ⟨k, rfl⟩ : ∃ j, k = j + 2 := ⟨k - 2, by omega⟩
    rw [hm]
    simp only [analemmaref02_Shift.l0, analemmaref02_Shift.j1]
    rw [if_neg (by omega), if_neg (by omega), rshift_l1 m k a h0 h1 hm1.2.1 (by omega)]
    unfold shiftv
    rw [if_neg c]
    congr 1
    rcases hm1.2.2 with h | ⟨h, h'⟩
    · rw [h]
    · have p1 := pow2_mono 63 m (by omega)
      have p2 := pow2_mono 63 n.toNat (by omega)
      by_cases z : a = 0
      · subst z
        rw [Int.zero_mul, Int.zero_mul]
      · by_cases s : a < 0
        · have q1 : a * 2 ^ m ≤ -1 * 2 ^ m := mul_le_left _ _ _ (by omega) (by omega)
          have q2 : a * 2 ^ n.toNat ≤ -1 * 2 ^ n.toNat := mul_le_left _ _ _ (by omega) (by omega)
          rw [cutv_lo _ (by omega), cutv_lo _ (by omega)]
        · have q1 : 1 * 2 ^ m ≤ a * 2 ^ m := mul_le_left _ _ _ (by omega) (by omega)
          have q2 : 1 * 2 ^ n.toNat ≤ a * 2 ^ n.toNat := mul_le_left _ _ _ (by omega) (by omega)
          rw [cutv_hi _ (by omega), cutv_hi _ (by omega)]


theorem rpow_eq (k : Nat) (n : Int) (hk : 1010 ≤ k) : analemmaref02_Pow.f k n = some (shiftv 4294967296 n) := by
  unfold analemmaref02_Pow.f
  rw [rshift_eq k _ n (by omega) (by omega) hk]
  rfl

theorem prec_pow (l : Nat) (h : l ≤ 62) : shiftv 4294967296 ((l : Int) - 32) = 2 ^ l := by
  have e32 : (2 : Int) ^ 32 = 4294967296 := by decide
  have e62 : (2 : Int) ^ 62 = 4611686018427387904 := by decide
  have hl := pow2_mono l 62 h
  have hp := pow2_pos l
  unfold shiftv
  by_cases c : (l : Int) - 32 ≤ 0
  · rw [if_pos c]
    have e : (-((l : Int) - 32)).toNat = 32 - l := by omega
    have e1 : (4294967296 : Int) = 2 ^ l * 2 ^ (32 - l) := by rw [← Int.pow_add, show l + (32 - l) = 32 by omega, e32]
    rw [e]
    have e2 : (4294967296 : Int) / 2 ^ (32 - l) = 2 ^ l := by
      rw [e1]
      exact Int.mul_ediv_cancel _ (by have := pow2_pos (32 - l); omega)
    rw [e2, cutv_id _ (by omega) (by omega)]
  · rw [if_neg c]
    have e : ((l : Int) - 32).toNat = l - 32 := by omega
    have e1 : (4294967296 : Int) * 2 ^ (l - 32) = 2 ^ l := by rw [← e32, ← Int.pow_add, show 32 + (l - 32) = l by omega]
    rw [e, e1, cutv_id _ (by omega) (by omega)]

def precv (a : Int) : Int := if a ≤ 0 then -32 else if 2 ^ (Nat.log2 a.toNat) < a then mn ((Nat.log2 a.toNat : Int) - 31) 31 else (Nat.log2 a.toNat : Int) - 32

theorem prec_eq (a : Int) (h0 : -9223372036854775808 ≤ a) (h1 : a ≤ 9223372036854775807) : era_Precision.f a = some (precv a) := by
  unfold era_Precision.f precv
  rw [logf_eq a h0 h1]
  simp only [Option.bind_some]
  by_cases c : a ≤ 0
  · rw [if_neg (by omega), if_pos c, logv_zero a c]
    rfl
  · rw [if_pos (by omega), if_neg c]
    obtain ⟨l, hl, hl1, hl2⟩ := logv_spec a (by omega)
    have e : wide_Log.v a = (Nat.log2 a.toNat : Int) := by
      unfold wide_Log.v
      rw [if_neg c]
    have e1 : Nat.log2 a.toNat = l := by omega
    have hl3 := pow_lt_63 l a hl1 h1
    rw [hl, e1, powf_eq _ (by omega) (by omega), prec_pow l hl3]
    simp only [Option.bind_some]
    split
    · congr 1
      unfold mn mx wrap64
      (repeat' split) <;> omega
    · congr 1
      unfold mn mx
      (repeat' split) <;> omega

theorem precv_tells (a : Int) (h1 : a ≤ 9223372036854775807) : -32 ≤ precv a ∧ precv a ≤ 31 ∧ (precv a < 31 → a ≤ shiftv 4294967296 (precv a)) ∧ (precv a ≠ -32 → shiftv 4294967296 (precv a - 1) < a) := by
  unfold precv
  by_cases c : a ≤ 0
  · rw [if_pos c]
    have b : shiftv 4294967296 (-32) = 1 := by decide
    rw [b]
    omega
  · rw [if_neg c]
    obtain ⟨l, hl, hl1, hl2⟩ := logv_spec a (by omega)
    have e : wide_Log.v a = (Nat.log2 a.toNat : Int) := by
      unfold wide_Log.v
      rw [if_neg c]
    have e1 : Nat.log2 a.toNat = l := by omega
    have hl3 := pow_lt_63 l a hl1 h1
    rw [e1]
    split
    · rename_i d
      have em : mn ((l : Int) - 31) 31 = (l : Int) - 31 := by unfold mn; rw [if_neg (by omega)]
      rw [em]
      refine ⟨by omega, by omega, fun h => ?_, fun _ => ?_⟩
      · have e2 : (l : Int) - 31 = ((l + 1 : Nat) : Int) - 32 := by omega
        rw [e2, prec_pow (l + 1) (by omega)]
        omega
      · have e2 : (l : Int) - 31 - 1 = (l : Int) - 32 := by omega
        rw [e2, prec_pow l hl3]
        exact d
    · rename_i d
      refine ⟨by omega, by omega, fun _ => ?_, fun h => ?_⟩
      · rw [prec_pow l hl3]
        omega
      · have e2 : (l : Int) - 32 - 1 = ((l - 1 : Nat) : Int) - 32 := by omega
        rw [e2, prec_pow (l - 1) (by omega)]
        have := pow2_succ (l - 1)
        rw [show l - 1 + 1 = l by omega] at this
        have := pow2_pos (l - 1)
        omega

theorem rprec_l0 (a : Int) (h1 : a ≤ 9223372036854775807) (d : Nat) : ∀ (k : Nat) (x : Int), -32 ≤ x → x ≤ precv a → precv a - x = (d : Int) → (∀ y, x ≤ y → y < precv a → shiftv 4294967296 y < a) → 1012 + d ≤ k →
    analemmaref04_Precision.l0 k a x = some (precv a) := by
  obtain ⟨p0, p1, p2, p3⟩ := precv_tells a h1
  induction d with
  | zero =>
    intro k x hx0 hx1 hd hy hk
    obtain ⟨k, rfl⟩ : ∃ j, k = j + 1 := ⟨k - 1, by omega⟩
    have e : x = precv a := by omega
    subst e
    simp only [analemmaref04_Precision.l0]
    by_cases c : precv a < 31
    · rw [if_pos c, rpow_eq k _ (by omega)]
      simp only [Option.bind_some]
      rw [if_neg (by have := p2 c; omega)]
    · rw [if_neg c]
  | succ d ih =>
    intro k x hx0 hx1 hd hy hk
    obtain ⟨k, rfl⟩ : ∃ j, k = j + 1 := ⟨k - 1, by omega⟩
    simp only [analemmaref04_Precision.l0]
    rw [if_pos (by omega), rpow_eq k _ (by omega)]
    simp only [Option.bind_some]
    have e : wrap64 (x + 1) = x + 1 := by unfold wrap64; omega
    rw [if_pos (hy x (by omega) (by omega)), e, ih k (x + 1) (by omega) (by omega) (by omega) (fun y q1 q2 => hy y (by omega) q2) (by omega)]

theorem pow_rises (l m : Nat) (h : l ≤ m) (hm : m ≤ 62) : shiftv 4294967296 ((l : Int) - 32) ≤ shiftv 4294967296 ((m : Int) - 32) := by
  rw [prec_pow l (by omega), prec_pow m hm]
  exact pow2_mono l m h

theorem rprec_eq (k : Nat) (a : Int) (h1 : a ≤ 9223372036854775807) (hk : 1100 ≤ k) : analemmaref04_Precision.f k a = some (precv a) := by
  obtain ⟨p0, p1, p2, p3⟩ := precv_tells a h1
  unfold analemmaref04_Precision.f
  refine rprec_l0 a h1 (precv a + 32).toNat k (-32) (by omega) (by omega) (by omega) (fun y q1 q2 => ?_) (by omega)
  have h := p3 (by omega)
  obtain ⟨l, hl⟩ : ∃ l : Nat, y = (l : Int) - 32 := ⟨(y + 32).toNat, by omega⟩
  obtain ⟨m, hm⟩ : ∃ m : Nat, precv a - 1 = (m : Int) - 32 := ⟨(precv a + 31).toNat, by omega⟩
  have := pow_rises l m (by omega) (by omega)
  rw [hl]
  rw [hm] at h
  omega

set_option maxHeartbeats 4000000 in
theorem rnear_eq (s a : Int) (h0 : 0 ≤ s) (h1 : s ≤ 4294967295) (ha0 : -9223372036854775808 ≤ a) (ha1 : a ≤ 9223372036854775807) (k : Nat) (hk : 8 ≤ k) : analemmaref04_Near.f k s a = some (nearv s (clampv a)) := by
  obtain ⟨k, rfl⟩ : ∃ j, k = j + 8 := ⟨k - 8, by omega⟩
  have em : mx (-4611686018427387904) (mn a 4611686018427387904) = clampv a := by
    unfold mx mn clampv
    (repeat' split) <;> omega
  have hb := clampv_bd a
  unfold analemmaref04_Near.f
  rw [em]
  obtain ⟨b, hbb⟩ : ∃ b, clampv a = b := ⟨_, rfl⟩
  rw [hbb] at hb ⊢
  have hj : (if (Int.tmod b 4294967296) < 0 then analemmaref04_Near.j0 (k + 8) s b (wrap64 ((Int.tmod b 4294967296) + 4294967296)) else analemmaref04_Near.j0 (k + 8) s b (Int.tmod b 4294967296)) = analemmaref04_Near.j0 (k + 8) s b (b % 4294967296) := by
    by_cases c : 0 ≤ b
    · rw [Int.tmod_eq_emod_of_nonneg c, if_neg (by omega)]
    · have e : Int.tmod b 4294967296 = -((-b) % 4294967296) := by
        have h2 : Int.tmod (-(-b)) 4294967296 = -(Int.tmod (-b) 4294967296) := Int.neg_tmod (-b) 4294967296
        rw [Int.neg_neg] at h2
        rw [h2, Int.tmod_eq_emod_of_nonneg (by omega)]
      rw [e]
      split
      · congr 1
        unfold wrap64
        omega
      · congr 1
        omega
  rw [hj, analemmaref04_Near.j0]
  have e1 : wrap64 (wrap64 (b - b % 4294967296) + wrap64 s) = b - b % 4294967296 + s := by unfold wrap64; omega
  rw [e1]
  obtain ⟨x, hx⟩ : ∃ x, b - b % 4294967296 + s = x := ⟨_, rfl⟩
  have bx : b - 4294967296 < x ∧ x < b + 4294967296 := by omega
  rw [hx]
  have e2 : wrap64 (x - 4294967296) = x - 4294967296 := by unfold wrap64; omega
  have e3 : wrap64 (x + 4294967296) = x + 4294967296 := by unfold wrap64; omega
  rw [e2, e3]
  have r0 : rd [x - 4294967296, x + 4294967296] 0 = x - 4294967296 := rfl
  have r1 : rd [x - 4294967296, x + 4294967296] 1 = x + 4294967296 := rfl
  have w1 : wrap64 ((0 : Int) + 1) = 1 := by decide +kernel
  have w2 : wrap64 ((1 : Int) + 1) = 2 := by decide +kernel
  have ln : (([x - 4294967296, x + 4294967296] : List Int).length : Int) = 2 := rfl
  have wd : ∀ y : Int, b - 9000000000 < y → y < b + 9000000000 → wrap64 (y - b) = y - b ∧ wrap64 (-(y - b)) = -(y - b) := by
    intro y q1 q2
    unfold wrap64
    omega
  have fin : ∀ (m : Nat) (y : Int) (l : List Int), analemmaref04_Near.l0 (m + 1) b y l (l.length : Int) = some y := by
    intro m y l
    rw [analemmaref04_Near.l0, if_neg (by omega)]
  have one : ∀ (m : Nat) (y : Int) (i z : Int), (i = 0 ∧ z = x - 4294967296 ∨ i = 1 ∧ z = x + 4294967296) → b - 9000000000 < y → y < b + 9000000000 →
      analemmaref04_Near.l0 (m + 2) b y [x - 4294967296, x + 4294967296] i =
        analemmaref04_Near.l0 m b (if (if z - b < 0 then -(z - b) else z - b) < (if y - b < 0 then -(y - b) else y - b) then z else if (if z - b < 0 then -(z - b) else z - b) = (if y - b < 0 then -(y - b) else y - b) then (if z < y then z else y) else y) [x - 4294967296, x + 4294967296] (i + 1) := by
    intro m y i z hi q1 q2
    have rz : rd [x - 4294967296, x + 4294967296] i = z := by
      rcases hi with ⟨rfl, rfl⟩ | ⟨rfl, rfl⟩
      · exact r0
      · exact r1
    have bz : b - 9000000000 < z ∧ z < b + 9000000000 := by omega
    have wi : wrap64 (i + 1) = i + 1 := by rcases hi with ⟨rfl, _⟩ | ⟨rfl, _⟩ <;> decide +kernel
    rw [analemmaref04_Near.l0, ln, if_pos (by omega), if_pos (by omega), rz, (wd y q1 q2).1, (wd y q1 q2).2, (wd z bz.1 bz.2).1]
    have step : ∀ t : Int, analemmaref04_Near.j2 (m + 1) b y [x - 4294967296, x + 4294967296] i t (z - b) = analemmaref04_Near.l0 m b (if (if z - b < 0 then -(z - b) else z - b) < t then z else if (if z - b < 0 then -(z - b) else z - b) = t then (if z < y then z else y) else y) [x - 4294967296, x + 4294967296] (i + 1) := by
      intro t
      rw [analemmaref04_Near.j2, ln, rz, wi, (wd z bz.1 bz.2).2]
      have c1 : (0 : Int) ≤ i := by omega
      have c2 : i < 2 := by omega
      simp only [if_pos c1, if_pos c2]
      by_cases s : z - b < 0
      · simp only [if_pos s]
        (repeat' split) <;> rfl
      · simp only [if_neg s]
        (repeat' split) <;> rfl
    by_cases c : y - b < 0
    · rw [if_pos c, if_pos c, step]
    · rw [if_neg c, if_neg c, step]
  have go : ∀ y : Int, b - 9000000000 < y → y < b + 9000000000 → ∀ m : Nat, analemmaref04_Near.l0 (m + 3) b y [x - 4294967296, x + 4294967296] 1 = some (if (if x + 4294967296 - b < 0 then -(x + 4294967296 - b) else x + 4294967296 - b) < (if y - b < 0 then -(y - b) else y - b) then x + 4294967296 else if (if x + 4294967296 - b < 0 then -(x + 4294967296 - b) else x + 4294967296 - b) = (if y - b < 0 then -(y - b) else y - b) then (if x + 4294967296 < y then x + 4294967296 else y) else y) := by
    intro y q1 q2 m
    rw [one (m + 1) y 1 _ (.inr ⟨rfl, rfl⟩) q1 q2]
    exact fin m _ _
  rw [show k + 7 = (k + 5) + 2 from rfl, one (k + 5) x 0 _ (.inl ⟨rfl, rfl⟩) (by omega) (by omega)]
  rw [show (0 : Int) + 1 = 1 from rfl, show k + 5 = (k + 2) + 3 from rfl, go _ (by (repeat' split) <;> omega) (by (repeat' split) <;> omega)]
  congr 1
  unfold nearv
  (repeat' split) <;> omega

theorem EraNears : analemmalaw04_EraNears.Pure := by
  intro s a p hs ha hp
  have bs := bounds_u32 hs
  have ba := bounds_i64 ha
  have bp := bounds_i64 hp
  clear hs ha hp
  refine ⟨1200, ?_⟩
  unfold analemmalaw04_EraNears.f
  rw [near_eq s a bs.1 bs.2, rnear_eq s a bs.1 bs.2 ba.1 ba.2 1200 (by omega)]
  simp only [Option.bind_some, if_true]
  rw [prec_eq p bp.1 bp.2, rprec_eq 1200 p bp.2 (by omega)]
  simp only [Option.bind_some, if_true]
  rw [shown_eq]
  rfl


end Go.Proofs.Ytilbkdlbbnkgdaa.Pure
