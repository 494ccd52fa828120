/- Plain laws of the model's float64: their order is that of their signed rungs. Each says its own condition. -/
import Ieee.Arith
import Derived.Test.YtlbelgdcicholaaFlExact
namespace Go.Proofs.Ytlbelgdcicholaa.Fl
-- import Derived.Test.YtlbelgdcicholaaFlExact
theorem cutg_bd (n gap : Nat) : n / gap ≤ cutg n gap ∧ cutg n gap ≤ n / gap + 1 := by
  unfold cutg
  have hb (b : Bool) : b.toNat ≤ 1 := by cases b <;> simp
  have := hb (decide (gap < 2 * (n % gap)) || gap == 2 * (n % gap) && n / gap % 2 == 1)
  omega

theorem cutg_mono (n n' gap : Nat) (h : n ≤ n') : cutg n gap ≤ cutg n' gap := by
  have hq : n / gap ≤ n' / gap := Nat.div_le_div_right h
  have b := cutg_bd n gap
  have b' := cutg_bd n' gap
  by_cases c : n / gap < n' / gap
  · omega
  · have e : n / gap = n' / gap := by omega
    have d1 := Nat.div_add_mod n gap
    have d2 := Nat.div_add_mod n' gap
    rw [e] at d1
    have hr : n % gap ≤ n' % gap := by omega
    unfold cutg
    rw [e]
    have key : (decide (gap < 2 * (n % gap)) || gap == 2 * (n % gap) && n' / gap % 2 == 1) = true → (decide (gap < 2 * (n' % gap)) || gap == 2 * (n' % gap) && n' / gap % 2 == 1) = true := by
      intro k
      simp only [Bool.or_eq_true, decide_eq_true_iff, Bool.and_eq_true, beq_iff_eq] at k ⊢
      omega
    cases x : (decide (gap < 2 * (n % gap)) || gap == 2 * (n % gap) && n' / gap % 2 == 1)
    · simp
    · rw [key x]
      exact Nat.le_refl _

/-- The rung of a whole number, whatever its digits. -/
def nrung (m : Nat) : Nat := if m = 0 then 0 else if m.log2 ≤ 52 then (m.log2 + 1022) * 4503599627370496 + m * 2 ^ (52 - m.log2) else (m.log2 + 1022) * 4503599627370496 + cutg m (2 ^ (m.log2 - 52))

theorem kept_bd (m : Nat) (h : m ≠ 0) (c : ¬ m.log2 ≤ 52) : 4503599627370496 ≤ cutg m (2 ^ (m.log2 - 52)) ∧ cutg m (2 ^ (m.log2 - 52)) ≤ 9007199254740992 := by
  have b := log_bounds m h
  obtain ⟨d, hd⟩ : ∃ d, m.log2 = d + 52 := ⟨m.log2 - 52, by omega⟩
  have e : m.log2 - 52 = d := by omega
  rw [e]
  have hq : 4503599627370496 ≤ m / 2 ^ d ∧ m / 2 ^ d < 9007199254740992 := by
    constructor
    · rw [Nat.le_div_iff_mul_le (Nat.two_pow_pos d)]
      have := b.1
      rw [hd, Nat.add_comm, Nat.pow_add] at this
      exact this
    · rw [Nat.div_lt_iff_lt_mul (Nat.two_pow_pos d)]
      have := b.2
      rw [hd, show d + 52 + 1 = 53 + d by omega, Nat.pow_add] at this
      exact this
  have k := cutg_bd m (2 ^ d)
  exact ⟨Nat.le_trans hq.1 k.1, Nat.le_trans k.2 hq.2⟩

theorem nrung_bd (m : Nat) (h : m ≠ 0) : ∃ K, nrung m = (m.log2 + 1022) * 4503599627370496 + K ∧ 4503599627370496 ≤ K ∧ K ≤ 9007199254740992 := by
  have b := log_bounds m h
  unfold nrung
  rw [if_neg h]
  by_cases c : m.log2 ≤ 52
  · have n := norm_lo m m.log2 b.1 b.2 c
    rw [if_pos c]
    exact ⟨_, rfl, n.1, Nat.le_of_lt n.2⟩
  · have n := kept_bd m h c
    rw [if_neg c]
    exact ⟨_, rfl, n.1, n.2⟩

theorem far_min (E K : Nat) (h1 : E ≤ 1085) (h3 : K ≤ 9007199254740992) : min (E * 4503599627370496 + K) 9218868437227405312 = E * 4503599627370496 + K := Nat.min_eq_left (by omega)

theorem near_nrung (s : Bool) (m : Nat) (hm : m < 18446744073709551616) : Ieee.double.nearest s m 0 = Ieee.double.word s (nrung m) := by
  by_cases h : m = 0
  · rw [h, word_zero]
    rfl
  · have b := log_bounds m h
    have hl : m.log2 ≤ 63 := log_le m 63 h hm
    unfold nrung
    rw [if_neg h]
    by_cases c : m.log2 ≤ 52
    · have e := near_exact s m m.log2 0 b.1 b.2 c (by omega) (by omega)
      have a : ((0 : Int) + (m.log2 : Int) + 1022).toNat = m.log2 + 1022 := by omega
      rw [a] at e
      rw [if_pos c, e]
    · have k := kept_bd m h c
      rw [if_neg c]
      obtain ⟨d, hd⟩ : ∃ d, m.log2 = d + 52 := ⟨m.log2 - 52, by omega⟩
      have e0 : m.log2 - 52 = d := by omega
      rw [e0] at k ⊢
      have e2 : Ieee.double.binade = 4503599627370496 := by decide
      have e3 : Ieee.double.infRung = 9218868437227405312 := by decide
      have e4 : Ieee.double.leastPlace = -1074 := by decide
      have e5 : ((Ieee.double.fractionBits : Nat) : Int) = 52 := rfl
      have el : max (0 + (m.log2 : Int) - 52) (-1074) = (d : Int) := by omega
      have a1 : ((0 : Int) - (d : Int)).toNat = 0 := by omega
      have a2 : ((d : Int) - 0).toNat = d := by omega
      have a3 : ((d : Int) - -1074).toNat = m.log2 + 1022 := by omega
      have a4 : min d (m.log2 + 2) = d := by omega
      unfold Ieee.Format.nearest
      rw [if_neg h, e5, e4, e2, e3]
      simp only [el, a1, a2, a3, cut_g, Nat.shiftLeft_zero, a4, far_min (m.log2 + 1022) _ (show m.log2 + 1022 ≤ 1085 by omega) k.2]

/-- A greater whole number has no lower rung. -/
theorem nrung_mono (m m' : Nat) (h : m ≤ m') : nrung m ≤ nrung m' := by
  by_cases z : m = 0
  · unfold nrung
    rw [if_pos z]
    exact Nat.zero_le _
  · have z' : m' ≠ 0 := by omega
    have b := log_bounds m z
    have b' := log_bounds m' z'
    have hl : m.log2 ≤ m'.log2 := by
      refine Nat.not_lt.1 fun c => ?_
      have : 2 ^ (m'.log2 + 1) ≤ 2 ^ m.log2 := Nat.pow_le_pow_right (by decide) c
      omega
    by_cases c : m.log2 = m'.log2
    · unfold nrung
      rw [if_neg z, if_neg z', c]
      by_cases d : m'.log2 ≤ 52
      · rw [if_pos d, if_pos d]
        exact Nat.add_le_add_left (Nat.mul_le_mul_right _ h) _
      · rw [if_neg d, if_neg d]
        exact Nat.add_le_add_left (cutg_mono _ _ _ h) _
    · obtain ⟨K, e, k0, k1⟩ := nrung_bd m z
      obtain ⟨K', e', k0', k1'⟩ := nrung_bd m' z'
      rw [e, e']
      omega

/-- A whole number of 53 digits and noughts behind has its own rung. -/
theorem nrung_V (m k : Nat) (hm : m < 9007199254740992) (hk : k ≤ 200) (hb : m * 2 ^ k < 18446744073709551616) : V (nrung (m * 2 ^ k)) = m * 2 ^ k * 2 ^ LL := by
  have e := near_shift false m k (k : Int)
  rw [Int.sub_self, near_nrung _ _ hb] at e
  have ht : m = 0 ∨ (k : Int) + (m.log2 : Int) ≤ 1023 := by
    by_cases z : m = 0
    · exact .inl z
    · have := log_le m 52 z hm
      exact .inr (by omega)
  obtain ⟨r, hr, hw, hV⟩ := near_V false m k hm (by omega) ht
  have hn : nrung (m * 2 ^ k) < 9223372036854775808 := by
    by_cases z : m * 2 ^ k = 0
    · unfold nrung
      rw [if_pos z]
      decide
    · obtain ⟨K, e, _, k1⟩ := nrung_bd _ z
      have hl : (m * 2 ^ k).log2 ≤ 63 := log_le _ 63 z hb
      omega
  rw [hw] at e
  have e2 := congrArg rung e
  rw [(word_parts false _ hn).1, (word_parts false r (by omega)).1] at e2
  rw [e2, hV, show ((k : Int) + 1074).toNat = k + LL from by unfold LL; omega, Nat.pow_add, Nat.mul_assoc]
end Go.Proofs.Ytlbelgdcicholaa.Fl
