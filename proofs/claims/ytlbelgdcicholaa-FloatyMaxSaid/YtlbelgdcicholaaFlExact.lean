/- Plain laws of the model's float64: their order is that of their signed rungs. Each says its own condition. -/
import Ieee.Arith
import Derived.Test.YtlbelgdcicholaaFlNear
namespace Go.Proofs.Ytlbelgdcicholaa.Fl
-- import Derived.Test.YtlbelgdcicholaaFlNear
theorem log2_mul_pow (m k : Nat) (h : m ≠ 0) : (m * 2 ^ k).log2 = m.log2 + k := by
  have b := log_bounds m h
  have hp : 0 < 2 ^ k := Nat.two_pow_pos k
  have hne : m * 2 ^ k ≠ 0 := Nat.mul_ne_zero h (Nat.ne_of_gt hp)
  rw [Nat.log2_eq_iff hne]
  constructor
  · rw [Nat.pow_add]
    exact Nat.mul_le_mul_right _ b.1
  · have := Nat.mul_lt_mul_of_pos_right b.2 hp
    rw [← Nat.pow_add, show m.log2 + 1 + k = m.log2 + k + 1 by omega] at this
    exact this

/-- Rounding by 'gap': what is cut off decides. -/
def cutg (n gap : Nat) : Nat := n / gap + (decide (gap < 2 * (n % gap)) || gap == 2 * (n % gap) && n / gap % 2 == 1).toNat

theorem cut_g (s : Bool) (n d : Nat) : Ieee.Toward.even.cut s n d = cutg n (2 ^ min d (n.log2 + 2)) := by
  unfold Ieee.Toward.cut cutg
  rw [Nat.one_shiftLeft]

theorem cutg_scale (n gap c : Nat) (hc : 0 < c) : cutg (n * c) (gap * c) = cutg n gap := by
  unfold cutg
  have e1 : n * c / (gap * c) = n / gap := Nat.mul_div_mul_right n gap hc
  have e2 : n * c % (gap * c) = n % gap * c := Nat.mul_mod_mul_right c n gap
  rw [e1, e2]
  have e3 : (2 * (n % gap * c)) = 2 * (n % gap) * c := by rw [Nat.mul_assoc]
  rw [e3]
  have d1 : decide (gap * c < 2 * (n % gap) * c) = decide (gap < 2 * (n % gap)) := by
    by_cases h : gap < 2 * (n % gap)
    · rw [decide_eq_true h, decide_eq_true (Nat.mul_lt_mul_of_pos_right h hc)]
    · rw [decide_eq_false h, decide_eq_false (fun q => h (Nat.lt_of_mul_lt_mul_right q))]
  have d2 : (gap * c == 2 * (n % gap) * c) = (gap == 2 * (n % gap)) := by
    by_cases h : gap = 2 * (n % gap)
    · rw [← h]
      simp
    · rw [beq_eq_false_iff_ne.mpr h, beq_eq_false_iff_ne.mpr (fun q => h (Nat.eq_of_mul_eq_mul_right hc q))]
  rw [d1, d2]

theorem cutg_exact (n gap : Nat) (hg : 0 < gap) : cutg (n * gap) gap = n := by
  unfold cutg
  rw [Nat.mul_div_cancel _ hg, Nat.mul_mod_left, Nat.mul_zero, decide_eq_false (by omega), beq_eq_false_iff_ne.mpr (by omega)]
  rfl

/-- Only the number counts, not how it is spelt. -/
theorem near_shift (s : Bool) (m k : Nat) (p : Int) : Ieee.double.nearest s (m * 2 ^ k) (p - k) = Ieee.double.nearest s m p := by
  by_cases h : m = 0
  · rw [h, Nat.zero_mul]
    unfold Ieee.Format.nearest
    rw [if_pos rfl, if_pos rfl]
  · have hp : 0 < 2 ^ k := Nat.two_pow_pos k
    have hne : m * 2 ^ k ≠ 0 := Nat.mul_ne_zero h (Nat.ne_of_gt hp)
    have e4 : Ieee.double.leastPlace = -1074 := by decide
    have e5 : ((Ieee.double.fractionBits : Nat) : Int) = 52 := rfl
    unfold Ieee.Format.nearest
    rw [if_neg h, if_neg hne, log2_mul_pow m k h, e4, e5]
    have el : max (p - (k : Int) + ((m.log2 + k : Nat) : Int) - 52) (-1074) = max (p + (m.log2 : Int) - 52) (-1074) := by omega
    simp only [el]
    obtain ⟨last, hl⟩ : ∃ last, max (p + (m.log2 : Int) - 52) (-1074) = last := ⟨_, rfl⟩
    have hlb : p + (m.log2 : Int) - 52 ≤ last := by omega
    rw [hl]
    have key : Ieee.Toward.even.cut s ((m * 2 ^ k) <<< (p - (k : Int) - last).toNat) (last - (p - (k : Int))).toNat = Ieee.Toward.even.cut s (m <<< (p - last).toNat) (last - p).toNat := by
      rw [Nat.shiftLeft_eq, Nat.shiftLeft_eq]
      by_cases c1 : last ≤ p - k
      · have a1 : (last - (p - (k : Int))).toNat = 0 := by omega
        have a2 : (last - p).toNat = 0 := by omega
        obtain ⟨d, hd⟩ : ∃ d : Nat, (p - (k : Int) - last).toNat = d := ⟨_, rfl⟩
        have a3 : (p - last).toNat = k + d := by omega
        rw [a1, a2, a3, hd, cut_zero, cut_zero, Nat.mul_assoc, ← Nat.pow_add]
      · have a1 : (p - (k : Int) - last).toNat = 0 := by omega
        rw [a1, Nat.pow_zero, Nat.mul_one]
        by_cases c2 : last ≤ p
        · obtain ⟨e, he⟩ : ∃ e : Nat, (p - last).toNat = e := ⟨_, rfl⟩
          have a2 : (last - p).toNat = 0 := by omega
          have a3 : (last - (p - (k : Int))).toNat = k - e := by omega
          have ek : e ≤ k := by omega
          have a4 : min (k - e) ((m * 2 ^ k).log2 + 2) = k - e := by rw [log2_mul_pow m k h]; omega
          rw [a2, a3, he, cut_zero, cut_g, a4]
          have a5 : m * 2 ^ k = m * 2 ^ e * 2 ^ (k - e) := by rw [Nat.mul_assoc, ← Nat.pow_add, show e + (k - e) = k by omega]
          rw [a5, cutg_exact _ _ (Nat.two_pow_pos _)]
        · have a2 : (p - last).toNat = 0 := by omega
          obtain ⟨d, hd⟩ : ∃ d : Nat, (last - p).toNat = d := ⟨_, rfl⟩
          have a3 : (last - (p - (k : Int))).toNat = d + k := by omega
          rw [a2, a3, hd, Nat.pow_zero, Nat.mul_one, cut_g, cut_g, log2_mul_pow m k h]
          have a4 : min (d + k) (m.log2 + k + 2) = min d (m.log2 + 2) + k := by omega
          rw [a4, Nat.pow_add, cutg_scale _ _ _ hp]
    rw [key]

theorem word_zero (s : Bool) (p : Int) : Ieee.double.nearest s 0 p = Ieee.double.word s 0 := by
  unfold Ieee.Format.nearest
  rw [if_pos rfl]

/-- A number that the format has: its rung has just that number. -/
theorem near_V (s : Bool) (m : Nat) (p : Int) (hm : m < 9007199254740992) (hp : -1074 ≤ p) (ht : m = 0 ∨ p + (m.log2 : Int) ≤ 1023) :
    ∃ r, r < 9218868437227405312 ∧ Ieee.double.nearest s m p = Ieee.double.word s r ∧ V r = m * 2 ^ (p + 1074).toNat := by
  by_cases h : m = 0
  · refine ⟨0, by decide, by rw [h, word_zero], by rw [h, V_zero, Nat.zero_mul]⟩
  · have ht : p + (m.log2 : Int) ≤ 1023 := by omega
    have b := log_bounds m h
    have hl := log_le m 52 h hm
    by_cases c : -1022 ≤ p + (m.log2 : Int)
    · have n := norm_lo m m.log2 b.1 b.2 hl
      have ep : ((p + (m.log2 : Int) + 1022).toNat : Int) = p + m.log2 + 1022 := by omega
      have e := near_exact s m m.log2 p b.1 b.2 hl c ht
      obtain ⟨E, hE⟩ : ∃ E, (p + (m.log2 : Int) + 1022).toNat = E := ⟨_, rfl⟩
      obtain ⟨K, hK⟩ : ∃ K, m * 2 ^ (52 - m.log2) = K := ⟨_, rfl⟩
      rw [hE] at e ep
      rw [hK] at e n
      have hb : E ≤ 2045 := by omega
      refine ⟨E * 4503599627370496 + K, by omega, e, ?_⟩
      rw [V_eq]
      have hu : up (E * 4503599627370496 + K) = E := by unfold up; rw [if_neg (by omega)]; omega
      have hg : mag (E * 4503599627370496 + K) = K := by unfold mag; rw [if_neg (by omega)]; omega
      rw [hu, hg, ← hK, Nat.mul_assoc, ← Nat.pow_add, show 52 - m.log2 + E = (p + 1074).toNat by omega]
    · have e4 : Ieee.double.leastPlace = -1074 := by decide
      have e5 : ((Ieee.double.fractionBits : Nat) : Int) = 52 := rfl
      have e2 : Ieee.double.binade = 4503599627370496 := by decide
      have e3 : Ieee.double.infRung = 9218868437227405312 := by decide
      have el : max (p + (m.log2 : Int) - 52) (-1074) = -1074 := by omega
      have hk : m * 2 ^ (p + 1074).toNat < 4503599627370496 := by
        have h1 : m * 2 ^ (p + 1074).toNat < 2 ^ (m.log2 + 1) * 2 ^ (p + 1074).toNat := Nat.mul_lt_mul_of_pos_right b.2 (Nat.two_pow_pos _)
        rw [← Nat.pow_add] at h1
        have h2 : 2 ^ (m.log2 + 1 + (p + 1074).toNat) ≤ 2 ^ 52 := Nat.pow_le_pow_right (by decide) (by omega)
        have h3 : (2 : Nat) ^ 52 = 4503599627370496 := by decide
        omega
      refine ⟨m * 2 ^ (p + 1074).toNat, by omega, ?_, ?_⟩
      · have a1 : (p - -1074).toNat = (p + 1074).toNat := by omega
        have a2 : (-1074 - p : Int).toNat = 0 := by omega
        have a3 : ((-1074 : Int) - -1074).toNat = 0 := by decide
        unfold Ieee.Format.nearest
        rw [if_neg h, e5, e4, e2, e3]
        simp only [el, a1, a2, a3, cut_zero, Nat.shiftLeft_eq, Nat.zero_mul, Nat.zero_add]
        rw [Nat.min_eq_left (by omega)]
      · unfold V
        rw [if_pos hk]
end Go.Proofs.Ytlbelgdcicholaa.Fl
