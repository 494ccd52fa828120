/- The statement over numbers and lists that is left of the law WideLogs; no condition but the kinds of its arguments. -/
import Derived.Test.YtanpjfejnlfpmaaBWide
namespace Go.Proofs.Ytanpjfejnlfpmaa.Pure
open Go.RowKit Go.Proofs.Ytanpjfejnlfpmaa.MWide Go.Proofs.YtanpjfejnlfpmaaW.PrintWords Go.Proofs.YtanpjfejnlfpmaaW.PrintLast Go.Proofs.YtanpjfejnlfpmaaW.PrintMore
set_option linter.unusedVariables false
set_option linter.unusedSimpArgs false

theorem WideLogs : analemmalaw01_WideLogs.Pure := by
  intro n k hn hk
  have bn := bounds_u64 hn
  have bk := bounds_u8 hk
  clear hn hk
  unfold analemmalaw01_WideLogs.f
  rw [log_eq n bn.1 bn.2]
  simp only [Option.bind_some]
  by_cases c : n = 0
  · subst c
    rw [if_pos rfl, if_pos (logv_zero 0 (by omega)), shown_eq]
    rfl
  · obtain ⟨l, hl, h1, h2⟩ := logv_spec n (by omega)
    have h3 := pow_lt_64 l n h1 bn.2
    have em : Int.tmod (wrap64 k) 64 = k % 64 := by
      have : wrap64 k = k := by unfold wrap64; omega
      rw [this, Int.tmod_eq_emod_of_nonneg bk.1]
    obtain ⟨i, hi⟩ : ∃ i : Nat, k % 64 = (i : Int) := ⟨(k % 64).toNat, by omega⟩
    have hi63 : i ≤ 63 := by omega
    rw [if_neg c, hl, em, hi, if_pos (by omega)]
    have e1 : shr .u64 n (l : Int) = 1 := by
      unfold shr
      have e : min (l : Int).toNat (IntKind.bits .u64) = l := by simp [IntKind.bits]; omega
      rw [e]
      have hp := pow2_pos l
      have q1 : 1 ≤ n / 2 ^ l := Int.le_ediv_of_mul_le hp (by omega)
      have q2 : n / 2 ^ l < 2 := Int.ediv_lt_of_lt_mul hp (by rw [pow2_succ] at h2; omega)
      omega
    have e2 : shl .u64 1 (i : Int) = 2 ^ i := by
      unfold shl
      have e : min (i : Int).toNat (IntKind.bits .u64) = i := by simp [IntKind.bits]; omega
      have hp := pow2_pos i
      have hm := pow2_mono i 63 hi63
      have hm2 : (2 : Int) ^ 63 = 9223372036854775808 := by decide
      rw [e, IntKind.wrap_u64]
      omega
    have hp := pow2_pos i
    have hm := pow2_mono i 63 hi63
    have hm2 : (2 : Int) ^ 63 = 9223372036854775808 := by decide
    rw [if_pos e1, if_pos (by omega), e2, log_eq _ (by omega) (by omega)]
    simp only [Option.bind_some]
    have e3 : wide_Log.v (2 ^ i) = (i : Int) := by
      obtain ⟨m, hm, m1, m2⟩ := logv_spec (2 ^ i) hp
      rw [hm]
      have : m = i := by
        by_cases a : m < i
        · have := pow2_mono (m + 1) i (by omega)
          omega
        · by_cases b : i < m
          · have := pow2_mono (i + 1) m (by omega)
            rw [pow2_succ] at this
            omega
          · omega
      rw [this]
    rw [if_pos e3]
    have e4 : (decide ((l : Int) ≥ (i : Int)) == decide (n ≥ 2 ^ i)) = true := by
      rw [beq_iff_eq, Bool.eq_iff_iff, decide_eq_true_iff, decide_eq_true_iff]
      constructor
      · intro a
        have := pow2_mono i l (by omega)
        omega
      · intro a
        by_cases b : (l : Int) ≥ (i : Int)
        · exact b
        · have := pow2_mono (l + 1) i (by omega)
          omega
    rw [if_pos e4, shown_eq]
    rfl


end Go.Proofs.Ytanpjfejnlfpmaa.Pure
