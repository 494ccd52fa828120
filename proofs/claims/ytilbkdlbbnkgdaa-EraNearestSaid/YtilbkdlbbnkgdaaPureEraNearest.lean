/- The time that is told lies within half an era and has that second, as the printed functions tell it; the numbers are of their kinds, no other condition. -/
import Derived.Test.YtilbkdlbbnkgdaaPEraNearestx0
import Derived.Test.YtilbkdlbbnkgdaaPEraNearestx1
import Derived.Test.YtilbkdlbbnkgdaaPEraNearestx2
import Derived.OpenShut
import Derived.Laws.Bits64
import Derived.Laws.BitsLemmas
namespace Go.Proofs.Ytilbkdlbbnkgdaa.Pure
open Go.RowKit Go.Proofs.Ytilbkdlbbnkgdaa.PEraNearest Go.Proofs.YtilbkdlbbnkgdaaW.PrintWords Go.Proofs.YtilbkdlbbnkgdaaW.PrintLast Go.Proofs.YtilbkdlbbnkgdaaW.PrintMore

theorem long_eq (n : Int) (h0 : 0 ≤ n) (h1 : n ≤ 4294967295) : era_Long.f n = some (n * 65536) := by
  unfold era_Long.f wrap64
  congr 1
  omega

def shortv (a : Int) : Int := if a ≤ 0 then 0 else if 4294967295 < (a + 65535) / 65536 then 4294967295 else (a + 65535) / 65536

theorem short_eq (a : Int) (h0 : -9223372036854775808 ≤ a) (h1 : a ≤ 9223372036854775807) : era_Short.f a = some (shortv a) := by
  unfold era_Short.f
  rw [long_eq _ (by omega) (by omega)]
  simp only [Option.bind_some]
  unfold shortv mx mn wrap64
  by_cases c : a < 0
  · simp only [if_pos c]
    rw [if_neg (by omega), if_pos (by omega : a ≤ 0), if_neg (by omega)]
    rfl
  · simp only [if_neg c]
    by_cases d : a ≤ 0
    · rw [if_pos d, if_neg (by omega), if_neg (by omega)]
      congr 1
      omega
    · rw [if_neg d]
      split <;> rename_i e
      · split <;> rename_i f
        · split <;> rename_i g <;> congr 1 <;> omega
        · split <;> rename_i g <;> congr 1 <;> omega
      · split <;> rename_i f
        · split <;> rename_i g <;> congr 1 <;> omega
        · split <;> rename_i g <;> congr 1 <;> omega

def diffv (a b : Int) : Int := mx ((a - b + 9223372036854775808) % 18446744073709551616 - 9223372036854775808) (-9223372036854775807)

theorem diff_eq (a b : Int) : era_Diff.f a b = some (diffv a b) := by
  unfold era_Diff.f diffv wrap64
  rw [IntKind.wrap_u64]
  congr 2
  omega

theorem shown_eq : analemmalaw04_shown.f = some true := by decide +kernel

def nearv (s b : Int) : Int :=
  if b % 4294967296 = s then b
  else if (b / 4294967296) * 4294967296 + s - b ≥ 2147483648 then (b / 4294967296 - 1) * 4294967296 + s
  else if (b / 4294967296) * 4294967296 + s - b < -2147483648 then (b / 4294967296 + 1) * 4294967296 + s
  else (b / 4294967296) * 4294967296 + s

theorem seconds_eq (e s : Int) (h0 : -1073741825 ≤ e) (h1 : e ≤ 1073741825) (h2 : 0 ≤ s) (h3 : s ≤ 4294967295) : era_round_seconds.f e s = some (e * 4294967296 + s) := by
  unfold era_round_seconds.f wrap64
  congr 1
  omega

def clampv (a : Int) : Int := if a < -4611686018427387904 then -4611686018427387904 else if a > 4611686018427387904 then 4611686018427387904 else a

theorem clampv_bd (a : Int) : -4611686018427387904 ≤ clampv a ∧ clampv a ≤ 4611686018427387904 := by
  unfold clampv
  split
  · omega
  · split <;> omega

theorem clamp_eq (a : Int) : fix_Clamp.f a (-4611686018427387904) 4611686018427387904 = some (clampv a) := by
  unfold fix_Clamp.f clampv mx
  (repeat' split) <;> first | rfl | (exfalso; omega)

theorem near_eq (s a : Int) (h0 : 0 ≤ s) (h1 : s ≤ 4294967295) : era_Near.f s a = some (nearv s (clampv a)) := by
  have hb := clampv_bd a
  unfold era_Near.f
  rw [clamp_eq]
  simp only [Option.bind_some]
  obtain ⟨b, hbb⟩ : ∃ b, clampv a = b := ⟨_, rfl⟩
  rw [hbb] at hb ⊢
  unfold nearv wrap64
  by_cases c : b % 4294967296 = s
  · rw [if_pos c, if_pos (by rw [c]; exact beq_self_eq_true s)]
  · rw [if_neg c, if_neg (by rw [beq_iff_eq]; omega), seconds_eq _ _ (by omega) (by omega) h0 h1]
    simp only [Option.bind_some]
    by_cases d : (b / 4294967296) * 4294967296 + s - b ≥ 2147483648
    · rw [if_pos d, if_pos (by omega), seconds_eq _ _ (by omega) (by omega) h0 h1]
      simp only [Option.bind_some]
      congr 1
      omega
    · rw [if_neg d, if_neg (by omega)]
      by_cases e : (b / 4294967296) * 4294967296 + s - b < -2147483648
      · rw [if_pos e, if_pos (by omega), seconds_eq _ _ (by omega) (by omega) h0 h1]
        simp only [Option.bind_some]
        congr 1
        omega
      · rw [if_neg e, if_neg (by omega)]

theorem nearv_bd (s b : Int) (h0 : 0 ≤ s) (h1 : s ≤ 4294967295) : -2147483648 ≤ nearv s b - b ∧ nearv s b - b ≤ 2147483648 ∧ nearv s b % 4294967296 = s := by
  unfold nearv
  (repeat' split) <;> omega

theorem EraNearest : analemmalaw04_EraNearest.Pure := by
  intro s a hs ha
  have bs := bounds_u32 hs
  have ba := bounds_i64 ha
  clear hs ha
  have hb := clampv_bd a
  have hn := nearv_bd s (clampv a) (by omega) (by omega)
  have em : mx (-4611686018427387904) (mn a 4611686018427387904) = clampv a := by
    unfold mx mn clampv
    (repeat' split) <;> omega
  unfold analemmalaw04_EraNearest.f
  rw [near_eq s a (by omega) (by omega)]
  simp only [Option.bind_some]
  rw [em, if_pos hn.2.2, if_pos (by unfold wrap64; omega), if_pos (by unfold wrap64; omega), near_eq s _ (by omega) (by omega)]
  simp only [Option.bind_some]
  have e1 : nearv s (clampv (nearv s (clampv a))) = nearv s (clampv a) := by
    obtain ⟨b, hbb⟩ : ∃ b, clampv a = b := ⟨_, rfl⟩
    rw [hbb] at hb hn ⊢
    obtain ⟨x, hx⟩ : ∃ x, nearv s b = x := ⟨_, rfl⟩
    rw [hx] at hn ⊢
    unfold clampv
    split
    · unfold nearv at hx ⊢
      revert hx
      (repeat' split) <;> omega
    · split
      · unfold nearv at hx ⊢
        revert hx
        (repeat' split) <;> omega
      · unfold nearv
        rw [if_pos hn.2.2]
  rw [if_pos e1, shown_eq]
  rfl


end Go.Proofs.Ytilbkdlbbnkgdaa.Pure
