/- The statement over numbers and lists that is left of the law FixTells; no condition but the kinds of its arguments. -/
import Derived.Test.YtomjongnjfodmaaBFix
import Derived.Test.YtomjongnjfodmaaMFixx8
namespace Go.Proofs.Ytomjongnjfodmaa.Pure
open Go.RowKit Go.Proofs.Ytomjongnjfodmaa.MFix Go.Proofs.YtomjongnjfodmaaW.PrintWords Go.Proofs.YtomjongnjfodmaaW.PrintLast Go.Proofs.YtomjongnjfodmaaW.PrintMore
set_option linter.unusedVariables false
set_option linter.unusedSimpArgs false

theorem rdivf_eq (k : Nat) (a b : Int) (h0 : -9223372036854775808 ≤ a) (h1 : a ≤ 9223372036854775807) (h2 : -9223372036854775808 ≤ b) (h3 : b ≤ 9223372036854775807) (hk : 65 ≤ k) : analemmaref02_Div.f k a b = some (divv a b) := by
  unfold analemmaref02_Div.f
  by_cases w : b = 0
  · rw [if_pos w]
    unfold divv
    rw [if_pos w]
    by_cases z : a = 0
    · rw [if_pos z]
      subst z
      rfl
    · rw [if_neg z, rcut_eq k _ _ _ (by omega) (by omega) (by omega)]
      simp only [Option.bind_some]
      congr 1
      by_cases s : a < 0
      · rw [if_pos (decide_eq_true s), if_neg (by decide), if_neg (by omega), if_pos s]
        rfl
      · rw [if_neg (by rw [decide_eq_false s]; decide), if_pos (by omega)]
        rfl
  · rw [if_neg w, ← divf_eq a b h0 h1 h2 h3]
    unfold fix_Div.f
    rw [size_eq a h0 h1, size_eq b h2 h3, rsize_eq a h0 h1, rsize_eq b h2 h3]
    simp only [Option.bind_some]
    have sa := size_bd a h0 h1
    have sb := size_bd b h2 h3
    obtain ⟨m, hm⟩ : ∃ m, (if a < 0 then -a else a) = m := ⟨_, rfl⟩
    obtain ⟨n, hn⟩ : ∃ n, (if b < 0 then -b else b) = n := ⟨_, rfl⟩
    obtain ⟨s, hss⟩ : ∃ s, (decide (a < 0) != decide (b < 0)) = s := ⟨_, rfl⟩
    have hz : a = 0 → m = 0 := by
      intro z
      subst z
      rw [if_neg (by decide)] at hm
      omega
    have hz2 : a = 0 → s = decide (b < 0) := by
      intro z
      subst z
      rw [← hss]
      cases decide (b < 0) <;> rfl
    have hn0 : 0 < n := by split at hn <;> omega
    rw [hm] at sa ⊢
    rw [hn] at sb ⊢
    rw [hss, IntKind.wrap_u64]
    have eN : m / 4294967296 * 18446744073709551616 + m * 4294967296 % 18446744073709551616 = m * 4294967296 := by omega
    by_cases c : m / 4294967296 < n
    · rw [div_yes _ _ n (by omega) (by omega) (by omega) (by omega) c, rdiv_yes k _ _ n (by omega) (by omega) (by omega) c (by omega) hk, eN]
      simp only [Option.bind_some]
      have qb := quot_bd (m / 4294967296) (m * 4294967296 % 18446744073709551616) n (by omega) (by omega) (by omega) c
      rw [eN] at qb
      rw [if_pos trivial, rcut_eq k _ _ _ qb.1 qb.2.1 (by omega), cut_eq _ _ _ qb.1 qb.2.1]
      simp only [Option.bind_some]
      by_cases z : a = 0
      · rw [if_pos z]
        have m0 := hz z
        subst m0
        rw [Int.zero_mul, Int.zero_ediv, Int.zero_emod]
        cases s <;> rfl
      · rw [if_neg z]
        congr 2
        cases s
        · rfl
        · rw [if_pos rfl, if_pos rfl]
          by_cases y : m * 4294967296 % n > 0
          · rw [if_pos (decide_eq_true y), if_pos y]
          · rw [if_neg (by rw [decide_eq_false y]; decide), if_neg y]
    · rw [div_no _ _ n (by omega) (by omega) (by omega) (by omega) (by omega) (by omega) (by omega), rdiv_no k _ _ n (by omega)]
      simp only [Option.bind_some]
      have z : a ≠ 0 := by
        intro z
        have := hz z
        subst this
        omega
      rw [if_neg z, rcut_eq k s 9223372036854775808 false (by omega) (by omega) (by omega), cut_eq 9223372036854775807 0 s (by omega) (by omega)]
      simp only [Option.bind_some, Bool.false_eq_true, if_false]
      cases s <;> rfl

theorem rlogf_eq (k : Nat) (a : Int) (h1 : a ≤ 9223372036854775807) (hk : 65 ≤ k) : analemmaref02_Log.f k a = some (wide_Log.v a - 32) := by
  unfold analemmaref02_Log.f
  by_cases c : a ≤ 0
  · rw [if_pos c, logv_zero a c]
    rfl
  · have e1 : IntKind.u64.wrap a = a := by rw [IntKind.wrap_u64]; omega
    rw [if_neg c, e1, rlog_eq k a (by omega) (by omega) hk]
    simp only [Option.bind_some]
    obtain ⟨l, hl, l1, l2⟩ := logv_spec a (by omega)
    have := pow_lt_64 l a l1 (by omega)
    congr 1
    unfold wrap64
    omega

theorem FixTells : analemmalaw02_FixTells.Pure := by
  intro a b c n h1 h2 h3 h4
  have b1 := bounds_i64 h1
  have b2 := bounds_i64 h2
  have b3 := bounds_i64 h3
  have b4 := bounds_i64 h4
  clear h1 h2 h3 h4
  refine ⟨1200, ?_⟩
  have ea : fix_Abs.f a = analemmaref02_Abs.f 1200 a := by
    have sa := size_bd a b1.1 b1.2
    unfold fix_Abs.f analemmaref02_Abs.f
    rw [size_eq a b1.1 b1.2, rsize_eq a b1.1 b1.2]
    simp only [Option.bind_some]
    rw [cut_eq _ _ _ sa.1 (by omega), rcut_eq 1200 _ _ _ sa.1 (by omega) (by omega)]
    rfl
  obtain ⟨x, hx⟩ : ∃ x, analemmaref02_Abs.f 1200 a = some x := by
    have sa := size_bd a b1.1 b1.2
    unfold analemmaref02_Abs.f
    rw [rsize_eq a b1.1 b1.2]
    simp only [Option.bind_some]
    rw [rcut_eq 1200 _ _ _ sa.1 (by omega) (by omega)]
    exact ⟨_, rfl⟩
  have ec : fix_Clamp.f a b c = analemmaref02_Clamp.f a b c := rfl
  obtain ⟨y, hy⟩ : ∃ y, analemmaref02_Clamp.f a b c = some y := by
    unfold analemmaref02_Clamp.f
    (repeat' split) <;> exact ⟨_, rfl⟩
  obtain ⟨r, hr, r0, r1, r2, r3⟩ := sqrtf_eq 1199 a b1.1 b1.2 (by omega)
  unfold analemmalaw02_FixTells.f
  rw [add_eq 1200 a b b1.1 b1.2 b2.1 b2.2 (by omega), radd_eq 1200 a b b1.1 b1.2 b2.1 b2.2 (by omega), sub_eq 1200 a b b1.1 b1.2 b2.1 b2.2 (by omega), rsubf_eq 1200 a b b1.1 b1.2 b2.1 b2.2 (by omega), ea, hx,
    mulf_eq a b b1.1 b1.2 b2.1 b2.2, rmulf_eq 1200 a b b1.1 b1.2 b2.1 b2.2 (by omega), divf_eq a b b1.1 b1.2 b2.1 b2.2, rdivf_eq 1200 a b b1.1 b1.2 b2.1 b2.2 (by omega)]
  simp only [Option.bind_some, if_true]
  rw [bne_self_eq_false]
  have hk : (1200 : Nat) = 1199 + 1 := rfl
  rw [hk]
  simp only [analemmalaw02_FixTells.j0]
  rw [if_neg (by decide), shift_eq a n b1.1 b1.2 b4.1 b4.2, rshift_eq 1199 a n b1.1 b1.2 (by omega), powf_eq n b4.1 b4.2, rpow_eq 1199 n (by omega), logf_eq a b1.1 b1.2, rlogf_eq 1199 a b1.2 (by omega), hr, rsqrtf_eq 1199 a r b1.2 (by omega) r0 r1 r2 r3, ec, hy, shown_eq 1199 (by omega)]
  simp only [Option.bind_some, if_true]


end Go.Proofs.Ytomjongnjfodmaa.Pure
