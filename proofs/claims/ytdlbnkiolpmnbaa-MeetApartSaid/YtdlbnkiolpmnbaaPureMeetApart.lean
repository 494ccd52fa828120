/- Spans of which no two meet have nothing that most hold, but for one alone; no condition but the kinds of its arguments. -/
import Derived.Test.YtdlbnkiolpmnbaaBMee
import Derived.Test.YtdlbnkiolpmnbaaMMeex9
namespace Go.Proofs.Ytdlbnkiolpmnbaa.Pure
open Go.RowKit Go.Proofs.Ytdlbnkiolpmnbaa.MMee Go.Proofs.YtdlbnkiolpmnbaaW.PrintWords Go.Proofs.YtdlbnkiolpmnbaaW.PrintLast Go.Proofs.YtdlbnkiolpmnbaaW.PrintMore
set_option linter.unusedVariables false
set_option linter.unusedSimpArgs false

theorem meet_f (l : List S42) (h : l.length ≤ 100000) : meet_Meet.f l = some (mt l) := by unfold meet_Meet.f; rw [if_pos h]
theorem major_f (l : List S42) (h : l.length ≤ 100000) : meet_Major.f l = some (mjr l) := by unfold meet_Major.f; rw [if_pos h]
theorem select_f (l : List S42) (h : l.length ≤ 100000) : meet_Select.f l = some (slc l) := by unfold meet_Select.f; rw [if_pos h]
def ap (w : Int) (i : Nat) : S42 := ⟨(i : Int) * (w + 1), (i : Int) * (w + 1), (i : Int) * (w + 1) + w⟩
def apl (w : Int) (n : Nat) : List S42 := (List.range n).map (ap w)
theorem apl_len (w : Int) (n : Nat) : (apl w n).length = n := by simp [apl]
theorem apl_succ (w : Int) (n : Nat) : apl w (n + 1) = apl w n ++ [ap w n] := by simp [apl, List.range_succ]
theorem apl_ok (w : Int) (hw : 0 ≤ w) (n : Nat) : Ok (apl w n) := by
  intro c hc
  obtain ⟨i, _, rfl⟩ := List.mem_map.1 hc
  unfold ap
  simp only
  omega
theorem apl_D (w : Int) (hw : 0 ≤ w) : ∀ (n : Nat) (v : Int), D (apl w n) v ≤ 1 ∧ ((n : Int) * (w + 1) ≤ v → D (apl w n) v = 0)
  | 0, v => ⟨by simp [apl, D], fun _ => by simp [apl, D]⟩
  | n + 1, v => by
    obtain ⟨h1, h2⟩ := apl_D w hw n v
    have ea : (ap w n).f0 = (n : Int) * (w + 1) := rfl
    have eb : (ap w n).f2 = (n : Int) * (w + 1) + w := rfl
    have e1 : ((n + 1 : Nat) : Int) * (w + 1) = (n : Int) * (w + 1) + (w + 1) := by rw [show ((n + 1 : Nat) : Int) = (n : Int) + 1 by omega, Int.add_mul, Int.one_mul]
    have e : D [] v = 0 := rfl
    rw [apl_succ, D_app, D_cons, e, e1, ea, eb]
    generalize (n : Int) * (w + 1) = t at *
    generalize D (apl w n) v = d at *
    by_cases c : t ≤ v ∧ v ≤ t + w
    · rw [if_pos c]
      have := h2 c.1
      omega
    · rw [if_neg c]
      refine ⟨by omega, fun hv => ?_⟩
      have := h2 (by omega)
      omega
theorem slc_no (l : List S42) (h : (slc l).2.2.2 = false) : (slc l).2.2.1 = [] := by
  unfold slc at h ⊢
  by_cases c : (slc.s l).2.2 = true
  · rw [if_pos c] at h
    cases h
  · rw [if_neg c]
theorem apart_no (w : Int) (hw : 0 ≤ w) (n : Nat) (hn : n ≠ 1) : (mt (apl w n)).2.2.2 = false ∧ (mjr (apl w n)).2.2 = false ∧ (slc (apl w n)).2.2.2 = false ∧ (slc (apl w n)).2.2.1 = [] := by
  have hok := apl_ok w hw n
  have hl := apl_len w n
  have hj := mjr_s (apl w n) hok
  have hm := mt_s (apl w n) hok
  have hs := slc_s (apl w n) hok
  have hD := apl_D w hw n
  have e1 : (mjr (apl w n)).2.2 = false := by
    cases x : (mjr (apl w n)).2.2 with
    | false => rfl
    | true =>
      obtain ⟨y1, _, _⟩ := hj.yes x
      have := (hD (mjr (apl w n)).1).1
      have n0 : n = 0 := by omega
      subst n0
      have : mjr (apl w 0) = (0, 0, false) := rfl
      rw [this] at x
      cases x
  refine ⟨?_, e1, by rw [hs.is, e1], ?_⟩
  · cases x : (mt (apl w n)).2.2.2 with
    | false => rfl
    | true =>
      obtain ⟨y1, y2, _, y3, _⟩ := hm.yes x
      have := (hD (mt (apl w n)).1).1
      omega
  · have h := hs.is
    rw [e1] at h
    exact slc_no _ h
theorem one_D (w v : Int) : D [⟨0, 0, w⟩] v = if 0 ≤ v ∧ v ≤ w then 1 else 0 := by
  rw [D_cons]
  have e : D [] v = 0 := rfl
  rw [e]
  show 0 + (if 0 ≤ v ∧ v ≤ w then (1 : Int) else 0) = _
  split <;> rfl
theorem one_in (w v : Int) : 1 ≤ D [⟨0, 0, w⟩] v ↔ 0 ≤ v ∧ v ≤ w := by
  rw [one_D]
  split <;> omega
theorem one_up (w : Int) (hw : 0 ≤ w) : up [⟨0, 0, w⟩] 1 = (0, 0, true) := by
  have hok : Ok [⟨0, 0, w⟩] := by
    intro c hc
    rw [List.mem_singleton.1 hc]
    exact ⟨Int.le_refl _, hw⟩
  have hu := up_s _ hok 1 (by omega)
  generalize up [⟨0, 0, w⟩] 1 = r at hu
  obtain ⟨r1, r2, r3⟩ := r
  cases r3 with
  | false =>
    have h1 := (hu.no rfl).2 0
    have h2 := (one_in w 0).2 ⟨Int.le_refl _, hw⟩
    omega
  | true =>
    obtain ⟨a, b, c⟩ := hu.yes rfl
    simp only at a b c
    have a1 := (one_in w r1).1 a
    have b1 := b 0 ((one_in w 0).2 ⟨Int.le_refl _, hw⟩)
    have e1 : r1 = 0 := by omega
    subst e1
    rw [c]
    rfl
theorem one_dn (w : Int) (hw : 0 ≤ w) : dn [⟨0, 0, w⟩] 1 = (w, 0, true) := by
  have hok : Ok [⟨0, 0, w⟩] := by
    intro c hc
    rw [List.mem_singleton.1 hc]
    exact ⟨Int.le_refl _, hw⟩
  have hu := dn_s _ hok 1 (by omega)
  generalize dn [⟨0, 0, w⟩] 1 = r at hu
  obtain ⟨r1, r2, r3⟩ := r
  cases r3 with
  | false =>
    have h1 := (hu.no rfl).2 0
    have h2 := (one_in w 0).2 ⟨Int.le_refl _, hw⟩
    omega
  | true =>
    obtain ⟨a, b, c⟩ := hu.yes rfl
    simp only at a b c
    have a1 := (one_in w r1).1 a
    have b1 := b w ((one_in w w).2 ⟨hw, Int.le_refl _⟩)
    have e1 : r1 = w := by omega
    subst e1
    rw [c]
    have e2 : Mh [⟨0, 0, r1⟩] r1 = 0 := by
      unfold Mh
      rw [List.countP_eq_zero.2]
      · rfl
      · intro x hx
        rw [List.mem_singleton.1 hx]
        show ¬ decide (r1 < 0) = true
        rw [decide_eq_true_eq]
        omega
    rw [e2]
theorem one_mt (w : Int) (hw : 0 ≤ w) : mt [⟨0, 0, w⟩] = (0, w, 0, true) := by
  have hl : ([⟨0, 0, w⟩] : List S42).length = 1 := rfl
  have h2 : (1 + 1) / 2 = 0 + 1 := by decide
  have h3 : ((1 : Nat) : Int) = 1 := rfl
  unfold MMee.mt
  rw [hl, h2, h3, mt.go, Int.sub_zero, one_up w hw, one_dn w hw, if_pos ⟨rfl, rfl, by simp, hw⟩]
theorem one_mjr (w : Int) (hw : 0 ≤ w) : mjr [⟨0, 0, w⟩] = (0, w, true) := by
  unfold mjr
  have hl : ([⟨0, 0, w⟩] : List S42).length = 1 := rfl
  have h2 : ((1 : Nat) : Int) / 2 + 1 = 1 := by decide
  rw [hl, if_neg (by simp), h2, one_up w hw, one_dn w hw]
  rfl
theorem one_slc (w : Int) (hw : 0 ≤ w) : slc [⟨0, 0, w⟩] = (0, w, [0], true) := by
  have hs : slc.s [⟨0, 0, w⟩] = (0, w, true) := by
    unfold slc.s
    rw [one_mt w hw]
    rfl
  have hp : plc (inMid 0 w) [⟨0, 0, w⟩] 0 = [0] := by
    have : inMid 0 w ⟨0, 0, w⟩ = true := by
      show (decide ((0 : Int) ≤ 0) && decide (0 ≤ w)) = true
      rw [Bool.and_eq_true, decide_eq_true_eq, decide_eq_true_eq]
      omega
    rw [plc, if_pos this, plc]
    rfl
  unfold slc
  rw [hs]
  simp only [if_true]
  rw [hp, if_neg (by simp)]
theorem apl_one (w : Int) : apl w 1 = [⟨0, 0, w⟩] := by
  show [ap w 0] = _
  unfold ap
  have e : ((0 : Nat) : Int) * (w + 1) = 0 := Int.zero_mul _
  rw [e, Int.zero_add]
theorem wrap_le {x : Int} (h0 : -9223372036854775808 ≤ x) (h1 : x ≤ 9223372036854775807) : wrap64 x = x := by unfold wrap64; omega
theorem apart_end (w : Int) (hw : 0 ≤ w ∧ w ≤ 65535) (n k : Nat) (hn : n ≤ 10) (hk : 13 ≤ k) : analemmalaw16_MeetApart.l0 k w (n : Int) (apl w n) (n : Int) = some true := by
  obtain ⟨k, rfl⟩ : ∃ m, k = m + 1 := ⟨k - 1, by omega⟩
  rw [analemmalaw16_MeetApart.l0, if_neg (by omega), meet_f _ (by rw [apl_len]; omega), major_f _ (by rw [apl_len]; omega), select_f _ (by rw [apl_len]; omega), Option.bind_some, Option.bind_some, Option.bind_some]
  by_cases h1 : n = 1
  · subst h1
    rw [apl_one, one_mt w hw.1, one_mjr w hw.1, one_slc w hw.1, me_shown _ (by omega), wrap_le (x := w) (by omega) (by omega)]
    simp
  · obtain ⟨h2, h3, h4, h5⟩ := apart_no w hw.1 n h1
    rw [if_neg (by omega), h2, h3, h4, h5, me_shown _ (by omega)]
    simp
theorem apart_l0 (w : Int) (hw : 0 ≤ w ∧ w ≤ 65535) (n : Nat) (hn : n ≤ 10) : ∀ (d k j : Nat), j + d = n → d + 13 ≤ k → analemmalaw16_MeetApart.l0 k w (n : Int) (apl w j) (j : Int) = some true
  | 0, k, j, hj, hk => by
    obtain rfl : j = n := by omega
    exact apart_end w hw j k hn (by omega)
  | d + 1, k, j, hj, hk => by
    obtain ⟨k, rfl⟩ : ∃ m, k = m + 1 := ⟨k - 1, by omega⟩
    have ih := apart_l0 w hw n hn d k (j + 1) (by omega) (by omega)
    rw [apl_succ] at ih
    have q1 : (j : Int) < (n : Int) := by omega
    have q2 : (apl w j).length < 5864062014805 := by rw [apl_len]; omega
    have q3 : 0 ≤ (j : Int) * (w + 1) ∧ (j : Int) * (w + 1) ≤ 10 * 65536 := by
      refine ⟨Int.mul_nonneg (by omega) (by omega), Int.le_trans (Int.mul_le_mul_of_nonneg_right (show (j : Int) ≤ 10 by omega) (by omega)) ?_⟩
      omega
    have q4 : wrap64 ((j : Int) * (w + 1)) = (j : Int) * (w + 1) := wrap_le (by omega) (by omega)
    have q5 : wrap64 ((j : Int) * (w + 1) + w) = (j : Int) * (w + 1) + w := wrap_le (by omega) (by omega)
    rw [analemmalaw16_MeetApart.l0, if_pos q1, if_pos q2, wrap_le (x := w) (by omega) (by omega), wrap_le (x := w + 1) (by omega) (by omega), q4, q5, wrap_le (x := (j : Int) + 1) (by omega) (by omega)]
    exact ih
theorem MeetApart : analemmalaw16_MeetApart.Pure := by
  intro a0 a1 w0 w1
  have h0 := bounds_u8 w0
  have h1 := bounds_u16 w1
  refine ⟨100, ?_⟩
  unfold analemmalaw16_MeetApart.f
  obtain ⟨n, hn⟩ : ∃ n : Nat, Int.tmod (wrap64 a0) 11 = (n : Int) := by
    rw [wrap_le (x := a0) (by omega) (by omega), Int.tmod_eq_emod_of_nonneg h0.1]
    exact ⟨(a0 % 11).toNat, by omega⟩
  have hl : n ≤ 10 := by
    rw [wrap_le (x := a0) (by omega) (by omega), Int.tmod_eq_emod_of_nonneg h0.1] at hn
    omega
  rw [hn]
  exact apart_l0 a1 h1 n hl n 100 0 (by omega) (by omega)


end Go.Proofs.Ytdlbnkiolpmnbaa.Pure
