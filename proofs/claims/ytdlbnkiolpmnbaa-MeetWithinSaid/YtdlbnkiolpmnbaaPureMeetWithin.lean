/- What is told lies where enough spans are, where all meet lies within where most do, and what is selected meets it; no condition but the kinds of its arguments. -/
import Derived.Test.YtdlbnkiolpmnbaaBMee
import Derived.Test.YtdlbnkiolpmnbaaMMeex7
namespace Go.Proofs.Ytdlbnkiolpmnbaa.Pure
open Go.RowKit Go.Proofs.Ytdlbnkiolpmnbaa.MMee Go.Proofs.YtdlbnkiolpmnbaaW.PrintWords Go.Proofs.YtdlbnkiolpmnbaaW.PrintLast Go.Proofs.YtdlbnkiolpmnbaaW.PrintMore
set_option linter.unusedVariables false
set_option linter.unusedSimpArgs false

theorem meet_f (l : List S42) (h : l.length ≤ 100000) : meet_Meet.f l = some (mt l) := by unfold meet_Meet.f; rw [if_pos h]
theorem major_f (l : List S42) (h : l.length ≤ 100000) : meet_Major.f l = some (mjr l) := by unfold meet_Major.f; rw [if_pos h]
theorem select_f (l : List S42) (h : l.length ≤ 100000) : meet_Select.f l = some (slc l) := by unfold meet_Select.f; rw [if_pos h]
theorem wrap_le {x : Int} (h0 : -9223372036854775808 ≤ x) (h1 : x ≤ 9223372036854775807) : wrap64 x = x := by unfold wrap64; omega
theorem rd_at (l : List Int) (j : Nat) (h : j < l.length) : rd l (j : Int) = l[j] := by
  unfold rd
  rw [Int.toNat_natCast, List.getD_eq_getElem?_getD, List.getElem?_eq_getElem h]
  rfl
theorem plc_le (P : S42 → Bool) : ∀ (l : List S42) (j : Nat), (plc P l j).length ≤ l.length
  | [], _ => Nat.le_refl _
  | x :: r, j => by
    have ih := plc_le P r (j + 1)
    rw [plc]
    split
    · rw [List.length_cons, List.length_cons]; omega
    · rw [List.length_cons]; omega
theorem slc_le (l : List S42) : (slc l).2.2.1.length ≤ l.length := by
  unfold slc
  split
  · simp only
    split <;> exact plc_le _ _ _
  · exact Nat.zero_le _
theorem within_l0 (l : List S42) (hl : l.length ≤ 10) (hok : Ok l) : ∀ (d k j : Nat), j + d = (slc l).2.2.1.length → d + 1 ≤ k →
    analemmalaw16_MeetWithin.l0 k l (mt l).2.2.2 (mjr l).2.2 (slc l).2.2.1 (slc l).2.2.2 (j : Int) (mt l).1 (mt l).2.1 (slc l).1 (slc l).2.1 = some true
  | 0, k, j, hj, hk => by
    obtain ⟨k, rfl⟩ : ∃ m, k = m + 1 := ⟨k - 1, by omega⟩
    have hs := slc_s l hok
    have q : ((slc l).2.2.2 == (mjr l).2.2) = true := beq_iff_eq.2 hs.is
    rw [analemmalaw16_MeetWithin.l0, if_neg (by omega), if_pos q]
    by_cases c : (mt l).2.2.2 = true
    · obtain ⟨h1, h2, _⟩ := hs.met c
      rw [if_pos c, h1, h2, beq_self_eq_true, beq_self_eq_true]
      rfl
    · rw [if_neg c]
  | d + 1, k, j, hj, hk => by
    obtain ⟨k, rfl⟩ : ∃ m, k = m + 1 := ⟨k - 1, by omega⟩
    have hs := slc_s l hok
    have hle := slc_le l
    have hjx : j < (slc l).2.2.1.length := by omega
    have ih := within_l0 l hl hok d k (j + 1) (by omega) (by omega)
    obtain ⟨i0, i1, i2⟩ := hs.in_ j hjx
    have hr : ∀ i, i + 1 = j → ∀ (h : i < (slc l).2.2.1.length), (slc l).2.2.1[i] < (slc l).2.2.1[j] := by
      intro i hi h
      subst hi
      exact hs.rise i hjx
    have e1 : wrap64 ((j : Int) + 1) = ((j + 1 : Nat) : Int) := wrap_le (by omega) (by omega)
    rw [← e1] at ih
    obtain ⟨n, hn⟩ : ∃ n : Nat, (slc l).2.2.1[j] = (n : Int) := ⟨((slc l).2.2.1[j]).toNat, by omega⟩
    have hnl : n < l.length := by omega
    have i3 := i2 l[n] (by rw [hn, Int.toNat_natCast]; exact List.getElem?_eq_getElem hnl)
    have q1 : (j : Int) < ((slc l).2.2.1.length : Int) := by omega
    have q2 : (0 : Int) ≤ (n : Int) := by omega
    have q3 : (n : Int) < (l.length : Int) := by omega
    have q0 : (0 : Int) ≤ (j : Int) := by omega
    have q4 : ¬ (n : Int) < 0 := by omega
    have q5 : ¬ (n : Int) ≥ (l.length : Int) := by omega
    have q6 : ¬ l[n].f0 > (slc l).2.1 := by omega
    have q7 : ¬ l[n].f2 < (slc l).1 := by omega
    have hrd := rd_at (slc l).2.2.1 j hjx
    rw [hn] at hrd
    have hrt := rd_at42 l n hnl
    clear e1 i2 i3
    rw [analemmalaw16_MeetWithin.l0, if_pos q1, if_pos q0, hrd, if_neg q4, if_neg q5]
    by_cases c : (j : Int) > 0
    · obtain ⟨i, rfl⟩ : ∃ i, j = i + 1 := ⟨j - 1, by omega⟩
      have e2 : wrap64 (((i + 1 : Nat) : Int) - 1) = (i : Int) := by rw [wrap_le (by omega) (by omega)]; omega
      have hr2 := hr i rfl (by omega)
      rw [hn] at hr2
      have hrd2 := rd_at (slc l).2.2.1 i (by omega)
      have q8 : (0 : Int) ≤ (i : Int) := by omega
      have q9 : (i : Int) < ((slc l).2.2.1.length : Int) := by omega
      have q10 : ¬ (slc l).2.2.1[i] ≥ (n : Int) := by omega
      rw [if_pos c, e2, if_pos q8, if_pos q9, hrd2, if_neg q10, if_pos q2, if_pos q3, hrt, if_neg q6, if_neg q7]
      exact ih
    · rw [if_neg c, if_pos q2, if_pos q3, hrt, if_neg q6, if_neg q7]
      exact ih
theorem within_j1 (l : List S42) (hl : l.length ≤ 10) (hok : Ok l) (k : Nat) (hk : 100 ≤ k) : analemmalaw16_MeetWithin.j1 k l (mt l).2.2.2 (mjr l).2.2 false (mt l).1 (mt l).2.1 (mjr l).1 (mjr l).2.1 = some true := by
  obtain ⟨k, rfl⟩ : ∃ m, k = m + 2 := ⟨k - 2, by omega⟩
  have hle := slc_le l
  have hj := mjr_s l hok
  have e2 : analemmalaw16_MeetWithin.j2 (k + 1) l (mt l).2.2.2 (mjr l).2.2 false (mt l).1 (mt l).2.1 = some true := by
    rw [analemmalaw16_MeetWithin.j2, if_neg (by decide), select_f l (by omega), Option.bind_some]
    exact within_l0 l hl hok (slc l).2.2.1.length k 0 (by omega) (by omega)
  rw [analemmalaw16_MeetWithin.j1, if_neg (by decide), e2]
  by_cases c : (mjr l).2.2 = true
  · obtain ⟨h1, h2, h3⟩ := hj.yes c
    have b1 := D_bd l (mjr l).1
    have b2 := D_bd l (mjr l).2.1
    have h4 := h3 _ h1
    have e3 : decide ((mjr l).1 > (mjr l).2.1) = false := decide_eq_false (by omega)
    rw [if_pos c, depth_eq l _ (by omega) _ (by omega), Option.bind_some, wrap_le (x := 2 * D l (mjr l).1) (by omega) (by omega), if_neg (by omega), depth_eq l _ (by omega) _ (by omega), Option.bind_some, wrap_le (x := 2 * D l (mjr l).2.1) (by omega) (by omega), if_neg (by omega), e3, e2]
  · rw [if_neg c]
theorem within_j0 (l : List S42) (hl : l.length ≤ 10) (hok : Ok l) (k : Nat) (hk : 101 ≤ k) : analemmalaw16_MeetWithin.j0 k l false = some true := by
  obtain ⟨k, rfl⟩ : ∃ m, k = m + 1 := ⟨k - 1, by omega⟩
  have hj := mjr_s l hok
  have hm := mt_s l hok
  have e1 := within_j1 l hl hok k (by omega)
  rw [analemmalaw16_MeetWithin.j0, if_neg (by decide), meet_f l (by omega), major_f l (by omega), Option.bind_some, Option.bind_some]
  by_cases c : (mt l).2.2.2 = true
  · obtain ⟨y1, y2, y3, y4, y5⟩ := hm.yes c
    have cj : (mjr l).2.2 = true := by
      cases x : (mjr l).2.2 with
      | true => rfl
      | false => have := (hj.no x).2 (mt l).1; omega
    obtain ⟨_, _, h3⟩ := hj.yes cj
    have z1 := h3 (mt l).1 (by omega)
    have z2 := h3 (mt l).2.1 (by omega)
    have e3 : decide ((mt l).2.1 > (mjr l).2.1) = false := decide_eq_false (by omega)
    rw [if_pos c, wrap_le (x := 2 * (mt l).2.2.1) (by omega) (by omega), if_neg (by omega), if_neg (by omega), wrap_le (x := (l.length : Int) - (mt l).2.2.1) (by omega) (by omega), depth_eq l _ (by omega) _ (by omega), Option.bind_some, if_neg (by omega), depth_eq l _ (by omega) _ (by omega), Option.bind_some, if_neg (by omega), if_pos cj, if_neg (by omega), e3]
    exact e1
  · rw [if_neg c]
    exact e1
theorem within_true (l : List S42) : ∃ k, analemmalaw16_MeetWithin.f k l = some true := by
  refine ⟨200 + 1, ?_⟩
  unfold analemmalaw16_MeetWithin.f
  rcases check_cases l with h | ⟨h, hl, hok⟩
  · rw [h, Option.bind_some, if_neg (by decide), analemmalaw16_MeetWithin.j0, if_pos rfl]
    exact guard_true l 200 (by omega) (me_shown _ (by omega)) h
  · rw [h, Option.bind_some, if_pos rfl, if_neg (by omega), me_shown _ (by omega), Option.bind_some]
    exact within_j0 l hl hok (200 + 1) (by omega)
theorem within_walk (A0 : Option Addr) (c0 : Nat) (l0 : List S42) (w : World) (hr0 : Kd.C k42 w A0 l0.length l0) (hc0 : l0.length ≤ c0) :
    Calls Try.prog 11 #[.slice A0 l0.length c0] w fun e w' => e = .returned (.bool true) ∧ Below w.heap.size w w' := by
  obtain ⟨k, hk⟩ := within_true l0
  exact analemmalaw16_MeetWithin.calls k A0 c0 l0 true w hr0 hc0 hk (Aside0.mk rfl)


end Go.Proofs.Ytdlbnkiolpmnbaa.Pure
