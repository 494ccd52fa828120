/- If more than half of all spans have one number in them, the span of most has it in it, and something is selected; no condition but the kinds of its arguments. -/
import Derived.Test.YtdlbnkiolpmnbaaBMee
import Derived.Test.YtdlbnkiolpmnbaaMMeex6
namespace Go.Proofs.Ytdlbnkiolpmnbaa.Pure
open Go.RowKit Go.Proofs.Ytdlbnkiolpmnbaa.MMee Go.Proofs.YtdlbnkiolpmnbaaW.PrintWords Go.Proofs.YtdlbnkiolpmnbaaW.PrintLast Go.Proofs.YtdlbnkiolpmnbaaW.PrintMore
set_option linter.unusedVariables false
set_option linter.unusedSimpArgs false

theorem major_f (l : List S42) (h : l.length ≤ 100000) : meet_Major.f l = some (mjr l) := by unfold meet_Major.f; rw [if_pos h]
theorem select_f (l : List S42) (h : l.length ≤ 100000) : meet_Select.f l = some (slc l) := by unfold meet_Select.f; rw [if_pos h]
theorem sound_true (l : List S42) (a1 : Int) : ∃ k, analemmalaw16_MeetSound.f k l a1 = some true := by
  refine ⟨100 + 1, ?_⟩
  unfold analemmalaw16_MeetSound.f
  rcases check_cases l with h | ⟨h, hl, hok⟩
  · rw [h, Option.bind_some, if_neg (by decide), analemmalaw16_MeetSound.j0, if_pos rfl]
    exact guard_true l 100 (by omega) (me_shown _ (by omega)) h
  · rw [h, Option.bind_some, if_pos rfl, if_neg (by omega), me_shown _ (by omega), Option.bind_some, analemmalaw16_MeetSound.j0, if_neg (by decide), depth_eq l a1 (by omega) 100 (by omega), Option.bind_some]
    have hb := D_bd l a1
    have hw : wrap64 (2 * D l a1) = 2 * D l a1 := by unfold wrap64; omega
    rw [hw]
    by_cases c : 2 * D l a1 ≤ (l.length : Int)
    · rw [if_pos c]
    · have hj := mjr_s l hok
      have hs := slc_s l hok
      have hi : (mjr l).2.2 = true := by
        cases x : (mjr l).2.2 with
        | true => rfl
        | false => have := (hj.no x).2 a1; omega
      obtain ⟨_, _, h3⟩ := hj.yes hi
      have h4 := h3 a1 (by omega)
      have h5 := hs.some (by rw [hs.is, hi])
      rw [if_neg c, major_f l (by omega), Option.bind_some, select_f l (by omega), Option.bind_some, if_pos hi, if_pos h4.1, if_pos h4.2, if_pos (by rw [hs.is, hi])]
      exact congrArg some (decide_eq_true (by omega))
theorem sound_walk (A0 : Option Addr) (c0 : Nat) (l0 : List S42) (a1 : Int) (w : World) (hr0 : Kd.C k42 w A0 l0.length l0) (hc0 : l0.length ≤ c0) :
    Calls Try.prog 10 #[.slice A0 l0.length c0, .int .i64 a1] w fun e w' => e = .returned (.bool true) ∧ Below w.heap.size w w' := by
  obtain ⟨k, hk⟩ := sound_true l0 a1
  exact analemmalaw16_MeetSound.calls k A0 c0 l0 a1 true w hr0 hc0 hk (Aside0.mk rfl)


end Go.Proofs.Ytdlbnkiolpmnbaa.Pure
