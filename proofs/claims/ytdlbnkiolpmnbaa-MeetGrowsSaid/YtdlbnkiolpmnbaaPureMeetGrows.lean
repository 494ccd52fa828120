/- A span that gets wider keeps most together, and what was told of most is still in it; no condition but the kinds of its arguments. -/
import Derived.Test.YtdlbnkiolpmnbaaBMee
import Derived.Test.YtdlbnkiolpmnbaaMMeex6
namespace Go.Proofs.Ytdlbnkiolpmnbaa.Pure
open Go.RowKit Go.Proofs.Ytdlbnkiolpmnbaa.MMee Go.Proofs.YtdlbnkiolpmnbaaW.PrintWords Go.Proofs.YtdlbnkiolpmnbaaW.PrintLast Go.Proofs.YtdlbnkiolpmnbaaW.PrintMore
set_option linter.unusedVariables false
set_option linter.unusedSimpArgs false

theorem major_f (l : List S42) (h : l.length ≤ 100000) : meet_Major.f l = some (mjr l) := by unfold meet_Major.f; rw [if_pos h]
theorem D_set (l : List S42) (i : Nat) (c : S42) (hi : i < l.length) (h : c.f0 ≤ l[i].f0 ∧ l[i].f2 ≤ c.f2) (v : Int) : D l v ≤ D (l.set i c) v := by
  have e1 : l = l.take i ++ l[i] :: l.drop (i + 1) := by rw [List.getElem_cons_drop, List.take_append_drop]
  have e2 : l.set i c = l.take i ++ c :: l.drop (i + 1) := by rw [List.set_eq_take_append_cons_drop, if_pos hi]
  rw [e2]
  have e3 : D l v = D (l.take i ++ l[i] :: l.drop (i + 1)) v := by rw [← e1]
  rw [e3, D_app, D_app, D_cons, D_cons]
  by_cases c1 : l[i].f0 ≤ v ∧ v ≤ l[i].f2
  · rw [if_pos c1, if_pos (by omega)]; omega
  · rw [if_neg c1]
    split <;> omega
theorem grows_main (l : List S42) (i : Nat) (hi : i < l.length) (hl : l.length ≤ 10) (hok : Ok l) (b : Int) (hb : 0 ≤ b) :
    (mjr l).2.2 = true → (mjr (l.set i ⟨l[i].f0 - b, l[i].f1, l[i].f2 + b⟩)).2.2 = true ∧ (mjr (l.set i ⟨l[i].f0 - b, l[i].f1, l[i].f2 + b⟩)).1 ≤ (mjr l).1 ∧ (mjr l).2.1 ≤ (mjr (l.set i ⟨l[i].f0 - b, l[i].f1, l[i].f2 + b⟩)).2.1 := by
  intro h
  have hk := hok l[i] (List.getElem_mem hi)
  have hok' : Ok (l.set i ⟨l[i].f0 - b, l[i].f1, l[i].f2 + b⟩) := by
    intro c hc
    rcases List.mem_or_eq_of_mem_set hc with h | rfl
    · exact hok c h
    · simp only; omega
  have hD := D_set l i ⟨l[i].f0 - b, l[i].f1, l[i].f2 + b⟩ hi (by simp only; omega)
  have hlen : (l.set i ⟨l[i].f0 - b, l[i].f1, l[i].f2 + b⟩).length = l.length := List.length_set
  have a := mjr_s l hok
  have c := mjr_s _ hok'
  generalize l.set i ⟨l[i].f0 - b, l[i].f1, l[i].f2 + b⟩ = l' at hok' hD hlen c
  obtain ⟨a1, a2, a3⟩ := a.yes h
  have d1 := hD (mjr l).1
  have d2 := hD (mjr l).2.1
  have h' : (mjr l').2.2 = true := by
    cases x : (mjr l').2.2 with
    | true => rfl
    | false => have := (c.no x).2 (mjr l).1; omega
  obtain ⟨_, _, c3⟩ := c.yes h'
  exact ⟨h', (c3 _ (by omega)).1, (c3 _ (by omega)).2⟩
theorem wrap_le {x : Int} (h0 : -9223372036854775808 ≤ x) (h1 : x ≤ 9223372036854775807) : wrap64 x = x := by unfold wrap64; omega
theorem grows_true (l : List S42) (a1 a2 : Int) (h1 : 0 ≤ a1 ∧ a1 ≤ 255) (h2 : 0 ≤ a2 ∧ a2 ≤ 4294967295) (hB : ∀ x ∈ l, (-9223372036854775808 ≤ x.f0 ∧ x.f0 ≤ 9223372036854775807) ∧ (-9223372036854775808 ≤ x.f2 ∧ x.f2 ≤ 9223372036854775807)) : ∃ k, analemmalaw16_MeetGrows.f k l a1 a2 = some true := by
  refine ⟨100 + 1, ?_⟩
  unfold analemmalaw16_MeetGrows.f
  rcases check_cases l with h | ⟨h, hl, hok⟩
  · rw [h, Option.bind_some, if_neg (by decide), analemmalaw16_MeetGrows.j0, if_pos rfl]
    by_cases h0 : (l.length : Int) = 0
    · rw [if_pos h0, me_shown _ (by omega), Option.bind_some]
    · rw [if_neg h0]
      exact guard_true l 100 (by omega) (me_shown _ (by omega)) h
  · rw [h, Option.bind_some, if_pos rfl, if_neg (by omega)]
    by_cases h0 : (l.length : Int) = 0
    · rw [if_pos h0, analemmalaw16_MeetGrows.j0, if_pos rfl, if_pos h0, me_shown _ (by omega), Option.bind_some]
    · rw [if_neg h0, me_shown _ (by omega), Option.bind_some, analemmalaw16_MeetGrows.j0, if_neg (by decide), major_f l (by omega), Option.bind_some, Option.bind_some, if_pos (by simp; omega), Option.bind_some, if_neg h0, wrap_le (x := a1) (by omega) (by omega), wrap_le (x := a2) (by omega) (by omega)]
      obtain ⟨i, hi⟩ : ∃ i : Nat, Int.tmod a1 (l.length : Int) = (i : Int) := by
        rw [Int.tmod_eq_emod_of_nonneg h1.1]
        exact ⟨(a1 % (l.length : Int)).toNat, by have := Int.emod_nonneg a1 h0; omega⟩
      have hil : i < l.length := by
        rw [Int.tmod_eq_emod_of_nonneg h1.1] at hi
        have := Int.emod_lt_of_pos a1 (show (0 : Int) < (l.length : Int) by omega)
        omega
      have hb := hB l[i] (List.getElem_mem hil)
      rw [hi, List.nil_append, rd_at42 l i hil, Int.toNat_natCast, if_pos (by omega), if_pos (by omega), wrap_le (x := -9223372036854775807 + a2) (by omega) (by omega), wrap_le (x := 9223372036854775807 - a2) (by omega) (by omega)]
      by_cases c1 : l[i].f0 < -9223372036854775807 + a2
      · rw [if_pos c1]
      · rw [if_neg c1]
        by_cases c2 : l[i].f2 > 9223372036854775807 - a2
        · rw [if_pos c2]
        · rw [if_neg c2, Option.bind_some, wrap_le (x := l[i].f0 - a2) (by omega) (by omega)]
          have hs : i < (l.set i ⟨l[i].f0 - a2, l[i].f1, l[i].f2⟩).length := by rw [List.length_set]; exact hil
          have hg : (l.set i ⟨l[i].f0 - a2, l[i].f1, l[i].f2⟩)[i] = ⟨l[i].f0 - a2, l[i].f1, l[i].f2⟩ := List.getElem_set_self hs
          rw [rd_at42 _ i hs, hg, List.set_set]
          show ((meet_Major.f (l.set i ⟨l[i].f0 - a2, l[i].f1, wrap64 (l[i].f2 + a2)⟩)).bind _) = _
          rw [wrap_le (x := l[i].f2 + a2) (by omega) (by omega), major_f _ (by rw [List.length_set]; omega), Option.bind_some]
          have hm := grows_main l i hil hl hok a2 h2.1
          by_cases c : (mjr l).2.2 = true
          · obtain ⟨m1, m2, m3⟩ := hm c
            rw [if_pos c, if_pos m1, if_pos m2]
            exact congrArg some (decide_eq_true m3)
          · rw [if_neg c]
theorem grows_walk (A0 : Option Addr) (c0 : Nat) (l0 : List S42) (a1 a2 : Int) (w : World) (hr0 : Kd.C k42 w A0 l0.length l0) (hc0 : l0.length ≤ c0) (hw : ∀ x ∈ l0, (Lit.int .i64 x.f0).wf = true ∧ (Lit.int .i64 x.f1).wf = true ∧ (Lit.int .i64 x.f2).wf = true) (w1 : (Lit.int .u8 a1).wf = true) (w2 : (Lit.int .u32 a2).wf = true) :
    Calls Try.prog 5 #[.slice A0 l0.length c0, .int .u8 a1, .int .u32 a2] w fun e w' => e = .returned (.bool true) ∧ Below w.heap.size w w' := by
  obtain ⟨k, hk⟩ := grows_true l0 a1 a2 (bounds_u8 w1) (bounds_u32 w2) (fun x hx => ⟨bounds_i64 (hw x hx).1, bounds_i64 (hw x hx).2.2⟩)
  exact analemmalaw16_MeetGrows.calls k A0 c0 l0 a1 a2 true w hr0 hc0 hk (Aside0.mk rfl)


end Go.Proofs.Ytdlbnkiolpmnbaa.Pure
