/- Candidates in another order meet in the same span; no condition but the kinds of its arguments. -/
import Derived.Test.YtdlbnkiolpmnbaaBMee
import Derived.Test.YtdlbnkiolpmnbaaMMeex5
namespace Go.Proofs.Ytdlbnkiolpmnbaa.Pure
open Go.RowKit Go.Proofs.Ytdlbnkiolpmnbaa.MMee Go.Proofs.YtdlbnkiolpmnbaaW.PrintWords Go.Proofs.YtdlbnkiolpmnbaaW.PrintLast Go.Proofs.YtdlbnkiolpmnbaaW.PrintMore
set_option linter.unusedVariables false
set_option linter.unusedSimpArgs false

theorem D_perm {l l' : List S42} (h : l.Perm l') (v : Int) : D l v = D l' v := by unfold D; rw [h.countP_eq]
theorem Ml_perm {l l' : List S42} (h : l.Perm l') (v : Int) : Ml l v = Ml l' v := by unfold Ml; rw [h.countP_eq]
theorem Mh_perm {l l' : List S42} (h : l.Perm l') (v : Int) : Mh l v = Mh l' v := by unfold Mh; rw [h.countP_eq]
theorem Ok_perm {l l' : List S42} (h : l.Perm l') (hok : Ok l) : Ok l' := fun c hc => hok c (h.mem_iff.2 hc)
theorem up_perm {l l' : List S42} (h : l.Perm l') (hok : Ok l) (need : Int) (hn : 0 < need) : up l need = up l' need := by
  have a := up_s l hok need hn
  have b := up_s l' (Ok_perm h hok) need hn
  generalize up l need = r at a
  generalize up l' need = s at b
  obtain ⟨r1, r2, r3⟩ := r
  obtain ⟨s1, s2, s3⟩ := s
  cases r3 with
  | false =>
    obtain ⟨e, a2⟩ := a.no rfl
    cases s3 with
    | false => rw [e, (b.no rfl).1]
    | true =>
      have := (b.yes rfl).1
      rw [← D_perm h] at this
      have := a2 s1
      simp only at *
      omega
  | true =>
    obtain ⟨a1, a2, a3⟩ := a.yes rfl
    cases s3 with
    | false =>
      have := (b.no rfl).2 r1
      rw [← D_perm h] at this
      simp only at *
      omega
    | true =>
      obtain ⟨b1, b2, b3⟩ := b.yes rfl
      simp only at *
      have h1 := a2 s1 (by rw [D_perm h]; exact b1)
      have h2 := b2 r1 (by rw [← D_perm h]; exact a1)
      have e : r1 = s1 := by omega
      subst e
      rw [a3, b3, Ml_perm h]
theorem dn_perm {l l' : List S42} (h : l.Perm l') (hok : Ok l) (need : Int) (hn : 0 < need) : dn l need = dn l' need := by
  have a := dn_s l hok need hn
  have b := dn_s l' (Ok_perm h hok) need hn
  generalize dn l need = r at a
  generalize dn l' need = s at b
  obtain ⟨r1, r2, r3⟩ := r
  obtain ⟨s1, s2, s3⟩ := s
  cases r3 with
  | false =>
    obtain ⟨e, a2⟩ := a.no rfl
    cases s3 with
    | false => rw [e, (b.no rfl).1]
    | true =>
      have := (b.yes rfl).1
      rw [← D_perm h] at this
      have := a2 s1
      simp only at *
      omega
  | true =>
    obtain ⟨a1, a2, a3⟩ := a.yes rfl
    cases s3 with
    | false =>
      have := (b.no rfl).2 r1
      rw [← D_perm h] at this
      simp only at *
      omega
    | true =>
      obtain ⟨b1, b2, b3⟩ := b.yes rfl
      simp only at *
      have h1 := a2 s1 (by rw [D_perm h]; exact b1)
      have h2 := b2 r1 (by rw [← D_perm h]; exact a1)
      have e : r1 = s1 := by omega
      subst e
      rw [a3, b3, Mh_perm h]
theorem mjr_perm {l l' : List S42} (h : l.Perm l') (hok : Ok l) : mjr l = mjr l' := by
  unfold mjr
  rw [← h.length_eq]
  by_cases c : l.length = 0
  · rw [if_pos c, if_pos c]
  · rw [if_neg c, if_neg c, up_perm h hok _ (by omega), dn_perm h hok _ (by omega)]
theorem mtgo_perm {l l' : List S42} (h : l.Perm l') (hok : Ok l) : ∀ (k i : Nat), i + k ≤ (l.length + 1) / 2 → mt.go l (l.length : Int) k (i : Int) = mt.go l' (l.length : Int) k (i : Int)
  | 0, i, _ => rfl
  | k + 1, i, hk => by
    have ih := mtgo_perm h hok k (i + 1) (by omega)
    rw [mt.go, mt.go, up_perm h hok _ (by omega), dn_perm h hok _ (by omega)]
    split
    · rfl
    · exact ih
theorem mt_perm {l l' : List S42} (h : l.Perm l') (hok : Ok l) : mt l = mt l' := by
  unfold MMee.mt
  rw [← h.length_eq]
  exact mtgo_perm h hok _ 0 (by omega)
def turn (l : List S42) (k : Nat) : List S42 := (List.range l.length).map fun i => l.getD ((i + k) % l.length) ⟨0, 0, 0⟩
theorem turn_len (l : List S42) (k : Nat) : (turn l k).length = l.length := by simp [turn]
theorem turn_eq (l : List S42) (k : Nat) (h0 : 0 < l.length) : turn l k = l.drop (k % l.length) ++ l.take (k % l.length) := by
  have hk : k % l.length < l.length := Nat.mod_lt _ h0
  refine List.ext_getElem ?_ (fun i h1 h2 => ?_)
  · rw [turn_len, List.length_append, List.length_drop, List.length_take]; omega
  · have hi : i < l.length := by rw [turn_len] at h1; exact h1
    have e : (turn l k)[i] = l.getD ((i + k) % l.length) ⟨0, 0, 0⟩ := by simp [turn]
    have hm : (i + k) % l.length = (i + k % l.length) % l.length := by rw [Nat.add_mod, Nat.add_mod i (k % l.length), Nat.mod_mod]
    rw [e, hm]
    by_cases c : i < l.length - k % l.length
    · rw [List.getElem_append_left (by rw [List.length_drop]; exact c), List.getElem_drop, Nat.mod_eq_of_lt (by omega), List.getD_eq_getElem?_getD, List.getElem?_eq_getElem (by omega), Option.getD_some]
      congr 1
      omega
    · rw [List.getElem_append_right (by rw [List.length_drop]; omega), List.getElem_take, List.getD_eq_getElem?_getD, show (i + k % l.length) % l.length = i + k % l.length - l.length by rw [Nat.mod_eq_sub_mod (by omega), Nat.mod_eq_of_lt (by omega)], List.getElem?_eq_getElem (by omega), Option.getD_some]
      congr 1
      rw [List.length_drop]
      omega
theorem turn_perm (l : List S42) (k : Nat) : l.Perm (turn l k) := by
  by_cases h0 : 0 < l.length
  · rw [turn_eq l k h0]
    have h : (l.take (k % l.length) ++ l.drop (k % l.length)).Perm (l.drop (k % l.length) ++ l.take (k % l.length)) := List.perm_append_comm
    rwa [List.take_append_drop] at h
  · have : l = [] := List.eq_nil_of_length_eq_zero (by omega)
    subst this
    exact List.Perm.refl _
theorem meet_f (l : List S42) (h : l.length ≤ 100000) : meet_Meet.f l = some (mt l) := by unfold meet_Meet.f; rw [if_pos h]
theorem major_f (l : List S42) (h : l.length ≤ 100000) : meet_Major.f l = some (mjr l) := by unfold meet_Major.f; rw [if_pos h]
theorem order_l0 (l : List S42) (a1 : Nat) (ha : a1 ≤ 255) (hl : l.length ≤ 10) (hok : Ok l) : ∀ (d k j : Nat), j + d = l.length → d + 1 ≤ k → analemmalaw16_MeetOrder.l0 k l (a1 : Int) ((turn l a1).take j) (j : Int) = some true
  | 0, k, j, hj, hk => by
    obtain ⟨k, rfl⟩ : ∃ m, k = m + 1 := ⟨k - 1, by omega⟩
    rw [analemmalaw16_MeetOrder.l0, if_neg (by omega), List.take_of_length_le (by rw [turn_len]; omega)]
    rw [meet_f l (by omega), meet_f (turn l a1) (by rw [turn_len]; omega), major_f l (by omega), major_f (turn l a1) (by rw [turn_len]; omega), ← mt_perm (turn_perm l a1) hok, ← mjr_perm (turn_perm l a1) hok]
    simp only [Option.bind_some, beq_self_eq_true, Bool.and_self, if_true]
  | d + 1, k, j, hj, hk => by
    obtain ⟨k, rfl⟩ : ∃ m, k = m + 1 := ⟨k - 1, by omega⟩
    have h0 : 0 < l.length := by omega
    have hr : (j + a1) % l.length < l.length := Nat.mod_lt _ h0
    have hm : Int.tmod (wrap64 ((j : Int) + (wrap64 (a1 : Int)))) (l.length : Int) = (((j + a1) % l.length : Nat) : Int) := by
      have e1 : wrap64 (a1 : Int) = (a1 : Int) := by unfold wrap64; omega
      rw [e1]
      clear e1
      have e2 : wrap64 ((j : Int) + (a1 : Int)) = ((j + a1 : Nat) : Int) := by unfold wrap64; omega
      rw [e2, Int.tmod_eq_emod_of_nonneg (by omega)]
      rfl
    have ht : (turn l a1).take (j + 1) = (turn l a1).take j ++ [l[(j + a1) % l.length]] := by
      rw [List.take_succ_eq_append_getElem (by rw [turn_len]; omega)]
      congr 2
      simp [turn, List.getD_eq_getElem?_getD, hr]
    have hlt : ((turn l a1).take j).length < 5864062014805 := by rw [List.length_take, turn_len]; omega
    have ih := order_l0 l a1 ha hl hok d k (j + 1) (by omega) (by omega)
    have hr1 : (0 : Int) ≤ (((j + a1) % l.length : Nat) : Int) := by omega
    have hr2 : (((j + a1) % l.length : Nat) : Int) < (l.length : Int) := by omega
    have q1 : (j : Int) < (l.length : Int) := by omega
    have hw : wrap64 ((j : Int) + 1) = ((j + 1 : Nat) : Int) := by clear hm; unfold wrap64; omega
    rw [analemmalaw16_MeetOrder.l0, if_pos q1, if_neg (by omega), hm, if_pos hr1, if_pos hr2, if_pos hlt, rd_at42 l _ hr, hw]
    rw [ht] at ih
    exact ih
theorem order_true (l : List S42) (a1 : Int) (h1 : 0 ≤ a1 ∧ a1 ≤ 255) : ∃ k, analemmalaw16_MeetOrder.f k l a1 = some true := by
  refine ⟨100 + 1, ?_⟩
  unfold analemmalaw16_MeetOrder.f
  rcases check_cases l with h | ⟨h, hl, hok⟩
  · rw [h, Option.bind_some, if_neg (by decide), analemmalaw16_MeetOrder.j0, if_pos rfl]
    exact guard_true l 100 (by omega) (me_shown _ (by omega)) h
  · rw [h, Option.bind_some, if_pos rfl, if_neg (by omega), me_shown _ (by omega), Option.bind_some, analemmalaw16_MeetOrder.j0, if_neg (by decide)]
    obtain ⟨a, rfl⟩ : ∃ a : Nat, a1 = (a : Int) := ⟨a1.toNat, by omega⟩
    exact order_l0 l a (by omega) hl hok l.length 100 0 (by omega) (by omega)
theorem order_walk (A0 : Option Addr) (c0 : Nat) (l0 : List S42) (a1 : Int) (w : World) (hr0 : Kd.C k42 w A0 l0.length l0) (hc0 : l0.length ≤ c0) (w1 : (Lit.int .u8 a1).wf = true) :
    Calls Try.prog 4 #[.slice A0 l0.length c0, .int .u8 a1] w fun e w' => e = .returned (.bool true) ∧ Below w.heap.size w w' := by
  obtain ⟨k, hk⟩ := order_true l0 a1 (bounds_u8 w1)
  exact analemmalaw16_MeetOrder.calls k A0 c0 l0 a1 true w hr0 hc0 hk (Aside0.mk rfl)


end Go.Proofs.Ytdlbnkiolpmnbaa.Pure
