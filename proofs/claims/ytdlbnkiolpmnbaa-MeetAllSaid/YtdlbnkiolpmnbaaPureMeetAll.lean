/- Spans that all have one number in them meet without a falseticker, in what they have together; no condition but the kinds of its arguments. -/
import Derived.Test.YtdlbnkiolpmnbaaBMee
import Derived.Test.YtdlbnkiolpmnbaaMMeex8
namespace Go.Proofs.Ytdlbnkiolpmnbaa.Pure
open Go.RowKit Go.Proofs.Ytdlbnkiolpmnbaa.MMee Go.Proofs.YtdlbnkiolpmnbaaW.PrintWords Go.Proofs.YtdlbnkiolpmnbaaW.PrintLast Go.Proofs.YtdlbnkiolpmnbaaW.PrintMore
set_option linter.unusedVariables false
set_option linter.unusedSimpArgs false

theorem meet_f (l : List S42) (h : l.length ≤ 100000) : meet_Meet.f l = some (mt l) := by unfold meet_Meet.f; rw [if_pos h]
theorem select_f (l : List S42) (h : l.length ≤ 100000) : meet_Select.f l = some (slc l) := by unfold meet_Select.f; rw [if_pos h]
def sp (at_ b : Int) : S42 := ⟨at_ - b, at_, at_ + b⟩
def nar : List Int → Int
  | [] => 1099511627776
  | b :: r => min b (nar r)
theorem nar_app : ∀ a b : List Int, nar (a ++ b) = min (nar a) (nar b) ∨ (nar a > 1099511627776)
  | [], b => by
    by_cases h : nar b ≤ 1099511627776
    · left; simp [nar]; omega
    · left
      exfalso
      apply h
      clear h
      induction b with
      | nil => exact Int.le_refl _
      | cons x r ih => rw [nar]; omega
  | x :: a, b => by
    rcases nar_app a b with h | h
    · left
      rw [List.cons_append, nar, nar, h]
      omega
    · right
      exfalso
      clear b
      have : nar a ≤ 1099511627776 := by
        clear h
        induction a with
        | nil => exact Int.le_refl _
        | cons x r ih => rw [nar]; omega
      omega
theorem nar_le : ∀ a : List Int, nar a ≤ 1099511627776
  | [] => Int.le_refl _
  | x :: r => by have := nar_le r; rw [nar]; omega
theorem nar_snoc (a : List Int) (b : Int) (hb : b ≤ 1099511627776) : nar (a ++ [b]) = min (nar a) b := by
  rcases nar_app a [b] with h | h
  · rw [h, nar, nar]; omega
  · have := nar_le a; omega
theorem nar_mem : ∀ a : List Int, a ≠ [] → (∀ x ∈ a, x ≤ 65535) → nar a ∈ a ∧ ∀ x ∈ a, nar a ≤ x
  | [], h, _ => absurd rfl h
  | [x], _, hx => by
    have := hx x List.mem_cons_self
    have e : nar [x] = x := by simp [nar]; omega
    rw [e]
    simp
  | x :: y :: r, _, hx => by
    obtain ⟨h1, h2⟩ := nar_mem (y :: r) (by simp) (fun z hz => hx z (List.mem_cons_of_mem _ hz))
    rw [nar]
    refine ⟨?_, fun z hz => ?_⟩
    · by_cases c : x ≤ nar (y :: r)
      · rw [show min x (nar (y :: r)) = x by omega]; exact List.mem_cons_self
      · rw [show min x (nar (y :: r)) = nar (y :: r) by omega]; exact List.mem_cons_of_mem _ h1
    · rcases List.mem_cons.1 hz with rfl | hz
      · omega
      · have := h2 z hz; omega
theorem all_D (bs : List Int) (at_ v : Int) : D (bs.map (sp at_)) v = (bs.countP (fun b => decide (at_ - b ≤ v) && decide (v ≤ at_ + b)) : Nat) := by
  unfold D
  rw [List.countP_map]
  rfl
theorem all_full (bs : List Int) (at_ v : Int) : (bs.length : Int) ≤ D (bs.map (sp at_)) v ↔ ∀ b ∈ bs, at_ - b ≤ v ∧ v ≤ at_ + b := by
  rw [all_D]
  have h := List.countP_le_length (p := fun b => decide (at_ - b ≤ v) && decide (v ≤ at_ + b)) (l := bs)
  have h2 := List.countP_eq_length (p := fun b => decide (at_ - b ≤ v) && decide (v ≤ at_ + b)) (l := bs)
  constructor
  · intro hh b hb
    have := h2.1 (by omega) b hb
    simpa using this
  · intro hh
    have := h2.2 (fun b hb => by have := hh b hb; simpa using this)
    omega
theorem all_mt (bs : List Int) (at_ : Int) (h0 : bs ≠ []) (hb : ∀ x ∈ bs, 0 ≤ x ∧ x ≤ 65535) : mt (bs.map (sp at_)) = (at_ - nar bs, at_ + nar bs, 0, true) := by
  have hlen : 0 < bs.length := List.length_pos_iff.2 h0
  have hok : Ok (bs.map (sp at_)) := by
    intro c hc
    obtain ⟨b, hb', rfl⟩ := List.mem_map.1 hc
    have := hb b hb'
    unfold sp
    simp only
    omega
  obtain ⟨n1, n2⟩ := nar_mem bs h0 (fun x hx => (hb x hx).2)
  have n3 := (hb _ n1).1
  have hu := up_s _ hok (bs.length : Int) (by omega)
  have hd := dn_s _ hok (bs.length : Int) (by omega)
  have eu : up (bs.map (sp at_)) (bs.length : Int) = (at_ - nar bs, 0, true) := by
    generalize up (bs.map (sp at_)) (bs.length : Int) = r at hu
    obtain ⟨r1, r2, r3⟩ := r
    cases r3 with
    | false =>
      have := (hu.no rfl).2 at_
      have := (all_full bs at_ at_).2 (fun b hb' => by have := hb b hb'; omega)
      omega
    | true =>
      obtain ⟨a, b, c⟩ := hu.yes rfl
      simp only at a b c
      have a1 := ((all_full bs at_ r1).1 a _ n1).1
      have b1 := b (at_ - nar bs) ((all_full bs at_ _).2 (fun x hx => by have := n2 x hx; omega))
      have e1 : r1 = at_ - nar bs := by omega
      have e2 : r2 = 0 := by
        rw [c]
        unfold Ml
        rw [List.countP_eq_zero.2]
        · rfl
        · intro x hx
          obtain ⟨b, hb', rfl⟩ := List.mem_map.1 hx
          show ¬ decide (at_ < r1) = true
          rw [decide_eq_true_eq]
          omega
      rw [e1, e2]
  have ed : dn (bs.map (sp at_)) (bs.length : Int) = (at_ + nar bs, 0, true) := by
    generalize dn (bs.map (sp at_)) (bs.length : Int) = r at hd
    obtain ⟨r1, r2, r3⟩ := r
    cases r3 with
    | false =>
      have := (hd.no rfl).2 at_
      have := (all_full bs at_ at_).2 (fun b hb' => by have := hb b hb'; omega)
      omega
    | true =>
      obtain ⟨a, b, c⟩ := hd.yes rfl
      simp only at a b c
      have a1 := ((all_full bs at_ r1).1 a _ n1).2
      have b1 := b (at_ + nar bs) ((all_full bs at_ _).2 (fun x hx => by have := n2 x hx; omega))
      have e1 : r1 = at_ + nar bs := by omega
      have e2 : r2 = 0 := by
        rw [c]
        unfold Mh
        rw [List.countP_eq_zero.2]
        · rfl
        · intro x hx
          obtain ⟨b, hb', rfl⟩ := List.mem_map.1 hx
          show ¬ decide (r1 < at_) = true
          rw [decide_eq_true_eq]
          omega
      rw [e1, e2]
  obtain ⟨k, hk⟩ : ∃ k, ((bs.map (sp at_)).length + 1) / 2 = k + 1 := ⟨((bs.map (sp at_)).length + 1) / 2 - 1, by rw [List.length_map]; omega⟩
  unfold MMee.mt
  rw [hk, mt.go, List.length_map, Int.sub_zero, eu, ed, if_pos ⟨rfl, rfl, by simp, by simp only; omega⟩]
theorem plc_all (P : S42 → Bool) : ∀ (l : List S42) (j : Nat), (∀ c ∈ l, P c = true) → (plc P l j).length = l.length
  | [], _, _ => rfl
  | x :: r, j, h => by
    rw [plc, if_pos (h x List.mem_cons_self), List.length_cons, List.length_cons, plc_all P r (j + 1) (fun c hc => h c (List.mem_cons_of_mem _ hc))]
theorem wrap_le {x : Int} (h0 : -9223372036854775808 ≤ x) (h1 : x ≤ 9223372036854775807) : wrap64 x = x := by unfold wrap64; omega
theorem rd_at (l : List Int) (j : Nat) (h : j < l.length) : rd l (j : Int) = l[j] := by
  unfold rd
  rw [Int.toNat_natCast, List.getD_eq_getElem?_getD, List.getElem?_eq_getElem h]
  rfl
theorem all_l0 (bs : List Int) (at_ : Int) (ha : -2147483648 ≤ at_ ∧ at_ ≤ 2147483647) (h0 : bs ≠ []) (hl : bs.length ≤ 10) (hb : ∀ x ∈ bs, 0 ≤ x ∧ x ≤ 65535) : ∀ (d k j : Nat), j + d = bs.length → d + 1 ≤ k →
    analemmalaw16_MeetAll.l0 k bs at_ ((bs.take j).map (sp at_)) (nar (bs.take j)) (j : Int) = some true
  | 0, k, j, hj, hk => by
    obtain ⟨k, rfl⟩ : ∃ m, k = m + 1 := ⟨k - 1, by omega⟩
    have hm := all_mt bs at_ h0 hb
    obtain ⟨n1, n2⟩ := nar_mem bs h0 (fun x hx => (hb x hx).2)
    have n3 := hb _ n1
    have hsl : slc (bs.map (sp at_)) = (at_ - nar bs, at_ + nar bs, plc (inMid (at_ - nar bs) (at_ + nar bs)) (bs.map (sp at_)) 0, true) := by
      have hs : slc.s (bs.map (sp at_)) = (at_ - nar bs, at_ + nar bs, true) := by
        unfold slc.s
        rw [hm]
        rfl
      have hp := plc_all (inMid (at_ - nar bs) (at_ + nar bs)) (bs.map (sp at_)) 0 (fun c hc => by
        obtain ⟨b, hb', rfl⟩ := List.mem_map.1 hc
        show (decide (at_ - nar bs ≤ at_) && decide (at_ ≤ at_ + nar bs)) = true
        rw [Bool.and_eq_true, decide_eq_true_eq, decide_eq_true_eq]
        omega)
      have hlen : 0 < bs.length := List.length_pos_iff.2 h0
      unfold slc
      rw [hs]
      simp only [if_true]
      rw [if_neg (by rw [hp, List.length_map]; omega)]
    have hp := plc_all (inMid (at_ - nar bs) (at_ + nar bs)) (bs.map (sp at_)) 0 (fun c hc => by
      obtain ⟨b, hb', rfl⟩ := List.mem_map.1 hc
      show (decide (at_ - nar bs ≤ at_) && decide (at_ ≤ at_ + nar bs)) = true
      rw [Bool.and_eq_true, decide_eq_true_eq, decide_eq_true_eq]
      omega)
    rw [analemmalaw16_MeetAll.l0, if_neg (by omega), List.take_of_length_le (by omega), meet_f _ (by rw [List.length_map]; omega), select_f _ (by rw [List.length_map]; omega), hm, hsl, Option.bind_some, Option.bind_some]
    simp only [if_true]
    rw [wrap_le (x := at_) (by omega) (by omega), wrap_le (x := at_ - nar bs) (by omega) (by omega), wrap_le (x := at_ + nar bs) (by omega) (by omega), if_pos rfl, if_pos rfl, hp]
    simp
  | d + 1, k, j, hj, hk => by
    obtain ⟨k, rfl⟩ : ∃ m, k = m + 1 := ⟨k - 1, by omega⟩
    have hjl : j < bs.length := by omega
    have hbj := hb bs[j] (List.getElem_mem hjl)
    have ih := all_l0 bs at_ ha h0 hl hb d k (j + 1) (by omega) (by omega)
    rw [List.take_succ_eq_append_getElem hjl, List.map_append, nar_snoc _ _ (by omega)] at ih
    have q1 : (j : Int) < (bs.length : Int) := by omega
    have hm : mn (nar (bs.take j)) bs[j] = min (nar (bs.take j)) bs[j] := by unfold mn; split <;> omega
    rw [analemmalaw16_MeetAll.l0, if_pos q1, if_pos (by omega), if_pos (by rw [List.length_map, List.length_take]; omega), rd_at bs j hjl, wrap_le (x := at_) (by omega) (by omega), wrap_le (x := bs[j]) (by omega) (by omega), wrap_le (x := at_ - bs[j]) (by omega) (by omega), wrap_le (x := at_ + bs[j]) (by omega) (by omega), hm, wrap_le (x := (j : Int) + 1) (by omega) (by omega)]
    exact ih
theorem MeetAll : analemmalaw16_MeetAll.Pure := by
  intro l0 a1 _ _ hw w1
  have h1 := bounds_i32 w1
  refine ⟨100 + 1, ?_⟩
  unfold analemmalaw16_MeetAll.f
  by_cases c : (l0.length : Int) > 10
  · rw [if_pos c, analemmalaw16_MeetAll.j0, if_pos rfl, me_shown _ (by omega), Option.bind_some]
  · rw [if_neg c]
    by_cases c0 : (l0.length : Int) = 0
    · rw [if_pos c0, analemmalaw16_MeetAll.j0, if_pos rfl, me_shown _ (by omega), Option.bind_some]
    · rw [if_neg c0, me_shown _ (by omega), Option.bind_some, analemmalaw16_MeetAll.j0, if_neg (by decide)]
      exact all_l0 l0 a1 h1 (fun h => c0 (by rw [h]; rfl)) (by omega) (fun x hx => bounds_u16 (hw x hx)) l0.length 100 0 (by omega) (by omega)


end Go.Proofs.Ytdlbnkiolpmnbaa.Pure
