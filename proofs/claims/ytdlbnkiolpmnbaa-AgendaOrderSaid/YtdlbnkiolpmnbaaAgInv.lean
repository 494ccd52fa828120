/- agenda: its items in order, as the document keeps them, and what each call makes of them. It says its own conditions. -/
import Derived.Test.YtdlbnkiolpmnbaaProg
import Derived.Test.YtdlbnkiolpmnbaaMAgax0
import Derived.Test.YtdlbnkiolpmnbaaMAgax2
import Derived.WalkKit
import Derived.Deep.RegionLaw
import Derived.Deep.RegionWith
import Derived.Deep.RegionHeld3
import Derived.BigRegion
import Derived.BigQuiet
import Derived.StillTailTactics
import Derived.Test.YtdlbnkiolpmnbaaAgSt
import Derived.Test.YtdlbnkiolpmnbaaAgLay
import Derived.Test.YtdlbnkiolpmnbaaAgCmp
import Derived.Test.YtdlbnkiolpmnbaaAgSet
import Derived.Test.YtdlbnkiolpmnbaaAgPlain
import Derived.Maps.OwnIn
import Derived.Maps.OwnSet
namespace Go.Proofs.Ytdlbnkiolpmnbaa.Ag
open Go.RowKit Go.Proofs.Ytdlbnkiolpmnbaa.MAga Go.Proofs.YtdlbnkiolpmnbaaW.PrintWords Go.Proofs.YtdlbnkiolpmnbaaW.PrintLast Go.Proofs.YtdlbnkiolpmnbaaW.PrintMore
attribute [local go_sem] max2_int min2_int max_two min_two max_three min_three max_four min_four
set_option linter.unusedVariables false
set_option linter.unusedSimpArgs false
-- import Derived.Maps.OwnIn
-- import Derived.Maps.OwnSet
open Go.Maps
def Srt (L : List S34) : Prop := L.Pairwise (fun a b => cmpI a b < 0)
def insR (x : S34) : List S34 → List S34
  | [] => [x]
  | y :: r => if cmpI x y < 0 then x :: y :: r else y :: insR x r
def offR (t : Int) (L : List S34) : List S34 := L.filter (fun y => decide (y.f3 ≠ t))
theorem insR_perm (x : S34) : ∀ L, (insR x L).Perm (x :: L)
  | [] => .refl _
  | y :: r => by
    rw [insR]
    split
    · exact .refl _
    · exact ((insR_perm x r).cons y).trans (.swap x y r)
theorem insR_srt (x : S34) : ∀ L, Srt L → (∀ y ∈ L, y.f3 ≠ x.f3) → Srt (insR x L)
  | [], _, _ => by simp [insR, Srt]
  | y :: r, h, hne => by
    unfold Srt at h ⊢
    rw [List.pairwise_cons] at h
    rw [insR]
    split
    · rename_i hc
      rw [List.pairwise_cons]
      refine ⟨fun z hz => ?_, List.pairwise_cons.2 h⟩
      rcases List.mem_cons.1 hz with rfl | hz
      · exact hc
      · exact cmp_trans hc (h.1 z hz)
    · rename_i hc
      rw [List.pairwise_cons]
      refine ⟨fun z hz => ?_, insR_srt x r h.2 (fun z hz => hne z (List.mem_cons_of_mem _ hz))⟩
      rcases List.mem_cons.1 ((insR_perm x r).mem_iff.1 hz) with rfl | hz
      · exact cmp_total (fun e => hne y List.mem_cons_self e.symm) hc
      · exact h.1 z hz
theorem srt_uniq {L M : List S34} (h : Srt L) (h2 : Srt M) (hp : L.Perm M) : L = M := by
  refine List.Perm.eq_of_pairwise (le := fun a b => cmpI a b < 0) (fun a b _ _ h1 h2 => ?_) h h2 hp
  rw [cmp_lt] at h1 h2
  omega
structure Inv (l : List S34) (D : DataW Nat) (g : Int) (L : List S34) : Prop where
  heap : HeapOK l
  pl : PlaceOK D l
  perm : L.Perm l
  srt : Srt L
  tk : ∀ y ∈ l, 1 ≤ y.f3 ∧ y.f3 ≤ g
  len : l.length ≤ 1000
  g0 : 0 ≤ g
theorem Inv.nil : Inv [] (.map []) 0 [] :=
  ⟨fun c _ h => by simp at h, ⟨isMap_empty, fun j h => by simp at h, fun t _ => rfl⟩, .refl _, List.Pairwise.nil, fun y h => by simp at h, by simp, Int.le_refl _⟩
theorem mem_gt {l : List S34} {y : S34} (h : y ∈ l) : ∃ j, j < l.length ∧ gt l j = y := by
  obtain ⟨j, hj, e⟩ := List.getElem_of_mem h
  exact ⟨j, hj, by rw [gt_at l j hj, e]⟩
theorem PlaceOK.ne {D : DataW Nat} {l : List S34} (h : PlaceOK D l) {j k : Nat} (hj : j < l.length) (hk : k < l.length) (hjk : j ≠ k) : (gt l j).f3 ≠ (gt l k).f3 := by
  intro e
  have a := h.at_ j hj
  rw [e] at a
  exact hjk (at_inj a (h.at_ k hk))
theorem PlaceOK.find {D : DataW Nat} {l : List S34} (h : PlaceOK D l) {t : Int} (ht : hasT D t = true) : ∃ i, i < l.length ∧ (gt l i).f3 = t ∧ At D t i := by
  by_cases hex : ∃ i, i < l.length ∧ (gt l i).f3 = t
  · obtain ⟨i, hi, e⟩ := hex
    have := h.at_ i hi
    rw [e] at this
    exact ⟨i, hi, e, this⟩
  · have := h.no t (fun j hj e => hex ⟨j, hj, e⟩)
    rw [this] at ht
    cases ht
theorem PlaceOK.miss {D : DataW Nat} {l : List S34} (h : PlaceOK D l) {t : Int} (ht : hasT D t = false) : ∀ y ∈ l, y.f3 ≠ t := by
  intro y hy e
  obtain ⟨j, hj, rfl⟩ := mem_gt hy
  have := (h.at_ j hj).1
  rw [e, ht] at this
  cases this
theorem HeapOK.min {l : List S34} (h : HeapOK l) : ∀ k j, j ≤ k → 0 < j → j < l.length → cmpI (gt l 0) (gt l j) < 0
  | 0, j, hk, h0, _ => absurd h0 (by omega)
  | k + 1, j, hk, h0, hl => by
    have h1 := h j h0 hl
    by_cases e : (j - 1) / 2 = 0
    · rw [e] at h1
      exact h1
    · exact cmp_trans (h.min k ((j - 1) / 2) (by omega) (by omega) (by omega)) h1
theorem Inv.head {l : List S34} {D : DataW Nat} {g : Int} {L : List S34} (h : Inv l D g L) (hl : 0 < l.length) : ∃ r, L = gt l 0 :: r := by
  have hm : gt l 0 ∈ L := h.perm.mem_iff.2 (gt_mem hl)
  cases hL : L with
  | nil => rw [hL] at hm; simp at hm
  | cons y r =>
    have hs := h.srt
    rw [hL] at hs hm
    rcases List.mem_cons.1 hm with e | hm
    · exact ⟨r, by rw [e]⟩
    · have h1 := (List.pairwise_cons.1 hs).1 _ hm
      have hy : y ∈ l := h.perm.mem_iff.1 (by rw [hL]; exact List.mem_cons_self)
      obtain ⟨j, hj, e⟩ := mem_gt hy
      by_cases hj0 : j = 0
      · rw [hj0] at e
        exact ⟨r, by rw [e]⟩
      · have h2 := h.heap.min j j (Nat.le_refl _) (by omega) hj
        rw [e] at h2
        rw [cmp_lt] at h1 h2
        omega
theorem gt_app_lt {l m : List S34} {j : Nat} (h : j < l.length) : gt (l ++ m) j = gt l j := by
  unfold gt
  rw [List.getElem?_append_left h]
theorem gt_app_last {l : List S34} {x : S34} : gt (l ++ [x]) l.length = x := by
  unfold gt
  rw [List.getElem?_append_right (Nat.le_refl _), Nat.sub_self]
  rfl
theorem Inv.put {l : List S34} {D : DataW Nat} {g : Int} {L : List S34} (h : Inv l D g L) (hl : l.length < 1000) (x : S34) (hx : x.f3 = g + 1) :
    Inv (settleE (l ++ [x]) D l.length).1 (settleE (l ++ [x]) D l.length).2 (g + 1) (insR x L) := by
  have hlen : (l ++ [x]).length = l.length + 1 := by simp
  have hne : ∀ y ∈ l, y.f3 ≠ x.f3 := fun y hy => by have := (h.tk y hy).2; omega
  have H : Hole (gt (l ++ [x]) l.length) (l ++ [x]) D l.length := by
    rw [gt_app_last]
    refine ⟨by omega, fun c h0 hc hci hpi => ?_, fun h0 c hc0 hcl hp => absurd hcl (by omega), h.pl.im, fun j hj hji => ?_, fun t ht hall => ?_⟩
    · have hcl : c < l.length := by omega
      rw [gt_app_lt (by omega), gt_app_lt hcl]
      exact h.heap c h0 hcl
    · have hj' : j < l.length := by omega
      rw [gt_app_lt hj']
      exact ⟨hne _ (gt_mem hj'), h.pl.at_ j hj'⟩
    · refine h.pl.no t (fun j hj => ?_)
      have := hall j (by omega) (by omega)
      rw [gt_app_lt hj] at this
      exact this
  obtain ⟨s1, s2, s3⟩ := settle_ok H
  have hp : (insR x L).Perm (settleE (l ++ [x]) D l.length).1 :=
    (insR_perm x L).trans (((h.perm.cons x).trans (List.perm_append_singleton x l).symm).trans s3.symm)
  refine ⟨s1, s2, hp, insR_srt x L h.srt (fun y hy => hne y (h.perm.mem_iff.1 hy)), fun y hy => ?_, by rw [s3.length_eq]; omega, by have := h.g0; omega⟩
  have hy := s3.mem_iff.1 hy
  rcases List.mem_append.1 hy with hy | hy
  · have := h.tk y hy
    omega
  · rw [List.mem_singleton.1 hy, hx]
    have := h.g0
    omega
theorem offR_perm {L l : List S34} (h : L.Perm l) (t : Int) : (offR t L).Perm (offR t l) := h.filter _
theorem offR_srt {L : List S34} (h : Srt L) (t : Int) : Srt (offR t L) := List.Pairwise.filter _ h
theorem offR_same {L : List S34} {t : Int} (h : ∀ y ∈ L, y.f3 ≠ t) : offR t L = L := List.filter_eq_self.2 (fun y hy => decide_eq_true (h y hy))
theorem offR_ne {L : List S34} {t : Int} {y : S34} (h : y ∈ offR t L) : y ∈ L ∧ y.f3 ≠ t := by
  obtain ⟨h1, h2⟩ := List.mem_filter.1 h
  exact ⟨h1, of_decide_eq_true h2⟩
theorem erase_perm : ∀ (l : List S34) (i : Nat) (hi : i < l.length), (l[i] :: l.eraseIdx i).Perm l
  | x :: l, 0, _ => .refl _
  | x :: l, i + 1, hi => by
    have h := erase_perm l i (by simpa using hi)
    rw [List.getElem_cons_succ, List.eraseIdx_cons_succ]
    exact (List.Perm.swap x _ _).trans (h.cons x)
theorem set_perm {l : List S34} {i : Nat} (hi : i < l.length) (x : S34) : (x :: l).Perm (gt l i :: l.set i x) := by
  rw [gt_at l i hi]
  have h : l.Perm (l[i] :: l.eraseIdx i) := (erase_perm l i hi).symm
  have h2 : (l.set i x).Perm (x :: l.eraseIdx i) := by
    have h3 := (erase_perm (l.set i x) i (by rw [List.length_set]; exact hi)).symm
    rw [List.getElem_set_self, List.eraseIdx_set_eq] at h3
    exact h3
  exact ((h.cons x).trans (.swap _ _ _)).trans (h2.symm.cons _)
theorem set_perm_off {l : List S34} {D : DataW Nat} (h : PlaceOK D l) {i : Nat} (hi : i < l.length) {x : S34} (hx : x.f3 = (gt l i).f3) : (l.set i x).Perm (x :: offR (gt l i).f3 l) := by
  have h1 : l.Perm (gt l i :: l.eraseIdx i) := by rw [gt_at l i hi]; exact (erase_perm l i hi).symm
  have h2 : (l.set i x).Perm (x :: l.eraseIdx i) := by
    have h3 := (erase_perm (l.set i x) i (by rw [List.length_set]; exact hi)).symm
    rw [List.getElem_set_self, List.eraseIdx_set_eq] at h3
    exact h3
  have h4 : offR (gt l i).f3 (l.eraseIdx i) = l.eraseIdx i := by
    refine offR_same (fun y hy e => ?_)
    obtain ⟨j, hj, ey⟩ := List.getElem_of_mem hy
    rw [List.getElem_eraseIdx] at ey
    rw [List.length_eraseIdx_of_lt hi] at hj
    split at ey
    · rename_i hji
      rw [← gt_at l j (by omega)] at ey
      rw [← ey] at e
      exact h.ne (by omega) hi (by omega) e
    · rename_i hji
      rw [← gt_at l (j + 1) (by omega)] at ey
      rw [← ey] at e
      exact h.ne (by omega) hi (by omega) e
  have h5 : (offR (gt l i).f3 l).Perm (l.eraseIdx i) := by
    have h6 := offR_perm h1 (gt l i).f3
    unfold offR at h6
    rw [List.filter_cons_of_neg (by simp)] at h6
    unfold offR at h4
    rw [h4] at h6
    exact h6
  exact h2.trans (h5.symm.cons x)
theorem Inv.move {l : List S34} {D : DataW Nat} {g : Int} {L : List S34} (h : Inv l D g L) {i : Nat} (hi : i < l.length) (x : S34) (hx : x.f3 = (gt l i).f3) :
    Inv (settleE (l.set i x) D i).1 (settleE (l.set i x) D i).2 g (insR x (offR (gt l i).f3 L)) := by
  have e0 : gt (l.set i x) i = x := by rw [gt_set l i x i hi, if_pos rfl]
  have H : Hole (gt (l.set i x) i) (l.set i x) D i := by
    rw [e0]
    refine ⟨by rw [List.length_set]; exact hi, fun c h0 hc hci hpi => ?_, fun h0 c hc0 hcl hp => ?_, h.pl.im, fun j hj hji => ?_, fun t ht hall => ?_⟩
    · rw [List.length_set] at hc
      rw [gt_set l i x _ hi, gt_set l i x c hi, if_neg (fun e => hpi e.symm), if_neg (fun e => hci e.symm)]
      exact h.heap c h0 hc
    · rw [List.length_set] at hcl
      rw [gt_set l i x _ hi, gt_set l i x c hi, if_neg (by omega), if_neg (by omega)]
      have h1 := h.heap i h0 hi
      have h2 := h.heap c hc0 hcl
      rw [hp] at h2
      exact cmp_trans h1 h2
    · rw [List.length_set] at hj
      rw [gt_set l i x j hi, if_neg (fun e => hji e.symm), hx]
      exact ⟨h.pl.ne hj hi hji, h.pl.at_ j hj⟩
    · refine h.pl.no t (fun j hj => ?_)
      by_cases e : j = i
      · rw [e, ← hx]
        exact fun e2 => ht e2.symm
      · have := hall j (by rw [List.length_set]; exact hj) e
        rw [gt_set l i x j hi, if_neg (fun e2 => e e2.symm)] at this
        exact this
  obtain ⟨s1, s2, s3⟩ := settle_ok H
  have hp : (insR x (offR (gt l i).f3 L)).Perm (settleE (l.set i x) D i).1 :=
    ((insR_perm x _).trans ((offR_perm h.perm _).cons x)).trans ((set_perm_off h.pl hi hx).symm.trans s3.symm)
  refine ⟨s1, s2, hp, insR_srt x _ (offR_srt h.srt _) (fun y hy => by rw [hx]; exact (offR_ne hy).2), fun y hy => ?_, by rw [s3.length_eq, List.length_set]; exact h.len, h.g0⟩
  rcases List.mem_or_eq_of_mem_set (s3.mem_iff.1 hy) with hy | rfl
  · exact h.tk y hy
  · rw [hx]
    exact h.tk _ (gt_mem hi)
theorem has_del_same (D : DataW Nat) (hD : IsMap D) (t : Int) : hasT (D.del (Lit.int .i64 t)) t = false := by
  obtain ⟨es, rfl⟩ := hD
  show (es.filter fun p => !p.1.sameKey (Lit.int .i64 t)).any (fun p => p.1.sameKey (Lit.int .i64 t)) = false
  rw [List.any_eq_false]
  intro p hp
  have := (List.mem_filter.1 hp).2
  simpa using this
theorem has_del_ne {D : DataW Nat} {t t' : Int} (h : t' ≠ t) : hasT (D.del (Lit.int .i64 t)) t' = hasT D t' := by
  cases D <;> try rfl
  rename_i es
  show (es.filter fun p => !p.1.sameKey (Lit.int .i64 t)).any (fun p => p.1.sameKey (Lit.int .i64 t')) = es.any (fun p => p.1.sameKey (Lit.int .i64 t'))
  exact any_filter_keep (keep_other (lit_ne h)) es
theorem at_del_ne {D : DataW Nat} {t t' : Int} (h : t' ≠ t) {j : Nat} (ha : At D t' j) : At (D.del (Lit.int .i64 t)) t' j :=
  ⟨(has_del_ne h).trans ha.1, (atKey_del_other (lit_ne h) _).trans ha.2⟩
theorem gt_dropLast {l : List S34} {j : Nat} (h : j < l.length - 1) : gt l.dropLast j = gt l j := by
  unfold gt
  rw [List.getElem?_eq_getElem (by rw [List.length_dropLast]; exact h), List.getElem?_eq_getElem (by omega), List.getElem_dropLast]
theorem dropLast_eq {l : List S34} (h : 0 < l.length) : l = l.dropLast ++ [gt l (l.length - 1)] := by
  have hne : l ≠ [] := fun e => by rw [e] at h; simp at h
  rw [gt_at l _ (by omega), ← List.getLast_eq_getElem hne, List.dropLast_concat_getLast hne]
theorem Inv.cut {l : List S34} {D : DataW Nat} {g : Int} {L : List S34} (h : Inv l D g L) {i : Nat} (hi : i < l.length - 1) :
    Inv (settleE (l.dropLast.set i (gt l (l.length - 1))) (D.del (Lit.int .i64 (gt l i).f3)) i).1 (settleE (l.dropLast.set i (gt l (l.length - 1))) (D.del (Lit.int .i64 (gt l i).f3)) i).2 g (offR (gt l i).f3 L) := by
  have hdl : l.dropLast.length = l.length - 1 := List.length_dropLast
  have hid : i < l.dropLast.length := by omega
  obtain ⟨x, hx⟩ : ∃ x, gt l (l.length - 1) = x := ⟨_, rfl⟩
  have hxm : x ∈ l := by rw [← hx]; exact gt_mem (by omega)
  rw [hx]
  have e0 : gt (l.dropLast.set i x) i = x := by rw [gt_set _ i x i hid, if_pos rfl]
  have H : Hole (gt (l.dropLast.set i x) i) (l.dropLast.set i x) (D.del (Lit.int .i64 (gt l i).f3)) i := by
    rw [e0]
    refine ⟨by rw [List.length_set]; exact hid, fun c h0 hc hci hpi => ?_, fun h0 c hc0 hcl hp => ?_, h.pl.im.del _, fun j hj hji => ?_, fun t ht hall => ?_⟩
    · rw [List.length_set] at hc
      rw [gt_set _ i x _ hid, gt_set _ i x c hid, if_neg (fun e => hpi e.symm), if_neg (fun e => hci e.symm), gt_dropLast (by omega), gt_dropLast (by omega)]
      exact h.heap c h0 (by omega)
    · rw [List.length_set] at hcl
      rw [gt_set _ i x _ hid, gt_set _ i x c hid, if_neg (by omega), if_neg (by omega), gt_dropLast (by omega), gt_dropLast (by omega)]
      have h1 := h.heap i h0 (by omega)
      have h2 := h.heap c hc0 (by omega)
      rw [hp] at h2
      exact cmp_trans h1 h2
    · rw [List.length_set] at hj
      rw [gt_set _ i x j hid, if_neg (fun e => hji e.symm), gt_dropLast (by omega), ← hx]
      exact ⟨h.pl.ne (by omega) (by omega) (by omega), at_del_ne (h.pl.ne (by omega) (by omega) hji) (h.pl.at_ j (by omega))⟩
    · by_cases e : t = (gt l i).f3
      · rw [e]
        exact has_del_same D h.pl.im _
      · rw [has_del_ne e]
        refine h.pl.no t (fun j hj => ?_)
        by_cases e1 : j = i
        · rw [e1]
          exact fun e2 => e e2.symm
        · by_cases e2 : j = l.length - 1
          · rw [e2, hx]
            exact fun e3 => ht e3.symm
          · have := hall j (by rw [List.length_set]; omega) e1
            rw [gt_set _ i x j hid, if_neg (fun e2 => e1 e2.symm), gt_dropLast (by omega)] at this
            exact this
  obtain ⟨s1, s2, s3⟩ := settle_ok H
  have hp0 : (gt l i :: l.dropLast.set i x).Perm l := by
    have h1 := (set_perm hid x).symm
    rw [gt_dropLast hi] at h1
    refine h1.trans ?_
    have h2 := dropLast_eq (l := l) (by omega)
    rw [hx] at h2
    exact (List.perm_append_singleton x l.dropLast).symm.trans (by rw [← h2])
  have hp1 : (offR (gt l i).f3 L).Perm (l.dropLast.set i x) := by
    refine ((offR_perm h.perm _).trans (offR_perm hp0.symm _)).trans ?_
    have e1 : offR (gt l i).f3 (gt l i :: l.dropLast.set i x) = offR (gt l i).f3 (l.dropLast.set i x) := by
      unfold offR
      rw [List.filter_cons_of_neg (by simp)]
    rw [e1, offR_same]
    intro y hy e
    obtain ⟨j, hj, ey⟩ := mem_gt hy
    rw [List.length_set] at hj
    rw [gt_set _ i x j hid] at ey
    by_cases e2 : i = j
    · rw [if_pos e2] at ey
      rw [← ey, ← hx] at e
      exact h.pl.ne (by omega) (by omega) (by omega) e
    · rw [if_neg e2, gt_dropLast (by omega)] at ey
      rw [← ey] at e
      exact h.pl.ne (by omega) (by omega) (fun e3 => e2 e3.symm) e
  refine ⟨s1, s2, hp1.trans s3.symm, offR_srt h.srt _, fun y hy => ?_, by rw [s3.length_eq, List.length_set]; have := h.len; omega, h.g0⟩
  exact h.tk y (hp0.mem_iff.1 (List.mem_cons_of_mem _ (s3.mem_iff.1 hy)))
theorem Inv.last {l : List S34} {D : DataW Nat} {g : Int} {L : List S34} (h : Inv l D g L) (hl : 0 < l.length) :
    Inv l.dropLast (D.del (Lit.int .i64 (gt l (l.length - 1)).f3)) g (offR (gt l (l.length - 1)).f3 L) := by
  have hdl : l.dropLast.length = l.length - 1 := List.length_dropLast
  have h2 := dropLast_eq hl
  have hm : ∀ y ∈ l.dropLast, y ∈ l := fun y hy => by rw [h2]; exact List.mem_append_left _ hy
  have hne : ∀ y ∈ l.dropLast, y.f3 ≠ (gt l (l.length - 1)).f3 := by
    intro y hy e
    obtain ⟨j, hj, ey⟩ := mem_gt hy
    rw [gt_dropLast (by omega)] at ey
    rw [← ey] at e
    exact h.pl.ne (by omega) (by omega) (by omega) e
  refine ⟨fun c h0 hc => ?_, ⟨h.pl.im.del _, fun j hj => ?_, fun t hall => ?_⟩, ?_, offR_srt h.srt _, fun y hy => h.tk y (hm y hy), by have := h.len; omega, h.g0⟩
  · rw [gt_dropLast (by omega), gt_dropLast (by omega)]
    exact h.heap c h0 (by omega)
  · rw [gt_dropLast (by omega)]
    exact at_del_ne (h.pl.ne (by omega) (by omega) (by omega)) (h.pl.at_ j (by omega))
  · by_cases e : t = (gt l (l.length - 1)).f3
    · rw [e]
      exact has_del_same D h.pl.im _
    · rw [has_del_ne e]
      refine h.pl.no t (fun j hj => ?_)
      by_cases e2 : j = l.length - 1
      · rw [e2]
        exact fun e3 => e e3.symm
      · have := hall j (by omega)
        rw [gt_dropLast (by omega)] at this
        exact this
  · have h3 := offR_perm h.perm (gt l (l.length - 1)).f3
    refine h3.trans ?_
    have e1 : offR (gt l (l.length - 1)).f3 l = offR (gt l (l.length - 1)).f3 (l.dropLast ++ [gt l (l.length - 1)]) := by rw [← h2]
    rw [e1]
    have e2 : offR (gt l (l.length - 1)).f3 (l.dropLast ++ [gt l (l.length - 1)]) = l.dropLast := by
      unfold offR
      rw [List.filter_append, List.filter_cons_of_neg (by simp), List.filter_nil, List.append_nil]
      exact offR_same hne
    rw [e2]

end Go.Proofs.Ytdlbnkiolpmnbaa.Ag
