/- The statement over numbers and lists that is left of the law ClusterKeeps; no condition but the kinds of its arguments. -/
import Derived.Test.YtoddgpaopejeoaaBClu
import Derived.Test.YtoddgpaopejeoaaMClux10
namespace Go.Proofs.Ytoddgpaopejeoaa.Pure
open Go.RowKit Go.Proofs.Ytoddgpaopejeoaa.MClu Go.Proofs.YtoddgpaopejeoaaW.PrintWords Go.Proofs.YtoddgpaopejeoaaW.PrintLast Go.Proofs.YtoddgpaopejeoaaW.PrintMore
set_option linter.unusedVariables false
set_option linter.unusedSimpArgs false

abbrev I64b (x : Int) : Prop := -9223372036854775808 ≤ x ∧ x ≤ 9223372036854775807
def nodesOk (l : List S70) : Prop := ∀ x ∈ l, I64b x.f0 ∧ I64b x.f1 ∧ I64b x.f2
theorem rd_at70 (l : List S70) (j : Nat) (h : j < l.length) : rd_T70 l (j : Int) = l[j] := by
  unfold rd_T70
  rw [Int.toNat_natCast, List.getD_eq_getElem?_getD, List.getElem?_eq_getElem h]
  rfl
theorem rd_mem70 (l : List S70) (j : Nat) (h : j < l.length) : rd_T70 l (j : Int) ∈ l := by
  rw [rd_at70 l j h]
  exact List.getElem_mem h
theorem mapM_some {α β : Type} (f : α → Option β) (g : α → β) : ∀ (xs : List α), (∀ x ∈ xs, f x = some (g x)) → xs.mapM f = some (xs.map g)
  | [], _ => rfl
  | x :: xs, h => by
    rw [List.mapM_cons, h x List.mem_cons_self, mapM_some f g xs (fun y hy => h y (List.mem_cons_of_mem _ hy))]
    rfl
/-- How far node i is from each other one. -/
def diffs (l : List S70) (i : Nat) : List Int := (l.eraseIdx i).map fun x => cutv ((rd_T70 l (i : Int)).f0 - x.f0)
def apartv (l : List S70) (i : Nat) : Int := rootm (diffs l i)
theorem diffs_bd (l : List S70) (i : Nat) : ∀ x ∈ diffs l i, -9223372036854775808 ≤ x ∧ x ≤ 9223372036854775807 := by
  intro x hx
  obtain ⟨y, _, rfl⟩ := List.mem_map.1 hx
  have := cutv_bd ((rd_T70 l (i : Int)).f0 - y.f0)
  omega
theorem diffs_len (l : List S70) (i : Nat) : (diffs l i).length ≤ l.length := by
  unfold diffs
  rw [List.length_map]
  exact List.length_eraseIdx_le ..
theorem apartv_bd (l : List S70) (i : Nat) : 0 ≤ apartv l i ∧ apartv l i ≤ 199032864766430 := rootm_bd _

theorem apart_eq (l : List S70) (ok : nodesOk l) (hl : l.length ≤ 1000) (i : Nat) (hi : i < l.length) : cluster_Apart.f l (i : Int) = some (apartv l i) := by
  unfold cluster_Apart.f
  rw [if_neg (by omega), if_neg (by omega), if_pos hl]
  unfold cluster_Apart.dl
  rw [Int.toNat_natCast, ← List.eraseIdx_eq_take_drop_succ, mapM_some _ (fun x : S70 => cutv ((rd_T70 l (i : Int)).f0 - x.f0))]
  · rw [Option.bind_some]
    have h1 := diffs_len l i
    exact root_v 1100 (diffs l i) (diffs_bd l i) (by omega) (by omega)
  · intro x hx
    have h1 := ok _ (rd_mem70 l i hi)
    have h2 := ok _ (List.mem_of_mem_eraseIdx hx)
    exact sub_eq 2 _ _ h1.1.1 h1.1.2 h2.1.1 h2.1.2 (by omega)
theorem apart_out (l : List S70) (a : Int) (h : a < 0 ∨ (l.length : Int) ≤ a) : cluster_Apart.f l a = some 0 := by
  unfold cluster_Apart.f
  by_cases q : a < 0
  · rw [if_pos q]
  · rw [if_neg q, if_pos (by omega)]

/-! The document's. -/
def to89 (x : S70) : S89 := ⟨x.f0, x.f1, x.f2⟩
theorem rd89 (l : List S70) (j : Nat) (h : j < l.length) : rd_T89 (l.map to89) (j : Int) = to89 (rd_T70 l (j : Int)) := by
  unfold rd_T89
  rw [rd_at70 l j h, Int.toNat_natCast, List.getD_eq_getElem?_getD, List.getElem?_eq_getElem (by simpa using h), List.getElem_map]
  rfl
def dl (l : List S70) (i j : Nat) : List Int := ((l.take j).eraseIdx i).map fun x => cutv ((rd_T70 l (i : Int)).f0 - x.f0)
theorem dl_skip (l : List S70) (i : Nat) (hi : i < l.length) : dl l i (i + 1) = dl l i i := by
  unfold dl
  rw [List.take_add_one, List.getElem?_eq_getElem hi]
  have h1 : (l.take i).length = i := by rw [List.length_take]; omega
  rw [show (some l[i]).toList = [l[i]] from rfl, List.eraseIdx_append_of_length_le (by omega), h1, Nat.sub_self]
  rw [List.eraseIdx_of_length_le (l := l.take i) (by omega)]
  simp
theorem dl_step (l : List S70) (i j : Nat) (hj : j < l.length) (h : j ≠ i) : dl l i (j + 1) = dl l i j ++ [cutv ((rd_T70 l (i : Int)).f0 - (rd_T70 l (j : Int)).f0)] := by
  unfold dl
  rw [List.take_add_one, List.getElem?_eq_getElem hj]
  have h1 : (l.take j).length = j := by rw [List.length_take]; omega
  rw [show (some l[j]).toList = [l[j]] from rfl]
  by_cases q : i < j
  · rw [List.eraseIdx_append_of_lt_length (by omega), List.map_append, rd_at70 l j hj]
    rfl
  · rw [List.eraseIdx_append_of_length_le (by omega), List.map_append, h1, List.eraseIdx_of_length_le (l := l.take j) (by omega), List.eraseIdx_of_length_le (by simp; omega), rd_at70 l j hj]
    rfl
theorem dl_len (l : List S70) (i j : Nat) : (dl l i j).length ≤ l.length := by
  unfold dl
  rw [List.length_map]
  have h1 := List.length_eraseIdx_le (l := l.take j) (i := i)
  rw [List.length_take] at h1
  omega
theorem rapart_l0 (l : List S70) (ok : nodesOk l) (hl : l.length ≤ 1000) (i : Nat) (hi : i < l.length) : ∀ (d k j : Nat), j + d = l.length → d + 2200 ≤ k → analemmaref17_Apart.l0 k (l.map to89) (i : Int) (dl l i j) (j : Int) = some (apartv l i)
  | 0, k, j, hj, hk => by
    obtain ⟨k, rfl⟩ : ∃ m, k = m + 1 := ⟨k - 1, by omega⟩
    simp only [analemmaref17_Apart.l0]
    rw [List.length_map, if_neg (by omega)]
    have e : dl l i j = diffs l i := by
      unfold dl diffs
      rw [List.take_of_length_le (by omega)]
    have h1 := diffs_len l i
    rw [e, rroot_v k (diffs l i) (diffs_bd l i) (by omega) (by omega), Option.bind_some]
    rfl
  | d + 1, k, j, hj, hk => by
    obtain ⟨k, rfl⟩ : ∃ m, k = m + 1 := ⟨k - 1, by omega⟩
    have ih := rapart_l0 l ok hl i hi d k (j + 1) (by omega) (by omega)
    have hw : wrap64 ((j : Int) + 1) = ((j + 1 : Nat) : Int) := by unfold wrap64; omega
    simp only [analemmaref17_Apart.l0]
    rw [List.length_map, if_pos (by omega), hw]
    by_cases q : (j : Int) = (i : Int)
    · have q' : j = i := by omega
      subst q'
      rw [if_pos rfl, ← dl_skip l j hi]
      exact ih
    · have h1 := ok _ (rd_mem70 l i hi)
      have h2 := ok _ (rd_mem70 l j (by omega))
      have h3 := dl_len l i j
      rw [if_neg q, if_pos (by omega), if_pos (by omega), if_pos (by omega), rd89 l i hi, rd89 l j (by omega)]
      show (analemmaref02_Sub.f k (rd_T70 l (i : Int)).f0 (rd_T70 l (j : Int)).f0).bind _ = _
      rw [rsubf_eq k _ _ h1.1.1 h1.1.2 h2.1.1 h2.1.2 (by omega), Option.bind_some, if_pos (by omega), ← dl_step l i j (by omega) (by omega)]
      exact ih
theorem rapart_eq (l : List S70) (ok : nodesOk l) (hl : l.length ≤ 1000) (i k : Nat) (hi : i < l.length) (hk : 4000 ≤ k) : analemmaref17_Apart.f k (l.map to89) (i : Int) = some (apartv l i) := by
  obtain ⟨k, rfl⟩ : ∃ m, k = m + 1 := ⟨k - 1, by omega⟩
  unfold analemmaref17_Apart.f
  rw [if_neg (by omega), List.length_map, show decide ((i : Int) ≥ (l.length : Int)) = false from decide_eq_false (by omega)]
  simp only [analemmaref17_Apart.j0]
  rw [if_neg (by simp)]
  exact rapart_l0 l ok hl i hi l.length k 0 (by omega) (by omega)
theorem rapart_out (l : List S70) (a : Int) (k : Nat) (hk : 1 ≤ k) (h : a < 0 ∨ (l.length : Int) ≤ a) : analemmaref17_Apart.f k (l.map to89) a = some 0 := by
  obtain ⟨k, rfl⟩ : ∃ m, k = m + 1 := ⟨k - 1, by omega⟩
  unfold analemmaref17_Apart.f
  by_cases q : a < 0
  · rw [if_pos q]
    simp only [analemmaref17_Apart.j0]
    rw [if_pos trivial]
  · rw [if_neg q, List.length_map, show decide (a ≥ (l.length : Int)) = true from decide_eq_true (by omega)]
    simp only [analemmaref17_Apart.j0]
    rw [if_pos trivial]

/-! The worst. -/
def plc (l : List S70) (i : Nat) : S92 := ⟨(i : Int), apartv l i⟩
def wst (l : List S70) : Nat → S92
  | 0 => plc l 0
  | j + 1 => if 0 < clu.worse l (plc l (j + 1)) (wst l j) then plc l (j + 1) else wst l j
def worstv (l : List S70) : Int × Int := if l.length = 0 then (0, 0) else ((wst l (l.length - 1)).f0, (wst l (l.length - 1)).f1)
theorem wst_form (l : List S70) : ∀ (j : Nat), ∃ b, b ≤ j ∧ wst l j = plc l b
  | 0 => ⟨0, Nat.le_refl 0, rfl⟩
  | j + 1 => by
    obtain ⟨b, h1, h2⟩ := wst_form l j
    unfold wst
    by_cases q : 0 < clu.worse l (plc l (j + 1)) (wst l j)
    · rw [if_pos q]
      exact ⟨j + 1, Nat.le_refl _, rfl⟩
    · rw [if_neg q]
      exact ⟨b, by omega, h2⟩
theorem worse_iff (l : List S70) (j b : Nat) (h : b < j) : 0 < clu.worse l (plc l j) (plc l b) ↔ (apartv l b < apartv l j ∨ (apartv l j = apartv l b ∧ (rd_T70 l (b : Int)).f2 ≤ (rd_T70 l (j : Int)).f2)) := by
  unfold clu.worse plc clu.cmpI
  dsimp only
  repeat' split
  all_goals omega
theorem maxp_wst (l : List S70) : ∀ (d j : Nat), clu.maxp l ((List.range' (j + 1) d).map (plc l)) (wst l j) = wst l (j + d)
  | 0, j => rfl
  | d + 1, j => by
    rw [List.range'_succ, List.map_cons, maxp_cons]
    have := maxp_wst l d (j + 1)
    rw [show j + (d + 1) = j + 1 + d by omega, ← this]
    rfl
theorem places_eq (l : List S70) (ok : nodesOk l) (hl : l.length ≤ 1000) : clu.places l l.length = some ((List.range l.length).map (plc l)) := by
  unfold clu.places
  rw [mapM_some _ (plc l)]
  intro i hi
  rw [List.mem_range] at hi
  rw [apart_eq l ok hl i hi]
  rfl
theorem worst_eq (l : List S70) (ok : nodesOk l) (hl : l.length ≤ 1000) : cluster_Worst.f l = some (worstv l) := by
  unfold cluster_Worst.f worstv
  by_cases q : l.length = 0
  · rw [if_pos q, if_pos q]
  · rw [if_neg q, if_neg q, if_pos hl, places_eq l ok hl, Option.map_some]
    obtain ⟨m, hm⟩ : ∃ m, l.length = m + 1 := ⟨l.length - 1, by omega⟩
    have e : (List.range l.length).map (plc l) = plc l 0 :: (List.range' 1 m).map (plc l) := by
      rw [hm, List.range_eq_range', List.range'_succ]
      rfl
    rw [e]
    have e2 : rd_T92 (plc l 0 :: (List.range' 1 m).map (plc l)) 0 = wst l 0 := rfl
    have e3 := maxp_wst l m 0
    rw [e2, List.drop_succ_cons, List.drop_zero, e3, show l.length - 1 = 0 + m by omega]
theorem worst_bd (l : List S70) (h : 0 < l.length) : ∃ b, b < l.length ∧ worstv l = ((b : Int), apartv l b) := by
  obtain ⟨b, h1, h2⟩ := wst_form l (l.length - 1)
  refine ⟨b, by omega, ?_⟩
  unfold worstv
  rw [if_neg (by omega), h2]
  rfl
theorem rworst_l0 (l : List S70) (ok : nodesOk l) (hl : l.length ≤ 1000) : ∀ (d k j : Nat), j + d + 1 = l.length → d + 4001 ≤ k → analemmaref17_Worst.l0 k (l.map to89) (wst l j).f0 (wst l j).f1 ((j : Int) + 1) = some ((wst l (j + d)).f0, (wst l (j + d)).f1)
  | 0, k, j, hj, hk => by
    obtain ⟨k, rfl⟩ : ∃ m, k = m + 1 := ⟨k - 1, by omega⟩
    simp only [analemmaref17_Worst.l0]
    rw [List.length_map, if_neg (by omega)]
    rfl
  | d + 1, k, j, hj, hk => by
    obtain ⟨k, rfl⟩ : ∃ m, k = m + 1 := ⟨k - 1, by omega⟩
    have ih := rworst_l0 l ok hl d k (j + 1) (by omega) (by omega)
    obtain ⟨b, hb1, hb2⟩ := wst_form l j
    have hw : wrap64 ((j : Int) + 1 + 1) = ((j + 1 : Nat) : Int) + 1 := by unfold wrap64; omega
    simp only [analemmaref17_Worst.l0]
    rw [List.length_map, if_pos (by omega), hw]
    have e := rapart_eq l ok hl (j + 1) k (by omega) (by omega)
    rw [show ((j : Int) + 1) = ((j + 1 : Nat) : Int) by omega, e, Option.bind_some, if_neg (by omega), show j + (d + 1) = j + 1 + d by omega, ← ih]
    have w := worse_iff l (j + 1) b (by omega)
    rw [hb2] 
    have e2 : wst l (j + 1) = if 0 < clu.worse l (plc l (j + 1)) (plc l b) then plc l (j + 1) else plc l b := by
      rw [← hb2]
      rfl
    rw [e2]
    have f0 : (plc l b).f0 = (b : Int) := rfl
    have f1 : (plc l b).f1 = apartv l b := rfl
    rw [f0, f1]
    by_cases q : 0 < clu.worse l (plc l (j + 1)) (plc l b)
    · rw [if_pos q]
      rcases w.1 q with h | ⟨h1, h2⟩
      · rw [if_pos h]
        rfl
      · rw [if_neg (by omega), if_pos h1, if_pos (by omega), if_pos (by omega), if_pos (by omega), rd89 l (j + 1) (by omega), rd89 l b (by omega)]
        rw [if_pos (show (to89 (rd_T70 l ((j + 1 : Nat) : Int))).f2 ≥ (to89 (rd_T70 l (b : Int))).f2 from h2)]
        rfl
    · rw [if_neg q]
      have q' := fun h => q (w.2 h)
      rw [if_neg (fun h => q' (.inl h))]
      by_cases q2 : apartv l (j + 1) = apartv l b
      · rw [if_pos q2, if_pos (by omega), if_pos (by omega), if_pos (by omega), rd89 l (j + 1) (by omega), rd89 l b (by omega)]
        rw [if_neg (show ¬ (to89 (rd_T70 l ((j + 1 : Nat) : Int))).f2 ≥ (to89 (rd_T70 l (b : Int))).f2 from fun h => q' (.inr ⟨q2, h⟩))]
        rfl
      · rw [if_neg q2]
        rfl
theorem rworst_eq (l : List S70) (ok : nodesOk l) (hl : l.length ≤ 1000) (k : Nat) (hk : 6000 ≤ k) : analemmaref17_Worst.f k (l.map to89) = some (worstv l) := by
  obtain ⟨k, rfl⟩ : ∃ m, k = m + 1 := ⟨k - 1, by omega⟩
  unfold analemmaref17_Worst.f worstv
  simp only [analemmaref17_Worst.l0]
  rw [List.length_map]
  by_cases q : l.length = 0
  · rw [if_neg (by omega), if_pos q]
  · rw [if_pos (by omega), if_neg q]
    have e := rapart_eq l ok hl 0 k (by omega) (by omega)
    rw [show ((0 : Nat) : Int) = 0 from rfl] at e
    have hw : wrap64 ((0 : Int) + 1) = ((0 : Nat) : Int) + 1 := by unfold wrap64; omega
    rw [e, Option.bind_some, if_pos trivial, hw]
    have h := rworst_l0 l ok hl (l.length - 1) k 0 (by omega) (by omega)
    rw [Nat.zero_add] at h
    exact h

/-! The spread. -/
theorem foldS_spec : ∀ (xs : List S70) (a b : Int), ((clu.foldS xs a b).1 = a ∨ ∃ x ∈ xs, (clu.foldS xs a b).1 = x.f0) ∧ (clu.foldS xs a b).1 ≤ a ∧ (∀ x ∈ xs, (clu.foldS xs a b).1 ≤ x.f0) ∧ ((clu.foldS xs a b).2 = b ∨ ∃ x ∈ xs, (clu.foldS xs a b).2 = x.f0) ∧ b ≤ (clu.foldS xs a b).2 ∧ (∀ x ∈ xs, x.f0 ≤ (clu.foldS xs a b).2)
  | [], a, b => ⟨.inl rfl, Int.le_refl _, fun _ h => absurd h List.not_mem_nil, .inl rfl, Int.le_refl _, fun _ h => absurd h List.not_mem_nil⟩
  | x :: xs, a, b => by
    rw [foldS_cons]
    obtain ⟨a', ha'⟩ : ∃ a', (if x.f0 < a then x.f0 else a) = a' := ⟨_, rfl⟩
    obtain ⟨b', hb'⟩ : ∃ b', (if b < x.f0 then x.f0 else b) = b' := ⟨_, rfl⟩
    rw [ha', hb']
    have ka : (a' = a ∨ a' = x.f0) ∧ a' ≤ a ∧ a' ≤ x.f0 := by split at ha' <;> omega
    have kb : (b' = b ∨ b' = x.f0) ∧ b ≤ b' ∧ x.f0 ≤ b' := by split at hb' <;> omega
    obtain ⟨h1, h2, h3, h4, h5, h6⟩ := foldS_spec xs a' b'
    refine ⟨?_, by omega, ?_, ?_, by omega, ?_⟩
    · rcases h1 with h | ⟨y, hy, h⟩
      · rcases ka.1 with q | q
        · exact .inl (by omega)
        · exact .inr ⟨x, List.mem_cons_self, by omega⟩
      · exact .inr ⟨y, List.mem_cons_of_mem _ hy, h⟩
    · intro y hy
      rcases List.mem_cons.1 hy with rfl | hy
      · omega
      · exact h3 y hy
    · rcases h4 with h | ⟨y, hy, h⟩
      · rcases kb.1 with q | q
        · exact .inl (by omega)
        · exact .inr ⟨x, List.mem_cons_self, by omega⟩
      · exact .inr ⟨y, List.mem_cons_of_mem _ hy, h⟩
    · intro y hy
      rcases List.mem_cons.1 hy with rfl | hy
      · omega
      · exact h6 y hy
theorem endsS_cons (x : S70) (xs : List S70) : clu.endsS (x :: xs) = clu.foldS xs x.f0 x.f0 := rfl
theorem endsS_spec (l : List S70) (h : 0 < l.length) : (∃ x ∈ l, (clu.endsS l).1 = x.f0) ∧ (∀ x ∈ l, (clu.endsS l).1 ≤ x.f0) ∧ (∃ x ∈ l, (clu.endsS l).2 = x.f0) ∧ (∀ x ∈ l, x.f0 ≤ (clu.endsS l).2) := by
  cases l with
  | nil => exact absurd h (by simp)
  | cons x xs =>
    rw [endsS_cons]
    obtain ⟨h1, h2, h3, h4, h5, h6⟩ := foldS_spec xs x.f0 x.f0
    refine ⟨?_, ?_, ?_, ?_⟩
    · rcases h1 with h | ⟨y, hy, h⟩
      · exact ⟨x, List.mem_cons_self, h⟩
      · exact ⟨y, List.mem_cons_of_mem _ hy, h⟩
    · intro y hy
      rcases List.mem_cons.1 hy with rfl | hy
      · exact h2
      · exact h3 y hy
    · rcases h4 with h | ⟨y, hy, h⟩
      · exact ⟨x, List.mem_cons_self, h⟩
      · exact ⟨y, List.mem_cons_of_mem _ hy, h⟩
    · intro y hy
      rcases List.mem_cons.1 hy with rfl | hy
      · exact h5
      · exact h6 y hy
def spreadv (l : List S70) : Int := cutv ((clu.endsS l).2 - (clu.endsS l).1)
theorem endsS_ok (l : List S70) (ok : nodesOk l) : I64b (clu.endsS l).1 ∧ I64b (clu.endsS l).2 := by
  by_cases q : 0 < l.length
  · obtain ⟨⟨x, hx, h1⟩, _, ⟨y, hy, h2⟩, _⟩ := endsS_spec l q
    rw [h1, h2]
    exact ⟨(ok x hx).1, (ok y hy).1⟩
  · have e : clu.endsS l = (0, 0) := by unfold clu.endsS; rw [if_pos (by omega)]
    rw [e]
    unfold I64b
    decide
theorem spread_eq (l : List S70) (ok : nodesOk l) (hl : l.length ≤ 1000) : cluster_Spread.f l = some (spreadv l) := by
  unfold cluster_Spread.f
  rw [if_pos hl]
  have h := endsS_ok l ok
  exact sub_eq 2 _ _ h.2.1 h.2.2 h.1.1 h.1.2 (by omega)

/-! The pruning. -/
def quietv (l : List S70) : Int := (clu.endsP l).1
def leastv (a : Int) : Int := if a < 1 then 1 else a
def gov : Nat → List Int → List S70 → Int → List Int × Int
  | 0, kept, _, _ => (kept, 0)
  | n + 1, kept, now, least => if (now.length : Int) ≤ leastv least ∨ (worstv now).2 < quietv now then (kept, (worstv now).2) else gov n (kept.eraseIdx (worstv now).1.toNat) (now.eraseIdx (worstv now).1.toNat) least
def idxs (n : Nat) : List Int := (List.range n).map fun (i : Nat) => (i : Int)
def prunev (l : List S70) (least : Int) : List Int × Int := gov (l.length + 1) (idxs l.length) l least
theorem idx_eq (n : Nat) : clu.idx n n = idxs n := by
  unfold clu.idx idxs
  refine List.map_congr_left fun i hi => ?_
  rw [List.mem_range] at hi
  rw [if_pos hi]
theorem ok_erase (l : List S70) (ok : nodesOk l) (i : Nat) : nodesOk (l.eraseIdx i) := fun x hx => ok x (List.mem_of_mem_eraseIdx hx)
theorem go_eq : ∀ (n : Nat) (kept : List Int) (now : List S70) (least : Int), nodesOk now → now.length ≤ 1000 → now.length + 1 ≤ n → clu.go n kept now least = some (gov n kept now least)
  | 0, kept, now, least, ok, hl, hn => absurd hn (by omega)
  | n + 1, kept, now, least, ok, hl, hn => by
    unfold clu.go gov
    rw [worst_eq now ok hl, Option.bind_some]
    have e : (if least < 1 then 1 else least) = leastv least := rfl
    have e2 : (clu.endsP now).1 = quietv now := rfl
    rw [e, e2]
    by_cases q : (now.length : Int) ≤ leastv least ∨ (worstv now).2 < quietv now
    · rw [if_pos q, if_pos q]
    · rw [if_neg q, if_neg q]
      have h1 : 1 ≤ leastv least := by unfold leastv; split <;> omega
      have h0 : ¬ (now.length : Int) ≤ leastv least := fun h => q (.inl h)
      obtain ⟨b, hb, e3⟩ := worst_bd now (by omega)
      have h2 : (now.eraseIdx (worstv now).1.toNat).length = now.length - 1 := by
        rw [e3]
        show (now.eraseIdx (b : Int).toNat).length = _
        rw [Int.toNat_natCast, List.length_eraseIdx, if_pos hb]
      exact go_eq n _ _ least (ok_erase now ok _) (by omega) (by omega)
theorem prune_eq (l : List S70) (ok : nodesOk l) (hl : l.length ≤ 1000) (least : Int) : cluster_Prune.f l least = some (prunev l least) := by
  unfold cluster_Prune.f
  rw [if_pos hl, idx_eq]
  exact go_eq _ _ _ _ ok hl (Nat.le_refl _)

/-! The document's pruning. -/
def nth (l : List S70) (i : Int) : S70 := rd_T70 l i
theorem nth_idxs (l : List S70) : (idxs l.length).map (nth l) = l := by
  unfold idxs
  rw [List.map_map]
  refine List.ext_getElem (by simp) fun i h1 h2 => ?_
  rw [List.getElem_map, List.getElem_range]
  exact rd_at70 l i h2
theorem idxs_in (n : Nat) : ∀ x ∈ idxs n, 0 ≤ x ∧ x < n := by
  intro x hx
  obtain ⟨i, hi, rfl⟩ := List.mem_map.1 hx
  rw [List.mem_range] at hi
  omega
theorem idxs_len (n : Nat) : (idxs n).length = n := by unfold idxs; simp
theorem idxs_succ (n : Nat) : idxs (n + 1) = idxs n ++ [(n : Int)] := by
  unfold idxs
  rw [List.range_succ, List.map_append]
  rfl
theorem erase_map {α β : Type} (f : α → β) (xs : List α) (i : Nat) : (xs.eraseIdx i).map f = (xs.map f).eraseIdx i := by
  rw [List.eraseIdx_eq_take_drop_succ, List.eraseIdx_eq_take_drop_succ, List.map_append, List.map_take, List.map_drop]
theorem erase_skip {α : Type} (l : List α) (i : Nat) (hi : i < l.length) : (l.take (i + 1)).eraseIdx i = (l.take i).eraseIdx i := by
  rw [List.take_add_one, List.getElem?_eq_getElem hi]
  have h1 : (l.take i).length = i := by rw [List.length_take]; omega
  rw [show (some l[i]).toList = [l[i]] from rfl, List.eraseIdx_append_of_length_le (by omega), h1, Nat.sub_self]
  rw [List.eraseIdx_of_length_le (l := l.take i) (by omega)]
  simp
theorem erase_step {α : Type} (l : List α) (i j : Nat) (hj : j < l.length) (h : j ≠ i) : (l.take (j + 1)).eraseIdx i = (l.take j).eraseIdx i ++ [l[j]] := by
  rw [List.take_add_one, List.getElem?_eq_getElem hj]
  have h1 : (l.take j).length = j := by rw [List.length_take]; omega
  rw [show (some l[j]).toList = [l[j]] from rfl]
  by_cases q : i < j
  · rw [List.eraseIdx_append_of_lt_length (by omega)]
  · rw [List.eraseIdx_append_of_length_le (by omega), h1, List.eraseIdx_of_length_le (l := l.take j) (by omega), List.eraseIdx_of_length_le (by simp; omega)]
theorem foldP_mn (b b' : Int) : ∀ (xs : List S70) (a : Int), (clu.foldP xs a b).1 = (clu.foldP xs a b').1 := by
  intro xs
  induction xs generalizing b b' with
  | nil => intro a; rfl
  | cons x xs ih =>
    intro a
    rw [foldP_cons, foldP_cons]
    exact ih _ _ _
theorem rd_rd (l : List Int) (j : Nat) (h : j < l.length) : rd l (j : Int) = l[j] := by
  unfold rd
  rw [Int.toNat_natCast, List.getD_eq_getElem?_getD, List.getElem?_eq_getElem h]
  rfl
theorem quiet_le (l : List S70) (h : 0 < l.length) : quietv l = (clu.foldP l (rd_T70 l 0).f1 (rd_T70 l 0).f1).1 := by
  cases l with
  | nil => exact absurd h (by simp)
  | cons x xs =>
    show (clu.foldP xs x.f1 x.f1).1 = _
    rw [foldP_cons]
    show _ = (clu.foldP xs (if x.f1 < x.f1 then x.f1 else x.f1) (if x.f1 < x.f1 then x.f1 else x.f1)).1
    rw [if_neg (by omega)]
theorem rl2 (l : List S70) (kept : List Int) (hin : ∀ x ∈ kept, 0 ≤ x ∧ x < l.length) (hlen : kept.length ≤ l.length) (hl : l.length ≤ 1000) (least : Int) (C : Nat → Option (List Int × Int)) (c : Nat)
    (hC : ∀ k, c ≤ k → analemmaref17_Prune.l2 (k + 1) (l.map to89) least kept ((kept.map (nth l)).map to89) (kept.length : Int) = C k) (D : Option (List Int × Int)) (hD : ∀ k, c ≤ k → C k = D) :
    ∀ (d k j : Nat), j + d = kept.length → d + c + 1 ≤ k → analemmaref17_Prune.l2 k (l.map to89) least kept (((kept.take j).map (nth l)).map to89) (j : Int) = D
  | 0, k, j, hj, hk => by
    obtain ⟨k, rfl⟩ : ∃ m, k = m + 1 := ⟨k - 1, by omega⟩
    rw [List.take_of_length_le (by omega), show (j : Int) = (kept.length : Int) by omega, hC k (by omega), hD k (by omega)]
  | d + 1, k, j, hj, hk => by
    obtain ⟨k, rfl⟩ : ∃ m, k = m + 1 := ⟨k - 1, by omega⟩
    have hx := hin _ (List.getElem_mem (show j < kept.length by omega))
    have hw : wrap64 ((j : Int) + 1) = ((j + 1 : Nat) : Int) := by unfold wrap64; omega
    rw [analemmaref17_Prune.l2]
    have hlt : (((kept.take j).map (nth l)).map to89).length < 5864062014805 := by
      rw [List.length_map, List.length_map, List.length_take]
      omega
    rw [if_pos (by omega), if_pos (by omega), rd_rd kept j (by omega), if_pos hx.1, List.length_map, if_pos hx.2, if_pos hlt, hw]
    obtain ⟨i, hi⟩ : ∃ i : Nat, kept[j] = (i : Int) := ⟨kept[j].toNat, by omega⟩
    have e : ((kept.take (j + 1)).map (nth l)).map to89 = (((kept.take j).map (nth l)).map to89) ++ [(⟨(rd_T89 (l.map to89) kept[j]).f0, (rd_T89 (l.map to89) kept[j]).f1, (rd_T89 (l.map to89) kept[j]).f2⟩ : S89)] := by
      rw [List.take_add_one, List.getElem?_eq_getElem (by omega : j < kept.length), List.map_append, List.map_append, hi, rd89 l i (by omega)]
      rfl
    rw [← e]
    exact rl2 l kept hin hlen hl least C c hC D hD d k (j + 1) (by omega) (by omega)
theorem rl3 (x0 : List S89) (least : Int) (kept : List Int) (now : List S70) (a far : Int) (hl : now.length ≤ 1000) (D : Option (List Int × Int)) (c : Nat)
    (hD : ∀ k, c ≤ k → analemmaref17_Prune.l4 k x0 least kept a [] 0 = D) :
    ∀ (d k j : Nat) (m b : Int), j + d = now.length → d + c + 1 ≤ k → analemmaref17_Prune.l3 k x0 least kept (now.map to89) a far m (j : Int) = if far < (clu.foldP (now.drop j) m b).1 then some (kept, far) else D
  | 0, k, j, m, b, hj, hk => by
    obtain ⟨k, rfl⟩ : ∃ m, k = m + 1 := ⟨k - 1, by omega⟩
    rw [analemmaref17_Prune.l3, List.length_map, if_neg (by omega), List.drop_eq_nil_of_le (by omega), hD k (by omega)]
    rfl
  | d + 1, k, j, m, b, hj, hk => by
    obtain ⟨k, rfl⟩ : ∃ m, k = m + 1 := ⟨k - 1, by omega⟩
    have hw : wrap64 ((j : Int) + 1) = ((j + 1 : Nat) : Int) := by unfold wrap64; omega
    rw [analemmaref17_Prune.l3, List.length_map, if_pos (by omega), if_pos (by omega), hw, rd89 now j (by omega)]
    have e : now.drop j = rd_T70 now (j : Int) :: now.drop (j + 1) := by
      rw [List.drop_eq_getElem_cons (by omega : j < now.length), rd_at70 now j (by omega)]
    rw [e, foldP_cons]
    exact rl3 x0 least kept now a far hl D c hD d k (j + 1) _ _ (by omega) (by omega)
theorem rl4 (x0 : List S89) (least : Int) (kept : List Int) (a : Nat) (hl : kept.length ≤ 1000) (D : Option (List Int × Int)) (c : Nat)
    (hD : ∀ k, c ≤ k → analemmaref17_Prune.l1 k x0 least (kept.eraseIdx a) = D) :
    ∀ (d k j : Nat), j + d = kept.length → d + c + 1 ≤ k → analemmaref17_Prune.l4 k x0 least kept (a : Int) ((kept.take j).eraseIdx a) (j : Int) = D
  | 0, k, j, hj, hk => by
    obtain ⟨k, rfl⟩ : ∃ m, k = m + 1 := ⟨k - 1, by omega⟩
    rw [analemmaref17_Prune.l4, if_neg (by omega), List.take_of_length_le (by omega), hD k (by omega)]
  | d + 1, k, j, hj, hk => by
    obtain ⟨k, rfl⟩ : ∃ m, k = m + 1 := ⟨k - 1, by omega⟩
    have hw : wrap64 ((j : Int) + 1) = ((j + 1 : Nat) : Int) := by unfold wrap64; omega
    rw [analemmaref17_Prune.l4, if_pos (by omega), hw]
    have ih := rl4 x0 least kept a hl D c hD d k (j + 1) (by omega) (by omega)
    by_cases q : j = a
    · subst q
      rw [if_pos rfl, ← erase_skip kept j (by omega)]
      exact ih
    · have hlt : ((kept.take j).eraseIdx a).length < 17592186044416 := by
        have := List.length_eraseIdx_le (l := kept.take j) (i := a)
        rw [List.length_take] at this
        omega
      rw [if_neg (by omega), if_pos (by omega), if_pos hlt, rd_rd kept j (by omega), ← erase_step kept a j (by omega) q]
      exact ih
theorem rl1 (l : List S70) (ok : nodesOk l) (hl : l.length ≤ 1000) (least : Int) : ∀ (n : Nat) (kept : List Int) (k : Nat), (∀ x ∈ kept, 0 ≤ x ∧ x < l.length) → kept.length ≤ l.length → kept.length + 1 ≤ n → n * 4000 + 10000 ≤ k → analemmaref17_Prune.l1 k (l.map to89) least kept = some (gov n kept (kept.map (nth l)) least) := by
  intro n
  induction n with
  | zero => exact fun kept k hin hlen hn hk => absurd hn (by omega)
  | succ n ih =>
    intro kept k hin hlen hn hk
    obtain ⟨k, rfl⟩ : ∃ m, k = m + 1 := ⟨k - 1, by omega⟩
    rw [analemmaref17_Prune.l1]
    obtain ⟨now, hnow⟩ : ∃ now, kept.map (nth l) = now := ⟨_, rfl⟩
    have hnl : now.length = kept.length := by rw [← hnow, List.length_map]
    have oknow : nodesOk now := by
      intro x hx
      rw [← hnow] at hx
      obtain ⟨i, hi, rfl⟩ := List.mem_map.1 hx
      have h1 := hin i hi
      have := rd_mem70 l i.toNat (by omega)
      rw [Int.toNat_of_nonneg h1.1] at this
      exact ok _ this
    obtain ⟨c2, hc2⟩ : ∃ c, c = n * 4000 + 12500 := ⟨_, rfl⟩
    obtain ⟨c3, hc3⟩ : ∃ c, c = n * 4000 + 11001 := ⟨_, rfl⟩
    obtain ⟨c4, hc4⟩ : ∃ c, c = n * 4000 + 10000 := ⟨_, rfl⟩
    refine rl2 l kept hin hlen hl least (fun k => analemmaref17_Prune.l2 (k + 1) (l.map to89) least kept ((kept.map (nth l)).map to89) (kept.length : Int)) c2 (fun k _ => rfl) _ (fun k hk => ?_) kept.length k 0 (by omega) (by omega)
    show analemmaref17_Prune.l2 (k + 1) _ _ _ _ _ = _
    rw [hnow, analemmaref17_Prune.l2, if_neg (by omega), rworst_eq now oknow (by omega) k (by omega), Option.bind_some]
    have e0 : mx least 1 = leastv least := rfl
    rw [e0]
    unfold gov
    by_cases q : (now.length : Int) ≤ leastv least
    · rw [if_pos (by omega), if_pos (.inl q)]
    · have h1 : 1 ≤ leastv least := by unfold leastv; split <;> omega
      rw [if_neg (by omega), List.length_map, if_pos (by omega)]
      have e1 := rd89 now 0 (by omega)
      rw [show ((0 : Nat) : Int) = 0 from rfl] at e1
      rw [e1]
      obtain ⟨b, hb, e3⟩ := worst_bd now (by omega)
      have h4 : ∀ k, c3 ≤ k → analemmaref17_Prune.l4 k (l.map to89) least kept (worstv now).1 [] 0 = some (gov n (kept.eraseIdx (worstv now).1.toNat) (now.eraseIdx (worstv now).1.toNat) least) := by
        intro k hk
        rw [e3]
        show analemmaref17_Prune.l4 k (l.map to89) least kept (b : Int) [] 0 = some (gov n (kept.eraseIdx (b : Int).toNat) (now.eraseIdx (b : Int).toNat) least)
        rw [Int.toNat_natCast]
        refine rl4 (l.map to89) least kept b (by omega) _ c4 (fun k hk => ?_) kept.length k 0 (by omega) (by omega)
        have hle : (kept.eraseIdx b).length = kept.length - 1 := by rw [List.length_eraseIdx, if_pos (by omega)]
        have h5 : n * 4000 + 10000 ≤ k := Nat.le_trans (Nat.le_of_eq hc4.symm) hk
        have h6 : (kept.eraseIdx b).length ≤ l.length := by omega
        have h7 : (kept.eraseIdx b).length + 1 ≤ n := by omega
        rw [ih (kept.eraseIdx b) k (fun x hx => hin x (List.mem_of_mem_eraseIdx hx)) h6 h7 h5, erase_map, hnow]
      have h3 := rl3 (l.map to89) least kept now (worstv now).1 (worstv now).2 (by omega) _ c3 h4 now.length k 0 (rd_T70 now 0).f1 (rd_T70 now 0).f1 (by omega) (by omega)
      rw [List.drop_zero, ← quiet_le now (by omega)] at h3
      refine h3.trans ?_
      by_cases q2 : (worstv now).2 < quietv now
      · rw [if_pos q2, if_pos (.inr q2)]
      · rw [if_neg q2, if_neg (fun h => h.elim q q2)]
theorem rl0 (x0 : List S89) (least : Int) (hl : x0.length ≤ 1000) (D : Option (List Int × Int)) (c : Nat)
    (hD : ∀ k, c ≤ k → analemmaref17_Prune.l1 k x0 least (idxs x0.length) = D) :
    ∀ (d k j : Nat), j + d = x0.length → d + c + 1 ≤ k → analemmaref17_Prune.l0 k x0 least (idxs j) (j : Int) = D
  | 0, k, j, hj, hk => by
    obtain ⟨k, rfl⟩ : ∃ m, k = m + 1 := ⟨k - 1, by omega⟩
    rw [analemmaref17_Prune.l0, if_neg (by omega), show j = x0.length by omega, hD k (by omega)]
  | d + 1, k, j, hj, hk => by
    obtain ⟨k, rfl⟩ : ∃ m, k = m + 1 := ⟨k - 1, by omega⟩
    have hw : wrap64 ((j : Int) + 1) = ((j + 1 : Nat) : Int) := by unfold wrap64; omega
    rw [analemmaref17_Prune.l0, if_pos (by omega), if_pos (by rw [idxs_len]; omega), hw, ← idxs_succ]
    exact rl0 x0 least hl D c hD d k (j + 1) (by omega) (by omega)
theorem rprune_eq (l : List S70) (ok : nodesOk l) (hl : l.length ≤ 1000) (least : Int) (k : Nat) (hk : 9000000 ≤ k) : analemmaref17_Prune.f k (l.map to89) least = some (prunev l least) := by
  unfold analemmaref17_Prune.f prunev
  obtain ⟨c1, hc1⟩ : ∃ c, c = 4014000 := ⟨_, rfl⟩
  refine rl0 (l.map to89) least (by rw [List.length_map]; exact hl) _ c1 (fun k hk => ?_) l.length k 0 (by rw [List.length_map]; omega) (by omega)
  rw [List.length_map, rl1 l ok hl least (l.length + 1) (idxs l.length) k (idxs_in _) (by rw [idxs_len]; exact Nat.le_refl _) (by rw [idxs_len]; exact Nat.le_refl _) (by omega), nth_idxs]

/-! The helpers of the laws. -/
theorem ints_l0 (xs ys : List Int) (hl : xs.length ≤ 1000000) : ∀ (d k j : Nat), xs = ys → j + d = xs.length → d + 1 ≤ k → analemmalaw17_ints.l0 k xs ys (j : Int) = some true
  | 0, k, j, e, hj, hk => by
    obtain ⟨k, rfl⟩ : ∃ m, k = m + 1 := ⟨k - 1, by omega⟩
    rw [analemmalaw17_ints.l0, if_neg (by omega)]
  | d + 1, k, j, e, hj, hk => by
    obtain ⟨k, rfl⟩ : ∃ m, k = m + 1 := ⟨k - 1, by omega⟩
    have hw : wrap64 ((j : Int) + 1) = ((j + 1 : Nat) : Int) := by unfold wrap64; omega
    rw [analemmalaw17_ints.l0, if_pos (by omega), if_pos (by omega), if_pos (by rw [← e]; omega), if_pos (by rw [e]), hw]
    exact ints_l0 xs ys hl d k (j + 1) e (by omega) (by omega)
theorem ints_eq (xs : List Int) (hl : xs.length ≤ 1000000) (k : Nat) (hk : 1000001 ≤ k) : analemmalaw17_ints.f k xs xs = some true := by
  unfold analemmalaw17_ints.f
  rw [if_pos rfl]
  exact ints_l0 xs xs hl xs.length k 0 rfl (by omega) (by omega)
theorem theirs_l0 (l : List S70) (hl : l.length ≤ 1000000) : ∀ (d k j : Nat), j + d = l.length → d + 1 ≤ k → analemmalaw17_theirs.l0 k l ((l.take j).map to89) (j : Int) = some (l.map to89)
  | 0, k, j, hj, hk => by
    obtain ⟨k, rfl⟩ : ∃ m, k = m + 1 := ⟨k - 1, by omega⟩
    rw [analemmalaw17_theirs.l0, if_neg (by omega), List.take_of_length_le (by omega)]
  | d + 1, k, j, hj, hk => by
    obtain ⟨k, rfl⟩ : ∃ m, k = m + 1 := ⟨k - 1, by omega⟩
    have hw : wrap64 ((j : Int) + 1) = ((j + 1 : Nat) : Int) := by unfold wrap64; omega
    have hlt : ((l.take j).map to89).length < 5864062014805 := by rw [List.length_map, List.length_take]; omega
    rw [analemmalaw17_theirs.l0, if_pos (by omega), if_pos (by omega), if_pos hlt, hw]
    have e : (l.take (j + 1)).map to89 = ((l.take j).map to89) ++ [(⟨(rd_T70 l (j : Int)).f0, (rd_T70 l (j : Int)).f1, (rd_T70 l (j : Int)).f2⟩ : S89)] := by
      rw [List.take_add_one, List.getElem?_eq_getElem (by omega : j < l.length), List.map_append, rd_at70 l j (by omega)]
      rfl
    rw [← e]
    exact theirs_l0 l hl d k (j + 1) (by omega) (by omega)
theorem theirs_eq (l : List S70) (hl : l.length ≤ 1000000) (k : Nat) (hk : 1000001 ≤ k) : analemmalaw17_theirs.f k l = some (l.map to89) := by
  unfold analemmalaw17_theirs.f
  exact theirs_l0 l hl l.length k 0 (by omega) (by omega)

theorem shown_prune : (prunev [(⟨0, 0, 0⟩ : S70), (⟨4294967296, 0, 0⟩ : S70), (⟨429496729600, 0, 0⟩ : S70)] 2).1 = [0, 1] := by decide +kernel
theorem shown_spread : spreadv [(⟨0, 0, 0⟩ : S70), (⟨4294967296, 0, 0⟩ : S70), (⟨429496729600, 0, 0⟩ : S70)] = 429496729600 := by decide +kernel
theorem shown_ok : nodesOk [(⟨0, 0, 0⟩ : S70), (⟨4294967296, 0, 0⟩ : S70), (⟨429496729600, 0, 0⟩ : S70)] := by
  intro x hx
  unfold I64b
  rcases List.mem_cons.1 hx with rfl | hx
  · decide
  · rcases List.mem_cons.1 hx with rfl | hx
    · decide
    · rcases List.mem_cons.1 hx with rfl | hx
      · decide
      · exact absurd hx List.not_mem_nil
theorem shown_true (k : Nat) (hk : 1000001 ≤ k) : analemmalaw17_shown.f k = some true := by
  unfold analemmalaw17_shown.f
  have h := shown_ok
  have hp := shown_prune
  have hs := shown_spread
  have hl : [(⟨0, 0, 0⟩ : S70), (⟨4294967296, 0, 0⟩ : S70), (⟨429496729600, 0, 0⟩ : S70)].length ≤ 1000 := by decide
  generalize [(⟨0, 0, 0⟩ : S70), (⟨4294967296, 0, 0⟩ : S70), (⟨429496729600, 0, 0⟩ : S70)] = l at h hp hs hl ⊢
  rw [Option.bind_some, prune_eq l h hl, Option.bind_some, hp, ints_eq _ (by decide) k hk, Option.bind_some, if_pos rfl, spread_eq l h hl, Option.bind_some, hs]
  rfl

/-! The law. -/
theorem foldP_same (c : Int) : ∀ (xs : List S70) (a b : Int), (∀ x ∈ xs, c ≤ x.f1) → c ≤ a → c ≤ (clu.foldP xs a b).1
  | [], a, b, _, h => h
  | x :: xs, a, b, hx, h => by
    rw [foldP_cons]
    have := hx x List.mem_cons_self
    exact foldP_same c xs _ _ (fun y hy => hx y (List.mem_cons_of_mem _ hy)) (by split <;> omega)
theorem foldP_up (c : Int) : ∀ (xs : List S70) (a b : Int), a ≤ c → (clu.foldP xs a b).1 ≤ c
  | [], a, b, h => h
  | x :: xs, a, b, h => by
    rw [foldP_cons]
    exact foldP_up c xs _ _ (by split <;> omega)
theorem quiet_ge (c : Int) (l : List S70) (h : 0 < l.length) (hx : ∀ x ∈ l, c ≤ x.f1) : c ≤ quietv l := by
  cases l with
  | nil => exact absurd h (by simp)
  | cons x xs =>
    show c ≤ (clu.foldP xs x.f1 x.f1).1
    exact foldP_same c xs _ _ (fun y hy => hx y (List.mem_cons_of_mem _ hy)) (hx x List.mem_cons_self)
theorem quiet_zero (l : List S70) (hx : ∀ x ∈ l, x.f1 = 0) : quietv l ≤ 0 := by
  cases l with
  | nil => exact Int.le_refl 0
  | cons x xs =>
    show (clu.foldP xs x.f1 x.f1).1 ≤ 0
    exact foldP_up 0 xs _ _ (by have := hx x List.mem_cons_self; omega)
theorem far_ge (l : List S70) : 0 ≤ (worstv l).2 := by
  by_cases q : 0 < l.length
  · obtain ⟨b, hb, e⟩ := worst_bd l q
    rw [e]
    exact (apartv_bd l b).1
  · unfold worstv
    rw [if_pos (by omega)]
    exact Int.le_refl 0
theorem gov_len : ∀ (n : Nat) (kept : List Int) (now : List S70) (least : Int), (∀ x ∈ now, x.f1 = 0) → kept.length = now.length → now.length + 1 ≤ n → ((gov n kept now least).1.length : Int) = mn (now.length : Int) (leastv least)
  | 0, kept, now, least, h, e, hn => absurd hn (by omega)
  | n + 1, kept, now, least, h, e, hn => by
    have h1 : 1 ≤ leastv least := by unfold leastv; split <;> omega
    have hq := quiet_zero now h
    have hf := far_ge now
    unfold gov
    by_cases q : (now.length : Int) ≤ leastv least
    · rw [if_pos (.inl q), show (kept, (worstv now).2).1 = kept from rfl, e]
      unfold mn
      rw [if_neg (by omega)]
    · rw [if_neg (by omega)]
      obtain ⟨b, hb, e3⟩ := worst_bd now (by omega)
      rw [e3, show ((b : Int), apartv now b).1 = (b : Int) from rfl, Int.toNat_natCast]
      have h2 : (now.eraseIdx b).length = now.length - 1 := by rw [List.length_eraseIdx, if_pos hb]
      have h3 : (kept.eraseIdx b).length = kept.length - 1 := by rw [List.length_eraseIdx, if_pos (by omega)]
      rw [gov_len n _ _ least (fun x hx => h x (List.mem_of_mem_eraseIdx hx)) (by omega) (by omega), h2]
      unfold mn
      repeat' split
      all_goals omega
theorem nat_i64 (i : Nat) (h : i ≤ 1000000) : I64b (i : Int) := by unfold I64b; omega
theorem wrap64_i64 (x : Int) : I64b (wrap64 x) := by unfold I64b wrap64; omega
theorem gov_kept : ∀ (n : Nat) (kept : List Int) (now : List S70) (least : Int), (gov n kept now least).1.length ≤ kept.length
  | 0, _, _, _ => Nat.le_refl _
  | n + 1, kept, now, least => by
    unfold gov
    split
    · exact Nat.le_refl _
    · exact Nat.le_trans (gov_kept n _ _ _) (List.length_eraseIdx_le ..)

/-! The law. -/
theorem gov_facts (l : List S70) : ∀ (n : Nat) (kept : List Int) (least : Int), kept.length + 1 ≤ n →
    (gov n kept (kept.map (nth l)) least).1.Sublist kept ∧ (gov n kept (kept.map (nth l)) least).2 = (worstv ((gov n kept (kept.map (nth l)) least).1.map (nth l))).2 ∧ mn (kept.length : Int) (leastv least) ≤ ((gov n kept (kept.map (nth l)) least).1.length : Int)
  | 0, kept, least, hn => absurd hn (by omega)
  | n + 1, kept, least, hn => by
    have h1 : 1 ≤ leastv least := by unfold leastv; split <;> omega
    unfold gov
    rw [List.length_map]
    by_cases q : (kept.length : Int) ≤ leastv least ∨ (worstv (kept.map (nth l))).2 < quietv (kept.map (nth l))
    · rw [if_pos q]
      refine ⟨List.Sublist.refl _, rfl, ?_⟩
      show mn _ _ ≤ (kept.length : Int)
      unfold mn
      split <;> omega
    · rw [if_neg q]
      have q0 : ¬ (kept.length : Int) ≤ leastv least := fun h => q (.inl h)
      obtain ⟨b, hb, e3⟩ := worst_bd (kept.map (nth l)) (by rw [List.length_map]; omega)
      rw [List.length_map] at hb
      rw [e3, show ((b : Int), apartv (kept.map (nth l)) b).1 = (b : Int) from rfl, Int.toNat_natCast, ← erase_map]
      have h3 : (kept.eraseIdx b).length = kept.length - 1 := by rw [List.length_eraseIdx, if_pos hb]
      obtain ⟨g1, g2, g3⟩ := gov_facts l n (kept.eraseIdx b) least (by omega)
      refine ⟨g1.trans (List.eraseIdx_sublist ..), g2, ?_⟩
      rw [h3] at g3
      unfold mn at g3 ⊢
      repeat' split
      all_goals
        split at g3 <;> omega
theorem idxs_rise (n : Nat) : (idxs n).Pairwise (· < ·) := by
  unfold idxs
  refine List.Pairwise.map _ (fun a b h => ?_) (List.pairwise_lt_range (n := n))
  omega
theorem spread_sub (l m : List S70) (h : ∀ x ∈ m, x ∈ l) (h0 : l.length = 0 → m.length = 0) (h1 : m.length = 0 → l.length = 0) : spreadv m ≤ spreadv l := by
  by_cases q : m.length = 0
  · have e1 : m = [] := List.eq_nil_of_length_eq_zero q
    have e2 : l = [] := List.eq_nil_of_length_eq_zero (h1 q)
    rw [e1, e2]
    exact Int.le_refl _
  · obtain ⟨⟨x, hx, a1⟩, a2, ⟨y, hy, a3⟩, a4⟩ := endsS_spec m (by omega)
    obtain ⟨_, b2, _, b4⟩ := endsS_spec l (by omega)
    have c1 := b2 x (h x hx)
    have c2 := b4 y (h y hy)
    unfold spreadv
    exact cutv_mono _ _ (by omega)
theorem far_few (l : List S70) (h : l.length ≤ 1) : (worstv l).2 = 0 := by
  by_cases q : l.length = 0
  · unfold worstv
    rw [if_pos q]
  · obtain ⟨b, hb, e⟩ := worst_bd l (by omega)
    rw [e]
    show apartv l b = 0
    have e2 : diffs l b = [] := by
      refine List.eq_nil_of_length_eq_zero ?_
      unfold diffs
      rw [List.length_map, List.length_eraseIdx, if_pos hb]
      omega
    unfold apartv
    rw [e2]
    decide +kernel
theorem keeps_l0 (l : List S70) (ok : nodesOk l) (hl : l.length ≤ 1000) (kept : List Int) (far : Int) (hin : ∀ x ∈ kept, 0 ≤ x ∧ x < l.length) (hp : kept.Pairwise (· < ·)) (hlen : kept.length ≤ l.length) (hz : kept.length = 0 → l.length = 0) (hf : far = (worstv (kept.map (nth l))).2) : ∀ (d k j : Nat), j + d = kept.length → d + 1 ≤ k → analemmalaw17_ClusterKeeps.l0 k l kept far ((kept.take j).map (nth l)) (j : Int) = some true
  | 0, k, j, hj, hk => by
    obtain ⟨k, rfl⟩ : ∃ m, k = m + 1 := ⟨k - 1, by omega⟩
    have hm : ∀ x ∈ kept.map (nth l), x ∈ l := by
      intro x hx
      obtain ⟨i, hi, rfl⟩ := List.mem_map.1 hx
      have h1 := hin i hi
      have := rd_mem70 l i.toNat (by omega)
      rw [Int.toNat_of_nonneg h1.1] at this
      exact this
    have hml : (kept.map (nth l)).length = kept.length := List.length_map ..
    have ok2 : nodesOk (kept.map (nth l)) := fun x hx => ok x (hm x hx)
    rw [analemmalaw17_ClusterKeeps.l0, if_neg (by omega), List.take_of_length_le (by omega), worst_eq _ ok2 (by omega), Option.bind_some, spread_eq _ ok2 (by omega), Option.bind_some, spread_eq _ ok hl, Option.bind_some, if_pos (spread_sub l _ hm (by omega) (by omega)), if_pos hf.symm]
    have h0 := far_ge (kept.map (nth l))
    rw [if_pos (by omega)]
    by_cases q : (kept.length : Int) > 1
    · rw [if_pos q]
    · rw [if_neg q, hf, far_few _ (by omega)]
      rfl
  | d + 1, k, j, hj, hk => by
    obtain ⟨k, rfl⟩ : ∃ m, k = m + 1 := ⟨k - 1, by omega⟩
    have hw : wrap64 ((j : Int) + 1) = ((j + 1 : Nat) : Int) := by unfold wrap64; omega
    have h1 := hin _ (List.getElem_mem (show j < kept.length by omega))
    have ih := keeps_l0 l ok hl kept far hin hp hlen hz hf d k (j + 1) (by omega) (by omega)
    have e : (kept.take (j + 1)).map (nth l) = (kept.take j).map (nth l) ++ [(⟨(rd_T70 l kept[j]).f0, (rd_T70 l kept[j]).f1, (rd_T70 l kept[j]).f2⟩ : S70)] := by
      rw [List.take_add_one, List.getElem?_eq_getElem (by omega : j < kept.length), List.map_append]
      rfl
    rw [e] at ih
    have hlt : ((kept.take j).map (nth l)).length < 5864062014805 := by rw [List.length_map, List.length_take]; omega
    rw [analemmalaw17_ClusterKeeps.l0, if_pos (by omega), if_pos (by omega), rd_rd kept j (by omega), if_neg (by omega), if_neg (by omega), hw]
    by_cases q : (j : Int) > 0
    · have hv : wrap64 ((j : Int) - 1) = ((j - 1 : Nat) : Int) := by unfold wrap64; omega
      have hr := List.pairwise_iff_getElem.1 hp (j - 1) j (by omega) (by omega) (by omega)
      rw [if_pos q, hv, if_pos (by omega), if_pos (by omega), rd_rd kept (j - 1) (by omega), if_neg (by omega), if_pos (by omega), if_pos (by omega), if_pos hlt]
      exact ih
    · rw [if_neg q, if_pos (by omega), if_pos (by omega), if_pos hlt]
      exact ih
theorem keeps_pure (l : List S70) (a1 : Int) (ok : nodesOk l) : ∃ k, analemmalaw17_ClusterKeeps.f k l a1 = some true := by
  refine ⟨1000100, ?_⟩
  generalize hk : 1000100 = k
  obtain ⟨k, rfl⟩ : ∃ m, k = m + 1 := ⟨k - 1, by omega⟩
  have sh := shown_true k (by omega)
  have sh1 := shown_true (k + 1) (by omega)
  unfold analemmalaw17_ClusterKeeps.f
  by_cases q : (l.length : Int) > 30
  · rw [if_pos q, analemmalaw17_ClusterKeeps.j0, if_pos rfl, sh]
    rfl
  · have hl : l.length ≤ 1000 := by omega
    obtain ⟨least, hleast⟩ : ∃ x, Int.tmod (wrap64 a1) 12 = x := ⟨_, rfl⟩
    rw [if_neg q, sh1, Option.bind_some, Bool.not_true, analemmalaw17_ClusterKeeps.j0, if_neg (by decide), hleast, prune_eq l ok hl, Option.bind_some]
    have g := gov_facts l (l.length + 1) (idxs l.length) least (by rw [idxs_len]; omega)
    rw [nth_idxs, idxs_len] at g
    have g' : (prunev l least).1.Sublist (idxs l.length) ∧ (prunev l least).2 = (worstv ((prunev l least).1.map (nth l))).2 ∧ mn (l.length : Int) (leastv least) ≤ ((prunev l least).1.length : Int) := g
    obtain ⟨g1, g2, g3⟩ := g'
    generalize prunev l least = r at g1 g2 g3 ⊢
    have hlen := g1.length_le
    rw [idxs_len] at hlen
    have h1 : 1 ≤ leastv least := by unfold leastv; split <;> omega
    have e0 : mx least 1 = leastv least := rfl
    obtain ⟨k, rfl⟩ : ∃ m, k = m + 1 := ⟨k - 1, by omega⟩
    rw [e0, if_neg (by omega), show decide ((r.1.length : Int) > (l.length : Int)) = false from decide_eq_false (by omega), analemmalaw17_ClusterKeeps.j1, if_neg (by decide)]
    refine keeps_l0 l ok hl r.1 r.2 (fun x hx => idxs_in l.length x (g1.subset hx)) ((idxs_rise l.length).sublist g1) hlen ?_ g2 r.1.length k 0 (by omega) (by omega)
    intro h0
    unfold mn at g3
    split at g3 <;> omega
theorem keeps_walk (A0 : Option Addr) (c0 : Nat) (l : List S70) (a1 : Int) (w : World) (hr : Kd.C k70 w A0 l.length l) (hc : l.length ≤ c0) (ok : nodesOk l) :
    Calls Try.prog 8 #[.slice A0 l.length c0, .int .u8 a1] w fun e w' => e = .returned (.bool true) ∧ Below w.heap.size w w' := by
  obtain ⟨k, hk⟩ := keeps_pure l a1 ok
  exact analemmalaw17_ClusterKeeps.calls k A0 c0 l a1 true w hr hc hk ⟨rfl⟩


end Go.Proofs.Ytoddgpaopejeoaa.Pure
