/- agenda: the heap's law: what settle leaves is a heap of the same items, with each ticket's place. It says its own conditions. -/
import Derived.Test.YtdlbnkiolpmnbaaProg
import Derived.Test.YtdlbnkiolpmnbaaMAgax0
import Derived.Test.YtdlbnkiolpmnbaaMAgax2
import Derived.WalkKit
import Derived.Deep.RegionLaw
import Derived.Deep.RegionWith
import Derived.Deep.RegionHeld3
import Derived.BigRegion
import Derived.BigQuiet
import Derived.StillTailTactics
import Derived.Test.YtdlbnkiolpmnbaaAgSt
import Derived.Test.YtdlbnkiolpmnbaaAgLay
import Derived.Test.YtdlbnkiolpmnbaaAgCmp
import Derived.Test.YtdlbnkiolpmnbaaAgSet
import Derived.Maps.OwnIn
import Derived.Maps.OwnSet
namespace Go.Proofs.Ytdlbnkiolpmnbaa.Ag
open Go.RowKit Go.Proofs.Ytdlbnkiolpmnbaa.MAga Go.Proofs.YtdlbnkiolpmnbaaW.PrintWords Go.Proofs.YtdlbnkiolpmnbaaW.PrintLast Go.Proofs.YtdlbnkiolpmnbaaW.PrintMore
attribute [local go_sem] max2_int min2_int max_two min_two max_three min_three max_four min_four
set_option linter.unusedVariables false
set_option linter.unusedSimpArgs false
-- import Derived.Maps.OwnIn
-- import Derived.Maps.OwnSet
open Go.Maps
theorem gt_set (l : List S34) (i : Nat) (x : S34) (j : Nat) (hi : i < l.length) : gt (l.set i x) j = if i = j then x else gt l j := by
  unfold gt
  rw [List.getElem?_set]
  by_cases h : i = j
  · rw [if_pos h, if_pos h]
    have : (if i < l.length then some x else none) = some x := if_pos hi
    rw [this]
    rfl
  · rw [if_neg h, if_neg h]
def hasT (D : DataW Nat) (t : Int) : Bool := Maps.has D (Lit.int .i64 t)
def At (D : DataW Nat) (t : Int) (j : Nat) : Prop := hasT D t = true ∧ D.atKey (Lit.int .i64 t) (.lit (.int .i64 0)) = .lit (.int .i64 j)
theorem lit_ne {a b : Int} (h : a ≠ b) : (Lit.int .i64 a) ≠ Lit.int .i64 b := by
  intro e
  injection e with e1 e2
  exact h e2
theorem at_put_same {D : DataW Nat} (hD : IsMap D) (t : Int) (j : Nat) : At (putP D t j) t j :=
  ⟨has_put_same hD (by simp [WideAt.IsKeyLit]) _, atKey_put_same hD (by simp [WideAt.IsKeyLit]) _ _⟩
theorem has_put_ne {D : DataW Nat} {t t' : Int} (h : t' ≠ t) (j : Int) : hasT (putP D t j) t' = hasT D t' := has_put_other (lit_ne h) _
theorem at_put_ne {D : DataW Nat} {t t' : Int} (h : t' ≠ t) (j : Int) {j' : Nat} (ha : At D t' j') : At (putP D t j) t' j' :=
  ⟨(has_put_ne h j).trans ha.1, (atKey_put_other (lit_ne h) _ _).trans ha.2⟩
theorem at_inj {D : DataW Nat} {t : Int} {i j : Nat} (h : At D t i) (h2 : At D t j) : i = j := by
  have e := h.2.symm.trans h2.2
  injection e with e1
  injection e1 with e2 e3
  omega
theorem cmp_lt {x y : S34} : cmpI x y < 0 ↔ x.f0 < y.f0 ∨ x.f0 = y.f0 ∧ x.f3 < y.f3 := by
  unfold cmpI
  repeat' split
  all_goals omega
theorem cmp_trans {x y z : S34} (h : cmpI x y < 0) (h2 : cmpI y z < 0) : cmpI x z < 0 := by
  rw [cmp_lt] at *
  omega
theorem cmp_total {x y : S34} (h : x.f3 ≠ y.f3) (h2 : ¬ cmpI x y < 0) : cmpI y x < 0 := by
  rw [cmp_lt] at *
  omega
structure PlaceX (D : DataW Nat) (l : List S34) (i : Nat) (t0 : Int) : Prop where
  im : IsMap D
  at_ : ∀ j, j < l.length → j ≠ i → (gt l j).f3 ≠ t0 ∧ At D (gt l j).f3 j
  no : ∀ t, t ≠ t0 → (∀ j, j < l.length → j ≠ i → (gt l j).f3 ≠ t) → hasT D t = false
theorem PlaceX.ne {D : DataW Nat} {l : List S34} {i : Nat} {t0 : Int} (h : PlaceX D l i t0) {j k : Nat} (hj : j < l.length) (hji : j ≠ i) (hk : k < l.length) (hki : k ≠ i) (hjk : j ≠ k) : (gt l j).f3 ≠ (gt l k).f3 := by
  intro e
  have a := (h.at_ j hj hji).2
  rw [e] at a
  exact hjk (at_inj a (h.at_ k hk hki).2)
theorem PlaceX.step {D : DataW Nat} {l : List S34} {i u : Nat} {t0 : Int} (h : PlaceX D l i t0) (hi : i < l.length) (hu : u < l.length) (hne : u ≠ i) : PlaceX (putP D (gt l u).f3 i) (l.set i (gt l u)) u t0 := by
  refine ⟨h.im.put _ _, fun j hj hju => ?_, fun t ht hall => ?_⟩
  · rw [List.length_set] at hj
    rw [gt_set l i _ j hi]
    by_cases e : i = j
    · rw [if_pos e]
      subst e
      exact ⟨(h.at_ u hu hne).1, at_put_same h.im _ _⟩
    · rw [if_neg e]
      have hj' := h.at_ j hj (fun e2 => e e2.symm)
      exact ⟨hj'.1, at_put_ne (h.ne hj (fun e2 => e e2.symm) hu hne hju) _ hj'.2⟩
  · have h1 := hall i (by rw [List.length_set]; exact hi) (fun e => hne e.symm)
    rw [gt_set l i _ i hi, if_pos rfl] at h1
    rw [has_put_ne (fun e => h1 e.symm)]
    refine h.no t ht (fun j hj hji => ?_)
    by_cases e : j = u
    · rw [e]
      exact h1
    · have h2 := hall j (by rw [List.length_set]; exact hj) e
      rw [gt_set l i _ j hi, if_neg (fun e2 => hji e2.symm)] at h2
      exact h2
structure Hole (x : S34) (l : List S34) (D : DataW Nat) (i : Nat) : Prop where
  il : i < l.length
  pair : ∀ c, 0 < c → c < l.length → c ≠ i → (c - 1) / 2 ≠ i → cmpI (gt l ((c - 1) / 2)) (gt l c) < 0
  skip : 0 < i → ∀ c, 0 < c → c < l.length → (c - 1) / 2 = i → cmpI (gt l ((i - 1) / 2)) (gt l c) < 0
  pl : PlaceX D l i x.f3
theorem set_swap {l : List S34} {i u : Nat} (x : S34) (hi : i < l.length) (hu : u < l.length) (hne : u ≠ i) : ((l.set i (gt l u)).set u x).Perm (l.set i x) := by
  have h := @List.set_set_perm _ (l.set i x) i u (by rw [List.length_set]; exact hi) (by rw [List.length_set]; exact hu)
  rw [List.getElem_set_self, List.getElem_set_ne (fun e => hne e.symm), List.set_set] at h
  rw [gt_at l u hu]
  exact h
theorem rise_hole (x : S34) : ∀ (k : Nat) (l : List S34) (D : DataW Nat) (i : Nat), i ≤ k → Hole x l D i →
    Hole x (rise x k l D i).1 (rise x k l D i).2.1 (rise x k l D i).2.2 ∧ (rise x k l D i).1.length = l.length ∧ ((rise x k l D i).1.set (rise x k l D i).2.2 x).Perm (l.set i x) ∧
      (0 < (rise x k l D i).2.2 → cmpI (gt (rise x k l D i).1 (((rise x k l D i).2.2 - 1) / 2)) x < 0)
  | 0, l, D, i, hik, h => ⟨h, rfl, .refl _, fun h0 => absurd h0 (by show ¬ 0 < i; omega)⟩
  | k + 1, l, D, i, hik, h => by
    rw [rise]
    by_cases hc : 0 < i ∧ cmpI x (gt l ((i - 1) / 2)) < 0
    · rw [if_pos hc]
      obtain ⟨u, hu⟩ : ∃ u, (i - 1) / 2 = u := ⟨_, rfl⟩
      rw [hu] at hc ⊢
      obtain ⟨h0, hc⟩ := hc
      have hul : u < l.length := by have := h.il; omega
      have hne : u ≠ i := by omega
      have H : Hole x (l.set i (gt l u)) (putP D (gt l u).f3 i) u := by
        refine ⟨by rw [List.length_set]; exact hul, fun c hc0 hcl hcu hpu => ?_, fun hu0 c hc0 hcl hpc => ?_, h.pl.step h.il hul hne⟩
        · rw [List.length_set] at hcl
          rw [gt_set l i _ _ h.il, gt_set l i _ c h.il]
          have e1 : i ≠ c := fun e => hpu (by rw [← e]; exact hu)
          rw [if_neg e1]
          by_cases e : i = (c - 1) / 2
          · rw [if_pos e, ← hu]
            exact h.skip h0 c hc0 hcl e.symm
          · rw [if_neg e]
            exact h.pair c hc0 hcl (fun e2 => e1 e2.symm) (fun e2 => e e2.symm)
        · rw [List.length_set] at hcl
          rw [gt_set l i _ _ h.il, gt_set l i _ c h.il, if_neg (by omega)]
          have hp := h.pair u hu0 hul hne (by omega)
          by_cases e : i = c
          · rw [if_pos e]
            exact hp
          · rw [if_neg e]
            have h2 := h.pair c hc0 hcl (fun e2 => e e2.symm) (by omega)
            rw [hpc] at h2
            exact cmp_trans hp h2
      obtain ⟨r1, r2, r3, r4⟩ := rise_hole x k _ _ u (by omega) H
      refine ⟨r1, by rw [r2, List.length_set], r3.trans (set_swap x h.il hul hne), r4⟩
    · rw [if_neg hc]
      refine ⟨h, rfl, .refl _, fun h0 => ?_⟩
      refine cmp_total (fun e => ?_) (fun h2 => hc ⟨h0, h2⟩)
      exact (h.pl.at_ ((i - 1) / 2) (by have := h.il; omega) (by show (i - 1) / 2 ≠ i; have h0' : 0 < i := h0; omega)).1 e.symm
theorem down_cases (l : List S34) (i : Nat) : down l i = 2 * i + 1 ∨ down l i = 2 * i + 2 := by unfold down; split <;> omega
theorem child_cases {c i : Nat} (h0 : 0 < c) (h : (c - 1) / 2 = i) : c = 2 * i + 1 ∨ c = 2 * i + 2 := by omega
theorem Hole.least {x : S34} {l : List S34} {D : DataW Nat} {i : Nat} (h : Hole x l D i) {c : Nat} (hc0 : 0 < c) (hcl : c < l.length) (hp : (c - 1) / 2 = i) : down l i < l.length ∧ (c = down l i ∨ cmpI (gt l (down l i)) (gt l c) < 0) := by
  unfold down
  by_cases hd : 2 * i + 2 < l.length ∧ cmpI (gt l (2 * i + 2)) (gt l (2 * i + 1)) < 0
  · rw [if_pos hd]
    refine ⟨hd.1, ?_⟩
    rcases child_cases hc0 hp with e | e
    · rw [e]
      exact .inr hd.2
    · exact .inl e
  · rw [if_neg hd]
    rcases child_cases hc0 hp with e | e
    · exact ⟨by omega, .inl e⟩
    · refine ⟨by omega, .inr ?_⟩
      rw [e]
      refine cmp_total (h.pl.ne (by omega) (by omega) (by omega) (by omega) (by omega)) (fun h2 => hd ⟨by omega, h2⟩)
theorem sink_hole (x : S34) : ∀ (k : Nat) (l : List S34) (D : DataW Nat) (i : Nat), l.length ≤ i + k → Hole x l D i → (0 < i → cmpI (gt l ((i - 1) / 2)) x < 0) →
    Hole x (sink x k l D i).1 (sink x k l D i).2.1 (sink x k l D i).2.2 ∧ (sink x k l D i).1.length = l.length ∧ ((sink x k l D i).1.set (sink x k l D i).2.2 x).Perm (l.set i x) ∧
      (0 < (sink x k l D i).2.2 → cmpI (gt (sink x k l D i).1 (((sink x k l D i).2.2 - 1) / 2)) x < 0) ∧
      ((sink x k l D i).1.length ≤ down (sink x k l D i).1 (sink x k l D i).2.2 ∨ cmpI x (gt (sink x k l D i).1 (down (sink x k l D i).1 (sink x k l D i).2.2)) < 0)
  | 0, l, D, i, hik, h, hlow => absurd h.il (by omega)
  | k + 1, l, D, i, hik, h, hlow => by
    rw [sink]
    by_cases hc : l.length ≤ down l i ∨ cmpI x (gt l (down l i)) < 0
    · rw [if_pos hc]
      exact ⟨h, rfl, .refl _, hlow, hc⟩
    · rw [if_neg hc]
      have hL := fun {c : Nat} (hc0 : 0 < c) (hcl : c < l.length) (hp : (c - 1) / 2 = i) => (h.least hc0 hcl hp).2
      have hdc := down_cases l i
      obtain ⟨u, hu⟩ : ∃ u, down l i = u := ⟨_, rfl⟩
      rw [hu] at hc hdc ⊢
      rw [hu] at hL
      have hul : u < l.length := by omega
      have hne : u ≠ i := by omega
      have hpu : (u - 1) / 2 = i := by omega
      have hux : cmpI (gt l u) x < 0 := by
        refine cmp_total (fun e => ?_) (fun h2 => hc (.inr h2))
        exact (h.pl.at_ u hul hne).1 e.symm
      have H : Hole x (l.set i (gt l u)) (putP D (gt l u).f3 i) u := by
        refine ⟨by rw [List.length_set]; exact hul, fun c hc0 hcl hcu hpu2 => ?_, fun hu0 c hc0 hcl hpc => ?_, h.pl.step h.il hul hne⟩
        · rw [List.length_set] at hcl
          rw [gt_set l i _ _ h.il, gt_set l i _ c h.il]
          by_cases e1 : i = c
          · rw [if_pos e1, if_neg (by omega), ← e1]
            exact h.skip (by omega) u (by omega) hul hpu
          · rw [if_neg e1]
            by_cases e : i = (c - 1) / 2
            · rw [if_pos e]
              rcases hL hc0 hcl e.symm with e3 | e3
              · exact absurd e3 hcu
              · exact e3
            · rw [if_neg e]
              exact h.pair c hc0 hcl (fun e2 => e1 e2.symm) (fun e2 => e e2.symm)
        · rw [List.length_set] at hcl
          rw [gt_set l i _ _ h.il, gt_set l i _ c h.il, if_pos hpu.symm, if_neg (by omega)]
          have h2 := h.pair c hc0 hcl (by omega) (by omega)
          rw [hpc] at h2
          exact h2
      obtain ⟨r1, r2, r3, r4, r5⟩ := sink_hole x k _ _ u (by rw [List.length_set]; omega) H (fun _ => by rw [gt_set l i _ _ h.il, if_pos hpu.symm]; exact hux)
      exact ⟨r1, by rw [r2, List.length_set], r3.trans (set_swap x h.il hul hne), r4, r5⟩
def HeapOK (l : List S34) : Prop := ∀ c, 0 < c → c < l.length → cmpI (gt l ((c - 1) / 2)) (gt l c) < 0
structure PlaceOK (D : DataW Nat) (l : List S34) : Prop where
  im : IsMap D
  at_ : ∀ j, j < l.length → At D (gt l j).f3 j
  no : ∀ t, (∀ j, j < l.length → (gt l j).f3 ≠ t) → hasT D t = false
theorem fill {x : S34} {l : List S34} {D : DataW Nat} {i : Nat} (h : Hole x l D i) (hlow : 0 < i → cmpI (gt l ((i - 1) / 2)) x < 0) (hup : l.length ≤ down l i ∨ cmpI x (gt l (down l i)) < 0) :
    HeapOK (l.set i x) ∧ PlaceOK (putP D x.f3 i) (l.set i x) := by
  refine ⟨fun c hc0 hcl => ?_, h.pl.im.put _ _, fun j hj => ?_, fun t hall => ?_⟩
  · rw [List.length_set] at hcl
    rw [gt_set l i _ _ h.il, gt_set l i _ c h.il]
    by_cases e1 : i = c
    · rw [if_pos e1, if_neg (by omega), ← e1]
      exact hlow (by omega)
    · rw [if_neg e1]
      by_cases e : i = (c - 1) / 2
      · rw [if_pos e]
        obtain ⟨h1, h2⟩ := h.least hc0 hcl e.symm
        have h3 : cmpI x (gt l (down l i)) < 0 := by
          rcases hup with h4 | h4
          · omega
          · exact h4
        rcases h2 with h5 | h5
        · rw [h5]
          exact h3
        · exact cmp_trans h3 h5
      · rw [if_neg e]
        exact h.pair c hc0 hcl (fun e2 => e1 e2.symm) (fun e2 => e e2.symm)
  · rw [List.length_set] at hj
    rw [gt_set l i _ j h.il]
    by_cases e : i = j
    · rw [if_pos e, e]
      exact at_put_same h.pl.im _ _
    · rw [if_neg e]
      have h2 := h.pl.at_ j hj (fun e2 => e e2.symm)
      exact at_put_ne h2.1 _ h2.2
  · have h1 := hall i (by rw [List.length_set]; exact h.il)
    rw [gt_set l i _ i h.il, if_pos rfl] at h1
    rw [has_put_ne (fun e => h1 e.symm)]
    refine h.pl.no t (fun e => h1 e.symm) (fun j hj hji => ?_)
    have h2 := hall j (by rw [List.length_set]; exact hj)
    rw [gt_set l i _ j h.il, if_neg (fun e2 => hji e2.symm)] at h2
    exact h2
theorem set_gt (l : List S34) (i : Nat) (hi : i < l.length) : l.set i (gt l i) = l := by rw [gt_at l i hi]; exact List.set_getElem_self hi
theorem settle_ok {l : List S34} {D : DataW Nat} {i : Nat} (h : Hole (gt l i) l D i) : HeapOK (settleE l D i).1 ∧ PlaceOK (settleE l D i).2 (settleE l D i).1 ∧ (settleE l D i).1.Perm l := by
  obtain ⟨r1, r2, r3, r4⟩ := rise_hole (gt l i) i l D i (Nat.le_refl _) h
  rw [set_gt l i h.il] at r3
  obtain ⟨s1, s2, s3, s4, s5⟩ := sink_hole (gt l i) l.length _ _ _ (by rw [r2]; omega) r1 r4
  obtain ⟨f1, f2⟩ := fill s1 s4 s5
  unfold settleE
  exact ⟨f1, f2, s3.trans r3⟩

end Go.Proofs.Ytdlbnkiolpmnbaa.Ag
