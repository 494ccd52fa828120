/- The walk of LedgerActs; it says its own conditions. -/
import Derived.Test.YtoddgpaopejeoaaBLed
import Derived.Test.YtoddgpaopejeoaaMLedx0
import Derived.Test.YtoddgpaopejeoaaMLedx1
import Derived.Test.YtoddgpaopejeoaaMLedx2
import Derived.Test.YtoddgpaopejeoaaMLedx3
import Derived.Test.YtoddgpaopejeoaaMLedx4
import Derived.WalkKit
import Derived.Deep.RegionLaw
import Derived.Deep.RegionWith
import Derived.Deep.RegionHeld3
import Derived.BigRegion
import Derived.BigQuiet
import Derived.StillTailTactics
import Derived.Test.YtoddgpaopejeoaaLeAt
import Derived.Test.YtoddgpaopejeoaaLeRead
import Derived.Test.YtoddgpaopejeoaaLeCor
import Derived.Test.YtoddgpaopejeoaaLeRate
import Derived.Test.YtoddgpaopejeoaaLeRef
import Derived.Test.YtoddgpaopejeoaaLeRCor
import Derived.Test.YtoddgpaopejeoaaLeDoes
import Derived.Test.YtoddgpaopejeoaaLeCopy
import Derived.Test.YtoddgpaopejeoaaLeLaw1
namespace Go.Proofs.Ytoddgpaopejeoaa.Le
open Go.RowKit Go.Proofs.Ytoddgpaopejeoaa.MLed Go.Proofs.Ytoddgpaopejeoaa.Pure Go.Proofs.YtoddgpaopejeoaaW.PrintWords Go.Proofs.YtoddgpaopejeoaaW.PrintLast Go.Proofs.YtoddgpaopejeoaaW.PrintMore
attribute [local go_sem] max2_int min2_int max_two min_two max_three min_three max_four min_four
set_option linter.unusedVariables false
set_option linter.unusedSimpArgs false
theorem theirs_l0 (xs : List S87) (hl : xs.length ≤ 1000) : ∀ (d k : Nat) (i : Nat), i + d = xs.length → d < k → analemmalaw07_theirs.l0 k xs ((xs.take i).map to88) i = some (xs.map to88)
  | 0, k, i, hi, hk => by
    obtain ⟨k, rfl⟩ : ∃ m, k = m + 1 := ⟨k - 1, by omega⟩
    simp only [analemmalaw07_theirs.l0]
    rw [if_neg (by omega), List.take_of_length_le (by omega)]
  | d + 1, k, i, hi, hk => by
    obtain ⟨k, rfl⟩ : ∃ m, k = m + 1 := ⟨k - 1, by omega⟩
    simp only [analemmalaw07_theirs.l0]
    rw [if_pos (by omega), if_pos (by omega), if_pos (by rw [List.length_map, List.length_take]; omega)]
    have hx : rd_T87 xs i = xs[i]'(by omega) := by
      unfold rd_T87
      rw [List.getD_eq_getElem?_getD, Int.toNat_natCast, List.getElem?_eq_getElem (by omega)]
      rfl
    have h := theirs_l0 xs hl d k (i + 1) (by omega) (by omega)
    have hw : wrap64 ((i : Int) + 1) = ((i + 1 : Nat) : Int) := by unfold wrap64; omega
    rw [hw, hx, ← h]
    congr 1
    rw [List.take_add_one, List.getElem?_eq_getElem (by omega), List.map_append]
    rfl
theorem theirs_eq (xs : List S87) (hl : xs.length ≤ 1000) : analemmalaw07_theirs.f 1001 xs = some (xs.map to88) := theirs_l0 xs hl xs.length 1001 0 (by omega) (by omega)
theorem same_l0 (xs : List S88) (hl : xs.length ≤ 1000) : ∀ (d k : Nat) (i : Nat), i + d = xs.length → d < k → analemmaref07_Same.l0 k xs xs i = some true
  | 0, k, i, hi, hk => by
    obtain ⟨k, rfl⟩ : ∃ m, k = m + 1 := ⟨k - 1, by omega⟩
    simp only [analemmaref07_Same.l0]
    rw [if_neg (by omega)]
  | d + 1, k, i, hi, hk => by
    obtain ⟨k, rfl⟩ : ∃ m, k = m + 1 := ⟨k - 1, by omega⟩
    simp only [analemmaref07_Same.l0]
    rw [if_pos (by omega), if_pos (by omega), if_pos (by omega), if_neg (by simp)]
    have hw : wrap64 ((i : Int) + 1) = ((i + 1 : Nat) : Int) := by unfold wrap64; omega
    rw [hw]
    exact same_l0 xs hl d k (i + 1) (by omega) (by omega)
theorem same_eq (xs : List S88) (hl : xs.length ≤ 1000) : analemmaref07_Same.f 1001 xs xs = some true := by
  unfold analemmaref07_Same.f
  rw [if_pos rfl]
  exact same_l0 xs hl xs.length 1001 0 (by omega) (by omega)

theorem same_calls' (ys : List S88) (n : Nat) (hn : ys.length = n) (A2 A3 : Option Addr) (c2 c3 : Nat) (W : World) (h2 : Kd.C k88 W A2 ys.length ys) (l2 : ys.length ≤ c2) (h3 : Kd.C k88 W A3 ys.length ys) (l3 : ys.length ≤ c3) (hl : ys.length ≤ 1000) :
    Calls Try.prog 24 #[.slice A2 n c2, .slice A3 n c3] W fun e w' => e = .returned (.bool true) ∧ Drawn0 W w' := by
  subst hn
  exact analemmaref07_Same.calls 1001 A2 c2 ys A3 c3 ys true W h2 l2 h3 l3 (same_eq ys hl)
theorem pspeed {w : World} {g base : Nat} {s : LSt} (h : PC w g base s) : Calls Try.prog 22 #[.pointer (some ⟨g, 0, none⟩)] w fun e w' => e = .returned (.int .i64 s.rate) ∧ Below w.heap.size w w' := by
  obtain ⟨v, h1, _⟩ := h
  exact speed_calls g _ _ _ v w h1
theorem ptotal {w : World} {g base : Nat} {s : LSt} (h : PC w g base s) (hG : s.good) (raw : Int) (hw : Bd raw) : Calls Try.prog 17 #[.pointer (some ⟨g, 0, none⟩), .int .i64 raw] w fun e w' => e = .returned (.tuple #[.int .i64 (totE s.raw s.sum s.rate raw), .int .i64 (err s.raw raw)]) ∧ Below w.heap.size w w' := by
  obtain ⟨v, h1, _⟩ := h
  exact total_calls g _ _ _ raw v w h1 hG hw
theorem rtotal {w : World} {g base : Nat} {s : LSt} (h : RC w g base s) (hG : s.good) (raw : Int) (hw : Bd raw) : Calls Try.prog 23 #[.pointer (some ⟨g, 0, none⟩), .int .i64 raw] w fun e w' => e = .returned (.tuple #[.int .i64 (totE s.raw s.sum s.rate raw), .int .i64 (err s.raw raw)]) ∧ Below w.heap.size w w' := by
  obtain ⟨v, h1, _⟩ := h
  exact rtotal_calls g _ _ _ raw v w h1 hG hw
theorem RC.speed {w : World} {g base : Nat} {s : LSt} (h : RC w g base s) : w.cell? ⟨g, 2, none⟩ = some (.int .i64 s.rate) := by
  obtain ⟨v, h1, _⟩ := h
  exact (blk_cell h1 2).trans rfl
theorem RC.last {w : World} {g base : Nat} {s : LSt} (h : RC w g base s) : w.cell? ⟨g, 0, none⟩ = some (.int .i64 s.raw) := by
  obtain ⟨v, h1, _⟩ := h
  exact (blk_cell h1 0).trans rfl
theorem RC.row {w : World} {g base : Nat} {s : LSt} (h : RC w g base s) : ∃ A c, (∀ w', Below w.heap.size w w' → w'.cell? ⟨g, 3, none⟩ = some (.slice A s.xs.length c) ∧ Kd.C k88 w' A (s.xs.map to88).length (s.xs.map to88)) ∧ (s.xs.map to88).length ≤ c := by
  obtain ⟨v, h1, h2⟩ := h
  obtain ⟨A, c, hv, hle, hC⟩ := Kd.R_reads h2
  refine ⟨A, c, fun w' hb => ⟨?_, Kd.C_below hC hb⟩, hle⟩
  refine (blk_cell (blk_below h1 hb) 3).trans ?_
  rw [hv, List.length_map]
  rfl

set_option maxHeartbeats 4000000 in
theorem acts_walk (raw : Int) (A : Option Addr) (c : Nat) (l : List S30) (at_ : Int) (w : World) (hr : Kd.C k30 w A l.length l) (hc : l.length ≤ c) (hw : Bd raw) (ha : Bd at_) (hl : ∀ x ∈ l, Bd x.f0 ∧ Bd x.f1 ∧ Bd x.f2) :
    Calls Try.prog 6 #[.int .i64 raw, .slice A l.length c, .int .i64 at_] w fun e w' => e = .returned (.bool true) ∧ Below w.heap.size w w' := by
  have HB := Aside0.mk (Below.refl w.heap.size w)
  by_cases h200 : 200 < l.length
  · have d0 : ((200 : Int) < (l.length : Int)) = True := eq_true (by omega)
    clear hr hc hw ha hl h200
    go_enter Try.func6, Try.ntmps6
    go_wp2_with (first | (go_at_call 12; (with_reducible refine (shown_calls _).mono ?_); rintro e w1 ⟨rfl, b1⟩; have n0 := Aside0.mk (below_step HB.out b1); clear HB b1; have HB := n0; clear n0))
    go_ret
    exact ⟨rfl, HB.out⟩
  have d0 : ((200 : Int) < (l.length : Int)) = False := eq_false (by omega)
  have LL := Aside0.mk h200
  have HR0 := Aside0.mk hr
  have HW := Aside0.mk hw
  have HAB := Aside0.mk ha
  have HLB := Aside0.mk hl
  clear hr hc hw ha hl h200
  go_enter Try.func6, Try.ntmps6
  go_wp2_with (first
    | (go_at_call 12; (with_reducible refine (shown_calls _).mono ?_); rintro e w1 ⟨rfl, b1⟩; have n0 := Aside0.mk (below_step HB.out b1); clear HB b1; have HB := n0; clear n0)
    | (go_at_call 13; (with_reducible refine (new_calls raw _).mono ?_); rintro e w1 ⟨g, rfl, hg, hc, b1⟩; have HP := Aside0.mk (pc0 (base := w.heap.size) hc); have HG := Aside0.mk (Nat.le_trans HB.out.size hg); have n0 := Aside0.mk (below_step HB.out b1); clear HB hg hc b1; have HB := n0; clear n0)
    | (go_at_call 14; (with_reducible refine (rnew_calls raw _ HW.out).mono ?_); rintro e w1 ⟨g2, rfl, hg, hc, b1⟩; have HQ := Aside0.mk (rc0 (base := w.heap.size) hc); have HG2 := Aside0.mk (Nat.le_trans HB.out.size hg); have n0 := Aside0.mk (below_step HB.out b1); have n1 := Aside0.mk (HP.out.below b1); clear HB HP hg hc b1; have HB := n0; have HP := n1; clear n0 n1))
  go_loopg [9] l.length (fun kq v9 w' => ∃ (i : Nat) (s : LSt), v9 = .int .i64 (i : Int) ∧ Aside0 (i + kq = l.length) ∧ Aside0 (s.good ∧ s.xs.length ≤ 1000) ∧ Aside0 (PC w' g w.heap.size s) ∧ Aside0 (RC w' g2 w.heap.size s) ∧ Aside0 (Below w.heap.size w w'))
  case atStart => exact ⟨0, _, rfl, ⟨by omega⟩, ⟨good0 raw, Nat.zero_le _⟩, HP, HQ, HB⟩
  case round =>
    clear HP HQ HB
    obtain ⟨i, s, rfl, HI, HS, HP, HQ, HB⟩ := hrel
    by_cases hi : i < l.length
    · have p145 : (0 : Int) ≤ (i : Int) := Int.natCast_nonneg i
      have q145 : (i : Int) < (l.length : Int) := by omega
      have HLI := Aside0.mk (HLB.out (rd_T30 l i) (by unfold rd_T30; rw [List.getD_eq_getElem?_getD, Int.toNat_natCast, List.getElem?_eq_getElem hi]; exact List.getElem_mem hi))
      obtain ⟨ad, e, hx0, hx1, hx2, hx3⟩ := at_T30 HR0.out (i : Int) p145 q145
      cases e
      replace hx0 := (HB.out.cell (World.block_lt_of_cell? w _ hx0)).trans hx0
      replace hx1 := (HB.out.cell (World.block_lt_of_cell? w _ hx1)).trans hx1
      replace hx2 := (HB.out.cell (World.block_lt_of_cell? w _ hx2)).trans hx2
      replace hx3 := (HB.out.cell (World.block_lt_of_cell? w _ hx3)).trans hx3
      simp only [Int.toNat_natCast] at hx0 hx1 hx2 hx3
      replace p145 := eq_true p145
      replace q145 := eq_true q145
      obtain ⟨s2, hs2⟩ : ∃ s2, s.act (rd_T30 l i).f0 (rd_T30 l i).f1 (rd_T30 l i).f2 (rd_T30 l i).f3 = s2 := ⟨_, rfl⟩
      have HS2 := Aside0.mk (show s2.good ∧ s2.xs.length ≤ 1000 from hs2 ▸ ⟨LSt.act_good HS.out.1 _ _ _ _, LSt.act_len HS.out.2 _ _ _ _⟩)
      have HD := Aside0.mk hs2
      clear hs2
      have HT1 := Aside0.mk (fun W (h : PC W g w.heap.size s2) => ptotal h HS2.out.1 at_ HAB.out)
      have HT2 := Aside0.mk (fun W (h : RC W g2 w.heap.size s2) => rtotal h HS2.out.1 at_ HAB.out)
      obtain ⟨x, hx⟩ : ∃ x, totE s2.raw s2.sum s2.rate at_ = x := ⟨_, rfl⟩
      obtain ⟨ex, hex⟩ : ∃ ex, err s2.raw at_ = ex := ⟨_, rfl⟩
      rw [hx, hex] at HT1 HT2
      clear hx hex
      go_wp2_with (fail)
      have n0 := Aside0.mk (HP.out.below (below_drew (Below.refl _ _)))
      have n1 := Aside0.mk (HQ.out.below (below_drew (Below.refl _ _)))
      have n2 := Aside0.mk (below_step HB.out (below_drew (Below.refl _ _)))
      clear HP HQ HB
      have HP := n0
      have HQ := n1
      have HB := n2
      clear n0 n1 n2
      go_region_with (first
        | (go_at_call 15; (with_reducible refine (does_calls g g2 w.heap.size s _ _ _ _ w _ HP.out HQ.out HS.out.1 HB.out HB.out.size HG.out HG2.out HLI.out.2.1 HLI.out.2.2).mono ?_); rintro e w1 ⟨rfl, h1, h2, h3, h4⟩; rw [HD.out] at h1 h2; clear HP HQ HB hx0 hx1 hx2 hx3; have HP := Aside0.mk h1; have HQ := Aside0.mk h2; have HB := Aside0.mk h3; have ks := h2.speed; clear h1 h2 h3 h4)
        | (go_at_call 22; (with_reducible refine (pspeed HP.out).mono ?_); rintro e w2 ⟨rfl, b1⟩; have n0 := Aside0.mk (below_step HB.out b1); have n1 := Aside0.mk (HP.out.below b1); have n2 := Aside0.mk (HQ.out.below b1); clear HB HP HQ b1; have HB := n0; have HP := n1; have HQ := n2; clear n0 n1 n2; have ks2 := HQ.out.speed))
      all_goals
        go_wp2_with (first
          | (go_at_call 17; (with_reducible refine (HT1.out _ HP.out).mono ?_); rintro e w1 ⟨rfl, b1⟩; have n0 := Aside0.mk (below_step HB.out b1); have n1 := Aside0.mk (HP.out.below b1); have n2 := Aside0.mk (HQ.out.below b1); clear HB HP HQ b1; have HB := n0; have HP := n1; have HQ := n2; clear n0 n1 n2)
          | (go_at_call 23; (with_reducible refine (HT2.out _ HQ.out).mono ?_); rintro e w1 ⟨rfl, b1⟩; have n0 := Aside0.mk (below_step HB.out b1); have n1 := Aside0.mk (HP.out.below b1); have n2 := Aside0.mk (HQ.out.below b1); clear HB HP HQ b1; have HB := n0; have HP := n1; have HQ := n2; clear n0 n1 n2))
        go_roundg (gk - 1)
        case measure => have := HI.out; omega
        case rel => exact ⟨i + 1, s2, by have := LL.out; simp [wrap64]; omega, ⟨by have := HI.out; omega⟩, HS2, HP, HQ, HB⟩
    · have q145 : ((i : Int) < (l.length : Int)) = False := eq_false (by omega)
      go_wp2_with (fail)
      have n0 := Aside0.mk (HP.out.below (below_drew (Below.refl _ _)))
      have n1 := Aside0.mk (HQ.out.below (below_drew (Below.refl _ _)))
      have n2 := Aside0.mk (below_step HB.out (below_drew (Below.refl _ _)))
      clear HP HQ HB
      have HP := n0
      have HQ := n1
      have HB := n2
      clear n0 n1 n2
      obtain ⟨A3, c3, hrow, hle⟩ := HQ.out.row
      have HRW := Aside0.mk hrow
      have HLE := Aside0.mk hle
      have k3 := (hrow _ (Below.refl _ _)).1
      have HB0 := Aside0.mk (Below.refl wr.drew.heap.size wr.drew)
      have HL := Aside0.mk (show (s.xs.map to88).length = s.xs.length from List.length_map _)
      clear hrow hle
      go_region_with (first
        | (go_at_call 20; (with_reducible refine (entries_calls g w.heap.size s _ (HP.out.below HB0.out) HS.out.2).mono ?_); rintro e w1 ⟨v1, rfl, h1, b1⟩; have H1 := Aside0.mk h1; obtain ⟨A1, c1, hv1, hl1, hC1⟩ := Kd.R_reads h1; subst hv1; have HC1 := Aside0.mk hC1; have HL1 := Aside0.mk hl1; have n0 := Aside0.mk (below_step HB0.out b1); clear HB0 h1 b1 hC1 hl1; have HB0 := n0; clear n0; have k4 := (HRW.out _ HB0.out).1)
        | (go_at_call 25; (with_reducible refine (analemmalaw07_theirs.calls 1001 A1 c1 s.xs _ _ HC1.out HL1.out (theirs_eq s.xs HS.out.2)).mono ?_); rintro e w2 ⟨v2, rfl, h2, b2⟩; obtain ⟨A2, c2, hv2, hl2, hC2⟩ := Kd.R_reads h2; subst hv2; have HC2 := Aside0.mk hC2; have HL2 := Aside0.mk hl2; have n0 := Aside0.mk (below_step HB0.out b2); clear HB0 h2 b2 hC2 hl2; have HB0 := n0; clear n0; have k5 := (HRW.out _ HB0.out).1)
        | (go_at_call 24; (with_reducible refine (same_calls' (s.xs.map to88) s.xs.length HL.out A2 A3 c2 c3 _ HC2.out HL2.out ?_ HLE.out ?_).mono ?_); (exact (HRW.out _ HB0.out).2); (rw [HL.out]; exact HS.out.2); rintro e w3 ⟨rfl, b3⟩; have n0 := Aside0.mk (below_step HB0.out b3.below); clear HB0 b3; have HB0 := n0; clear n0))
      all_goals
        go_wp2_with (fail)
        go_ret
        exact ⟨rfl, below_step HB.out HB0.out⟩

end Go.Proofs.Ytoddgpaopejeoaa.Le
