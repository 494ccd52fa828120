/- The walk of LedgerOld; it says its own conditions. -/
import Derived.Test.YtoddgpaopejeoaaBLed
import Derived.Test.YtoddgpaopejeoaaMLedx0
import Derived.Test.YtoddgpaopejeoaaMLedx1
import Derived.Test.YtoddgpaopejeoaaMLedx2
import Derived.Test.YtoddgpaopejeoaaMLedx3
import Derived.Test.YtoddgpaopejeoaaMLedx4
import Derived.WalkKit
import Derived.Deep.RegionLaw
import Derived.Deep.RegionWith
import Derived.Deep.RegionHeld3
import Derived.BigRegion
import Derived.BigQuiet
import Derived.StillTailTactics
import Derived.Test.YtoddgpaopejeoaaLeAt
import Derived.Test.YtoddgpaopejeoaaLeRead
import Derived.Test.YtoddgpaopejeoaaLeCor
import Derived.Test.YtoddgpaopejeoaaLeRate
import Derived.Test.YtoddgpaopejeoaaLeRef
import Derived.Test.YtoddgpaopejeoaaLeRCor
import Derived.Test.YtoddgpaopejeoaaLeDoes
import Derived.Test.YtoddgpaopejeoaaLeCopy
import Derived.Test.YtoddgpaopejeoaaLeLaw1
import Derived.Test.YtoddgpaopejeoaaLeLaw2
namespace Go.Proofs.Ytoddgpaopejeoaa.Le
open Go.RowKit Go.Proofs.Ytoddgpaopejeoaa.MLed Go.Proofs.Ytoddgpaopejeoaa.Pure Go.Proofs.YtoddgpaopejeoaaW.PrintWords Go.Proofs.YtoddgpaopejeoaaW.PrintLast Go.Proofs.YtoddgpaopejeoaaW.PrintMore
attribute [local go_sem] max2_int min2_int max_two min_two max_three min_three max_four min_four
set_option linter.unusedVariables false
set_option linter.unusedSimpArgs false
theorem refuse_c {w0 w : World} {g base : Nat} {s : LSt} (hp : PC w g base s) (hG : s.good) (hB : Below base w0 w) (hS : base ≤ w.heap.size) (hg : base ≤ g) (raw by_ : Int) (step : Bool) (hw : Bd raw) (hb : Bd by_) (want : Int) (h : corErr s.raw raw by_ s.xs.length = want) (hne : want ≠ 0) :
    Calls Try.prog 18 #[.pointer (some ⟨g, 0, none⟩), .int .i64 raw, .int .i64 by_, .bool step] w fun e w' => e = .returned (.int .i64 want) ∧ PC w' g base s ∧ Below base w0 w' ∧ base ≤ w'.heap.size := by
  have h1 := pcorrect g base s raw by_ step w0 w hp hG hB hS hg hw hb
  unfold LSt.cor at h1
  rw [if_neg (by rw [h]; exact hne), h] at h1
  exact h1.mono fun e w' h => ⟨h.1, h.2.1, h.2.2.1, Nat.le_trans hS h.2.2.2.1⟩
theorem refuse_r {w0 w : World} {g base : Nat} {s : LSt} (hp : PC w g base s) (hG : s.good) (hB : Below base w0 w) (hS : base ≤ w.heap.size) (hg : base ≤ g) (raw by_ : Int) (hw : Bd raw) (want : Int) (h : rateErr s.raw raw by_ = want) (hne : want ≠ 0) :
    Calls Try.prog 21 #[.pointer (some ⟨g, 0, none⟩), .int .i64 raw, .int .i64 by_] w fun e w' => e = .returned (.int .i64 want) ∧ PC w' g base s ∧ Below base w0 w' ∧ base ≤ w'.heap.size := by
  have h1 := prate g base s raw by_ w0 w hp hG hB hS hg hw
  unfold LSt.rt at h1
  rw [if_neg (by rw [h]; exact hne), h] at h1
  exact h1.mono fun e w' h => ⟨h.1, h.2.1, h.2.2.1, Nat.le_trans hS h.2.2.2.1⟩

set_option maxHeartbeats 4000000 in
theorem old_walk (A : Option Addr) (c : Nat) (l : List S30) (at_ back by_ : Int) (w : World) (hr : Kd.C k30 w A l.length l) (hc : l.length ≤ c) (ha : 0 ≤ at_ ∧ at_ ≤ 4294967295) (hb : 0 ≤ back ∧ back ≤ 65535) (hl : ∀ x ∈ l, Bd x.f0 ∧ Bd x.f1 ∧ Bd x.f2) :
    Calls Try.prog 5 #[.slice A l.length c, .int .u32 at_, .int .u16 back, .int .i64 by_] w fun e w' => e = .returned (.bool true) ∧ Below w.heap.size w w' := by
  have HB := Aside0.mk (Below.refl w.heap.size w)
  by_cases h200 : 200 < l.length
  · have d0 : ((200 : Int) < (l.length : Int)) = True := eq_true (by omega)
    clear hr hc ha hb hl h200
    go_enter Try.func5, Try.ntmps5
    go_wp2_with (first | (go_at_call 12; (with_reducible refine (shown_calls _).mono ?_); rintro e w1 ⟨rfl, b1⟩; have n0 := Aside0.mk (below_step HB.out b1); clear HB b1; have HB := n0; clear n0))
    go_ret
    exact ⟨rfl, HB.out⟩
  have d0 : ((200 : Int) < (l.length : Int)) = False := eq_false (by omega)
  have LL := Aside0.mk h200
  have HR0 := Aside0.mk hr
  have HAB := Aside0.mk (And.intro ha hb)
  have HLB := Aside0.mk hl
  clear hr hc ha hb hl h200
  go_enter Try.func5, Try.ntmps5
  go_wp2_with (first
    | (go_at_call 12; (with_reducible refine (shown_calls _).mono ?_); rintro e w1 ⟨rfl, b1⟩; have n0 := Aside0.mk (below_step HB.out b1); clear HB b1; have HB := n0; clear n0)
    | (go_at_call 13; (with_reducible refine (new_calls 0 _).mono ?_); rintro e w1 ⟨g, rfl, hg, hc, b1⟩; have HP := Aside0.mk (pc0 (base := w.heap.size) hc); have HG := Aside0.mk (Nat.le_trans HB.out.size hg); have n0 := Aside0.mk (below_step HB.out b1); clear HB hg hc b1; have HB := n0; clear n0)
    | (go_at_call 14; (with_reducible refine (rnew_calls 0 _ (by decide)).mono ?_); rintro e w1 ⟨g2, rfl, hg, hc, b1⟩; have HQ := Aside0.mk (rc0 (base := w.heap.size) hc); have HG2 := Aside0.mk (Nat.le_trans HB.out.size hg); have n0 := Aside0.mk (below_step HB.out b1); have n1 := Aside0.mk (HP.out.below b1); clear HB HP hg hc b1; have HB := n0; have HP := n1; clear n0 n1))
  go_loopg [11] l.length (fun kq v11 w' => ∃ (i : Nat) (s : LSt), v11 = .int .i64 (i : Int) ∧ Aside0 (i + kq = l.length) ∧ Aside0 (s.good ∧ s.xs.length ≤ 1000) ∧ Aside0 (PC w' g w.heap.size s) ∧ Aside0 (RC w' g2 w.heap.size s) ∧ Aside0 (Below w.heap.size w w'))
  case atStart => exact ⟨0, _, rfl, ⟨by omega⟩, ⟨good0 0, Nat.zero_le _⟩, HP, HQ, HB⟩
  case round =>
    clear HP HQ HB
    obtain ⟨i, s, rfl, HI, HS, HP, HQ, HB⟩ := hrel
    by_cases hi : i < l.length
    · have p145 : (0 : Int) ≤ (i : Int) := Int.natCast_nonneg i
      have q145 : (i : Int) < (l.length : Int) := by omega
      have HLI := Aside0.mk (HLB.out (rd_T30 l i) (by unfold rd_T30; rw [List.getD_eq_getElem?_getD, Int.toNat_natCast, List.getElem?_eq_getElem hi]; exact List.getElem_mem hi))
      obtain ⟨ad, e, hx0, hx1, hx2, hx3⟩ := at_T30 HR0.out (i : Int) p145 q145
      cases e
      replace hx0 := (HB.out.cell (World.block_lt_of_cell? w _ hx0)).trans hx0
      replace hx1 := (HB.out.cell (World.block_lt_of_cell? w _ hx1)).trans hx1
      replace hx2 := (HB.out.cell (World.block_lt_of_cell? w _ hx2)).trans hx2
      replace hx3 := (HB.out.cell (World.block_lt_of_cell? w _ hx3)).trans hx3
      simp only [Int.toNat_natCast] at hx0 hx1 hx2 hx3
      replace p145 := eq_true p145
      replace q145 := eq_true q145
      go_wp2_with (first
        | (go_at_call 15; (with_reducible refine (does_calls g g2 w.heap.size s _ _ _ _ w _ HP.out HQ.out HS.out.1 HB.out HB.out.size HG.out HG2.out HLI.out.2.1 HLI.out.2.2).mono ?_); rintro e w1 ⟨rfl, h1, h2, h3, h4⟩; clear HP HQ HB hx0 hx1 hx2 hx3; have HP := Aside0.mk h1; have HQ := Aside0.mk h2; have HB := Aside0.mk h3; clear h1 h2 h3 h4))
      go_roundg (gk - 1)
      case measure => have := HI.out; omega
      case rel => exact ⟨i + 1, _, by have := LL.out; simp [wrap64]; omega, ⟨by have := HI.out; omega⟩, ⟨LSt.act_good HS.out.1 _ _ _ _, LSt.act_len HS.out.2 _ _ _ _⟩, HP, HQ, HB⟩
    · have q145 : ((i : Int) < (l.length : Int)) = False := eq_false (by omega)
      have ks := HQ.out.last
      obtain ⟨gone, hgo⟩ : ∃ gone, s.raw - 1 - back = gone := ⟨_, rfl⟩
      have hg1 := HS.out.1.1
      have hw1 : wrap64 (s.raw - 1) = s.raw - 1 := by unfold wrap64; omega
      have hw2 : wrap64 back = back := by have := HAB.out.2; unfold wrap64; omega
      have hw3 : wrap64 (s.raw - 1 - back) = gone := by have := HAB.out.2; unfold wrap64; omega
      have hw4 : wrap64 at_ = at_ := by have := HAB.out.1; unfold wrap64; omega
      have hw5 : wrap64 (-1 - at_) = -1 - at_ := by have := HAB.out.1; unfold wrap64; omega
      obtain ⟨want, hwa⟩ : ∃ want, err s.raw gone = want := ⟨_, rfl⟩
      have hcs : (gone < 0 ∧ want = 1) ∨ (¬ gone < 0 ∧ want = 5) := by
        have := HAB.out.2
        rcases err_cases s.raw gone with q | q | q | q <;> omega
      have hne : want ≠ 0 := by omega
      have HC1 := Aside0.mk (fun W (h : PC W g w.heap.size s) (hb : Below w.heap.size w W) => refuse_c h HS.out.1 hb hb.size HG.out gone 5 true (by have := HAB.out.2; omega) (by decide) want (by unfold corErr; rw [if_pos (by rw [hwa]; exact hne)]; exact hwa) hne)
      have HC2 := Aside0.mk (fun W (h : PC W g w.heap.size s) (hb : Below w.heap.size w W) => refuse_r h HS.out.1 hb hb.size HG.out gone 5 (by have := HAB.out.2; omega) want (by unfold rateErr; rw [if_pos (by rw [hwa]; exact hne)]; exact hwa) hne)
      have he3 : err s.raw 4611686018427387905 = 1 := by rcases err_cases s.raw 4611686018427387905 with q | q | q | q <;> omega
      have HC3 := Aside0.mk (fun W (h : PC W g w.heap.size s) (hb : Below w.heap.size w W) => refuse_c h HS.out.1 hb hb.size HG.out 4611686018427387905 5 true (by decide) (by decide) 1 (by unfold corErr; rw [if_pos (by rw [he3]; decide)]; exact he3) (by decide))
      have HC4 := Aside0.mk (fun W (h : PC W g w.heap.size s) => pread h HS.out.1 2305843009213693952 (by decide))
      have HC5 := Aside0.mk (fun W (h : PC W g w.heap.size s) => pread h HS.out.1 (-1 - at_) (by have := HAB.out.1; omega))
      have he5 : err s.raw (-1 - at_) = 1 := by have := HAB.out.1; rcases err_cases s.raw (-1 - at_) with q | q | q | q <;> omega
      rw [he5] at HC5
      obtain ⟨x, hx⟩ : ∃ x, rdE s.raw s.sum s.rate 2305843009213693952 = x := ⟨_, rfl⟩
      obtain ⟨ex, hex⟩ : ∃ ex, err s.raw 2305843009213693952 = ex := ⟨_, rfl⟩
      obtain ⟨y, hy⟩ : ∃ y, rdE s.raw s.sum s.rate (-1 - at_) = y := ⟨_, rfl⟩
      rw [hx, hex] at HC4
      rw [hy] at HC5
      have HE := Aside0.mk (fun W (h : PC W g w.heap.size s) => entries_calls g w.heap.size s W h HS.out.2)
      obtain ⟨n, hn⟩ : ∃ n, s.xs.length = n := ⟨_, rfl⟩
      have HN := Aside0.mk hn
      clear hx hex hy hwa hne he3 he5 hgo hg1 hn
      rcases hcs with ⟨c1, rfl⟩ | ⟨c1, rfl⟩
      all_goals
        first | (have c2 : (gone < 0) = True := eq_true c1) | (have c2 : (gone < 0) = False := eq_false c1)
        clear c1
        go_wp2_with (first
          | (go_at_call 16; (with_reducible refine (HC4.out _ HP.out).mono ?_); rintro e w1 ⟨rfl, b1⟩; have n0 := Aside0.mk (below_step HB.out b1); have n1 := Aside0.mk (HP.out.below b1); (try (have n2 := Aside0.mk (HQ.out.below b1); clear HQ ks; have HQ := n2; have ks := HQ.out.last; clear n2)); clear HB HP b1; have HB := n0; have HP := n1; clear n0 n1)
          | (go_at_call 16; (with_reducible refine (HC5.out _ HP.out).mono ?_); rintro e w1 ⟨rfl, b1⟩; have n0 := Aside0.mk (below_step HB.out b1); have n1 := Aside0.mk (HP.out.below b1); clear HB HP b1; have HB := n0; have HP := n1; clear n0 n1)
          | (go_at_call 20; (with_reducible refine (HE.out _ HP.out).mono ?_); rintro e w1 ⟨v1, rfl, h1, b1⟩; obtain ⟨A1, c3, hv1, _, _⟩ := Kd.R_reads h1; rw [HN.out] at hv1; subst hv1; have n0 := Aside0.mk (below_step HB.out b1); have n1 := Aside0.mk (HP.out.below b1); (try (have n2 := Aside0.mk (HQ.out.below b1); clear HQ ks; have HQ := n2; have ks := HQ.out.last; clear n2)); clear HB HP b1 h1; have HB := n0; have HP := n1; clear n0 n1)
          | (go_at_call 18; (with_reducible refine (HC1.out _ HP.out HB.out).mono ?_); rintro e w1 ⟨rfl, h1, h2, h3⟩; clear HB HP; have HB := Aside0.mk h2; have HP := Aside0.mk h1; clear h1 h2 h3 HQ ks)
          | (go_at_call 18; (with_reducible refine (HC3.out _ HP.out HB.out).mono ?_); rintro e w1 ⟨rfl, h1, h2, h3⟩; clear HB HP; have HB := Aside0.mk h2; have HP := Aside0.mk h1; clear h1 h2 h3)
          | (go_at_call 21; (with_reducible refine (HC2.out _ HP.out HB.out).mono ?_); rintro e w1 ⟨rfl, h1, h2, h3⟩; clear HB HP; have HB := Aside0.mk h2; have HP := Aside0.mk h1; clear h1 h2 h3))
        go_ret
        exact ⟨rfl, HB.out⟩

end Go.Proofs.Ytoddgpaopejeoaa.Le
