/- The walk of LedgerSince; it says its own conditions. -/
import Derived.Test.YtoddgpaopejeoaaBLed
import Derived.Test.YtoddgpaopejeoaaMLedx0
import Derived.Test.YtoddgpaopejeoaaMLedx1
import Derived.Test.YtoddgpaopejeoaaMLedx2
import Derived.Test.YtoddgpaopejeoaaMLedx3
import Derived.Test.YtoddgpaopejeoaaMLedx4
import Derived.WalkKit
import Derived.Deep.RegionLaw
import Derived.Deep.RegionWith
import Derived.Deep.RegionHeld3
import Derived.BigRegion
import Derived.BigQuiet
import Derived.StillTailTactics
import Derived.Test.YtoddgpaopejeoaaLeAt
import Derived.Test.YtoddgpaopejeoaaLeRead
import Derived.Test.YtoddgpaopejeoaaLeCor
import Derived.Test.YtoddgpaopejeoaaLeRate
import Derived.Test.YtoddgpaopejeoaaLeRef
import Derived.Test.YtoddgpaopejeoaaLeRCor
import Derived.Test.YtoddgpaopejeoaaLeDoes
import Derived.Test.YtoddgpaopejeoaaLeCopy
import Derived.Test.YtoddgpaopejeoaaLeLaw1
import Derived.Test.YtoddgpaopejeoaaLeLaw2
namespace Go.Proofs.Ytoddgpaopejeoaa.Le
open Go.RowKit Go.Proofs.Ytoddgpaopejeoaa.MLed Go.Proofs.Ytoddgpaopejeoaa.Pure Go.Proofs.YtoddgpaopejeoaaW.PrintWords Go.Proofs.YtoddgpaopejeoaaW.PrintLast Go.Proofs.YtoddgpaopejeoaaW.PrintMore
attribute [local go_sem] max2_int min2_int max_two min_two max_three min_three max_four min_four
set_option linter.unusedVariables false
set_option linter.unusedSimpArgs false
theorem psince {w : World} {g base : Nat} {s : LSt} (h : PC w g base s) (hG : s.good) (raw total : Int) (hw : Bd raw) (ht : Bd total) : Calls Try.prog 19 #[.pointer (some ⟨g, 0, none⟩), .int .i64 raw, .int .i64 total] w fun e w' => e = .returned (.tuple #[.int .i64 (sinceE s.raw s.sum s.rate raw total), .int .i64 (err s.raw raw)]) ∧ Below w.heap.size w w' := by
  obtain ⟨v, h1, _⟩ := h
  exact since_calls g _ _ _ raw total v w h1 hG hw ht
theorem tot0 (raw0 sum raw : Int) (h : -9223372036854775807 ≤ sum ∧ sum ≤ 9223372036854775807) : tot raw0 sum 0 raw = sum := by
  unfold tot mulv
  rw [Int.zero_mul]
  rw [show cutv (0 / 4294967296) = 0 from by decide]
  rw [Int.add_zero]
  exact cutv_id _ h.1 h.2
theorem err_ok {raw0 raw : Int} (h0 : 0 ≤ raw) (h1 : raw ≤ 4611686018427387904) (h2 : raw0 ≤ raw) : err raw0 raw = 0 := by
  rcases err_cases raw0 raw with q | q | q | q <;> omega
theorem cor_ok {raw0 raw by_ : Int} {n : Nat} (h : err raw0 raw = 0) (hb : -32768 ≤ by_ ∧ by_ ≤ 32767) (hn : n < 1000) : corErr raw0 raw by_ n = 0 := by
  unfold corErr
  rw [if_neg (by omega), if_neg (by omega), if_neg (by omega)]
theorem rate_ok0 {raw0 raw r : Int} (h : err raw0 raw = 0) (hb : -2147483648 ≤ r ∧ r ≤ 2147483648) : rateErr raw0 raw r = 0 := by
  unfold rateErr
  rw [if_neg (by omega), if_neg (by omega)]
theorem half_bd (x : Int) (h : -2147483648 ≤ x ∧ x ≤ 2147483647) : -2147483648 ≤ x.tdiv 2 ∧ x.tdiv 2 ≤ 2147483648 := by
  rcases Int.le_total 0 x with q | q
  · rw [Int.tdiv_eq_ediv_of_nonneg q]
    omega
  · obtain ⟨m, rfl⟩ : ∃ m, x = -m := ⟨-x, by omega⟩
    rw [Int.neg_tdiv, Int.tdiv_eq_ediv_of_nonneg (by omega)]
    omega
/-- One more correction, no rate set. -/
theorem since_step {s : LSt} {w0 w : World} {g base : Nat} (hp : PC w g base s) (hG : s.good) (hB : Below base w0 w) (hS : base ≤ w.heap.size) (hg : base ≤ g) (N by_ : Int) (step : Bool) (hr : s.rate = 0) (h0 : 0 ≤ N) (h1 : N ≤ 4611686018427387904) (h2 : s.raw ≤ N) (hb : -32768 ≤ by_ ∧ by_ ≤ 32767) (hn : s.xs.length < 1000) (hs : -1000000000 ≤ s.sum ∧ s.sum ≤ 1000000000) :
    Calls Try.prog 18 #[.pointer (some ⟨g, 0, none⟩), .int .i64 N, .int .i64 by_, .bool step] w fun e w' => e = .returned (.int .i64 0) ∧ (∃ s2 : LSt, PC w' g base s2 ∧ s2.good ∧ s2.raw = N ∧ s2.sum = s.sum + by_ ∧ s2.rate = 0 ∧ s2.xs.length = s.xs.length + 1) ∧ Below base w0 w' := by
  have he := err_ok (raw0 := s.raw) h0 h1 h2
  have hc := cor_ok he hb hn
  have h := pcorrect g base s N by_ step w0 w hp hG hB hS hg (by omega) (by omega)
  rw [hc] at h
  refine h.mono fun e w' q => ⟨q.1, ⟨_, q.2.1, LSt.cor_good hG N by_ step, ?_, ?_, ?_, ?_⟩, q.2.2.1⟩ <;> (unfold LSt.cor; rw [if_pos hc])
  · show cutv (tot s.raw s.sum s.rate N + by_) = s.sum + by_
    rw [hr, tot0 _ _ _ (by omega), cutv_id _ (by omega) (by omega)]
  · exact hr
  · show (s.xs ++ [_]).length = _
    rw [List.length_append, List.length_singleton]
theorem since_rate {s : LSt} {w0 w : World} {g base : Nat} (hp : PC w g base s) (hG : s.good) (hB : Below base w0 w) (hS : base ≤ w.heap.size) (hg : base ≤ g) (N r : Int) (hr : s.rate = 0) (h0 : 0 ≤ N) (h1 : N ≤ 4611686018427387904) (h2 : s.raw ≤ N) (hb : -2147483648 ≤ r ∧ r ≤ 2147483648) (hs : -1000000000 ≤ s.sum ∧ s.sum ≤ 1000000000) :
    Calls Try.prog 21 #[.pointer (some ⟨g, 0, none⟩), .int .i64 N, .int .i64 r] w fun e w' => e = .returned (.int .i64 0) ∧ (∃ xs, PC w' g base ⟨N, s.sum, r, xs⟩ ∧ LSt.good ⟨N, s.sum, r, xs⟩) ∧ Below base w0 w' := by
  have he := err_ok (raw0 := s.raw) h0 h1 h2
  have hc := rate_ok0 he hb
  have h := prate g base s N r w0 w hp hG hB hS hg (by omega)
  have hg2 := LSt.rt_good hG N r
  unfold LSt.rt at h hg2
  rw [if_pos hc] at h hg2
  rw [hc] at h
  rw [hr, tot0 _ _ _ (by omega)] at h hg2
  exact h.mono fun e w' q => ⟨q.1, ⟨_, q.2.1, hg2⟩, q.2.2.1⟩
theorem since0 {raw0 sum N : Int} (h0 : 0 ≤ N) (h1 : N ≤ 4611686018427387904) (h2 : raw0 ≤ N) (hs : -1000000000 ≤ sum ∧ sum ≤ 1000000000) : sinceE raw0 sum 0 N 0 = sum := by
  unfold sinceE
  rw [if_pos (err_ok h0 h1 h2), tot0 _ _ _ (by omega), Int.sub_zero, cutv_id _ (by omega) (by omega)]
theorem since1 {N sum r gap : Int} (h0 : 0 ≤ N) (h1 : N ≤ 100000000000) (hs : -1000000000 ≤ sum ∧ sum ≤ 1000000000) (hr : -2147483648 ≤ r ∧ r ≤ 2147483648) (hg : 0 ≤ gap ∧ gap ≤ 65535) : sinceE N sum r (N + gap * 4294967296) sum = r * gap := by
  unfold sinceE
  rw [if_pos (err_ok (by omega) (by omega) (by omega))]
  unfold tot mulv
  rw [show N + gap * 4294967296 - N = gap * 4294967296 from by omega, ← Int.mul_assoc, Int.mul_ediv_cancel _ (by decide)]
  have a1 : r * gap ≤ 2147483648 * gap := Int.mul_le_mul_of_nonneg_right hr.2 hg.1
  have a2 : -2147483648 * gap ≤ r * gap := Int.mul_le_mul_of_nonneg_right hr.1 hg.1
  rw [cutv_id (r * gap) (by omega) (by omega), cutv_id (sum + r * gap) (by omega) (by omega), cutv_id _ (by omega) (by omega)]
  omega

theorem since2_calls {w : World} {g base : Nat} {N sum r gap : Int} {xs : List S87} (hp : PC w g base ⟨N, sum, r, xs⟩) (hG : LSt.good ⟨N, sum, r, xs⟩) (h0 : 0 ≤ N) (h1 : N ≤ 100000000000) (hs : -1000000000 ≤ sum ∧ sum ≤ 1000000000) (hr : -2147483648 ≤ r ∧ r ≤ 2147483648) (hg : 0 ≤ gap ∧ gap ≤ 65535) :
    Calls Try.prog 19 #[.pointer (some ⟨g, 0, none⟩), .int .i64 (N + gap * 4294967296), .int .i64 sum] w fun e w' => e = .returned (.tuple #[.int .i64 (r * gap), .int .i64 0]) ∧ Below w.heap.size w w' := by
  have h := psince hp hG (N + gap * 4294967296) sum (by omega) (by omega)
  rw [show sinceE (LSt.mk N sum r xs).raw (LSt.mk N sum r xs).sum (LSt.mk N sum r xs).rate (N + gap * 4294967296) sum = r * gap from since1 h0 h1 hs hr hg, show err (LSt.mk N sum r xs).raw (N + gap * 4294967296) = 0 from err_ok (by omega) (by omega) (show N ≤ _ by omega)] at h
  exact h
set_option maxHeartbeats 4000000 in
theorem since_walk (A : Option Addr) (c : Nat) (l : List Int) (rate raw gap : Int) (w : World) (hr : Kd.C (Kd.int .i16) w A l.length l) (hc : l.length ≤ c) (hrt : -2147483648 ≤ rate ∧ rate ≤ 2147483647) (ha : 0 ≤ raw ∧ raw ≤ 4294967295) (hb : 0 ≤ gap ∧ gap ≤ 65535) (hl : ∀ x ∈ l, -32768 ≤ x ∧ x ≤ 32767) :
    Calls Try.prog 4 #[.slice A l.length c, .int .i32 rate, .int .u32 raw, .int .u16 gap] w fun e w' => e = .returned (.bool true) ∧ Below w.heap.size w w' := by
  have HB := Aside0.mk (Below.refl w.heap.size w)
  by_cases h200 : 200 < l.length
  · have d0 : ((200 : Int) < (l.length : Int)) = True := eq_true (by omega)
    clear hr hc ha hb hl h200 hrt
    go_enter Try.func4, Try.ntmps4
    go_wp2_with (first | (go_at_call 12; (with_reducible refine (shown_calls _).mono ?_); rintro e w1 ⟨rfl, b1⟩; have n0 := Aside0.mk (below_step HB.out b1); clear HB b1; have HB := n0; clear n0))
    go_ret
    exact ⟨rfl, HB.out⟩
  have d0 : ((200 : Int) < (l.length : Int)) = False := eq_false (by omega)
  have LL := Aside0.mk h200
  have HR0 := Aside0.mk hr
  have HAB := Aside0.mk (And.intro hrt (And.intro ha hb))
  have HLB := Aside0.mk hl
  have hw1 : wrap64 raw = raw := by unfold wrap64; omega
  have hw2 : wrap64 gap = gap := by unfold wrap64; omega
  have hw3 : wrap64 rate = rate := by unfold wrap64; omega
  have hbg : begun raw = raw := by unfold begun; rw [if_neg (by omega), if_neg (by omega)]
  have hG0 := good0 raw
  rw [hbg] at hG0
  have HG0 := Aside0.mk hG0
  have HBG := Aside0.mk hbg
  have HT := Aside0.mk (fun W g (h : PC W g w.heap.size ⟨raw, 0, 0, []⟩) => ptotal h hG0 raw (by omega))
  rw [show (totE (LSt.mk raw 0 0 []).raw (LSt.mk raw 0 0 []).sum (LSt.mk raw 0 0 []).rate raw) = 0 from by unfold totE; rw [if_pos (err_ok ha.1 (by omega) (Int.le_refl _))]; exact tot0 _ _ _ (show (-9223372036854775807 : Int) ≤ 0 ∧ (0 : Int) ≤ 9223372036854775807 by decide), show err (LSt.mk raw 0 0 []).raw raw = 0 from err_ok ha.1 (by omega) (Int.le_refl _)] at HT
  clear hr hc ha hb hl h200 hrt hbg hG0
  go_enter Try.func4, Try.ntmps4
  go_wp2_with (first
    | (go_at_call 12; (with_reducible refine (shown_calls _).mono ?_); rintro e w1 ⟨rfl, b1⟩; have n0 := Aside0.mk (below_step HB.out b1); clear HB b1; have HB := n0; clear n0)
    | (go_at_call 13; (with_reducible refine (new_calls raw _).mono ?_); rintro e w1 ⟨g, rfl, hg, hc, b1⟩; rw [HBG.out] at hc; have HP := Aside0.mk (pc0 (base := w.heap.size) hc); have HG := Aside0.mk (Nat.le_trans HB.out.size hg); have n0 := Aside0.mk (below_step HB.out b1); clear HB hg hc b1; have HB := n0; clear n0)
    | (go_at_call 17; (with_reducible refine (HT.out _ _ HP.out).mono ?_); rintro e w1 ⟨rfl, b1⟩; have n0 := Aside0.mk (below_step HB.out b1); have n1 := Aside0.mk (HP.out.below b1); clear HB HP b1; have HB := n0; have HP := n1; clear n0 n1))
  simp only [hw1]
  go_loopg [12, 13, 14] l.length (fun kq v12 v13 v14 w' => ∃ (i : Nat) (s : LSt) (N : Int), v14 = .int .i64 (i : Int) ∧ v12 = .int .i64 s.sum ∧ v13 = .int .i64 N ∧ Aside0 (i + kq = l.length) ∧ Aside0 (s.good ∧ s.xs.length = i ∧ s.rate = 0 ∧ s.raw ≤ N ∧ 0 ≤ N ∧ N ≤ 4294967295 + i * 65535 ∧ -(i * 32768 : Int) ≤ s.sum ∧ s.sum ≤ i * 32768) ∧ Aside0 (PC w' g w.heap.size s) ∧ Aside0 (Below w.heap.size w w'))
  case atStart => exact ⟨0, _, raw, rfl, rfl, rfl, ⟨by omega⟩, ⟨HG0.out, rfl, rfl, Int.le_refl _, HAB.out.2.1.1, by have := HAB.out.2.1.2; omega, (show -(((0 : Nat) : Int) * 32768) ≤ 0 by decide), (show (0 : Int) ≤ ((0 : Nat) : Int) * 32768 by decide)⟩, HP, HB⟩
  case round =>
    clear HP HB HT
    obtain ⟨i, s, N, rfl, rfl, rfl, HI, HS, HP, HB⟩ := hrel
    by_cases hi : i < l.length
    · have p145 : (0 : Int) ≤ (i : Int) := Int.natCast_nonneg i
      have q145 : (i : Int) < (l.length : Int) := by omega
      have hlb := HLB.out (rd l i) (by unfold rd; rw [List.getD_eq_getElem?_getD, Int.toNat_natCast, List.getElem?_eq_getElem hi]; exact List.getElem_mem hi)
      have HLI := Aside0.mk hlb
      obtain ⟨ad, e, hx0⟩ := Kd.at_int HR0.out (i : Int) p145 q145
      cases e
      simp only [Int.toNat_natCast] at hx0
      have HX := Aside0.mk hx0
      replace hx0 := (HB.out.cell (World.block_lt_of_cell? w _ hx0)).trans hx0
      have hwx : wrap64 (rd l i) = rd l i := by unfold wrap64; omega
      have hs1 : wrap64 (s.sum + rd l i) = s.sum + rd l i := by have := HS.out; have := LL.out; unfold wrap64; omega
      have hs2 : wrap64 (N + gap) = N + gap := by have := HS.out; have := LL.out; have := HAB.out; unfold wrap64; omega
      replace p145 := eq_true p145
      replace q145 := eq_true q145
      have HC := Aside0.mk (fun W st (h : PC W g w.heap.size s) (hb : Below w.heap.size w W) => since_step h HS.out.1 hb hb.size HG.out N (rd l i) st HS.out.2.2.1 HS.out.2.2.2.2.1 (by have := HS.out; have := LL.out; omega) HS.out.2.2.2.1 HLI.out (by have := HS.out; have := LL.out; omega) (by have := HS.out; have := LL.out; omega))
      clear hlb
      go_wp2_with (first
        | (go_at_call 18; (with_reducible refine (HC.out _ _ HP.out HB.out).mono ?_); rintro e w1 ⟨rfl, ⟨s2, h1, h2⟩, h3⟩; clear hx0; have hx0 := (h3.cell (World.block_lt_of_cell? w _ HX.out)).trans HX.out; clear HP HB; have HP := Aside0.mk h1; have HB := Aside0.mk h3; have HS2 := Aside0.mk h2; clear h1 h2 h3))
      go_roundg (gk - 1)
      case measure => have := HI.out; omega
      case rel =>
        obtain ⟨g1, g2, g3, g4, g5⟩ := HS2.out
        have := HS.out
        have := HLI.out
        have := HAB.out
        exact ⟨i + 1, s2, N + gap, by have := LL.out; simp [wrap64]; omega, by rw [g3, hs1], by rw [hs2], ⟨by have := HI.out; omega⟩, ⟨g1, by omega, g4, by omega, by omega, by omega, by omega, by omega⟩, HP, HB⟩
    · have q145 : ((i : Int) < (l.length : Int)) = False := eq_false (by omega)
      have hil : i = l.length := by have := HI.out; omega
      have hs := HS.out
      have ha := HAB.out
      have hll := LL.out
      obtain ⟨r, hrr⟩ : ∃ r, rate.tdiv 2 = r := ⟨_, rfl⟩
      have hrb : -2147483648 ≤ r ∧ r ≤ 2147483648 := hrr ▸ half_bd rate ha.1
      have hw4 : wrap64 r = r := by unfold wrap64; omega
      have a1 : r * gap ≤ 2147483648 * gap := Int.mul_le_mul_of_nonneg_right hrb.2 ha.2.2.1
      have a2 : -2147483648 * gap ≤ r * gap := Int.mul_le_mul_of_nonneg_right hrb.1 ha.2.2.1
      have hw5 : wrap64 (gap * 4294967296) = gap * 4294967296 := by unfold wrap64; omega
      have hw6 : wrap64 (N + gap * 4294967296) = N + gap * 4294967296 := by unfold wrap64; omega
      have hw7 : wrap64 (r * gap) = r * gap := by unfold wrap64; omega
      have HC1 := Aside0.mk (fun W (h : PC W g w.heap.size s) => psince h hs.1 N 0 (by omega) (by decide))
      rw [hs.2.2.1, since0 hs.2.2.2.2.1 (by omega) hs.2.2.2.1 (by omega), err_ok hs.2.2.2.2.1 (by omega) hs.2.2.2.1] at HC1
      have HE := Aside0.mk (fun W (h : PC W g w.heap.size s) => entries_calls g w.heap.size s W h (by omega))
      have HN := Aside0.mk (hs.2.1.trans hil)
      have HC2 := Aside0.mk (fun W (h : PC W g w.heap.size s) (hb : Below w.heap.size w W) => since_rate h hs.1 hb hb.size HG.out N r hs.2.2.1 hs.2.2.2.2.1 (by omega) hs.2.2.2.1 hrb (by omega))
      have HC3 := Aside0.mk (fun W xs (h : PC W g w.heap.size ⟨N, s.sum, r, xs⟩) (hG : LSt.good ⟨N, s.sum, r, xs⟩) => since2_calls h hG hs.2.2.2.2.1 (by omega) (by omega) hrb ha.2.2)
      clear hs ha hll hrb a1 a2 hil hi
      go_wp2_with (first
        | (go_at_call 19; (with_reducible refine (HC1.out _ HP.out).mono ?_); rintro e w1 ⟨rfl, b1⟩; have n0 := Aside0.mk (below_step HB.out b1); have n1 := Aside0.mk (HP.out.below b1); clear HB HP b1; have HB := n0; have HP := n1; clear n0 n1)
        | (go_at_call 20; (with_reducible refine (HE.out _ HP.out).mono ?_); rintro e w1 ⟨v1, rfl, h1, b1⟩; obtain ⟨A1, c3, hv1, _, _⟩ := Kd.R_reads h1; rw [HN.out] at hv1; subst hv1; have n0 := Aside0.mk (below_step HB.out b1); have n1 := Aside0.mk (HP.out.below b1); clear HB HP b1 h1; have HB := n0; have HP := n1; clear n0 n1)
        | (go_at_call 21; (with_reducible refine (HC2.out _ HP.out HB.out).mono ?_); rintro e w1 ⟨rfl, ⟨xs, h1, h2⟩, h3⟩; clear HB HP; have HB := Aside0.mk h3; have HP := Aside0.mk h1; have HGX := Aside0.mk h2; clear h1 h2 h3)
        | (go_at_call 19; (with_reducible refine (HC3.out _ _ HP.out HGX.out).mono ?_); rintro e w1 ⟨rfl, b1⟩; have n0 := Aside0.mk (below_step HB.out b1); have n1 := Aside0.mk (HP.out.below b1); clear HB HP b1; have HB := n0; have HP := n1; clear n0 n1))
      go_ret
      exact ⟨rfl, HB.out⟩

end Go.Proofs.Ytoddgpaopejeoaa.Le
