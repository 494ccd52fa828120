/- The walk of LedgerForward and of LedgerActs; each says its own conditions. -/
import Derived.Test.YtoddgpaopejeoaaBLed
import Derived.Test.YtoddgpaopejeoaaMLedx0
import Derived.Test.YtoddgpaopejeoaaMLedx1
import Derived.Test.YtoddgpaopejeoaaMLedx2
import Derived.Test.YtoddgpaopejeoaaMLedx3
import Derived.Test.YtoddgpaopejeoaaMLedx4
import Derived.WalkKit
import Derived.Deep.RegionLaw
import Derived.Deep.RegionWith
import Derived.Deep.RegionHeld3
import Derived.BigRegion
import Derived.BigQuiet
import Derived.StillTailTactics
import Derived.Test.YtoddgpaopejeoaaLeAt
import Derived.Test.YtoddgpaopejeoaaLeRead
import Derived.Test.YtoddgpaopejeoaaLeCor
import Derived.Test.YtoddgpaopejeoaaLeRate
import Derived.Test.YtoddgpaopejeoaaLeRef
import Derived.Test.YtoddgpaopejeoaaLeRCor
import Derived.Test.YtoddgpaopejeoaaLeDoes
import Derived.Test.YtoddgpaopejeoaaLeCopy
namespace Go.Proofs.Ytoddgpaopejeoaa.Le
open Go.RowKit Go.Proofs.Ytoddgpaopejeoaa.MLed Go.Proofs.Ytoddgpaopejeoaa.Pure Go.Proofs.YtoddgpaopejeoaaW.PrintWords Go.Proofs.YtoddgpaopejeoaaW.PrintLast Go.Proofs.YtoddgpaopejeoaaW.PrintMore
attribute [local go_sem] max2_int min2_int max_two min_two max_three min_three max_four min_four
set_option linter.unusedVariables false
set_option linter.unusedSimpArgs false
/-! #### struct type 30 -/
structure S30 where
  f0 : Int
  f1 : Int
  f2 : Int
  f3 : Bool
def z30 : S30 := ⟨(0 : Int), (0 : Int), (0 : Int), false⟩
def k30 : Kd S30 := Kd.iso (Kd.pair (Kd.int .i64) (Kd.pair (Kd.int .i64) (Kd.pair (Kd.int .i64) Kd.bool))) (fun x : S30 => (x.f0, x.f1, x.f2, x.f3))
theorem k30_open {w : World} {x : S30} {cs : List Value} (h : k30.K w x cs) : cs = [.int .i64 x.f0, .int .i64 x.f1, .int .i64 x.f2, .bool x.f3] := by
  obtain ⟨_, _, rfl, rfl, ⟨_, _, rfl, rfl, ⟨_, _, rfl, rfl, rfl⟩⟩⟩ := h
  exact rfl
theorem k30_mk (w : World) (x : S30) : k30.K w x [.int .i64 x.f0, .int .i64 x.f1, .int .i64 x.f2, .bool x.f3] := ⟨[.int .i64 x.f0], [.int .i64 x.f1, .int .i64 x.f2, .bool x.f3], rfl, rfl, ⟨[.int .i64 x.f1], [.int .i64 x.f2, .bool x.f3], rfl, rfl, ⟨[.int .i64 x.f2], [.bool x.f3], rfl, rfl, rfl⟩⟩⟩
theorem k30_mkM (w : World) (base : Nat) (ok : Nat → Prop) (x : S30) : k30.M w base ok x [.int .i64 x.f0, .int .i64 x.f1, .int .i64 x.f2, .bool x.f3] := ⟨[.int .i64 x.f0], [.int .i64 x.f1, .int .i64 x.f2, .bool x.f3], rfl, rfl, ⟨[.int .i64 x.f1], [.int .i64 x.f2, .bool x.f3], rfl, rfl, ⟨[.int .i64 x.f2], [.bool x.f3], rfl, rfl, rfl⟩⟩⟩
def rd_T30 (xs : List S30) (i : Int) : S30 := xs.getD i.toNat z30
theorem at_T30 {w : World} {A : Option Addr} {n : Nat} {xs : List S30} (h : Kd.C k30 w A n xs) (i : Int) (h0 : 0 ≤ i) (h1 : i < n) : ∃ ad , A = some ad ∧ w.cell? (ad.add (i.toNat * 4)) = some (.int .i64 (rd_T30 xs i).f0) ∧ w.cell? ⟨(ad.add (i.toNat * 4)).block, (ad.add (i.toNat * 4)).off + 1, none⟩ = some (.int .i64 (rd_T30 xs i).f1) ∧ w.cell? ⟨(ad.add (i.toNat * 4)).block, (ad.add (i.toNat * 4)).off + 2, none⟩ = some (.int .i64 (rd_T30 xs i).f2) ∧ w.cell? ⟨(ad.add (i.toNat * 4)).block, (ad.add (i.toNat * 4)).off + 3, none⟩ = some (.bool (rd_T30 xs i).f3) := by
  obtain ⟨ad, c, e, _, hK, hc0⟩ := Kd.C_get h z30 i h0 h1
  have hc : ∀ j u, c[j]? = some u → w.cell? (ad.add (i.toNat * 4 + j)) = some u := hc0
  obtain rfl := k30_open hK
  exact ⟨ad, e, hc 0 _ rfl, by rw [← add_field _ _ 1 (by omega)]; exact hc 1 _ rfl, by rw [← add_field _ _ 2 (by omega)]; exact hc 2 _ rfl, by rw [← add_field _ _ 3 (by omega)]; exact hc 3 _ rfl⟩
theorem LSt.act_len {s : LSt} (h : s.xs.length ≤ 1000) (k raw by_ : Int) (step : Bool) : (s.act k raw by_ step).xs.length ≤ 1000 := by
  unfold LSt.act
  by_cases q : k = 0
  · rw [if_pos q]
    unfold LSt.cor
    by_cases q : corErr s.raw raw by_ s.xs.length = 0
    · rw [if_pos q]
      have : s.xs.length < 1000 := by
        unfold corErr at q
        by_cases a : err s.raw raw = 0
        · rw [if_neg (by omega)] at q
          split at q
          · omega
          · split at q
            · omega
            · omega
        · rw [if_pos a] at q
          exact absurd q a
      show (s.xs ++ [_]).length ≤ 1000
      rw [List.length_append, List.length_singleton]
      omega
    · rw [if_neg q]; exact h
  · rw [if_neg q]
    by_cases q : k = 1
    · rw [if_pos q]
      unfold LSt.rt
      by_cases q : rateErr s.raw raw by_ = 0
      · rw [if_pos q]; exact h
      · rw [if_neg q]; exact h
    · rw [if_neg q]; exact h
theorem sh1 : LSt.cor ⟨0, 0, 0, []⟩ 5 7 true = ⟨5, 7, 0, [⟨5, 7, true⟩]⟩ := by kernel_rfl
theorem sh2 : corErr 0 5 7 0 = 0 := by kernel_rfl
theorem sh3 : rdE 5 7 0 10 = 17 := by kernel_rfl
theorem sh4 : err 5 10 = 0 := by kernel_rfl
theorem sh5 : begun 0 = 0 := by kernel_rfl
theorem good0 (raw : Int) : LSt.good ⟨begun raw, 0, 0, []⟩ := by
  refine ⟨?_, (show (-9223372036854775807 : Int) ≤ 0 ∧ (0 : Int) ≤ 9223372036854775807 by decide), (show (-2147483648 : Int) ≤ 0 ∧ (0 : Int) ≤ 2147483648 by decide)⟩
  show 0 ≤ begun raw ∧ begun raw ≤ 4611686018427387904
  unfold begun
  (repeat' split) <;> omega
theorem pc0 {w : World} {g base : Nat} {raw : Int} (h : Clk w g 82 raw 0 0 (.slice none 0 0)) : PC w g base ⟨raw, 0, 0, []⟩ := ⟨_, h, Kd.R_nil _ _ _ _ _⟩
theorem rc0 {w : World} {g base : Nat} {raw : Int} (h : Clk w g 47 raw 0 0 (.slice none 0 0)) : RC w g base ⟨raw, 0, 0, []⟩ := ⟨_, h, Kd.R_nil _ _ _ _ _⟩
theorem pread {w : World} {g base : Nat} {s : LSt} (h : PC w g base s) (hG : s.good) (raw : Int) (hw : Bd raw) : Calls Try.prog 16 #[.pointer (some ⟨g, 0, none⟩), .int .i64 raw] w fun e w' => e = .returned (.tuple #[.int .i64 (rdE s.raw s.sum s.rate raw), .int .i64 (err s.raw raw)]) ∧ Below w.heap.size w w' := by
  obtain ⟨v, h1, _⟩ := h
  exact read_calls g _ _ _ raw v w h1 hG hw

theorem sh_correct {w0 w : World} {g base : Nat} (hp : PC w g base ⟨0, 0, 0, []⟩) (hB : Below base w0 w) (hS : base ≤ w.heap.size) (hg : base ≤ g) : Calls Try.prog 18 #[.pointer (some ⟨g, 0, none⟩), .int .i64 5, .int .i64 7, .bool true] w fun e w' => e = .returned (.int .i64 0) ∧ PC w' g base ⟨5, 7, 0, [⟨5, 7, true⟩]⟩ ∧ Below base w0 w' :=
  (pcorrect g base ⟨0, 0, 0, []⟩ 5 7 true w0 w hp ⟨by decide, by decide, by decide⟩ hB hS hg (by decide) (by decide)).mono fun e w' h => ⟨h.1.trans (congrArg (fun z => Ending.returned (.int .i64 z)) sh2), sh1 ▸ h.2.1, h.2.2.1⟩
theorem sh_read {w : World} {g base : Nat} (hp : PC w g base ⟨5, 7, 0, [⟨5, 7, true⟩]⟩) : Calls Try.prog 16 #[.pointer (some ⟨g, 0, none⟩), .int .i64 10] w fun e w' => e = .returned (.tuple #[.int .i64 17, .int .i64 0]) ∧ Below w.heap.size w w' :=
  (pread hp ⟨by decide, by decide, by decide⟩ 10 (by decide)).mono fun e w' h => ⟨h.1.trans (congrArg (fun (z : Int × Int) => Ending.returned (.tuple #[.int .i64 z.1, .int .i64 z.2])) (Prod.ext sh3 sh4 : ((rdE 5 7 0 10, err 5 10) : Int × Int) = (17, 0))), h.2⟩
theorem shown_calls (w : World) : Calls Try.prog 12 #[] w fun e w' => e = .returned (.bool true) ∧ Below w.heap.size w w' := by
  have HB := Aside0.mk (Below.refl w.heap.size w)
  go_enter Try.func12, Try.ntmps12
  go_wp2_with (first
    | (go_at_call 13; (with_reducible refine (new_calls 0 _).mono ?_); rintro e w1 ⟨g, rfl, hg, hc, b1⟩; rw [sh5] at hc; have HP := Aside0.mk (pc0 (base := w.heap.size) hc); have HG := Aside0.mk hg; have n0 := Aside0.mk (below_step HB.out b1); clear HB hg hc b1; have HB := n0; clear n0)
    | (go_at_call 18; (with_reducible refine (sh_correct HP.out HB.out HB.out.size HG.out).mono ?_); rintro e w2 ⟨rfl, h1, h2⟩; clear HP HB; have HP := Aside0.mk h1; have HB := Aside0.mk h2; clear h1 h2)
    | (go_at_call 16; (with_reducible refine (sh_read HP.out).mono ?_); rintro e w3 ⟨rfl, b1⟩; have n0 := Aside0.mk (below_step HB.out b1); clear HB b1; have HB := n0; clear n0))
  go_ret
  exact ⟨rfl, HB.out⟩
theorem rd_mono {s : LSt} (hG : s.good) (m M : Int) (hm : m ≤ M) (h1 : err s.raw m = 0) (h2 : err s.raw M = 0) : rdE s.raw s.sum s.rate m ≤ rdE s.raw s.sum s.rate M := by
  have e1 := err_bd _ _ h1
  have e2 := err_bd _ _ h2
  obtain ⟨g1, g2, g3⟩ := hG
  unfold rdE tot mulv
  rw [if_pos h1, if_pos h2]
  have hb : ∀ d : Int, 0 ≤ d → d ≤ 4611686018427387904 → -9903520314283042199192993792 ≤ s.rate * d ∧ s.rate * d ≤ 9903520314283042199192993792 := by
    intro d d0 d1
    have a1 : s.rate * d ≤ 2147483648 * d := Int.mul_le_mul_of_nonneg_right g3.2 d0
    have a2 : -2147483648 * d ≤ s.rate * d := Int.mul_le_mul_of_nonneg_right g3.1 d0
    omega
  have b1 := hb (m - s.raw) (by omega) (by omega)
  have b2 := hb (M - s.raw) (by omega) (by omega)
  have b3 : s.rate * (m - s.raw) - 2147483648 * (M - m) ≤ s.rate * (M - s.raw) := by
    have a2 : -2147483648 * (M - m) ≤ s.rate * (M - m) := Int.mul_le_mul_of_nonneg_right g3.1 (by omega)
    have a3 : s.rate * (M - s.raw) = s.rate * (m - s.raw) + s.rate * (M - m) := by rw [← Int.mul_add]; congr 1; omega
    omega
  obtain ⟨X, hX⟩ : ∃ X, s.rate * (m - s.raw) = X := ⟨_, rfl⟩
  obtain ⟨Y, hY⟩ : ∃ Y, s.rate * (M - s.raw) = Y := ⟨_, rfl⟩
  rw [hX] at b1 b3 ⊢
  rw [hY] at b2 b3 ⊢
  rw [cutv_id (X / 4294967296) (by omega) (by omega), cutv_id (Y / 4294967296) (by omega) (by omega)]
  have b4 : X / 4294967296 - (M - m) ≤ Y / 4294967296 := by omega
  unfold cutv
  (repeat' split) <;> omega

set_option maxHeartbeats 4000000 in
theorem forward_walk (raw a b : Int) (A : Option Addr) (c : Nat) (l : List S30) (w : World) (hr : Kd.C k30 w A l.length l) (hc : l.length ≤ c) (hw : Bd raw) (ha : Bd a) (hb : Bd b) (hl : ∀ x ∈ l, Bd x.f0 ∧ Bd x.f1 ∧ Bd x.f2) :
    Calls Try.prog 3 #[.int .i64 raw, .slice A l.length c, .int .i64 a, .int .i64 b] w fun e w' => e = .returned (.bool true) ∧ Below w.heap.size w w' := by
  have HB := Aside0.mk (Below.refl w.heap.size w)
  by_cases h200 : 200 < l.length
  · have d0 : ((200 : Int) < (l.length : Int)) = True := eq_true (by omega)
    clear hr hc hw ha hb hl h200
    go_enter Try.func3, Try.ntmps3
    go_wp2_with (first | (go_at_call 12; (with_reducible refine (shown_calls _).mono ?_); rintro e w1 ⟨rfl, b1⟩; have n0 := Aside0.mk (below_step HB.out b1); clear HB b1; have HB := n0; clear n0))
    go_ret
    exact ⟨rfl, HB.out⟩
  have d0 : ((200 : Int) < (l.length : Int)) = False := eq_false (by omega)
  have LL := Aside0.mk h200
  have HR0 := Aside0.mk hr
  have HW := Aside0.mk hw
  have HAB := Aside0.mk (And.intro ha hb)
  have HLB := Aside0.mk hl
  clear hr hc hw ha hb hl h200
  go_enter Try.func3, Try.ntmps3
  go_wp2_with (first
    | (go_at_call 12; (with_reducible refine (shown_calls _).mono ?_); rintro e w1 ⟨rfl, b1⟩; have n0 := Aside0.mk (below_step HB.out b1); clear HB b1; have HB := n0; clear n0)
    | (go_at_call 13; (with_reducible refine (new_calls raw _).mono ?_); rintro e w1 ⟨g, rfl, hg, hc, b1⟩; have HP := Aside0.mk (pc0 (base := w.heap.size) hc); have HG := Aside0.mk (Nat.le_trans HB.out.size hg); have n0 := Aside0.mk (below_step HB.out b1); clear HB hg hc b1; have HB := n0; clear n0)
    | (go_at_call 14; (with_reducible refine (rnew_calls raw _ HW.out).mono ?_); rintro e w1 ⟨g2, rfl, hg, hc, b1⟩; have HQ := Aside0.mk (rc0 (base := w.heap.size) hc); have HG2 := Aside0.mk (Nat.le_trans HB.out.size hg); have n0 := Aside0.mk (below_step HB.out b1); have n1 := Aside0.mk (HP.out.below b1); clear HB HP hg hc b1; have HB := n0; have HP := n1; clear n0 n1))
  go_loopg [11] l.length (fun kq v11 w' => ∃ (i : Nat) (s : LSt), v11 = .int .i64 (i : Int) ∧ Aside0 (i + kq = l.length) ∧ Aside0 s.good ∧ Aside0 (PC w' g w.heap.size s) ∧ Aside0 (RC w' g2 w.heap.size s) ∧ Aside0 (Below w.heap.size w w'))
  case atStart => exact ⟨0, _, rfl, ⟨by omega⟩, ⟨good0 raw⟩, HP, HQ, HB⟩
  case round =>
    clear HP HQ HB
    obtain ⟨i, s, rfl, HI, HS, HP, HQ, HB⟩ := hrel
    by_cases hi : i < l.length
    · have p145 : (0 : Int) ≤ (i : Int) := Int.natCast_nonneg i
      have q145 : (i : Int) < (l.length : Int) := by omega
      have HLI := Aside0.mk (HLB.out (rd_T30 l i) (by unfold rd_T30; rw [List.getD_eq_getElem?_getD, Int.toNat_natCast, List.getElem?_eq_getElem hi]; exact List.getElem_mem hi))
      obtain ⟨ad, e, hx0, hx1, hx2, hx3⟩ := at_T30 HR0.out (i : Int) p145 q145
      cases e
      replace hx0 := (HB.out.cell (World.block_lt_of_cell? w _ hx0)).trans hx0
      replace hx1 := (HB.out.cell (World.block_lt_of_cell? w _ hx1)).trans hx1
      replace hx2 := (HB.out.cell (World.block_lt_of_cell? w _ hx2)).trans hx2
      replace hx3 := (HB.out.cell (World.block_lt_of_cell? w _ hx3)).trans hx3
      simp only [Int.toNat_natCast] at hx0 hx1 hx2 hx3
      replace p145 := eq_true p145
      replace q145 := eq_true q145
      go_wp2_with (first
        | (go_at_call 15; (with_reducible refine (does_calls g g2 w.heap.size s _ _ _ _ w _ HP.out HQ.out HS.out HB.out HB.out.size HG.out HG2.out HLI.out.2.1 HLI.out.2.2).mono ?_); rintro e w1 ⟨rfl, h1, h2, h3, h4⟩; clear HP HQ HB hx0 hx1 hx2 hx3; have HP := Aside0.mk h1; have HQ := Aside0.mk h2; have HB := Aside0.mk h3; clear h1 h2 h3 h4))
      go_roundg (gk - 1)
      case measure => have := HI.out; omega
      case rel => exact ⟨i + 1, _, by have := LL.out; simp [wrap64]; omega, ⟨by have := HI.out; omega⟩, ⟨LSt.act_good HS.out _ _ _ _⟩, HP, HQ, HB⟩
    · have q145 : ((i : Int) < (l.length : Int)) = False := eq_false (by omega)
      obtain ⟨m, hm⟩ : ∃ m, (if b < a then b else a) = m := ⟨_, rfl⟩
      obtain ⟨M, hM⟩ : ∃ M, (if a < b then b else a) = M := ⟨_, rfl⟩
      have HMM := Aside0.mk (show m ≤ M ∧ Bd m ∧ Bd M from by
        have h1 := HAB.out.1
        have h2 := HAB.out.2
        subst hm hM
        refine ⟨?_, ?_, ?_⟩ <;> (repeat' split) <;> first | omega | assumption)
      have HMO := Aside0.mk (rd_mono HS.out m M HMM.out.1)
      have HC1 := Aside0.mk (fun W (h : PC W g w.heap.size s) => pread h HS.out m HMM.out.2.1)
      have HC2 := Aside0.mk (fun W (h : PC W g w.heap.size s) => pread h HS.out M HMM.out.2.2)
      obtain ⟨x, hx⟩ : ∃ x, rdE s.raw s.sum s.rate m = x := ⟨_, rfl⟩
      obtain ⟨y, hy⟩ : ∃ y, rdE s.raw s.sum s.rate M = y := ⟨_, rfl⟩
      obtain ⟨ex, hex⟩ : ∃ ex, err s.raw m = ex := ⟨_, rfl⟩
      obtain ⟨ey, hey⟩ : ∃ ey, err s.raw M = ey := ⟨_, rfl⟩
      rw [hx, hex] at HC1
      rw [hy, hey] at HC2
      rw [hx, hy, hex, hey] at HMO
      clear hx hy hex hey
      by_cases c1 : ex = 0
      · subst c1
        by_cases c2 : ey = 0
        · subst c2
          have xy : decide (x ≤ y) = true := decide_eq_true (HMO.out rfl rfl)
          go_wp2_with (first
            | (go_at_call 16; (with_reducible refine (HC1.out _ HP.out).mono ?_); rintro e w1 ⟨rfl, b1⟩; have n0 := Aside0.mk (below_step HB.out b1); have n1 := Aside0.mk (HP.out.below b1); clear HB HP b1; have HB := n0; have HP := n1; clear n0 n1)
            | (go_at_call 16; (with_reducible refine (HC2.out _ HP.out).mono ?_); rintro e w1 ⟨rfl, b1⟩; have n0 := Aside0.mk (below_step HB.out b1); have n1 := Aside0.mk (HP.out.below b1); clear HB HP b1; have HB := n0; have HP := n1; clear n0 n1))
          all_goals
            go_ret
            exact ⟨by first | rfl | exact congrArg (fun z => Ending.returned (.bool z)) xy, HB.out⟩
        · have b2 : (ey == 0) = false := beq_eq_false_iff_ne.mpr c2
          have b3 : (ey = 0) = False := eq_false c2
          clear c2
          go_wp2_with (first
            | (go_at_call 16; (with_reducible refine (HC1.out _ HP.out).mono ?_); rintro e w1 ⟨rfl, b1⟩; have n0 := Aside0.mk (below_step HB.out b1); have n1 := Aside0.mk (HP.out.below b1); clear HB HP b1; have HB := n0; have HP := n1; clear n0 n1)
            | (go_at_call 16; (with_reducible refine (HC2.out _ HP.out).mono ?_); rintro e w1 ⟨rfl, b1⟩; have n0 := Aside0.mk (below_step HB.out b1); have n1 := Aside0.mk (HP.out.below b1); clear HB HP b1; have HB := n0; have HP := n1; clear n0 n1))
          go_ret
          exact ⟨rfl, HB.out⟩
      · have b2 : (ex == 0) = false := beq_eq_false_iff_ne.mpr c1
        have b3 : (ex = 0) = False := eq_false c1
        clear c1
        go_wp2_with (first
          | (go_at_call 16; (with_reducible refine (HC1.out _ HP.out).mono ?_); rintro e w1 ⟨rfl, b1⟩; have n0 := Aside0.mk (below_step HB.out b1); have n1 := Aside0.mk (HP.out.below b1); clear HB HP b1; have HB := n0; have HP := n1; clear n0 n1)
          | (go_at_call 16; (with_reducible refine (HC2.out _ HP.out).mono ?_); rintro e w1 ⟨rfl, b1⟩; have n0 := Aside0.mk (below_step HB.out b1); have n1 := Aside0.mk (HP.out.below b1); clear HB HP b1; have HB := n0; have HP := n1; clear n0 n1))
        go_ret
        exact ⟨rfl, HB.out⟩

end Go.Proofs.Ytoddgpaopejeoaa.Le
