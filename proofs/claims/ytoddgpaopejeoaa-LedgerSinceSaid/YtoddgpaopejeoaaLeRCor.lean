/- Contracts of the document's Correct, Rate and New; each says its own conditions. -/
import Derived.Test.YtoddgpaopejeoaaBLed
import Derived.Test.YtoddgpaopejeoaaMLedx0
import Derived.Test.YtoddgpaopejeoaaMLedx1
import Derived.Test.YtoddgpaopejeoaaMLedx2
import Derived.Test.YtoddgpaopejeoaaMLedx3
import Derived.Test.YtoddgpaopejeoaaMLedx4
import Derived.WalkKit
import Derived.Deep.RegionLaw
import Derived.Deep.RegionWith
import Derived.Deep.RegionHeld3
import Derived.BigRegion
import Derived.BigQuiet
import Derived.StillTailTactics
import Derived.Test.YtoddgpaopejeoaaLeAt
import Derived.Test.YtoddgpaopejeoaaLeRead
import Derived.Test.YtoddgpaopejeoaaLeCor
import Derived.Test.YtoddgpaopejeoaaLeRate
import Derived.Test.YtoddgpaopejeoaaLeRef
namespace Go.Proofs.Ytoddgpaopejeoaa.Le
open Go.RowKit Go.Proofs.Ytoddgpaopejeoaa.MLed Go.Proofs.Ytoddgpaopejeoaa.Pure Go.Proofs.YtoddgpaopejeoaaW.PrintWords Go.Proofs.YtoddgpaopejeoaaW.PrintLast Go.Proofs.YtoddgpaopejeoaaW.PrintMore
attribute [local go_sem] max2_int min2_int max_two min_two max_three min_three max_four min_four
set_option linter.unusedVariables false
set_option linter.unusedSimpArgs false
theorem fresh_app {v3 v4 : Value} {n m1 m2 : Nat} (h3 : ∃ b, v3.ownBlock = some b ∧ m1 ≤ b) (hat : v4.ownBlock = v3.ownBlock ∨ ∃ b, v4.ownBlock = some b ∧ m2 ≤ b) (h1 : n ≤ m1) (h2 : n ≤ m2) : ∀ k, v4.ownBlock = some k → n ≤ k := by
  intro k hk
  rcases hat with h | ⟨b, h, hle⟩
  · obtain ⟨b, hb, hle⟩ := h3
    rw [h, hb] at hk
    cases hk
    exact Nat.le_trans h1 hle
  · rw [h] at hk
    cases hk
    exact Nat.le_trans h2 hle
theorem info88' : (Try.prog.info? 88).map (fun i => (i.zero, i.size, i.bytes)) = some (some (.agg #[(.int .i64 0), (.int .i64 0), (.bool false)]), 3, 24) := by kernel_rfl
set_option maxHeartbeats 4000000 in
theorem rcorrect_ok (g : Nat) (raw0 sum rate raw by_ : Int) (step : Bool) (v : Value) (xs : List S88) (base : Nat) (w0 w : World) (hc : Clk w g 47 raw0 sum rate v) (ho : Kd.R k88 88 w base (fun _ => True) v xs) (hB : Below base w0 w) (hg : base ≤ g) (hG : Good raw0 sum rate) (hw : Bd raw) (hb : Bd by_) (hok : corErr raw0 raw by_ xs.length = 0) :
    Calls Try.prog 38 #[.pointer (some ⟨g, 0, none⟩), .int .i64 raw, .int .i64 by_, .bool step] w fun e w' => e = .returned (.int .i64 0) ∧ ∃ v', Clk w' g 47 raw (cutv (tot raw0 sum rate raw + by_)) rate v' ∧ Kd.R k88 88 w' base (fun _ => True) v' (xs ++ [⟨raw, by_, step⟩]) ∧ Below base w0 w' ∧ Kept w w' (Touch w g 88) := by
  have hcor : err raw0 raw = 0 ∧ -1125899906842624 ≤ by_ ∧ by_ ≤ 1125899906842624 ∧ xs.length < 1000 := by
    unfold corErr at hok
    by_cases a : err raw0 raw = 0
    · rw [if_neg (by omega)] at hok
      split at hok
      · omega
      · split at hok
        · omega
        · omega
    · rw [if_pos a] at hok
      exact absurd hok a
  have HA := rtotal_calls g raw0 sum rate raw v w hc hG hw
  unfold totE at HA
  rw [if_pos hcor.1, hcor.1] at HA
  replace HA := Aside0.mk HA
  obtain ⟨y, hy⟩ : ∃ y, tot raw0 sum rate raw = y := ⟨_, rfl⟩
  have HY := Aside0.mk (show Bd y from hy ▸ tot_bd raw0 sum rate raw)
  have HD := Aside0.mk hb
  rw [hy] at HA ⊢
  clear hy
  have d1 : decide (by_ < -1125899906842624) = false := decide_eq_false (by omega)
  have d2 : decide (1125899906842624 < by_) = false := decide_eq_false (by omega)
  have d4 : ((1000 : Int) ≤ (xs.length : Int)) = False := eq_false (by omega)
  have LN := Aside0.mk hcor.2.2.2
  obtain ⟨A, c, hv, _, _⟩ := Kd.R_reads ho
  subst hv
  have HO := Aside0.mk ho
  have HB := Aside0.mk hB
  have HG := Aside0.mk hg
  have HS := Aside0.mk (Nat.le_trans hg (Nat.le_of_lt (blk_lt hc)))
  have HC := Aside0.mk hc
  clear hok hcor hG hw hb ho hB hg hc
  go_enter Try.func38, Try.ntmps38
  go_wp2_with (first
    | (go_at_call 23; (with_reducible refine (HA.out).mono ?_); rintro e w1 ⟨rfl, b1⟩; have HC1 := Aside0.mk (blk_below HC.out b1); have HO1 := Aside0.mk (Kd.R_below HO.out b1); have HB1 := Aside0.mk (below_then HB.out HS.out b1); have HK1 := Aside0.mk (Kept.of_below b1 (Touch w g 88)); have k3 := (blk_cell HC1.out 3).trans (show _ = some (Value.slice A xs.length c) from rfl); clear b1)
    | (go_at_call 49; (with_reducible refine (radd_calls y by_ _ HY.out HD.out).mono ?_); rintro e w2 ⟨rfl, b2⟩; have HC2 := Aside0.mk (blk_below HC1.out b2); have HO2 := Aside0.mk (Kd.R_below HO1.out b2); have HB2 := Aside0.mk (below_then HB1.out (Nat.le_trans HG.out (Nat.le_of_lt (blk_lt HC1.out))) b2); have HK2 := Aside0.mk (Kept.below HK1.out b2); have k0 := (blk_cell HC2.out 0).trans (show _ = some (Value.int .i64 raw0) from rfl); have k1 := (blk_cell HC2.out 1).trans (show _ = some (Value.int .i64 sum) from rfl); have f0 := blk_frozen HC2.out 0; have f1 := blk_frozen HC2.out 1; clear k3 b2; obtain ⟨z, hz⟩ : ∃ z, cutv (y + by_) = z := ⟨_, rfl⟩; rw [hz]; have HZ := Aside0.mk hz; clear hz; have s1 := blk_put HC2.out 1 (.int .i64 z) rfl; have HC3 := Aside0.mk (blk_put s1 0 (.int .i64 raw) rfl); have HO3 := Aside0.mk (Kd.R_set (Kd.R_set HO2.out HC2.out (by decide) 1 (.int .i64 z)) s1 (by decide) 0 (.int .i64 raw)); have HB3 := Aside0.mk ((HB2.out.setCell (p := ⟨g, 1, none⟩) HG.out (.int .i64 z)).setCell (p := ⟨g, 0, none⟩) HG.out (.int .i64 raw)); have HK3 := Aside0.mk ((HK2.out.setCell (p := ⟨g, 1, none⟩) (.inl (.inl rfl)) (.int .i64 z)).setCell (p := ⟨g, 0, none⟩) (.inl (.inl rfl)) (.int .i64 raw)); clear s1)
    | ((with_reducible refine gate_dst (N := 43) rfl ?_); refine Kd.R_lit k88 (w0 := w0) base 88 ?hg (N := 43) ?hd (xs := ([] : List S88)) (inner := []) (ok := fun _ => True) (okp := fun _ => True) ?hr ?hp (fun _ hk => hk) trivial HB3.out ?hs (by simp) ?_; (case hd => rfl); (case hg => rfl); (case hr => first | (go_simp; done) | (go_simp; rfl)); (case hp => exact (Reps.none _ _)); (case hs => exact Nat.le_trans HG.out (Nat.le_of_lt (blk_lt HC3.out))); intro v3 w3 ho3 hb3 hg3 hn3; have HC4 := Aside0.mk (blk_grown HC3.out hg3 (by simp)); have HO4 := Aside0.mk (Kd.R_grown HO3.out hg3 (by simp)); have HL4 := Aside0.mk ho3; have HB4 := Aside0.mk hb3; have HN4 := Aside0.mk hn3; have HK4 := Aside0.mk (Kept.of_grown hg3 HK3.out (by simp)); have k3 := (blk_cell HC4.out 3).trans (show _ = some (Value.slice A xs.length c) from rfl); clear ho3 hb3 hg3 hn3)
    | ((with_reducible refine gate_builtin (b := .append) (xs := #[.tmp 44, .tmp 48]) rfl ?_); at_builtin; refine Kd.R_append_rows k88 (w0 := w0) base rfl (.tmp 44) (.tmp 48) 45 88 (.agg #[(.int .i64 0), (.int .i64 0), (.bool false)]) 24 rfl Try.underlying45 info88' rfl (by decide) (by omega) v3 [] xs A xs.length c (fun _ => True) (fun _ => False) rfl rfl HL4.out ?aR (fun _ _ h => h) (fun _ h => h.elim) (fun _ _ => trivial) HB4.out ?aS ?aL ?_; (case aR => have q := Kd.R_reads HO4.out; obtain ⟨A', c', e, _, hC⟩ := q; cases e; exact hC); (case aS => exact Nat.le_trans HG.out (Nat.le_of_lt (blk_lt HC4.out))); (case aL => have := LN.out; simp; omega); intro v4 w4 ho4 hb4 hg4 hat4; have HNE4 := Kd.R_ne HL4.out HC4.out (by decide); have HC5 := Aside0.mk (blk_grown HC4.out hg4 HNE4); have HL5 := Aside0.mk (show Kd.R k88 88 w4 base (fun _ => True) v4 xs from ho4); have HB5 := Aside0.mk hb4; have HK5 := Aside0.mk (Kept.of_grown hg4 HK4.out (fun k hk => .inr (by obtain ⟨b, hb, hle⟩ := HN4.out; rw [hb] at hk; cases hk; exact Nat.le_trans HK3.out.1 hle))); have HN5 := Aside0.mk (show ∀ k, v4.ownBlock = some k → w.heap.size ≤ k from fresh_app HN4.out hat4 HK3.out.1 HK4.out.1); clear k3 ho4 hb4 hg4 hat4 HNE4)
    | ((with_reducible refine gate_builtin (b := .append) (xs := #[.tmp 51, .tmp 56]) rfl ?_); at_builtin; refine Kd.R_append k88 (w0 := w0) base rfl (.tmp 51) (.tmp 56) 45 88 (.agg #[(.int .i64 0), (.int .i64 0), (.bool false)]) 24 rfl Try.underlying45 info88' rfl (by decide) (by omega) v4 xs (⟨raw, by_, step⟩ : S88) [.int .i64 raw, .int .i64 by_, .bool step] (fun _ => True) (fun _ => False) rfl rfl ?aP (fun _ hk => hk.elim) (fun _ _ => trivial) HL5.out HB5.out ?aS ?aL ?_; (case aP => exact k88_mkM _ _ _ (⟨raw, by_, step⟩ : S88)); (case aS => exact Nat.le_trans HG.out (Nat.le_of_lt (blk_lt HC5.out))); (case aL => have := LN.out; omega); intro v5 w5 ho5 hb5 hg5 hat5; have HNE5 := Kd.R_ne HL5.out HC5.out (by decide); have HC6 := Aside0.mk (blk_grown HC5.out hg5 HNE5); have HL6 := Aside0.mk ho5; have HB6 := Aside0.mk hb5; have HK6 := Aside0.mk (Kept.of_grown hg5 HK5.out (fun k hk => .inr (HN5.out k hk))); obtain ⟨A1, c1, hv1, _, _⟩ := Kd.R_reads ho5; obtain ⟨n1, hn1⟩ : ∃ n1, (xs ++ [(⟨raw, by_, step⟩ : S88)]).length = n1 := ⟨_, rfl⟩; rw [hn1] at hv1; subst hv1; have k3 := (blk_cell HC6.out 3).trans (show _ = some (Value.slice A xs.length c) from rfl); have f3 := blk_frozen HC6.out 3; clear ho5 hb5 hg5 hat5 HNE5 hn1))
  go_ret
  refine ⟨rfl, _, ?_, Kd.R_set HL6.out HC6.out (by decide) 3 _, HB6.out.setCell (p := ⟨g, 3, none⟩) HG.out _, HK6.out.setCell (p := ⟨g, 3, none⟩) (.inl (.inl rfl)) _⟩
  rw [HZ.out]
  exact blk_put HC6.out 3 _ rfl

set_option maxHeartbeats 4000000 in
theorem rrate_ok (g : Nat) (raw0 sum rate raw r : Int) (v : Value) (xs : List S88) (base : Nat) (w0 w : World) (hc : Clk w g 47 raw0 sum rate v) (ho : Kd.R k88 88 w base (fun _ => True) v xs) (hB : Below base w0 w) (hg : base ≤ g) (hG : Good raw0 sum rate) (hw : Bd raw) (hok : rateErr raw0 raw r = 0) :
    Calls Try.prog 39 #[.pointer (some ⟨g, 0, none⟩), .int .i64 raw, .int .i64 r] w fun e w' => e = .returned (.int .i64 0) ∧ Clk w' g 47 raw (tot raw0 sum rate raw) r v ∧ Kd.R k88 88 w' base (fun _ => True) v xs ∧ Below base w0 w' ∧ Kept w w' (Touch w g 88) := by
  have hcor : err raw0 raw = 0 ∧ -2147483648 ≤ r ∧ r ≤ 2147483648 := by
    unfold rateErr at hok
    by_cases a : err raw0 raw = 0
    · rw [if_neg (by omega)] at hok
      split at hok <;> omega
    · rw [if_pos a] at hok
      exact absurd hok a
  have HA := rtotal_calls g raw0 sum rate raw v w hc hG hw
  unfold totE at HA
  rw [if_pos hcor.1, hcor.1] at HA
  replace HA := Aside0.mk HA
  obtain ⟨y, hy⟩ : ∃ y, tot raw0 sum rate raw = y := ⟨_, rfl⟩
  rw [hy] at HA ⊢
  clear hy
  have d1 : decide (r < -2147483648) = false := decide_eq_false (by omega)
  have d2 : decide (2147483648 < r) = false := decide_eq_false (by omega)
  have HO := Aside0.mk ho
  have HB := Aside0.mk hB
  have HG := Aside0.mk hg
  have HS := Aside0.mk (Nat.le_trans hg (Nat.le_of_lt (blk_lt hc)))
  have HC := Aside0.mk hc
  clear hok hcor hG hw ho hB hg hc
  go_enter Try.func39, Try.ntmps39
  go_wp2_with (first | (go_at_call 23; (with_reducible refine (HA.out).mono ?_); rintro e w1 ⟨rfl, b1⟩; have B1 := Aside0.mk b1; have HC1 := Aside0.mk (blk_below HC.out b1); have k0 := (blk_cell HC1.out 0).trans (show _ = some (Value.int .i64 raw0) from rfl); have k1 := (blk_cell HC1.out 1).trans (show _ = some (Value.int .i64 sum) from rfl); have k2 := (blk_cell HC1.out 2).trans (show _ = some (Value.int .i64 rate) from rfl); have f0 := blk_frozen HC1.out 0; have f1 := blk_frozen HC1.out 1; have f2 := blk_frozen HC1.out 2; clear b1))
  have s1 := blk_put HC1.out 1 (.int .i64 y) rfl
  have s2 := blk_put s1 0 (.int .i64 raw) rfl
  have HC2 := blk_put s2 2 (.int .i64 r) rfl
  have HO2 := Kd.R_set (Kd.R_set (Kd.R_set (Kd.R_below HO.out B1.out) HC1.out (by decide) 1 (.int .i64 y)) s1 (by decide) 0 (.int .i64 raw)) s2 (by decide) 2 (.int .i64 r)
  have HB2 := (((below_then HB.out HS.out B1.out).setCell (p := ⟨g, 1, none⟩) HG.out (.int .i64 y)).setCell (p := ⟨g, 0, none⟩) HG.out (.int .i64 raw)).setCell (p := ⟨g, 2, none⟩) HG.out (.int .i64 r)
  have HK2 := (((Kept.of_below B1.out (Touch w g 88)).setCell (p := ⟨g, 1, none⟩) (.inl (.inl rfl)) (.int .i64 y)).setCell (p := ⟨g, 0, none⟩) (.inl (.inl rfl)) (.int .i64 raw)).setCell (p := ⟨g, 2, none⟩) (.inl (.inl rfl)) (.int .i64 r)
  go_ret
  exact ⟨rfl, HC2, HO2, HB2, HK2⟩

theorem rrate_no (g : Nat) (raw0 sum rate raw r : Int) (v : Value) (w : World) (hc : Clk w g 47 raw0 sum rate v) (hG : Good raw0 sum rate) (hw : Bd raw) (hok : rateErr raw0 raw r ≠ 0) :
    Calls Try.prog 39 #[.pointer (some ⟨g, 0, none⟩), .int .i64 raw, .int .i64 r] w fun e w' => e = .returned (.int .i64 (rateErr raw0 raw r)) ∧ Below w.heap.size w w' := by
  have HA := rtotal_calls g raw0 sum rate raw v w hc hG hw
  unfold totE at HA
  unfold rateErr at hok ⊢
  clear hG hw hc
  by_cases he : err raw0 raw = 0
  · rw [if_neg (by omega)] at hok ⊢
    rw [he] at HA
    replace HA := Aside0.mk HA
    by_cases q : r < -2147483648
    · rw [if_pos (.inl q)]
      have d1 : decide (r < -2147483648) = true := decide_eq_true q
      clear q hok he
      go_enter Try.func39, Try.ntmps39
      go_wp2_with (first | (go_at_call 23; (with_reducible refine (HA.out).mono ?_); rintro e w1 ⟨rfl, b1⟩; have B1 := Aside0.mk b1; clear b1))
      go_ret
      exact ⟨rfl, B1.out⟩
    · by_cases q2 : 2147483648 < r
      · rw [if_pos (.inr q2)]
        have d1 : decide (r < -2147483648) = false := decide_eq_false q
        have d2 : decide (2147483648 < r) = true := decide_eq_true q2
        clear q q2 hok he
        go_enter Try.func39, Try.ntmps39
        go_wp2_with (first | (go_at_call 23; (with_reducible refine (HA.out).mono ?_); rintro e w1 ⟨rfl, b1⟩; have B1 := Aside0.mk b1; clear b1))
        go_ret
        exact ⟨rfl, B1.out⟩
      · rw [if_neg (by omega)] at hok
        exact absurd rfl hok
  · rw [if_pos he]
    have hb : (err raw0 raw == 0) = false := beq_eq_false_iff_ne.mpr he
    rw [if_neg he] at HA
    obtain ⟨q, hq⟩ : ∃ q, err raw0 raw = q := ⟨_, rfl⟩
    rw [hq] at HA hb ⊢
    replace HA := Aside0.mk HA
    clear hok he hq
    go_enter Try.func39, Try.ntmps39
    go_wp2_with (first | (go_at_call 23; (with_reducible refine (HA.out).mono ?_); rintro e w1 ⟨rfl, b1⟩; have B1 := Aside0.mk b1; clear b1))
    go_ret
    exact ⟨rfl, B1.out⟩


theorem rcorrect_no (g : Nat) (raw0 sum rate raw by_ : Int) (step : Bool) (v : Value) (xs : List S88) (base : Nat) (w : World) (hc : Clk w g 47 raw0 sum rate v) (ho : Kd.R k88 88 w base (fun _ => True) v xs) (hG : Good raw0 sum rate) (hw : Bd raw) (hb : Bd by_) (hok : corErr raw0 raw by_ xs.length ≠ 0) :
    Calls Try.prog 38 #[.pointer (some ⟨g, 0, none⟩), .int .i64 raw, .int .i64 by_, .bool step] w fun e w' => e = .returned (.int .i64 (corErr raw0 raw by_ xs.length)) ∧ Below w.heap.size w w' := by
  have HA := rtotal_calls g raw0 sum rate raw v w hc hG hw
  unfold totE at HA
  obtain ⟨A, c, hv, _, _⟩ := Kd.R_reads ho
  subst hv
  have HC := Aside0.mk hc
  clear hG hw hb ho hc
  unfold corErr at hok ⊢
  by_cases he : err raw0 raw = 0
  · rw [if_neg (by omega)] at hok ⊢
    rw [he] at HA
    replace HA := Aside0.mk HA
    by_cases q : by_ < -1125899906842624
    · rw [if_pos (.inl q)]
      have d1 : decide (by_ < -1125899906842624) = true := decide_eq_true q
      clear q hok he
      go_enter Try.func38, Try.ntmps38
      go_wp2_with (first | (go_at_call 23; (with_reducible refine (HA.out).mono ?_); rintro e w1 ⟨rfl, b1⟩; have B1 := Aside0.mk b1; clear b1))
      go_ret
      exact ⟨rfl, B1.out⟩
    · by_cases q2 : 1125899906842624 < by_
      · rw [if_pos (.inr q2)]
        have d1 : decide (by_ < -1125899906842624) = false := decide_eq_false q
        have d2 : decide (1125899906842624 < by_) = true := decide_eq_true q2
        clear q q2 hok he
        go_enter Try.func38, Try.ntmps38
        go_wp2_with (first | (go_at_call 23; (with_reducible refine (HA.out).mono ?_); rintro e w1 ⟨rfl, b1⟩; have B1 := Aside0.mk b1; clear b1))
        go_ret
        exact ⟨rfl, B1.out⟩
      · rw [if_neg (by omega)] at hok ⊢
        by_cases n : 1000 ≤ xs.length
        · rw [if_pos n]
          have d1 : decide (by_ < -1125899906842624) = false := decide_eq_false q
          have d2 : decide (1125899906842624 < by_) = false := decide_eq_false q2
          have d4 : ((1000 : Int) ≤ (xs.length : Int)) = True := eq_true (by omega)
          clear q q2 n hok he
          go_enter Try.func38, Try.ntmps38
          go_wp2_with (first | (go_at_call 23; (with_reducible refine (HA.out).mono ?_); rintro e w1 ⟨rfl, b1⟩; have B1 := Aside0.mk b1; have HC1 := Aside0.mk (blk_below HC.out b1); have k3 := (blk_cell HC1.out 3).trans (show _ = some (Value.slice A xs.length c) from rfl); clear b1))
          go_ret
          exact ⟨rfl, B1.out⟩
        · rw [if_neg n] at hok
          exact absurd rfl hok
  · rw [if_pos he]
    have hb : (err raw0 raw == 0) = false := beq_eq_false_iff_ne.mpr he
    rw [if_neg he] at HA
    obtain ⟨q, hq⟩ : ∃ q, err raw0 raw = q := ⟨_, rfl⟩
    rw [hq] at HA hb ⊢
    replace HA := Aside0.mk HA
    clear hok he hq
    go_enter Try.func38, Try.ntmps38
    go_wp2_with (first | (go_at_call 23; (with_reducible refine (HA.out).mono ?_); rintro e w1 ⟨rfl, b1⟩; have B1 := Aside0.mk b1; clear b1))
    go_ret
    exact ⟨rfl, B1.out⟩

theorem rnew_calls (raw : Int) (w : World) (hr : Bd raw) :
    Calls Try.prog 14 #[.int .i64 raw] w fun e w' => ∃ g, e = .returned (.pointer (some ⟨g, 0, none⟩)) ∧ w.heap.size ≤ g ∧ Clk w' g 47 (begun raw) 0 0 (.slice none 0 0) ∧ Below w.heap.size w w' := by
  have hx : (if (0 : Int) < (if (4611686018427387904 : Int) < raw then 4611686018427387904 else raw) then (if (4611686018427387904 : Int) < raw then 4611686018427387904 else raw) else 0) = begun raw := by
    unfold begun
    (repeat' split) <;> omega
  go_enter Try.func14, Try.ntmps14
  go_wp2_with (fail)
  all_goals
    go_ret
    exact ⟨_, rfl, Nat.le_refl _, blk_new _ _, below_alloc (Below.refl _ _) _⟩

end Go.Proofs.Ytoddgpaopejeoaa.Le
