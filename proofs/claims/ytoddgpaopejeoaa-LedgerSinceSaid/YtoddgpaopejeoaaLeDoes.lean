/- Contracts of the clock's and the document's methods over whatever they have come to, and of a call at both; each says its own conditions. -/
import Derived.Test.YtoddgpaopejeoaaBLed
import Derived.Test.YtoddgpaopejeoaaMLedx0
import Derived.Test.YtoddgpaopejeoaaMLedx1
import Derived.Test.YtoddgpaopejeoaaMLedx2
import Derived.Test.YtoddgpaopejeoaaMLedx3
import Derived.Test.YtoddgpaopejeoaaMLedx4
import Derived.WalkKit
import Derived.Deep.RegionLaw
import Derived.Deep.RegionWith
import Derived.Deep.RegionHeld3
import Derived.BigRegion
import Derived.BigQuiet
import Derived.StillTailTactics
import Derived.Test.YtoddgpaopejeoaaLeAt
import Derived.Test.YtoddgpaopejeoaaLeRead
import Derived.Test.YtoddgpaopejeoaaLeCor
import Derived.Test.YtoddgpaopejeoaaLeRate
import Derived.Test.YtoddgpaopejeoaaLeRef
import Derived.Test.YtoddgpaopejeoaaLeRCor
namespace Go.Proofs.Ytoddgpaopejeoaa.Le
open Go.RowKit Go.Proofs.Ytoddgpaopejeoaa.MLed Go.Proofs.Ytoddgpaopejeoaa.Pure Go.Proofs.YtoddgpaopejeoaaW.PrintWords Go.Proofs.YtoddgpaopejeoaaW.PrintLast Go.Proofs.YtoddgpaopejeoaaW.PrintMore
attribute [local go_sem] max2_int min2_int max_two min_two max_three min_three max_four min_four
set_option linter.unusedVariables false
set_option linter.unusedSimpArgs false
structure LSt where
  raw : Int
  sum : Int
  rate : Int
  xs : List S87
def to88 (x : S87) : S88 := ⟨x.f0, x.f1, x.f2⟩
def LSt.good (s : LSt) : Prop := Good s.raw s.sum s.rate
def LSt.cor (s : LSt) (raw by_ : Int) (step : Bool) : LSt := if corErr s.raw raw by_ s.xs.length = 0 then ⟨raw, cutv (tot s.raw s.sum s.rate raw + by_), s.rate, s.xs ++ [⟨raw, by_, step⟩]⟩ else s
def LSt.rt (s : LSt) (raw r : Int) : LSt := if rateErr s.raw raw r = 0 then ⟨raw, tot s.raw s.sum s.rate raw, r, s.xs⟩ else s
def PC (w : World) (g base : Nat) (s : LSt) : Prop := ∃ v, Clk w g 82 s.raw s.sum s.rate v ∧ Kd.R k87 87 w base (fun _ => True) v s.xs
def RC (w : World) (g base : Nat) (s : LSt) : Prop := ∃ v, Clk w g 47 s.raw s.sum s.rate v ∧ Kd.R k88 88 w base (fun _ => True) v (s.xs.map to88)

theorem err_bd (raw0 raw : Int) (h : err raw0 raw = 0) : 0 ≤ raw ∧ raw ≤ 4611686018427387904 ∧ raw0 ≤ raw := by
  rcases err_cases raw0 raw with q | q | q | q <;> omega
theorem corErr_err {raw0 raw by_ : Int} {n : Nat} (h : corErr raw0 raw by_ n = 0) : err raw0 raw = 0 := by
  unfold corErr at h
  by_cases a : err raw0 raw = 0
  · exact a
  · rw [if_pos a] at h
    exact absurd h a
theorem rateErr_err {raw0 raw r : Int} (h : rateErr raw0 raw r = 0) : err raw0 raw = 0 ∧ -2147483648 ≤ r ∧ r ≤ 2147483648 := by
  unfold rateErr at h
  by_cases a : err raw0 raw = 0
  · rw [if_neg (by omega)] at h
    refine ⟨a, ?_⟩
    split at h <;> omega
  · rw [if_pos a] at h
    exact absurd h a
theorem LSt.cor_good {s : LSt} (h : s.good) (raw by_ : Int) (step : Bool) : (s.cor raw by_ step).good := by
  unfold LSt.cor
  by_cases q : corErr s.raw raw by_ s.xs.length = 0
  · rw [if_pos q]
    have := err_bd _ _ (corErr_err q)
    exact ⟨⟨this.1, this.2.1⟩, cutv_bd _, h.2.2⟩
  · rw [if_neg q]; exact h
theorem LSt.rt_good {s : LSt} (h : s.good) (raw r : Int) : (s.rt raw r).good := by
  unfold LSt.rt
  by_cases q : rateErr s.raw raw r = 0
  · rw [if_pos q]
    have h1 := rateErr_err q
    have := err_bd _ _ h1.1
    exact ⟨⟨this.1, this.2.1⟩, cutv_bd _, h1.2⟩
  · rw [if_neg q]; exact h

theorem R_below_ {α : Type} {d : Kd α} {e base : Nat} {w w' : World} {v : Value} {xs : List α} (h : d.R e w base (fun _ => True) v xs) (hb : Below w.heap.size w w') : d.R e w' base (fun _ => True) v xs := Kd.R_below h hb
theorem PC.below {w w' : World} {g base : Nat} {s : LSt} (h : PC w g base s) (hb : Below w.heap.size w w') : PC w' g base s := by
  obtain ⟨v, h1, h2⟩ := h
  exact ⟨v, blk_below h1 hb, Kd.R_below h2 hb⟩
theorem RC.below {w w' : World} {g base : Nat} {s : LSt} (h : RC w g base s) (hb : Below w.heap.size w w') : RC w' g base s := by
  obtain ⟨v, h1, h2⟩ := h
  exact ⟨v, blk_below h1 hb, Kd.R_below h2 hb⟩
theorem not_touch {w : World} {g e t : Nat} {cs : Array Value} {k tk : Nat} {ck : Array Value} (hg : w.heap[g]? = some (.cells cs t (0, 0))) (hk : w.heap[k]? = some (.cells ck tk (0, 0))) (h1 : tk ≠ t) (h2 : tk ≠ e) : ¬ Touch w g e k := by
  rintro (rfl | ⟨c, hc⟩)
  · rw [hg] at hk
    injection hk with hk
    injection hk with _ h _
    exact h1 h.symm
  · rw [hc] at hk
    injection hk with hk
    injection hk with _ h _
    exact h2 h.symm
theorem RC.kept {w w' : World} {g g2 base : Nat} {s s' : LSt} (h : RC w g2 base s) (hp : PC w g base s') (hk : Kept w w' (Touch w g 87)) : RC w' g2 base s := by
  obtain ⟨v, h1, h2⟩ := h
  obtain ⟨v', p1, _⟩ := hp
  refine ⟨v, blk_kept h1 hk (not_touch p1 h1 (by decide) (by decide)), ?_⟩
  refine Kd.R_mono (Kd.R_move (Kd.R_bound h2) (fun k hk2 => ?_)) (fun _ hk => hk.1)
  obtain ⟨_, _, hlt, q, hq, c, hc⟩ := hk2
  have hq' : q = 88 := by
    have h' : q ∈ [88] := hq
    simpa using h'
  subst hq'
  exact hk.2 k hlt (not_touch p1 hc (by decide) (by decide))
theorem PC.kept {w w' : World} {g g2 base : Nat} {s s' : LSt} (h : PC w g base s) (hp : RC w g2 base s') (hk : Kept w w' (Touch w g2 88)) : PC w' g base s := by
  obtain ⟨v, h1, h2⟩ := h
  obtain ⟨v', p1, _⟩ := hp
  refine ⟨v, blk_kept h1 hk (not_touch p1 h1 (by decide) (by decide)), ?_⟩
  refine Kd.R_mono (Kd.R_move (Kd.R_bound h2) (fun k hk2 => ?_)) (fun _ hk => hk.1)
  obtain ⟨_, _, hlt, q, hq, c, hc⟩ := hk2
  have hq' : q = 87 := by
    have h' : q ∈ [87] := hq
    simpa using h'
  subst hq'
  exact hk.2 k hlt (not_touch p1 hc (by decide) (by decide))

theorem pcorrect (g base : Nat) (s : LSt) (raw by_ : Int) (step : Bool) (w0 w : World) (hp : PC w g base s) (hG : s.good) (hB : Below base w0 w) (hS : base ≤ w.heap.size) (hg : base ≤ g) (hw : Bd raw) (hb : Bd by_) :
    Calls Try.prog 18 #[.pointer (some ⟨g, 0, none⟩), .int .i64 raw, .int .i64 by_, .bool step] w fun e w' => e = .returned (.int .i64 (corErr s.raw raw by_ s.xs.length)) ∧ PC w' g base (s.cor raw by_ step) ∧ Below base w0 w' ∧ Kept w w' (Touch w g 87) := by
  obtain ⟨v, h1, h2⟩ := hp
  unfold LSt.cor
  by_cases q : corErr s.raw raw by_ s.xs.length = 0
  · rw [if_pos q, q]
    exact (correct_ok g s.raw s.sum s.rate raw by_ step v s.xs base w0 w h1 h2 hB hg hG hw hb q).mono fun e w' h => ⟨h.1, by obtain ⟨_, v', a, b, c, d⟩ := h; exact ⟨⟨v', a, b⟩, c, d⟩⟩
  · rw [if_neg q]
    exact (correct_no g s.raw s.sum s.rate raw by_ step v s.xs base w h1 h2 hG hw hb q).mono fun e w' h => ⟨h.1, ⟨v, blk_below h1 h.2, Kd.R_below h2 h.2⟩, below_then hB hS h.2, Kept.of_below h.2 _⟩
theorem prate (g base : Nat) (s : LSt) (raw r : Int) (w0 w : World) (hp : PC w g base s) (hG : s.good) (hB : Below base w0 w) (hS : base ≤ w.heap.size) (hg : base ≤ g) (hw : Bd raw) :
    Calls Try.prog 21 #[.pointer (some ⟨g, 0, none⟩), .int .i64 raw, .int .i64 r] w fun e w' => e = .returned (.int .i64 (rateErr s.raw raw r)) ∧ PC w' g base (s.rt raw r) ∧ Below base w0 w' ∧ Kept w w' (Touch w g 87) := by
  obtain ⟨v, h1, h2⟩ := hp
  unfold LSt.rt
  by_cases q : rateErr s.raw raw r = 0
  · rw [if_pos q, q]
    exact (rate_ok g s.raw s.sum s.rate raw r v s.xs base w0 w h1 h2 hB hg hG hw q).mono fun e w' h => ⟨h.1, by obtain ⟨_, a, b, c, d⟩ := h; exact ⟨⟨v, a, b⟩, c, d⟩⟩
  · rw [if_neg q]
    exact (rate_no g s.raw s.sum s.rate raw r v w h1 hG hw q).mono fun e w' h => ⟨h.1, ⟨v, blk_below h1 h.2, Kd.R_below h2 h.2⟩, below_then hB hS h.2, Kept.of_below h.2 _⟩
theorem rcorrect (g base : Nat) (s : LSt) (raw by_ : Int) (step : Bool) (w0 w : World) (hp : RC w g base s) (hG : s.good) (hB : Below base w0 w) (hS : base ≤ w.heap.size) (hg : base ≤ g) (hw : Bd raw) (hb : Bd by_) :
    Calls Try.prog 38 #[.pointer (some ⟨g, 0, none⟩), .int .i64 raw, .int .i64 by_, .bool step] w fun e w' => e = .returned (.int .i64 (corErr s.raw raw by_ s.xs.length)) ∧ RC w' g base (s.cor raw by_ step) ∧ Below base w0 w' ∧ Kept w w' (Touch w g 88) := by
  obtain ⟨v, h1, h2⟩ := hp
  unfold LSt.cor
  have hl : (s.xs.map to88).length = s.xs.length := List.length_map _
  by_cases q : corErr s.raw raw by_ s.xs.length = 0
  · rw [if_pos q, q]
    refine (rcorrect_ok g s.raw s.sum s.rate raw by_ step v _ base w0 w h1 h2 hB hg hG hw hb (by rw [hl]; exact q)).mono fun e w' h => ⟨h.1, ?_⟩
    obtain ⟨_, v', a, b, c, d⟩ := h
    refine ⟨⟨v', a, ?_⟩, c, d⟩
    rw [List.map_append]
    exact b
  · rw [if_neg q]
    have h := rcorrect_no g s.raw s.sum s.rate raw by_ step v _ base w h1 h2 hG hw hb (by rw [hl]; exact q)
    rw [hl] at h
    exact h.mono fun e w' h => ⟨h.1, ⟨v, blk_below h1 h.2, Kd.R_below h2 h.2⟩, below_then hB hS h.2, Kept.of_below h.2 _⟩
theorem rrate (g base : Nat) (s : LSt) (raw r : Int) (w0 w : World) (hp : RC w g base s) (hG : s.good) (hB : Below base w0 w) (hS : base ≤ w.heap.size) (hg : base ≤ g) (hw : Bd raw) :
    Calls Try.prog 39 #[.pointer (some ⟨g, 0, none⟩), .int .i64 raw, .int .i64 r] w fun e w' => e = .returned (.int .i64 (rateErr s.raw raw r)) ∧ RC w' g base (s.rt raw r) ∧ Below base w0 w' ∧ Kept w w' (Touch w g 88) := by
  obtain ⟨v, h1, h2⟩ := hp
  unfold LSt.rt
  by_cases q : rateErr s.raw raw r = 0
  · rw [if_pos q, q]
    exact (rrate_ok g s.raw s.sum s.rate raw r v _ base w0 w h1 h2 hB hg hG hw q).mono fun e w' h => ⟨h.1, by obtain ⟨_, a, b, c, d⟩ := h; exact ⟨⟨v, a, b⟩, c, d⟩⟩
  · rw [if_neg q]
    exact (rrate_no g s.raw s.sum s.rate raw r v w h1 hG hw q).mono fun e w' h => ⟨h.1, ⟨v, blk_below h1 h.2, Kd.R_below h2 h.2⟩, below_then hB hS h.2, Kept.of_below h.2 _⟩

/-- What a call of a law's makes of it. -/
def LSt.act (s : LSt) (k raw by_ : Int) (step : Bool) : LSt := if k = 0 then s.cor raw by_ step else if k = 1 then s.rt raw by_ else s
theorem LSt.act_good {s : LSt} (h : s.good) (k raw by_ : Int) (step : Bool) : (s.act k raw by_ step).good := by
  unfold LSt.act
  by_cases q : k = 0
  · rw [if_pos q]; exact LSt.cor_good h _ _ _
  · rw [if_neg q]
    by_cases q : k = 1
    · rw [if_pos q]; exact LSt.rt_good h _ _
    · rw [if_neg q]; exact h

theorem cells3 {w : World} {g : Nat} {k raw by_ : Int} {step : Bool} (h : w.heap[g]? = some (.cells #[.int .i64 k, .int .i64 raw, .int .i64 by_, .bool step] 30 (0, 0))) : w.cell? ⟨g, 0, none⟩ = some (.int .i64 k) ∧ w.cell? ⟨g, 1, none⟩ = some (.int .i64 raw) ∧ w.cell? ⟨g, 2, none⟩ = some (.int .i64 by_) ∧ w.cell? ⟨g, 3, none⟩ = some (.bool step) :=
  ⟨(blk_cell h 0).trans rfl, (blk_cell h 1).trans rfl, (blk_cell h 2).trans rfl, (blk_cell h 3).trans rfl⟩
/-- Both clocks, and the box of what is called. -/
structure Bth (w0 w : World) (g g2 base gb : Nat) (s s2 : LSt) (k raw by_ : Int) (step : Bool) : Prop where
  p : PC w g base s
  r : RC w g2 base s2
  bel : Below base w0 w
  siz : base ≤ w.heap.size
  box : w.heap[gb]? = some (.cells #[.int .i64 k, .int .i64 raw, .int .i64 by_, .bool step] 30 (0, 0))
theorem Bth.below {w0 w w' : World} {g g2 base gb : Nat} {s s2 : LSt} {k raw by_ : Int} {step : Bool} (h : Bth w0 w g g2 base gb s s2 k raw by_ step) (hb : Below w.heap.size w w') : Bth w0 w' g g2 base gb s s2 k raw by_ step :=
  ⟨h.p.below hb, h.r.below hb, below_then h.bel h.siz hb, Nat.le_trans h.siz hb.size, blk_below h.box hb⟩
theorem Bth.drew {w0 w : World} {g g2 base gb : Nat} {s s2 : LSt} {k raw by_ : Int} {step : Bool} (h : Bth w0 w g g2 base gb s s2 k raw by_ step) : Bth w0 w.drew g g2 base gb s s2 k raw by_ step := h.below (below_drew (Below.refl _ _))
theorem Bth.pstep {w0 w w' : World} {g g2 base gb : Nat} {s s2 s' : LSt} {k raw by_ : Int} {step : Bool} (h : Bth w0 w g g2 base gb s s2 k raw by_ step) (hp : PC w' g base s') (hb : Below base w0 w') (hk : Kept w w' (Touch w g 87)) : Bth w0 w' g g2 base gb s' s2 k raw by_ step := by
  obtain ⟨v, p1, _⟩ := h.p
  exact ⟨hp, h.r.kept h.p hk, hb, Nat.le_trans h.siz hk.1, blk_kept h.box hk (not_touch p1 h.box (by decide) (by decide))⟩
theorem Bth.rstep {w0 w w' : World} {g g2 base gb : Nat} {s s2 s' : LSt} {k raw by_ : Int} {step : Bool} (h : Bth w0 w g g2 base gb s s2 k raw by_ step) (hr : RC w' g2 base s') (hb : Below base w0 w') (hk : Kept w w' (Touch w g2 88)) : Bth w0 w' g g2 base gb s s' k raw by_ step := by
  obtain ⟨v, p1, _⟩ := h.r
  exact ⟨h.p.kept h.r hk, hr, hb, Nat.le_trans h.siz hk.1, blk_kept h.box hk (not_touch p1 h.box (by decide) (by decide))⟩

set_option maxHeartbeats 4000000 in
theorem does0 (g g2 base : Nat) (s : LSt) (raw by_ : Int) (step : Bool) (w0 w : World) (hp : PC w g base s) (hr : RC w g2 base s) (hG : s.good) (hB : Below base w0 w) (hS : base ≤ w.heap.size) (hg : base ≤ g) (hg2 : base ≤ g2) (hw : Bd raw) (hb : Bd by_) :
    Calls Try.prog 15 #[.pointer (some ⟨g, 0, none⟩), .pointer (some ⟨g2, 0, none⟩), .agg #[.int .i64 0, .int .i64 raw, .int .i64 by_, .bool step]] w fun e w' => e = .returned (.bool true) ∧ PC w' g base (s.cor raw by_ step) ∧ RC w' g2 base (s.cor raw by_ step) ∧ Below base w0 w' ∧ base ≤ w'.heap.size := by
  have HX := Aside0.mk (show Bth w0 (w.alloc (.cells #[.int .i64 0, .int .i64 raw, .int .i64 by_, .bool step] 30)) g g2 base w.heap.size s s 0 raw by_ step from ⟨hp.below (below_alloc (Below.refl _ _) _), hr.below (below_alloc (Below.refl _ _) _), below_then hB hS (below_alloc (Below.refl _ _) _), Nat.le_trans hS (below_alloc (Below.refl _ _) _).size, blk_new w _⟩)
  have HG := Aside0.mk hG
  have HL := Aside0.mk (And.intro hg hg2)
  have HW := Aside0.mk (And.intro hw hb)
  obtain ⟨er, hec⟩ : ∃ er, corErr s.raw raw by_ s.xs.length = er := ⟨_, rfl⟩
  have HE := Aside0.mk hec
  clear hp hr hG hB hS hg hg2 hw hb hec
  go_enter Try.func15, Try.ntmps15
  go_wp2_with (fail)
  have HX1 := Aside0.mk HX.out.drew
  clear HX
  obtain ⟨k0, k1, k2, k3⟩ := cells3 HX1.out.box
  go_region_held3 (fun w' => w'.cell? ⟨w.heap.size, 1, none⟩ = some (.int .i64 raw) ∧ w'.cell? ⟨w.heap.size, 2, none⟩ = some (.int .i64 by_) ∧ w'.cell? ⟨w.heap.size, 3, none⟩ = some (.bool step)) (refine ⟨?_, ?_, ?_⟩ <;> assumption) (first
    | (go_at_call 18; (with_reducible refine (pcorrect g base s raw by_ step w0 _ HX1.out.p HG.out HX1.out.bel HX1.out.siz HL.out.1 HW.out.1 HW.out.2).mono ?_); rintro e w1 ⟨rfl, h1, h2, h3⟩; rw [HE.out]; have n1 := Aside0.mk (HX1.out.pstep h1 h2 h3); clear HX1 h1 h2 h3; have HX1 := n1; clear n1; obtain ⟨k0', k1', k2', k3'⟩ := cells3 HX1.out.box)
    | (go_at_call 38; (with_reducible refine (rcorrect g2 base s raw by_ step w0 _ HX1.out.r HG.out HX1.out.bel HX1.out.siz HL.out.2 HW.out.1 HW.out.2).mono ?_); rintro e w1 ⟨rfl, h1, h2, h3⟩; rw [HE.out]; have n1 := Aside0.mk (HX1.out.rstep h1 h2 h3); clear HX1 h1 h2 h3; have HX1 := n1; clear n1; obtain ⟨k0', k1', k2', k3'⟩ := cells3 HX1.out.box))
  all_goals
    go_wp2_with (fail)
    go_ret
    exact ⟨rfl, HX1.out.p, HX1.out.r, HX1.out.bel, HX1.out.siz⟩

set_option maxHeartbeats 4000000 in
theorem does1 (g g2 base : Nat) (s : LSt) (raw by_ : Int) (step : Bool) (w0 w : World) (hp : PC w g base s) (hr : RC w g2 base s) (hG : s.good) (hB : Below base w0 w) (hS : base ≤ w.heap.size) (hg : base ≤ g) (hg2 : base ≤ g2) (hw : Bd raw) (hb : Bd by_) :
    Calls Try.prog 15 #[.pointer (some ⟨g, 0, none⟩), .pointer (some ⟨g2, 0, none⟩), .agg #[.int .i64 1, .int .i64 raw, .int .i64 by_, .bool step]] w fun e w' => e = .returned (.bool true) ∧ PC w' g base (s.rt raw by_) ∧ RC w' g2 base (s.rt raw by_) ∧ Below base w0 w' ∧ base ≤ w'.heap.size := by
  have HX := Aside0.mk (show Bth w0 (w.alloc (.cells #[.int .i64 1, .int .i64 raw, .int .i64 by_, .bool step] 30)) g g2 base w.heap.size s s 1 raw by_ step from ⟨hp.below (below_alloc (Below.refl _ _) _), hr.below (below_alloc (Below.refl _ _) _), below_then hB hS (below_alloc (Below.refl _ _) _), Nat.le_trans hS (below_alloc (Below.refl _ _) _).size, blk_new w _⟩)
  have HG := Aside0.mk hG
  have HL := Aside0.mk (And.intro hg hg2)
  have HW := Aside0.mk (And.intro hw hb)
  obtain ⟨er, hec⟩ : ∃ er, rateErr s.raw raw by_ = er := ⟨_, rfl⟩
  have HE := Aside0.mk hec
  clear hp hr hG hB hS hg hg2 hw hb hec
  go_enter Try.func15, Try.ntmps15
  go_wp2_with (fail)
  have HX1 := Aside0.mk HX.out.drew
  clear HX
  obtain ⟨k0, k1, k2, k3⟩ := cells3 HX1.out.box
  go_region_held3 (fun w' => w'.cell? ⟨w.heap.size, 1, none⟩ = some (.int .i64 raw) ∧ w'.cell? ⟨w.heap.size, 2, none⟩ = some (.int .i64 by_)) (refine ⟨?_, ?_⟩ <;> assumption) (first
    | (go_at_call 21; (with_reducible refine (prate g base s raw by_ w0 _ HX1.out.p HG.out HX1.out.bel HX1.out.siz HL.out.1 HW.out.1).mono ?_); rintro e w1 ⟨rfl, h1, h2, h3⟩; rw [HE.out]; have n1 := Aside0.mk (HX1.out.pstep h1 h2 h3); clear HX1 h1 h2 h3; have HX1 := n1; clear n1; obtain ⟨k0', k1', k2', k3'⟩ := cells3 HX1.out.box)
    | (go_at_call 39; (with_reducible refine (rrate g2 base s raw by_ w0 _ HX1.out.r HG.out HX1.out.bel HX1.out.siz HL.out.2 HW.out.1).mono ?_); rintro e w1 ⟨rfl, h1, h2, h3⟩; rw [HE.out]; have n1 := Aside0.mk (HX1.out.rstep h1 h2 h3); clear HX1 h1 h2 h3; have HX1 := n1; clear n1; obtain ⟨k0', k1', k2', k3'⟩ := cells3 HX1.out.box))
  all_goals
    go_wp2_with (fail)
    go_ret
    exact ⟨rfl, HX1.out.p, HX1.out.r, HX1.out.bel, HX1.out.siz⟩

theorem does2 (g g2 base : Nat) (s : LSt) (raw by_ : Int) (step : Bool) (w0 w : World) (hp : PC w g base s) (hr : RC w g2 base s) (hG : s.good) (hB : Below base w0 w) (hS : base ≤ w.heap.size) (hg : base ≤ g) (hg2 : base ≤ g2) (hw : Bd raw) (hb : Bd by_) :
    Calls Try.prog 15 #[.pointer (some ⟨g, 0, none⟩), .pointer (some ⟨g2, 0, none⟩), .agg #[.int .i64 2, .int .i64 raw, .int .i64 by_, .bool step]] w fun e w' => e = .returned (.bool true) ∧ PC w' g base s ∧ RC w' g2 base s ∧ Below base w0 w' ∧ base ≤ w'.heap.size := by
  have HX := Aside0.mk (show Bth w0 (w.alloc (.cells #[.int .i64 2, .int .i64 raw, .int .i64 by_, .bool step] 30)) g g2 base w.heap.size s s 2 raw by_ step from ⟨hp.below (below_alloc (Below.refl _ _) _), hr.below (below_alloc (Below.refl _ _) _), below_then hB hS (below_alloc (Below.refl _ _) _), Nat.le_trans hS (below_alloc (Below.refl _ _) _).size, blk_new w _⟩)
  have HG := Aside0.mk hG
  have HW := Aside0.mk (And.intro hw hb)
  have HA : Aside0 (∀ W, PC W g base s → Calls Try.prog 16 #[.pointer (some ⟨g, 0, none⟩), .int .i64 raw] W fun e w' => e = .returned (.tuple #[.int .i64 (rdE s.raw s.sum s.rate raw), .int .i64 (err s.raw raw)]) ∧ Below W.heap.size W w') := ⟨fun W h => by obtain ⟨v, h1, _⟩ := h; exact read_calls g _ _ _ raw v W h1 HG.out HW.out.1⟩
  have HR : Aside0 (∀ W, RC W g2 base s → Calls Try.prog 40 #[.pointer (some ⟨g2, 0, none⟩), .int .i64 raw] W fun e w' => e = .returned (.tuple #[.int .i64 (rdE s.raw s.sum s.rate raw), .int .i64 (err s.raw raw)]) ∧ Below W.heap.size W w') := ⟨fun W h => by obtain ⟨v, h1, _⟩ := h; exact rread_calls g2 _ _ _ raw v W h1 HG.out HW.out.1⟩
  obtain ⟨er, hec⟩ : ∃ er, err s.raw raw = er := ⟨_, rfl⟩
  obtain ⟨vl, hvl⟩ : ∃ vl, rdE s.raw s.sum s.rate raw = vl := ⟨_, rfl⟩
  rw [hec, hvl] at HA HR
  clear hp hr hG hB hS hg hg2 hw hb hec hvl
  obtain ⟨k0, k1, k2, k3⟩ := cells3 HX.out.box
  go_enter Try.func15, Try.ntmps15
  go_wp2_with (first
    | (go_at_call 16; (with_reducible refine (HA.out _ HX.out.p).mono ?_); rintro e w1 ⟨rfl, h1⟩; have n1 := Aside0.mk (HX.out.below h1); clear HX h1; have HX := n1; clear n1; obtain ⟨k0', k1', k2', k3'⟩ := cells3 HX.out.box)
    | (go_at_call 40; (with_reducible refine (HR.out _ HX.out.r).mono ?_); rintro e w1 ⟨rfl, h1⟩; have n1 := Aside0.mk (HX.out.below h1); clear HX h1; have HX := n1; clear n1; obtain ⟨k0', k1', k2', k3'⟩ := cells3 HX.out.box))
  all_goals
    go_ret
    exact ⟨rfl, HX.out.p, HX.out.r, HX.out.bel, HX.out.siz⟩

theorem does3 (g g2 base : Nat) (s : LSt) (raw by_ : Int) (step : Bool) (w0 w : World) (hp : PC w g base s) (hr : RC w g2 base s) (hG : s.good) (hB : Below base w0 w) (hS : base ≤ w.heap.size) (hg : base ≤ g) (hg2 : base ≤ g2) (hw : Bd raw) (hb : Bd by_) :
    Calls Try.prog 15 #[.pointer (some ⟨g, 0, none⟩), .pointer (some ⟨g2, 0, none⟩), .agg #[.int .i64 3, .int .i64 raw, .int .i64 by_, .bool step]] w fun e w' => e = .returned (.bool true) ∧ PC w' g base s ∧ RC w' g2 base s ∧ Below base w0 w' ∧ base ≤ w'.heap.size := by
  have HX := Aside0.mk (show Bth w0 (w.alloc (.cells #[.int .i64 3, .int .i64 raw, .int .i64 by_, .bool step] 30)) g g2 base w.heap.size s s 3 raw by_ step from ⟨hp.below (below_alloc (Below.refl _ _) _), hr.below (below_alloc (Below.refl _ _) _), below_then hB hS (below_alloc (Below.refl _ _) _), Nat.le_trans hS (below_alloc (Below.refl _ _) _).size, blk_new w _⟩)
  have HG := Aside0.mk hG
  have HW := Aside0.mk (And.intro hw hb)
  have HA : Aside0 (∀ W, PC W g base s → Calls Try.prog 19 #[.pointer (some ⟨g, 0, none⟩), .int .i64 raw, .int .i64 by_] W fun e w' => e = .returned (.tuple #[.int .i64 (sinceE s.raw s.sum s.rate raw by_), .int .i64 (err s.raw raw)]) ∧ Below W.heap.size W w') := ⟨fun W h => by obtain ⟨v, h1, _⟩ := h; exact since_calls g _ _ _ raw by_ v W h1 HG.out HW.out.1 HW.out.2⟩
  have HR : Aside0 (∀ W, RC W g2 base s → Calls Try.prog 41 #[.pointer (some ⟨g2, 0, none⟩), .int .i64 raw, .int .i64 by_] W fun e w' => e = .returned (.tuple #[.int .i64 (sinceE s.raw s.sum s.rate raw by_), .int .i64 (err s.raw raw)]) ∧ Below W.heap.size W w') := ⟨fun W h => by obtain ⟨v, h1, _⟩ := h; exact rsince_calls g2 _ _ _ raw by_ v W h1 HG.out HW.out.1 HW.out.2⟩
  obtain ⟨er, hec⟩ : ∃ er, err s.raw raw = er := ⟨_, rfl⟩
  obtain ⟨vl, hvl⟩ : ∃ vl, sinceE s.raw s.sum s.rate raw by_ = vl := ⟨_, rfl⟩
  rw [hec, hvl] at HA HR
  clear hp hr hG hB hS hg hg2 hw hb hec hvl
  obtain ⟨k0, k1, k2, k3⟩ := cells3 HX.out.box
  go_enter Try.func15, Try.ntmps15
  go_wp2_with (first
    | (go_at_call 19; (with_reducible refine (HA.out _ HX.out.p).mono ?_); rintro e w1 ⟨rfl, h1⟩; have n1 := Aside0.mk (HX.out.below h1); clear HX h1; have HX := n1; clear n1; obtain ⟨k0', k1', k2', k3'⟩ := cells3 HX.out.box)
    | (go_at_call 41; (with_reducible refine (HR.out _ HX.out.r).mono ?_); rintro e w1 ⟨rfl, h1⟩; have n1 := Aside0.mk (HX.out.below h1); clear HX h1; have HX := n1; clear n1; obtain ⟨k0', k1', k2', k3'⟩ := cells3 HX.out.box))
  all_goals
    go_ret
    exact ⟨rfl, HX.out.p, HX.out.r, HX.out.bel, HX.out.siz⟩

theorem does4 (g g2 base : Nat) (s : LSt) (k raw by_ : Int) (step : Bool) (w0 w : World) (hp : PC w g base s) (hr : RC w g2 base s) (hG : s.good) (hB : Below base w0 w) (hS : base ≤ w.heap.size) (h0 : k ≠ 0) (h1 : k ≠ 1) (h2 : k ≠ 2) (h3 : k ≠ 3) :
    Calls Try.prog 15 #[.pointer (some ⟨g, 0, none⟩), .pointer (some ⟨g2, 0, none⟩), .agg #[.int .i64 k, .int .i64 raw, .int .i64 by_, .bool step]] w fun e w' => e = .returned (.bool true) ∧ PC w' g base s ∧ RC w' g2 base s ∧ Below base w0 w' ∧ base ≤ w'.heap.size := by
  have HX := Aside0.mk (show Bth w0 (w.alloc (.cells #[.int .i64 k, .int .i64 raw, .int .i64 by_, .bool step] 30)) g g2 base w.heap.size s s k raw by_ step from ⟨hp.below (below_alloc (Below.refl _ _) _), hr.below (below_alloc (Below.refl _ _) _), below_then hB hS (below_alloc (Below.refl _ _) _), Nat.le_trans hS (below_alloc (Below.refl _ _) _).size, blk_new w _⟩)
  have b0 : (k == 0) = false := beq_eq_false_iff_ne.mpr h0
  have b1 : (k == 1) = false := beq_eq_false_iff_ne.mpr h1
  have b2 : (k == 2) = false := beq_eq_false_iff_ne.mpr h2
  have b3 : (k == 3) = false := beq_eq_false_iff_ne.mpr h3
  clear hp hr hG hB hS h0 h1 h2 h3
  obtain ⟨k0, k1, k2, k3⟩ := cells3 HX.out.box
  go_enter Try.func15, Try.ntmps15
  go_wp2_with (fail)
  all_goals
    go_ret
    exact ⟨rfl, HX.out.p, HX.out.r, HX.out.bel, HX.out.siz⟩

theorem does_calls (g g2 base : Nat) (s : LSt) (k raw by_ : Int) (step : Bool) (w0 w : World) (hp : PC w g base s) (hr : RC w g2 base s) (hG : s.good) (hB : Below base w0 w) (hS : base ≤ w.heap.size) (hg : base ≤ g) (hg2 : base ≤ g2) (hw : Bd raw) (hb : Bd by_) :
    Calls Try.prog 15 #[.pointer (some ⟨g, 0, none⟩), .pointer (some ⟨g2, 0, none⟩), .agg #[.int .i64 k, .int .i64 raw, .int .i64 by_, .bool step]] w fun e w' => e = .returned (.bool true) ∧ PC w' g base (s.act k raw by_ step) ∧ RC w' g2 base (s.act k raw by_ step) ∧ Below base w0 w' ∧ base ≤ w'.heap.size := by
  unfold LSt.act
  by_cases h0 : k = 0
  · rw [if_pos h0, h0]
    exact does0 g g2 base s raw by_ step w0 w hp hr hG hB hS hg hg2 hw hb
  · rw [if_neg h0]
    by_cases h1 : k = 1
    · rw [if_pos h1, h1]
      exact does1 g g2 base s raw by_ step w0 w hp hr hG hB hS hg hg2 hw hb
    · rw [if_neg h1]
      by_cases h2 : k = 2
      · rw [h2]
        exact does2 g g2 base s raw by_ step w0 w hp hr hG hB hS hg hg2 hw hb
      · by_cases h3 : k = 3
        · rw [h3]
          exact does3 g g2 base s raw by_ step w0 w hp hr hG hB hS hg hg2 hw hb
        · exact does4 g g2 base s k raw by_ step w0 w hp hr hG hB hS h0 h1 h2 h3

end Go.Proofs.Ytoddgpaopejeoaa.Le
