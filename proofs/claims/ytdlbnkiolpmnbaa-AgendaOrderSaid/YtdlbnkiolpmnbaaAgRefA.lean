/- agenda: the document's Put, Cancel, Move. Each says its own conditions. -/
import Derived.Test.YtdlbnkiolpmnbaaProg
import Derived.Test.YtdlbnkiolpmnbaaMAgax0
import Derived.Test.YtdlbnkiolpmnbaaMAgax2
import Derived.WalkKit
import Derived.Deep.RegionLaw
import Derived.Deep.RegionWith
import Derived.Deep.RegionHeld3
import Derived.BigRegion
import Derived.BigQuiet
import Derived.StillTailTactics
import Derived.Test.YtdlbnkiolpmnbaaAgSt
import Derived.Test.YtdlbnkiolpmnbaaAgLay
import Derived.Test.YtdlbnkiolpmnbaaAgCmp
import Derived.Test.YtdlbnkiolpmnbaaAgSet
import Derived.Test.YtdlbnkiolpmnbaaAgPlain
import Derived.Test.YtdlbnkiolpmnbaaAgInv
import Derived.Test.YtdlbnkiolpmnbaaAgOp
import Derived.Test.YtdlbnkiolpmnbaaAgPut
import Derived.Test.YtdlbnkiolpmnbaaAgMov
import Derived.Test.YtdlbnkiolpmnbaaAgCan
import Derived.Test.YtdlbnkiolpmnbaaAgTak
import Derived.Test.YtdlbnkiolpmnbaaAgTke
import Derived.Test.YtdlbnkiolpmnbaaAgLaw
import Derived.Test.YtdlbnkiolpmnbaaAgIter
import Derived.Test.YtdlbnkiolpmnbaaAgSeq
import Derived.Test.YtdlbnkiolpmnbaaAgSort
import Derived.Test.YtdlbnkiolpmnbaaAgList
import Derived.Test.YtdlbnkiolpmnbaaAgShow
import Derived.Test.YtdlbnkiolpmnbaaAgLv
import Derived.Test.YtdlbnkiolpmnbaaAgSame
import Derived.Test.YtdlbnkiolpmnbaaAgRef
import Derived.Test.YtdlbnkiolpmnbaaAgLayR
import Derived.Test.YtdlbnkiolpmnbaaAgPickR
import Derived.Maps.OwnIn
import Derived.Maps.OwnSet
namespace Go.Proofs.Ytdlbnkiolpmnbaa.Ag
open Go.RowKit Go.Proofs.Ytdlbnkiolpmnbaa.MAga Go.Proofs.YtdlbnkiolpmnbaaW.PrintWords Go.Proofs.YtdlbnkiolpmnbaaW.PrintLast Go.Proofs.YtdlbnkiolpmnbaaW.PrintMore
attribute [local go_sem] max2_int min2_int max_two min_two max_three min_three max_four min_four
set_option linter.unusedVariables false
set_option linter.unusedSimpArgs false
-- import Derived.Maps.OwnIn
-- import Derived.Maps.OwnSet
theorem RfSt.giv {B : Nat} {W : World} {P : Nat} {hv : Value} {L : List S34} {g : Int} (h : RfSt B W P hv L g) (g' : Int) : RfSt B (W.setCell ⟨P, 1, none⟩ (.int .i64 g')) P hv L g' :=
  ⟨by simpa using blk_set h.blk 1 (.int .i64 g'), own_move h.row (fun k e => Below.heap_setCell _ _ _ _ (fun e2 => h.rp (by rw [e, e2]))), h.bp⟩
theorem off_none {t : Int} {L : List S34} (h : tkR t L = none) : offR t L = L := by
  refine offR_same (fun y hy e => ?_)
  unfold tkR at h
  have := List.find?_eq_none.1 h y hy
  simp [e] at this
theorem tkR_in {t : Int} {L : List S34} {y : S34} (h : tkR t L = some y) : y ∈ L ∧ y.f3 = t := by
  unfold tkR at h
  exact ⟨List.mem_of_find?_eq_some h, by simpa using List.find?_some h⟩
def rputEnd (B P : Nat) (F : Nat → Prop) (r : Int × Int × List S34 × Int) (w : World) (e : Ending) (w' : World) : Prop :=
  e = .returned (.tuple #[.int .i64 r.1, .int .i64 r.2.1]) ∧ ∃ F', RfV B w' P F' r.2.2.1 r.2.2.2 ∧ To B w w' F F'
set_option maxHeartbeats 4000000 in
set_option maxRecDepth 100000 in
theorem rput_calls (B P : Nat) (F : Nat → Prop) (L : List S34) (g a k : Int) (s : ByteArray) (w : World) (h : RfV B w P F L g) (hl : L.length ≤ 1000) (hg : 0 ≤ g ∧ g ≤ 1000000) :
    Calls Try.prog 46 #[.pointer (some ⟨P, 0, none⟩), .int .i64 a, .int .i64 k, .string s] w (rputEnd B P F (putR a k s L g) w) := by
  have HV := Aside0.mk h
  obtain ⟨hv, hs, rfl⟩ := h
  obtain ⟨ad, cc, rfl, hcap⟩ := hs.two
  by_cases hb : badP a k s
  · have e1 : putR a k s L g = (0, 1, L, g) := by unfold putR; rw [if_pos hb]
    rw [e1]
    have HB := Aside0.mk hb
    clear hs hb e1
    go_enter Try.func46, Try.ntmps46
    go_wp2_with (fail)
    any_goals (exfalso; have h1 := HB.out; unfold badP at h1; omega)
    all_goals (go_ret2; exact ⟨rfl, _, HV.out, To.refl _ _ _⟩)
  · have hb' : ¬ a < 0 ∧ ¬ k < 0 ∧ ¬ 255 < k ∧ ¬ 2000 < s.size := by unfold badP at hb; omega
    obtain ⟨b1, b2, b3, b4⟩ := hb'
    have d1 : decide (a < 0) = false := decide_eq_false b1
    have d2 : decide (k < 0) = false := decide_eq_false b2
    have d3 : decide (255 < k) = false := decide_eq_false b3
    have d4 : decide (2000 < (s.size : Int)) = false := decide_eq_false (by omega)
    by_cases hll : 1000 ≤ L.length
    · have e1 : putR a k s L g = (0, 2, L, g) := by unfold putR; rw [if_neg hb, if_pos hll]
      rw [e1]
      have p0 := blk_cell hs.blk 0
      have d5 : decide (1000 ≤ (L.length : Int)) = true := decide_eq_true (by omega)
      have d6 : (1000 ≤ L.length) = True := eq_true hll
      clear hs hb e1
      go_enter Try.func46, Try.ntmps46
      go_wp2_with (fail)
      go_ret2
      exact ⟨rfl, _, HV.out, To.refl _ _ _⟩
    · have e1 : putR a k s L g = (g + 1, 0, insR ⟨a, k, s, g + 1⟩ L, g + 1) := by unfold putR; rw [if_neg hb, if_neg hll]
      rw [e1]
      have HS := Aside0.mk hs
      have p0 := blk_cell hs.blk 0
      have p1 := blk_cell hs.blk 1
      have f1 := blk_frozen hs.blk 1
      have d5 : decide (1000 ≤ (L.length : Int)) = false := decide_eq_false (by omega)
      have d6 : (1000 ≤ L.length) = False := eq_false hll
      have eg : wrap64 (g + 1) = g + 1 := by unfold wrap64; omega
      clear hs hb e1
      go_enter Try.func46, Try.ntmps46
      go_upto_region 6 with (fail)
      have hs1 := HS.out.giv (g + 1)
      have hk1 : Kept w (w.setCell ⟨P, 1, none⟩ (.int .i64 (g + 1))) (RfF P (.slice ad L.length cc)) := (Kept.refl _ _).setCell (.inl (.inl rfl)) _
      have hb1 : Below B w (w.setCell ⟨P, 1, none⟩ (.int .i64 (g + 1))) := (Below.refl _ _).setCell HS.out.bp _
      obtain ⟨W1, hW1⟩ : ∃ W1, w.setCell ⟨P, 1, none⟩ (.int .i64 (g + 1)) = W1 := ⟨_, rfl⟩
      rw [hW1] at hs1 hk1 hb1 ⊢
      have HLAY := Aside0.mk (rlay_calls B P _ L (g + 1) ⟨a, k, s, g + 1⟩ W1 ⟨_, hs1, rfl⟩ hl)
      have HT := Aside0.mk (To.same hk1 hb1)
      have p1 := blk_cell hs1.blk 1
      clear hs1 hk1 hb1 hW1 p0 f1 d1 d2 d3 d4 d5 d6 eg
      go_wp2_with (go_at_call 66; refine HLAY.out.mono ?_; rintro e w2 ⟨rfl, F2, hR2, hT2⟩; have HR2 := Aside0.mk hR2; have HT2 := Aside0.mk hT2; obtain ⟨hv2, hs2, _⟩ := hR2; have r1 := blk_cell hs2.blk 1; clear hs2 hT2 p1)
      go_ret2
      exact ⟨rfl, F2, HR2.out, HT.out.trans HT2.out⟩
def rcanEnd (B P : Nat) (F : Nat → Prop) (r : Int × List S34) (g : Int) (w : World) (e : Ending) (w' : World) : Prop :=
  e = .returned (.int .i64 r.1) ∧ ∃ F', RfV B w' P F' r.2 g ∧ To B w w' F F'
set_option maxHeartbeats 4000000 in
set_option maxRecDepth 100000 in
theorem rcancel_calls (B P : Nat) (F : Nat → Prop) (L : List S34) (g t : Int) (w : World) (h : RfV B w P F L g) (hl : L.length ≤ 1000) (hnd : L.Pairwise (fun a b => a.f3 ≠ b.f3)) :
    Calls Try.prog 47 #[.pointer (some ⟨P, 0, none⟩), .int .i64 t] w (rcanEnd B P F (cancelR t L) g w) := by
  have hp := rpick_calls B P F L g t w h hl hnd
  have hbw := h.base
  cases hk : tkR t L with
  | none =>
    have e1 : cancelR t L = (3, L) := by unfold cancelR; rw [hk]
    have e2 : pickR t L = (⟨0, 0, ⟨#[]⟩, 0⟩, false) := by unfold pickR; rw [hk]
    rw [e2, off_none hk] at hp
    rw [e1]
    have HP := Aside0.mk hp
    clear hp e1 e2 hk h
    go_enter Try.func47, Try.ntmps47
    go_wp2_with (go_at_call 67; refine HP.out.mono ?_; rintro e w2 ⟨rfl, F2, hR2, hT2⟩; have HR2 := Aside0.mk hR2; have HT2 := Aside0.mk hT2; clear hR2 hT2)
    go_ret
    exact ⟨rfl, F2, HR2.out.far (below_alloc (Below.refl _ _) _), HT2.out.kept.alloc _, HT2.out.bel.alloc (Nat.le_trans hbw HT2.out.kept.1) _, HT2.out.sub⟩
  | some y =>
    have e1 : cancelR t L = (0, offR t L) := by unfold cancelR; rw [hk]
    have e2 : pickR t L = (y, true) := by unfold pickR; rw [hk]
    rw [e2] at hp
    rw [e1]
    obtain ⟨y0, y1, y2, y3⟩ := y
    have HP := Aside0.mk hp
    clear hp e1 e2 hk h
    go_enter Try.func47, Try.ntmps47
    go_wp2_with (go_at_call 67; refine HP.out.mono ?_; rintro e w2 ⟨rfl, F2, hR2, hT2⟩; have HR2 := Aside0.mk hR2; have HT2 := Aside0.mk hT2; clear hR2 hT2)
    go_ret
    exact ⟨rfl, F2, HR2.out.far (below_alloc (Below.refl _ _) _), HT2.out.kept.alloc _, HT2.out.bel.alloc (Nat.le_trans hbw HT2.out.kept.1) _, HT2.out.sub⟩

end Go.Proofs.Ytdlbnkiolpmnbaa.Ag
