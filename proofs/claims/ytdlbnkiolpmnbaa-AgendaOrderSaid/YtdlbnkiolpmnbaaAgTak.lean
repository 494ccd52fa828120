/- agenda: New, Double. Each says its own conditions. -/
import Derived.Test.YtdlbnkiolpmnbaaProg
import Derived.Test.YtdlbnkiolpmnbaaMAgax0
import Derived.Test.YtdlbnkiolpmnbaaMAgax2
import Derived.WalkKit
import Derived.Deep.RegionLaw
import Derived.Deep.RegionWith
import Derived.Deep.RegionHeld3
import Derived.BigRegion
import Derived.BigQuiet
import Derived.StillTailTactics
import Derived.Test.YtdlbnkiolpmnbaaAgSt
import Derived.Test.YtdlbnkiolpmnbaaAgLay
import Derived.Test.YtdlbnkiolpmnbaaAgCmp
import Derived.Test.YtdlbnkiolpmnbaaAgSet
import Derived.Test.YtdlbnkiolpmnbaaAgPlain
import Derived.Test.YtdlbnkiolpmnbaaAgInv
import Derived.Test.YtdlbnkiolpmnbaaAgOp
import Derived.Test.YtdlbnkiolpmnbaaAgPut
import Derived.Test.YtdlbnkiolpmnbaaAgMov
import Derived.Test.YtdlbnkiolpmnbaaAgCan
import Derived.Maps.OwnIn
import Derived.Maps.OwnSet
namespace Go.Proofs.Ytdlbnkiolpmnbaa.Ag
open Go.RowKit Go.Proofs.Ytdlbnkiolpmnbaa.MAga Go.Proofs.YtdlbnkiolpmnbaaW.PrintWords Go.Proofs.YtdlbnkiolpmnbaaW.PrintLast Go.Proofs.YtdlbnkiolpmnbaaW.PrintMore
attribute [local go_sem] max2_int min2_int max_two min_two max_three min_three max_four min_four
set_option linter.unusedVariables false
set_option linter.unusedSimpArgs false
-- import Derived.Maps.OwnIn
-- import Derived.Maps.OwnSet
open Go.Maps
set_option maxHeartbeats 4000000 in
set_option maxRecDepth 100000 in
theorem new_calls (B : Nat) (w : World) (hB : B ≤ w.heap.size) :
    Calls Try.prog 15 #[] w fun e w' => ∃ P F, e = .returned (.pointer (some ⟨P, 0, none⟩)) ∧ AgV B w' P F 0 [] 0 ∧ Below B w w' ∧ w.heap.size ≤ P ∧ ∀ k, F k → w.heap.size ≤ k := by
  go_enter Try.func15, Try.ntmps15
  have hmm := @run_makeMap Try.prog
  go_wp2_with (fail)
  go_ret
  have hm : PM ((w.alloc (.map #[] 0)).alloc (.cells #[.slice none 0 0, .map (some w.heap.size), .int .i64 0] 82)) w.heap.size 0 (.map []) := (World.ownsMap_made w Try.prog 3 (plainElem Try.prog 3)).alloc _
  refine ⟨w.heap.size + 1, _, rfl, ⟨w.heap.size, .slice none 0 0, [], 0, .map [], ⟨?_, ⟨rfl, .inl ⟨rfl, rfl⟩⟩, hm, by omega, hB⟩, Inv.nil, by omega, by omega, rfl⟩, ((Below.refl _ _).alloc hB _).alloc (by simp; omega) _, by omega, fun k hk => ?_⟩
  · have := blk_new (w.alloc (.map #[] 0)) (.cells #[.slice none 0 0, .map (some w.heap.size), .int .i64 0] 82)
    simpa using this
  · rcases hk with e | e | e
    · omega
    · omega
    · cases e
set_option maxHeartbeats 4000000 in
set_option maxRecDepth 100000 in
theorem double_calls (B P : Nat) (F : Nat → Prop) (c : Nat) (L : List S34) (g t a : Int) (w : World) (h : AgV B w P F c L g) (hc : c < 100000) (ht : (Lit.int .i64 t).wf = true) :
    Calls Try.prog 25 #[.pointer (some ⟨P, 0, none⟩), .int .i64 t, .int .i64 a] w (putEnd B P F c (doubleR t a L g) w) := by
  have HV := Aside0.mk h
  obtain ⟨mb, hv, l, n, D, hs, hi, hn, hgc, rfl⟩ := h
  have HS := Aside0.mk hs
  have HI := Aside0.mk hi
  have p0 := blk_cell hs.blk 0
  have p1 := blk_cell hs.blk 1
  rcases hs.look hi.pl t ht with ⟨hno, cx, hl⟩ | ⟨i, hil, hit, hl⟩
  · have hl := hl w hs
    have e1 : doubleR t a L g = (0, 3, L, g) := by unfold doubleR; rw [tkR_no hi hno]
    rw [e1]
    clear hs hi e1 hno
    go_enter Try.func25, Try.ntmps25
    go_wp2_with (fail)
    go_ret2
    exact ⟨rfl, _, HV.out.mono (Nat.le_succ _), To.refl _ _ _⟩
  · have hl := hl w hs
    have e0 : tkR t L = some (gt l i) := by rw [← hit]; exact tkR_at hi hil
    have e1 : doubleR t a L g = putR a (gt l i).f1 (gt l i).f2 L g := by unfold doubleR; rw [e0]
    rw [e1]
    rcases hs.cases with ⟨e, _⟩ | ⟨g0, cc, e⟩
    · rw [e] at hil
      exact absurd hil (by simp)
    cases e
    obtain ⟨c0, c1, c2, c3⟩ := hs.cells i hil
    have q0 : ((0 : Int) ≤ (i : Int)) = True := eq_true (by omega)
    have q1 : ((i : Int) < (l.length : Int)) = True := eq_true (by omega)
    have q2 : (i < l.length) = True := eq_true hil
    have hput := fun W' (hb : Below w.heap.size w W') => put_calls B P _ c L g a (gt l i).f1 (gt l i).f2 W' (HV.out.far hb) hc
    have HPUT := Aside0.mk hput
    clear hs hi e0 e1 hit hil hput
    go_enter Try.func25, Try.ntmps25
    go_upto_region 4 with (fail)
    clear p1
    go_region_with (first | (go_at_call 16; refine (HPUT.out _ (pw_below_drewN (Below.refl _ _) _)).mono ?_; rintro e w3 ⟨rfl, F3, hA, hT⟩; have HA := Aside0.mk hA; have HT := Aside0.mk hT; clear hA hT))
    all_goals
      go_wp2_with (fail)
      go_ret2
      exact ⟨rfl, F3, HA.out, HT.out.kept, (pw_below_drewN (Below.refl _ _) 1).trans HT.out.bel, HT.out.sub⟩

end Go.Proofs.Ytdlbnkiolpmnbaa.Ag
