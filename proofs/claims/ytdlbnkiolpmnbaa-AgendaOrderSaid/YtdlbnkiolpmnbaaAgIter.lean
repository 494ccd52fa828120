/- slices.Values of items, and slices.Collect over it; each says its own conditions. -/
import Derived.Test.YtdlbnkiolpmnbaaProg
import Derived.Test.YtdlbnkiolpmnbaaMAgax0
import Derived.Test.YtdlbnkiolpmnbaaMAgax2
import Derived.WalkKit
import Derived.Deep.RegionLaw
import Derived.Deep.RegionWith
import Derived.Deep.RegionHeld3
import Derived.BigRegion
import Derived.BigQuiet
import Derived.StillTailTactics
import Derived.Test.YtdlbnkiolpmnbaaAgSt
import Derived.Test.YtdlbnkiolpmnbaaAgLay
import Derived.Test.YtdlbnkiolpmnbaaAgCmp
import Derived.Test.YtdlbnkiolpmnbaaAgSet
import Derived.Test.YtdlbnkiolpmnbaaAgPlain
import Derived.Test.YtdlbnkiolpmnbaaAgInv
import Derived.Test.YtdlbnkiolpmnbaaAgOp
import Derived.Test.YtdlbnkiolpmnbaaAgPut
import Derived.Test.YtdlbnkiolpmnbaaAgMov
import Derived.Test.YtdlbnkiolpmnbaaAgCan
import Derived.Test.YtdlbnkiolpmnbaaAgTak
import Derived.Test.YtdlbnkiolpmnbaaAgTke
import Derived.Test.YtdlbnkiolpmnbaaAgLaw
import Derived.RangeFuncBox
import Derived.RangeFuncNested
import Derived.RangeFuncBound
import Derived.RangeFuncCalls
import Derived.RangeFuncLeaves
import Derived.Shelf.Abstract
import Derived.Shelf.RegionOpen
import Derived.OwnWalkIn
import Derived.TacticsInMore
import Derived.LoopNIn
import Derived.LoopIn
import Derived.Maps.OwnIn
import Derived.Maps.OwnSet
namespace Go.Proofs.Ytdlbnkiolpmnbaa.Ag
open Go.RowKit Go.Proofs.Ytdlbnkiolpmnbaa.MAga Go.Proofs.YtdlbnkiolpmnbaaW.PrintWords Go.Proofs.YtdlbnkiolpmnbaaW.PrintLast Go.Proofs.YtdlbnkiolpmnbaaW.PrintMore
attribute [local go_sem] max2_int min2_int max_two min_two max_three min_three max_four min_four
set_option linter.unusedVariables false
set_option linter.unusedSimpArgs false
-- import Derived.RangeFuncBox
-- import Derived.RangeFuncNested
-- import Derived.RangeFuncBound
-- import Derived.RangeFuncCalls
-- import Derived.RangeFuncLeaves
-- import Derived.Shelf.Abstract
-- import Derived.Shelf.RegionOpen
-- import Derived.OwnWalkIn
-- import Derived.TacticsInMore
-- import Derived.LoopNIn
-- import Derived.LoopIn
-- import Derived.Maps.OwnIn
-- import Derived.Maps.OwnSet
def encV (x : S34) : Array Value := #[.agg #[.int .i64 x.f0, .int .i64 x.f1, .string x.f2, .int .i64 x.f3]]
theorem at_nth (l : List S34) (j : Nat) (h : j < l.length) : l = l.take j ++ l[j] :: l.drop (j + 1) := by
  rw [List.getElem_cons_drop, List.take_append_drop]
theorem take_at {α : Type} (xs : List α) (j : Nat) (x : α) (post : List α) (h : xs = xs.take j ++ x :: post) (hj : j < xs.length) : xs.take (j + 1) = xs.take j ++ [x] := by
  have hl : (xs.take j).length = j := by rw [List.length_take]; omega
  have : xs.take (j + 1) = (xs.take j ++ x :: post).take (j + 1) := by rw [← h]
  rw [this, List.take_append, hl, List.take_of_length_le (by omega), show j + 1 - j = 1 by omega]
  rfl
/-- A row of items, at blocks from b on. -/
def RowI (b : Nat) (w : World) (ad : Option Addr) (l : List S34) : Prop := ∀ (j : Nat) (x : S34), l[j]? = some x → ∃ g, ad = some ⟨g, 0, none⟩ ∧ b ≤ g ∧ g < w.heap.size ∧
  w.cell? ⟨g, j * 4, none⟩ = some (.int .i64 x.f0) ∧ w.cell? ⟨g, j * 4 + 1, none⟩ = some (.int .i64 x.f1) ∧ w.cell? ⟨g, j * 4 + 2, none⟩ = some (.string x.f2) ∧ w.cell? ⟨g, j * 4 + 3, none⟩ = some (.int .i64 x.f3)
theorem RowI.kept {b : Nat} {w W : World} {ad : Option Addr} {l : List S34} {S : Nat → Prop} (h : RowI b w ad l) (hk : Kept w W S) (hS : ∀ k, S k → k < b) : RowI b W ad l := by
  intro j x hx
  obtain ⟨g, e, hb, hlt, h0, h1, h2, h3⟩ := h j x hx
  have hg : W.heap[g]? = w.heap[g]? := hk.2 g hlt (fun hs => by have := hS g hs; omega)
  exact ⟨g, e, hb, Nat.lt_of_lt_of_le hlt hk.1, (World.cell?_of_block (w := w) (a := ⟨g, j * 4, none⟩) hg).trans h0, (World.cell?_of_block (w := w) (a := ⟨g, j * 4 + 1, none⟩) hg).trans h1, (World.cell?_of_block (w := w) (a := ⟨g, j * 4 + 2, none⟩) hg).trans h2, (World.cell?_of_block (w := w) (a := ⟨g, j * 4 + 3, none⟩) hg).trans h3⟩
theorem RowI.far {b : Nat} {w W : World} {ad : Option Addr} {l : List S34} (h : RowI b w ad l) (hb : Below w.heap.size w W) : RowI b W ad l := h.kept (Kept.of_below hb (fun _ => False)) (fun _ h => h.elim)
theorem RowI.of_row {B b : Nat} {w : World} {v : Value} {ad : Option Addr} {n c : Nat} {l : List S34} (h : w.ownsRow B 34 4 v l.length (flat l)) (hv : v = .slice ad n c) (hb : b ≤ B) : RowI b w ad l := by
  intro j x hx
  obtain ⟨hj, e⟩ := List.getElem?_eq_some_iff.1 hx
  rcases h.2 with ⟨_, h0⟩ | ⟨g, cap, cur, e2, hB, hg, _⟩
  · omega
  · have h' := h
    rw [e2] at h'
    have c0 := h'.cellAt (j * 4) (by omega)
    have c1 := h'.cellAt (j * 4 + 1) (by omega)
    have c2 := h'.cellAt (j * 4 + 2) (by omega)
    have c3 := h'.cellAt (j * 4 + 3) (by omega)
    have z0 := flat_at l j hj 0 (by omega)
    rw [Nat.add_zero] at z0
    rw [z0] at c0
    rw [flat_at l j hj 1 (by omega)] at c1
    rw [flat_at l j hj 2 (by omega)] at c2
    rw [flat_at l j hj 3 (by omega)] at c3
    rw [e] at c0 c1 c2 c3
    rw [e2] at hv
    cases hv
    exact ⟨g, rfl, by omega, (Array.getElem?_eq_some_iff.1 hg).1, c0, c1, c2, c3⟩
set_option maxHeartbeats 8000000 in
set_option maxRecDepth 100000 in
theorem vals1 (B b c : Nat) (ad : Option Addr) (l : List S34) (w0 w : World) (hB : w0.heap[B]? = some (.cells #[.slice ad l.length c] 31 (0, 0))) (hr : RowI b w0 ad l) (hl : l.length ≤ 1000000) :
    Iter Fence.wide 4 Try.prog 57 #[.pointer (some ⟨B, 0, none⟩)] encV l (fun W => Below w0.heap.size w0 W) w := by
  intro ll J Jx W hW bJ bJx hZ hY h0
  have hz := hZ _ _ h0
  have kb := cell_below ((blk_cell hB 0).trans (show _ = some (Value.slice ad l.length c) from rfl)) hz
  have HR := Aside0.mk hr
  have HY := Aside0.mk hY
  clear hY
  refine callsIn_of_wp Try.func57 rfl trivial ?_ rfl
  simp only [Try.ntmps57, List.size_toArray, List.length_cons, List.length_nil, Nat.reduceAdd, Nat.reduceSub, Array.replicate_succ, Array.replicate_zero, List.push_toArray, List.append_toArray, List.nil_append, List.cons_append]
  gi_wp2
  gi_loopw [7] (fun v7 wr => ∃ (j : Nat), v7 = .int .i64 j ∧ Aside0 (j ≤ l.length) ∧ Aside0 (J (l.take j) wr)) (fun v7 wr => l.length - (intOf v7).toNat)
  case atStart => exact ⟨0, rfl, ⟨Nat.zero_le _⟩, ⟨h0⟩⟩
  case round =>
    obtain ⟨j, rfl, hj, hJ⟩ := hrel
    by_cases q : j < l.length
    · have q1 : ((j : Int) < (l.length : Int)) = True := eq_true (by omega)
      have q0 : ((0 : Int) ≤ (j : Int)) = True := eq_true (by omega)
      have hat := Aside0.mk (at_nth l j q)
      have hzj := hZ _ _ hJ.out
      obtain ⟨g, rfl, _, _, x0, x1, x2, x3⟩ := HR.out j l[j] (List.getElem?_eq_getElem q)
      have x0' := cell_below x0 hzj
      have x1' := cell_below x1 hzj
      have x2' := cell_below x2 hzj
      have x3' := cell_below x3 hzj
      obtain ⟨⟨y0, y1, y2, y3⟩, hx⟩ : ∃ x, l[j] = x := ⟨_, rfl⟩
      rw [hx] at x0' x1' x2' x3' hat
      simp only at x0' x1' x2' x3'
      have HQ := Aside0.mk q
      obtain ⟨W5, hW5⟩ : ∃ W5, wr.alloc (.cells #[.int .i64 y0, .int .i64 y1, .string y2, .int .i64 y3] 34) = W5 := ⟨_, rfl⟩
      have b5 : Below wr.heap.size wr W5 := hW5 ▸ below_alloc (Below.refl _ wr) _
      obtain ⟨fn, tmps, assign, body, hy, hR⟩ := HY.out _ _ _ W5 hat.out (bJ _ _ _ hJ.out b5)
      have hy' : (Instr.yield ll #[.agg #[.int .i64 y0, .int .i64 y1, .string y2, .int .i64 y3]]).run Try.prog W5 = .ok (.round ll fn tmps assign body) W5 := hy
      have hn5 : W5.heap[wr.heap.size]? = some (.cells #[.int .i64 y0, .int .i64 y1, .string y2, .int .i64 y3] 34 (0, 0)) := hW5 ▸ blk_new wr _
      have k0 := (blk_cell hn5 0).trans (show _ = some (Value.int .i64 y0) from rfl)
      have k1 := (blk_cell hn5 1).trans (show _ = some (Value.int .i64 y1) from rfl)
      have k2 := (blk_cell hn5 2).trans (show _ = some (Value.string y2) from rfl)
      have k3 := (blk_cell hn5 3).trans (show _ = some (Value.int .i64 y3) from rfl)
      clear x0 x1 x2 x3 hx hzj kb hz hy b5 hn5 h0 hB hr
      gi_wp2
      refine hR.mono ?_
      rintro e W6 (⟨rfl, hJ6⟩ | ⟨rfl, hJx6⟩)
      · gi_wp2
        go_roundw
        case rel =>
          refine ⟨j + 1, by rw [show (j : Int) + 1 = ((j + 1 : Nat) : Int) by omega], ⟨q⟩, ⟨?_⟩⟩
          rw [take_at _ j _ _ hat.out q]
          exact hJ6
        case measure =>
          simp [intOf]
          omega
      · gi_wp2
        refine bodyPost_ret (results_none rfl _ _ _) rfl ?_
        exact ⟨⟨_, rfl⟩, .inr ⟨_, _, _, hat.out, hJx6⟩⟩
    · have q1 : ((j : Int) < (l.length : Int)) = False := eq_false (by omega)
      gi_wp2
      go_end0
      refine ⟨⟨_, rfl⟩, .inl ?_⟩
      have := hJ.out
      rwa [List.take_of_length_le (by omega)] at this
theorem vals_calls (v : Value) (A : Option Addr) (n c : Nat) (hv : v = .slice A n c) (w : World) : Calls Try.prog 38 #[v] w fun e w' => e = .returned (.func (.func 57) #[] #[.pointer (some ⟨w.heap.size, 0, none⟩)]) ∧ w' = w.alloc (.cells #[v] 31) := by
  subst hv
  go_enter Try.func38, Try.ntmps38
  go_wp2_with (fail)
  go_ret
  exact ⟨rfl, rfl⟩

end Go.Proofs.Ytdlbnkiolpmnbaa.Ag
