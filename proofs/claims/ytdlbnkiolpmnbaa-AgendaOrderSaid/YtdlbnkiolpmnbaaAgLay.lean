/- agenda: an item laid at a place: its cells, and its ticket's place. It says its own conditions. -/
import Derived.Test.YtdlbnkiolpmnbaaProg
import Derived.Test.YtdlbnkiolpmnbaaMAgax0
import Derived.Test.YtdlbnkiolpmnbaaMAgax2
import Derived.WalkKit
import Derived.Deep.RegionLaw
import Derived.Deep.RegionWith
import Derived.Deep.RegionHeld3
import Derived.BigRegion
import Derived.BigQuiet
import Derived.StillTailTactics
import Derived.Test.YtdlbnkiolpmnbaaAgSt
import Derived.Maps.OwnIn
import Derived.Maps.OwnSet
namespace Go.Proofs.Ytdlbnkiolpmnbaa.Ag
open Go.RowKit Go.Proofs.Ytdlbnkiolpmnbaa.MAga Go.Proofs.YtdlbnkiolpmnbaaW.PrintWords Go.Proofs.YtdlbnkiolpmnbaaW.PrintLast Go.Proofs.YtdlbnkiolpmnbaaW.PrintMore
attribute [local go_sem] max2_int min2_int max_two min_two max_three min_three max_four min_four
set_option linter.unusedVariables false
set_option linter.unusedSimpArgs false
-- import Derived.Maps.OwnIn
-- import Derived.Maps.OwnSet
theorem lay_step {B : Nat} {w W W2 : World} {P mb g0 c : Nat} {l : List S34} {n : Nat} {D : DataW Nat} {g : Int} (h : AgSt B W P mb (.slice (some ⟨g0, 0, none⟩) l.length c) l n D g) (i : Nat) (hi : i < l.length) (x : S34) (hb : W.heap[w.heap.size]? = some (.cells #[Value.int IntKind.i64 x.f0, Value.int IntKind.i64 x.f1, Value.string x.f2, Value.int IntKind.i64 x.f3] 34 (0, 0))) (hbel : Below w.heap.size w W) (h0 : AgSt B w P mb (.slice (some ⟨g0, 0, none⟩) l.length c) l n D g)
    (e : (((W.setCell ⟨g0, i * 4, none⟩ (Value.int IntKind.i64 x.f0)).setCell ⟨g0, i * 4 + 1, none⟩ (Value.int IntKind.i64 x.f1)).setCell ⟨g0, i * 4 + 2, none⟩ (Value.string x.f2)).setCell ⟨g0, i * 4 + 3, none⟩ (Value.int IntKind.i64 x.f3) = W2) :
    AgSt B W2.drew P mb (.slice (some ⟨g0, 0, none⟩) (l.set i x).length c) (l.set i x) n D g ∧ Kept w W2.drew (AgF P mb (.slice (some ⟨g0, 0, none⟩) l.length c)) ∧ Below B w W2.drew ∧ W2.drew.heap[w.heap.size]? = some (.cells #[Value.int IntKind.i64 x.f0, Value.int IntKind.i64 x.f1, Value.string x.f2, Value.int IntKind.i64 x.f3] 34 (0, 0)) := by
  have hS : ∀ j, AgF P mb (.slice (some ⟨g0, 0, none⟩) l.length c) (⟨g0, j, none⟩ : Addr).block ∨ w.heap.size ≤ (⟨g0, j, none⟩ : Addr).block := fun j => .inl (.inr (.inr rfl))
  have hg := own_base h0.row g0 rfl
  have hlt := own_lt h0.row g0 rfl
  have hB : B ≤ w.heap.size := by omega
  subst e
  refine ⟨(h.item i hi x).far (Below.refl _ _).drew, (((((Kept.of_below hbel _).setCell (hS _) _).setCell (hS _) _).setCell (hS _) _).setCell (hS _) _).drew, (((((hbel.mono hB).setCell hg _).setCell hg _).setCell hg _).setCell hg _).drew, ?_⟩
  have hne : w.heap.size ≠ g0 := by omega
  exact blk_far (blk_far (blk_far (blk_far hb hne _) hne _) hne _) hne _
set_option maxHeartbeats 4000000 in
set_option maxRecDepth 100000 in
theorem lay_calls (B P mb g0 m c : Nat) (l : List S34) (n : Nat) (D : DataW Nat) (g : Int) (i : Nat) (x : S34) (w : World) (h : AgSt B w P mb (.slice (some ⟨g0, 0, none⟩) m c) l n D g) (hi : i < l.length) (hn : n < maxLen) (hl : l.length ≤ 100000) (hx : (Lit.int .i64 x.f3).wf = true) :
    Calls Try.prog 54 #[.pointer (some ⟨P, 0, none⟩), .int .i64 i, .agg #[.int .i64 x.f0, .int .i64 x.f1, .string x.f2, .int .i64 x.f3]] w fun e w' => e = .returned (.tuple #[]) ∧
      AgSt B w' P mb (.slice (some ⟨g0, 0, none⟩) m c) (l.set i x) (n + 1) (putP D x.f3 i) g ∧ Kept w w' (AgF P mb (.slice (some ⟨g0, 0, none⟩) m c)) ∧ Below B w w' := by
  obtain rfl := h.len
  have HS := Aside0.mk h
  have HI := Aside0.mk hi
  have HN := Aside0.mk hn
  have HL := Aside0.mk hl
  have HX := Aside0.mk hx
  clear h hi hn hl hx
  obtain ⟨x0, x1, x2, x3⟩ := x
  go_enter Try.func54, Try.ntmps54
  go_wp2_with (fail)
  obtain ⟨W1, hW1⟩ : ∃ W1, w.alloc (Obj.cells #[Value.int IntKind.i64 x0, Value.int IntKind.i64 x1, Value.string x2, Value.int IntKind.i64 x3] 34) = W1 := ⟨_, rfl⟩
  have hbel : Below w.heap.size w W1 := by rw [← hW1]; exact below_alloc (Below.refl _ _) _
  have hbox : W1.heap[w.heap.size]? = some (.cells #[Value.int IntKind.i64 x0, Value.int IntKind.i64 x1, Value.string x2, Value.int IntKind.i64 x3] 34 (0, 0)) := by rw [← hW1]; exact blk_new _ _
  have HS1 := Aside0.mk (HS.out.far hbel)
  have HBEL := Aside0.mk hbel
  have HBOX := Aside0.mk hbox
  have k0 := blk_cell hbox 0
  have k1 := blk_cell hbox 1
  have k2 := blk_cell hbox 2
  have k3 := blk_cell hbox 3
  have p0 := blk_cell HS1.out.blk 0
  have f0 := HS1.out.row.frozenAt (i * 4)
  have f1 := HS1.out.row.frozenAt (i * 4 + 1)
  have f2 := HS1.out.row.frozenAt (i * 4 + 2)
  have f3 := HS1.out.row.frozenAt (i * 4 + 3)
  have q0 : ((0 : Int) ≤ (i : Int)) = True := eq_true (by omega)
  have q1 : ((i : Int) < (l.length : Int)) = True := eq_true (by have := HI.out; omega)
  have q2 : (i < l.length) = True := eq_true HI.out
  have hil := HI.out
  have c0 := HS1.out.row.cellAt (i * 4) (by omega)
  have c1 := HS1.out.row.cellAt (i * 4 + 1) (by omega)
  have c2 := HS1.out.row.cellAt (i * 4 + 2) (by omega)
  have c3 := HS1.out.row.cellAt (i * 4 + 3) (by omega)
  have z0 := flat_at l i hil 0 (by omega)
  rw [Nat.add_zero] at z0
  rw [z0] at c0
  rw [flat_at l i hil 1 (by omega)] at c1
  rw [flat_at l i hil 2 (by omega)] at c2
  rw [flat_at l i hil 3 (by omega)] at c3
  simp only [itv, List.getElem?_cons_zero, List.getElem?_cons_succ] at c0 c1 c2 c3
  generalize l[i] = y at c0 c1 c2 c3
  rw [hW1]
  clear hbox hbel hW1 hil z0
  go_still_tail 7, (by kernel_rfl)
  go_wp2_with (fail)
  clear k0 k1 k2 k3 p0 f0 f1 f2 f3 c0 c1 c2 c3 q0 q1 q2
  generalize hW2 : (((W1.setCell ⟨g0, i * 4, none⟩ (Value.int IntKind.i64 x0)).setCell ⟨g0, i * 4 + 1, none⟩ (Value.int IntKind.i64 x1)).setCell ⟨g0, i * 4 + 2, none⟩ (Value.string x2)).setCell ⟨g0, i * 4 + 3, none⟩ (Value.int IntKind.i64 x3) = W2
  obtain ⟨s1, s2, s3, s4⟩ := lay_step HS1.out i HI.out ⟨x0, x1, x2, x3⟩ HBOX.out HBEL.out HS.out hW2
  clear hW2
  have HS2 := Aside0.mk s1
  have HK2 := Aside0.mk s2
  have HB2 := Aside0.mk s3
  have k3 := blk_cell s4 3
  have p1 := blk_cell s1.blk 1
  clear s1 s2 s3 s4 HS1 HBOX HBEL
  generalize W2.drew = W3 at *
  go_still_tail 7, (by kernel_rfl)
  refine wpList_mapUpdate_own (H := Nat) _ rfl _ _ _ 80 rfl 3 3 (Maps.int_keyed Try.underlying3) Try.underlying80 _ mb n D rfl (HS2.out.far (Below.refl _ _).drew).map HN.out _ _ (Lit.int .i64 x3) rfl rfl (Maps.keyOf_int_mk Try.underlying3 HX.out) (.lit (.int .i64 i)) [] (plainElem_int Try.underlying3 ?wf) ?_
  case wf => have h1 := HI.out; have h2 := HL.out; simp [Lit.wf, IntKind.min, IntKind.max, IntKind.bits, IntKind.signed]; omega
  intro w3 hown hg
  go_wp2_with (fail)
  go_end0
  have hs := (HS2.out.far (Below.refl _ _).drew)
  have hl : (l.set i ⟨x0, x1, x2, x3⟩).length = l.length := List.length_set
  have hp := hs.place hown hg
  rw [hl] at hp
  refine ⟨rfl, hp, Kept.of_grown hg HK2.out.drew (fun k e => .inl (.inr (.inl (Option.some.inj e).symm))), HB2.out.drew.grown hg (Nat.le_trans (Nat.le_trans hs.bm (Nat.le_of_lt hs.map.lt)) (Nat.le_refl _)) (fun k e => by cases e; exact hs.bm)⟩

end Go.Proofs.Ytdlbnkiolpmnbaa.Ag
