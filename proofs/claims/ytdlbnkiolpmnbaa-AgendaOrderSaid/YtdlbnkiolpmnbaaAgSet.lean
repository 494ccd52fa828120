/- agenda: settle. It says its own conditions. -/
import Derived.Test.YtdlbnkiolpmnbaaProg
import Derived.Test.YtdlbnkiolpmnbaaMAgax0
import Derived.Test.YtdlbnkiolpmnbaaMAgax2
import Derived.WalkKit
import Derived.Deep.RegionLaw
import Derived.Deep.RegionWith
import Derived.Deep.RegionHeld3
import Derived.BigRegion
import Derived.BigQuiet
import Derived.StillTailTactics
import Derived.Test.YtdlbnkiolpmnbaaAgSt
import Derived.Test.YtdlbnkiolpmnbaaAgLay
import Derived.Test.YtdlbnkiolpmnbaaAgCmp
import Derived.Maps.OwnIn
import Derived.Maps.OwnSet
namespace Go.Proofs.Ytdlbnkiolpmnbaa.Ag
open Go.RowKit Go.Proofs.Ytdlbnkiolpmnbaa.MAga Go.Proofs.YtdlbnkiolpmnbaaW.PrintWords Go.Proofs.YtdlbnkiolpmnbaaW.PrintLast Go.Proofs.YtdlbnkiolpmnbaaW.PrintMore
attribute [local go_sem] max2_int min2_int max_two min_two max_three min_three max_four min_four
set_option linter.unusedVariables false
set_option linter.unusedSimpArgs false
-- import Derived.Maps.OwnIn
-- import Derived.Maps.OwnSet
def gt (l : List S34) (j : Nat) : S34 := (l[j]?).getD ⟨0, 0, ⟨#[]⟩, 0⟩
theorem gt_at (l : List S34) (j : Nat) (h : j < l.length) : gt l j = l[j] := by unfold gt; rw [List.getElem?_eq_getElem h]; rfl
def rise (x : S34) : Nat → List S34 → DataW Nat → Nat → List S34 × DataW Nat × Nat
  | 0, l, D, i => (l, D, i)
  | k + 1, l, D, i => if 0 < i ∧ cmpI x (gt l ((i - 1) / 2)) < 0 then rise x k (l.set i (gt l ((i - 1) / 2))) (putP D (gt l ((i - 1) / 2)).f3 i) ((i - 1) / 2) else (l, D, i)
def down (l : List S34) (i : Nat) : Nat := if 2 * i + 2 < l.length ∧ cmpI (gt l (2 * i + 2)) (gt l (2 * i + 1)) < 0 then 2 * i + 2 else 2 * i + 1
def sink (x : S34) : Nat → List S34 → DataW Nat → Nat → List S34 × DataW Nat × Nat
  | 0, l, D, i => (l, D, i)
  | k + 1, l, D, i => if l.length ≤ down l i ∨ cmpI x (gt l (down l i)) < 0 then (l, D, i) else sink x k (l.set i (gt l (down l i))) (putP D (gt l (down l i)).f3 i) (down l i)
def settleE (l : List S34) (D : DataW Nat) (i : Nat) : List S34 × DataW Nat :=
  ((sink (gt l i) l.length (rise (gt l i) i l D i).1 (rise (gt l i) i l D i).2.1 (rise (gt l i) i l D i).2.2).1.set (sink (gt l i) l.length (rise (gt l i) i l D i).1 (rise (gt l i) i l D i).2.1 (rise (gt l i) i l D i).2.2).2.2 (gt l i), putP (sink (gt l i) l.length (rise (gt l i) i l D i).1 (rise (gt l i) i l D i).2.1 (rise (gt l i) i l D i).2.2).2.1 (gt l i).f3 (sink (gt l i) l.length (rise (gt l i) i l D i).1 (rise (gt l i) i l D i).2.1 (rise (gt l i) i l D i).2.2).2.2)
/-- The cells of an item in the heap's row. -/
theorem AgSt.cells {B : Nat} {W : World} {P mb g0 m c : Nat} {l : List S34} {n : Nat} {D : DataW Nat} {g : Int} (h : AgSt B W P mb (.slice (some ⟨g0, 0, none⟩) m c) l n D g) (i : Nat) (hi : i < l.length) :
    W.cell? ⟨g0, i * 4, none⟩ = some (.int .i64 (gt l i).f0) ∧ W.cell? ⟨g0, i * 4 + 1, none⟩ = some (.int .i64 (gt l i).f1) ∧ W.cell? ⟨g0, i * 4 + 2, none⟩ = some (.string (gt l i).f2) ∧ W.cell? ⟨g0, i * 4 + 3, none⟩ = some (.int .i64 (gt l i).f3) := by
  obtain rfl := h.len
  have c0 := h.row.cellAt (i * 4) (by omega)
  have c1 := h.row.cellAt (i * 4 + 1) (by omega)
  have c2 := h.row.cellAt (i * 4 + 2) (by omega)
  have c3 := h.row.cellAt (i * 4 + 3) (by omega)
  have z0 := flat_at l i hi 0 (by omega)
  rw [Nat.add_zero] at z0
  rw [z0] at c0
  rw [flat_at l i hi 1 (by omega)] at c1
  rw [flat_at l i hi 2 (by omega)] at c2
  rw [flat_at l i hi 3 (by omega)] at c3
  rw [gt_at l i hi]
  exact ⟨c0, c1, c2, c3⟩
def setEnd (B P mb : Nat) (hv : Value) (l : List S34) (n : Nat) (D : DataW Nat) (g : Int) (i : Nat) (w : World) (e : Ending) (w' : World) : Prop :=
  e = .returned (.tuple #[]) ∧ AgSt B w' P mb hv (settleE l D i).1 (n + 2 * l.length + 2) (settleE l D i).2 g ∧ Kept w w' (AgF P mb hv) ∧ Below B w w'
structure R1 (B P mb : Nat) (hv : Value) (l : List S34) (n : Nat) (D : DataW Nat) (g : Int) (i : Nat) (w : World) (kq j : Nat) (l' : List S34) (D' : DataW Nat) (n' : Nat) (W : World) : Prop where
  st : AgSt B W P mb hv l' n' D' g
  box : W.heap[w.heap.size]? = some (.cells (itv (gt l i)).toArray 34 (0, 0))
  kept : Kept w W (AgF P mb hv)
  bel : Below B w W
  eq : rise (gt l i) kq l' D' j = rise (gt l i) i l D i
  len : l'.length = l.length
  jl : j < l.length
  nl : n' + j ≤ n + i
  wf : ∀ y ∈ l', (Lit.int .i64 y.f3).wf = true
theorem rise_stop (x : S34) (k : Nat) (l : List S34) (D : DataW Nat) (j : Nat) (h : ¬ (0 < j ∧ cmpI x (gt l ((j - 1) / 2)) < 0)) : rise x k l D j = (l, D, j) := by
  cases k with
  | zero => rfl
  | succ k => rw [rise, if_neg h]
theorem R1.stop {B P mb : Nat} {hv : Value} {l : List S34} {n : Nat} {D : DataW Nat} {g : Int} {i : Nat} {w : World} {kq j : Nat} {l' : List S34} {D' : DataW Nat} {n' : Nat} {W : World} (h : R1 B P mb hv l n D g i w kq j l' D' n' W) (hs : ¬ (0 < j ∧ cmpI (gt l i) (gt l' ((j - 1) / 2)) < 0)) : R1 B P mb hv l n D g i w 0 j l' D' n' W :=
  ⟨h.st, h.box, h.kept, h.bel, by rw [← h.eq, rise_stop _ kq _ _ _ hs]; rfl, h.len, h.jl, h.nl, h.wf⟩
theorem wf_set {l : List S34} (h : ∀ y ∈ l, (Lit.int .i64 y.f3).wf = true) (j : Nat) (x : S34) (hx : (Lit.int .i64 x.f3).wf = true) : ∀ y ∈ l.set j x, (Lit.int .i64 y.f3).wf = true := by
  intro y hy
  rcases List.mem_or_eq_of_mem_set hy with h1 | rfl
  · exact h y h1
  · exact hx
theorem gt_mem {l : List S34} {u : Nat} (h : u < l.length) : gt l u ∈ l := by rw [gt_at l u h]; exact List.getElem_mem _
theorem box_kept {B P mb : Nat} {hv : Value} {l : List S34} {n : Nat} {D : DataW Nat} {g : Int} {w W W2 : World} {o : Obj} (h : AgSt B w P mb hv l n D g) (hb : W.heap[w.heap.size]? = some o) (hk : Kept W W2 (AgF P mb hv)) : W2.heap[w.heap.size]? = some o :=
  blk_kept hb hk (fun e => by
    rcases e with e | e | e
    · have := blk_lt h.blk; omega
    · have := World.ownsMap.lt h.map; omega
    · have := own_lt h.row _ e; omega)
theorem R1.step {B P mb : Nat} {hv : Value} {l : List S34} {n : Nat} {D : DataW Nat} {g : Int} {i : Nat} {w : World} {kq j : Nat} {l' : List S34} {D' : DataW Nat} {n' : Nat} {W W2 : World} (h0 : AgSt B w P mb hv l n D g) (h : R1 B P mb hv l n D g i w (kq + 1) j l' D' n' W) (hj : 0 < j) (u : Nat) (hu : (j - 1) / 2 = u) (hc : cmpI (gt l i) (gt l' u) < 0)
    (hA : AgSt B W2 P mb hv (l'.set j (gt l' u)) (n' + 1) (putP D' (gt l' u).f3 j) g) (hk : Kept W W2 (AgF P mb hv)) (hb : Below B W W2) : R1 B P mb hv l n D g i w kq u (l'.set j (gt l' u)) (putP D' (gt l' u).f3 j) (n' + 1) W2 := by
  have hul : u < l'.length := by have := h.jl; have := h.len; omega
  refine ⟨hA, box_kept h0 h.box hk, h.kept.then_ hk (fun k e => .inl e), h.bel.trans hb, ?_, by rw [List.length_set]; exact h.len, by have := h.jl; omega, by have := h.nl; omega, wf_set h.wf _ _ (h.wf _ (gt_mem hul))⟩
  have e := h.eq
  rw [rise, hu, if_pos ⟨hj, hc⟩] at e
  exact e
structure R2 (B P mb : Nat) (hv : Value) (l : List S34) (n : Nat) (D : DataW Nat) (g : Int) (i : Nat) (w : World) (kq j : Nat) (l' : List S34) (D' : DataW Nat) (n' : Nat) (W : World) : Prop where
  st : AgSt B W P mb hv l' n' D' g
  box : W.heap[w.heap.size]? = some (.cells (itv (gt l i)).toArray 34 (0, 0))
  kept : Kept w W (AgF P mb hv)
  bel : Below B w W
  eq : sink (gt l i) kq l' D' j = sink (gt l i) l.length (rise (gt l i) i l D i).1 (rise (gt l i) i l D i).2.1 (rise (gt l i) i l D i).2.2
  len : l'.length = l.length
  jl : j < l.length
  nl : n' ≤ n + l.length + j
  jk : l.length ≤ j + kq
  wf : ∀ y ∈ l', (Lit.int .i64 y.f3).wf = true
theorem R2.start {B P mb : Nat} {hv : Value} {l : List S34} {n : Nat} {D : DataW Nat} {g : Int} {i : Nat} {w : World} {j : Nat} {l' : List S34} {D' : DataW Nat} {n' : Nat} {W : World} (h : R1 B P mb hv l n D g i w 0 j l' D' n' W) (hi : i < l.length) : R2 B P mb hv l n D g i w l.length j l' D' n' W := by
  have e : (l', D', j) = rise (gt l i) i l D i := h.eq
  refine ⟨h.st, h.box, h.kept, h.bel, by rw [← e], h.len, h.jl, by have := h.nl; omega, by omega, h.wf⟩
theorem R2.far {B P mb : Nat} {hv : Value} {l : List S34} {n : Nat} {D : DataW Nat} {g : Int} {i : Nat} {w : World} {kq j : Nat} {l' : List S34} {D' : DataW Nat} {n' : Nat} {W W2 : World} (h : R2 B P mb hv l n D g i w kq j l' D' n' W) (hb : Below W.heap.size W W2) : R2 B P mb hv l n D g i w kq j l' D' n' W2 :=
  ⟨h.st.far hb, blk_below h.box hb, h.kept.below hb, h.bel.trans (hb.mono (Nat.le_trans h.st.bp (Nat.le_of_lt (blk_lt h.st.blk)))), h.eq, h.len, h.jl, h.nl, h.jk, h.wf⟩
theorem down_eq (l : List S34) (j d : Nat) (b : Bool) (hd : 2 * j + 1 = d) (hb : decide (d + 1 < l.length ∧ cmpI (gt l (d + 1)) (gt l d) < 0) = b) : down l j = if b = true then d + 1 else d := by
  subst hd
  subst hb
  unfold down
  by_cases h : 2 * j + 1 + 1 < l.length ∧ cmpI (gt l (2 * j + 1 + 1)) (gt l (2 * j + 1)) < 0
  · rw [if_pos h, if_pos (decide_eq_true h)]
  · rw [if_neg h, if_neg (by simpa using h)]
theorem R2.last {B P mb : Nat} {hv : Value} {l : List S34} {n : Nat} {D : DataW Nat} {g : Int} {i : Nat} {w : World} {kq j : Nat} {l' : List S34} {D' : DataW Nat} {n' : Nat} {W W2 : World} (h : R2 B P mb hv l n D g i w kq j l' D' n' W) (hs : l'.length ≤ down l' j ∨ cmpI (gt l i) (gt l' (down l' j)) < 0)
    (hA : AgSt B W2 P mb hv (l'.set j (gt l i)) (n' + 1) (putP D' (gt l i).f3 j) g) (hk : Kept W W2 (AgF P mb hv)) (hb : Below B W W2) : setEnd B P mb hv l n D g i w (.returned (.tuple #[])) W2 := by
  have e := h.eq
  cases kq with
  | zero => exact absurd h.jl (by have := h.jk; omega)
  | succ k =>
    rw [sink, if_pos hs] at e
    have e2 : settleE l D i = (l'.set j (gt l i), putP D' (gt l i).f3 j) := by unfold settleE; rw [← e]
    refine ⟨rfl, ?_, h.kept.then_ hk (fun k e => .inl e), h.bel.trans hb⟩
    rw [e2]
    exact ⟨hA.blk, hA.row, World.ownsMap.mono hA.map (by have := h.nl; have := h.jl; omega), hA.bp, hA.bm⟩
theorem down_gt (l : List S34) (j : Nat) : j < down l j := by
  unfold down
  split <;> omega
theorem R2.step {B P mb : Nat} {hv : Value} {l : List S34} {n : Nat} {D : DataW Nat} {g : Int} {i : Nat} {w : World} {kq j : Nat} {l' : List S34} {D' : DataW Nat} {n' : Nat} {W W2 : World} (h0 : AgSt B w P mb hv l n D g) (h : R2 B P mb hv l n D g i w (kq + 1) j l' D' n' W) (hs : ¬ (l'.length ≤ down l' j ∨ cmpI (gt l i) (gt l' (down l' j)) < 0)) (v : Nat) (hv' : down l' j = v)
    (hA : AgSt B W2 P mb hv (l'.set j (gt l' v)) (n' + 1) (putP D' (gt l' v).f3 j) g) (hk : Kept W W2 (AgF P mb hv)) (hb : Below B W W2) : R2 B P mb hv l n D g i w kq v (l'.set j (gt l' v)) (putP D' (gt l' v).f3 j) (n' + 1) W2 := by
  have hd := down_gt l' j
  have e := h.eq
  rw [sink, if_neg hs, hv'] at e
  rw [hv'] at hs hd
  have hvl : v < l'.length := by omega
  exact ⟨hA, box_kept h0 h.box hk, h.kept.then_ hk (fun k e => .inl e), h.bel.trans hb, e, by rw [List.length_set]; exact h.len, by have := h.len; omega, by have := h.nl; omega, by have := h.jk; omega, wf_set h.wf _ _ (h.wf _ (gt_mem hvl))⟩
theorem cell_below {W W' : World} {a : Addr} {v : Value} (h : W.cell? a = some v) (hb : Below W.heap.size W W') : W'.cell? a = some v := (hb.cell (World.block_lt_of_cell? W a h)).trans h
theorem cell_belowD {W W' : World} {a : Addr} {v : Value} (h : W.cell? a = some v) (hb : Below W.drew.heap.size W.drew W') : W'.cell? a = some v := cell_below (W := W.drew) h hb
theorem R1.far {B P mb : Nat} {hv : Value} {l : List S34} {n : Nat} {D : DataW Nat} {g : Int} {i : Nat} {w : World} {kq j : Nat} {l' : List S34} {D' : DataW Nat} {n' : Nat} {W W2 : World} (h : R1 B P mb hv l n D g i w kq j l' D' n' W) (hb : Below W.heap.size W W2) : R1 B P mb hv l n D g i w kq j l' D' n' W2 :=
  ⟨h.st.far hb, blk_below h.box hb, h.kept.below hb, h.bel.trans (hb.mono (Nat.le_trans h.st.bp (Nat.le_of_lt (blk_lt h.st.blk)))), h.eq, h.len, h.jl, h.nl, h.wf⟩
set_option maxHeartbeats 8000000 in
set_option maxRecDepth 100000 in
theorem settle_calls (B P mb g0 m c : Nat) (l : List S34) (n : Nat) (D : DataW Nat) (g : Int) (i : Nat) (w : World) (h : AgSt B w P mb (.slice (some ⟨g0, 0, none⟩) m c) l n D g) (hi : i < l.length) (hn : n + 2 * l.length + 2 < maxLen) (hl : l.length ≤ 100000) (hx : ∀ y ∈ l, (Lit.int .i64 y.f3).wf = true) :
    Calls Try.prog 36 #[.pointer (some ⟨P, 0, none⟩), .int .i64 i] w (setEnd B P mb (.slice (some ⟨g0, 0, none⟩) m c) l n D g i w) := by
  have HS := Aside0.mk h
  have HI := Aside0.mk hi
  have HN := Aside0.mk hn
  have HL := Aside0.mk hl
  have HX := Aside0.mk hx
  obtain rfl := h.len
  have p0 := blk_cell h.blk 0
  obtain ⟨c0, c1, c2, c3⟩ := h.cells i hi
  have q0 : ((0 : Int) ≤ (i : Int)) = True := eq_true (by omega)
  have q1 : ((i : Int) < (l.length : Int)) = True := eq_true (by omega)
  have q2 : (i < l.length) = True := eq_true hi
  obtain ⟨x, hxx⟩ : ∃ x, gt l i = x := ⟨_, rfl⟩
  have HXX := Aside0.mk hxx
  rw [hxx] at c0 c1 c2 c3
  clear h hi hn hl hx hxx
  obtain ⟨x0, x1, x2, x3⟩ := x
  go_enter Try.func36, Try.ntmps36
  go_upto_region 2 with (fail)
  rename_i K1 hK1 K0 hK0
  clear p0 c0 c1 c2 c3 q0 q1 q2
  obtain ⟨W1, hW1⟩ : ∃ W1, w.alloc (Obj.cells #[Value.int IntKind.i64 x0, Value.int IntKind.i64 x1, Value.string x2, Value.int IntKind.i64 x3] 34) = W1 := ⟨_, rfl⟩
  have hR : R1 B P mb (.slice (some ⟨g0, 0, none⟩) l.length c) l n D g i w i i l D n W1 := by
    have hb : Below w.heap.size w W1 := by rw [← hW1]; exact below_alloc (Below.refl _ _) _
    have hB : B ≤ w.heap.size := Nat.le_trans HS.out.bp (Nat.le_of_lt (blk_lt HS.out.blk))
    refine ⟨HS.out.far hb, ?_, Kept.of_below hb _, hb.mono hB, rfl, rfl, HI.out, Nat.le_refl _, HX.out⟩
    rw [← hW1, HXX.out]
    exact blk_new _ _
  rw [hW1]
  have HR := Aside0.mk hR
  clear hR hW1
  go_cut [6] (fun v6 wr => v6 = .int .i64 (wrap64 ((wrap64 ((i : Int) - 1)).tdiv 2)) ∧ wr = W1)
  case first =>
    go_wp2_with (fail)
    go_meet
    exact ⟨rfl, rfl⟩
  case rest =>
  obtain ⟨rfl, rfl⟩ := hcut
  refine hK0 _ _ ?_
  go_cut [1] (fun v1 wr => ∃ (j : Nat) (l' : List S34) (D' : DataW Nat) (n' : Nat), v1 = .int .i64 j ∧ Aside0 (R1 B P mb (.slice (some ⟨g0, 0, none⟩) l.length c) l n D g i w 0 j l' D' n' wr))
  case first => as_aux_lemma =>
    go_wp2_with (fail)
    go_loopg [1, 6] i (fun kq v1 v6 wr => ∃ (j : Nat) (l' : List S34) (D' : DataW Nat) (n' : Nat), v1 = .int .i64 j ∧ v6 = .int .i64 (wrap64 ((wrap64 ((j : Int) - 1)).tdiv 2)) ∧ Aside0 (R1 B P mb (.slice (some ⟨g0, 0, none⟩) l.length c) l n D g i w kq j l' D' n' wr) ∧ Aside0 (j ≤ kq))
    case atStart => exact ⟨i, l, D, n, rfl, rfl, HR, ⟨Nat.le_refl _⟩⟩
    case round =>
      clear HR
      obtain ⟨j, l', D', n', rfl, rfl, HR, HJK⟩ := hrel
      by_cases hj : 0 < j
      · have HJ := Aside0.mk hj
        have eu : wrap64 ((wrap64 ((j : Int) - 1)).tdiv 2) = (((j - 1) / 2 : Nat) : Int) := by
          have := HR.out.jl
          have h2 := HL.out
          clear HR
          have e1 : wrap64 ((j : Int) - 1) = ((j - 1 : Nat) : Int) := by unfold wrap64; omega
          rw [e1, Int.tdiv_eq_ediv_of_nonneg (by omega)]
          have e2 : ((j - 1 : Nat) : Int) / 2 = (((j - 1) / 2 : Nat) : Int) := by omega
          rw [e2]
          unfold wrap64
          omega
        rw [eu]
        obtain ⟨u, hu⟩ : ∃ u, (j - 1) / 2 = u := ⟨_, rfl⟩
        rw [hu]
        have hul : u < l'.length := by have := HR.out.jl; have := HR.out.len; omega
        obtain ⟨c0, c1, c2, c3⟩ := HR.out.st.cells u hul
        have p0 := blk_cell HR.out.st.blk 0
        have hbox := HR.out.box
        rw [HXX.out] at hbox
        have k0 := blk_cell hbox 0
        have k1 := blk_cell hbox 1
        have k2 := blk_cell hbox 2
        have k3 := blk_cell hbox 3
        have q0 : ((0 : Int) ≤ (u : Int)) = True := eq_true (by omega)
        have q1 : ((u : Int) < (l.length : Int)) = True := eq_true (by have := HR.out.len; omega)
        have q2 : (u < l.length) = True := eq_true (by have := HR.out.len; omega)
        have q3 : ((0 : Int) < (j : Int)) = True := eq_true (by omega)
        have q4 : (0 < j) = True := eq_true hj
        have q5 : decide ((0 : Int) < (j : Int)) = true := decide_eq_true (by omega)
        have HU := Aside0.mk hu
        have HUL := Aside0.mk hul
        obtain ⟨y, hy⟩ : ∃ y, gt l' u = y := ⟨_, rfl⟩
        rw [hy] at c0 c1 c2 c3
        have HY := Aside0.mk hy
        clear hj eu hu hul hbox hy
        obtain ⟨r, hr⟩ : ∃ r, cmpI ⟨x0, x1, x2, x3⟩ y = r := ⟨_, rfl⟩
        have HCR := Aside0.mk hr
        have hC := fun W => cmp_calls ⟨x0, x1, x2, x3⟩ y W
        rw [hr] at hC
        have HC := Aside0.mk hC
        clear hr hC
        obtain ⟨y0, y1, y2, y3⟩ := y
        go_wp2_with (fail)
        go_region_held3 (fun w' => w'.cell? ⟨w.heap.size, 0, none⟩ = some (.int .i64 x0) ∧ w'.cell? ⟨w.heap.size, 1, none⟩ = some (.int .i64 x1) ∧ w'.cell? ⟨w.heap.size, 2, none⟩ = some (.string x2) ∧ w'.cell? ⟨w.heap.size, 3, none⟩ = some (.int .i64 x3) ∧ w'.cell? ⟨P, 0, none⟩ = some (.slice (some ⟨g0, 0, none⟩) l.length c) ∧ w'.cell? ⟨g0, u * 4, none⟩ = some (.int .i64 y0) ∧ w'.cell? ⟨g0, u * 4 + 1, none⟩ = some (.int .i64 y1) ∧ w'.cell? ⟨g0, u * 4 + 2, none⟩ = some (.string y2) ∧ w'.cell? ⟨g0, u * 4 + 3, none⟩ = some (.int .i64 y3)) (first | exact ⟨k0, k1, k2, k3, p0, c0, c1, c2, c3⟩ | exact ⟨cell_belowD k0 hb1, cell_belowD k1 hb1, cell_belowD k2 hb1, cell_belowD k3 hb1, cell_belowD p0 hb1, cell_belowD c0 hb1, cell_belowD c1 hb1, cell_belowD c2 hb1, cell_belowD c3 hb1⟩) (first
          | (go_at_call 39; refine (HC.out _).mono ?_; rintro e w1 ⟨rfl, hb1⟩))
        have HR1 := Aside0.mk (HR.out.far ((Below.refl _ _).drew.trans hb1))
        have p1 := blk_cell HR1.out.st.blk 0
        obtain ⟨d0, d1, d2, d3⟩ := HR1.out.st.cells u HUL.out
        rw [HY.out] at d0 d1 d2 d3
        clear k0 k1 k2 k3 p0 c0 c1 c2 c3 hb1
        by_cases hr : r < 0
        · have s1 : decide (r < 0) = true := decide_eq_true hr
          have s2 : (r < 0) = True := eq_true hr
          have HRR := Aside0.mk hr
          clear hr
          have hL := lay_calls B P mb g0 l.length c l' n' D' g j ⟨y0, y1, y2, y3⟩ w1 HR1.out.st (by have := HR1.out.jl; have := HR1.out.len; omega) (by have := HR1.out.nl; have := HN.out; have := HI.out; omega) (by have := HR1.out.len; have := HL.out; omega) (HR1.out.wf ⟨y0, y1, y2, y3⟩ (by have := gt_at l' u HUL.out; rw [HY.out] at this; rw [this]; exact List.getElem_mem _))
          have HLAY := Aside0.mk hL
          clear hL
          go_wp2_with (first | (go_at_call 54; refine HLAY.out.mono ?_; rintro e w2 ⟨rfl, hA, hk, hbl⟩; have HA := Aside0.mk hA; have HK := Aside0.mk hk; have HBL := Aside0.mk hbl; clear hA hk hbl))
          all_goals try (have h9 := HRR.out; exfalso; omega)
          cases gk with
          | zero => exact absurd HJ.out (by have := HJK.out; omega)
          | succ k1 =>
          go_roundg k1
          case measure => omega
          case rel =>
            have hc := HRR.out
            rw [← HCR.out, ← HXX.out, ← HY.out] at hc
            have hA := HA.out
            have hY := HY.out
            have hS := R1.step HS.out HR1.out HJ.out u HU.out hc (by rw [hY]; exact hA) HK.out HBL.out
            rw [hY] at hS
            exact ⟨u, _, _, _, rfl, rfl, ⟨hS⟩, ⟨by have := HJK.out; have := HU.out; have := HJ.out; omega⟩⟩
        · have s1 : decide (r < 0) = false := decide_eq_false hr
          have HRR := Aside0.mk hr
          clear hr
          go_wp2_with (fail)
          all_goals try (have h9 := HRR.out; exfalso; omega)
          go_meet
          have hc := HRR.out
          rw [← HCR.out, ← HXX.out, ← HY.out, ← HU.out] at hc
          exact ⟨j, l', D', n', rfl, ⟨HR1.out.stop (fun h => by have := h.2; omega)⟩⟩
      · obtain rfl : j = 0 := by omega
        have s1 : decide ((0 : Int) < ((0 : Nat) : Int)) = false := rfl
        clear hj
        go_wp2_with (fail)
        go_quiet (fail)
        go_wp2_with (fail)
        go_meet
        exact ⟨0, l', D', n', rfl, ⟨(HR.out.far (pw_below_drewN (Below.refl _ _) _)).stop (fun h => absurd h.1 (by omega))⟩⟩
  case rest => as_aux_lemma =>
    clear HR
    obtain ⟨j1, l1, D1, n1, rfl, HR⟩ := hcut
    have hR2 := R2.start HR.out HI.out
    have HR2 := Aside0.mk hR2
    clear hR2 HR
    refine hK1 _ _ ?_
    go_wp2_with (fail)
    go_loopg [1] l.length (fun kq v1 wr => ∃ (j : Nat) (l' : List S34) (D' : DataW Nat) (n' : Nat), v1 = .int .i64 j ∧ Aside0 (R2 B P mb (.slice (some ⟨g0, 0, none⟩) l.length c) l n D g i w kq j l' D' n' wr))
    case atStart => exact ⟨j1, l1, D1, n1, rfl, HR2⟩
    case round =>
      clear HR2
      obtain ⟨j, l', D', n', rfl, HR⟩ := hrel
      have ed : wrap64 (wrap64 (2 * (j : Int)) + 1) = ((2 * j + 1 : Nat) : Int) := by
        have := HR.out.jl
        have h2 := HL.out
        clear HR
        have e1 : wrap64 (2 * (j : Int)) = ((2 * j : Nat) : Int) := by unfold wrap64; omega
        rw [e1]
        unfold wrap64
        omega
      go_upto_region 8 with (fail)
      rename_i K3 hK3
      rw [ed]
      obtain ⟨d, hd⟩ : ∃ d, 2 * j + 1 = d := ⟨_, rfl⟩
      have HD := Aside0.mk hd
      rw [hd]
      clear ed hd
      go_cut [77] (fun v wx => v = .bool (decide (d + 1 < l'.length ∧ cmpI (gt l' (d + 1)) (gt l' d) < 0)) ∧ Aside0 (R2 B P mb (.slice (some ⟨g0, 0, none⟩) l.length c) l n D g i w gk j l' D' n' wx))
      case first => as_aux_lemma =>
        have p0 := blk_cell HR.out.st.blk 0
        obtain ⟨e, he⟩ : ∃ e, d + 1 = e := ⟨_, rfl⟩
        have HE := Aside0.mk he
        have ew : IntKind.i64.wrap ((d : Int) + 1) = (e : Int) := by
          have := HR.out.jl
          have h2 := HL.out
          have h3 := HD.out
          clear HR
          rw [i64_w]
          unfold wrap64
          omega
        have ew2 : wrap64 ((d : Int) + 1) = (e : Int) := by rw [← i64_w]; exact ew
        clear he
        by_cases hA : e < l'.length
        · have hA' : d < l'.length := by have := HE.out; omega
          obtain ⟨c0, c1, c2, c3⟩ := HR.out.st.cells e hA
          obtain ⟨d0, d1, d2, d3⟩ := HR.out.st.cells d hA'
          have q0 : ((0 : Int) ≤ (e : Int)) = True := eq_true (by omega)
          have q1 : ((e : Int) < (l.length : Int)) = True := eq_true (by have := HR.out.len; omega)
          have q2 : (e < l.length) = True := eq_true (by have := HR.out.len; omega)
          have q3 : ((0 : Int) ≤ (d : Int)) = True := eq_true (by omega)
          have q4 : ((d : Int) < (l.length : Int)) = True := eq_true (by have := HR.out.len; omega)
          have q5 : (d < l.length) = True := eq_true (by have := HR.out.len; omega)
          have q6 : decide ((e : Int) < (l.length : Int)) = true := decide_eq_true (by have := HR.out.len; omega)
          have HA := Aside0.mk hA
          obtain ⟨r, hr⟩ : ∃ r, cmpI (gt l' e) (gt l' d) = r := ⟨_, rfl⟩
          have HCR := Aside0.mk hr
          have hC := fun W => cmp_calls (gt l' e) (gt l' d) W
          rw [hr] at hC
          obtain ⟨x, hx⟩ : ∃ x, gt l' e = x := ⟨_, rfl⟩
          obtain ⟨y, hy⟩ : ∃ y, gt l' d = y := ⟨_, rfl⟩
          rw [hx] at c0 c1 c2 c3
          rw [hy] at d0 d1 d2 d3
          rw [hx, hy] at hC
          have HC := Aside0.mk hC
          clear hr hC hA hA' hx hy
          obtain ⟨y0, y1, y2, y3⟩ := y
          obtain ⟨z0, z1, z2, z3⟩ := x
          go_region_held3 (fun w' => w'.cell? ⟨P, 0, none⟩ = some (.slice (some ⟨g0, 0, none⟩) l.length c) ∧ w'.cell? ⟨g0, d * 4, none⟩ = some (.int .i64 y0) ∧ w'.cell? ⟨g0, d * 4 + 1, none⟩ = some (.int .i64 y1) ∧ w'.cell? ⟨g0, d * 4 + 2, none⟩ = some (.string y2) ∧ w'.cell? ⟨g0, d * 4 + 3, none⟩ = some (.int .i64 y3) ∧ w'.cell? ⟨g0, e * 4, none⟩ = some (.int .i64 z0) ∧ w'.cell? ⟨g0, e * 4 + 1, none⟩ = some (.int .i64 z1) ∧ w'.cell? ⟨g0, e * 4 + 2, none⟩ = some (.string z2) ∧ w'.cell? ⟨g0, e * 4 + 3, none⟩ = some (.int .i64 z3)) (first | exact ⟨p0, d0, d1, d2, d3, c0, c1, c2, c3⟩ | exact ⟨cell_belowD p0 hb1, cell_belowD d0 hb1, cell_belowD d1 hb1, cell_belowD d2 hb1, cell_belowD d3 hb1, cell_belowD c0 hb1, cell_belowD c1 hb1, cell_belowD c2 hb1, cell_belowD c3 hb1⟩) (first
            | (go_at_call 39; refine (HC.out _).mono ?_; rintro e w1 ⟨rfl, hb1⟩))
          go_wp2_with (fail)
          go_meet
          have e1 : decide (d + 1 < l'.length ∧ cmpI (gt l' (d + 1)) (gt l' d) < 0) = decide (r < 0) := by
            rw [HE.out, HCR.out]
            have := HA.out
            simp [this]
          rw [e1]
          exact ⟨rfl, ⟨HR.out.far ((Below.refl _ _).drew.trans hb1)⟩⟩
        · have q6 : decide ((e : Int) < (l.length : Int)) = false := decide_eq_false (by have := HR.out.len; omega)
          have e1 : decide (d + 1 < l'.length ∧ cmpI (gt l' (d + 1)) (gt l' d) < 0) = false := by
            have := HE.out
            simp
            omega
          have q7 : decide (e < l.length) = false := decide_eq_false (by have := HR.out.len; omega)
          have q8 : (e < l.length) = False := eq_false (by have := HR.out.len; omega)
          go_quiet (fail)
          go_wp2_with (fail)
          go_meet
          rw [e1]
          exact ⟨rfl, ⟨HR.out.far (pw_below_drewN (Below.refl _ _) _)⟩⟩
      case rest => as_aux_lemma =>
        clear HR
        obtain ⟨rfl, HR⟩ := hcut
        obtain ⟨b, hb⟩ : ∃ b, decide (d + 1 < l'.length ∧ cmpI (gt l' (d + 1)) (gt l' d) < 0) = b := ⟨_, rfl⟩
        have HBB := Aside0.mk hb
        rw [hb]
        clear hb
        refine hK3 _ _ ?_
        go_upto_if 77 with (fail)
        rename_i K4 hK4
        go_cut [7] (fun v wx => v = .int .i64 ((down l' j : Nat) : Int) ∧ wx = wc)
        case first =>
          have hdn := down_eq l' j d b HD.out HBB.out
          cases b with
          | true =>
            have ew : wrap64 ((d : Int) + 1) = ((d + 1 : Nat) : Int) := by
              have := HR.out.jl
              have h2 := HL.out
              have h3 := HD.out
              clear HR
              unfold wrap64
              omega
            rw [if_pos rfl] at hdn
            have HDN := Aside0.mk hdn
            clear hdn
            go_wp2_with (fail)
            go_meet
            exact ⟨by rw [HDN.out, ← ew], rfl⟩
          | false =>
            rw [if_neg (by decide)] at hdn
            have HDN := Aside0.mk hdn
            clear hdn
            go_wp2_with (fail)
            go_meet
            exact ⟨by rw [HDN.out], rfl⟩
        case rest => as_aux_lemma =>
          obtain ⟨rfl, rfl⟩ := hcut
          refine hK4 _ _ ?_
          obtain ⟨v, hv⟩ : ∃ v, down l' j = v := ⟨_, rfl⟩
          have HV := Aside0.mk hv
          rw [hv]
          clear hv
          have p0 := blk_cell HR.out.st.blk 0
          go_upto_region 10 with (fail)
          by_cases hV : l.length ≤ v
          · have q1 : decide ((l.length : Int) ≤ (v : Int)) = true := decide_eq_true (by omega)
            have q2 : ((l.length : Int) ≤ (v : Int)) = True := eq_true (by omega)
            have q3 : (l.length ≤ v) = True := eq_true hV
            have hbox := HR.out.box
            rw [HXX.out] at hbox
            have k0 : wc.cell? ⟨w.heap.size, 0, none⟩ = some (.int .i64 x0) := blk_cell hbox 0
            have k1 : wc.cell? ⟨w.heap.size, 1, none⟩ = some (.int .i64 x1) := blk_cell hbox 1
            have k2 : wc.cell? ⟨w.heap.size, 2, none⟩ = some (.string x2) := blk_cell hbox 2
            have k3 : wc.cell? ⟨w.heap.size, 3, none⟩ = some (.int .i64 x3) := blk_cell hbox 3
            have HLAY := Aside0.mk (fun (W : World) (hb : Below wc.heap.size wc W) => lay_calls B P mb g0 l.length c l' n' D' g j ⟨x0, x1, x2, x3⟩ W (HR.out.far hb).st (by have := HR.out.jl; have := HR.out.len; omega) (by have := HR.out.nl; have := HN.out; have := HR.out.jl; omega) (by have := HR.out.len; have := HL.out; omega) (by have := HX.out _ (gt_mem HI.out); rw [HXX.out] at this; exact this))
            have HVV := Aside0.mk hV
            clear hV hbox
            go_quiet (fail)
            go_wp2_with (first | (go_at_call 54; refine (HLAY.out _ (pw_below_drewN (Below.refl _ _) _)).mono ?_; rintro e w2 ⟨rfl, hA, hk, hbl⟩; have HA := Aside0.mk hA; have HK := Aside0.mk hk; have HBL := Aside0.mk hbl; clear hA hk hbl))
            go_end0
            have hA := HA.out
            have hY := HXX.out
            exact R2.last (HR.out.far (pw_below_drewN (Below.refl _ _) _)) (.inl (by have := HVV.out; have := HV.out; have := HR.out.len; omega)) (by rw [hY]; exact hA) HK.out HBL.out
          · have hvl : v < l'.length := by have := HR.out.len; omega
            obtain ⟨c0, c1, c2, c3⟩ := HR.out.st.cells v hvl
            have hbox := HR.out.box
            rw [HXX.out] at hbox
            have k0 : wc.cell? ⟨w.heap.size, 0, none⟩ = some (.int .i64 x0) := blk_cell hbox 0
            have k1 : wc.cell? ⟨w.heap.size, 1, none⟩ = some (.int .i64 x1) := blk_cell hbox 1
            have k2 : wc.cell? ⟨w.heap.size, 2, none⟩ = some (.string x2) := blk_cell hbox 2
            have k3 : wc.cell? ⟨w.heap.size, 3, none⟩ = some (.int .i64 x3) := blk_cell hbox 3
            have q0 : ((0 : Int) ≤ (v : Int)) = True := eq_true (by omega)
            have q1 : ((v : Int) < (l.length : Int)) = True := eq_true (by omega)
            have q2 : (v < l.length) = True := eq_true (by omega)
            have q3 : decide ((l.length : Int) ≤ (v : Int)) = false := decide_eq_false (by omega)
            have q4 : ((l.length : Int) ≤ (v : Int)) = False := eq_false (by omega)
            have q5 : decide (l.length ≤ v) = false := decide_eq_false hV
            have q6 : (l.length ≤ v) = False := eq_false hV
            have HVL := Aside0.mk hvl
            obtain ⟨y, hy⟩ : ∃ y, gt l' v = y := ⟨_, rfl⟩
            rw [hy] at c0 c1 c2 c3
            have HY := Aside0.mk hy
            obtain ⟨r, hr⟩ : ∃ r, cmpI ⟨x0, x1, x2, x3⟩ y = r := ⟨_, rfl⟩
            have HCR := Aside0.mk hr
            have hC := fun W => cmp_calls ⟨x0, x1, x2, x3⟩ y W
            rw [hr] at hC
            have HC := Aside0.mk hC
            clear hV hvl hbox hy hr hC
            obtain ⟨y0, y1, y2, y3⟩ := y
            go_region_held3 (fun w' => w'.cell? ⟨w.heap.size, 0, none⟩ = some (.int .i64 x0) ∧ w'.cell? ⟨w.heap.size, 1, none⟩ = some (.int .i64 x1) ∧ w'.cell? ⟨w.heap.size, 2, none⟩ = some (.string x2) ∧ w'.cell? ⟨w.heap.size, 3, none⟩ = some (.int .i64 x3) ∧ w'.cell? ⟨P, 0, none⟩ = some (.slice (some ⟨g0, 0, none⟩) l.length c) ∧ w'.cell? ⟨g0, v * 4, none⟩ = some (.int .i64 y0) ∧ w'.cell? ⟨g0, v * 4 + 1, none⟩ = some (.int .i64 y1) ∧ w'.cell? ⟨g0, v * 4 + 2, none⟩ = some (.string y2) ∧ w'.cell? ⟨g0, v * 4 + 3, none⟩ = some (.int .i64 y3)) (first | exact ⟨k0, k1, k2, k3, p0, c0, c1, c2, c3⟩ | exact ⟨cell_belowD k0 hb1, cell_belowD k1 hb1, cell_belowD k2 hb1, cell_belowD k3 hb1, cell_belowD p0 hb1, cell_belowD c0 hb1, cell_belowD c1 hb1, cell_belowD c2 hb1, cell_belowD c3 hb1⟩) (first
              | (go_at_call 39; refine (HC.out _).mono ?_; rintro e w1 ⟨rfl, hb1⟩))
            have HR1 := Aside0.mk (HR.out.far ((Below.refl _ _).drew.trans hb1))
            have p1 := blk_cell HR1.out.st.blk 0
            obtain ⟨d0, d1, d2, d3⟩ := HR1.out.st.cells v HVL.out
            rw [HY.out] at d0 d1 d2 d3
            have hbox := HR1.out.box
            rw [HXX.out] at hbox
            have m0 := blk_cell hbox 0
            have m1 := blk_cell hbox 1
            have m2 := blk_cell hbox 2
            have m3 := blk_cell hbox 3
            clear k0 k1 k2 k3 p0 c0 c1 c2 c3 hb1 hbox
            generalize hbr : decide (r < 0) = b9
            cases b9 with
            | true =>
              have HRR := Aside0.mk (of_decide_eq_true hbr)
              clear hbr
              have hL := lay_calls B P mb g0 l.length c l' n' D' g j ⟨x0, x1, x2, x3⟩ w1 HR1.out.st (by have := HR1.out.jl; have := HR1.out.len; omega) (by have := HR1.out.nl; have := HN.out; have := HR1.out.jl; omega) (by have := HR1.out.len; have := HL.out; omega) (by have := HX.out _ (gt_mem HI.out); rw [HXX.out] at this; exact this)
              have HLAY := Aside0.mk hL
              clear hL
              go_wp2_with (first | (go_at_call 54; refine HLAY.out.mono ?_; rintro e w2 ⟨rfl, hA, hk, hbl⟩; have HA := Aside0.mk hA; have HK := Aside0.mk hk; have HBL := Aside0.mk hbl; clear hA hk hbl))
              go_end0
              have hA := HA.out
              have hY := HXX.out
              exact R2.last HR1.out (.inr (by have hc := HRR.out; rw [← HCR.out, ← HXX.out, ← HY.out, ← HV.out] at hc; exact hc)) (by rw [hY]; exact hA) HK.out HBL.out
            | false =>
              have HRR := Aside0.mk (of_decide_eq_false hbr)
              clear hbr m0 m1 m2 m3
              have hL := lay_calls B P mb g0 l.length c l' n' D' g j ⟨y0, y1, y2, y3⟩ w1 HR1.out.st (by have := HR1.out.jl; have := HR1.out.len; omega) (by have := HR1.out.nl; have := HN.out; have := HR1.out.jl; omega) (by have := HR1.out.len; have := HL.out; omega) (HR1.out.wf ⟨y0, y1, y2, y3⟩ (by have := gt_at l' v HVL.out; rw [HY.out] at this; rw [this]; exact List.getElem_mem _))
              have HLAY := Aside0.mk hL
              clear hL
              go_wp2_with (first | (go_at_call 54; refine HLAY.out.mono ?_; rintro e w2 ⟨rfl, hA, hk, hbl⟩; have HA := Aside0.mk hA; have HK := Aside0.mk hk; have HBL := Aside0.mk hbl; clear hA hk hbl))
              cases gk with
              | zero => exact absurd HR1.out.jl (by have := HR1.out.jk; omega)
              | succ k1 =>
              go_roundg k1
              case measure => omega
              case rel =>
                have hc : ¬ (l'.length ≤ down l' j ∨ cmpI (gt l i) (gt l' (down l' j)) < 0) := by
                  rw [HV.out, HXX.out, HY.out, HCR.out]
                  have := HVL.out
                  have := HRR.out
                  omega
                have hA := HA.out
                have hY := HY.out
                have hS := R2.step HS.out HR1.out hc v HV.out (by rw [hY]; exact hA) HK.out HBL.out
                rw [hY] at hS
                exact ⟨v, _, _, _, rfl, ⟨hS⟩⟩

end Go.Proofs.Ytdlbnkiolpmnbaa.Ag
