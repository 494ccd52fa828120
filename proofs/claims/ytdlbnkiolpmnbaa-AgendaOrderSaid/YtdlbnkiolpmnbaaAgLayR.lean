/- agenda: the document's lay: an item put at its place. It says its own conditions. -/
import Derived.Test.YtdlbnkiolpmnbaaProg
import Derived.Test.YtdlbnkiolpmnbaaMAgax0
import Derived.Test.YtdlbnkiolpmnbaaMAgax2
import Derived.WalkKit
import Derived.Deep.RegionLaw
import Derived.Deep.RegionWith
import Derived.Deep.RegionHeld3
import Derived.BigRegion
import Derived.BigQuiet
import Derived.StillTailTactics
import Derived.Test.YtdlbnkiolpmnbaaAgSt
import Derived.Test.YtdlbnkiolpmnbaaAgLay
import Derived.Test.YtdlbnkiolpmnbaaAgCmp
import Derived.Test.YtdlbnkiolpmnbaaAgSet
import Derived.Test.YtdlbnkiolpmnbaaAgPlain
import Derived.Test.YtdlbnkiolpmnbaaAgInv
import Derived.Test.YtdlbnkiolpmnbaaAgOp
import Derived.Test.YtdlbnkiolpmnbaaAgPut
import Derived.Test.YtdlbnkiolpmnbaaAgMov
import Derived.Test.YtdlbnkiolpmnbaaAgCan
import Derived.Test.YtdlbnkiolpmnbaaAgTak
import Derived.Test.YtdlbnkiolpmnbaaAgTke
import Derived.Test.YtdlbnkiolpmnbaaAgLaw
import Derived.Test.YtdlbnkiolpmnbaaAgIter
import Derived.Test.YtdlbnkiolpmnbaaAgSeq
import Derived.Test.YtdlbnkiolpmnbaaAgSort
import Derived.Test.YtdlbnkiolpmnbaaAgList
import Derived.Test.YtdlbnkiolpmnbaaAgShow
import Derived.Test.YtdlbnkiolpmnbaaAgLv
import Derived.Test.YtdlbnkiolpmnbaaAgSame
import Derived.Test.YtdlbnkiolpmnbaaAgRef
import Derived.Maps.OwnIn
import Derived.Maps.OwnSet
import Derived.Deep.AppendLies
namespace Go.Proofs.Ytdlbnkiolpmnbaa.Ag
open Go.RowKit Go.Proofs.Ytdlbnkiolpmnbaa.MAga Go.Proofs.YtdlbnkiolpmnbaaW.PrintWords Go.Proofs.YtdlbnkiolpmnbaaW.PrintLast Go.Proofs.YtdlbnkiolpmnbaaW.PrintMore
attribute [local go_sem] max2_int min2_int max_two min_two max_three min_three max_four min_four
set_option linter.unusedVariables false
set_option linter.unusedSimpArgs false
-- import Derived.Maps.OwnIn
-- import Derived.Maps.OwnSet
-- import Derived.Deep.AppendLies
/-- One item behind a row of the document's items. -/
theorem app69 {ops : Array Oper} {rest : List Oper} {o : Oper} {ac : Act} {Q : Exit → Act → World → Prop} (hgd : o.guard = none) (s x : Operand)
    (ho : o.op = .call { callee := .builtin .append, args := #[s, x], argTypes := #[58, 58] }) (W : World) (base : Nat) (v : Value) (out : List S34) (y : S34)
    (hrow : W.ownsRow base 69 4 v out.length (flat out)) (hlen : out.length ≤ 3000) (hb : base ≤ W.heap.size) (hs : ac.eval s = v) (hx : ac.eval x = .slice (some ⟨W.heap.size, 0, none⟩) 1 1)
    (hK : ∀ v' w', w'.ownsRow base 69 4 v' (out ++ [y]).length (flat (out ++ [y])) → Below base W w' → (∀ k, v'.ownBlock = some k → v.ownBlock = some k ∨ W.heap.size ≤ k) → W.grownBy w' v.ownBlock → wpList Try.prog ops Q rest (ac.put o.dst v') w') :
    wpList Try.prog ops Q (o :: rest) ac (W.alloc (.cells (itv y).toArray 69)) := by
  obtain ⟨i0, hi, hz0, hz1, hz2⟩ := info_parts infoR
  have hal := below_alloc (Below.refl W.heap.size W) (Obj.cells (itv y).toArray 69)
  refine wpList_append_lies _ hgd s x 58 ho base 69 i0 _ 4 40 Try.underlying58 hi hz0 hz1 hz2 rfl (by decide) v out.length (flat out) hs (hrow.alloc _) ⟨W.heap.size, 0, none⟩ 1 1 (itv y) hx rfl ?_ ?_ (by decide) (by unfold maxLen; omega) (by omega) (Nat.le_trans hb hal.size) (W.heap.size + 1) (by simp) (fun g cap w' h1 h2 h3 _ => hK _ w' ?_ ?_ ?_ ?_)
  · exact fun j u hu => World.news_of_block (blk_new W _) j u hu
  · intro u hu
    simp [itv] at hu
    rcases hu with rfl | rfl | rfl | rfl <;> rfl
  · have e1 : (out ++ [y]).length = out.length + 1 := by simp
    have e2 : flat (out ++ [y]) = flat out ++ itv y := by rw [flat_app]; simp [flat]
    rw [e1, e2]
    exact h1
  · exact (hal.mono hb).grown h2 (Nat.le_trans hb hal.size) (fun k e => own_base hrow k e)
  · intro k e
    have e1 : g = k := Option.some.inj e
    rcases h3 with h3 | h3
    · exact .inl (by rw [h3, e1])
    · exact .inr (by omega)
  · exact ⟨hal.os.symm ▸ h2.os, by rw [h2.tape]; exact hal.tape, by rw [h2.output]; exact hal.output, Nat.le_trans hal.size h2.size, fun k hk hne => (h2.block k (Nat.lt_of_lt_of_le hk hal.size) hne).trans (hal.block k hk)⟩
def rlayEnd (B P : Nat) (F : Nat → Prop) (L' : List S34) (g : Int) (w : World) (e : Ending) (w' : World) : Prop :=
  e = .returned (.tuple #[]) ∧ ∃ F', RfV B w' P F' L' g ∧ To B w w' F F'
theorem row0 (W : World) : (W.alloc (.cells #[] 69)).ownsRow W.heap.size 69 4 (.slice (some ⟨W.heap.size, 0, none⟩) 0 0) ([] : List S34).length (flat []) :=
  ⟨rfl, .inr ⟨W.heap.size, 0, #[], rfl, Nat.le_refl _, blk_new W _, Nat.le_refl _, by unfold maxLen; omega, rfl, rfl⟩⟩
theorem row_far {W W' : World} {base n : Nat} {v : Value} {xs : List Value} {T : TypeId} (h : W.ownsRow base T 4 v n xs) (hb : Below W.heap.size W W') : W'.ownsRow base T 4 v n xs := own_move h (fun k e => hb.block k (own_lt h k e))
/-- Another row stands in the reference's place. -/
theorem RfSt.row_set {B : Nat} {w W : World} {P : Nat} {hv v : Value} {L L' : List S34} {g : Int} {base : Nat} (h0 : RfSt B w P hv L g) (hb : Below w.heap.size w W) (hr : W.ownsRow base 69 4 v L'.length (flat L')) (hbase : w.heap.size ≤ base) :
    RfV B (W.setCell ⟨P, 0, none⟩ v) P (RfF P v) L' g ∧ To B w (W.setCell ⟨P, 0, none⟩ v) (RfF P hv) (RfF P v) := by
  have h1 := h0.far hb
  have hBW : B ≤ w.heap.size := Nat.le_trans h0.bp (Nat.le_of_lt (blk_lt h0.blk))
  have hlt := blk_lt h0.blk
  have hne : ∀ k, v.ownBlock = some k → k ≠ P := fun k e e2 => by have := own_base hr k e; omega
  have hr2 : W.ownsRow B 69 4 v L'.length (flat L') := by
    refine ⟨hr.1, ?_⟩
    rcases hr.2 with h2 | ⟨g1, cap, cur, e, h2, h3⟩
    · exact .inl h2
    · exact .inr ⟨g1, cap, cur, e, by omega, h3⟩
  refine ⟨⟨v, ⟨by simpa using blk_set h1.blk 0 v, own_move hr2 (fun k e => Below.heap_setCell _ _ _ _ (hne k e)), h0.bp⟩, rfl⟩, ⟨(Kept.of_below hb _).setCell (.inl (.inl rfl)) _, (hb.mono hBW).setCell h0.bp _, fun k hk => ?_⟩⟩
  rcases hk with e | e
  · exact .inl (.inl e)
  · exact .inr (by have := own_base hr k e; omega)
theorem slice_form {W : World} {base n : Nat} {v : Value} {xs : List Value} {T : TypeId} (h : W.ownsRow base T 4 v n xs) : ∃ A m c, v = .slice A m c := by
  rcases h.2 with ⟨e, _⟩ | ⟨g1, cap, cur, e, _⟩
  · exact ⟨_, _, _, e⟩
  · exact ⟨_, _, _, e⟩
structure LR (B P : Nat) (hv : Value) (L : List S34) (g : Int) (x : S34) (w W1 : World) (i : Nat) (v : Value) (out : List S34) (d : Bool) (W : World) : Prop where
  lx : LaidX x (L.take i) out d
  row : W.ownsRow W1.heap.size 69 4 v out.length (flat out)
  bel : Below W1.heap.size W1 W
  il : i ≤ L.length
  ol : out.length ≤ i + 1
theorem LR.far {B P : Nat} {hv : Value} {L : List S34} {g : Int} {x : S34} {w W1 : World} {i : Nat} {v : Value} {out : List S34} {d : Bool} {W W' : World} (h : LR B P hv L g x w W1 i v out d W) (hb : Below W.heap.size W W') : LR B P hv L g x w W1 i v out d W' :=
  ⟨h.lx, row_far h.row hb, h.bel.trans (hb.mono h.bel.size), h.il, h.ol⟩
theorem LR.put {B P : Nat} {hv : Value} {L : List S34} {g : Int} {x : S34} {w W1 : World} {i : Nat} {v v' : Value} {out out' : List S34} {d b : Bool} {W W' : World} (h : LR B P hv L g x w W1 i v out d W) (hi : i < L.length) (y : S34) (hy : gt L i = y) (hb : decide (cmpI x y < 0) = b)
    (ho : out' = (if d = false ∧ cmpI x y < 0 then out ++ [x] else out) ++ [y]) (hrow : W'.ownsRow W1.heap.size 69 4 v' out'.length (flat out')) (hbel : Below W1.heap.size W1 W') : LR B P hv L g x w W1 (i + 1) v' out' (d || b) W' := by
  subst hy hb
  have h1 := h.lx.step (gt L i)
  rw [← take_snoc L i hi, ← ho] at h1
  refine ⟨h1, hrow, hbel, hi, ?_⟩
  have h2 := h1.l
  cases hd : (d || decide (cmpI x (gt L i) < 0)) with
  | true =>
    rw [hd] at h2
    rw [h2.1 rfl, (insR_perm _ _).length_eq, List.length_cons, List.length_take]
    omega
  | false =>
    rw [hd] at h2
    rw [(h2.2 rfl).1, List.length_take]
    omega
set_option maxHeartbeats 8000000 in
set_option maxRecDepth 100000 in
theorem rlay_calls (B P : Nat) (F : Nat → Prop) (L : List S34) (g : Int) (x : S34) (w : World) (h : RfV B w P F L g) (hl : L.length ≤ 1000) :
    Calls Try.prog 66 #[.pointer (some ⟨P, 0, none⟩), .agg #[.int .i64 x.f0, .int .i64 x.f1, .string x.f2, .int .i64 x.f3]] w (rlayEnd B P F (insR x L) g w) := by
  obtain ⟨hv, hs, rfl⟩ := h
  obtain ⟨ad, cc, rfl, hcap⟩ := hs.two
  have HS := Aside0.mk hs
  have HL := Aside0.mk hl
  clear hs hl hcap
  obtain ⟨x, rfl⟩ : ∃ y, y = x := ⟨x, rfl⟩
  obtain ⟨x0, x1, x2, x3⟩ := x
  go_enter Try.func66, Try.ntmps66
  go_upto_block 0 with (fail)
  obtain ⟨x, hx⟩ : ∃ x : S34, (⟨x0, x1, x2, x3⟩ : S34) = x := ⟨_, rfl⟩
  have HX := Aside0.mk hx
  clear hx
  obtain ⟨W1, hW1⟩ : ∃ W1, w.alloc (Obj.cells #[Value.int IntKind.i64 x0, Value.int IntKind.i64 x1, Value.string x2, Value.int IntKind.i64 x3] 69) = W1 := ⟨_, rfl⟩
  have hb1 : Below w.heap.size w W1 := by rw [← hW1]; exact below_alloc (Below.refl _ _) _
  have hbox : W1.heap[w.heap.size]? = some (.cells #[Value.int IntKind.i64 x0, Value.int IntKind.i64 x1, Value.string x2, Value.int IntKind.i64 x3] 69 (0, 0)) := by rw [← hW1]; exact blk_new _ _
  have hsz : W1.heap.size = w.heap.size + 1 := by rw [← hW1]; simp
  rw [hW1, ← hsz]
  have HB1 := Aside0.mk hb1
  have HBOX := Aside0.mk hbox
  have HSZ := Aside0.mk hsz
  have HR0 : LR B P (.slice ad L.length cc) L g x w W1 0 (.slice (some ⟨W1.heap.size, 0, none⟩) 0 0) [] false (W1.alloc (.cells #[] 69)) :=
    ⟨⟨⟨fun e => by simp at e, fun _ => ⟨rfl, fun y hy => by simp at hy⟩⟩, fun e => by simp at e⟩, row0 W1, below_alloc (Below.refl _ _) _, Nat.zero_le _, by simp⟩
  have HR := Aside0.mk HR0
  clear HR0 hb1 hbox hsz hW1
  rename_i K1 hK1
  go_cut [4, 5, 6] (fun v4 v5 v6 wr => ∃ out d, v5 = .bool d ∧ Aside0 (LR B P (.slice ad L.length cc) L g x w W1 L.length v4 out d wr))
  case first => as_aux_lemma =>
    go_wp2_with (fail)
    go_loopg [4, 5, 6] L.length (fun kq v4 v5 v6 wr => ∃ (i : Nat) (out : List S34) (d : Bool), v6 = .int .i64 i ∧ v5 = .bool d ∧ Aside0 (LR B P (.slice ad L.length cc) L g x w W1 i v4 out d wr) ∧ Aside0 (i + kq = L.length))
    case atStart => exact ⟨0, [], false, rfl, rfl, HR, ⟨by omega⟩⟩
    case round =>
      clear HR
      obtain ⟨i, out, d, rfl, rfl, HR, HQ⟩ := hrel
      have p0 := blk_cell (HS.out.far (HB1.out.trans (HR.out.bel.mono HB1.out.size))).blk 0
      by_cases hi : i < L.length
      · have q1 : decide ((i : Int) < (L.length : Int)) = true := decide_eq_true (by omega)
        have q2 : decide (i < L.length) = true := decide_eq_true hi
        have q3 : ((0 : Int) ≤ (i : Int)) = True := eq_true (by omega)
        have q4 : ((i : Int) < (L.length : Int)) = True := eq_true (by omega)
        have ew : wrap64 ((i : Int) + 1) = (i : Int) + 1 := by have := HL.out; unfold wrap64; omega
        obtain ⟨g0, e, c0, c1, c2, c3⟩ := (HS.out.far (HB1.out.trans (HR.out.bel.mono HB1.out.size))).cells i hi
        cases e
        obtain ⟨y, hy⟩ : ∃ y, gt L i = y := ⟨_, rfl⟩
        rw [hy] at c0 c1 c2 c3
        have HY := Aside0.mk hy
        have HI := Aside0.mk hi
        have hbx := blk_below HBOX.out HR.out.bel
        have k0 := blk_cell hbx 0
        have k1 := blk_cell hbx 1
        have k2 := blk_cell hbx 2
        have k3 := blk_cell hbx 3
        clear hy hi hbx
        obtain ⟨y0, y1, y2, y3⟩ := y
        cases d with
        | true =>
          go_upto_region 6 with (fail)
          go_quiet (fail)
          go_wp2_with (at_builtin; refine app69 rfl _ _ rfl _ W1.heap.size _ out ⟨y0, y1, y2, y3⟩ (row_far HR.out.row (pw_below_drewN (Below.refl _ _) _)) (by have := HR.out.ol; have := HL.out; have := HI.out; omega) HR.out.bel.size rfl rfl ?_; intro v' w' hrow' hbel' hown' _; have HROW := Aside0.mk hrow'; have HBEL := Aside0.mk hbel'; clear hrow' hbel' hown')
          clear k0 k1 k2 k3 c0 c1 c2 c3 p0 q1 q2 q3 q4
          cases gk with
          | zero => exact absurd HI.out (by have := HQ.out; omega)
          | succ k1 =>
          go_roundg k1
          case measure => omega
          case rel =>
            exact ⟨i + 1, _, true, rfl, rfl, ⟨HR.out.put (b := decide (cmpI x ⟨y0, y1, y2, y3⟩ < 0)) HI.out ⟨y0, y1, y2, y3⟩ HY.out rfl (by rw [if_neg (by simp)]) HROW.out ((HR.out.bel.trans ((pw_below_drewN (Below.refl wr.heap.size wr) nq).mono HR.out.bel.size)).trans HBEL.out)⟩, ⟨by have := HQ.out; omega⟩⟩
        | false =>
          obtain ⟨r, hr⟩ : ∃ r, cmpI x ⟨y0, y1, y2, y3⟩ = r := ⟨_, rfl⟩
          have hA := fun W => ahead_calls x ⟨y0, y1, y2, y3⟩ W
          rw [hr, ← HX.out] at hA
          have HA := Aside0.mk hA
          have HCR := Aside0.mk hr
          clear hA hr
          go_upto_region 6 with (fail)
          rename_i K3 hK3
          go_region_held3 (fun w' => w'.cell? ⟨w.heap.size, 0, none⟩ = some (.int .i64 x0) ∧ w'.cell? ⟨w.heap.size, 1, none⟩ = some (.int .i64 x1) ∧ w'.cell? ⟨w.heap.size, 2, none⟩ = some (.string x2) ∧ w'.cell? ⟨w.heap.size, 3, none⟩ = some (.int .i64 x3) ∧ w'.cell? ⟨P, 0, none⟩ = some (.slice (some ⟨g0, 0, none⟩) L.length cc) ∧ w'.cell? ⟨g0, i * 4, none⟩ = some (.int .i64 y0) ∧ w'.cell? ⟨g0, i * 4 + 1, none⟩ = some (.int .i64 y1) ∧ w'.cell? ⟨g0, i * 4 + 2, none⟩ = some (.string y2) ∧ w'.cell? ⟨g0, i * 4 + 3, none⟩ = some (.int .i64 y3)) (first | exact ⟨k0, k1, k2, k3, p0, c0, c1, c2, c3⟩ | exact ⟨cell_belowD k0 hb1, cell_belowD k1 hb1, cell_belowD k2 hb1, cell_belowD k3 hb1, cell_belowD p0 hb1, cell_belowD c0 hb1, cell_belowD c1 hb1, cell_belowD c2 hb1, cell_belowD c3 hb1⟩) (first
            | (go_at_call 74; refine (HA.out _).mono ?_; rintro e w1 ⟨rfl, hb1⟩))
          have HR1 := Aside0.mk (HR.out.far ((Below.refl _ _).drew.trans hb1))
          clear k0 k1 k2 k3 p0 c0 c1 c2 c3 hb1 HR
          have p0 := blk_cell (HS.out.far (HB1.out.trans (HR1.out.bel.mono HB1.out.size))).blk 0
          obtain ⟨g2, e2, c0, c1, c2, c3⟩ := (HS.out.far (HB1.out.trans (HR1.out.bel.mono HB1.out.size))).cells i HI.out
          cases e2
          rw [HY.out] at c0 c1 c2 c3
          have hbx := blk_below HBOX.out HR1.out.bel
          have k0 := blk_cell hbx 0
          have k1 := blk_cell hbx 1
          have k2 := blk_cell hbx 2
          have k3 := blk_cell hbx 3
          clear hbx
          generalize hbr : decide (r < 0) = b9
          cases b9 with
          | true =>
            have HRR := Aside0.mk (of_decide_eq_true hbr)
            clear hbr
            go_upto_region 8 with (at_builtin; refine app69 rfl _ _ rfl _ W1.heap.size _ out ⟨x0, x1, x2, x3⟩ (row_far HR1.out.row (Below.refl _ _)) (by have := HR1.out.ol; have := HL.out; have := HI.out; omega) HR1.out.bel.size rfl rfl ?_; intro v' w' hrow' hbel' hown' _; have HROW := Aside0.mk hrow'; have HBEL := Aside0.mk (HR1.out.bel.trans hbel'); clear hrow' hbel' hown')
            clear k0 k1 k2 k3 c0 c1 c2 c3 p0
            have p0 := blk_cell (HS.out.far (HB1.out.trans (HBEL.out.mono HB1.out.size))).blk 0
            obtain ⟨g3, e3, c0, c1, c2, c3⟩ := (HS.out.far (HB1.out.trans (HBEL.out.mono HB1.out.size))).cells i HI.out
            cases e3
            rw [HY.out] at c0 c1 c2 c3
            go_wp2_with (at_builtin; refine app69 rfl _ _ rfl _ W1.heap.size _ (out ++ [⟨x0, x1, x2, x3⟩]) ⟨y0, y1, y2, y3⟩ (row_far HROW.out (Below.refl _ _)) (by have := HR1.out.ol; have := HL.out; have := HI.out; rw [List.length_append]; simp; omega) HBEL.out.size rfl rfl ?_; intro v2 w2 hrow2 hbel2 hown2 _; have HROW2 := Aside0.mk hrow2; have HBEL2 := Aside0.mk (HBEL.out.trans hbel2); clear hrow2 hbel2 hown2)
            clear c0 c1 c2 c3 p0 q1 q2 q3 q4
            cases gk with
            | zero => exact absurd HI.out (by have := HQ.out; omega)
            | succ k1 =>
            go_roundg k1
            case measure => omega
            case rel =>
              have hcf : cmpI x ⟨y0, y1, y2, y3⟩ < 0 := by have := HRR.out; rw [HCR.out]; omega
              exact ⟨i + 1, _, true, rfl, rfl, ⟨HR1.out.put (b := true) HI.out ⟨y0, y1, y2, y3⟩ HY.out (decide_eq_true hcf) (by rw [if_pos ⟨rfl, hcf⟩, HX.out]) HROW2.out HBEL2.out⟩, ⟨by have := HQ.out; omega⟩⟩
          | false =>
            have HRR := Aside0.mk (of_decide_eq_false hbr)
            clear hbr
            go_wp2_with (at_builtin; refine app69 rfl _ _ rfl _ W1.heap.size _ out ⟨y0, y1, y2, y3⟩ (row_far HR1.out.row (Below.refl _ _)) (by have := HR1.out.ol; have := HL.out; have := HI.out; omega) HR1.out.bel.size rfl rfl ?_; intro v' w' hrow' hbel' hown' _; have HROW := Aside0.mk hrow'; have HBEL := Aside0.mk hbel'; clear hrow' hbel' hown')
            clear k0 k1 k2 k3 c0 c1 c2 c3 p0 q1 q2 q3 q4
            cases gk with
            | zero => exact absurd HI.out (by have := HQ.out; omega)
            | succ k1 =>
            go_roundg k1
            case measure => omega
            case rel =>
              have hcf : decide (cmpI x ⟨y0, y1, y2, y3⟩ < 0) = false := decide_eq_false (by have := HRR.out; rw [HCR.out]; omega)
              exact ⟨i + 1, _, false, rfl, rfl, ⟨HR1.out.put (b := false) HI.out ⟨y0, y1, y2, y3⟩ HY.out hcf (by rw [if_neg (fun e => of_decide_eq_false hcf e.2)]) HROW.out (HR1.out.bel.trans HBEL.out)⟩, ⟨by have := HQ.out; omega⟩⟩
      · have q1 : decide ((i : Int) < (L.length : Int)) = false := decide_eq_false (by omega)
        have q2 : decide (i < L.length) = false := decide_eq_false hi
        have him : i = L.length := by have := HQ.out; omega
        subst him
        go_wp2_with (fail)
        go_meet
        exact ⟨out, d, rfl, HR⟩
  case rest =>
    clear HR
    obtain ⟨out, d, rfl, HR⟩ := hcut
    refine hK1 _ _ ?_
    have hend := HR.out.lx.end_
    rw [List.take_length] at hend
    have HEND := Aside0.mk hend
    clear hend
    cases d with
    | true =>
      have hs1 := HS.out.far (HB1.out.trans (HR.out.bel.mono HB1.out.size))
      have p0 := blk_cell hs1.blk 0
      have f0 := blk_frozen hs1.blk 0
      clear hs1
      obtain ⟨A9, m9, c9, rfl⟩ := slice_form HR.out.row
      go_wp2_with (fail)
      go_end0
      have hrow := HR.out.row
      have e1 : out = insR x L := by have := HEND.out; simpa using this
      rw [e1] at hrow
      obtain ⟨h1, h2⟩ := HS.out.row_set (HB1.out.trans (HR.out.bel.mono HB1.out.size)) hrow (by rw [HSZ.out]; omega)
      rw [HX.out]
      exact ⟨rfl, _, h1, h2⟩
    | false =>
      have hbx := blk_below HBOX.out HR.out.bel
      have k0 := blk_cell hbx 0
      have k1 := blk_cell hbx 1
      have k2 := blk_cell hbx 2
      have k3 := blk_cell hbx 3
      clear hbx
      go_upto_region 12 with (at_builtin; refine app69 rfl _ _ rfl _ W1.heap.size _ out ⟨x0, x1, x2, x3⟩ (row_far HR.out.row (Below.refl _ _)) (by have := HR.out.ol; have := HL.out; omega) HR.out.bel.size rfl rfl ?_; intro v' w' hrow' hbel' hown' _; have HROW := Aside0.mk hrow'; have HBEL := Aside0.mk (HR.out.bel.trans hbel'); clear hrow' hbel' hown')
      have hs1 := HS.out.far (HB1.out.trans (HBEL.out.mono HB1.out.size))
      have p0 := blk_cell hs1.blk 0
      have f0 := blk_frozen hs1.blk 0
      clear hs1 k0 k1 k2 k3
      obtain ⟨A9, m9, c9, rfl⟩ := slice_form HROW.out
      go_wp2_with (fail)
      go_end0
      have hrow := HROW.out
      have e1 : out ++ [⟨x0, x1, x2, x3⟩] = insR x L := by have := HEND.out; rw [HX.out]; simpa using this
      rw [e1] at hrow
      obtain ⟨h1, h2⟩ := HS.out.row_set (HB1.out.trans (HBEL.out.mono HB1.out.size)) hrow (by rw [HSZ.out]; omega)
      rw [HX.out]
      exact ⟨rfl, _, h1, h2⟩

end Go.Proofs.Ytdlbnkiolpmnbaa.Ag
