/- agenda: Next and Move. Each says its own conditions. -/
import Derived.Test.YtdlbnkiolpmnbaaProg
import Derived.Test.YtdlbnkiolpmnbaaMAgax0
import Derived.Test.YtdlbnkiolpmnbaaMAgax2
import Derived.WalkKit
import Derived.Deep.RegionLaw
import Derived.Deep.RegionWith
import Derived.Deep.RegionHeld3
import Derived.BigRegion
import Derived.BigQuiet
import Derived.StillTailTactics
import Derived.Test.YtdlbnkiolpmnbaaAgSt
import Derived.Test.YtdlbnkiolpmnbaaAgLay
import Derived.Test.YtdlbnkiolpmnbaaAgCmp
import Derived.Test.YtdlbnkiolpmnbaaAgSet
import Derived.Test.YtdlbnkiolpmnbaaAgPlain
import Derived.Test.YtdlbnkiolpmnbaaAgInv
import Derived.Test.YtdlbnkiolpmnbaaAgOp
import Derived.Test.YtdlbnkiolpmnbaaAgPut
import Derived.Maps.OwnIn
import Derived.Maps.OwnSet
namespace Go.Proofs.Ytdlbnkiolpmnbaa.Ag
open Go.RowKit Go.Proofs.Ytdlbnkiolpmnbaa.MAga Go.Proofs.YtdlbnkiolpmnbaaW.PrintWords Go.Proofs.YtdlbnkiolpmnbaaW.PrintLast Go.Proofs.YtdlbnkiolpmnbaaW.PrintMore
attribute [local go_sem] max2_int min2_int max_two min_two max_three min_three max_four min_four
set_option linter.unusedVariables false
set_option linter.unusedSimpArgs false
-- import Derived.Maps.OwnIn
-- import Derived.Maps.OwnSet
open Go.Maps
theorem lit_inj {a b : Int} (h : (DataW.lit (.int .i64 a) : DataW Nat) = .lit (.int .i64 b)) : a = b := by
  injection h with e1
  injection e1 with e2 e3
theorem AgSt.look {B : Nat} {W : World} {P mb : Nat} {hv : Value} {l : List S34} {n : Nat} {D : DataW Nat} {g : Int} (h : AgSt B W P mb hv l n D g) (hp : PlaceOK D l) (t : Int) (ht : (Lit.int .i64 t).wf = true) :
    (hasT D t = false ∧ ∃ c, ∀ W', AgSt B W' P mb hv l n D g → (Instr.lookup 80 (.map (some mb)) (.int .i64 t) true).run Try.prog W' = .ok (.tuple #[.int .i64 c, .bool false]) W') ∨
      ∃ i, i < l.length ∧ (gt l i).f3 = t ∧ ∀ W', AgSt B W' P mb hv l n D g → (Instr.lookup 80 (.map (some mb)) (.int .i64 t) true).run Try.prog W' = .ok (.tuple #[.int .i64 (i : Int), .bool true]) W' := by
  have key : ∀ W', AgSt B W' P mb hv l n D g → ∃ c, (Instr.lookup 80 (.map (some mb)) (.int .i64 t) true).run Try.prog W' = .ok (.tuple #[.int .i64 c, .bool (hasT D t)]) W' ∧ D.atKey (Lit.int .i64 t) (.lit (.int .i64 0)) = .lit (.int .i64 c) := by
    intro W' h'
    obtain ⟨v, ps, h1, h2⟩ := World.ownsMap.look_ok h'.map (Maps.int_keyed Try.underlying3) Try.underlying80 (Try.zeroValue3 W') (plainElem_int Try.underlying3 (show (Lit.int .i64 0).wf = true by decide)) (Maps.keyOf_int_mk Try.underlying3 ht)
    obtain ⟨c, rfl, hc, _⟩ := plainElem_int_inv Try.underlying3 h2
    exact ⟨c, h1, congrArg Prod.fst hc⟩
  obtain ⟨c, h1, h2⟩ := key W h
  cases hb : hasT D t with
  | false =>
    refine .inl ⟨rfl, c, fun W' h' => ?_⟩
    obtain ⟨c', h3, h4⟩ := key W' h'
    have e : c = c' := lit_inj (h2.symm.trans h4)
    rw [h3, hb, e]
  | true =>
    obtain ⟨i, hi, e1, e2⟩ := hp.find hb
    refine .inr ⟨i, hi, e1, fun W' h' => ?_⟩
    obtain ⟨c', h3, h4⟩ := key W' h'
    have e : c' = (i : Int) := lit_inj (h4.symm.trans e2.2)
    rw [h3, hb, e]
theorem flat_set0 : ∀ (l : List S34) (i : Nat) (h : i < l.length) (a : Int), (flat l).set (i * 4) (.int .i64 a) = flat (l.set i ⟨a, (gt l i).f1, (gt l i).f2, (gt l i).f3⟩)
  | y :: l, 0, _, a => by simp [flat, itv, gt]
  | y :: l, i + 1, h, a => by
    have ih := flat_set0 l i (by simpa using h) a
    rw [List.set_cons_succ, flat_cons, flat_cons]
    have e : gt (y :: l) (i + 1) = gt l i := by simp [gt]
    rw [e, ← ih]
    have e : (i + 1) * 4 = i * 4 + 4 := by omega
    rw [e]
    simp [itv]
theorem AgSt.setAt {B : Nat} {W : World} {P mb g0 c : Nat} {l : List S34} {n : Nat} {D : DataW Nat} {g : Int} (h : AgSt B W P mb (.slice (some ⟨g0, 0, none⟩) l.length c) l n D g) (i : Nat) (hi : i < l.length) (a : Int) :
    AgSt B (W.setCell ⟨g0, i * 4, none⟩ (.int .i64 a)) P mb (.slice (some ⟨g0, 0, none⟩) l.length c) (l.set i ⟨a, (gt l i).f1, (gt l i).f2, (gt l i).f3⟩) n D g := by
  have r0 := h.row.stored (i * 4) (.int .i64 a)
  have hp : P ≠ g0 := fun e => h.rp (by rw [e]; rfl)
  have hm : mb ≠ g0 := fun e => h.rm (by rw [e]; rfl)
  have row := r0.1
  rw [flat_set0 l i hi a] at row
  have hl : (l.set i (⟨a, (gt l i).f1, (gt l i).f2, (gt l i).f3⟩ : S34)).length = l.length := List.length_set
  refine ⟨blk_far h.blk hp _, ?_, h.map.setCell hm _, h.bp, h.bm⟩
  rw [hl]
  exact row
def nextEnd (B P : Nat) (F : Nat → Prop) (c : Nat) (L : List S34) (g : Int) (w : World) (e : Ending) (w' : World) : Prop :=
  e = .returned (.tuple #[.agg (itv (nextR L).1).toArray, .bool (nextR L).2]) ∧ AgV B w' P F c L g ∧ Below w.heap.size w w'
set_option maxHeartbeats 4000000 in
set_option maxRecDepth 100000 in
theorem next_calls (B P : Nat) (F : Nat → Prop) (c : Nat) (L : List S34) (g : Int) (w : World) (h : AgV B w P F c L g) :
    Calls Try.prog 32 #[.pointer (some ⟨P, 0, none⟩)] w (nextEnd B P F c L g w) := by
  have HV := Aside0.mk h
  obtain ⟨mb, hv, l, n, D, hs, hi, hn, hgc, rfl⟩ := h
  have hLl : L.length = l.length := hi.perm.length_eq
  obtain ⟨zb, hzb⟩ : ∃ zb, (Obj.cells #[Value.int IntKind.i64 0, Value.int IntKind.i64 0, Value.string ⟨#[]⟩, Value.int IntKind.i64 0] 34 : Obj) = zb := ⟨_, rfl⟩
  have hb := below_alloc (Below.refl w.heap.size w) zb
  have hs1 := hs.far hb
  have HV1 := Aside0.mk (HV.out.far hb)
  have HB := Aside0.mk hb
  have p0 := blk_cell hs1.blk 0
  by_cases h0 : l.length = 0
  · have hl : l = [] := List.eq_nil_of_length_eq_zero h0
    have hL : L = [] := List.eq_nil_of_length_eq_zero (by omega)
    subst hl hL hzb
    obtain ⟨ad, cc, rfl⟩ := hs.two
    clear hs hs1 hi hb h0
    go_enter Try.func32, Try.ntmps32
    go_wp2_with (fail)
    refine bodyPost_ret (results_ct rfl _ _ w.heap.size 34 #[.int .i64 0, .int .i64 0, .string ⟨#[]⟩, .int .i64 0] (0, 0) _ rfl (blk_new _ _) Try.underlying34 rfl (by kernel_rfl)) rfl ?_
    exact ⟨rfl, HV1.out, HB.out⟩
  · obtain ⟨r, hr⟩ := hi.head (by omega)
    obtain ⟨ad, cc, rfl⟩ := hs.two
    rcases hs.cases with ⟨e, _⟩ | ⟨g0, cc', e⟩
    · rw [e] at h0
      exact absurd rfl h0
    cases e
    have c0 := hs1.cells 0 (by omega)
    obtain ⟨c0, c1, c2, c3⟩ := c0
    obtain ⟨x, hx⟩ : ∃ x, gt l 0 = x := ⟨_, rfl⟩
    rw [hx] at c0 c1 c2 c3 hr
    rw [Nat.zero_mul] at c0 c1 c2 c3
    obtain ⟨x0, x1, x2, x3⟩ := x
    subst hr hzb
    have q0 : ((l.length : Int) = 0) = False := eq_false (by omega)
    have q1 : ((l.length : Int) == 0) = false := beq_eq_false_iff_ne.mpr (by omega)
    have q2 : ((0 : Int) < (l.length : Int)) = True := eq_true (by omega)
    have q3 : (0 < l.length) = True := eq_true (by omega)
    have q4 : (l = []) = False := eq_false (fun e => h0 (by rw [e]; rfl))
    have q5 : (l.length = 0) = False := eq_false h0
    clear hs hs1 hi hb h0 hx
    go_enter Try.func32, Try.ntmps32
    go_wp2_with (fail)
    refine bodyPost_ret (results_ct rfl _ _ w.heap.size 34 #[.int .i64 x0, .int .i64 x1, .string x2, .int .i64 x3] (0, 0) _ rfl (blk_new _ _) Try.underlying34 rfl (by kernel_rfl)) rfl ?_
    exact ⟨rfl, HV.out.far (below_alloc (Below.refl _ _) _), below_alloc (Below.refl _ _) _⟩
def movEnd (B P : Nat) (F : Nat → Prop) (c : Nat) (r : Int × List S34) (g : Int) (w : World) (e : Ending) (w' : World) : Prop :=
  e = .returned (.int .i64 r.1) ∧ ∃ F', AgV B w' P F' (c + 1) r.2 g ∧ To B w w' F F'
set_option maxHeartbeats 4000000 in
set_option maxRecDepth 100000 in
theorem move_calls (B P : Nat) (F : Nat → Prop) (c : Nat) (L : List S34) (g t a : Int) (w : World) (h : AgV B w P F c L g) (hc : c < 100000) (ht : (Lit.int .i64 t).wf = true) :
    Calls Try.prog 17 #[.pointer (some ⟨P, 0, none⟩), .int .i64 t, .int .i64 a] w (movEnd B P F c (moveR t a L) g w) := by
  have HV := Aside0.mk h
  obtain ⟨mb, hv, l, n, D, hs, hi, hn, hgc, rfl⟩ := h
  have HS := Aside0.mk hs
  have HI := Aside0.mk hi
  have p0 := blk_cell hs.blk 0
  have p1 := blk_cell hs.blk 1
  rcases hs.look hi.pl t ht with ⟨hno, cx, hl⟩ | ⟨i, hil, hit, hl⟩
  · have hl := hl w hs
    have e1 : moveR t a L = (3, L) := by unfold moveR; rw [tkR_no hi hno]
    rw [e1]
    clear hs hi e1 hno
    go_enter Try.func17, Try.ntmps17
    go_wp2_with (fail)
    go_ret
    exact ⟨rfl, _, HV.out.mono (Nat.le_succ _), To.refl _ _ _⟩
  · have hl := hl w hs
    have e0 : tkR t L = some (gt l i) := by rw [← hit]; exact tkR_at hi hil
    by_cases ha : a < 0
    · have e1 : moveR t a L = (1, L) := by unfold moveR; rw [e0]; exact if_pos ha
      rw [e1]
      have d1 : decide (a < 0) = true := decide_eq_true ha
      clear hs hi e1 e0
      go_enter Try.func17, Try.ntmps17
      go_wp2_with (fail)
      go_ret
      exact ⟨rfl, _, HV.out.mono (Nat.le_succ _), To.refl _ _ _⟩
    · have e1 : moveR t a L = (0, insR ⟨a, (gt l i).f1, (gt l i).f2, (gt l i).f3⟩ (offR t L)) := by unfold moveR; rw [e0]; exact if_neg ha
      rw [e1]
      have d1 : decide (a < 0) = false := decide_eq_false ha
      rcases hs.cases with ⟨e, _⟩ | ⟨g0, cc, e⟩
      · rw [e] at hil
        exact absurd hil (by simp)
      cases e
      obtain ⟨c0, c1, c2, c3⟩ := hs.cells i hil
      have f0 := hs.row.frozenAt (i * 4)
      have q0 : ((0 : Int) ≤ (i : Int)) = True := eq_true (by omega)
      have q1 : ((i : Int) < (l.length : Int)) = True := eq_true (by omega)
      have q2 : (i < l.length) = True := eq_true hil
      have hs1 := hs.setAt i hil a
      have hk1 : Kept w (w.setCell ⟨g0, i * 4, none⟩ (.int .i64 a)) (AgF P mb (.slice (some ⟨g0, 0, none⟩) l.length cc)) := (Kept.refl _ _).setCell (.inl (.inr (.inr rfl))) _
      have hb1 : Below B w (w.setCell ⟨g0, i * 4, none⟩ (.int .i64 a)) := (Below.refl _ _).setCell (own_base hs.row g0 rfl) _
      have HS1 := Aside0.mk hs1
      have HK1 := Aside0.mk hk1
      have HB1 := Aside0.mk hb1
      have HIL := Aside0.mk hil
      have HIT := Aside0.mk hit
      have hx : ∀ y ∈ l.set i (⟨a, (gt l i).f1, (gt l i).f2, (gt l i).f3⟩ : S34), (Lit.int .i64 y.f3).wf = true := wf_set (hi.wf (by omega)) i _ (show (Lit.int .i64 (gt l i).f3).wf = true from hi.wf (by omega) _ (gt_mem hil))
      have hset := settle_calls B P mb g0 l.length cc (l.set i (⟨a, (gt l i).f1, (gt l i).f2, (gt l i).f3⟩ : S34)) n D g i _ hs1 (by rw [List.length_set]; exact hil) (by rw [List.length_set]; have := hi.len; unfold maxLen; omega) (by rw [List.length_set]; have := hi.len; omega) hx
      have HSET := Aside0.mk hset
      clear hs hi e1 e0 hs1 hk1 hb1 hx hset ha hit hil
      go_enter Try.func17, Try.ntmps17
      go_wp2_with (go_at_call 36; refine HSET.out.mono ?_; rintro e w3 ⟨rfl, hA, hk, hbl⟩; have HA := Aside0.mk hA; have HK := Aside0.mk hk; have HBL := Aside0.mk hbl; clear hA hk hbl)
      go_ret
      have hinv := HI.out.move HIL.out ⟨a, (gt l i).f1, (gt l i).f2, (gt l i).f3⟩ rfl
      have e9 : offR (gt l i).f3 L = offR t L := by rw [HIT.out]
      rw [e9] at hinv
      exact ⟨rfl, _, ⟨mb, _, _, _, _, HA.out, hinv, by rw [List.length_set]; have := HI.out.len; omega, by omega, rfl⟩, To.same (HK1.out.then_ HK.out (fun k e => .inl e)) (HB1.out.trans HBL.out)⟩

end Go.Proofs.Ytdlbnkiolpmnbaa.Ag
