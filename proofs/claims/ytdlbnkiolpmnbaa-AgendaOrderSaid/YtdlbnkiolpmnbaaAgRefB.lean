/- agenda: the document's Move, Next, Take. Each says its own conditions. -/
import Derived.Test.YtdlbnkiolpmnbaaProg
import Derived.Test.YtdlbnkiolpmnbaaMAgax0
import Derived.Test.YtdlbnkiolpmnbaaMAgax2
import Derived.WalkKit
import Derived.Deep.RegionLaw
import Derived.Deep.RegionWith
import Derived.Deep.RegionHeld3
import Derived.BigRegion
import Derived.BigQuiet
import Derived.StillTailTactics
import Derived.Test.YtdlbnkiolpmnbaaAgSt
import Derived.Test.YtdlbnkiolpmnbaaAgLay
import Derived.Test.YtdlbnkiolpmnbaaAgCmp
import Derived.Test.YtdlbnkiolpmnbaaAgSet
import Derived.Test.YtdlbnkiolpmnbaaAgPlain
import Derived.Test.YtdlbnkiolpmnbaaAgInv
import Derived.Test.YtdlbnkiolpmnbaaAgOp
import Derived.Test.YtdlbnkiolpmnbaaAgPut
import Derived.Test.YtdlbnkiolpmnbaaAgMov
import Derived.Test.YtdlbnkiolpmnbaaAgCan
import Derived.Test.YtdlbnkiolpmnbaaAgTak
import Derived.Test.YtdlbnkiolpmnbaaAgTke
import Derived.Test.YtdlbnkiolpmnbaaAgLaw
import Derived.Test.YtdlbnkiolpmnbaaAgIter
import Derived.Test.YtdlbnkiolpmnbaaAgSeq
import Derived.Test.YtdlbnkiolpmnbaaAgSort
import Derived.Test.YtdlbnkiolpmnbaaAgList
import Derived.Test.YtdlbnkiolpmnbaaAgShow
import Derived.Test.YtdlbnkiolpmnbaaAgLv
import Derived.Test.YtdlbnkiolpmnbaaAgSame
import Derived.Test.YtdlbnkiolpmnbaaAgRef
import Derived.Test.YtdlbnkiolpmnbaaAgLayR
import Derived.Test.YtdlbnkiolpmnbaaAgPickR
import Derived.Test.YtdlbnkiolpmnbaaAgRefA
import Derived.Maps.OwnIn
import Derived.Maps.OwnSet
namespace Go.Proofs.Ytdlbnkiolpmnbaa.Ag
open Go.RowKit Go.Proofs.Ytdlbnkiolpmnbaa.MAga Go.Proofs.YtdlbnkiolpmnbaaW.PrintWords Go.Proofs.YtdlbnkiolpmnbaaW.PrintLast Go.Proofs.YtdlbnkiolpmnbaaW.PrintMore
attribute [local go_sem] max2_int min2_int max_two min_two max_three min_three max_four min_four
set_option linter.unusedVariables false
set_option linter.unusedSimpArgs false
-- import Derived.Maps.OwnIn
-- import Derived.Maps.OwnSet
set_option maxHeartbeats 4000000 in
set_option maxRecDepth 100000 in
theorem rmove_calls (B P : Nat) (F : Nat → Prop) (L : List S34) (g t a : Int) (w : World) (h : RfV B w P F L g) (hl : L.length ≤ 1000) (hnd : L.Pairwise (fun a b => a.f3 ≠ b.f3)) (hs : Srt L) :
    Calls Try.prog 48 #[.pointer (some ⟨P, 0, none⟩), .int .i64 t, .int .i64 a] w (rcanEnd B P F (moveR t a L) g w) := by
  have hp := rpick_calls B P F L g t w h hl hnd
  have hbw := h.base
  cases hk : tkR t L with
  | none =>
    have e1 : moveR t a L = (3, L) := by unfold moveR; rw [hk]
    have e2 : pickR t L = (⟨0, 0, ⟨#[]⟩, 0⟩, false) := by unfold pickR; rw [hk]
    rw [e2, off_none hk] at hp
    rw [e1]
    have HP := Aside0.mk hp
    clear hp e1 e2 hk h
    go_enter Try.func48, Try.ntmps48
    go_wp2_with (go_at_call 67; refine HP.out.mono ?_; rintro e w2 ⟨rfl, F2, hR2, hT2⟩; have HR2 := Aside0.mk hR2; have HT2 := Aside0.mk hT2; clear hR2 hT2)
    go_ret
    exact ⟨rfl, F2, HR2.out.far (below_alloc (Below.refl _ _) _), HT2.out.kept.alloc _, HT2.out.bel.alloc (Nat.le_trans hbw HT2.out.kept.1) _, HT2.out.sub⟩
  | some y =>
    obtain ⟨hym, hyt⟩ := tkR_in hk
    have e2 : pickR t L = (y, true) := by unfold pickR; rw [hk]
    rw [e2] at hp
    have hol : (offR t L).length ≤ 1000 := by
      have := List.length_filter_le (fun y : S34 => decide (y.f3 ≠ t)) L
      unfold offR
      omega
    have hio : insR y (offR t L) = L := by rw [← hyt]; exact ins_off hs hnd hym
    have HP := Aside0.mk hp
    have HIO := Aside0.mk hio
    have HOL := Aside0.mk hol
    by_cases ha : a < 0
    · have e1 : moveR t a L = (1, L) := by unfold moveR; rw [hk]; exact if_pos ha
      rw [e1]
      have d1 : decide (0 ≤ a) = false := decide_eq_false (by omega)
      have d2 : (0 ≤ a) = False := eq_false (by omega)
      clear hp e1 e2 hk h hol hio hym hyt
      obtain ⟨y0, y1, y2, y3⟩ := y
      go_enter Try.func48, Try.ntmps48
      go_upto_region 8 with (go_at_call 67; refine HP.out.mono ?_; rintro e w2 ⟨rfl, F2, hR2, hT2⟩; have HR2 := Aside0.mk hR2; have HT2 := Aside0.mk hT2; clear hR2 hT2)
      have hl3 := rlay_calls B P F2 (offR t L) g ⟨y0, y1, y2, y3⟩ _ (HR2.out.far (below_alloc (Below.refl w2.heap.size w2) (.cells #[.int .i64 y0, .int .i64 y1, .string y2, .int .i64 y3] 69))) HOL.out
      rw [HIO.out] at hl3
      have HL3 := Aside0.mk hl3
      clear hl3
      go_wp2_with (go_at_call 66; refine HL3.out.mono ?_; rintro e w4 ⟨rfl, F4, hR4, hT4⟩; have HR4 := Aside0.mk hR4; have HT4 := Aside0.mk hT4; clear hR4 hT4)
      go_ret
      exact ⟨rfl, F4, HR4.out, HT2.out.trans (To.trans (To.same (Kept.of_below (below_alloc (Below.refl w2.heap.size w2) _) _) ((below_alloc (Below.refl w2.heap.size w2) _).mono (Nat.le_trans hbw HT2.out.kept.1))) HT4.out)⟩
    · have e1 : moveR t a L = (0, insR ⟨a, y.f1, y.f2, y.f3⟩ (offR t L)) := by unfold moveR; rw [hk]; exact if_neg ha
      rw [e1]
      have d1 : decide (0 ≤ a) = true := decide_eq_true (by omega)
      have d2 : (0 ≤ a) = True := eq_true (by omega)
      clear hp e1 e2 hk h hol hio hym hyt
      obtain ⟨y0, y1, y2, y3⟩ := y
      go_enter Try.func48, Try.ntmps48
      go_upto_region 8 with (go_at_call 67; refine HP.out.mono ?_; rintro e w2 ⟨rfl, F2, hR2, hT2⟩; have HR2 := Aside0.mk hR2; have HT2 := Aside0.mk hT2; clear hR2 hT2)
      have hl3 := rlay_calls B P F2 (offR t L) g ⟨a, y1, y2, y3⟩ _ (HR2.out.far (below_alloc (Below.refl w2.heap.size w2) (.cells #[.int .i64 a, .int .i64 y1, .string y2, .int .i64 y3] 69))) HOL.out
      have HL3 := Aside0.mk hl3
      clear hl3
      go_wp2_with (go_at_call 66; refine HL3.out.mono ?_; rintro e w4 ⟨rfl, F4, hR4, hT4⟩; have HR4 := Aside0.mk hR4; have HT4 := Aside0.mk hT4; clear hR4 hT4)
      go_ret
      exact ⟨rfl, F4, HR4.out, HT2.out.trans (To.trans (To.same (Kept.of_below (below_alloc (Below.refl w2.heap.size w2) _) _) ((below_alloc (Below.refl w2.heap.size w2) _).mono (Nat.le_trans hbw HT2.out.kept.1))) HT4.out)⟩
def rnextEnd (B P : Nat) (F : Nat → Prop) (L : List S34) (g : Int) (w : World) (e : Ending) (w' : World) : Prop :=
  e = .returned (.tuple #[.agg #[.int .i64 (nextR L).1.f0, .int .i64 (nextR L).1.f1, .string (nextR L).1.f2, .int .i64 (nextR L).1.f3], .bool (nextR L).2]) ∧ RfV B w' P F L g ∧ Below w.heap.size w w'
set_option maxHeartbeats 4000000 in
set_option maxRecDepth 100000 in
theorem rnext_calls (B P : Nat) (F : Nat → Prop) (L : List S34) (g : Int) (w : World) (h : RfV B w P F L g) :
    Calls Try.prog 33 #[.pointer (some ⟨P, 0, none⟩)] w (rnextEnd B P F L g w) := by
  have HV := Aside0.mk h
  obtain ⟨hv, hs, rfl⟩ := h
  obtain ⟨ad, cc, rfl, hcap⟩ := hs.two
  have hb := below_alloc (Below.refl w.heap.size w) (Obj.cells #[Value.int IntKind.i64 0, Value.int IntKind.i64 0, Value.string ⟨#[]⟩, Value.int IntKind.i64 0] 69)
  have hs1 := hs.far hb
  have HV1 := Aside0.mk (HV.out.far hb)
  have HB := Aside0.mk hb
  have p0 := blk_cell hs1.blk 0
  cases L with
  | nil =>
    clear hs hs1 hb
    go_enter Try.func33, Try.ntmps33
    go_wp2_with (fail)
    refine bodyPost_ret (results_ct rfl _ _ w.heap.size 69 #[.int .i64 0, .int .i64 0, .string ⟨#[]⟩, .int .i64 0] (0, 0) _ rfl (blk_new _ _) Try.underlying69 rfl (by kernel_rfl)) rfl ?_
    exact ⟨rfl, HV1.out, HB.out⟩
  | cons x r =>
    obtain ⟨g0, e, c0, c1, c2, c3⟩ := hs1.cells 0 (by simp)
    cases e
    obtain ⟨x0, x1, x2, x3⟩ := x
    rw [Nat.zero_mul] at c0 c1 c2 c3
    have e9 : gt (⟨x0, x1, x2, x3⟩ :: r) 0 = ⟨x0, x1, x2, x3⟩ := rfl
    rw [e9] at c0 c1 c2 c3
    obtain ⟨m, hm⟩ : ∃ m : Nat, (⟨x0, x1, x2, x3⟩ :: r : List S34).length = m := ⟨_, rfl⟩
    have hm0 : 0 < m := by rw [← hm]; simp
    rw [hm] at p0
    have HM := Aside0.mk hm
    have q0 : ((m : Int) = 0) = False := eq_false (by omega)
    have q1 : ((m : Int) == 0) = false := beq_eq_false_iff_ne.mpr (by omega)
    have q2 : ((0 : Int) < (m : Int)) = True := eq_true (by omega)
    have q3 : (0 < m) = True := eq_true hm0
    have q5 : (m = 0) = False := eq_false (by omega)
    clear hs hs1 hb hm hm0 e9
    go_enter Try.func33, Try.ntmps33
    go_wp2_with (fail)
    refine bodyPost_ret (results_ct rfl _ _ w.heap.size 69 #[.int .i64 x0, .int .i64 x1, .string x2, .int .i64 x3] (0, 0) _ rfl (blk_new _ _) Try.underlying69 rfl (by kernel_rfl)) rfl ?_
    exact ⟨rfl, HV.out.far (below_alloc (Below.refl _ _) _), below_alloc (Below.refl _ _) _⟩
def rtakEnd (B P : Nat) (F : Nat → Prop) (r : S34 × Bool × List S34) (g : Int) (w : World) (e : Ending) (w' : World) : Prop :=
  e = .returned (.tuple #[.agg #[.int .i64 r.1.f0, .int .i64 r.1.f1, .string r.1.f2, .int .i64 r.1.f3], .bool r.2.1]) ∧ ∃ F', RfV B w' P F' r.2.2 g ∧ To B w w' F F'
set_option maxHeartbeats 4000000 in
set_option maxRecDepth 100000 in
theorem rtake_calls (B P : Nat) (F : Nat → Prop) (L : List S34) (g now : Int) (w : World) (h : RfV B w P F L g) (hl : L.length ≤ 1000) (hnd : L.Pairwise (fun a b => a.f3 ≠ b.f3)) :
    Calls Try.prog 49 #[.pointer (some ⟨P, 0, none⟩), .int .i64 now] w (rtakEnd B P F (takeR now L) g w) := by
  have HV := Aside0.mk h
  have HBW := Aside0.mk h.base
  have HFL := Aside0.mk h.lt
  obtain ⟨hv, hs, rfl⟩ := h
  obtain ⟨ad, cc, rfl, hcap⟩ := hs.two
  have hb := below_alloc (Below.refl w.heap.size w) (Obj.cells #[Value.int IntKind.i64 0, Value.int IntKind.i64 0, Value.string ⟨#[]⟩, Value.int IntKind.i64 0] 69)
  have hs1 := hs.far hb
  have hbx : (w.alloc (Obj.cells #[Value.int IntKind.i64 0, Value.int IntKind.i64 0, Value.string ⟨#[]⟩, Value.int IntKind.i64 0] 69)).heap[w.heap.size]? = some (.cells #[.int .i64 0, .int .i64 0, .string ⟨#[]⟩, .int .i64 0] 69 (0, 0)) := blk_new _ _
  have HV1 := Aside0.mk (HV.out.far hb)
  have HT1 := Aside0.mk (To.same (Kept.of_below hb (RfF P (.slice ad L.length cc))) (hb.mono HBW.out))
  have HBX := Aside0.mk hbx
  have p0 := blk_cell hs1.blk 0
  cases L with
  | nil =>
    clear hs hs1 hb hbx
    go_enter Try.func49, Try.ntmps49
    go_wp2_with (fail)
    refine bodyPost_ret (results_ct rfl _ _ w.heap.size 69 #[.int .i64 0, .int .i64 0, .string ⟨#[]⟩, .int .i64 0] (0, 0) _ rfl (blk_new _ _) Try.underlying69 rfl (by kernel_rfl)) rfl ?_
    exact ⟨rfl, _, HV1.out, HT1.out⟩
  | cons x r =>
    obtain ⟨g0, e, c0, c1, c2, c3⟩ := hs1.cells 0 (by simp)
    cases e
    obtain ⟨x0, x1, x2, x3⟩ := x
    rw [Nat.zero_mul] at c0 c1 c2 c3
    have e9 : gt (⟨x0, x1, x2, x3⟩ :: r) 0 = ⟨x0, x1, x2, x3⟩ := rfl
    rw [e9] at c0 c1 c2 c3
    obtain ⟨m, hm⟩ : ∃ m : Nat, (⟨x0, x1, x2, x3⟩ :: r : List S34).length = m := ⟨_, rfl⟩
    have hm0 : 0 < m := by rw [← hm]; simp
    rw [hm] at p0
    have HM := Aside0.mk hm
    have q0 : ((m : Int) = 0) = False := eq_false (by omega)
    have q1 : ((m : Int) == 0) = false := beq_eq_false_iff_ne.mpr (by omega)
    have q2 : ((0 : Int) < (m : Int)) = True := eq_true (by omega)
    have q3 : (0 < m) = True := eq_true hm0
    have q5 : (m = 0) = False := eq_false (by omega)
    by_cases hd : now < x0
    · have e1 : takeR now (⟨x0, x1, x2, x3⟩ :: r) = (⟨0, 0, ⟨#[]⟩, 0⟩, false, ⟨x0, x1, x2, x3⟩ :: r) := by unfold takeR; exact if_pos hd
      rw [e1]
      have d1 : decide (now < x0) = true := decide_eq_true hd
      clear hs hs1 hb hbx hm hm0 e9 e1
      go_enter Try.func49, Try.ntmps49
      go_wp2_with (fail)
      refine bodyPost_ret (results_ct rfl _ _ w.heap.size 69 #[.int .i64 0, .int .i64 0, .string ⟨#[]⟩, .int .i64 0] (0, 0) _ rfl (blk_new _ _) Try.underlying69 rfl (by kernel_rfl)) rfl ?_
      exact ⟨rfl, _, HV1.out, HT1.out⟩
    · have e1 : takeR now (⟨x0, x1, x2, x3⟩ :: r) = (⟨x0, x1, x2, x3⟩, true, offR x3 (⟨x0, x1, x2, x3⟩ :: r)) := by unfold takeR; exact if_neg hd
      rw [e1]
      have d1 : decide (now < x0) = false := decide_eq_false hd
      have e2 : cancelR x3 (⟨x0, x1, x2, x3⟩ :: r) = (0, offR x3 (⟨x0, x1, x2, x3⟩ :: r)) := by
        have e3 : tkR x3 (⟨x0, x1, x2, x3⟩ :: r) = some ⟨x0, x1, x2, x3⟩ := by
          unfold tkR
          exact List.find?_cons_of_pos (by simp)
        unfold cancelR
        rw [e3]
      have hcn := fun W (hA : RfV B W P (RfF P (.slice (some ⟨g0, 0, none⟩) (⟨x0, x1, x2, x3⟩ :: r : List S34).length cc)) (⟨x0, x1, x2, x3⟩ :: r) g) => rcancel_calls B P _ (⟨x0, x1, x2, x3⟩ :: r) g x3 W hA hl hnd
      rw [e2] at hcn
      have HCN := Aside0.mk hcn
      clear hs hs1 hb hbx hm hm0 e9 e1 e2 hcn
      go_enter Try.func49, Try.ntmps49
      go_upto_region 4 with (fail)
      obtain ⟨W1, hW1⟩ : ∃ W1, w.alloc (Obj.cells #[Value.int IntKind.i64 0, Value.int IntKind.i64 0, Value.string ⟨#[]⟩, Value.int IntKind.i64 0] 69) = W1 := ⟨_, rfl⟩
      have hsz : W1.heap.size = w.heap.size + 1 := by rw [← hW1]; simp
      rw [hW1, ← hsz]
      have hv1 := HV1.out
      have ht1 := HT1.out
      have hx1 := HBX.out
      rw [hW1] at hv1 ht1 hx1
      have hb2 := below_alloc (Below.refl W1.heap.size W1) (Obj.cells #[Value.int IntKind.i64 x0, Value.int IntKind.i64 x1, Value.string x2, Value.int IntKind.i64 x3] 69)
      have hx6 := blk_new W1 (Obj.cells #[Value.int IntKind.i64 x0, Value.int IntKind.i64 x1, Value.string x2, Value.int IntKind.i64 x3] 69)
      have hx4 := blk_below hx1 hb2
      have hv2 := hv1.far hb2
      have ht2 := ht1.trans (To.same (Kept.of_below hb2 _) (hb2.mono (Nat.le_trans HBW.out (by omega))))
      obtain ⟨W2, hW2⟩ : ∃ W2, W1.alloc (Obj.cells #[Value.int IntKind.i64 x0, Value.int IntKind.i64 x1, Value.string x2, Value.int IntKind.i64 x3] 69) = W2 := ⟨_, rfl⟩
      rw [hW2] at hx6 hx4 hv2 ht2 ⊢
      have k3 := blk_cell hx6 3
      have HC := Aside0.mk (HCN.out W2 hv2)
      have HT2 := Aside0.mk ht2
      have HX4 := Aside0.mk hx4
      have HX6 := Aside0.mk hx6
      have HSZ := Aside0.mk hsz
      clear hv1 ht1 hx1 hb2 hx6 hx4 hv2 ht2 hW1 hW2 hsz p0 c0 c1 c2 c3 q0 q1 q2 q3 q5 d1 HCN HV1 HT1 HBX
      go_upto_region 5 with (go_at_call 47; refine HC.out.mono ?_; rintro e w3 ⟨rfl, F3, hR3, hT3⟩; have HR3 := Aside0.mk hR3; have HSUB := Aside0.mk hT3.sub; have HT3 := Aside0.mk (HT2.out.trans hT3); have hx4 := blk_kept HX4.out hT3.kept (fun hk => by have := HFL.out _ hk; omega); have hx6 := blk_kept HX6.out hT3.kept (fun hk => by have := HFL.out _ hk; have := HSZ.out; omega); clear hR3 hT3 k3)
      have hF3 : ∀ k, F3 k → k ≠ w.heap.size := by
        intro k hk e
        have h4 := blk_lt HX4.out
        rcases HSUB.out k hk with h5 | h5
        · exact absurd (HFL.out k h5) (by omega)
        · omega
      have HF3 := Aside0.mk hF3
      have HX5 := Aside0.mk hx4
      have k0 := blk_cell hx6 0
      have k1 := blk_cell hx6 1
      have k2 := blk_cell hx6 2
      have k3 := blk_cell hx6 3
      have m0 := blk_cell hx4 0
      have m1 := blk_cell hx4 1
      have m2 := blk_cell hx4 2
      have m3 := blk_cell hx4 3
      have f0 := blk_frozen hx4 0
      have f1 := blk_frozen hx4 1
      have f2 := blk_frozen hx4 2
      have f3 := blk_frozen hx4 3
      clear hx4 hx6 hF3
      go_wp2_with (fail)
      obtain ⟨r1, r2, r3⟩ := put4 HX5.out (.int .i64 x0) (.int .i64 x1) (.string x2) (.int .i64 x3)
      refine bodyPost_ret (results_ct rfl _ _ w.heap.size 69 #[.int .i64 x0, .int .i64 x1, .string x2, .int .i64 x3] (0, 0) _ rfl r1 Try.underlying69 rfl (by kernel_rfl)) rfl ?_
      exact ⟨rfl, F3, HR3.out.kept r2 HF3.out, HT3.out.kept.then_ r2 (fun k e => .inr (by rw [e]; exact Nat.le_refl _)), HT3.out.bel.trans (r3 B HBW.out), HT3.out.sub⟩

end Go.Proofs.Ytdlbnkiolpmnbaa.Ag
