/- agenda: Take. It says its own conditions. -/
import Derived.Test.YtdlbnkiolpmnbaaProg
import Derived.Test.YtdlbnkiolpmnbaaMAgax0
import Derived.Test.YtdlbnkiolpmnbaaMAgax2
import Derived.WalkKit
import Derived.Deep.RegionLaw
import Derived.Deep.RegionWith
import Derived.Deep.RegionHeld3
import Derived.BigRegion
import Derived.BigQuiet
import Derived.StillTailTactics
import Derived.Test.YtdlbnkiolpmnbaaAgSt
import Derived.Test.YtdlbnkiolpmnbaaAgLay
import Derived.Test.YtdlbnkiolpmnbaaAgCmp
import Derived.Test.YtdlbnkiolpmnbaaAgSet
import Derived.Test.YtdlbnkiolpmnbaaAgPlain
import Derived.Test.YtdlbnkiolpmnbaaAgInv
import Derived.Test.YtdlbnkiolpmnbaaAgOp
import Derived.Test.YtdlbnkiolpmnbaaAgPut
import Derived.Test.YtdlbnkiolpmnbaaAgMov
import Derived.Test.YtdlbnkiolpmnbaaAgCan
import Derived.Test.YtdlbnkiolpmnbaaAgTak
import Derived.Maps.OwnIn
import Derived.Maps.OwnSet
namespace Go.Proofs.Ytdlbnkiolpmnbaa.Ag
open Go.RowKit Go.Proofs.Ytdlbnkiolpmnbaa.MAga Go.Proofs.YtdlbnkiolpmnbaaW.PrintWords Go.Proofs.YtdlbnkiolpmnbaaW.PrintLast Go.Proofs.YtdlbnkiolpmnbaaW.PrintMore
attribute [local go_sem] max2_int min2_int max_two min_two max_three min_three max_four min_four
set_option linter.unusedVariables false
set_option linter.unusedSimpArgs false
-- import Derived.Maps.OwnIn
-- import Derived.Maps.OwnSet
open Go.Maps
theorem put4 {w : World} {b : Nat} {c0 c1 c2 c3 : Value} {T : TypeId} (h : w.heap[b]? = some (.cells #[c0, c1, c2, c3] T (0, 0))) (u0 u1 u2 u3 : Value) :
    ((((w.setCell ⟨b, 0, none⟩ u0).setCell ⟨b, 1, none⟩ u1).setCell ⟨b, 2, none⟩ u2).setCell ⟨b, 3, none⟩ u3).heap[b]? = some (.cells #[u0, u1, u2, u3] T (0, 0)) ∧
    Kept w ((((w.setCell ⟨b, 0, none⟩ u0).setCell ⟨b, 1, none⟩ u1).setCell ⟨b, 2, none⟩ u2).setCell ⟨b, 3, none⟩ u3) (fun k => k = b) ∧
    ∀ B, B ≤ b → Below B w ((((w.setCell ⟨b, 0, none⟩ u0).setCell ⟨b, 1, none⟩ u1).setCell ⟨b, 2, none⟩ u2).setCell ⟨b, 3, none⟩ u3) := by
  have h0 := blk_set h 0 u0
  have h1 := blk_set h0 1 u1
  have h2 := blk_set h1 2 u2
  have h3 := blk_set h2 3 u3
  simp only [List.setIfInBounds_toArray, List.set_cons_zero, List.set_cons_succ] at h3
  refine ⟨h3, ?_, fun B hB => ?_⟩
  · have k0 : Kept w (w.setCell ⟨b, 0, none⟩ u0) (fun k => k = b) := (Kept.refl w (fun k => k = b)).setCell (p := ⟨b, 0, none⟩) (.inl rfl) u0
    have k1 := k0.setCell (p := ⟨b, 1, none⟩) (.inl rfl) u1
    have k2 := k1.setCell (p := ⟨b, 2, none⟩) (.inl rfl) u2
    exact k2.setCell (p := ⟨b, 3, none⟩) (.inl rfl) u3
  · have k0 : Below B w (w.setCell ⟨b, 0, none⟩ u0) := (Below.refl B w).setCell (p := ⟨b, 0, none⟩) hB u0
    have k1 := k0.setCell (p := ⟨b, 1, none⟩) hB u1
    have k2 := k1.setCell (p := ⟨b, 2, none⟩) hB u2
    exact k2.setCell (p := ⟨b, 3, none⟩) hB u3
/-- What a call leaves behind a first box: the box, the agenda. -/
theorem tak_fin {B P : Nat} {F F1 : Nat → Prop} {c : Nat} {L1 : List S34} {g : Int} {w w1 : World} {c0 c1 c2 c3 : Value} {T : TypeId} (hF : ∀ k, F k → k < w.heap.size) (hB : B ≤ w.heap.size) (hA : AgV B w1 P F1 c L1 g) (hT : To B w w1 F F1) (hF1 : ∀ k, F1 k → k ≠ w.heap.size) (h : w1.heap[w.heap.size]? = some (.cells #[c0, c1, c2, c3] T (0, 0))) (u0 u1 u2 u3 : Value) :
    AgV B ((((w1.setCell ⟨w.heap.size, 0, none⟩ u0).setCell ⟨w.heap.size, 1, none⟩ u1).setCell ⟨w.heap.size, 2, none⟩ u2).setCell ⟨w.heap.size, 3, none⟩ u3) P F1 c L1 g ∧ To B w ((((w1.setCell ⟨w.heap.size, 0, none⟩ u0).setCell ⟨w.heap.size, 1, none⟩ u1).setCell ⟨w.heap.size, 2, none⟩ u2).setCell ⟨w.heap.size, 3, none⟩ u3) F F1 := by
  obtain ⟨h1, h2, h3⟩ := put4 h u0 u1 u2 u3
  exact ⟨hA.kept h2 hF1, hT.kept.then_ h2 (fun k e => .inr (by rw [e]; exact Nat.le_refl _)), hT.bel.trans (h3 B hB), hT.sub⟩
theorem AgV.base {B : Nat} {W : World} {P : Nat} {F : Nat → Prop} {c : Nat} {L : List S34} {g : Int} (h : AgV B W P F c L g) : B ≤ W.heap.size := by
  obtain ⟨mb, hv, l, n, D, h1, h2, h3, h4, rfl⟩ := h
  exact Nat.le_trans h1.bp (Nat.le_of_lt (blk_lt h1.blk))
def takEnd (B P : Nat) (F : Nat → Prop) (c : Nat) (r : S34 × Bool × List S34) (g : Int) (w : World) (e : Ending) (w' : World) : Prop :=
  e = .returned (.tuple #[.agg (itv r.1).toArray, .bool r.2.1]) ∧ ∃ F', AgV B w' P F' (c + 1) r.2.2 g ∧ To B w w' F F'
set_option maxHeartbeats 4000000 in
set_option maxRecDepth 100000 in
theorem take_calls (B P : Nat) (F : Nat → Prop) (c : Nat) (L : List S34) (g now : Int) (w : World) (h : AgV B w P F c L g) (hc : c < 100000) :
    Calls Try.prog 26 #[.pointer (some ⟨P, 0, none⟩), .int .i64 now] w (takEnd B P F c (takeR now L) g w) := by
  have HV := Aside0.mk h
  have HBW := Aside0.mk h.base
  have HFL := Aside0.mk h.lt
  obtain ⟨zb, hzb⟩ : ∃ zb, (Obj.cells #[Value.int IntKind.i64 0, Value.int IntKind.i64 0, Value.string ⟨#[]⟩, Value.int IntKind.i64 0] 34 : Obj) = zb := ⟨_, rfl⟩
  have hb := below_alloc (Below.refl w.heap.size w) zb
  have hnx := next_calls B P F c L g (w.alloc zb) (h.far hb)
  have hbox : (w.alloc zb).heap[w.heap.size]? = some (.cells #[Value.int IntKind.i64 0, Value.int IntKind.i64 0, Value.string ⟨#[]⟩, Value.int IntKind.i64 0] 34 (0, 0)) := by rw [← hzb]; exact blk_new _ _
  rw [← hzb] at hnx hb hbox
  have HB := Aside0.mk hb
  have HBOX := Aside0.mk hbox
  clear h hb hbox hzb
  cases L with
  | nil =>
    have hnx' : Calls Try.prog 32 #[.pointer (some ⟨P, 0, none⟩)] (w.alloc (.cells #[Value.int IntKind.i64 0, Value.int IntKind.i64 0, Value.string ⟨#[]⟩, Value.int IntKind.i64 0] 34)) fun e w' => e = .returned (.tuple #[.agg #[.int .i64 0, .int .i64 0, .string ⟨#[]⟩, .int .i64 0], .bool false]) ∧ AgV B w' P F c [] g ∧ Below (w.alloc (.cells #[Value.int IntKind.i64 0, Value.int IntKind.i64 0, Value.string ⟨#[]⟩, Value.int IntKind.i64 0] 34)).heap.size (w.alloc (.cells #[Value.int IntKind.i64 0, Value.int IntKind.i64 0, Value.string ⟨#[]⟩, Value.int IntKind.i64 0] 34)) w' := hnx
    have HNX := Aside0.mk hnx'
    clear hnx hnx'
    go_enter Try.func26, Try.ntmps26
    go_wp2_with (go_at_call 32; refine HNX.out.mono ?_; rintro e w1 ⟨rfl, hA, hb1⟩; have hbx := blk_below HBOX.out hb1; have HBX := Aside0.mk hbx; have k0 := blk_cell hbx 0; have k1 := blk_cell hbx 1; have k2 := blk_cell hbx 2; have k3 := blk_cell hbx 3; have f0 := blk_frozen hbx 0; have f1 := blk_frozen hbx 1; have f2 := blk_frozen hbx 2; have f3 := blk_frozen hbx 3; have hlt : (w.heap.size < w1.heap.size) = True := eq_true (blk_lt hbx); have HA := Aside0.mk hA; have HB1 := Aside0.mk hb1; clear hA hb1 hbx)
    obtain ⟨h1, h2⟩ := tak_fin HFL.out HBW.out (HA.out.mono (Nat.le_succ c)) (To.same (Kept.of_below (HB.out.trans (HB1.out.mono HB.out.size)) F) ((HB.out.trans (HB1.out.mono HB.out.size)).mono HBW.out)) (fun k hk => Nat.ne_of_lt (HFL.out k hk)) HBX.out (.int .i64 0) (.int .i64 0) (.string ⟨#[]⟩) (.int .i64 0)
    have h3 := (put4 HBX.out (.int .i64 0) (.int .i64 0) (.string ⟨#[]⟩) (.int .i64 0)).1
    refine bodyPost_ret (results_ct rfl _ _ w.heap.size 34 #[.int .i64 0, .int .i64 0, .string ⟨#[]⟩, .int .i64 0] (0, 0) _ rfl (blk_alloc h3 _) Try.underlying34 rfl (by kernel_rfl)) rfl ?_
    exact ⟨rfl, F, h1.far (below_alloc (Below.refl _ _) _), h2.kept.alloc _, h2.bel.alloc (Nat.le_trans HBW.out h2.kept.1) _, h2.sub⟩
  | cons y r =>
    obtain ⟨y0, y1, y2, y3⟩ := y
    have hnx' : Calls Try.prog 32 #[.pointer (some ⟨P, 0, none⟩)] (w.alloc (.cells #[Value.int IntKind.i64 0, Value.int IntKind.i64 0, Value.string ⟨#[]⟩, Value.int IntKind.i64 0] 34)) fun e w' => e = .returned (.tuple #[.agg #[.int .i64 y0, .int .i64 y1, .string y2, .int .i64 y3], .bool true]) ∧ AgV B w' P F c (⟨y0, y1, y2, y3⟩ :: r) g ∧ Below (w.alloc (.cells #[Value.int IntKind.i64 0, Value.int IntKind.i64 0, Value.string ⟨#[]⟩, Value.int IntKind.i64 0] 34)).heap.size (w.alloc (.cells #[Value.int IntKind.i64 0, Value.int IntKind.i64 0, Value.string ⟨#[]⟩, Value.int IntKind.i64 0] 34)) w' := hnx
    have HNX := Aside0.mk hnx'
    clear hnx hnx'
    by_cases hd : now < y0
    · have e1 : takeR now (⟨y0, y1, y2, y3⟩ :: r) = (⟨0, 0, ⟨#[]⟩, 0⟩, false, ⟨y0, y1, y2, y3⟩ :: r) := by unfold takeR; exact if_pos hd
      rw [e1]
      have d1 : decide (now < y0) = true := decide_eq_true hd
      clear e1
      go_enter Try.func26, Try.ntmps26
      go_wp2_with (go_at_call 32; refine HNX.out.mono ?_; rintro e w1 ⟨rfl, hA, hb1⟩; have hbx := blk_below HBOX.out hb1; have HBX := Aside0.mk hbx; have k0 := blk_cell hbx 0; have k1 := blk_cell hbx 1; have k2 := blk_cell hbx 2; have k3 := blk_cell hbx 3; have f0 := blk_frozen hbx 0; have f1 := blk_frozen hbx 1; have f2 := blk_frozen hbx 2; have f3 := blk_frozen hbx 3; have hlt : (w.heap.size < w1.heap.size) = True := eq_true (blk_lt hbx); have HA := Aside0.mk hA; have HB1 := Aside0.mk hb1; clear hA hb1 hbx)
      obtain ⟨h1, h2⟩ := tak_fin HFL.out HBW.out (HA.out.mono (Nat.le_succ c)) (To.same (Kept.of_below (HB.out.trans (HB1.out.mono HB.out.size)) F) ((HB.out.trans (HB1.out.mono HB.out.size)).mono HBW.out)) (fun k hk => Nat.ne_of_lt (HFL.out k hk)) HBX.out (.int .i64 0) (.int .i64 0) (.string ⟨#[]⟩) (.int .i64 0)
      have h3 := (put4 HBX.out (.int .i64 0) (.int .i64 0) (.string ⟨#[]⟩) (.int .i64 0)).1
      refine bodyPost_ret (results_ct rfl _ _ w.heap.size 34 #[.int .i64 0, .int .i64 0, .string ⟨#[]⟩, .int .i64 0] (0, 0) _ rfl (blk_alloc h3 _) Try.underlying34 rfl (by kernel_rfl)) rfl ?_
      exact ⟨rfl, F, h1.far (below_alloc (Below.refl _ _) _), h2.kept.alloc _, h2.bel.alloc (Nat.le_trans HBW.out h2.kept.1) _, h2.sub⟩
    · have e1 : takeR now (⟨y0, y1, y2, y3⟩ :: r) = (⟨y0, y1, y2, y3⟩, true, offR y3 (⟨y0, y1, y2, y3⟩ :: r)) := by unfold takeR; exact if_neg hd
      rw [e1]
      have d1 : decide (now < y0) = false := decide_eq_false hd
      have e2 : cancelR y3 (⟨y0, y1, y2, y3⟩ :: r) = (0, offR y3 (⟨y0, y1, y2, y3⟩ :: r)) := by
        have e3 : tkR y3 (⟨y0, y1, y2, y3⟩ :: r) = some ⟨y0, y1, y2, y3⟩ := by
          unfold tkR
          exact List.find?_cons_of_pos (by simp)
        unfold cancelR
        rw [e3]
      have hwf : (Lit.int .i64 y3).wf = true := by
        obtain ⟨mb, hv, l, n, D, hs, hi, hn, hgc, rfl⟩ := HV.out
        exact hi.wf (by omega) ⟨y0, y1, y2, y3⟩ (hi.perm.mem_iff.1 List.mem_cons_self)
      have hcn := fun W hA => cancel_calls B P F c (⟨y0, y1, y2, y3⟩ :: r) g y3 W hA hc hwf
      rw [e2] at hcn
      have HCN := Aside0.mk hcn
      clear e1 hwf hcn e2
      go_enter Try.func26, Try.ntmps26
      go_upto_region 4 with (go_at_call 32; refine HNX.out.mono ?_; rintro e w1 ⟨rfl, hA, hb1⟩; have hbx := blk_below HBOX.out hb1; have HBX := Aside0.mk hbx; have k0 := blk_cell hbx 0; have k1 := blk_cell hbx 1; have k2 := blk_cell hbx 2; have k3 := blk_cell hbx 3; have f0 := blk_frozen hbx 0; have f1 := blk_frozen hbx 1; have f2 := blk_frozen hbx 2; have f3 := blk_frozen hbx 3; have hlt : (w.heap.size < w1.heap.size) = True := eq_true (blk_lt hbx); have HA := Aside0.mk hA; have HB1 := Aside0.mk hb1; clear hA hb1 hbx)
      have hsz : w.heap.size < w1.heap.size := of_eq_true hlt
      have HSZ := Aside0.mk hsz
      clear k0 k1 k2 k3 f0 f1 f2 f3 hlt hsz d1
      have k3 := blk_cell (blk_new w1 (.cells #[Value.int IntKind.i64 y0, Value.int IntKind.i64 y1, Value.string y2, Value.int IntKind.i64 y3] 34)) 3
      go_upto_region 5 with (go_at_call 27; refine (HCN.out _ (HA.out.far (below_alloc (Below.refl _ _) _))).mono ?_; rintro e w2 ⟨rfl, F2, hA2, hT2⟩; have hbx2 := blk_kept (blk_alloc HBX.out _) hT2.kept (fun hk => by have := HFL.out _ hk; omega); have hbx6 := blk_kept (blk_new w1 (.cells #[Value.int IntKind.i64 y0, Value.int IntKind.i64 y1, Value.string y2, Value.int IntKind.i64 y3] 34)) hT2.kept (fun hk => by have := HFL.out _ hk; have := HSZ.out; omega); have HBX2 := Aside0.mk hbx2; have HBX6 := Aside0.mk hbx6; have HA2 := Aside0.mk hA2; have HT2 := Aside0.mk hT2; clear hA2 hT2 k3)
      have k0 := blk_cell hbx6 0
      have k1 := blk_cell hbx6 1
      have k2 := blk_cell hbx6 2
      have k3 := blk_cell hbx6 3
      have m0 := blk_cell hbx2 0
      have m1 := blk_cell hbx2 1
      have m2 := blk_cell hbx2 2
      have m3 := blk_cell hbx2 3
      have f0 := blk_frozen hbx2 0
      have f1 := blk_frozen hbx2 1
      have f2 := blk_frozen hbx2 2
      have f3 := blk_frozen hbx2 3
      clear hbx2 hbx6
      go_wp2_with (fail)
      have hb6 := HB.out.trans (HB1.out.mono HB.out.size)
      have hTo : To B w w2 F F2 := To.trans (To.same (Kept.of_below (hb6.trans ((below_alloc (Below.refl w1.heap.size w1) (.cells #[Value.int IntKind.i64 y0, Value.int IntKind.i64 y1, Value.string y2, Value.int IntKind.i64 y3] 34)).mono (Nat.le_of_lt HSZ.out))) F) ((hb6.trans ((below_alloc (Below.refl w1.heap.size w1) (.cells #[Value.int IntKind.i64 y0, Value.int IntKind.i64 y1, Value.string y2, Value.int IntKind.i64 y3] 34)).mono (Nat.le_of_lt HSZ.out))).mono HBW.out)) HT2.out
      have hF2 : ∀ k, F2 k → k ≠ w.heap.size := by
        intro k hk e
        rcases HT2.out.sub k hk with h1 | h1
        · exact absurd (HFL.out k h1) (by omega)
        · have h2 := (below_alloc (Below.refl w1.heap.size w1) (.cells #[Value.int IntKind.i64 y0, Value.int IntKind.i64 y1, Value.string y2, Value.int IntKind.i64 y3] 34)).size
          have := HSZ.out
          omega
      obtain ⟨h1, h2⟩ := tak_fin HFL.out HBW.out HA2.out hTo hF2 HBX2.out (.int .i64 y0) (.int .i64 y1) (.string y2) (.int .i64 y3)
      have h3 := (put4 HBX2.out (.int .i64 y0) (.int .i64 y1) (.string y2) (.int .i64 y3)).1
      refine bodyPost_ret (results_ct rfl _ _ w.heap.size 34 #[.int .i64 y0, .int .i64 y1, .string y2, .int .i64 y3] (0, 0) _ rfl h3 Try.underlying34 rfl (by kernel_rfl)) rfl ?_
      exact ⟨rfl, F2, h1, h2⟩

end Go.Proofs.Ytdlbnkiolpmnbaa.Ag
