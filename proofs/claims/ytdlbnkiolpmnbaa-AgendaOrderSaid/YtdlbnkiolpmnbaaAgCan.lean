/- agenda: Cancel. It says its own conditions. -/
import Derived.Test.YtdlbnkiolpmnbaaProg
import Derived.Test.YtdlbnkiolpmnbaaMAgax0
import Derived.Test.YtdlbnkiolpmnbaaMAgax2
import Derived.WalkKit
import Derived.Deep.RegionLaw
import Derived.Deep.RegionWith
import Derived.Deep.RegionHeld3
import Derived.BigRegion
import Derived.BigQuiet
import Derived.StillTailTactics
import Derived.Test.YtdlbnkiolpmnbaaAgSt
import Derived.Test.YtdlbnkiolpmnbaaAgLay
import Derived.Test.YtdlbnkiolpmnbaaAgCmp
import Derived.Test.YtdlbnkiolpmnbaaAgSet
import Derived.Test.YtdlbnkiolpmnbaaAgPlain
import Derived.Test.YtdlbnkiolpmnbaaAgInv
import Derived.Test.YtdlbnkiolpmnbaaAgOp
import Derived.Test.YtdlbnkiolpmnbaaAgPut
import Derived.Test.YtdlbnkiolpmnbaaAgMov
import Derived.Maps.OwnIn
import Derived.Maps.OwnSet
namespace Go.Proofs.Ytdlbnkiolpmnbaa.Ag
open Go.RowKit Go.Proofs.Ytdlbnkiolpmnbaa.MAga Go.Proofs.YtdlbnkiolpmnbaaW.PrintWords Go.Proofs.YtdlbnkiolpmnbaaW.PrintLast Go.Proofs.YtdlbnkiolpmnbaaW.PrintMore
attribute [local go_sem] max2_int min2_int max_two min_two max_three min_three max_four min_four
set_option linter.unusedVariables false
set_option linter.unusedSimpArgs false
-- import Derived.Maps.OwnIn
-- import Derived.Maps.OwnSet
open Go.Maps
theorem flat_drop {l : List S34} (h : 0 < l.length) : (flat l).take ((l.length - 1) * 4) = flat l.dropLast := by
  have e := dropLast_eq h
  have e2 : flat l = flat l.dropLast ++ itv (gt l (l.length - 1)) := by
    rw [← show flat [gt l (l.length - 1)] = itv (gt l (l.length - 1)) by simp [flat], ← flat_app, ← e]
  rw [e2, List.take_append_of_le_length (by rw [flat_len, List.length_dropLast]; exact Nat.le_refl _), List.take_of_length_le (by rw [flat_len, List.length_dropLast]; exact Nat.le_refl _)]
theorem AgSt.shrink {B : Nat} {W : World} {P mb g0 c : Nat} {l : List S34} {n : Nat} {D : DataW Nat} {g : Int} (h : AgSt B W P mb (.slice (some ⟨g0, 0, none⟩) l.length c) l n D g) (hl : 0 < l.length) :
    AgSt B (W.setCell ⟨P, 0, none⟩ (.slice (some ⟨g0, 0, none⟩) (l.length - 1) c)) P mb (.slice (some ⟨g0, 0, none⟩) (l.length - 1) c) l.dropLast n D g := by
  have hdl : l.dropLast.length = l.length - 1 := List.length_dropLast
  have hr : W.ownsRow B 34 4 (.slice (some ⟨g0, 0, none⟩) (l.length - 1) c) l.dropLast.length (flat l.dropLast) := by
    refine ⟨flat_len _, .inr ?_⟩
    rcases h.row.2 with ⟨e, _⟩ | ⟨g1, cap, cur, e, hb, hg, h1, h2, h3, h4⟩
    · cases e
    · cases e
      refine ⟨g0, c, cur, by rw [hdl], hb, hg, by omega, h2, h3, ?_⟩
      rw [hdl, ← flat_drop hl, ← h4, List.take_take, Nat.min_eq_left (by omega)]
  have hg : W.grownBy W (Value.slice (some ⟨g0, 0, none⟩) l.length c).ownBlock := ⟨rfl, rfl, rfl, Nat.le_refl _, fun _ _ _ => rfl⟩
  exact h.heap hr hg
theorem AgSt.del {B : Nat} {W W' : World} {P mb : Nat} {hv : Value} {l : List S34} {n : Nat} {D D' : DataW Nat} {g : Int} (h : AgSt B W P mb hv l n D g) (hm : PM W' mb n D') (ht : W.mapTurned W' mb) : AgSt B W' P mb hv l n D' g := h.place hm ht.grown
theorem can_step {B : Nat} {w W : World} {P mb g0 cc m : Nat} {l : List S34} {n : Nat} {D : DataW Nat} {g : Int} {F : Nat → Prop} (h : AgSt B W P mb (.slice (some ⟨g0, 0, none⟩) m cc) l n D g) (hm : l.length = m) (i : Nat) (hi : i < l.length) (x : S34) (hk : Kept w W F) (hF : F g0) (hb : Below B w W) :
    AgSt B ((((W.setCell ⟨g0, i * 4, none⟩ (.int .i64 x.f0)).setCell ⟨g0, i * 4 + 1, none⟩ (.int .i64 x.f1)).setCell ⟨g0, i * 4 + 2, none⟩ (.string x.f2)).setCell ⟨g0, i * 4 + 3, none⟩ (.int .i64 x.f3)) P mb (.slice (some ⟨g0, 0, none⟩) m cc) (l.set i x) n D g ∧
      Kept w ((((W.setCell ⟨g0, i * 4, none⟩ (.int .i64 x.f0)).setCell ⟨g0, i * 4 + 1, none⟩ (.int .i64 x.f1)).setCell ⟨g0, i * 4 + 2, none⟩ (.string x.f2)).setCell ⟨g0, i * 4 + 3, none⟩ (.int .i64 x.f3)) F ∧
      Below B w ((((W.setCell ⟨g0, i * 4, none⟩ (.int .i64 x.f0)).setCell ⟨g0, i * 4 + 1, none⟩ (.int .i64 x.f1)).setCell ⟨g0, i * 4 + 2, none⟩ (.string x.f2)).setCell ⟨g0, i * 4 + 3, none⟩ (.int .i64 x.f3)) := by
  subst hm
  have hg := own_base h.row g0 rfl
  have h1 := h.item i hi x
  rw [List.length_set] at h1
  exact ⟨h1, (((hk.setCell (.inl hF) _).setCell (.inl hF) _).setCell (.inl hF) _).setCell (.inl hF) _, (((hb.setCell hg _).setCell hg _).setCell hg _).setCell hg _⟩
def canEnd (B P : Nat) (F : Nat → Prop) (c : Nat) (r : Int × List S34) (g : Int) (w : World) (e : Ending) (w' : World) : Prop :=
  e = .returned (.int .i64 r.1) ∧ ∃ F', AgV B w' P F' (c + 1) r.2 g ∧ To B w w' F F'
set_option maxHeartbeats 4000000 in
set_option maxRecDepth 100000 in
theorem cancel_calls (B P : Nat) (F : Nat → Prop) (c : Nat) (L : List S34) (g t : Int) (w : World) (h : AgV B w P F c L g) (hc : c < 100000) (ht : (Lit.int .i64 t).wf = true) :
    Calls Try.prog 27 #[.pointer (some ⟨P, 0, none⟩), .int .i64 t] w (canEnd B P F c (cancelR t L) g w) := by
  have HV := Aside0.mk h
  obtain ⟨mb, hv, l, n, D, hs, hi, hn, hgc, rfl⟩ := h
  have HS := Aside0.mk hs
  have HI := Aside0.mk hi
  have p0 := blk_cell hs.blk 0
  have p1 := blk_cell hs.blk 1
  rcases hs.look hi.pl t ht with ⟨hno, cx, hl⟩ | ⟨i, hil, hit, hl⟩
  · have hl := hl w hs
    have e1 : cancelR t L = (3, L) := by unfold cancelR; rw [tkR_no hi hno]
    rw [e1]
    clear hs hi e1 hno
    go_enter Try.func27, Try.ntmps27
    go_wp2_with (fail)
    go_ret
    exact ⟨rfl, _, HV.out.mono (Nat.le_succ _), To.refl _ _ _⟩
  · have hl := hl w hs
    have e0 : tkR t L = some (gt l i) := by rw [← hit]; exact tkR_at hi hil
    have e1 : cancelR t L = (0, offR t L) := by unfold cancelR; rw [e0]
    rw [e1]
    have hc1 := hs.cases
    have HIL := Aside0.mk hil
    have HIT := Aside0.mk hit
    rcases hc1 with ⟨e, _⟩ | ⟨g0, cc, e⟩
    · rw [e] at hil
      exact absurd hil (by simp)
    cases e
    clear hs hi e0 e1 hil hit
    go_enter Try.func27, Try.ntmps27
    go_upto_region 4 with (fail)
    obtain ⟨m, hm⟩ : ∃ m, l.length - 1 = m := ⟨_, rfl⟩
    have hml : m < l.length := by have := HIL.out; omega
    obtain ⟨c0, c1, c2, c3⟩ := HS.out.cells m hml
    obtain ⟨x, hx⟩ : ∃ x, gt l m = x := ⟨_, rfl⟩
    rw [hx] at c0 c1 c2 c3
    have q0 : ((0 : Int) ≤ (m : Int)) = True := eq_true (by omega)
    have q1 : ((m : Int) < (l.length : Int)) = True := eq_true (by omega)
    have q2 : (m < l.length) = True := eq_true hml
    have hll := HI.out.len
    have ew : IntKind.i64.wrap ((l.length : Int) - 1) = (m : Int) := by rw [i64_w]; unfold wrap64; omega
    have ew2 : wrap64 ((l.length : Int) - 1) = (m : Int) := by unfold wrap64; omega
    have HM := Aside0.mk hm
    have HML := Aside0.mk hml
    have HX := Aside0.mk hx
    clear hm hml hx hl hll p1
    obtain ⟨x0, x1, x2, x3⟩ := x
    go_region_held3 (fun w' => w'.cell? ⟨P, 0, none⟩ = some (.slice (some ⟨g0, 0, none⟩) l.length cc) ∧ w'.cell? ⟨g0, m * 4, none⟩ = some (.int .i64 x0) ∧ w'.cell? ⟨g0, m * 4 + 1, none⟩ = some (.int .i64 x1) ∧ w'.cell? ⟨g0, m * 4 + 2, none⟩ = some (.string x2) ∧ w'.cell? ⟨g0, m * 4 + 3, none⟩ = some (.int .i64 x3)) (first | exact ⟨p0, c0, c1, c2, c3⟩ | go_keep) (fail)
    obtain ⟨o, ho⟩ : ∃ o, (Obj.cells #[Value.int IntKind.i64 x0, Value.int IntKind.i64 x1, Value.string x2, Value.int IntKind.i64 x3] 34 : Obj) = o := ⟨_, rfl⟩
    have hb1 : Below w.heap.size w (w.alloc o).drew := (below_alloc (Below.refl _ _) o).drew
    have hx1 : (w.alloc o).drew.heap[w.heap.size]? = some (.cells #[Value.int IntKind.i64 x0, Value.int IntKind.i64 x1, Value.string x2, Value.int IntKind.i64 x3] 34 (0, 0)) := by rw [← ho]; exact blk_new _ _
    rw [ho]
    obtain ⟨W1, hW1⟩ : ∃ W1, (w.alloc o).drew = W1 := ⟨_, rfl⟩
    rw [hW1] at hb1 hx1 ⊢
    have HS1 := Aside0.mk (HS.out.far hb1)
    have HB1 := Aside0.mk hb1
    have HBOX := Aside0.mk hx1
    clear hb1 hx1 hW1 ho p0 c0 c1 c2 c3
    have p0 := blk_cell HS1.out.blk 0
    have f0 := blk_frozen HS1.out.blk 0
    have hcap := own_cap HS1.out.row
    have q3 : ((m : Int) ≤ (cc : Int)) = True := eq_true (by have := HML.out; omega)
    have q4 : (m ≤ cc) = True := eq_true (by have := HML.out; omega)
    clear hcap
    go_upto_region 5 with (fail)
    go_still_tail 14, (by kernel_rfl)
    go_upto_region 6 with (fail)
    have hk2 : Kept w (W1.drew.setCell ⟨P, 0, none⟩ (.slice (some ⟨g0, 0, none⟩) m cc)) (AgF P mb (.slice (some ⟨g0, 0, none⟩) l.length cc)) := (Kept.of_below HB1.out.drew _).setCell (.inl (.inl rfl)) _
    have hb2 : Below B w (W1.drew.setCell ⟨P, 0, none⟩ (.slice (some ⟨g0, 0, none⟩) m cc)) := (HB1.out.drew.mono (Nat.le_trans HS.out.bp (Nat.le_of_lt (blk_lt HS.out.blk)))).setCell HS.out.bp _
    have hs2 : AgSt B (W1.drew.setCell ⟨P, 0, none⟩ (.slice (some ⟨g0, 0, none⟩) m cc)) P mb (.slice (some ⟨g0, 0, none⟩) m cc) l.dropLast n D g := by
      have := (HS1.out.far (Below.refl _ _).drew).shrink (by have := HML.out; omega)
      rw [HM.out] at this
      exact this
    have hx2 : (W1.drew.setCell ⟨P, 0, none⟩ (.slice (some ⟨g0, 0, none⟩) m cc)).heap[w.heap.size]? = some (.cells #[Value.int IntKind.i64 x0, Value.int IntKind.i64 x1, Value.string x2, Value.int IntKind.i64 x3] 34 (0, 0)) := blk_far (w := W1.drew) HBOX.out (by have := blk_lt HS.out.blk; show w.heap.size ≠ P; omega) _
    obtain ⟨W2, hW2⟩ : ∃ W2, W1.drew.setCell ⟨P, 0, none⟩ (.slice (some ⟨g0, 0, none⟩) m cc) = W2 := ⟨_, rfl⟩
    change Code.wp _ _ _ _ (W1.drew.setCell ⟨P, 0, none⟩ (.slice (some ⟨g0, 0, none⟩) m cc))
    rw [hW2] at hk2 hb2 hs2 hx2 ⊢
    have HK2 := Aside0.mk hk2
    have HB2 := Aside0.mk hb2
    have HS2 := Aside0.mk hs2
    have HBOX2 := Aside0.mk hx2
    clear hk2 hb2 hs2 hx2 hW2 p0 f0 q3 q4 q0 q1 q2 HBOX HS1
    have p1 := blk_cell HS2.out.blk 1
    have hkey := Maps.keyOf_int_mk (P := Try.prog) Try.underlying3 ht
    have HKEY := Aside0.mk hkey
    clear hkey
    go_wp2_with (at_delete; refine wpList_delete_own _ rfl _ _ 80 3 rfl 3 (Maps.int_keyed Try.underlying3) Try.underlying80 _ mb n D rfl HS2.out.map _ _ rfl HKEY.out ?_)
    intro W3 hmap hturn
    have HS3 := Aside0.mk (HS2.out.del hmap hturn)
    have HK3 := Aside0.mk (Kept.of_grown hturn.grown HK2.out (fun k e => .inl (.inr (.inl (Option.some.inj e).symm))))
    have HB3 := Aside0.mk (HB2.out.grown hturn.grown (Nat.le_trans HS2.out.bp (Nat.le_of_lt (blk_lt HS2.out.blk))) (fun k e => by cases e; exact HS2.out.bm))
    have HBOX3 := Aside0.mk ((hturn.grown.block w.heap.size (blk_lt HBOX2.out) (fun e => by have := World.ownsMap.lt HS.out.map; have := Option.some.inj e; omega)).trans HBOX2.out)
    clear hmap hturn p1
    have p0 := blk_cell HS3.out.blk 0
    by_cases him : i < m
    · have d1 : decide ((i : Int) < (m : Int)) = true := decide_eq_true (by omega)
      have d2 : (i < m) = True := eq_true him
      have HIM := Aside0.mk him
      go_upto_region 8 with (fail)
      have hdl : l.dropLast.length = m := by rw [List.length_dropLast]; exact HM.out
      have q0 : ((0 : Int) ≤ (i : Int)) = True := eq_true (by omega)
      have q1 : ((i : Int) < (m : Int)) = True := eq_true (by omega)
      have k0 := blk_cell HBOX3.out 0
      have k1 := blk_cell HBOX3.out 1
      have k2 := blk_cell HBOX3.out 2
      have k3 := blk_cell HBOX3.out 3
      obtain ⟨c0, c1, c2, c3⟩ := HS3.out.cells i (by omega)
      have hrow3 := HS3.out.row
      rw [hdl] at hrow3
      have f0 := hrow3.frozenAt (i * 4)
      have f1 := hrow3.frozenAt (i * 4 + 1)
      have f2 := hrow3.frozenAt (i * 4 + 2)
      have f3 := hrow3.frozenAt (i * 4 + 3)
      have HDL := Aside0.mk hdl
      generalize gt l.dropLast i = y at c0 c1 c2 c3
      clear hdl him hrow3
      go_still_tail 7, (by kernel_rfl)
      go_upto_region 9 with (fail)
      obtain ⟨s1, s2, s3⟩ := can_step (HS3.out.far (Below.refl _ _).drew) HDL.out i (by rw [HDL.out]; exact HIM.out) ⟨x0, x1, x2, x3⟩ HK3.out.drew (.inr (.inr rfl)) HB3.out.drew
      obtain ⟨W4, hW4⟩ : ∃ W4, (((W3.drew.setCell ⟨g0, i * 4, none⟩ (.int .i64 x0)).setCell ⟨g0, i * 4 + 1, none⟩ (.int .i64 x1)).setCell ⟨g0, i * 4 + 2, none⟩ (.string x2)).setCell ⟨g0, i * 4 + 3, none⟩ (.int .i64 x3) = W4 := ⟨_, rfl⟩
      change Code.wp _ _ _ _ ((((W3.drew.setCell ⟨g0, i * 4, none⟩ (.int .i64 x0)).setCell ⟨g0, i * 4 + 1, none⟩ (.int .i64 x1)).setCell ⟨g0, i * 4 + 2, none⟩ (.string x2)).setCell ⟨g0, i * 4 + 3, none⟩ (.int .i64 x3))
      rw [hW4] at s1 s2 s3 ⊢
      have HS4 := Aside0.mk s1
      have HK4 := Aside0.mk s2
      have HB4 := Aside0.mk s3
      clear s1 s2 s3 hW4 k0 k1 k2 k3 c0 c1 c2 c3 f0 f1 f2 f3 q0 q1 p0
      have hlen : (l.dropLast.set i (⟨x0, x1, x2, x3⟩ : S34)).length = m := by rw [List.length_set]; exact HDL.out
      have hwf : ∀ y ∈ l.dropLast.set i (⟨x0, x1, x2, x3⟩ : S34), (Lit.int .i64 y.f3).wf = true := by
        have h1 := HI.out.wf (by omega)
        refine wf_set (fun y hy => h1 y ?_) i _ ?_
        · have h2 := dropLast_eq (l := l) (by have := HML.out; omega)
          rw [h2]
          exact List.mem_append_left _ hy
        · rw [← HX.out]
          exact h1 _ (gt_mem HML.out)
      have hset := settle_calls B P mb g0 m cc (l.dropLast.set i ⟨x0, x1, x2, x3⟩) n (D.del (Lit.int .i64 t)) g i W4 HS4.out (by rw [hlen]; exact HIM.out) (by rw [hlen]; have := HML.out; have := HI.out.len; unfold maxLen; omega) (by rw [hlen]; have := HML.out; have := HI.out.len; omega) hwf
      have HSET := Aside0.mk hset
      have HLEN := Aside0.mk hlen
      clear hset hlen hwf
      go_wp2_with (go_at_call 36; refine HSET.out.mono ?_; rintro e w3 ⟨rfl, hA, hk, hbl⟩; have HA := Aside0.mk hA; have HK := Aside0.mk hk; have HBL := Aside0.mk hbl; clear hA hk hbl)
      go_ret
      have hinv := HI.out.cut (i := i) (by have := HM.out; have := HIM.out; omega)
      rw [HM.out, HX.out, HIT.out] at hinv
      refine ⟨rfl, _, ⟨mb, _, _, _, _, HA.out, hinv, by rw [HLEN.out]; have := HML.out; have := HI.out.len; omega, by omega, rfl⟩, HK4.out.then_ HK.out (fun k e => .inl e), HB4.out.trans HBL.out, fun k hk => .inl hk⟩
    · have hie : i = m := by have := HIL.out; have := HM.out; omega
      have d1 : decide ((i : Int) < (m : Int)) = false := decide_eq_false (by omega)
      have d2 : (i < m) = False := eq_false him
      clear him
      go_wp2_with (fail)
      go_ret
      have hinv := HI.out.last (by have := HML.out; omega)
      rw [HM.out, HX.out] at hinv
      have e9 : x3 = t := by rw [← HIT.out, hie, HX.out]
      rw [e9] at hinv
      exact ⟨rfl, _, ⟨mb, _, _, _, _, HS3.out, hinv, by omega, by omega, rfl⟩, HK3.out, HB3.out, fun k hk => .inl hk⟩

end Go.Proofs.Ytdlbnkiolpmnbaa.Ag
