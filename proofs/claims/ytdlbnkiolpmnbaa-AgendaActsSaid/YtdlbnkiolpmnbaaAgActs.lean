/- agenda: the statement AgendaActs, walked. It says its own conditions. -/
import Derived.Test.YtdlbnkiolpmnbaaProg
import Derived.Test.YtdlbnkiolpmnbaaMAgax0
import Derived.Test.YtdlbnkiolpmnbaaMAgax2
import Derived.Test.YtdlbnkiolpmnbaaMAgax3
import Derived.WalkKit
import Derived.Deep.RegionLaw
import Derived.Deep.RegionWith
import Derived.Deep.RegionHeld3
import Derived.BigRegion
import Derived.BigQuiet
import Derived.StillTailTactics
import Derived.Test.YtdlbnkiolpmnbaaAgSt
import Derived.Test.YtdlbnkiolpmnbaaAgLay
import Derived.Test.YtdlbnkiolpmnbaaAgCmp
import Derived.Test.YtdlbnkiolpmnbaaAgSet
import Derived.Test.YtdlbnkiolpmnbaaAgPlain
import Derived.Test.YtdlbnkiolpmnbaaAgInv
import Derived.Test.YtdlbnkiolpmnbaaAgOp
import Derived.Test.YtdlbnkiolpmnbaaAgPut
import Derived.Test.YtdlbnkiolpmnbaaAgMov
import Derived.Test.YtdlbnkiolpmnbaaAgCan
import Derived.Test.YtdlbnkiolpmnbaaAgTak
import Derived.Test.YtdlbnkiolpmnbaaAgTke
import Derived.Test.YtdlbnkiolpmnbaaAgLaw
import Derived.Test.YtdlbnkiolpmnbaaAgIter
import Derived.Test.YtdlbnkiolpmnbaaAgSeq
import Derived.Test.YtdlbnkiolpmnbaaAgSort
import Derived.Test.YtdlbnkiolpmnbaaAgList
import Derived.Test.YtdlbnkiolpmnbaaAgShow
import Derived.Test.YtdlbnkiolpmnbaaAgLv
import Derived.Test.YtdlbnkiolpmnbaaAgSame
import Derived.Test.YtdlbnkiolpmnbaaAgRef
import Derived.Test.YtdlbnkiolpmnbaaAgLayR
import Derived.Test.YtdlbnkiolpmnbaaAgPickR
import Derived.Test.YtdlbnkiolpmnbaaAgRefA
import Derived.Test.YtdlbnkiolpmnbaaAgRefB
import Derived.Test.YtdlbnkiolpmnbaaAgRefC
import Derived.Test.YtdlbnkiolpmnbaaAgBoth
import Derived.Maps.OwnIn
import Derived.Maps.OwnSet
import Derived.Deep.RegionLaw
namespace Go.Proofs.Ytdlbnkiolpmnbaa.Ag
open Go.RowKit Go.Proofs.Ytdlbnkiolpmnbaa.MAga Go.Proofs.YtdlbnkiolpmnbaaW.PrintWords Go.Proofs.YtdlbnkiolpmnbaaW.PrintLast Go.Proofs.YtdlbnkiolpmnbaaW.PrintMore
attribute [local go_sem] max2_int min2_int max_two min_two max_three min_three max_four min_four
set_option linter.unusedVariables false
set_option linter.unusedSimpArgs false
-- import Derived.Maps.OwnIn
-- import Derived.Maps.OwnSet
-- import Derived.Deep.RegionLaw
theorem doesEnd.mk' {w : World} {P P2 c : Nat} {r : List S34 × Int} {e : Ending} {w' : World} (h : doesEnd w P P2 c r e w') : e = .returned (.bool true) ∧ ∃ F' F2', Both w w' P P2 F' F2' (c + 1) r.1 r.2 := h
set_option maxHeartbeats 8000000 in
set_option maxRecDepth 100000 in
theorem acts_calls (A : Option Addr) (cp : Nat) (l : List S67) (w : World) (hr : Kd.C k67 w A l.length l) (hc : l.length ≤ cp) (hl : ∀ x ∈ l, (Lit.int .i64 x.f2).wf = true) :
    Calls Try.prog 8 #[.slice A l.length cp] w fun e w' => e = .returned (.bool true) ∧ Below w.heap.size w w' := by
  have HS := Aside0.mk (fun W => shown_calls W)
  have HR := Aside0.mk hr
  have HL := Aside0.mk hl
  obtain ⟨b, hbf, hh⟩ := heavy_calls A cp l w hr hc
  have HH := Aside0.mk hh
  clear hr hl hc hh
  cases b with
  | true =>
    clear hbf
    go_enter Try.func8, Try.ntmps8
    go_wp2_with (first
      | (go_at_call 30; refine HH.out.mono ?_; rintro e w1 ⟨rfl, hb1⟩)
      | (go_at_call 14; refine (HS.out _).mono ?_; rintro e w2 ⟨rfl, hb2⟩))
    go_ret
    exact ⟨rfl, hb1.trans (hb2.mono hb1.size)⟩
  | false =>
  have HN := Aside0.mk (hbf rfl)
  clear hbf
  go_enter Try.func8, Try.ntmps8
  go_upto_region 3 with (first
    | (go_at_call 30; refine HH.out.mono ?_; rintro e w1 ⟨rfl, hb1⟩)
    | (go_at_call 14; refine (HS.out _).mono ?_; rintro e w2 ⟨rfl, hb2⟩))
  have HB2 := Aside0.mk (hb1.trans (hb2.mono hb1.size))
  have HNW := Aside0.mk (new_calls w.heap.size w2 HB2.out.size)
  clear hb1 hb2
  go_upto_region 4 with (go_at_call 15; refine HNW.out.mono ?_; rintro e w3 ⟨P, F, rfl, hA, hb, hP, hF⟩; have HA := Aside0.mk (LV.mk hA (HB2.out.trans hb) (fun k hk => Nat.le_trans HB2.out.size (hF k hk))); clear hA hb hP hF)
  obtain ⟨F2, hBo⟩ := Both.start HA.out
  go_upto_region 5 with (fail)
  obtain ⟨w4, hw4⟩ : ∃ w4, w3.alloc (Obj.cells #[.slice none 0 0, .int .i64 0] 64) = w4 := ⟨_, rfl⟩
  obtain ⟨P2, hP2⟩ : ∃ P2, w3.heap.size = P2 := ⟨_, rfl⟩
  rw [hw4, hP2] at hBo
  rw [hw4, hP2]
  have HBO := Aside0.mk hBo
  clear hBo hw4 hP2 HA
  rename_i K2 hK2 K1 hK1
  go_cut [5] (fun v5 wr => v5 = .int .i64 0 ∧ wr = w4)
  case first =>
    go_wp2_with (fail)
    go_meet
    exact ⟨rfl, rfl⟩
  case rest =>
  obtain ⟨rfl, rfl⟩ := hcut
  refine hK1 _ _ ?_
  go_cut [5] (fun v5 wr => ∃ F F2 L g, Aside0 (Both w wr P P2 F F2 l.length L g))
  case first =>
    go_wp2_with (fail)
    go_loopg [5] l.length (fun kq v5 wr => ∃ (i : Nat) (F F2 : Nat → Prop) (L : List S34) (g : Int), v5 = .int .i64 i ∧ Aside0 (Both w wr P P2 F F2 i L g) ∧ Aside0 (i + kq = l.length))
    case atStart => exact ⟨0, F, F2, [], 0, rfl, HBO, ⟨by omega⟩⟩
    case round =>
      obtain ⟨i, F1, F21, L1, g1, rfl, HV, HQ⟩ := hrel
      clear HBO
      by_cases hi : i < l.length
      · have q1 : decide ((i : Int) < (l.length : Int)) = true := decide_eq_true (by omega)
        have HI := Aside0.mk hi
        have q2 : decide (i < l.length) = true := decide_eq_true hi
        have p0 : (0 : Int) ≤ (i : Int) := Int.natCast_nonneg i
        have p1 : (i : Int) < (l.length : Int) := by omega
        obtain ⟨ad, e, x0, x1, x2, x3, x4⟩ := at_T67 HR.out (i : Int) p0 p1
        cases e
        simp only [Int.toNat_natCast] at x0 x1 x2 x3 x4
        have hin : rd_T67 l (i : Int) ∈ l := by
          unfold rd_T67
          rw [Int.toNat_natCast, List.getD_eq_getElem?_getD, List.getElem?_eq_getElem hi]
          exact List.getElem_mem hi
        have hwf := HL.out _ hin
        obtain ⟨y, hy⟩ : ∃ y, rd_T67 l (i : Int) = y := ⟨_, rfl⟩
        rw [hy] at x0 x1 x2 x3 x4 hwf
        replace x0 := (HV.out.a.b.cell (World.block_lt_of_cell? w _ x0)).trans x0
        replace x1 := (HV.out.a.b.cell (World.block_lt_of_cell? w _ x1)).trans x1
        replace x2 := (HV.out.a.b.cell (World.block_lt_of_cell? w _ x2)).trans x2
        replace x3 := (HV.out.a.b.cell (World.block_lt_of_cell? w _ x3)).trans x3
        replace x4 := (HV.out.a.b.cell (World.block_lt_of_cell? w _ x4)).trans x4
        have hd := does_calls w wr.drew P P2 F1 F21 i L1 g1 y (HV.out.far (Below.refl _ _).drew) (by have := HN.out; omega) hwf
        obtain ⟨y0, y1, y2, y3, y4⟩ := y
        obtain ⟨r, hr⟩ : ∃ r, doesR ⟨y0, y1, y2, y3, y4⟩ L1 g1 = r := ⟨_, rfl⟩
        rw [hr] at hd
        obtain ⟨L2, g2⟩ := r
        have HD := Aside0.mk hd
        have ew : wrap64 ((i : Int) + 1) = (i : Int) + 1 := by have := HN.out; unfold wrap64; omega
        clear hi hin hwf hy hr hd
        replace p0 := eq_true p0
        replace p1 := eq_true p1
        go_upto_region 8 with (fail)
        rename_i K3 hK3
        go_cut [44] (fun v44 wx => v44 = .bool false ∧ ∃ F F2, Aside0 (Both w wx P P2 F F2 (i + 1) L2 g2))
        case first =>
          clear hK3 ew HQ
          go_region_law (first
            | (refine step_call (.inl rfl) _ _ rfl Try.func31 (by kernel_rfl) (by kernel_rfl) _ (by rfl) HD.out ?_; rintro e w5 h5; obtain ⟨rfl, F5, F25, h5⟩ := h5.mk'; replace h5 : Both w w5 P P2 F5 F25 (i + 1) L2 g2 := h5; have HV5 := Aside0.mk h5; obtain ⟨A5, c5, p5, hc5, lt5, hC5⟩ := h5.r.open (by have := h5.a.v.len; omega); have HC5 := Aside0.mk hC5; have HL5 := Aside0.mk hc5; clear h5 hC5 hc5 HD x0 x1 x2 x3 x4; refine ⟨_, rfl, ?_⟩)
            | (refine step_call (.inr (by kernel_rfl)) _ _ rfl Try.func18 (by kernel_rfl) (by kernel_rfl) _ (by rfl) (list_calls _ _ _ _ _ _ _ HV5.out.a.v) ?_; rintro e w6 ⟨ad6, c6, rfl, hc6, hrow6, hb6⟩; have HV6 := Aside0.mk (HV5.out.far hb6); have p6 := (hb6.cell lt5).trans p5; have HC6 := Aside0.mk (Kd.C_below HC5.out hb6); have HR6 := Aside0.mk hrow6; have HL6 := Aside0.mk hc6; have lt6 : P2 < w6.heap.size := Nat.lt_of_lt_of_le lt5 hb6.size; clear hrow6 hb6 hc6; refine ⟨_, rfl, ?_⟩)
            | (refine step_call (.inr (by kernel_rfl)) _ _ rfl Try.func29 (by kernel_rfl) (by kernel_rfl) _ (by rfl) (theirs_calls _ c6 ad6 L2 _ HR6.out (by have := HV6.out.a.v.len; omega) HL6.out) ?_; rintro e w7 ⟨A7, c7, rfl, hc7, hC7, hb7⟩; have HV7 := Aside0.mk (HV6.out.far hb7); have p7 := (hb7.cell lt6).trans p6; have HC7 := Aside0.mk (Kd.C_below HC6.out hb7); have HD7 := Aside0.mk hC7; have HL7 := Aside0.mk hc7; clear hC7 hb7 hc7; refine ⟨_, rfl, ?_⟩)
            | (refine step_call (.inr (by kernel_rfl)) _ _ rfl Try.func28 (by kernel_rfl) (by kernel_rfl) _ (by rfl) (same_calls A7 A5 c7 c5 L2 w7 HD7.out HC7.out (by have := HV7.out.a.v.len; omega) HL7.out HL5.out) ?_; rintro e w8 ⟨rfl, hb8⟩; have HV8 := Aside0.mk (HV7.out.far hb8); clear hb8; refine ⟨_, rfl, ?_⟩))
          all_goals
            simp only [↓List.getElem_toArray, ↓List.getElem_cons_succ, ↓List.getElem_cons_zero, Act.put, List.setIfInBounds_toArray, List.set_cons_zero, List.set_cons_succ]
            go_wp2_with (fail)
            go_meet
            exact ⟨rfl, _, _, HV8⟩
        case rest => as_aux_lemma =>
          obtain ⟨rfl, F9, F29, HV9⟩ := hcut
          refine hK3 _ _ ?_
          obtain ⟨r, hr⟩ : ∃ r, nextR L2 = r := ⟨_, rfl⟩
          have hn := fun W (h : Both w W P P2 F9 F29 (i + 1) L2 g2) => next_calls w.heap.size P F9 (i + 1) L2 g2 W h.a.v
          have hrn := fun W (h : Both w W P P2 F9 F29 (i + 1) L2 g2) => rnext_calls w.heap.size P2 F29 L2 g2 W h.r
          obtain ⟨⟨r0, r1, r2, r3⟩, rb⟩ := r
          have HN1 := Aside0.mk (show ∀ W, Both w W P P2 F9 F29 (i + 1) L2 g2 → Calls Try.prog 32 #[.pointer (some ⟨P, 0, none⟩)] W (fun e w' => e = .returned (.tuple #[.agg #[.int .i64 r0, .int .i64 r1, .string r2, .int .i64 r3], .bool rb]) ∧ Below W.heap.size W w') from fun W h => (hn W h).mono (fun e w' h => by obtain ⟨h1, h2, h3⟩ := h; rw [hr] at h1; exact ⟨h1, h3⟩))
          have HR1 := Aside0.mk (show ∀ W, Both w W P P2 F9 F29 (i + 1) L2 g2 → Calls Try.prog 33 #[.pointer (some ⟨P2, 0, none⟩)] W (fun e w' => e = .returned (.tuple #[.agg #[.int .i64 r0, .int .i64 r1, .string r2, .int .i64 r3], .bool rb]) ∧ Below W.heap.size W w') from fun W h => (hrn W h).mono (fun e w' h => by obtain ⟨h1, h2, h3⟩ := h; rw [hr] at h1; exact ⟨h1, h3⟩))
          clear hn hrn hr hK3
          go_upto_region 11 with (go_at_call 32; refine (HN1.out _ HV9.out).mono ?_; rintro e w10 ⟨rfl, hb10⟩; have HV10 := Aside0.mk (HV9.out.far hb10); clear hb10)
          have hx11 := blk_new w10 (Obj.cells #[.int .i64 r0, .int .i64 r1, .string r2, .int .i64 r3] 34)
          have hv11 := HV10.out.far (below_alloc (Below.refl w10.heap.size w10) (Obj.cells #[.int .i64 r0, .int .i64 r1, .string r2, .int .i64 r3] 34))
          obtain ⟨w11, hw11⟩ : ∃ w11, w10.alloc (Obj.cells #[.int .i64 r0, .int .i64 r1, .string r2, .int .i64 r3] 34) = w11 := ⟨_, rfl⟩
          rw [hw11] at hx11 hv11 ⊢
          have HX11 := Aside0.mk hx11
          have HV11 := Aside0.mk hv11
          clear hw11 hx11 hv11
          go_upto_region 12 with (go_at_call 33; refine (HR1.out _ HV11.out).mono ?_; rintro e w12 ⟨rfl, hb12⟩; have HV12 := Aside0.mk (HV11.out.far hb12); have hx12 := blk_below HX11.out hb12; clear hb12)
          have k0 := blk_cell hx12 0
          have k1 := blk_cell hx12 1
          have k2 := blk_cell hx12 2
          have k3 := blk_cell hx12 3
          have hlt4 : (w10.heap.size < w12.heap.size) = True := eq_true (blk_lt hx12)
          have HV13 := Aside0.mk (HV12.out.far (below_alloc (Below.refl w12.heap.size w12) (Obj.cells #[.int .i64 r0, .int .i64 r1, .string r2, .int .i64 r3] 69)))
          clear hx12
          go_wp2_with (fail)
          clear k0 k1 k2 k3 hlt4
          cases gk with
          | zero => exact absurd HI.out (by have := HQ.out; omega)
          | succ k1 =>
          go_roundg k1
          case measure => omega
          case rel =>
            refine ⟨i + 1, F9, F29, L2, g2, ?_, HV13, ⟨by have := HQ.out; omega⟩⟩
            rw [ew]
            rfl
      · have q1 : decide ((i : Int) < (l.length : Int)) = false := decide_eq_false (by omega)
        have q2 : decide (i < l.length) = false := decide_eq_false hi
        have him : i = l.length := by have := HQ.out; omega
        subst him
        go_wp2_with (fail)
        go_meet
        exact ⟨F1, F21, L1, g1, HV⟩
  case rest => as_aux_lemma =>
    obtain ⟨F1, F21, L1, g1, HV⟩ := hcut
    refine hK2 _ _ ?_
    go_wp2_with (fail)
    go_ret
    exact ⟨rfl, HV.out.a.b⟩

end Go.Proofs.Ytdlbnkiolpmnbaa.Ag
