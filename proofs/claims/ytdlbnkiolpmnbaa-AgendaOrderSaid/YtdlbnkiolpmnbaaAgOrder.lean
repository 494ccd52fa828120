/- agenda: the statement AgendaOrder, walked. It says its own conditions. -/
import Derived.Test.YtdlbnkiolpmnbaaProg
import Derived.Test.YtdlbnkiolpmnbaaMAgax0
import Derived.Test.YtdlbnkiolpmnbaaMAgax2
import Derived.Test.YtdlbnkiolpmnbaaMAgax3
import Derived.WalkKit
import Derived.Deep.RegionLaw
import Derived.Deep.RegionWith
import Derived.Deep.RegionHeld3
import Derived.BigRegion
import Derived.BigQuiet
import Derived.StillTailTactics
import Derived.Test.YtdlbnkiolpmnbaaAgSt
import Derived.Test.YtdlbnkiolpmnbaaAgLay
import Derived.Test.YtdlbnkiolpmnbaaAgCmp
import Derived.Test.YtdlbnkiolpmnbaaAgSet
import Derived.Test.YtdlbnkiolpmnbaaAgPlain
import Derived.Test.YtdlbnkiolpmnbaaAgInv
import Derived.Test.YtdlbnkiolpmnbaaAgOp
import Derived.Test.YtdlbnkiolpmnbaaAgPut
import Derived.Test.YtdlbnkiolpmnbaaAgMov
import Derived.Test.YtdlbnkiolpmnbaaAgCan
import Derived.Test.YtdlbnkiolpmnbaaAgTak
import Derived.Test.YtdlbnkiolpmnbaaAgTke
import Derived.Test.YtdlbnkiolpmnbaaAgLaw
import Derived.Test.YtdlbnkiolpmnbaaAgIter
import Derived.Test.YtdlbnkiolpmnbaaAgSeq
import Derived.Test.YtdlbnkiolpmnbaaAgSort
import Derived.Test.YtdlbnkiolpmnbaaAgList
import Derived.Test.YtdlbnkiolpmnbaaAgShow
import Derived.Test.YtdlbnkiolpmnbaaAgLv
import Derived.Test.YtdlbnkiolpmnbaaAgSame
import Derived.Test.YtdlbnkiolpmnbaaAgRef
import Derived.Test.YtdlbnkiolpmnbaaAgLayR
import Derived.Test.YtdlbnkiolpmnbaaAgPickR
import Derived.Test.YtdlbnkiolpmnbaaAgRefA
import Derived.Test.YtdlbnkiolpmnbaaAgRefB
import Derived.Test.YtdlbnkiolpmnbaaAgRefC
import Derived.Test.YtdlbnkiolpmnbaaAgBoth
import Derived.Maps.OwnIn
import Derived.Maps.OwnSet
namespace Go.Proofs.Ytdlbnkiolpmnbaa.Ag
open Go.RowKit Go.Proofs.Ytdlbnkiolpmnbaa.MAga Go.Proofs.YtdlbnkiolpmnbaaW.PrintWords Go.Proofs.YtdlbnkiolpmnbaaW.PrintLast Go.Proofs.YtdlbnkiolpmnbaaW.PrintMore
attribute [local go_sem] max2_int min2_int max_two min_two max_three min_three max_four min_four
set_option linter.unusedVariables false
set_option linter.unusedSimpArgs false
-- import Derived.Maps.OwnIn
-- import Derived.Maps.OwnSet
theorem gt_drop {L : List S34} {n : Nat} {y : S34} {r : List S34} (h : L.drop n = y :: r) : n < L.length ∧ gt L n = y ∧ L.drop (n + 1) = r := by
  have hn : n < L.length := by
    rcases Nat.lt_or_ge n L.length with h1 | h1
    · exact h1
    · rw [List.drop_eq_nil_of_le h1] at h
      cases h
  rw [List.drop_eq_getElem_cons hn] at h
  injection h with h1 h2
  refine ⟨hn, ?_, h2⟩
  unfold gt
  rw [List.getElem?_eq_getElem hn]
  exact h1
theorem take_all {now : Int} {L : List S34} (n : Nat) (hs : Srt (L.drop n)) (hnd : (L.drop n).Pairwise (fun a b => a.f3 ≠ b.f3)) :
    (takeR now (L.drop n) = (⟨0, 0, ⟨#[]⟩, 0⟩, false, L.drop n) ∧ ∀ y ∈ L.drop n, now < y.f0) ∨ (n < L.length ∧ takeR now (L.drop n) = (gt L n, true, L.drop (n + 1)) ∧ ¬ now < (gt L n).f0) := by
  cases hd : L.drop n with
  | nil => exact .inl ⟨rfl, fun y hy => by simp at hy⟩
  | cons y r =>
    rw [hd] at hs hnd
    obtain ⟨hn, e1, e2⟩ := gt_drop hd
    by_cases h : now < y.f0
    · left
      refine ⟨by show (if now < y.f0 then _ else _) = _; rw [if_pos h], fun z hz => ?_⟩
      rcases List.mem_cons.1 hz with rfl | hz
      · exact h
      · have h1 := (List.pairwise_cons.1 hs).1 z hz
        unfold cmpI at h1
        split at h1
        · omega
        · split at h1
          · omega
          · omega
    · right
      rw [e1, e2]
      refine ⟨hn, ?_, h⟩
      show (if now < y.f0 then _ else _) = _
      rw [if_neg h, offR_head hnd]
theorem Both.mk2 {w W : World} {P P2 : Nat} {F F2 : Nat → Prop} {c : Nat} {L : List S34} {g : Int} (h : Both w W P P2 F F2 c L g) : LV w W P F c L g := h.a
theorem cellAt {b : Nat} {w : World} {ad : Option Addr} {l : List S34} (h : RowI b w ad l) (j : Nat) (x : S34) (hx : l[j]? = some x) : ∃ g, ad = some ⟨g, 0, none⟩ ∧ g < w.heap.size ∧
    w.cell? ⟨g, j * 4, none⟩ = some (.int .i64 x.f0) ∧ w.cell? ⟨g, j * 4 + 1, none⟩ = some (.int .i64 x.f1) ∧ w.cell? ⟨g, j * 4 + 2, none⟩ = some (.string x.f2) ∧ w.cell? ⟨g, j * 4 + 3, none⟩ = some (.int .i64 x.f3) := by
  obtain ⟨g, e, _, h0, h1⟩ := h j x hx
  exact ⟨g, e, h0, h1⟩
set_option maxHeartbeats 8000000 in
set_option maxRecDepth 100000 in
theorem order_calls (A : Option Addr) (cp : Nat) (l : List S67) (now : Int) (w : World) (hr : Kd.C k67 w A l.length l) (hc : l.length ≤ cp) (hl : ∀ x ∈ l, (Lit.int .i64 x.f2).wf = true) :
    Calls Try.prog 9 #[.slice A l.length cp, .int .i64 now] w fun e w' => e = .returned (.bool true) ∧ Below w.heap.size w w' := by
  have HS := Aside0.mk (fun W => shown_calls W)
  have HR := Aside0.mk hr
  have HL := Aside0.mk hl
  obtain ⟨b, hbf, hh⟩ := heavy_calls A cp l w hr hc
  have HH := Aside0.mk hh
  clear hr hl hc hh
  cases b with
  | true =>
    clear hbf
    go_enter Try.func9, Try.ntmps9
    go_wp2_with (first
      | (go_at_call 30; refine HH.out.mono ?_; rintro e w1 ⟨rfl, hb1⟩)
      | (go_at_call 14; refine (HS.out _).mono ?_; rintro e w2 ⟨rfl, hb2⟩))
    go_ret
    exact ⟨rfl, hb1.trans (hb2.mono hb1.size)⟩
  | false =>
  have HN := Aside0.mk (hbf rfl)
  clear hbf
  go_enter Try.func9, Try.ntmps9
  go_upto_region 3 with (first
    | (go_at_call 30; refine HH.out.mono ?_; rintro e w1 ⟨rfl, hb1⟩)
    | (go_at_call 14; refine (HS.out _).mono ?_; rintro e w2 ⟨rfl, hb2⟩))
  have HB2 := Aside0.mk (hb1.trans (hb2.mono hb1.size))
  have HNW := Aside0.mk (new_calls w.heap.size w2 HB2.out.size)
  clear hb1 hb2
  go_upto_region 4 with (go_at_call 15; refine HNW.out.mono ?_; rintro e w3 ⟨P, F, rfl, hA, hb, hP, hF⟩; have HA := Aside0.mk (LV.mk hA (HB2.out.trans hb) (fun k hk => Nat.le_trans HB2.out.size (hF k hk))); clear hA hb hP hF)
  obtain ⟨F2, hBo⟩ := Both.start HA.out
  go_upto_region 5 with (fail)
  obtain ⟨w4, hw4⟩ : ∃ w4, w3.alloc (Obj.cells #[.slice none 0 0, .int .i64 0] 64) = w4 := ⟨_, rfl⟩
  obtain ⟨P2, hP2⟩ : ∃ P2, w3.heap.size = P2 := ⟨_, rfl⟩
  rw [hw4, hP2] at hBo
  rw [hw4, hP2]
  have HBO := Aside0.mk hBo
  clear hBo hw4 hP2 HA
  rename_i K2 hK2 K1 hK1
  go_cut [7] (fun v7 wr => v7 = .int .i64 0 ∧ wr = w4)
  case first =>
    go_wp2_with (fail)
    go_meet
    exact ⟨rfl, rfl⟩
  case rest =>
  obtain ⟨rfl, rfl⟩ := hcut
  refine hK1 _ _ ?_
  go_cut [7] (fun v7 wr => ∃ F L g, Aside0 (LV w wr P F l.length L g))
  case first => as_aux_lemma =>
    go_wp2_with (fail)
    go_loopg [7] l.length (fun kq v7 wr => ∃ (i : Nat) (F F2 : Nat → Prop) (L : List S34) (g : Int), v7 = .int .i64 i ∧ Aside0 (Both w wr P P2 F F2 i L g) ∧ Aside0 (i + kq = l.length))
    case atStart => exact ⟨0, F, F2, [], 0, rfl, HBO, ⟨by omega⟩⟩
    case round =>
      obtain ⟨i, F1, F21, L1, g1, rfl, HV, HQ⟩ := hrel
      clear HBO
      by_cases hi : i < l.length
      · have q1 : decide ((i : Int) < (l.length : Int)) = true := decide_eq_true (by omega)
        have HI := Aside0.mk hi
        have q2 : decide (i < l.length) = true := decide_eq_true hi
        have p0 : (0 : Int) ≤ (i : Int) := Int.natCast_nonneg i
        have p1 : (i : Int) < (l.length : Int) := by omega
        obtain ⟨ad, e, x0, x1, x2, x3, x4⟩ := at_T67 HR.out (i : Int) p0 p1
        cases e
        simp only [Int.toNat_natCast] at x0 x1 x2 x3 x4
        have hin : rd_T67 l (i : Int) ∈ l := by
          unfold rd_T67
          rw [Int.toNat_natCast, List.getD_eq_getElem?_getD, List.getElem?_eq_getElem hi]
          exact List.getElem_mem hi
        have hwf := HL.out _ hin
        obtain ⟨y, hy⟩ : ∃ y, rd_T67 l (i : Int) = y := ⟨_, rfl⟩
        rw [hy] at x0 x1 x2 x3 x4 hwf
        replace x0 := (HV.out.a.b.cell (World.block_lt_of_cell? w _ x0)).trans x0
        replace x1 := (HV.out.a.b.cell (World.block_lt_of_cell? w _ x1)).trans x1
        replace x2 := (HV.out.a.b.cell (World.block_lt_of_cell? w _ x2)).trans x2
        replace x3 := (HV.out.a.b.cell (World.block_lt_of_cell? w _ x3)).trans x3
        replace x4 := (HV.out.a.b.cell (World.block_lt_of_cell? w _ x4)).trans x4
        have hd := does_calls w wr P P2 F1 F21 i L1 g1 y HV.out (by have := HN.out; omega) hwf
        obtain ⟨y0, y1, y2, y3, y4⟩ := y
        obtain ⟨r, hr⟩ : ∃ r, doesR ⟨y0, y1, y2, y3, y4⟩ L1 g1 = r := ⟨_, rfl⟩
        rw [hr] at hd
        obtain ⟨L2, g2⟩ := r
        have HD := Aside0.mk hd
        have ew : wrap64 ((i : Int) + 1) = (i : Int) + 1 := by have := HN.out; unfold wrap64; omega
        clear hi hin hwf hy hr hd
        replace p0 := eq_true p0
        replace p1 := eq_true p1
        go_wp2_with (go_at_call 31; refine HD.out.mono ?_; rintro e w5 ⟨rfl, F5, F25, h5⟩; have HV5 := Aside0.mk h5; clear h5)
        clear x0 x1 x2 x3 x4 p0 p1
        cases gk with
        | zero => exact absurd HI.out (by have := HQ.out; omega)
        | succ k1 =>
        go_roundg k1
        case measure => omega
        case rel =>
          refine ⟨i + 1, F5, F25, L2, g2, ?_, HV5, ⟨by have := HQ.out; omega⟩⟩
          rw [ew]
          rfl
      · have q1 : decide ((i : Int) < (l.length : Int)) = false := decide_eq_false (by omega)
        have q2 : decide (i < l.length) = false := decide_eq_false hi
        have him : i = l.length := by have := HQ.out; omega
        subst him
        go_wp2_with (fail)
        go_meet
        exact ⟨F1, L1, g1, ⟨HV.out.a⟩⟩
  case rest =>
  clear HBO
  obtain ⟨F1, L, g, HV⟩ := hcut
  refine hK2 _ _ ?_
  have hlen := HV.out.v.len
  have HLN := Aside0.mk hlen
  have HLS := Aside0.mk (list_calls w.heap.size P F1 l.length L g _ HV.out.v)
  clear hlen
  go_upto_region 11 with (go_at_call 18; refine HLS.out.mono ?_; rintro e w20 ⟨ad, c3, rfl, hc3, hrow3, hb3⟩; have HW3 := Aside0.mk (Held.new HV.out.v.lt hrow3); have HV3 := Aside0.mk (HV.out.far hb3); clear hrow3 hb3 hc3)
  clear HLS HV
  go_upto_region 12 with (fail)
  rename_i K4 hK4 K3 hK3
  go_cut [10] (fun v10 wr => v10 = .int .i64 0 ∧ wr = w20)
  case first =>
    go_wp2_with (fail)
    go_meet
    exact ⟨rfl, rfl⟩
  case rest =>
  obtain ⟨rfl, rfl⟩ := hcut
  refine hK3 _ _ ?_
  go_cut [9] (fun v9 wx => ∃ (n : Nat) (M : List S34) (F : Nat → Prop) (c : Nat), v9 = .int .i64 n ∧ Aside0 (L.drop n = M ∧ n ≤ L.length) ∧ Aside0 (LV w wx P F c M g) ∧ Aside0 (Held wx F ad L) ∧ Aside0 (∀ y ∈ M, now < y.f0))
  case first => as_aux_lemma =>
    go_wp2_with (fail)
    go_loopg [9, 10] L.length (fun kq v9 v10 wr => ∃ (n : Nat) (F : Nat → Prop), v9 = .int .i64 n ∧ v10 = .int .i64 n ∧ Aside0 (LV w wr P F (l.length + n) (L.drop n) g) ∧ Aside0 (Held wr F ad L) ∧ Aside0 (n + kq = L.length))
    case atStart => exact ⟨0, F1, rfl, rfl, HV3, HW3, ⟨by omega⟩⟩
    case round =>
      obtain ⟨n, F4, rfl, rfl, HV4, HW4, HQ⟩ := hrel
      clear HV3 HW3
      have q1 : decide ((n : Int) ≤ (L.length : Int)) = true := decide_eq_true (by have := HQ.out; omega)
      have q2 : decide (n ≤ L.length) = true := decide_eq_true (by have := HQ.out; omega)
      have ht := take_calls w.heap.size P F4 (l.length + n) (L.drop n) g now wr HV4.out.v (by have := HN.out; have := HQ.out; have := HLN.out; omega)
      rcases take_all (now := now) n HV4.out.v.srt HV4.out.v.nd with ⟨e, hgt⟩ | ⟨hlt, e, hle⟩
      · rw [e] at ht
        have HT := Aside0.mk (show Calls Try.prog 26 #[.pointer (some ⟨P, 0, none⟩), .int .i64 now] wr (fun e w' => e = .returned (.tuple #[.agg #[.int .i64 0, .int .i64 0, .string ⟨#[]⟩, .int .i64 0], .bool false]) ∧ ∃ F', AgV w.heap.size w' P F' (l.length + n + 1) (L.drop n) g ∧ To w.heap.size wr w' F4 F') from ht)
        have HGT := Aside0.mk hgt
        clear e ht hgt
        go_wp2_with (go_at_call 26; refine HT.out.mono ?_; rintro e w5 ⟨rfl, F5, hA, hT⟩; have HV5 := Aside0.mk (HV4.out.to hA hT); have HW5 := Aside0.mk (HW4.out.to hT); clear hA hT)
        go_meet
        exact ⟨n, L.drop n, F5, _, rfl, ⟨⟨rfl, by have := HQ.out; omega⟩⟩, ⟨HV5.out.far (below_alloc (Below.refl _ _) _)⟩, ⟨HW5.out.far (below_alloc (Below.refl _ _) _)⟩, HGT⟩
      · rw [e] at ht
        have hyn : L[n]? = some (gt L n) := by unfold gt; rw [List.getElem?_eq_getElem hlt]; rfl
        obtain ⟨y, hy⟩ : ∃ y, gt L n = y := ⟨_, rfl⟩
        rw [hy] at ht hle hyn
        obtain ⟨y0, y1, y2, y3⟩ := y
        have HT := Aside0.mk (show Calls Try.prog 26 #[.pointer (some ⟨P, 0, none⟩), .int .i64 now] wr (fun e w' => e = .returned (.tuple #[.agg #[.int .i64 y0, .int .i64 y1, .string y2, .int .i64 y3], .bool true]) ∧ ∃ F', AgV w.heap.size w' P F' (l.length + n + 1) (L.drop (n + 1)) g ∧ To w.heap.size wr w' F4 F') from ht)
        have HY := Aside0.mk hyn
        have q3 : decide ((L.length : Int) ≤ (n : Int)) = false := decide_eq_false (by omega)
        have q4 : decide (L.length ≤ n) = false := decide_eq_false (by omega)
        have q5 : decide (now < y0) = false := decide_eq_false hle
        have p0 : ((0 : Int) ≤ (n : Int)) = True := eq_true (by omega)
        have p1 : ((n : Int) < (L.length : Int)) = True := eq_true (by omega)
        have ew : wrap64 ((n : Int) + 1) = (n : Int) + 1 := by have := HLN.out; unfold wrap64; omega
        have HLT := Aside0.mk hlt
        clear e ht hle hyn hy hlt
        go_upto_region 16 with (go_at_call 26; refine HT.out.mono ?_; rintro e w5 ⟨rfl, F5, hA, hT⟩; have HV5 := Aside0.mk (HV4.out.to hA hT); have HW5 := Aside0.mk (HW4.out.to hT); clear hA hT)
        have hx := blk_new w5 (Obj.cells #[.int .i64 y0, .int .i64 y1, .string y2, .int .i64 y3] 34)
        have hv6 := HV5.out.far (below_alloc (Below.refl w5.heap.size w5) (Obj.cells #[.int .i64 y0, .int .i64 y1, .string y2, .int .i64 y3] 34))
        have hw6 := HW5.out.far (below_alloc (Below.refl w5.heap.size w5) (Obj.cells #[.int .i64 y0, .int .i64 y1, .string y2, .int .i64 y3] 34))
        obtain ⟨w6, hw⟩ : ∃ w6, w5.alloc (Obj.cells #[.int .i64 y0, .int .i64 y1, .string y2, .int .i64 y3] 34) = w6 := ⟨_, rfl⟩
        rw [hw] at hx hv6 hw6 ⊢
        have HV6 := Aside0.mk hv6
        have HW6 := Aside0.mk hw6
        obtain ⟨g0, e, hg0, c0, c1, c2, c3⟩ := cellAt hw6.row n _ HY.out
        cases e
        have k0 := blk_cell hx 0
        have k1 := blk_cell hx 1
        have k2 := blk_cell hx 2
        have k3 := blk_cell hx 3
        have hlt5 : (w5.heap.size < w6.heap.size) = True := eq_true (blk_lt hx)
        simp only at c0 c1 c2 c3
        clear hx hv6 hw6 hw
        obtain ⟨b5, hb5⟩ : ∃ b5, w5.heap.size = b5 := ⟨_, rfl⟩
        rw [hb5] at k0 k1 k2 k3 hlt5 ⊢
        clear hb5
        go_upto_region 17 with (fail)
        go_region_held3 (fun w' => w'.cell? ⟨b5, 0, none⟩ = some (.int .i64 y0) ∧ w'.cell? ⟨b5, 1, none⟩ = some (.int .i64 y1) ∧ w'.cell? ⟨b5, 2, none⟩ = some (.string y2) ∧ w'.cell? ⟨b5, 3, none⟩ = some (.int .i64 y3) ∧ w'.cell? ⟨g0, n * 4, none⟩ = some (.int .i64 y0) ∧ w'.cell? ⟨g0, n * 4 + 1, none⟩ = some (.int .i64 y1) ∧ w'.cell? ⟨g0, n * 4 + 2, none⟩ = some (.string y2) ∧ w'.cell? ⟨g0, n * 4 + 3, none⟩ = some (.int .i64 y3)) (first | exact ⟨k0, k1, k2, k3, c0, c1, c2, c3⟩ | go_keep) (fail)
        go_wp2_with (fail)
        all_goals
          clear k0 k1 k2 k3 c0 c1 c2 c3 p0 p1 q1 q2 q3 q4 q5
          cases gk with
          | zero => exact absurd HLT.out (by have := HQ.out; omega)
          | succ k1 =>
          go_roundg k1
          case measure => omega
          case rel =>
            refine ⟨n + 1, F5, ?_, ?_, ?_, ?_, ⟨by have := HQ.out; omega⟩⟩
            · rw [ew]; rfl
            · rw [ew]; rfl
            · exact ⟨by first | exact HV6.out | exact HV6.out.far (Below.refl _ _).drew⟩
            · exact ⟨by first | exact HW6.out | exact HW6.out.far (Below.refl _ _).drew⟩
  case rest =>
  clear HV3 HW3
  obtain ⟨n, M, F4, c4, rfl, HM, HV4, HW4, HGT⟩ := hcut
  refine hK4 _ _ ?_
  have hml : n + M.length = L.length := by have := HM.out; rw [← this.1, List.length_drop]; omega
  have HML := Aside0.mk hml
  have HLS := Aside0.mk (list_calls w.heap.size P F4 c4 M g _ HV4.out.v)
  have e1 : wrap64 ((n : Int) + (M.length : Int)) = (L.length : Int) := by have := HLN.out; unfold wrap64; omega
  clear hml
  go_upto_region 21 with (go_at_call 18; refine HLS.out.mono ?_; rintro e w30 ⟨ad5, c5, rfl, hc5, hrow5, hb5⟩; have HR5 := Aside0.mk hrow5; have HV5 := Aside0.mk (HV4.out.far hb5); have HW5 := Aside0.mk (HW4.out.far hb5); clear hrow5 hb5 hc5)
  clear HLS HV4 HW4
  go_upto_region 23 with (fail)
  clear e1
  rename_i K6 hK6 K5 hK5
  go_cut [14] (fun v14 wr => v14 = .int .i64 0 ∧ wr = w30)
  case first =>
    go_wp2_with (fail)
    go_meet
    exact ⟨rfl, rfl⟩
  case rest =>
  obtain ⟨rfl, hwr⟩ := hcut
  replace hwr := hwr.symm
  subst hwr
  refine hK5 _ _ ?_
  go_cut [14] (fun v14 wx => Aside0 (Go.RowKit.Below w30.heap.size w30 wx))
  case first => as_aux_lemma =>
    go_wp2_with (fail)
    go_loopg [14] M.length (fun kq v14 wr => ∃ (i : Nat), v14 = .int .i64 i ∧ Aside0 (Go.RowKit.Below w30.heap.size w30 wr) ∧ Aside0 (i + kq = M.length))
    case atStart => exact ⟨0, rfl, ⟨Below.refl _ _⟩, ⟨by omega⟩⟩
    case round =>
      obtain ⟨i, rfl, HB, HQ⟩ := hrel
      by_cases hi : i < M.length
      · have q1 : decide ((i : Int) < (M.length : Int)) = true := decide_eq_true (by omega)
        have q2 : decide (i < M.length) = true := decide_eq_true hi
        have p0 : ((0 : Int) ≤ (i : Int)) = True := eq_true (by omega)
        have p1 : ((i : Int) < (M.length : Int)) = True := eq_true (by omega)
        obtain ⟨j, hj⟩ : ∃ j, n + i = j := ⟨_, rfl⟩
        have hjl : j < L.length := by have := HML.out; omega
        have e1 : wrap64 ((n : Int) + (i : Int)) = (j : Int) := by have := HLN.out; unfold wrap64; omega
        have e2 : IntKind.i64.wrap ((n : Int) + (i : Int)) = (j : Int) := by rw [i64_w]; exact e1
        have p2 : ((0 : Int) ≤ (j : Int)) = True := eq_true (by omega)
        have p3 : ((j : Int) < (L.length : Int)) = True := eq_true (by omega)
        have ew : wrap64 ((i : Int) + 1) = (i : Int) + 1 := by have := HLN.out; have := HML.out; unfold wrap64; omega
        have hy1 : M[i]? = some (gt L j) := by
          unfold gt
          rw [← HM.out.1, List.getElem?_drop, hj, List.getElem?_eq_getElem hjl]
          rfl
        have hy2 : L[j]? = some (gt L j) := by unfold gt; rw [List.getElem?_eq_getElem hjl]; rfl
        have hgt := HGT.out _ (List.mem_of_getElem? hy1)
        obtain ⟨y, hy⟩ : ∃ y, gt L j = y := ⟨_, rfl⟩
        rw [hy] at hy1 hy2 hgt
        obtain ⟨y0, y1, y2, y3⟩ := y
        obtain ⟨g1, e, -, d0, d1, d2, d3⟩ := cellAt (HR5.out.far HB.out) i _ hy1
        cases e
        obtain ⟨g0, e, -, c0, c1, c2, c3⟩ := cellAt (HW5.out.row.far HB.out) j _ hy2
        cases e
        simp only at c0 c1 c2 c3 d0 d1 d2 d3
        have q5 : decide (y0 ≤ now) = false := decide_eq_false (Int.not_le.2 hgt)
        have HI := Aside0.mk hi
        clear hi hj hjl hy1 hy2 hy hgt
        go_upto_region 26 with (fail)
        go_region_held3 (fun w' => w'.cell? ⟨g1, i * 4, none⟩ = some (.int .i64 y0) ∧ w'.cell? ⟨g1, i * 4 + 1, none⟩ = some (.int .i64 y1) ∧ w'.cell? ⟨g1, i * 4 + 2, none⟩ = some (.string y2) ∧ w'.cell? ⟨g1, i * 4 + 3, none⟩ = some (.int .i64 y3) ∧ w'.cell? ⟨g0, j * 4, none⟩ = some (.int .i64 y0) ∧ w'.cell? ⟨g0, j * 4 + 1, none⟩ = some (.int .i64 y1) ∧ w'.cell? ⟨g0, j * 4 + 2, none⟩ = some (.string y2) ∧ w'.cell? ⟨g0, j * 4 + 3, none⟩ = some (.int .i64 y3)) (first | exact ⟨d0, d1, d2, d3, c0, c1, c2, c3⟩ | go_keep) (fail)
        go_wp2_with (fail)
        all_goals
          clear c0 c1 c2 c3 d0 d1 d2 d3 p0 p1 p2 p3 q1 q2 q5 e1 e2
          cases gk with
          | zero => exact absurd HI.out (by have := HQ.out; omega)
          | succ k1 =>
          go_roundg k1
          case measure => omega
          case rel =>
            refine ⟨i + 1, ?_, ?_, ⟨by have := HQ.out; omega⟩⟩
            · rw [ew]; rfl
            · exact ⟨by first | exact HB.out | exact HB.out.drew⟩
      · have q1 : decide ((i : Int) < (M.length : Int)) = false := decide_eq_false (by clear HGT; omega)
        have q2 : decide (i < M.length) = false := decide_eq_false hi
        go_wp2_with (fail)
        go_meet
        exact HB
  case rest =>
    refine hK6 _ _ ?_
    go_wp2_with (fail)
    go_ret
    exact ⟨rfl, HV5.out.b.trans (hcut.out.mono HV5.out.b.size)⟩

end Go.Proofs.Ytdlbnkiolpmnbaa.Ag
