/- agenda: the statement AgendaMoves, walked. It says its own conditions. -/
import Derived.Test.YtdlbnkiolpmnbaaProg
import Derived.Test.YtdlbnkiolpmnbaaMAgax0
import Derived.Test.YtdlbnkiolpmnbaaMAgax2
import Derived.WalkKit
import Derived.Deep.RegionLaw
import Derived.Deep.RegionWith
import Derived.Deep.RegionHeld3
import Derived.BigRegion
import Derived.BigQuiet
import Derived.StillTailTactics
import Derived.Test.YtdlbnkiolpmnbaaAgSt
import Derived.Test.YtdlbnkiolpmnbaaAgLay
import Derived.Test.YtdlbnkiolpmnbaaAgCmp
import Derived.Test.YtdlbnkiolpmnbaaAgSet
import Derived.Test.YtdlbnkiolpmnbaaAgPlain
import Derived.Test.YtdlbnkiolpmnbaaAgInv
import Derived.Test.YtdlbnkiolpmnbaaAgOp
import Derived.Test.YtdlbnkiolpmnbaaAgPut
import Derived.Test.YtdlbnkiolpmnbaaAgMov
import Derived.Test.YtdlbnkiolpmnbaaAgCan
import Derived.Test.YtdlbnkiolpmnbaaAgTak
import Derived.Test.YtdlbnkiolpmnbaaAgTke
import Derived.Test.YtdlbnkiolpmnbaaAgLaw
import Derived.Test.YtdlbnkiolpmnbaaAgIter
import Derived.Test.YtdlbnkiolpmnbaaAgSeq
import Derived.Test.YtdlbnkiolpmnbaaAgSort
import Derived.Test.YtdlbnkiolpmnbaaAgList
import Derived.Test.YtdlbnkiolpmnbaaAgShow
import Derived.Test.YtdlbnkiolpmnbaaAgLv
import Derived.Maps.OwnIn
import Derived.Maps.OwnSet
namespace Go.Proofs.Ytdlbnkiolpmnbaa.Ag
open Go.RowKit Go.Proofs.Ytdlbnkiolpmnbaa.MAga Go.Proofs.YtdlbnkiolpmnbaaW.PrintWords Go.Proofs.YtdlbnkiolpmnbaaW.PrintLast Go.Proofs.YtdlbnkiolpmnbaaW.PrintMore
attribute [local go_sem] max2_int min2_int max_two min_two max_three min_three max_four min_four
set_option linter.unusedVariables false
set_option linter.unusedSimpArgs false
-- import Derived.Maps.OwnIn
-- import Derived.Maps.OwnSet
/-- What lies in it behind n puts. -/
def MI (l : List Int) (L : List S34) (n : Nat) : Prop := L.length = n ∧ (∀ y ∈ L, ∃ j : Nat, j < n ∧ y.f3 = (j : Int) + 1 ∧ y.f0 = rd l j ∧ y.f2 = ⟨#[]⟩) ∧ ∀ j : Nat, j < n → ∃ y ∈ L, y.f3 = (j : Int) + 1
theorem MI.put {l : List Int} {L : List S34} {n : Nat} (h : MI l L n) (k : Int) : MI l (insR ⟨rd l n, k, ⟨#[]⟩, (n : Int) + 1⟩ L) (n + 1) := by
  obtain ⟨h1, h2, h3⟩ := h
  refine ⟨by rw [insR_len, h1], fun y hy => ?_, fun j hj => ?_⟩
  · rcases List.mem_cons.1 ((insR_perm _ L).mem_iff.1 hy) with rfl | hy
    · exact ⟨n, by omega, rfl, rfl, rfl⟩
    · obtain ⟨j, hj, e⟩ := h2 y hy
      exact ⟨j, by omega, e⟩
  · by_cases e : j = n
    · subst e
      exact ⟨_, (insR_perm _ L).mem_iff.2 List.mem_cons_self, rfl⟩
    · obtain ⟨y, hy, e2⟩ := h3 j (by omega)
      exact ⟨y, (insR_perm _ L).mem_iff.2 (List.mem_cons_of_mem _ hy), e2⟩
theorem putR_k {a k : Int} {L : List S34} {g : Int} (ha : 0 ≤ a) (hk : 0 ≤ k ∧ k ≤ 255) (hl : L.length < 1000) : putR a k ⟨#[]⟩ L g = (g + 1, 0, insR ⟨a, k, ⟨#[]⟩, g + 1⟩ L, g + 1) := by
  unfold putR
  rw [if_neg (by unfold badP; have : (ByteArray.mk #[]).size = 0 := rfl; omega), if_neg (by omega)]
theorem ne1 {j m : Nat} (h : ¬ j = m) : ((j : Int) + 1 != (m : Int) + 1) = true := bne_iff_ne.mpr (by omega)
theorem ne2 {j m : Nat} (h : ¬ j = m) : ((j : Int) + 1 == (m : Int) + 1) = false := beq_eq_false_iff_ne.mpr (by omega)
theorem w64_small (j : Nat) (h : j ≤ 1000000) : wrap64 (j : Int) = (j : Int) := by
  unfold wrap64
  omega
theorem rd_mem {l : List Int} {i : Nat} (hi : i < l.length) : rd l (i : Int) ∈ l := by
  unfold rd
  rw [List.getD_eq_getElem?_getD, Int.toNat_natCast, List.getElem?_eq_getElem hi]
  exact List.getElem_mem hi
set_option maxHeartbeats 8000000 in
set_option maxRecDepth 100000 in
theorem moves_calls (A : Option Addr) (cp : Nat) (l : List Int) (k tt : Int) (w : World) (hr : Kd.C (Kd.int .u16) w A l.length l) (hc : l.length ≤ cp) (hk : 0 ≤ k ∧ k ≤ 255) (ht : 0 ≤ tt ∧ tt ≤ 65535) (hl : ∀ x ∈ l, 0 ≤ x ∧ x ≤ 65535) :
    Calls Try.prog 3 #[.slice A l.length cp, .int .u8 k, .int .u16 tt] w fun e w' => e = .returned (.bool true) ∧ Below w.heap.size w w' := by
  have HS := Aside0.mk (fun W => shown_calls W)
  have HR := Aside0.mk hr
  have HL := Aside0.mk hl
  clear hr hl
  by_cases hbig : 200 < l.length
  · have q1 : decide (200 < (l.length : Int)) = true := decide_eq_true (by omega)
    have q2 : (200 < l.length) = True := eq_true hbig
    go_enter Try.func3, Try.ntmps3
    go_wp2_with (go_at_call 14; refine (HS.out _).mono ?_; rintro e w1 ⟨rfl, hb1⟩)
    go_ret
    exact ⟨rfl, hb1⟩
  by_cases h0 : l.length = 0
  · have q1 : decide (200 < (l.length : Int)) = false := decide_eq_false (by omega)
    have q2 : (200 < l.length) = False := eq_false hbig
    have q3 : (l.length = 0) = True := eq_true h0
    have q4 : ((l.length : Int) = 0) = True := eq_true (by omega)
    have q5 : ((l.length : Int) == 0) = true := beq_iff_eq.mpr (by omega)
    go_enter Try.func3, Try.ntmps3
    go_wp2_with (go_at_call 14; refine (HS.out _).mono ?_; rintro e w1 ⟨rfl, hb1⟩)
    go_ret
    exact ⟨rfl, hb1⟩
  have q1 : decide (200 < (l.length : Int)) = false := decide_eq_false (by omega)
  have q2 : (200 < l.length) = False := eq_false hbig
  have q3 : (l.length = 0) = False := eq_false h0
  have q4 : ((l.length : Int) = 0) = False := eq_false (by omega)
  have q5 : ((l.length : Int) == 0) = false := beq_eq_false_iff_ne.mpr (by omega)
  have hN : 0 < l.length ∧ l.length ≤ 200 := by omega
  have HN := Aside0.mk hN
  clear hbig h0 hN
  go_enter Try.func3, Try.ntmps3
  go_upto_region 3 with (go_at_call 14; refine (HS.out _).mono ?_; rintro e w1 ⟨rfl, hb1⟩)
  have HB1 := Aside0.mk hb1
  have HNW := Aside0.mk (new_calls w.heap.size w1 hb1.size)
  clear hb1 q1 q2 q3 q4 q5
  go_upto_region 4 with (go_at_call 15; refine HNW.out.mono ?_; rintro e w2 ⟨P, F, rfl, hA, hb, hP, hF⟩; have HA := Aside0.mk (LV.mk hA (HB1.out.trans hb) (fun k hk => Nat.le_trans HB1.out.size (hF k hk))); clear hA hb hP hF)
  rename_i K2 hK2 K1 hK1
  go_cut [8] (fun v8 wr => v8 = .int .i64 0 ∧ wr = w2)
  case first =>
    go_wp2_with (fail)
    go_meet
    exact ⟨rfl, rfl⟩
  case rest =>
  obtain ⟨rfl, rfl⟩ := hcut
  refine hK1 _ _ ?_
  go_cut [8] (fun v8 wr => ∃ F L, Aside0 (LV w wr P F l.length L l.length) ∧ Aside0 (MI l L l.length))
  case first => as_aux_lemma =>
    go_wp2_with (fail)
    go_loopg [8] l.length (fun kq v8 wr => ∃ (i : Nat) (F : Nat → Prop) (L : List S34), v8 = .int .i64 i ∧ Aside0 (LV w wr P F i L i) ∧ Aside0 (MI l L i) ∧ Aside0 (i + kq = l.length))
    case atStart => exact ⟨0, F, [], rfl, HA, ⟨rfl, fun y h => by simp at h, fun j h => absurd h (by omega)⟩, ⟨by omega⟩⟩
    case round =>
      obtain ⟨i, F1, L1, rfl, HV, HF, HQ⟩ := hrel
      clear HA
      by_cases hi : i < l.length
      · have q1 : decide ((i : Int) < (l.length : Int)) = true := decide_eq_true (by omega)
        have HI := Aside0.mk hi
        have q2 : decide (i < l.length) = true := decide_eq_true hi
        have p0 : (0 : Int) ≤ (i : Int) := Int.natCast_nonneg i
        have p1 : (i : Int) < (l.length : Int) := by omega
        obtain ⟨ad, e, hx0⟩ := Kd.at_int HR.out (i : Int) p0 p1
        cases e
        simp only [Int.toNat_natCast] at hx0
        replace hx0 := (HV.out.b.cell (World.block_lt_of_cell? w _ hx0)).trans hx0
        have hm := HL.out _ (rd_mem hi)
        have hp := put_calls w.heap.size P F1 i L1 i (rd l i) 1 ⟨#[]⟩ wr HV.out.v (by have := HN.out; omega)
        rw [putR_k hm.1 (by omega) (by rw [HF.out.1]; have := HN.out; omega)] at hp
        have HP := Aside0.mk hp
        have HM := Aside0.mk hm
        have ew : wrap64 ((i : Int) + 1) = (i : Int) + 1 := by have := HN.out; unfold wrap64; omega
        have ex : wrap64 (rd l i) = rd l i := by have := hm; unfold wrap64; omega
        replace p0 := eq_true p0
        replace p1 := eq_true p1
        clear hi hp hm
        go_wp2_with (go_at_call 16; refine HP.out.mono ?_; rintro e w2 ⟨rfl, F2, hA2, hT2⟩; have HA2 := Aside0.mk (HV.out.to hA2 hT2); clear hA2 hT2)
        cases gk with
        | zero => exact absurd HI.out (by have := HQ.out; omega)
        | succ k1 =>
        go_roundg k1
        case measure => omega
        case rel =>
          refine ⟨i + 1, F2, _, ?_, HA2, ⟨HF.out.put 1⟩, ⟨by have := HQ.out; omega⟩⟩
          rw [ew]
          rfl
      · have q1 : decide ((i : Int) < (l.length : Int)) = false := decide_eq_false (by omega)
        have q2 : decide (i < l.length) = false := decide_eq_false hi
        have him : i = l.length := by have := HQ.out; omega
        subst him
        go_wp2_with (fail)
        go_meet
        exact ⟨F1, L1, HV, HF⟩
  case rest =>
    clear HA
    obtain ⟨F1, L1, HV, HF⟩ := hcut
    refine hK2 _ _ ?_
    have q3 : (l.length = 0) = False := eq_false (by have := HN.out; omega)
    have q4 : ((l.length : Int) = 0) = False := eq_false (by have := HN.out; omega)
    have q5 : ((l.length : Int) == 0) = false := beq_eq_false_iff_ne.mpr (by have := HN.out; omega)
    have q6 : (l = []) = False := eq_false (fun e => by have := HN.out; rw [e] at this; exact absurd this.1 (by decide))
    obtain ⟨m, hm, hml⟩ : ∃ m : Nat, k % (l.length : Int) = (m : Int) ∧ m < l.length := by
      have := HN.out
      have h1 := Int.emod_nonneg k (b := (l.length : Int)) (by omega)
      have h2 := Int.emod_lt_of_pos k (b := (l.length : Int)) (by omega)
      exact ⟨(k % (l.length : Int)).toNat, by omega, by omega⟩
    have ew : wrap64 ((m : Int) + 1) = (m : Int) + 1 := by have := HN.out; unfold wrap64; omega
    have ew2 : wrap64 ((l.length : Int) + 1) = (l.length : Int) + 1 := by have := HN.out; unfold wrap64; omega
    have ett : wrap64 tt = tt := by unfold wrap64; omega
    obtain ⟨y, hy, hy3⟩ := HF.out.2.2 m hml
    have hk1 : tkR ((m : Int) + 1) L1 = some y := by rw [← hy3]; exact tkR_mem HV.out.v.nd hy
    have hk2 : tkR ((l.length : Int) + 1) L1 = none := tkR_none (fun z hz e => by obtain ⟨j, hj, e2, _⟩ := HF.out.2.1 z hz; omega)
    have e1 : moveR ((m : Int) + 1) (-1) L1 = (1, L1) := by unfold moveR; rw [hk1]; exact if_pos (by decide)
    have e2 : moveR ((l.length : Int) + 1) 5 L1 = (3, L1) := by unfold moveR; rw [hk2]
    have e3 : moveR ((m : Int) + 1) tt L1 = (0, insR ⟨tt, y.f1, y.f2, y.f3⟩ (offR ((m : Int) + 1) L1)) := by unfold moveR; rw [hk1]; exact if_neg (by omega)
    have hwf1 : (Lit.int .i64 ((m : Int) + 1)).wf = true := by
      have := HN.out
      simp [Lit.wf, IntKind.min, IntKind.max, IntKind.bits, IntKind.signed]
      omega
    have hwf2 : (Lit.int .i64 ((l.length : Int) + 1)).wf = true := by
      have := HN.out
      simp [Lit.wf, IntKind.min, IntKind.max, IntKind.bits, IntKind.signed]
      omega
    have hc1 := fun W F c (h : LV w W P F c L1 l.length) (hc : c < 100000) => move_calls w.heap.size P F c L1 l.length ((m : Int) + 1) (-1) W h.v hc hwf1
    have hc2 := fun W F c (h : LV w W P F c L1 l.length) (hc : c < 100000) => move_calls w.heap.size P F c L1 l.length ((l.length : Int) + 1) 5 W h.v hc hwf2
    have hc3 := fun W F c (h : LV w W P F c L1 l.length) (hc : c < 100000) => move_calls w.heap.size P F c L1 l.length ((m : Int) + 1) tt W h.v hc hwf1
    rw [e1] at hc1
    rw [e2] at hc2
    rw [e3] at hc3
    have HC1 := Aside0.mk hc1
    have HC2 := Aside0.mk hc2
    have HC3 := Aside0.mk hc3
    have HY := Aside0.mk hy
    have HY3 := Aside0.mk hy3
    have HML := Aside0.mk hml
    clear hc1 hc2 hc3 hk1 hk2 e1 e2 e3 hwf1 hwf2 hy hy3 hml
    have HH1 := Aside0.mk (HC1.out _ _ _ HV.out (by have := HN.out; omega))
    go_upto_region 11 with (first
      | (go_at_call 17; refine HH1.out.mono ?_; rintro e w3 ⟨rfl, F3, hA3, hT3⟩; have HA3 := Aside0.mk (HV.out.to hA3 hT3); clear hA3 hT3; have HH2 := Aside0.mk (HC2.out _ _ _ HA3.out (by have := HN.out; omega)); clear HH1)
      | (go_at_call 17; refine HH2.out.mono ?_; rintro e w4 ⟨rfl, F4, hA4, hT4⟩; have HA4 := Aside0.mk (HA3.out.to hA4 hT4); clear hA4 hT4; have HH3 := Aside0.mk (HC3.out _ _ _ HA4.out (by have := HN.out; omega)); clear HH2)
      | (go_at_call 17; refine HH3.out.mono ?_; rintro e w5 ⟨rfl, F5, hA5, hT5⟩; have HA5 := Aside0.mk (HA4.out.to hA5 hT5); clear hA5 hT5))
    clear q3 q4 q5 q6 HH3
    obtain ⟨L2, hL2⟩ : ∃ L2, insR ⟨tt, y.f1, y.f2, y.f3⟩ (offR ((m : Int) + 1) L1) = L2 := ⟨_, rfl⟩
    have hA5 := HA5.out
    have hlen : L2.length = l.length := by
      rw [← hL2, insR_len, ← HY3.out, offR_len HV.out.v.nd HY.out]
      exact HF.out.1
    have hz : ∀ z ∈ L2, ∃ j : Nat, j < l.length ∧ z.f3 = (j : Int) + 1 ∧ z.f0 = if j = m then tt else rd l j := by
      intro z hz
      rw [← hL2] at hz
      rcases List.mem_cons.1 ((insR_perm _ _).mem_iff.1 hz) with rfl | hz
      · exact ⟨m, HML.out, HY3.out, by rw [if_pos rfl]⟩
      · obtain ⟨hz1, hz2⟩ := offR_ne hz
        obtain ⟨j, hj, h3, h0, _⟩ := HF.out.2.1 z hz1
        exact ⟨j, hj, h3, by rw [h0, if_neg (fun e => hz2 (by rw [h3, e]))]⟩
    try simp only at hA5
    rw [hL2] at hA5
    have HA5 := Aside0.mk hA5
    have HLEN := Aside0.mk hlen
    have HZ := Aside0.mk hz
    have HLS := Aside0.mk (list_calls w.heap.size P F5 _ L2 _ w5 HA5.out.v)
    clear hA5 hlen hz hL2 HC1 HC2 HC3 HV HF
    go_upto_region 12 with (go_at_call 18; refine HLS.out.mono ?_; rintro e w7 ⟨ad, c7, rfl, hc7, hrow7, hb7⟩; have HROW := Aside0.mk hrow7; have HB7 := Aside0.mk (HA5.out.b.trans (hb7.mono HA5.out.b.size)); clear hrow7 hb7)
    rename_i K4 hK4 K3 hK3
    go_cut [11] (fun v11 wr => v11 = .int .i64 0 ∧ wr = w7)
    case first =>
      go_wp2_with (fail)
      go_meet
      exact ⟨rfl, rfl⟩
    case rest =>
    obtain ⟨rfl, rfl⟩ := hcut
    refine hK3 _ _ ?_
    obtain ⟨g, rfl⟩ : ∃ g, ad = some ⟨g, 0, none⟩ := by
      have h1 := HLEN.out
      have h2 := HN.out
      obtain ⟨g, e, _⟩ := HROW.out 0 L2[0] (List.getElem?_eq_getElem (by omega))
      exact ⟨g, e⟩
    rw [HLEN.out]
    go_cut [11] (fun v11 wr => wr = wc)
    case first => as_aux_lemma =>
      go_wp2_with (fail)
      go_loopg [11] l.length (fun kq v11 wr => ∃ (i : Nat), v11 = .int .i64 i ∧ wr = wc ∧ Aside0 (i + kq = l.length))
      case atStart => exact ⟨0, rfl, rfl, ⟨by omega⟩⟩
      case round =>
        obtain ⟨i, rfl, rfl, HQ⟩ := hrel
        by_cases hi : i < l.length
        · have q1 : decide ((i : Int) < (l.length : Int)) = true := decide_eq_true (by omega)
          have q2 : decide (i < l.length) = true := decide_eq_true hi
          have q3 : ((0 : Int) ≤ (i : Int)) = True := eq_true (by omega)
          have q4 : ((i : Int) < (l.length : Int)) = True := eq_true (by omega)
          have hi2 : i < L2.length := by rw [HLEN.out]; exact hi
          obtain ⟨g', e, _, _, x0, x1, x2, x3⟩ := HROW.out i L2[i] (List.getElem?_eq_getElem hi2)
          cases e
          obtain ⟨j, hj, h3, h0⟩ := HZ.out L2[i] (List.getElem_mem hi2)
          generalize L2[i] = z at x0 x1 x2 x3 h3 h0
          obtain ⟨z0, z1, z2, z3⟩ := z
          simp only at x0 x1 x2 x3 h3 h0
          have ew3 : wrap64 ((i : Int) + 1) = (i : Int) + 1 := by have := HN.out; unfold wrap64; omega
          have HI := Aside0.mk hi
          clear hi hi2 x1 x2
          by_cases hjm : j = m
          · subst hjm
            rw [if_pos rfl] at h0
            subst h0 h3
            go_wp2_with (fail)
            cases gk with
            | zero => exact absurd HI.out (by have := HQ.out; omega)
            | succ k1 =>
            go_roundg k1
            case measure => omega
            case rel => exact ⟨i + 1, by rw [ew3]; rfl, rfl, ⟨by have := HQ.out; omega⟩⟩
          · rw [if_neg hjm] at h0
            obtain ⟨r, hr⟩ : ∃ r, rd l j = r := ⟨_, rfl⟩
            have p0 : (0 : Int) ≤ (j : Int) := Int.natCast_nonneg j
            have p1 : (j : Int) < (l.length : Int) := by omega
            have ej2 : wrap64 (j : Int) = (j : Int) := w64_small j (by have := HN.out; omega)
            have ej : wrap64 ((j : Int) + 1 - 1) = (j : Int) := by rw [Int.add_sub_cancel]; exact ej2
            obtain ⟨ad, e, hx0⟩ := Kd.at_int HR.out (j : Int) p0 p1
            cases e
            simp only [Int.toNat_natCast] at hx0
            replace hx0 := (HB7.out.cell (World.block_lt_of_cell? w _ hx0)).trans hx0
            have hrb := HL.out _ (rd_mem hj)
            rw [hr] at hx0 h0 hrb
            have er : wrap64 r = r := by unfold wrap64; omega
            have n1 : (j = m) = False := eq_false hjm
            have n2 : ((j : Int) + 1 != (m : Int) + 1) = true := ne1 hjm
            have n3 : ((j : Int) + 1 == (m : Int) + 1) = false := ne2 hjm
            replace p0 := eq_true p0
            replace p1 := eq_true p1
            subst h0 h3
            clear hr hrb hjm hj
            go_wp2_with (fail)
            clear ej ej2 er n1 n2 n3 p0 p1 hx0 q1 q2 q3 q4
            cases gk with
            | zero => exact absurd HI.out (by have := HQ.out; omega)
            | succ k1 =>
            go_roundg k1
            case measure => omega
            case rel => exact ⟨i + 1, by rw [ew3]; rfl, rfl, ⟨by have := HQ.out; omega⟩⟩
        · have q1 : decide ((i : Int) < (l.length : Int)) = false := decide_eq_false (by omega)
          have q2 : decide (i < l.length) = false := decide_eq_false hi
          go_wp2_with (fail)
          go_meet
          rfl
    case rest =>
      obtain rfl := hcut
      refine hK4 _ _ ?_
      go_wp2_with (fail)
      go_ret
      exact ⟨rfl, HB7.out⟩

end Go.Proofs.Ytdlbnkiolpmnbaa.Ag
