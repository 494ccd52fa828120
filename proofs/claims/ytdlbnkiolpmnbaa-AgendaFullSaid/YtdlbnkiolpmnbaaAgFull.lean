/- agenda: the statement AgendaFull, walked. It says its own conditions. -/
import Derived.Test.YtdlbnkiolpmnbaaProg
import Derived.Test.YtdlbnkiolpmnbaaMAgax0
import Derived.Test.YtdlbnkiolpmnbaaMAgax2
import Derived.WalkKit
import Derived.Deep.RegionLaw
import Derived.Deep.RegionWith
import Derived.Deep.RegionHeld3
import Derived.BigRegion
import Derived.BigQuiet
import Derived.StillTailTactics
import Derived.Test.YtdlbnkiolpmnbaaAgSt
import Derived.Test.YtdlbnkiolpmnbaaAgLay
import Derived.Test.YtdlbnkiolpmnbaaAgCmp
import Derived.Test.YtdlbnkiolpmnbaaAgSet
import Derived.Test.YtdlbnkiolpmnbaaAgPlain
import Derived.Test.YtdlbnkiolpmnbaaAgInv
import Derived.Test.YtdlbnkiolpmnbaaAgOp
import Derived.Test.YtdlbnkiolpmnbaaAgPut
import Derived.Test.YtdlbnkiolpmnbaaAgMov
import Derived.Test.YtdlbnkiolpmnbaaAgCan
import Derived.Test.YtdlbnkiolpmnbaaAgTak
import Derived.Test.YtdlbnkiolpmnbaaAgTke
import Derived.Test.YtdlbnkiolpmnbaaAgLaw
import Derived.Test.YtdlbnkiolpmnbaaAgIter
import Derived.Test.YtdlbnkiolpmnbaaAgSeq
import Derived.Test.YtdlbnkiolpmnbaaAgSort
import Derived.Test.YtdlbnkiolpmnbaaAgList
import Derived.Test.YtdlbnkiolpmnbaaAgShow
import Derived.Test.YtdlbnkiolpmnbaaAgLv
import Derived.Maps.OwnIn
import Derived.Maps.OwnSet
namespace Go.Proofs.Ytdlbnkiolpmnbaa.Ag
open Go.RowKit Go.Proofs.Ytdlbnkiolpmnbaa.MAga Go.Proofs.YtdlbnkiolpmnbaaW.PrintWords Go.Proofs.YtdlbnkiolpmnbaaW.PrintLast Go.Proofs.YtdlbnkiolpmnbaaW.PrintMore
attribute [local go_sem] max2_int min2_int max_two min_two max_three min_three max_four min_four
set_option linter.unusedVariables false
set_option linter.unusedSimpArgs false
-- import Derived.Maps.OwnIn
-- import Derived.Maps.OwnSet
/-- What lies in it while it is filled. -/
def Fil (b : Int) (L : List S34) (n : Nat) : Prop := L.length = n ∧ (∀ y ∈ L, y.f0 ≤ b) ∧ (0 < n → ∃ y ∈ L, y.f3 = 1 ∧ y.f1 = 1 ∧ y.f2 = ⟨#[]⟩)
theorem Fil.put {b : Int} {L : List S34} {n : Nat} (h : Fil b L n) {a : Int} (ha : a ≤ b) {t : Int} (ht : n = 0 → t = 1) : Fil b (insR ⟨a, 1, ⟨#[]⟩, t⟩ L) (n + 1) := by
  obtain ⟨h1, h2, h3⟩ := h
  refine ⟨by rw [insR_len, h1], fun y hy => ?_, fun _ => ?_⟩
  · rcases List.mem_cons.1 ((insR_perm _ L).mem_iff.1 hy) with rfl | hy
    · exact ha
    · exact h2 y hy
  · by_cases hn : n = 0
    · exact ⟨_, (insR_perm _ L).mem_iff.2 List.mem_cons_self, ht hn, rfl, rfl⟩
    · obtain ⟨y, hy, h4⟩ := h3 (by omega)
      exact ⟨y, (insR_perm _ L).mem_iff.2 (List.mem_cons_of_mem _ hy), h4⟩
set_option maxHeartbeats 8000000 in
set_option maxRecDepth 100000 in
theorem full_calls (k at_ : Int) (w : World) (hk : 0 ≤ k ∧ k ≤ 255) (ha : 0 ≤ at_ ∧ at_ ≤ 65535) :
    Calls Try.prog 6 #[.int .u8 k, .int .u16 at_] w fun e w' => e = .returned (.bool true) ∧ Below w.heap.size w w' := by
  have HN := Aside0.mk (new_calls w.heap.size w (Nat.le_refl _))
  obtain ⟨m, hm⟩ : ∃ m : Nat, (1000 - k % 3 : Int) = (m : Int) := ⟨(1000 - k % 3).toNat, by omega⟩
  have hm2 : 998 ≤ m ∧ m ≤ 1000 := by omega
  go_enter Try.func6, Try.ntmps6
  go_upto_region 2 with (go_at_call 15; refine HN.out.mono ?_; rintro e w1 ⟨P, F, rfl, hA, hb, hP, hF⟩; have HA := Aside0.mk (LV.mk hA hb hF); clear hA hb hP hF)
  go_upto_region 3 with (fail)
  have HM := Aside0.mk hm2
  clear hm hm2
  rename_i K2 hK2 K1 hK1
  go_cut [7] (fun v7 wr => v7 = .int .i64 0 ∧ wr = w1)
  case first =>
    go_wp2_with (fail)
    go_meet
    exact ⟨rfl, rfl⟩
  case rest =>
  obtain ⟨rfl, rfl⟩ := hcut
  refine hK1 _ _ ?_
  go_cut [7] (fun v7 wr => ∃ F L, Aside0 (LV w wr P F m L m) ∧ Aside0 (Fil (1000 + at_) L m))
  case first => as_aux_lemma =>
    go_wp2_with (fail)
    go_loopg [7] m (fun kq v7 wr => ∃ (i : Nat) (F : Nat → Prop) (L : List S34), v7 = .int .i64 i ∧ Aside0 (LV w wr P F i L i) ∧ Aside0 (Fil (1000 + at_) L i) ∧ Aside0 (i + kq = m))
    case atStart => exact ⟨0, F, [], rfl, HA, ⟨rfl, fun y h => by simp at h, fun h => absurd h (by omega)⟩, ⟨by omega⟩⟩
    case round =>
      obtain ⟨i, F1, L1, rfl, HV, HF, HQ⟩ := hrel
      clear HA
      by_cases hi : i < m
      · have q1 : decide ((i : Int) < (m : Int)) = true := decide_eq_true (by omega)
        have HI := Aside0.mk hi
        have q2 : decide (i < m) = true := decide_eq_true hi
        have hp := put_calls w.heap.size P F1 i L1 i ((i * 7 % 1000 : Nat) : Int) 1 ⟨#[]⟩ wr HV.out.v (by have := HM.out; omega)
        rw [putR_ok (by omega) (by rw [HF.out.1]; have := HM.out; omega)] at hp
        have HP := Aside0.mk hp
        have ea : (wrap64 ((i : Int) * 7)).tmod 1000 = ((i * 7 % 1000 : Nat) : Int) := by
          have := HM.out
          have e1 : wrap64 ((i : Int) * 7) = ((i * 7 : Nat) : Int) := by unfold wrap64; omega
          rw [e1, Int.tmod_eq_emod_of_nonneg (by omega)]
          omega
        have ew : wrap64 ((i : Int) + 1) = (i : Int) + 1 := by have := HM.out; unfold wrap64; omega
        clear hi hp
        go_wp2_with (go_at_call 16; refine HP.out.mono ?_; rintro e w2 ⟨rfl, F2, hA2, hT2⟩; have HA2 := Aside0.mk (HV.out.to hA2 hT2); clear hA2 hT2)
        cases gk with
        | zero => exact absurd HI.out (by have := HQ.out; omega)
        | succ k1 =>
        go_roundg k1
        case measure => omega
        case rel =>
          refine ⟨i + 1, F2, _, ?_, HA2, ⟨HF.out.put (by omega) (fun e => by omega)⟩, ⟨by have := HQ.out; omega⟩⟩
          rw [ew]
          rfl
      · have q1 : decide ((i : Int) < (m : Int)) = false := decide_eq_false (by omega)
        have q2 : decide (i < m) = false := decide_eq_false hi
        have him : i = m := by have := HQ.out; omega
        subst him
        go_wp2_with (fail)
        go_meet
        exact ⟨F1, L1, HV, HF⟩
  case rest =>
    clear HA
    obtain ⟨F1, L1, HV, HF⟩ := hcut
    refine hK2 _ _ ?_
    go_upto_block 2 with (fail)
    rename_i K3 hK3
    go_cut [10] (fun v10 wr => ∃ F L, Aside0 (LV w wr P F 1000 L 1000) ∧ Aside0 (Fil (1000 + at_) L 1000))
    case first => as_aux_lemma =>
      go_wp2_with (fail)
      go_loopg [10] (1000 - m) (fun kq v10 wr => ∃ (i : Nat) (F : Nat → Prop) (L : List S34), v10 = .int .i64 i ∧ Aside0 (LV w wr P F i L i) ∧ Aside0 (Fil (1000 + at_) L i) ∧ Aside0 (i + kq = 1000))
      case atStart => exact ⟨m, F1, L1, rfl, HV, HF, ⟨by have := HM.out; omega⟩⟩
      case round =>
        clear HV HF
        obtain ⟨i, F1, L1, rfl, HV, HF, HQ⟩ := hrel
        by_cases hi : i < 1000
        · have q1 : decide ((i : Int) < (1000 : Int)) = true := decide_eq_true (by omega)
          have HI := Aside0.mk hi
          have q2 : decide (i < 1000) = true := decide_eq_true hi
          have hp := put_calls w.heap.size P F1 i L1 i at_ 1 ⟨#[]⟩ wr HV.out.v (by have := HM.out; omega)
          rw [putR_ok (by omega) (by rw [HF.out.1]; have := HM.out; omega)] at hp
          have HP := Aside0.mk hp
          have ew : wrap64 ((i : Int) + 1) = (i : Int) + 1 := by have := HM.out; unfold wrap64; omega
          clear hi hp
          go_wp2_with (go_at_call 16; refine HP.out.mono ?_; rintro e w2 ⟨rfl, F2, hA2, hT2⟩; have HA2 := Aside0.mk (HV.out.to hA2 hT2); clear hA2 hT2)
          cases gk with
          | zero => exact absurd HI.out (by have := HQ.out; omega)
          | succ k1 =>
          go_roundg k1
          case measure => omega
          case rel =>
            refine ⟨i + 1, F2, _, ?_, HA2, ⟨HF.out.put (by omega) (fun e => by omega)⟩, ⟨by have := HQ.out; omega⟩⟩
            rw [ew]
            rfl
        · have q1 : decide ((i : Int) < (1000 : Int)) = false := decide_eq_false (by omega)
          have q2 : decide (i < 1000) = false := decide_eq_false hi
          have him : i = 1000 := by have := HQ.out; omega
          subst him
          go_wp2_with (fail)
          go_meet
          exact ⟨F1, L1, HV, HF⟩
    case rest =>
      clear HV HF
      obtain ⟨F1, L1, HV, HF⟩ := hcut
      refine hK3 _ _ ?_
      have hp := put_calls w.heap.size P F1 1000 L1 1000 0 1 ⟨#[]⟩ _ HV.out.v (by omega)
      have e1 : putR 0 1 ⟨#[]⟩ L1 1000 = (0, 2, L1, 1000) := by
        unfold putR
        rw [if_neg (by unfold badP; have : (ByteArray.mk #[]).size = 0 := rfl; omega), if_pos (by rw [HF.out.1]; omega)]
      rw [e1] at hp
      have HP := Aside0.mk hp
      clear hp e1
      go_upto_region 16 with (go_at_call 16; refine HP.out.mono ?_; rintro e w2 ⟨rfl, F2, hA2, hT2⟩; have HA2 := Aside0.mk (HV.out.to hA2 hT2); clear hA2 hT2)
      have hd := double_calls w.heap.size P F2 1001 L1 1000 1 5 w2 HA2.out.v (by omega) (by decide)
      have e2 : doubleR 1 5 L1 1000 = (0, 2, L1, 1000) := by
        obtain ⟨y, hy, h1, h2, h3⟩ := HF.out.2.2 (by omega)
        unfold doubleR
        have e3 : tkR 1 L1 = some y := by rw [← h1]; exact tkR_mem HV.out.v.nd hy
        rw [e3]
        show putR 5 y.f1 y.f2 L1 1000 = _
        rw [h2, h3]
        unfold putR
        rw [if_neg (by unfold badP; have : (ByteArray.mk #[]).size = 0 := rfl; omega), if_pos (by rw [HF.out.1]; omega)]
      rw [e2] at hd
      have HD := Aside0.mk hd
      clear hd e2
      go_upto_region 17 with (go_at_call 25; refine HD.out.mono ?_; rintro e w3 ⟨rfl, F3, hA3, hT3⟩; have HA3 := Aside0.mk (HA2.out.to hA3 hT3); clear hA3 hT3)
      obtain ⟨y, r, rfl⟩ : ∃ y r, L1 = y :: r := by
        cases L1 with
        | nil => exact absurd HF.out.1 (by simp)
        | cons y r => exact ⟨y, r, rfl⟩
      have hy := HF.out.2.1 y List.mem_cons_self
      have hr : r.length = 999 := by have := HF.out.1; simp at this; omega
      obtain ⟨y0, y1, y2, y3⟩ := y
      simp only at hy
      have ht := take_calls w.heap.size P F3 1002 (⟨y0, y1, y2, y3⟩ :: r) 1000 1099511627776 w3 HA3.out.v (by omega)
      have e3 : takeR 1099511627776 (⟨y0, y1, y2, y3⟩ :: r) = (⟨y0, y1, y2, y3⟩, true, r) := by
        have e4 := offR_head HV.out.v.nd
        have e5 : takeR 1099511627776 (⟨y0, y1, y2, y3⟩ :: r) = (⟨y0, y1, y2, y3⟩, true, offR y3 (⟨y0, y1, y2, y3⟩ :: r)) := if_neg (show ¬ (1099511627776 : Int) < y0 by omega)
        rw [e5, e4]
      rw [e3] at ht
      have ht' : Calls Try.prog 26 #[.pointer (some ⟨P, 0, none⟩), .int .i64 1099511627776] w3 fun e w' => e = .returned (.tuple #[.agg #[.int .i64 y0, .int .i64 y1, .string y2, .int .i64 y3], .bool true]) ∧ ∃ F', AgV w.heap.size w' P F' 1003 r 1000 ∧ To w.heap.size w3 w' F3 F' := ht
      have HT := Aside0.mk ht'
      have HY := Aside0.mk hy
      have HR := Aside0.mk hr
      clear ht ht' e3 hy hr HV HF
      go_upto_region 18 with (go_at_call 26; refine HT.out.mono ?_; rintro e w4 ⟨rfl, F4, hA4, hT4⟩; have HA4 := Aside0.mk (HA3.out.to hA4 hT4); clear hA4 hT4)
      have hb4 := below_alloc (Below.refl w4.heap.size w4) (Obj.cells #[.int .i64 y0, .int .i64 y1, .string y2, .int .i64 y3] 34)
      have hbx : (w4.alloc (Obj.cells #[.int .i64 y0, .int .i64 y1, .string y2, .int .i64 y3] 34)).heap[w4.heap.size]? = some (.cells #[.int .i64 y0, .int .i64 y1, .string y2, .int .i64 y3] 34 (0, 0)) := blk_new _ _
      have hA5 := HA4.out.far hb4
      have hF4 := HA4.out.v.lt
      generalize w4.alloc (Obj.cells #[.int .i64 y0, .int .i64 y1, .string y2, .int .i64 y3] 34) = w5 at hbx hA5 ⊢
      have hp := put_calls w.heap.size P F4 1003 r 1000 0 1 ⟨#[]⟩ w5 hA5.v (by omega)
      rw [putR_ok (by omega) (by rw [HR.out]; omega)] at hp
      have HP5 := Aside0.mk hp
      have HBX := Aside0.mk hbx
      have HA5 := Aside0.mk hA5
      have HF4 := Aside0.mk hF4
      have HS := Aside0.mk (fun W => shown_calls W)
      clear hp hbx hA5 hF4 hb4
      go_upto_region 19 with (go_at_call 16; refine HP5.out.mono ?_; rintro e w6 ⟨rfl, F6, hA6, hT6⟩; have hbx6 := blk_kept HBX.out hT6.kept (fun hk => by have := HF4.out _ hk; omega); have k0 := blk_cell hbx6 0; have HA6 := Aside0.mk (HA5.out.to hA6 hT6); clear hA6 hT6 hbx6)
      have HLS := Aside0.mk (list_calls w.heap.size P F6 1004 _ _ w6 HA6.out.v)
      have hlen : (insR ⟨0, 1, ⟨#[]⟩, 1000 + 1⟩ r).length = 1000 := by rw [insR_len, HR.out]
      have HLEN := Aside0.mk hlen
      have q3 : decide (y0 ≤ 1000 + at_) = true := decide_eq_true HY.out
      have q4 : wrap64 (1000 + at_) = 1000 + at_ := by unfold wrap64; omega
      clear hlen
      go_wp2_with (first
        | (go_at_call 18; refine HLS.out.mono ?_; rintro e w7 ⟨ad, c7, rfl, hc7, hrow7, hb7⟩; have hl7 := HLEN.out; have HB7 := Aside0.mk (HA6.out.b.trans (hb7.mono HA6.out.b.size)); clear hrow7 hb7)
        | (go_at_call 14; refine (HS.out _).mono ?_; rintro e w8 ⟨rfl, hb8⟩; have HB8 := Aside0.mk (HB7.out.trans (hb8.mono HB7.out.size)); clear hb8))
      all_goals first
        | (go_ret; exact ⟨rfl, HB8.out⟩)
        | (exact absurd (show ((insR ⟨0, 1, ⟨#[]⟩, 1001⟩ r).length : Int) = 1000 from congrArg Nat.cast HLEN.out) (by assumption))

end Go.Proofs.Ytdlbnkiolpmnbaa.Ag
