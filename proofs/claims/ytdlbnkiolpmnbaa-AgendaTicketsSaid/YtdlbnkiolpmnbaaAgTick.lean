/- agenda: the statement AgendaTickets, walked. It says its own conditions. -/
import Derived.Test.YtdlbnkiolpmnbaaProg
import Derived.Test.YtdlbnkiolpmnbaaMAgax0
import Derived.Test.YtdlbnkiolpmnbaaMAgax2
import Derived.WalkKit
import Derived.Deep.RegionLaw
import Derived.Deep.RegionWith
import Derived.Deep.RegionHeld3
import Derived.BigRegion
import Derived.BigQuiet
import Derived.StillTailTactics
import Derived.Test.YtdlbnkiolpmnbaaAgSt
import Derived.Test.YtdlbnkiolpmnbaaAgLay
import Derived.Test.YtdlbnkiolpmnbaaAgCmp
import Derived.Test.YtdlbnkiolpmnbaaAgSet
import Derived.Test.YtdlbnkiolpmnbaaAgPlain
import Derived.Test.YtdlbnkiolpmnbaaAgInv
import Derived.Test.YtdlbnkiolpmnbaaAgOp
import Derived.Test.YtdlbnkiolpmnbaaAgPut
import Derived.Test.YtdlbnkiolpmnbaaAgMov
import Derived.Test.YtdlbnkiolpmnbaaAgCan
import Derived.Test.YtdlbnkiolpmnbaaAgTak
import Derived.Test.YtdlbnkiolpmnbaaAgTke
import Derived.Test.YtdlbnkiolpmnbaaAgLaw
import Derived.Test.YtdlbnkiolpmnbaaAgIter
import Derived.Test.YtdlbnkiolpmnbaaAgSeq
import Derived.Test.YtdlbnkiolpmnbaaAgSort
import Derived.Test.YtdlbnkiolpmnbaaAgList
import Derived.Test.YtdlbnkiolpmnbaaAgShow
import Derived.Test.YtdlbnkiolpmnbaaAgLv
import Derived.Test.YtdlbnkiolpmnbaaAgSame
import Derived.Maps.OwnIn
import Derived.Maps.OwnSet
namespace Go.Proofs.Ytdlbnkiolpmnbaa.Ag
open Go.RowKit Go.Proofs.Ytdlbnkiolpmnbaa.MAga Go.Proofs.YtdlbnkiolpmnbaaW.PrintWords Go.Proofs.YtdlbnkiolpmnbaaW.PrintLast Go.Proofs.YtdlbnkiolpmnbaaW.PrintMore
attribute [local go_sem] max2_int min2_int max_two min_two max_three min_three max_four min_four
set_option linter.unusedVariables false
set_option linter.unusedSimpArgs false
-- import Derived.Maps.OwnIn
-- import Derived.Maps.OwnSet
/-- What lies in it behind n puts. -/
def TK (l : List Int) (L : List S34) (n : Nat) : Prop := L.length = n ∧ (∀ y ∈ L, ∃ j : Nat, j < n ∧ y.f3 = (j : Int) + 1 ∧ y.f0 = rd l j ∧ (0 ≤ y.f1 ∧ y.f1 ≤ 255) ∧ y.f2 = ⟨#[]⟩) ∧ ∀ j : Nat, j < n → ∃ y ∈ L, y.f3 = (j : Int) + 1
theorem TK.put {l : List Int} {L : List S34} {n : Nat} (h : TK l L n) {k : Int} (hk : 0 ≤ k ∧ k ≤ 255) : TK l (insR ⟨rd l n, k, ⟨#[]⟩, (n : Int) + 1⟩ L) (n + 1) := by
  obtain ⟨h1, h2, h3⟩ := h
  refine ⟨by rw [insR_len, h1], fun y hy => ?_, fun j hj => ?_⟩
  · rcases List.mem_cons.1 ((insR_perm _ L).mem_iff.1 hy) with rfl | hy
    · exact ⟨n, by omega, rfl, rfl, hk, rfl⟩
    · obtain ⟨j, hj, e⟩ := h2 y hy
      exact ⟨j, by omega, e⟩
  · by_cases e : j = n
    · subst e
      exact ⟨_, (insR_perm _ L).mem_iff.2 List.mem_cons_self, rfl⟩
    · obtain ⟨y, hy, e2⟩ := h3 j (by omega)
      exact ⟨y, (insR_perm _ L).mem_iff.2 (List.mem_cons_of_mem _ hy), e2⟩
theorem wf_small (n : Nat) (h : n ≤ 1000000) : (Lit.int .i64 ((n : Int) + 1)).wf = true := by
  simp [Lit.wf, IntKind.min, IntKind.max, IntKind.bits, IntKind.signed]
  omega
theorem w64_16 (r : Int) (h : 0 ≤ r ∧ r ≤ 65535) : wrap64 r = r := by
  unfold wrap64
  omega
theorem tmod_nat (i : Nat) : ((i : Int).tmod 256) = ((i % 256 : Nat) : Int) := by
  rw [Int.tmod_eq_emod_of_nonneg (by omega)]
  omega
theorem move_to {L : List S34} (hs : Srt L) (hnd : L.Pairwise (fun a b => a.f3 ≠ b.f3)) {y : S34} (hy : y ∈ L) {a : Int} (ha : 0 ≤ a) : moveR y.f3 a L = (0, insR ⟨a, y.f1, y.f2, y.f3⟩ (offR y.f3 L)) := by
  unfold moveR
  rw [tkR_mem hnd hy]
  exact if_neg (by omega)
theorem off_nd {L : List S34} (hnd : L.Pairwise (fun a b => a.f3 ≠ b.f3)) (t : Int) : (offR t L).Pairwise (fun a b => a.f3 ≠ b.f3) := List.Pairwise.filter _ hnd
theorem ins_nd {L : List S34} (hnd : L.Pairwise (fun a b => a.f3 ≠ b.f3)) {x : S34} (hx : ∀ z ∈ L, z.f3 ≠ x.f3) : (insR x L).Pairwise (fun a b => a.f3 ≠ b.f3) :=
  ((insR_perm x L).pairwise_iff (fun {_ _} h => h.symm)).2 (List.pairwise_cons.2 ⟨fun z hz e => hx z hz e.symm, hnd⟩)
theorem move_back {L : List S34} (hs : Srt L) (hnd : L.Pairwise (fun a b => a.f3 ≠ b.f3)) {y : S34} (hy : y ∈ L) {a : Int} (ha : 0 ≤ y.f0) : moveR y.f3 y.f0 (insR ⟨a, y.f1, y.f2, y.f3⟩ (offR y.f3 L)) = (0, L) := by
  have hne : ∀ z ∈ offR y.f3 L, z.f3 ≠ (⟨a, y.f1, y.f2, y.f3⟩ : S34).f3 := fun z hz => (offR_ne hz).2
  have h1 := move_to (L := insR ⟨a, y.f1, y.f2, y.f3⟩ (offR y.f3 L)) (insR_srt _ _ (offR_srt hs _) hne) (ins_nd (off_nd hnd _) hne) (y := ⟨a, y.f1, y.f2, y.f3⟩) ((insR_perm _ _).mem_iff.2 List.mem_cons_self) ha
  have h2 := offR_ins (x := ⟨a, y.f1, y.f2, y.f3⟩) (M := offR y.f3 L) hne
  simp only at h1 h2
  rw [h1, h2]
  have h3 := ins_off hs hnd hy
  rw [h3]
set_option maxHeartbeats 8000000 in
set_option maxRecDepth 100000 in
theorem tick_calls (A : Option Addr) (cp : Nat) (l : List Int) (k aw : Int) (w : World) (hr : Kd.C (Kd.int .u16) w A l.length l) (hc : l.length ≤ cp) (hk : 0 ≤ k ∧ k ≤ 255) (ht : 0 ≤ aw ∧ aw ≤ 65535) (hl : ∀ x ∈ l, 0 ≤ x ∧ x ≤ 65535) :
    Calls Try.prog 7 #[.slice A l.length cp, .int .u8 k, .int .u16 aw] w fun e w' => e = .returned (.bool true) ∧ Below w.heap.size w w' := by
  have HS := Aside0.mk (fun W => shown_calls W)
  have HR := Aside0.mk hr
  have HL := Aside0.mk hl
  clear hr hl
  by_cases hbig : 300 < l.length
  · have q1 : decide (300 < (l.length : Int)) = true := decide_eq_true (by omega)
    have q2 : (300 < l.length) = True := eq_true hbig
    go_enter Try.func7, Try.ntmps7
    go_wp2_with (go_at_call 14; refine (HS.out _).mono ?_; rintro e w1 ⟨rfl, hb1⟩)
    go_ret
    exact ⟨rfl, hb1⟩
  have q1 : decide (300 < (l.length : Int)) = false := decide_eq_false (by omega)
  have q2 : (300 < l.length) = False := eq_false hbig
  have hN : l.length ≤ 300 := by omega
  have HN := Aside0.mk hN
  clear hbig hN
  go_enter Try.func7, Try.ntmps7
  go_upto_region 3 with (go_at_call 14; refine (HS.out _).mono ?_; rintro e w1 ⟨rfl, hb1⟩)
  have HB1 := Aside0.mk hb1
  have HNW := Aside0.mk (new_calls w.heap.size w1 hb1.size)
  clear hb1 q1 q2
  go_upto_region 4 with (go_at_call 15; refine HNW.out.mono ?_; rintro e w2 ⟨P, F, rfl, hA, hb, hP, hF⟩; have HA := Aside0.mk (LV.mk hA (HB1.out.trans hb) (fun k hk => Nat.le_trans HB1.out.size (hF k hk))); clear hA hb hP hF)
  rename_i K2 hK2 K1 hK1
  go_cut [8] (fun v8 wr => v8 = .int .i64 0 ∧ wr = w2)
  case first =>
    go_wp2_with (fail)
    go_meet
    exact ⟨rfl, rfl⟩
  case rest =>
  obtain ⟨rfl, rfl⟩ := hcut
  refine hK1 _ _ ?_
  go_cut [8] (fun v8 wr => ∃ F L, Aside0 (LV w wr P F l.length L l.length) ∧ Aside0 (TK l L l.length))
  case first => as_aux_lemma =>
    go_wp2_with (fail)
    go_loopg [8] l.length (fun kq v8 wr => ∃ (i : Nat) (F : Nat → Prop) (L : List S34), v8 = .int .i64 i ∧ Aside0 (LV w wr P F i L i) ∧ Aside0 (TK l L i) ∧ Aside0 (i + kq = l.length))
    case atStart => exact ⟨0, F, [], rfl, HA, ⟨rfl, fun y h => by simp at h, fun j h => absurd h (by omega)⟩, ⟨by omega⟩⟩
    case round =>
      obtain ⟨i, F1, L1, rfl, HV, HF, HQ⟩ := hrel
      clear HA
      by_cases hi : i < l.length
      · have q1 : decide ((i : Int) < (l.length : Int)) = true := decide_eq_true (by omega)
        have HI := Aside0.mk hi
        have q2 : decide (i < l.length) = true := decide_eq_true hi
        have p0 : (0 : Int) ≤ (i : Int) := Int.natCast_nonneg i
        have p1 : (i : Int) < (l.length : Int) := by omega
        obtain ⟨ad, e, hx0⟩ := Kd.at_int HR.out (i : Int) p0 p1
        cases e
        simp only [Int.toNat_natCast] at hx0
        replace hx0 := (HV.out.b.cell (World.block_lt_of_cell? w _ hx0)).trans hx0
        have hm := HL.out _ (rd_mem hi)
        obtain ⟨q, hq⟩ : ∃ q : Nat, i % 256 = q := ⟨_, rfl⟩
        have hqb : q < 256 := by omega
        have hp := put_calls w.heap.size P F1 i L1 i (rd l i) (q : Int) ⟨#[]⟩ wr HV.out.v (by have := HN.out; omega)
        rw [putR_k hm.1 (by omega) (by rw [HF.out.1]; have := HN.out; omega)] at hp
        have HP := Aside0.mk hp
        have HM := Aside0.mk hm
        have ew : wrap64 ((i : Int) + 1) = (i : Int) + 1 := by have := HN.out; unfold wrap64; omega
        have ex : wrap64 (rd l i) = rd l i := by have := hm; unfold wrap64; omega
        have et : ((i : Int).tmod 256) = (q : Int) := by rw [tmod_nat, hq]
        have em : (i : Int) % 256 = (q : Int) := by omega
        have HQB := Aside0.mk hqb
        clear hq hqb
        replace p0 := eq_true p0
        replace p1 := eq_true p1
        clear hi hp hm
        go_wp2_with (go_at_call 16; refine HP.out.mono ?_; rintro e w2 ⟨rfl, F2, hA2, hT2⟩; have HA2 := Aside0.mk (HV.out.to hA2 hT2); clear hA2 hT2)
        clear et em ex p0 p1 hx0 q1 q2
        cases gk with
        | zero => exact absurd HI.out (by have := HQ.out; omega)
        | succ k1 =>
        go_roundg k1
        case measure => omega
        case rel =>
          refine ⟨i + 1, F2, _, ?_, HA2, ⟨HF.out.put (by have := HQB.out; omega)⟩, ⟨by have := HQ.out; omega⟩⟩
          rw [ew]
          rfl
      · have q1 : decide ((i : Int) < (l.length : Int)) = false := decide_eq_false (by omega)
        have q2 : decide (i < l.length) = false := decide_eq_false hi
        have him : i = l.length := by have := HQ.out; omega
        subst him
        go_wp2_with (fail)
        go_meet
        exact ⟨F1, L1, HV, HF⟩
  case rest =>
    clear HA
    obtain ⟨F1, L1, HV, HF⟩ := hcut
    refine hK2 _ _ ?_
    by_cases h0 : l.length = 0
    · have hL0 : L1 = [] := List.eq_nil_of_length_eq_zero (by rw [HF.out.1]; exact h0)
      have q3 : (l.length = 0) = True := eq_true h0
      have q4 : ((l.length : Int) = 0) = True := eq_true (by omega)
      have q5 : ((l.length : Int) == 0) = true := beq_iff_eq.mpr (by omega)
      have hcn := cancel_calls w.heap.size P F1 l.length L1 l.length 1 _ HV.out.v (by have := HN.out; omega) (by decide)
      have e1 : cancelR 1 L1 = (3, L1) := by rw [hL0]; rfl
      rw [e1] at hcn
      have HC := Aside0.mk hcn
      clear hcn e1 hL0
      go_wp2_with (go_at_call 27; refine HC.out.mono ?_; rintro e w3 ⟨rfl, F3, hA3, hT3⟩; have HA3 := Aside0.mk (HV.out.to hA3 hT3); clear hA3 hT3)
      go_ret
      exact ⟨rfl, HA3.out.b⟩
    · have q3 : (l.length = 0) = False := eq_false h0
      have q4 : ((l.length : Int) = 0) = False := eq_false (by omega)
      have q5 : ((l.length : Int) == 0) = false := beq_eq_false_iff_ne.mpr (by omega)
      have q6 : (l = []) = False := eq_false (fun e => h0 (by rw [e]; rfl))
      have hN0 : 0 < l.length := by omega
      have HN0 := Aside0.mk hN0
      obtain ⟨m, hm, hml⟩ : ∃ m : Nat, k % (l.length : Int) = (m : Int) ∧ m < l.length := by
        have h1 := Int.emod_nonneg k (b := (l.length : Int)) (by omega)
        have h2 := Int.emod_lt_of_pos k (b := (l.length : Int)) (by omega)
        exact ⟨(k % (l.length : Int)).toNat, by omega, by omega⟩
      have ew : wrap64 ((m : Int) + 1) = (m : Int) + 1 := by have := HN.out; unfold wrap64; omega
      have ew2 : wrap64 ((l.length : Int) + 1) = (l.length : Int) + 1 := by have := HN.out; unfold wrap64; omega
      have eaw : wrap64 aw = aw := by unfold wrap64; omega
      have HML := Aside0.mk hml
      have HLS := Aside0.mk (list_calls w.heap.size P F1 l.length L1 l.length _ HV.out.v)
      clear h0 hN0 hml
      go_upto_region 13 with (go_at_call 18; refine HLS.out.mono ?_; rintro e w3 ⟨ad, c3, rfl, hc3, hrow3, hb3⟩; have HWAS := Aside0.mk (Held.new HV.out.v.lt hrow3); have HV3 := Aside0.mk (HV.out.far hb3); have HC3 := Aside0.mk hc3; clear hrow3 hb3 hc3)
      go_upto_region 14 with (fail)
      have hwfm := wf_small m (by have := HN.out; have := HML.out; omega)
      have hm3 : m ≤ 1000000 := by have := HN.out; have := HML.out; omega
      obtain ⟨y, hy, hy3⟩ := HF.out.2.2 m HML.out
      obtain ⟨j, hj, hj3, hj0, hj1, hj2⟩ := HF.out.2.1 y hy
      have hjm : j = m := by clear hj0 hj1 hj2; omega
      subst hjm
      have hyb := HL.out _ (rd_mem hj)
      have hc1 := fun W F c (h : LV w W P F c L1 l.length) (hc : c < 100000) => move_calls w.heap.size P F c L1 l.length y.f3 aw W h.v hc (by rw [hy3]; exact hwfm)
      have hc2 := fun W F c L g (h : LV w W P F c L g) (hc : c < 100000) => move_calls w.heap.size P F c L g y.f3 y.f0 W h.v hc (by rw [hy3]; exact hwfm)
      rw [move_to HV.out.v.srt HV.out.v.nd hy ht.1] at hc1
      have hb2 := move_back HV.out.v.srt HV.out.v.nd hy (a := aw) (by rw [hj0]; exact hyb.1)
      rw [hy3] at hc1 hc2 hb2
      have hc2' := fun W F c (h : LV w W P F c (insR ⟨aw, y.f1, y.f2, (j : Int) + 1⟩ (offR ((j : Int) + 1) L1)) l.length) (hc : c < 100000) => hc2 W F c _ l.length h hc
      rw [hb2] at hc2'
      obtain ⟨r, hr⟩ : ∃ r, rd l j = r := ⟨_, rfl⟩
      have p0 : (0 : Int) ≤ (j : Int) := Int.natCast_nonneg j
      have p1 : (j : Int) < (l.length : Int) := Int.ofNat_lt.2 hj
      have ej2 : wrap64 (j : Int) = (j : Int) := w64_small j hm3
      have ej : wrap64 ((j : Int) + 1 - 1) = (j : Int) := by rw [Int.add_sub_cancel]; exact ej2
      obtain ⟨ad0, e, hx0⟩ := Kd.at_int HR.out (j : Int) p0 p1
      cases e
      simp only [Int.toNat_natCast] at hx0
      have HX0 := Aside0.mk hx0
      clear hx0
      have hx0 : ∀ W, Below w.heap.size w W → W.cell? (ad0.add j) = some (.int .u16 (rd l j)) := fun W hb => (hb.cell (World.block_lt_of_cell? w _ HX0.out)).trans HX0.out
      rw [hj0] at hc2'
      rw [hr] at hx0 hc2' hyb
      have er : wrap64 r = r := w64_16 r hyb
      have HX := Aside0.mk hx0
      have HC1 := Aside0.mk hc1
      have HC2 := Aside0.mk hc2'
      replace p0 := eq_true p0
      replace p1 := eq_true p1
      clear hx0 hc1 hc2 hc2' hb2 hr hyb
      have hlen : L1.length ≤ 1000000 := by rw [HF.out.1]; have := HN.out; omega
      have HLEN := Aside0.mk hlen
      have HLEN2 := Aside0.mk HF.out.1
      have hdb : doubleR ((j : Int) + 1) aw L1 l.length = ((l.length : Int) + 1, 0, insR ⟨aw, y.f1, ⟨#[]⟩, (l.length : Int) + 1⟩ L1, (l.length : Int) + 1) := by
        have e1 : tkR ((j : Int) + 1) L1 = some y := by rw [← hy3]; exact tkR_mem HV.out.v.nd hy
        unfold doubleR
        rw [e1]
        show putR aw y.f1 y.f2 L1 l.length = _
        rw [hj2]
        exact putR_k ht.1 hj1 (by rw [HF.out.1]; have := HN.out; omega)
      have hnew : ∀ z ∈ L1, z.f3 ≠ (⟨aw, y.f1, ⟨#[]⟩, (l.length : Int) + 1⟩ : S34).f3 := by
        intro z hz e
        obtain ⟨i, hi, h3, _⟩ := HF.out.2.1 z hz
        have e2 : z.f3 = (l.length : Int) + 1 := e
        rw [h3] at e2
        omega
      have hc1 : cancelR ((l.length : Int) + 1) (insR ⟨aw, y.f1, ⟨#[]⟩, (l.length : Int) + 1⟩ L1) = (0, L1) := by
        have e1 := tkR_mem (ins_nd HV.out.v.nd hnew) ((insR_perm ⟨aw, y.f1, ⟨#[]⟩, (l.length : Int) + 1⟩ L1).mem_iff.2 List.mem_cons_self)
        have e2 := offR_ins hnew
        simp only at e1 e2
        unfold cancelR
        rw [e1, e2]
      have hc2 : cancelR ((l.length : Int) + 1) L1 = (3, L1) := by
        unfold cancelR
        rw [tkR_none hnew]
      have HDB := Aside0.mk hdb
      have HK1 := Aside0.mk hc1
      have HK2 := Aside0.mk hc2
      have HWF := Aside0.mk hwfm
      have HWL := Aside0.mk (wf_small l.length (by have := HN.out; omega))
      have HM3 := Aside0.mk hm3
      clear hlen hdb hnew hc1 hc2 hj0 hj1 hj2 hj3 hy3 hy hwfm hm3 HV HF hm HX0 HLS
      have HH1 := Aside0.mk (HC1.out _ _ _ HV3.out (by have := HN.out; omega))
      go_upto_region 16 with (first
        | (go_at_call 17; refine HH1.out.mono ?_; rintro e w4 ⟨rfl, F4, hA4, hT4⟩; have HV4 := Aside0.mk (HV3.out.to hA4 hT4); have HWAS4 := Aside0.mk (HWAS.out.to hT4); have hx4 := HX.out w4 HV4.out.b; have HH2 := Aside0.mk (HC2.out _ _ _ HV4.out (by have := HN.out; omega)); clear HH1 hA4 hT4)
        | (go_at_call 17; refine HH2.out.mono ?_; rintro e w5 ⟨rfl, F5, hA5, hT5⟩; have HV5 := Aside0.mk (HV4.out.to hA5 hT5); have HWAS5 := Aside0.mk (HWAS4.out.to hT5); have HHL := Aside0.mk (list_calls w.heap.size P F5 _ L1 l.length w5 HV5.out.v); clear HH2 hA5 hT5 hx4)
        | (go_at_call 18; refine HHL.out.mono ?_; rintro e w6 ⟨ad6, c6, rfl, hc6, hrow6, hb6⟩; have HV6 := Aside0.mk (HV5.out.far hb6); have HWAS6 := Aside0.mk (HWAS5.out.far hb6); have HT6 := Aside0.mk (theirs_calls _ c6 ad6 L1 w6 hrow6 HLEN.out hc6); clear HHL hc6 hrow6 hb6)
        | (go_at_call 29; refine HT6.out.mono ?_; rintro e w7 ⟨A7, c7, rfl, hc7, hC7, hb7⟩; have HV7 := Aside0.mk (HV6.out.far hb7); have HWAS7 := Aside0.mk (HWAS6.out.far hb7); have HC7 := Aside0.mk hC7; have HL7 := Aside0.mk hc7; have HT7 := Aside0.mk (theirs_calls _ c3 ad L1 w7 HWAS7.out.row HLEN.out HC3.out); clear HT6 hc7 hC7 hb7)
        | (go_at_call 29; refine HT7.out.mono ?_; rintro e w8 ⟨A8, c8, rfl, hc8, hC8, hb8⟩; have HV8 := Aside0.mk (HV7.out.far hb8); have HWAS8 := Aside0.mk (HWAS7.out.far hb8); have HS8 := Aside0.mk (same_calls A7 A8 c7 c8 L1 w8 (Kd.C_below HC7.out hb8) hC8 HLEN.out HL7.out hc8); clear HT7 hc8 hC8 hb8)
        | (go_at_call 28; refine HS8.out.mono ?_; rintro e w9 ⟨rfl, hb9⟩; have HV9 := Aside0.mk (HV8.out.far hb9); have HWAS9 := Aside0.mk (HWAS8.out.far hb9); clear HS8 hb9))
      have hd := double_calls w.heap.size P F5 _ L1 l.length ((j : Int) + 1) aw w9 HV9.out.v (by have := HN.out; omega) HWF.out
      rw [HDB.out] at hd
      have HD := Aside0.mk hd
      clear hd p0 p1 ej ej2 er
      go_upto_region 17 with (go_at_call 25; refine HD.out.mono ?_; rintro e w10 ⟨rfl, F10, hA10, hT10⟩; have HV10 := Aside0.mk (HV9.out.to hA10 hT10); have HWAS10 := Aside0.mk (HWAS9.out.to hT10); clear hA10 hT10)
      have hk1 := cancel_calls w.heap.size P F10 _ _ _ ((l.length : Int) + 1) w10 HV10.out.v (by have := HN.out; omega) HWL.out
      try simp only at hk1
      rw [HK1.out] at hk1
      have HC11 := Aside0.mk hk1
      clear hk1
      go_wp2_with (first
        | (go_at_call 27; refine HC11.out.mono ?_; rintro e w11 ⟨rfl, F11, hA11, hT11⟩; have HV11 := Aside0.mk (HV10.out.to hA11 hT11); have HWAS11 := Aside0.mk (HWAS10.out.to hT11); have hk2 := cancel_calls w.heap.size P F11 _ L1 _ ((l.length : Int) + 1) w11 HV11.out.v (by have := HN.out; omega) HWL.out; rw [HK2.out] at hk2; have HC12 := Aside0.mk hk2; clear HC11 hA11 hT11 hk2)
        | (go_at_call 27; refine HC12.out.mono ?_; rintro e w12 ⟨rfl, F12, hA12, hT12⟩; have HV12 := Aside0.mk (HV11.out.to hA12 hT12); have HWAS12 := Aside0.mk (HWAS11.out.to hT12); have HHL := Aside0.mk (list_calls w.heap.size P F12 _ L1 _ w12 HV12.out.v); clear HC12 hA12 hT12)
        | (go_at_call 18; refine HHL.out.mono ?_; rintro e w13 ⟨ad13, c13, rfl, hc13, hrow13, hb13⟩; have HV13 := Aside0.mk (HV12.out.far hb13); have HWAS13 := Aside0.mk (HWAS12.out.far hb13); have HT13 := Aside0.mk (theirs_calls _ c13 ad13 L1 w13 hrow13 HLEN.out hc13); clear HHL hc13 hrow13 hb13)
        | (go_at_call 29; refine HT13.out.mono ?_; rintro e w14 ⟨A14, c14, rfl, hc14, hC14, hb14⟩; have HV14 := Aside0.mk (HV13.out.far hb14); have HWAS14 := Aside0.mk (HWAS13.out.far hb14); have HC14 := Aside0.mk hC14; have HL14 := Aside0.mk hc14; have HT14 := Aside0.mk (theirs_calls _ c3 ad L1 w14 HWAS14.out.row HLEN.out HC3.out); clear HT13 hc14 hC14 hb14)
        | (go_at_call 29; refine HT14.out.mono ?_; rintro e w15 ⟨A15, c15, rfl, hc15, hC15, hb15⟩; have HV15 := Aside0.mk (HV14.out.far hb15); have HS15 := Aside0.mk (same_calls A14 A15 c14 c15 L1 w15 (Kd.C_below HC14.out hb15) hC15 HLEN.out HL14.out hc15); clear HT14 hc15 hC15 hb15)
        | (go_at_call 28; refine HS15.out.mono ?_; rintro e w16 ⟨rfl, hb16⟩; have HV16 := Aside0.mk (HV15.out.far hb16); clear HS15 hb16))
      go_ret
      exact ⟨rfl, HV16.out.b⟩

end Go.Proofs.Ytdlbnkiolpmnbaa.Ag
