/- agenda: the document's Double. It says its own conditions. -/
import Derived.Test.YtdlbnkiolpmnbaaProg
import Derived.Test.YtdlbnkiolpmnbaaMAgax0
import Derived.Test.YtdlbnkiolpmnbaaMAgax2
import Derived.WalkKit
import Derived.Deep.RegionLaw
import Derived.Deep.RegionWith
import Derived.Deep.RegionHeld3
import Derived.BigRegion
import Derived.BigQuiet
import Derived.StillTailTactics
import Derived.Test.YtdlbnkiolpmnbaaAgSt
import Derived.Test.YtdlbnkiolpmnbaaAgLay
import Derived.Test.YtdlbnkiolpmnbaaAgCmp
import Derived.Test.YtdlbnkiolpmnbaaAgSet
import Derived.Test.YtdlbnkiolpmnbaaAgPlain
import Derived.Test.YtdlbnkiolpmnbaaAgInv
import Derived.Test.YtdlbnkiolpmnbaaAgOp
import Derived.Test.YtdlbnkiolpmnbaaAgPut
import Derived.Test.YtdlbnkiolpmnbaaAgMov
import Derived.Test.YtdlbnkiolpmnbaaAgCan
import Derived.Test.YtdlbnkiolpmnbaaAgTak
import Derived.Test.YtdlbnkiolpmnbaaAgTke
import Derived.Test.YtdlbnkiolpmnbaaAgLaw
import Derived.Test.YtdlbnkiolpmnbaaAgIter
import Derived.Test.YtdlbnkiolpmnbaaAgSeq
import Derived.Test.YtdlbnkiolpmnbaaAgSort
import Derived.Test.YtdlbnkiolpmnbaaAgList
import Derived.Test.YtdlbnkiolpmnbaaAgShow
import Derived.Test.YtdlbnkiolpmnbaaAgLv
import Derived.Test.YtdlbnkiolpmnbaaAgSame
import Derived.Test.YtdlbnkiolpmnbaaAgRef
import Derived.Test.YtdlbnkiolpmnbaaAgLayR
import Derived.Test.YtdlbnkiolpmnbaaAgPickR
import Derived.Test.YtdlbnkiolpmnbaaAgRefA
import Derived.Maps.OwnIn
import Derived.Maps.OwnSet
import Derived.Deep.RegionLaw
namespace Go.Proofs.Ytdlbnkiolpmnbaa.Ag
open Go.RowKit Go.Proofs.Ytdlbnkiolpmnbaa.MAga Go.Proofs.YtdlbnkiolpmnbaaW.PrintWords Go.Proofs.YtdlbnkiolpmnbaaW.PrintLast Go.Proofs.YtdlbnkiolpmnbaaW.PrintMore
attribute [local go_sem] max2_int min2_int max_two min_two max_three min_three max_four min_four
set_option linter.unusedVariables false
set_option linter.unusedSimpArgs false
-- import Derived.Maps.OwnIn
-- import Derived.Maps.OwnSet
-- import Derived.Deep.RegionLaw
theorem tkR_take {t : Int} {L : List S34} {i : Nat} (hi : i < L.length) (h : ∀ z ∈ L.take i, z.f3 ≠ t) (ht : (gt L i).f3 = t) : tkR t L = some (gt L i) := by
  have e : L = L.take i ++ gt L i :: L.drop (i + 1) := by rw [gt_at L i hi]; exact at_nth L i hi
  have h1 := tkR_none h
  unfold tkR at h1 ⊢
  rw [e, List.find?_append, ← e, h1, List.find?_cons_of_pos (by simpa using ht)]
  rfl
set_option maxHeartbeats 8000000 in
set_option maxRecDepth 100000 in
theorem rdouble_calls (B P : Nat) (F : Nat → Prop) (L : List S34) (g t a : Int) (w : World) (h : RfV B w P F L g) (hl : L.length ≤ 1000) (hg : 0 ≤ g ∧ g ≤ 1000000) :
    Calls Try.prog 50 #[.pointer (some ⟨P, 0, none⟩), .int .i64 t, .int .i64 a] w (rputEnd B P F (doubleR t a L g) w) := by
  have HV := Aside0.mk h
  obtain ⟨hv, hs, rfl⟩ := h
  obtain ⟨ad, cc, rfl, hcap⟩ := hs.two
  have HS := Aside0.mk hs
  have HL := Aside0.mk hl
  have HG := Aside0.mk hg
  have p0 := blk_cell hs.blk 0
  clear hs hl hcap hg
  go_enter Try.func50, Try.ntmps50
  go_upto_block 0 with (fail)
  rename_i K1 hK1
  go_cut [8] (fun v8 wr => wr = w ∧ Aside0 (∀ z ∈ L, z.f3 ≠ t))
  case first =>
    go_wp2_with (fail)
    go_loopg [8] L.length (fun kq v8 wr => ∃ (i : Nat), v8 = .int .i64 i ∧ wr = w ∧ Aside0 (∀ z ∈ L.take i, z.f3 ≠ t) ∧ Aside0 (i + kq = L.length))
    case atStart => exact ⟨0, rfl, rfl, ⟨fun z hz => by simp at hz⟩, ⟨by omega⟩⟩
    case round =>
      obtain ⟨i, rfl, rfl, HN, HQ⟩ := hrel
      by_cases hi : i < L.length
      · have q1 : decide ((i : Int) < (L.length : Int)) = true := decide_eq_true (by omega)
        have q2 : decide (i < L.length) = true := decide_eq_true hi
        have q3 : ((0 : Int) ≤ (i : Int)) = True := eq_true (by omega)
        have q4 : ((i : Int) < (L.length : Int)) = True := eq_true (by omega)
        have ew : wrap64 ((i : Int) + 1) = (i : Int) + 1 := by have := HL.out; unfold wrap64; omega
        obtain ⟨g0, e, c0, c1, c2, c3⟩ := HS.out.cells i hi
        cases e
        obtain ⟨y, hy⟩ : ∃ y, gt L i = y := ⟨_, rfl⟩
        rw [hy] at c0 c1 c2 c3
        have HY := Aside0.mk hy
        have HI := Aside0.mk hi
        clear hy hi
        obtain ⟨y0, y1, y2, y3⟩ := y
        by_cases ht : y3 = t
        · subst ht
          have e1 : doubleR y3 a L g = putR a y1 y2 L g := by
            unfold doubleR
            rw [tkR_take HI.out HN.out (by rw [HY.out]), HY.out]
          have hput := fun W (hb : Below wr.heap.size wr W) => rput_calls B P _ L g a y1 y2 W (HV.out.far hb) HL.out HG.out
          have HPUT := Aside0.mk hput
          rw [e1]
          clear hput e1
          go_upto_region 5 with (fail)
          clear c0 c3 q1 q2 ew
          rename_i K3 hK3
          go_cut [6, 7] (fun v6 v7 wx => v6 = .int .i64 (putR a y1 y2 L g).1 ∧ v7 = .int .i64 (putR a y1 y2 L g).2.1 ∧ ∃ F3, Aside0 (RfV B wx P F3 (putR a y1 y2 L g).2.2.1 (putR a y1 y2 L g).2.2.2) ∧ Aside0 (To B wr wx (RfF P (.slice (some ⟨g0, 0, none⟩) L.length cc)) F3))
          case first =>
            clear hK3 hK1
            go_region_law (refine step_call (.inl rfl) _ _ rfl Try.func46 (by kernel_rfl) (by kernel_rfl) _ (by rfl) (HPUT.out _ (Below.refl _ _).drew) ?_; rintro e w3 ⟨rfl, F3, hA, hT⟩; have HA := Aside0.mk hA; have HT := Aside0.mk hT; clear hA hT; refine ⟨_, rfl, ?_⟩)
            all_goals
              simp only [↓List.getElem_toArray, ↓List.getElem_cons_succ, ↓List.getElem_cons_zero, Act.put, List.setIfInBounds_toArray, List.set_cons_zero, List.set_cons_succ]
              go_wp2_with (fail)
              go_meet
              exact ⟨rfl, rfl, F3, HA, ⟨HT.out.kept, (Below.refl _ _).drew.trans HT.out.bel, HT.out.sub⟩⟩
          case rest => as_aux_lemma =>
            obtain ⟨rfl, rfl, F3, HA, HT⟩ := hcut
            refine hK3 _ _ ?_
            go_wp2_with (fail)
            go_ret2
            exact ⟨rfl, F3, HA.out, HT.out⟩
        · have n1 : (y3 == t) = false := beq_eq_false_iff_ne.mpr ht
          have n2 : (y3 = t) = False := eq_false ht
          have HT := Aside0.mk ht
          clear ht
          go_wp2_with (fail)
          clear c0 c1 c2 c3 p0 q1 q2 q3 q4 n1 n2
          cases gk with
          | zero => exact absurd HI.out (by have := HQ.out; omega)
          | succ k1 =>
          go_roundg k1
          case measure => omega
          case rel =>
            refine ⟨i + 1, rfl, rfl, ⟨fun z hz => ?_⟩, ⟨by have := HQ.out; omega⟩⟩
            rw [take_snoc L i HI.out] at hz
            rcases List.mem_append.1 hz with hz | hz
            · exact HN.out z hz
            · rw [List.mem_singleton.1 hz, HY.out]
              exact HT.out
      · have q1 : decide ((i : Int) < (L.length : Int)) = false := decide_eq_false (by omega)
        have q2 : decide (i < L.length) = false := decide_eq_false hi
        have him : i = L.length := by have := HQ.out; omega
        subst him
        go_wp2_with (fail)
        go_meet
        exact ⟨rfl, by have := HN.out; rw [List.take_length] at this; exact ⟨this⟩⟩
  case rest =>
    obtain ⟨rfl, HN⟩ := hcut
    refine hK1 _ _ ?_
    go_wp2_with (fail)
    go_ret2
    have e1 : doubleR t a L g = (0, 3, L, g) := by unfold doubleR; rw [tkR_none HN.out]
    rw [e1]
    exact ⟨rfl, _, HV.out, To.refl _ _ _⟩

end Go.Proofs.Ytdlbnkiolpmnbaa.Ag
