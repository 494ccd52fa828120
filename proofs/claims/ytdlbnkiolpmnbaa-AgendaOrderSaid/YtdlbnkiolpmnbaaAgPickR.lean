/- agenda: the document's pick: an item taken off. It says its own conditions. -/
import Derived.Test.YtdlbnkiolpmnbaaProg
import Derived.Test.YtdlbnkiolpmnbaaMAgax0
import Derived.Test.YtdlbnkiolpmnbaaMAgax2
import Derived.WalkKit
import Derived.Deep.RegionLaw
import Derived.Deep.RegionWith
import Derived.Deep.RegionHeld3
import Derived.BigRegion
import Derived.BigQuiet
import Derived.StillTailTactics
import Derived.Test.YtdlbnkiolpmnbaaAgSt
import Derived.Test.YtdlbnkiolpmnbaaAgLay
import Derived.Test.YtdlbnkiolpmnbaaAgCmp
import Derived.Test.YtdlbnkiolpmnbaaAgSet
import Derived.Test.YtdlbnkiolpmnbaaAgPlain
import Derived.Test.YtdlbnkiolpmnbaaAgInv
import Derived.Test.YtdlbnkiolpmnbaaAgOp
import Derived.Test.YtdlbnkiolpmnbaaAgPut
import Derived.Test.YtdlbnkiolpmnbaaAgMov
import Derived.Test.YtdlbnkiolpmnbaaAgCan
import Derived.Test.YtdlbnkiolpmnbaaAgTak
import Derived.Test.YtdlbnkiolpmnbaaAgTke
import Derived.Test.YtdlbnkiolpmnbaaAgLaw
import Derived.Test.YtdlbnkiolpmnbaaAgIter
import Derived.Test.YtdlbnkiolpmnbaaAgSeq
import Derived.Test.YtdlbnkiolpmnbaaAgSort
import Derived.Test.YtdlbnkiolpmnbaaAgList
import Derived.Test.YtdlbnkiolpmnbaaAgShow
import Derived.Test.YtdlbnkiolpmnbaaAgLv
import Derived.Test.YtdlbnkiolpmnbaaAgSame
import Derived.Test.YtdlbnkiolpmnbaaAgRef
import Derived.Test.YtdlbnkiolpmnbaaAgLayR
import Derived.Maps.OwnIn
import Derived.Maps.OwnSet
import Derived.Deep.AppendLies
namespace Go.Proofs.Ytdlbnkiolpmnbaa.Ag
open Go.RowKit Go.Proofs.Ytdlbnkiolpmnbaa.MAga Go.Proofs.YtdlbnkiolpmnbaaW.PrintWords Go.Proofs.YtdlbnkiolpmnbaaW.PrintLast Go.Proofs.YtdlbnkiolpmnbaaW.PrintMore
attribute [local go_sem] max2_int min2_int max_two min_two max_three min_three max_four min_four
set_option linter.unusedVariables false
set_option linter.unusedSimpArgs false
-- import Derived.Maps.OwnIn
-- import Derived.Maps.OwnSet
-- import Derived.Deep.AppendLies
structure PR (t : Int) (L : List S34) (w : World) (i : Nat) (v : Value) (W : World) : Prop where
  b7 : W.heap[w.heap.size + 2]? = some (.cells #[.int .i64 (pickR t (L.take i)).1.f0, .int .i64 (pickR t (L.take i)).1.f1, .string (pickR t (L.take i)).1.f2, .int .i64 (pickR t (L.take i)).1.f3] 69 (0, 0))
  b4 : W.heap[w.heap.size]? = some (.cells #[.int .i64 0, .int .i64 0, .string ⟨#[]⟩, .int .i64 0] 69 (0, 0))
  row : W.ownsRow (w.heap.size + 1) 69 4 v (offR t (L.take i)).length (flat (offR t (L.take i)))
  ne : v.ownBlock ≠ some (w.heap.size + 2)
  bel : Below w.heap.size w W
  il : i ≤ L.length
theorem off_take (t : Int) (L : List S34) (i : Nat) (h : L.length ≤ 1000) : (offR t (L.take i)).length ≤ 3000 := by
  have h1 := List.length_filter_le (fun y : S34 => decide (y.f3 ≠ t)) (L.take i)
  rw [List.length_take] at h1
  unfold offR
  omega
theorem pickR_hit {t : Int} {M : List S34} {y : S34} (h : y.f3 = t) (hM : ∀ z ∈ M, z.f3 ≠ t) : pickR t (M ++ [y]) = (y, true) := by
  unfold pickR
  rw [tkR_snoc_eq h hM]
theorem pickR_miss {t : Int} {M : List S34} {y : S34} (h : y.f3 ≠ t) : pickR t (M ++ [y]) = pickR t M := by
  unfold pickR
  rw [tkR_snoc_ne h]
theorem take_nd {L : List S34} (hnd : L.Pairwise (fun a b => a.f3 ≠ b.f3)) (i : Nat) (hi : i < L.length) : ∀ z ∈ L.take i, z.f3 ≠ (gt L i).f3 := by
  intro z hz
  obtain ⟨j, hj, e⟩ := List.getElem_of_mem hz
  rw [List.length_take] at hj
  rw [List.getElem_take] at e
  rw [List.pairwise_iff_getElem] at hnd
  have h := hnd j i (by omega) hi (by omega)
  rw [e, ← gt_at L i hi] at h
  exact h
theorem PR.hit {t : Int} {L : List S34} {w : World} {i : Nat} {v : Value} {W : World} (h : PR t L w i v W) (hnd : L.Pairwise (fun a b => a.f3 ≠ b.f3)) (hi : i < L.length) (y : S34) (hy : gt L i = y) (ht : y.f3 = t) :
    PR t L w (i + 1) v ((((W.setCell ⟨w.heap.size + 2, 0, none⟩ (.int .i64 y.f0)).setCell ⟨w.heap.size + 2, 1, none⟩ (.int .i64 y.f1)).setCell ⟨w.heap.size + 2, 2, none⟩ (.string y.f2)).setCell ⟨w.heap.size + 2, 3, none⟩ (.int .i64 y.f3)) := by
  obtain ⟨p1, p2, p3⟩ := put4 h.b7 (.int .i64 y.f0) (.int .i64 y.f1) (.string y.f2) (.int .i64 y.f3)
  have e := take_snoc L i hi
  have hM : ∀ z ∈ L.take i, z.f3 ≠ t := by
    have := take_nd hnd i hi
    rw [hy, ht] at this
    exact this
  have e1 : pickR t (L.take (i + 1)) = (y, true) := by rw [e, hy]; exact pickR_hit ht hM
  have e2 : offR t (L.take (i + 1)) = offR t (L.take i) := by rw [e, hy, offR_snoc, if_pos ht]
  refine ⟨by rw [e1]; exact p1, blk_kept h.b4 p2 (by omega), ?_, h.ne, h.bel.trans (p3 _ (by omega)), hi⟩
  rw [e2]
  exact own_move h.row (fun k hk => p2.2 k (own_lt h.row k hk) (fun e3 => h.ne (by rw [hk, e3])))
theorem PR.miss {t : Int} {L : List S34} {w : World} {i : Nat} {v v' : Value} {W W' : World} (h : PR t L w i v W) (hi : i < L.length) (y : S34) (hy : gt L i = y) (ht : y.f3 ≠ t)
    (hrow : W'.ownsRow (w.heap.size + 1) 69 4 v' (offR t (L.take i) ++ [y]).length (flat (offR t (L.take i) ++ [y]))) (hbel : Below (w.heap.size + 1) W W') (hown : ∀ k, v'.ownBlock = some k → v.ownBlock = some k ∨ W.heap.size ≤ k) (hg : W.grownBy W' v.ownBlock) : PR t L w (i + 1) v' W' := by
  have e := take_snoc L i hi
  have e1 : pickR t (L.take (i + 1)) = pickR t (L.take i) := by rw [e, hy]; exact pickR_miss ht
  have e2 : offR t (L.take (i + 1)) = offR t (L.take i) ++ [y] := by rw [e, hy, offR_snoc, if_neg ht]
  have h7 := blk_lt h.b7
  refine ⟨by rw [e1]; exact (hg.block _ h7 (fun e3 => h.ne e3.symm)).trans h.b7, (hbel.block _ (by omega)).trans h.b4, by rw [e2]; exact hrow, fun e3 => ?_, h.bel.trans (hbel.mono (by omega)), hi⟩
  rcases hown _ e3 with e4 | e4
  · exact h.ne e4
  · omega
theorem PR.far {t : Int} {L : List S34} {w : World} {i : Nat} {v : Value} {W W' : World} (h : PR t L w i v W) (hb : Below W.heap.size W W') : PR t L w i v W' :=
  ⟨blk_below h.b7 hb, blk_below h.b4 hb, row_far h.row hb, h.ne, h.bel.trans (hb.mono h.bel.size), h.il⟩
def rpickEnd (B P : Nat) (F : Nat → Prop) (r : S34 × Bool) (L' : List S34) (g : Int) (w : World) (e : Ending) (w' : World) : Prop :=
  e = .returned (.tuple #[.agg #[.int .i64 r.1.f0, .int .i64 r.1.f1, .string r.1.f2, .int .i64 r.1.f3], .bool r.2]) ∧ ∃ F', RfV B w' P F' L' g ∧ To B w w' F F'
set_option maxHeartbeats 8000000 in
set_option maxRecDepth 100000 in
theorem rpick_calls (B P : Nat) (F : Nat → Prop) (L : List S34) (g t : Int) (w : World) (h : RfV B w P F L g) (hl : L.length ≤ 1000) (hnd : L.Pairwise (fun a b => a.f3 ≠ b.f3)) :
    Calls Try.prog 67 #[.pointer (some ⟨P, 0, none⟩), .int .i64 t] w (rpickEnd B P F (pickR t L) (offR t L) g w) := by
  obtain ⟨hv, hs, rfl⟩ := h
  obtain ⟨ad, cc, rfl, hcap⟩ := hs.two
  have HS := Aside0.mk hs
  have HL := Aside0.mk hl
  have HND := Aside0.mk hnd
  clear hs hl hcap hnd
  go_enter Try.func67, Try.ntmps67
  go_upto_block 0 with (fail)
  have HR0 : PR t L w 0 (.slice (some ⟨w.heap.size + 1, 0, none⟩) 0 0) (((w.alloc (.cells #[.int .i64 0, .int .i64 0, .string ⟨#[]⟩, .int .i64 0] 69)).alloc (.cells #[] 69)).alloc (.cells #[.int .i64 0, .int .i64 0, .string ⟨#[]⟩, .int .i64 0] 69)) := by
    have hsz1 : (w.alloc (.cells #[.int .i64 0, .int .i64 0, .string ⟨#[]⟩, .int .i64 0] 69)).heap.size = w.heap.size + 1 := by simp
    have hsz2 : ((w.alloc (.cells #[.int .i64 0, .int .i64 0, .string ⟨#[]⟩, .int .i64 0] 69)).alloc (.cells #[] 69)).heap.size = w.heap.size + 2 := by simp
    refine ⟨?_, blk_alloc (blk_alloc (blk_new w _) _) _, ?_, fun e => by have e2 : w.heap.size + 1 = w.heap.size + 2 := Option.some.inj e; omega, below_alloc (below_alloc (below_alloc (Below.refl _ _) _) _) _, Nat.zero_le _⟩
    · have := blk_new ((w.alloc (.cells #[.int .i64 0, .int .i64 0, .string ⟨#[]⟩, .int .i64 0] 69)).alloc (.cells #[] 69)) (.cells #[.int .i64 0, .int .i64 0, .string ⟨#[]⟩, .int .i64 0] 69)
      rw [hsz2] at this
      exact this
    · have := (row0 (w.alloc (.cells #[.int .i64 0, .int .i64 0, .string ⟨#[]⟩, .int .i64 0] 69))).alloc (.cells #[.int .i64 0, .int .i64 0, .string ⟨#[]⟩, .int .i64 0] 69)
      rw [hsz1] at this
      exact this
  generalize ((w.alloc (.cells #[.int .i64 0, .int .i64 0, .string ⟨#[]⟩, .int .i64 0] 69)).alloc (.cells #[] 69)).alloc (.cells #[.int .i64 0, .int .i64 0, .string ⟨#[]⟩, .int .i64 0] 69) = W3 at HR0 ⊢
  rw [show w.heap.size + 1 + 1 = w.heap.size + 2 from rfl]
  have HR := Aside0.mk HR0
  clear HR0
  rename_i K1 hK1
  go_cut [6, 8, 9] (fun v6 v8 v9 wr => v8 = .bool (pickR t L).2 ∧ Aside0 (PR t L w L.length v6 wr))
  case first => as_aux_lemma =>
    go_wp2_with (fail)
    go_loopg [6, 8, 9] L.length (fun kq v6 v8 v9 wr => ∃ (i : Nat), v9 = .int .i64 i ∧ v8 = .bool (pickR t (L.take i)).2 ∧ Aside0 (PR t L w i v6 wr) ∧ Aside0 (i + kq = L.length))
    case atStart => exact ⟨0, rfl, rfl, HR, ⟨by omega⟩⟩
    case round =>
      clear HR
      obtain ⟨i, rfl, rfl, HR, HQ⟩ := hrel
      have p0 := blk_cell (HS.out.far HR.out.bel).blk 0
      by_cases hi : i < L.length
      · have q1 : decide ((i : Int) < (L.length : Int)) = true := decide_eq_true (by omega)
        have q2 : decide (i < L.length) = true := decide_eq_true hi
        have q3 : ((0 : Int) ≤ (i : Int)) = True := eq_true (by omega)
        have q4 : ((i : Int) < (L.length : Int)) = True := eq_true (by omega)
        have ew : wrap64 ((i : Int) + 1) = (i : Int) + 1 := by have := HL.out; unfold wrap64; omega
        obtain ⟨g0, e, c0, c1, c2, c3⟩ := (HS.out.far HR.out.bel).cells i hi
        cases e
        obtain ⟨y, hy⟩ : ∃ y, gt L i = y := ⟨_, rfl⟩
        rw [hy] at c0 c1 c2 c3
        have HY := Aside0.mk hy
        have HI := Aside0.mk hi
        clear hy hi
        obtain ⟨y0, y1, y2, y3⟩ := y
        by_cases ht : y3 = t
        · have HT := Aside0.mk ht
          subst ht
          have m0 := blk_cell HR.out.b7 0
          have m1 := blk_cell HR.out.b7 1
          have m2 := blk_cell HR.out.b7 2
          have m3 := blk_cell HR.out.b7 3
          have f0 := blk_frozen HR.out.b7 0
          have f1 := blk_frozen HR.out.b7 1
          have f2 := blk_frozen HR.out.b7 2
          have f3 := blk_frozen HR.out.b7 3
          go_wp2_with (fail)
          clear m0 m1 m2 m3 f0 f1 f2 f3 c0 c1 c2 c3 p0 q1 q2 q3 q4
          cases gk with
          | zero => exact absurd HI.out (by have := HQ.out; omega)
          | succ k1 =>
          go_roundg k1
          case measure => omega
          case rel =>
            have e9 : pickR y3 (L.take (i + 1)) = (⟨y0, y1, y2, y3⟩, true) := by
              have hM := take_nd HND.out i HI.out
              rw [HY.out] at hM
              rw [take_snoc L i HI.out, HY.out]
              exact pickR_hit rfl hM
            exact ⟨i + 1, rfl, by rw [e9], ⟨HR.out.hit HND.out HI.out ⟨y0, y1, y2, y3⟩ HY.out rfl⟩, ⟨by have := HQ.out; omega⟩⟩
        · have n1 : (y3 == t) = false := beq_eq_false_iff_ne.mpr ht
          have n2 : (y3 = t) = False := eq_false ht
          have HT := Aside0.mk ht
          clear ht
          go_wp2_with (at_builtin; refine app69 rfl _ _ rfl _ (w.heap.size + 1) _ (offR t (L.take i)) ⟨y0, y1, y2, y3⟩ (row_far HR.out.row (Below.refl _ _)) (off_take t L i HL.out) (by have := blk_lt HR.out.b4; omega) rfl rfl ?_; intro v' w' hrow' hbel' hown' hg'; have HP := Aside0.mk (HR.out.miss HI.out ⟨y0, y1, y2, y3⟩ HY.out HT.out hrow' hbel' hown' hg'); clear hrow' hbel' hown' hg')
          clear c0 c1 c2 c3 p0 q1 q2 q3 q4 n1 n2
          cases gk with
          | zero => exact absurd HI.out (by have := HQ.out; omega)
          | succ k1 =>
          go_roundg k1
          case measure => omega
          case rel =>
            have e9 : pickR t (L.take (i + 1)) = pickR t (L.take i) := by
              rw [take_snoc L i HI.out, HY.out]
              exact pickR_miss HT.out
            exact ⟨i + 1, rfl, by rw [e9], HP, ⟨by have := HQ.out; omega⟩⟩
      · have q1 : decide ((i : Int) < (L.length : Int)) = false := decide_eq_false (by omega)
        have q2 : decide (i < L.length) = false := decide_eq_false hi
        have him : i = L.length := by have := HQ.out; omega
        subst him
        go_wp2_with (fail)
        go_meet
        exact ⟨by rw [List.take_length], HR⟩
  case rest =>
    clear HR
    obtain ⟨rfl, HR⟩ := hcut
    refine hK1 _ _ ?_
    have hrow := HR.out.row
    rw [List.take_length] at hrow
    have hb7 := HR.out.b7
    rw [List.take_length] at hb7
    obtain ⟨y, hy⟩ : ∃ y, (pickR t L).1 = y := ⟨_, rfl⟩
    obtain ⟨b, hb⟩ : ∃ b, (pickR t L).2 = b := ⟨_, rfl⟩
    have HPK := Aside0.mk (show pickR t L = (y, b) from Prod.ext hy hb)
    rw [hy] at hb7
    rw [hb]
    obtain ⟨y0, y1, y2, y3⟩ := y
    have HB7 := Aside0.mk hb7
    have HROW := Aside0.mk hrow
    have hs1 := HS.out.far HR.out.bel
    have p0 := blk_cell hs1.blk 0
    have f0 := blk_frozen hs1.blk 0
    obtain ⟨A9, m9, c9, rfl⟩ := slice_form hrow
    clear hs1 hy hb hb7 hrow
    go_upto_region 12 with (fail)
    obtain ⟨h1, h2⟩ := HS.out.row_set HR.out.bel HROW.out (by omega)
    have hlt := blk_lt HS.out.blk
    have hb4 := blk_far HR.out.b4 (p := ⟨P, 0, none⟩) (by show w.heap.size ≠ P; omega) (.slice A9 m9 c9)
    have hb7 := blk_far HB7.out (p := ⟨P, 0, none⟩) (by show w.heap.size + 2 ≠ P; omega) (.slice A9 m9 c9)
    have hF : ∀ k, RfF P (.slice A9 m9 c9) k → k ≠ w.heap.size := by
      intro k hk
      rcases hk with e | e
      · omega
      · have := own_base HROW.out k e
        omega
    obtain ⟨W5, hW5⟩ : ∃ W5, wc.setCell ⟨P, 0, none⟩ (.slice A9 m9 c9) = W5 := ⟨_, rfl⟩
    rw [hW5] at h1 h2 hb4 hb7 ⊢
    have HRF := Aside0.mk h1
    have HTO := Aside0.mk h2
    have HB4 := Aside0.mk hb4
    have HF := Aside0.mk hF
    have k0 := blk_cell hb7 0
    have k1 := blk_cell hb7 1
    have k2 := blk_cell hb7 2
    have k3 := blk_cell hb7 3
    have m0 := blk_cell hb4 0
    have m1 := blk_cell hb4 1
    have m2 := blk_cell hb4 2
    have m3 := blk_cell hb4 3
    have f0 := blk_frozen hb4 0
    have f1 := blk_frozen hb4 1
    have f2 := blk_frozen hb4 2
    have f3 := blk_frozen hb4 3
    clear h1 h2 hlt hb4 hb7 hF hW5 p0
    go_wp2_with (fail)
    obtain ⟨r1, r2, r3⟩ := put4 HB4.out (.int .i64 y0) (.int .i64 y1) (.string y2) (.int .i64 y3)
    refine bodyPost_ret (results_ct rfl _ _ w.heap.size 69 #[.int .i64 y0, .int .i64 y1, .string y2, .int .i64 y3] (0, 0) _ rfl r1 Try.underlying69 rfl (by kernel_rfl)) rfl ?_
    rw [HPK.out]
    have hBw : B ≤ w.heap.size := Nat.le_trans HS.out.bp (Nat.le_of_lt (blk_lt HS.out.blk))
    exact ⟨rfl, _, HRF.out.kept r2 HF.out, HTO.out.kept.then_ r2 (fun k e => .inr (by rw [e]; exact Nat.le_refl _)), HTO.out.bel.trans (r3 B hBw), HTO.out.sub⟩

end Go.Proofs.Ytdlbnkiolpmnbaa.Ag
