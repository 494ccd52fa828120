/- agenda: Put. It says its own conditions. -/
import Derived.Test.YtdlbnkiolpmnbaaProg
import Derived.Test.YtdlbnkiolpmnbaaMAgax0
import Derived.Test.YtdlbnkiolpmnbaaMAgax2
import Derived.WalkKit
import Derived.Deep.RegionLaw
import Derived.Deep.RegionWith
import Derived.Deep.RegionHeld3
import Derived.BigRegion
import Derived.BigQuiet
import Derived.StillTailTactics
import Derived.Test.YtdlbnkiolpmnbaaAgSt
import Derived.Test.YtdlbnkiolpmnbaaAgLay
import Derived.Test.YtdlbnkiolpmnbaaAgCmp
import Derived.Test.YtdlbnkiolpmnbaaAgSet
import Derived.Test.YtdlbnkiolpmnbaaAgPlain
import Derived.Test.YtdlbnkiolpmnbaaAgInv
import Derived.Test.YtdlbnkiolpmnbaaAgOp
import Derived.Maps.OwnIn
import Derived.Maps.OwnSet
import Derived.Deep.AppendLies
namespace Go.Proofs.Ytdlbnkiolpmnbaa.Ag
open Go.RowKit Go.Proofs.Ytdlbnkiolpmnbaa.MAga Go.Proofs.YtdlbnkiolpmnbaaW.PrintWords Go.Proofs.YtdlbnkiolpmnbaaW.PrintLast Go.Proofs.YtdlbnkiolpmnbaaW.PrintMore
attribute [local go_sem] max2_int min2_int max_two min_two max_three min_three max_four min_four
set_option linter.unusedVariables false
set_option linter.unusedSimpArgs false
-- import Derived.Maps.OwnIn
-- import Derived.Maps.OwnSet
-- import Derived.Deep.AppendLies
open Go.Maps
theorem infoI : (Try.prog.info? 34).map (fun i => (i.zero, i.size, i.bytes)) = some (some (.agg #[.int .i64 0, .int .i64 0, .string ⟨#[]⟩, .int .i64 0]), 4, 40) := by kernel_rfl
def Hd (P : Nat) (g1 : Int) (w : World) : Prop := w.cell? ⟨P, 2, none⟩ = some (.int .i64 g1) ∧ w.frozen? ⟨P, 0, none⟩ = false ∧ (P < w.heap.size) = True
theorem Hd.alloc {P : Nat} {g1 : Int} {w : World} (h : Hd P g1 w) (o : Obj) : Hd P g1 (w.alloc o).drew := by
  have hlt : P < w.heap.size := of_eq_true h.2.2
  exact ⟨(World.cell?_alloc_past o P 2 hlt).trans h.1, (World.frozen?_alloc_past o P 0 hlt).trans h.2.1, eq_true (by have := (below_alloc (Below.refl w.heap.size w) o).size; show P < (w.alloc o).heap.size; omega)⟩
theorem Hd.grown {P : Nat} {g1 : Int} {w w' : World} {row : Option Nat} (h : Hd P g1 w) (hg : w.grownBy w' row) (hne : row ≠ some P) : Hd P g1 w' := by
  have hlt : P < w.heap.size := of_eq_true h.2.2
  exact ⟨(hg.cell_far ⟨P, 2, none⟩ hlt (fun e => hne e.symm)).trans h.1, (hg.frozen_far ⟨P, 0, none⟩ hlt (fun e => hne e.symm)).trans h.2.1, eq_true (Nat.lt_of_lt_of_le hlt hg.size)⟩
theorem Hd.set {P : Nat} {g1 : Int} {w : World} {cs : Array Value} {t : TypeId} (h : Hd P g1 w) (hb : w.heap[P]? = some (.cells cs t (0, 0))) (u : Value) : Hd P g1 (w.setCell ⟨P, 0, none⟩ u) := by
  have hlt : P < w.heap.size := of_eq_true h.2.2
  have hb2 := blk_set hb 0 u
  refine ⟨?_, blk_frozen hb2 0, eq_true (blk_lt hb2)⟩
  rw [blk_cell hb2 2, Array.getElem?_setIfInBounds_ne (by omega), ← blk_cell hb 2]
  exact h.1
/-- The heap's append: one item behind the others. -/
theorem step_put {B P mb cc n : Nat} {ad : Option Addr} {l : List S34} {D : DataW Nat} {g1 : Int} {ops : Array Oper} {o : Oper} {ac : Act} {K : Act → World → Prop} {Q : Exit → Act → World → Prop} {E : Prop} (hgd : o.guard = none) (s x : Operand)
    (ho : o.op = .call { callee := .builtin .append, args := #[s, x], argTypes := #[31, 31] }) (W : World) (h : AgSt B W P mb (.slice ad l.length cc) l n D g1) (y : S34) (hl : l.length < 1000)
    (hs : ac.eval s = .slice ad l.length cc) (hx : ac.eval x = .slice (some ⟨W.heap.size, 0, none⟩) 1 1)
    (hK : ∀ g2 cap w', w'.ownsRow B 34 4 (.slice (some ⟨g2, 0, none⟩) (l.length + 1) cap) (l.length + 1) (flat l ++ itv y) → (W.alloc (.cells (itv y).toArray 34)).drew.grownBy w' (Value.slice ad l.length cc).ownBlock → ((Value.slice ad l.length cc).ownBlock = some g2 ∨ g2 = W.heap.size + 1) → K (ac.put o.dst (.slice (some ⟨g2, 0, none⟩) (l.length + 1) cap)) w') :
    if Region.wanted o (yielded ops ac.tmps) = true then Oper.wp Try.prog o ac (W.alloc (.cells (itv y).toArray 34)).drew K Q else E := by
  obtain ⟨i0, hi, hz0, hz1, hz2⟩ := info_parts infoI
  have hb := (below_alloc (Below.refl W.heap.size W) (Obj.cells (itv y).toArray 34)).drew
  have hlt : B ≤ W.heap.size := Nat.le_trans h.bp (Nat.le_of_lt (blk_lt h.blk))
  refine step_append_lies _ hgd s x 31 ho B 34 i0 _ 4 40 Try.underlying31 hi hz0 hz1 hz2 rfl (by decide) _ l.length (flat l) hs (h.far hb).row ⟨W.heap.size, 0, none⟩ 1 1 (itv y) hx rfl ?_ ?_ (by decide) (by unfold maxLen; omega) (by omega) (Nat.le_trans hlt hb.size) (W.heap.size + 1) ?_ (fun g2 cap w' h1 h2 h3 _ => hK g2 cap w' h1 h2 h3)
  · exact fun j u hu => World.news_of_block (w := (W.alloc (.cells (itv y).toArray 34)).drew) (blk_new W _) j u hu
  · intro u hu
    simp [itv] at hu
    rcases hu with rfl | rfl | rfl | rfl <;> rfl
  · show (W.alloc _).heap.size = _
    simp
def putEnd (B P : Nat) (F : Nat → Prop) (c : Nat) (r : Int × Int × List S34 × Int) (w : World) (e : Ending) (w' : World) : Prop :=
  e = .returned (.tuple #[.int .i64 r.1, .int .i64 r.2.1]) ∧ ∃ F', AgV B w' P F' (c + 1) r.2.2.1 r.2.2.2 ∧ To B w w' F F'
set_option maxHeartbeats 4000000 in
set_option maxRecDepth 100000 in
theorem put_calls (B P : Nat) (F : Nat → Prop) (c : Nat) (L : List S34) (g a k : Int) (s : ByteArray) (w : World) (h : AgV B w P F c L g) (hc : c < 100000) :
    Calls Try.prog 16 #[.pointer (some ⟨P, 0, none⟩), .int .i64 a, .int .i64 k, .string s] w (putEnd B P F c (putR a k s L g) w) := by
  obtain ⟨mb, hv, l, n, D, hs, hi, hn, hgc, rfl⟩ := h
  obtain ⟨ad, cc, rfl⟩ := hs.two
  have hLl : L.length = l.length := hi.perm.length_eq
  by_cases hb : badP a k s
  · have e1 : putR a k s L g = (0, 1, L, g) := by unfold putR; rw [if_pos hb]
    rw [e1]
    have HS := Aside0.mk hs
    have HI := Aside0.mk hi
    have HB := Aside0.mk hb
    clear hs hi hb e1 hLl
    go_enter Try.func16, Try.ntmps16
    go_wp2_with (fail)
    any_goals (exfalso; have h1 := HB.out; unfold badP at h1; omega)
    all_goals (go_ret2; exact ⟨rfl, _, ⟨mb, _, l, n, D, HS.out, HI.out, by omega, by show g ≤ _; omega, rfl⟩, To.refl _ _ _⟩)
  · have hb' : ¬ a < 0 ∧ ¬ k < 0 ∧ ¬ 255 < k ∧ ¬ 2000 < s.size := by unfold badP at hb; omega
    obtain ⟨b1, b2, b3, b4⟩ := hb'
    have HB := Aside0.mk hb
    have d1 : decide (a < 0) = false := decide_eq_false b1
    have d2 : decide (k < 0) = false := decide_eq_false b2
    have d3 : decide (255 < k) = false := decide_eq_false b3
    have d4 : decide (2000 < (s.size : Int)) = false := decide_eq_false (by omega)
    by_cases hl : 1000 ≤ l.length
    · have e1 : putR a k s L g = (0, 2, L, g) := by unfold putR; rw [if_neg hb, if_pos (by omega)]
      rw [e1]
      have HS := Aside0.mk hs
      have HI := Aside0.mk hi
      have p0 := blk_cell hs.blk 0
      have d5 : decide (1000 ≤ (l.length : Int)) = true := decide_eq_true (by omega)
      have d6 : (1000 ≤ l.length) = True := eq_true hl
      clear hs hi hb e1 hLl
      go_enter Try.func16, Try.ntmps16
      go_wp2_with (fail)
      all_goals (go_ret2; exact ⟨rfl, _, ⟨mb, _, l, n, D, HS.out, HI.out, by omega, by show g ≤ _; omega, rfl⟩, To.refl _ _ _⟩)
    · have e1 : putR a k s L g = (g + 1, 0, insR ⟨a, k, s, g + 1⟩ L, g + 1) := by unfold putR; rw [if_neg hb, if_neg (by omega)]
      rw [e1]
      have HS := Aside0.mk hs
      have HI := Aside0.mk hi
      have p0 := blk_cell hs.blk 0
      have p2 := blk_cell hs.blk 2
      have f2 := blk_frozen hs.blk 2
      have d5 : decide (1000 ≤ (l.length : Int)) = false := decide_eq_false (by omega)
      have d6 : (1000 ≤ l.length) = False := eq_false hl
      clear hs hi hb e1 hLl
      go_enter Try.func16, Try.ntmps16
      go_upto_region 5 with (fail)
      clear d1 d2 d3 d4 d5 d6
      go_upto_region 6 with (fail)
      obtain ⟨W, hW⟩ : ∃ W, w.setCell ⟨P, 2, none⟩ (.int .i64 (wrap64 (g + 1))) = W := ⟨_, rfl⟩
      rw [hW]
      have eg : wrap64 (g + 1) = g + 1 := by have := HI.out.g0; unfold wrap64; omega
      rw [eg] at hW
      have hk0 : Kept w W (AgF P mb (.slice ad l.length cc)) := by rw [← hW]; exact (Kept.refl _ _).setCell (.inl (.inl rfl)) _
      have hb0 : Below B w W := by rw [← hW]; exact (Below.refl _ _).setCell HS.out.bp _
      have hs0 : AgSt B W P mb (.slice ad l.length cc) l n D (g + 1) := by rw [← hW]; exact HS.out.giv _
      have HK0 := Aside0.mk hk0
      have HB0 := Aside0.mk hb0
      have HS0 := Aside0.mk hs0
      clear hW hk0 hb0 p0 p2 f2
      have p0 := blk_cell hs0.blk 0
      have p2 := blk_cell hs0.blk 2
      have f0 := blk_frozen hs0.blk 0
      have hlt : (P < W.heap.size) = True := eq_true (blk_lt hs0.blk)
      clear hs0
      have hd0 : Hd P (g + 1) W := ⟨p2, f0, hlt⟩
      have HH := Aside0.mk hd0
      have hne : (Value.slice ad l.length cc).ownBlock ≠ some P := HS0.out.rp
      have HNE := Aside0.mk hne
      clear hd0 hne
      go_region_law (first
        | (refine step_put rfl _ _ rfl W HS0.out ⟨a, k, s, g + 1⟩ (by omega) rfl rfl ?_; intro g2 cap w1 hown hgrow hat; have hblk := (hgrow.block P (blk_lt (HS0.out.far (below_alloc (Below.refl _ _) (Obj.cells (itv ⟨a, k, s, g + 1⟩).toArray 34)).drew).blk) (fun e => HNE.out e.symm)).trans (HS0.out.far (below_alloc (Below.refl _ _) (Obj.cells (itv ⟨a, k, s, g + 1⟩).toArray 34)).drew).blk; have HBLK := Aside0.mk hblk; have hc0 := blk_cell hblk 0; have hf0 := blk_frozen hblk 0; clear hblk))
      all_goals
        clear p0 p2 f0 hlt
        have hx3 : ∀ y ∈ l ++ [(⟨a, k, s, g + 1⟩ : S34)], (Lit.int .i64 y.f3).wf = true := by
          intro y hy
          rcases List.mem_append.1 hy with hy | hy
          · exact HI.out.wf (by omega) y hy
          · rw [List.mem_singleton.1 hy]
            have := HI.out.g0
            simp [Lit.wf, IntKind.min, IntKind.max, IntKind.bits, IntKind.signed]
            omega
        have el : (l ++ [(⟨a, k, s, g + 1⟩ : S34)]).length = l.length + 1 := by simp
        have ef : flat (l ++ [(⟨a, k, s, g + 1⟩ : S34)]) = flat l ++ itv ⟨a, k, s, g + 1⟩ := by rw [flat_app]; simp [flat]
        have hbA := (below_alloc (Below.refl W.heap.size W) (Obj.cells (itv ⟨a, k, s, g + 1⟩).toArray 34)).drew
        have hs2 : AgSt B (w1.setCell ⟨P, 0, none⟩ (.slice (some ⟨g2, 0, none⟩) (l.length + 1) cap)) P mb (.slice (some ⟨g2, 0, none⟩) (l.length + 1) cap) (l ++ [(⟨a, k, s, g + 1⟩ : S34)]) n D (g + 1) :=
          (HS0.out.far hbA).heap (by rw [el, ef]; exact hown) hgrow
        have hk2 : Kept w (w1.setCell ⟨P, 0, none⟩ (.slice (some ⟨g2, 0, none⟩) (l.length + 1) cap)) (AgF P mb (.slice ad l.length cc)) :=
          (Kept.of_grown hgrow (HK0.out.below hbA) (fun k e => .inl (.inr (.inr e)))).setCell (.inl (.inl rfl)) _
        have hb2 : Below B w (w1.setCell ⟨P, 0, none⟩ (.slice (some ⟨g2, 0, none⟩) (l.length + 1) cap)) :=
          ((HB0.out.trans (hbA.mono (Nat.le_trans HS0.out.bp (Nat.le_of_lt (blk_lt HS0.out.blk))))).grown hgrow (Nat.le_trans (Nat.le_trans HS0.out.bp (Nat.le_of_lt (blk_lt HS0.out.blk))) hbA.size) (fun k e => own_base HS0.out.row k e)).setCell HS0.out.bp _
        have hF : ∀ k, AgF P mb (.slice (some ⟨g2, 0, none⟩) (l.length + 1) cap) k → AgF P mb (.slice ad l.length cc) k ∨ w.heap.size ≤ k := by
          intro k hk
          rcases hk with e | e | e
          · exact .inl (.inl e)
          · exact .inl (.inr (.inl e))
          · have e2 : g2 = k := Option.some.inj e
            rcases hat with h3 | h3
            · exact .inl (.inr (.inr (by rw [h3, e2])))
            · right
              have := HK0.out.1
              omega
        have HF := Aside0.mk hF
        have HX3 := Aside0.mk hx3
        obtain ⟨W2, hW2⟩ : ∃ W2, w1.setCell ⟨P, 0, none⟩ (.slice (some ⟨g2, 0, none⟩) (l.length + 1) cap) = W2 := ⟨_, rfl⟩
        rw [hW2] at hs2 hk2 hb2 ⊢
        clear hW2
        have HS2 := Aside0.mk hs2
        have HK2 := Aside0.mk hk2
        have HB2 := Aside0.mk hb2
        have q0 := blk_cell hs2.blk 0
        clear hs2 hk2 hb2 hF hx3 ef hbA hown hgrow hat HBLK hc0 HH HNE HK0 HB0 HS0
        have HEL := Aside0.mk el
        clear el
        have hset := fun (W3 : World) (hb : Below W2.heap.size W2 W3) => settle_calls B P mb g2 (l.length + 1) cap (l ++ [(⟨a, k, s, g + 1⟩ : S34)]) n D (g + 1) l.length W3 (HS2.out.far hb) (by rw [HEL.out]; omega) (by rw [HEL.out]; unfold maxLen; omega) (by rw [HEL.out]; omega) HX3.out
        have HSET := Aside0.mk hset
        clear hset
        have ew : wrap64 (((l.length + 1 : Nat) : Int) - 1) = (l.length : Int) := by unfold wrap64; omega
        have ew2 : wrap64 ((l.length : Int) + 1 - 1) = (l.length : Int) := by unfold wrap64; omega
        go_wp2_with (go_at_call 36; refine (HSET.out _ (Below.refl _ _)).mono ?_; rintro e w3 ⟨rfl, hA, hk, hbl⟩; have HA := Aside0.mk hA; have HK := Aside0.mk hk; have HBL := Aside0.mk hbl; have r2 := blk_cell hA.blk 2; clear hA hk hbl)
        go_ret2
        have hinv := HI.out.put (by omega) ⟨a, k, s, g + 1⟩ rfl
        have hlen : (settleE (l ++ [(⟨a, k, s, g + 1⟩ : S34)]) D l.length).1.length = l.length + 1 := by
          have h1 := hinv.perm.length_eq
          rw [(insR_perm _ _).length_eq, List.length_cons, HI.out.perm.length_eq] at h1
          exact h1.symm
        refine ⟨rfl, AgF P mb (.slice (some ⟨g2, 0, none⟩) (l.length + 1) cap), ⟨mb, _, _, _, _, HA.out, hinv, by rw [HEL.out]; omega, by show g + 1 ≤ _; omega, rfl⟩, HK2.out.then_ HK.out (fun k hk => HF.out k hk), HB2.out.trans HBL.out, HF.out⟩

end Go.Proofs.Ytdlbnkiolpmnbaa.Ag
