/- agenda: two lists told to be the same: theirs, Same; what a row of items is where it is held. Each says its own conditions. -/
import Derived.Test.YtdlbnkiolpmnbaaProg
import Derived.Test.YtdlbnkiolpmnbaaMAgax0
import Derived.Test.YtdlbnkiolpmnbaaMAgax2
import Derived.WalkKit
import Derived.Deep.RegionLaw
import Derived.Deep.RegionWith
import Derived.Deep.RegionHeld3
import Derived.BigRegion
import Derived.BigQuiet
import Derived.StillTailTactics
import Derived.Test.YtdlbnkiolpmnbaaAgSt
import Derived.Test.YtdlbnkiolpmnbaaAgLay
import Derived.Test.YtdlbnkiolpmnbaaAgCmp
import Derived.Test.YtdlbnkiolpmnbaaAgSet
import Derived.Test.YtdlbnkiolpmnbaaAgPlain
import Derived.Test.YtdlbnkiolpmnbaaAgInv
import Derived.Test.YtdlbnkiolpmnbaaAgOp
import Derived.Test.YtdlbnkiolpmnbaaAgPut
import Derived.Test.YtdlbnkiolpmnbaaAgMov
import Derived.Test.YtdlbnkiolpmnbaaAgCan
import Derived.Test.YtdlbnkiolpmnbaaAgTak
import Derived.Test.YtdlbnkiolpmnbaaAgTke
import Derived.Test.YtdlbnkiolpmnbaaAgLaw
import Derived.Test.YtdlbnkiolpmnbaaAgIter
import Derived.Test.YtdlbnkiolpmnbaaAgSeq
import Derived.Test.YtdlbnkiolpmnbaaAgSort
import Derived.Test.YtdlbnkiolpmnbaaAgList
import Derived.Test.YtdlbnkiolpmnbaaAgShow
import Derived.Test.YtdlbnkiolpmnbaaAgLv
import Derived.Maps.OwnIn
import Derived.Maps.OwnSet
namespace Go.Proofs.Ytdlbnkiolpmnbaa.Ag
open Go.RowKit Go.Proofs.Ytdlbnkiolpmnbaa.MAga Go.Proofs.YtdlbnkiolpmnbaaW.PrintWords Go.Proofs.YtdlbnkiolpmnbaaW.PrintLast Go.Proofs.YtdlbnkiolpmnbaaW.PrintMore
attribute [local go_sem] max2_int min2_int max_two min_two max_three min_three max_four min_four
set_option linter.unusedVariables false
set_option linter.unusedSimpArgs false
-- import Derived.Maps.OwnIn
-- import Derived.Maps.OwnSet
def conv (x : S34) : S69 := ⟨x.f0, x.f1, x.f2, x.f3⟩
theorem rd_nat (l : List S34) (i : Nat) (h : i < l.length) : rd_T34 l (i : Int) = l[i] := by
  unfold rd_T34
  rw [List.getD_eq_getElem?_getD, Int.toNat_natCast, List.getElem?_eq_getElem h]
  rfl
theorem w64_nat (j : Nat) (h : j ≤ 1000000) : wrap64 ((j : Int) + 1) = ((j + 1 : Nat) : Int) := by
  unfold wrap64
  omega
theorem theirs_l0 : ∀ (k : Nat) (l : List S34) (i : Nat), i ≤ l.length → l.length ≤ i + k → l.length ≤ 1000000 → analemmalaw08_theirs.l0 (k + 1) l ((l.take i).map conv) i = some (l.map conv)
  | k, l, i, hi, hk, hl => by
    rw [analemmalaw08_theirs.l0]
    by_cases h : i < l.length
    · rw [if_pos (by omega), if_pos (by omega), if_pos (by rw [List.length_map, List.length_take]; omega), w64_nat i (by omega), rd_nat l i h]
      have e : (l.take i).map conv ++ [(⟨l[i].f0, l[i].f1, l[i].f2, l[i].f3⟩ : S69)] = (l.take (i + 1)).map conv := by
        rw [List.take_succ_eq_append_getElem h, List.map_append]
        rfl
      rw [e]
      cases k with
      | zero => omega
      | succ k => exact theirs_l0 k l (i + 1) (by omega) (by omega) hl
    · rw [if_neg (by omega), List.take_of_length_le (by omega)]
theorem theirs_f (l : List S34) (hl : l.length ≤ 1000000) : analemmalaw08_theirs.f (l.length + 1) l = some (l.map conv) := by
  have h := theirs_l0 l.length l 0 (Nat.zero_le _) (by omega) hl
  exact h
theorem same_l0 : ∀ (k : Nat) (l : List S69) (i : Nat), i ≤ l.length → l.length ≤ i + k → l.length ≤ 1000000 → analemmaref08_Same.l0 (k + 1) l l i = some true
  | k, l, i, hi, hk, hl => by
    rw [analemmaref08_Same.l0]
    by_cases h : i < l.length
    · rw [if_pos (by omega), if_pos (by omega), if_pos (by omega), if_neg (by simp), w64_nat i (by omega)]
      cases k with
      | zero => omega
      | succ k => exact same_l0 k l (i + 1) (by omega) (by omega) hl
    · rw [if_neg (by omega)]
theorem same_f (l : List S69) (hl : l.length ≤ 1000000) : analemmaref08_Same.f (l.length + 1) l l = some true := by
  unfold analemmaref08_Same.f
  rw [if_pos rfl]
  exact same_l0 l.length l 0 (Nat.zero_le _) (by omega) hl
theorem C_of_row {b : Nat} {w : World} {ad : Option Addr} {l : List S34} (h : RowI b w ad l) (hl : l.length ≤ 1000000) : Kd.C k34 w ad l.length l := by
  refine ⟨rfl, by omega, fun hn => ?_⟩
  obtain ⟨g, e, _⟩ := h 0 l[0] (List.getElem?_eq_getElem hn)
  refine ⟨⟨g, 0, none⟩, e, fun j p hp => ⟨[.int .i64 p.f0, .int .i64 p.f1, .string p.f2, .int .i64 p.f3], rfl, k34_mk w p, fun i u hu => ?_⟩⟩
  obtain ⟨g2, e2, _, _, h0, h1, h2, h3⟩ := h j p hp
  have eg : g2 = g := by
    rw [e] at e2
    cases e2
    rfl
  subst eg
  have ha : (⟨g2, 0, none⟩ : Addr).add (j * 4 + i) = ⟨g2, j * 4 + i, none⟩ := by unfold Addr.add; split <;> simp_all
  have ha' : (⟨g2, 0, none⟩ : Addr).add (j * k34.sz + i) = ⟨g2, j * 4 + i, none⟩ := ha
  rw [ha']
  match i, hu with
  | 0, hu =>
    cases hu
    exact h0
  | 1, hu =>
    cases hu
    exact h1
  | 2, hu =>
    cases hu
    exact h2
  | 3, hu =>
    cases hu
    exact h3
theorem theirs_calls (b c : Nat) (ad : Option Addr) (l : List S34) (w : World) (h : RowI b w ad l) (hl : l.length ≤ 1000000) (hc : l.length ≤ c) :
    Calls Try.prog 29 #[.slice ad l.length c] w fun e w' => ∃ A c', e = .returned (.slice A l.length c') ∧ l.length ≤ c' ∧ Kd.C k69 w' A l.length (l.map conv) ∧ Below w.heap.size w w' := by
  refine (analemmalaw08_theirs.calls (l.length + 1) ad c l (l.map conv) w (C_of_row h hl) hc (theirs_f l hl)).mono ?_
  rintro e w' ⟨v, rfl, hR, hb⟩
  obtain ⟨A, c', rfl, hc', hC⟩ := Kd.R_reads hR
  rw [List.length_map] at hc' hC ⊢
  exact ⟨A, c', rfl, hc', hC, hb⟩
theorem same_calls (A0 A1 : Option Addr) (c0 c1 : Nat) (l : List S34) (w : World) (h0 : Kd.C k69 w A0 l.length (l.map conv)) (h1 : Kd.C k69 w A1 l.length (l.map conv)) (hl : l.length ≤ 1000000) (hc0 : l.length ≤ c0) (hc1 : l.length ≤ c1) :
    Calls Try.prog 28 #[.slice A0 l.length c0, .slice A1 l.length c1] w fun e w' => e = .returned (.bool true) ∧ Below w.heap.size w w' := by
  have hl' : (l.map conv).length = l.length := List.length_map _
  have h := analemmaref08_Same.calls (l.length + 1) A0 c0 (l.map conv) A1 c1 (l.map conv) true w (by rw [hl']; exact h0) (by rw [hl']; exact hc0) (by rw [hl']; exact h1) (by rw [hl']; exact hc1) (by rw [← hl']; exact same_f _ (by rw [hl']; exact hl))
  rw [hl'] at h
  refine h.mono ?_
  rintro e w' ⟨rfl, nq, rfl⟩
  exact ⟨rfl, pw_below_drewN (Below.refl _ _) nq⟩
/-- A row of items that a statement holds, apart from the agenda's own blocks. -/
structure Held (W : World) (F : Nat → Prop) (ad : Option Addr) (l : List S34) : Prop where
  row : RowI 0 W ad l
  off : ∀ g, ad = some ⟨g, 0, none⟩ → l ≠ [] → ¬ F g ∧ g < W.heap.size
theorem RowI.keep {b : Nat} {w W : World} {ad : Option Addr} {l : List S34} {S : Nat → Prop} (h : RowI b w ad l) (hk : Kept w W S) (hS : ∀ g, ad = some ⟨g, 0, none⟩ → l ≠ [] → ¬ S g) : RowI b W ad l := by
  intro j x hx
  obtain ⟨g, e, hb, hlt, h0, h1, h2, h3⟩ := h j x hx
  have hne : l ≠ [] := fun e2 => by rw [e2] at hx; simp at hx
  have hg : W.heap[g]? = w.heap[g]? := hk.2 g hlt (hS g e hne)
  exact ⟨g, e, hb, Nat.lt_of_lt_of_le hlt hk.1, (World.cell?_of_block (w := w) (a := ⟨g, j * 4, none⟩) hg).trans h0, (World.cell?_of_block (w := w) (a := ⟨g, j * 4 + 1, none⟩) hg).trans h1, (World.cell?_of_block (w := w) (a := ⟨g, j * 4 + 2, none⟩) hg).trans h2, (World.cell?_of_block (w := w) (a := ⟨g, j * 4 + 3, none⟩) hg).trans h3⟩
theorem Held.to {B : Nat} {W W2 : World} {F F2 : Nat → Prop} {ad : Option Addr} {l : List S34} (h : Held W F ad l) (hT : To B W W2 F F2) : Held W2 F2 ad l :=
  ⟨h.row.keep hT.kept (fun g e hne => (h.off g e hne).1), fun g e hne => ⟨fun hk => (hT.sub g hk).elim (h.off g e hne).1 (fun h2 => by have := (h.off g e hne).2; omega), Nat.lt_of_lt_of_le (h.off g e hne).2 hT.kept.1⟩⟩
theorem Held.far {W W2 : World} {F : Nat → Prop} {ad : Option Addr} {l : List S34} (h : Held W F ad l) (hb : Below W.heap.size W W2) : Held W2 F ad l :=
  ⟨h.row.far hb, fun g e hne => ⟨(h.off g e hne).1, Nat.lt_of_lt_of_le (h.off g e hne).2 hb.size⟩⟩
theorem Held.new {W W2 : World} {F : Nat → Prop} {ad : Option Addr} {l : List S34} (hF : ∀ k, F k → k < W.heap.size) (h : RowI W.heap.size W2 ad l) : Held W2 F ad l := by
  refine ⟨fun j x hx => ?_, fun g e hne => ?_⟩
  · obtain ⟨g, e, hb, r⟩ := h j x hx
    exact ⟨g, e, Nat.zero_le _, r⟩
  · obtain ⟨x, l', rfl⟩ := List.exists_cons_of_ne_nil hne
    obtain ⟨g2, e2, hb, hlt, _⟩ := h 0 x rfl
    rw [e] at e2
    cases e2
    exact ⟨fun hk => by have := hF g hk; omega, hlt⟩
theorem offR_ins {x : S34} : ∀ {M : List S34}, (∀ z ∈ M, z.f3 ≠ x.f3) → offR x.f3 (insR x M) = M
  | [], _ => by simp [insR, offR]
  | y :: r, h => by
    rw [insR]
    split
    · unfold offR
      rw [List.filter_cons_of_neg (by simp)]
      exact offR_same h
    · unfold offR
      rw [List.filter_cons_of_pos (by simpa using h y List.mem_cons_self)]
      have ih := offR_ins (x := x) (M := r) (fun z hz => h z (List.mem_cons_of_mem _ hz))
      unfold offR at ih
      rw [ih]
theorem ins_off {L : List S34} (hs : Srt L) (hnd : L.Pairwise (fun a b => a.f3 ≠ b.f3)) {y : S34} (hy : y ∈ L) : insR y (offR y.f3 L) = L := by
  refine srt_uniq (insR_srt y _ (offR_srt hs _) (fun z hz => (offR_ne hz).2)) hs ?_
  refine (insR_perm y _).trans ?_
  obtain ⟨a, b, rfl⟩ := List.append_of_mem hy
  have h1 := List.pairwise_append.1 hnd
  have h2 := List.pairwise_cons.1 h1.2.1
  have e : offR y.f3 (a ++ y :: b) = a ++ b := by
    unfold offR
    rw [List.filter_append, List.filter_cons_of_neg (by simp)]
    have e1 := offR_same (L := a) (t := y.f3) (fun z hz => h1.2.2 z hz y List.mem_cons_self)
    have e2 := offR_same (L := b) (t := y.f3) (fun z hz => (h2.1 z hz).symm)
    unfold offR at e1 e2
    rw [e1, e2]
  rw [e]
  exact (List.perm_middle (l₁ := a) (l₂ := b) (a := y)).symm
theorem putR_k {a k : Int} {L : List S34} {g : Int} (ha : 0 ≤ a) (hk : 0 ≤ k ∧ k ≤ 255) (hl : L.length < 1000) : putR a k ⟨#[]⟩ L g = (g + 1, 0, insR ⟨a, k, ⟨#[]⟩, g + 1⟩ L, g + 1) := by
  unfold putR
  rw [if_neg (by unfold badP; have : (ByteArray.mk #[]).size = 0 := rfl; omega), if_neg (by omega)]
theorem ne1 {j m : Nat} (h : ¬ j = m) : ((j : Int) + 1 != (m : Int) + 1) = true := bne_iff_ne.mpr (by omega)
theorem ne2 {j m : Nat} (h : ¬ j = m) : ((j : Int) + 1 == (m : Int) + 1) = false := beq_eq_false_iff_ne.mpr (by omega)
theorem w64_small (j : Nat) (h : j ≤ 1000000) : wrap64 (j : Int) = (j : Int) := by
  unfold wrap64
  omega
theorem rd_mem {l : List Int} {i : Nat} (hi : i < l.length) : rd l (i : Int) ∈ l := by
  unfold rd
  rw [List.getD_eq_getElem?_getD, Int.toNat_natCast, List.getElem?_eq_getElem hi]
  exact List.getElem_mem hi

end Go.Proofs.Ytdlbnkiolpmnbaa.Ag
