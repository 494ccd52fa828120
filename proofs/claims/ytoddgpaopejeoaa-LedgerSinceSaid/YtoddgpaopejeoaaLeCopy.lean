/- copy, onto a row of one's own of as many structs; the clock's Entries. Each says its own conditions. -/
import Derived.Test.YtoddgpaopejeoaaBLed
import Derived.Test.YtoddgpaopejeoaaMLedx0
import Derived.Test.YtoddgpaopejeoaaMLedx1
import Derived.Test.YtoddgpaopejeoaaMLedx2
import Derived.Test.YtoddgpaopejeoaaMLedx3
import Derived.Test.YtoddgpaopejeoaaMLedx4
import Derived.WalkKit
import Derived.Deep.RegionLaw
import Derived.Deep.RegionWith
import Derived.Deep.RegionHeld3
import Derived.BigRegion
import Derived.BigQuiet
import Derived.StillTailTactics
import Derived.Test.YtoddgpaopejeoaaLeAt
import Derived.Test.YtoddgpaopejeoaaLeRead
import Derived.Test.YtoddgpaopejeoaaLeCor
import Derived.Test.YtoddgpaopejeoaaLeRate
import Derived.Test.YtoddgpaopejeoaaLeRef
import Derived.Test.YtoddgpaopejeoaaLeRCor
import Derived.Test.YtoddgpaopejeoaaLeDoes
import Derived.Laws.IdiomCopy
namespace Go.Proofs.Ytoddgpaopejeoaa.Le
open Go.RowKit Go.Proofs.Ytoddgpaopejeoaa.MLed Go.Proofs.Ytoddgpaopejeoaa.Pure Go.Proofs.YtoddgpaopejeoaaW.PrintWords Go.Proofs.YtoddgpaopejeoaaW.PrintLast Go.Proofs.YtoddgpaopejeoaaW.PrintMore
attribute [local go_sem] max2_int min2_int max_two min_two max_three min_three max_four min_four
set_option linter.unusedVariables false
set_option linter.unusedSimpArgs false
-- import Derived.Laws.IdiomCopy
section
variable {P : Program}
theorem run_copy_cells_of (w : World) (dT sT ty elem : TypeId) (b o dLen dCap : Nat) (a : Addr) (sLen sCap sz : Nat) (cs : List Value)
    (hu : P.underlying dT = some (.slice elem)) (hs : (P.info? elem).map (·.size) = some sz) (hn : cs.length = Nat.min sLen dLen * sz)
    (hsrc : ∀ j v, cs[j]? = some v → w.cell? (a.add j) = some v) (hc : ∀ j, j < cs.length → (w.cell? ⟨b, o + j, none⟩).isSome = true) (hf : ∀ j, j < cs.length → w.frozen? ⟨b, o + j, none⟩ = false) (h1 : ∀ v ∈ cs, v.oneCell' = true) :
    (Builtin.copy_ #[dT, sT] ty #[.slice (some ⟨b, o, none⟩) dLen dCap, .slice (some a) sLen sCap]).run P w = .ok (goInt (Nat.min sLen dLen : Nat)) (w.setCells b o cs) := by
  have hl := run_loadCells_list (P := P) w a cs hsrc
  have hst := run_storeCells_cells (P := P) b o cs 0 w (by simpa using hc) (by simpa using hf) h1
  cases hq : P.info? elem with
  | none => simp [hq] at hs
  | some i =>
    have hi : i.size = sz := by simpa [hq] using hs
    simp [Builtin.copy_, run_underlying hu, Builtin.lenOf, Builtin.firstCells, sizeOf, typeInfo, hq, hi, ← hn, hl, hst]
theorem run_copy_nil (w : World) (dT sT ty elem : TypeId) (b o dLen dCap sLen sCap sz : Nat) (hu : P.underlying dT = some (.slice elem)) (hs : (P.info? elem).map (·.size) = some sz) (hn : Nat.min sLen dLen = 0) :
    (Builtin.copy_ #[dT, sT] ty #[.slice (some ⟨b, o, none⟩) dLen dCap, .slice none sLen sCap]).run P w = .ok (goInt (0 : Nat)) w := by
  cases hq : P.info? elem with
  | none => simp [hq] at hs
  | some i => simp [Builtin.copy_, run_underlying hu, Builtin.lenOf, Builtin.firstCells, sizeOf, typeInfo, hq, hn, storeCells]
variable {ops : Array Oper} {rest : List Oper} {o : Oper} {a : Act} {Q : Exit → Act → World → Prop} {α : Type}
theorem R_copy_all (d : Kd α) (hKM : ∀ {w W base ok x cs}, d.K w x cs → d.M W base ok x cs) (hs0 : 0 < d.sz) {w0 W : World} (base : Nat) (hgd : o.guard = none) (s x : Operand) (t t' e : TypeId)
    (ho : o.op = .call { callee := .builtin .copy, args := #[s, x], argTypes := #[t, t'] }) (ht : P.underlying t = some (.slice e)) (hinfo : (P.info? e).map (·.size) = some d.sz)
    (v : Value) (xs ys : List α) (A : Option Addr) (m c : Nat) (ok : Nat → Prop) (hs : a.eval s = v) (hx : a.eval x = .slice A m c) (hb : ∃ b, v.ownBlock = some b)
    (HO : d.R e W base ok v xs) (HR : d.C W A m ys) (hlen : xs.length = m) (HB : Below base w0 W) (hbase : base ≤ W.heap.size)
    (h : ∀ w1, d.R e w1 base ok v ys → Below base w0 w1 → W.grownBy w1 v.ownBlock → wpList P ops Q rest (a.put o.dst (.int .i64 m)) w1) :
    wpList P ops Q (o :: rest) a W := by
  have hm : ys.length = m := HR.1
  obtain ⟨hok, inner, hown, hr⟩ := HO
  have fin : ∀ w1, (Builtin.copy_ #[t, t'] o.type #[v, .slice A m c]).run P W = .ok (goInt ((m : Nat) : Int)) w1 → d.R e w1 base ok v ys → W.grownBy w1 v.ownBlock → wpList P ops Q (o :: rest) a W := by
    intro w1 hr hrow hg
    refine wpList_plain hgd fun K hK => ?_
    unfold Oper.wp execOp
    simp only [ho, resolve, invoke, builtin, Sem.run_bind, Sem.run_pure, Result.andThen_ok, List.map_toArray, List.map_cons, List.map_nil, hs, hx, hr]
    exact hK _ _ (h w1 hrow (HB.grown hg hbase (own_base hown)) hg)
  rcases hown.2 with ⟨hv, _⟩ | ⟨g, cap, cur, hv, hb2, hh, hnc, hcm, hcs, htake⟩
  · obtain ⟨b, hb⟩ := hb
    rw [hv] at hb
    simp [Value.ownBlock] at hb
  rcases A with _ | ad
  · have h0 : m = 0 := by
      rcases Nat.eq_zero_or_pos m with h0 | h0
      · exact h0
      · obtain ⟨ad, h, _⟩ := HR.2.2 h0
        cases h
    subst h0
    obtain rfl : ys = [] := List.eq_nil_of_length_eq_zero hm
    obtain rfl : xs = [] := List.eq_nil_of_length_eq_zero hlen
    refine fin W ?_ ⟨hok, inner, hown, hr⟩ (World.grownBy.refl W _)
    rw [hv]
    exact run_copy_nil W t t' o.type e g 0 _ cap 0 c d.sz ht hinfo (by simp)
  · obtain ⟨news, hnr, hnc2⟩ := ReadsRow.inner_ HR
    have hone : ∀ u ∈ news, u.oneCell' = true := by
      intro u hu
      obtain ⟨q, hq, rfl⟩ := List.mem_iff_getElem.1 hu
      have hql : q / d.sz < ys.length := by
        rw [Nat.div_lt_iff_lt_mul hs0, ← hnr.1]
        exact hq
      have hc := hnr.2 (q / d.sz) _ (List.getElem?_eq_getElem hql)
      refine d.K_one hc _ ?_
      rw [List.mem_iff_getElem?]
      refine ⟨q % d.sz, ?_⟩
      rw [List.getElem?_take, if_pos (Nat.mod_lt _ hs0), List.getElem?_drop, Nat.mul_comm, Nat.div_add_mod, List.getElem?_eq_getElem hq]
    have hnl : news.length = m * d.sz := by rw [hnr.1, hm]
    have hle : m * d.sz ≤ cur.size := by
      rw [hcs]
      exact Nat.mul_le_mul_right _ (by omega)
    have hrun := run_copy_cells_of (P := P) W t t' o.type e g 0 xs.length cap ad m c d.sz news ht hinfo (by rw [hnl, hlen, show Nat.min m m = m from Nat.min_self m]) hnc2
      (fun j hj => by rw [cell_of_row W g _ cur e (0, 0) hh]; simp; omega) (fun j _ => blk_frozen hh _) hone
    rw [hlen, show Nat.min m m = m from Nat.min_self m] at hrun
    obtain ⟨cur', h3, h4, h5⟩ := setCells_row news 0 W cur hh (by omega)
    obtain ⟨s1, s2, s3, s4⟩ := setCells_same g news 0 W
    refine fin _ (by rw [hv, hlen]; exact hrun) ⟨hok, news, ?_, hnr.imp_ (fun _ _ hp => hKM hp)⟩ ⟨s1, s2, s3, by rw [s4]; exact Nat.le_refl _, fun k _ hk => setCells_far _ _ k (fun he => hk (by rw [hv, he]; simp [Value.ownBlock]))⟩
    refine ⟨hnr.1, .inr ⟨g, cap, cur', by rw [hv, hm, hlen], hb2, h3, by omega, hcm, by rw [h4, hcs], ?_⟩⟩
    rw [h5, List.take_zero, List.nil_append, hnr.1, List.take_append, hnr.1, List.take_of_length_le (by rw [hnr.1]; exact Nat.le_refl _), Nat.sub_self, List.take_zero, List.append_nil]
end

set_option maxHeartbeats 4000000 in
theorem entries_calls (g base0 : Nat) (s : LSt) (w : World) (hp : PC w g base0 s) (hl : s.xs.length ≤ 1000) :
    Calls Try.prog 20 #[.pointer (some ⟨g, 0, none⟩)] w fun e w' => ∃ v, e = .returned v ∧ Kd.R k87 87 w' w.heap.size (fun _ => True) v s.xs ∧ Below w.heap.size w w' := by
  obtain ⟨v, hc, ho⟩ := hp
  obtain ⟨A, c, hv, _, hC⟩ := Kd.R_reads ho
  subst hv
  have HC := Aside0.mk hc
  have HR := Aside0.mk hC
  have k3 := (blk_cell hc 3).trans (show _ = some (Value.slice A s.xs.length c) from rfl)
  have LN := Aside0.mk hl
  clear hc ho hC hl
  go_enter Try.func20, Try.ntmps20
  go_wp2_with (first
    | ((with_reducible refine gate_dst (N := 9) rfl ?_); refine Kd.R_make k87 (w0 := w) w.heap.size 87 ?hg (N := 9) ?hd 41 (.tmp 8) (.tmp 8) rfl s.xs.length rfl rfl Try.underlying41 (.agg #[(.int .i64 0), (.int .i64 0), (.bool false)]) 24 info87 rfl (by decide) (by omega) z87 (okp := fun _ => True) (ok := fun _ => True) ?hz (fun _ hk => hk) trivial (by omega) ?hl (Below.refl _ _) (Nat.le_refl _) ?_; (case hd => rfl); (case hg => rfl); (case hz => exact k87_mkM _ _ _ z87); (case hl => have := LN.out; simp; omega); intro v1 w1 h1 h2 h3 h4; simp only [Int.toNat_natCast] at h1; have H1 := Aside0.mk h1; have B1 := Aside0.mk h2; have N1 := Aside0.mk h4; have HC1 := Aside0.mk (blk_below HC.out h2); have HR1 := Aside0.mk (Kd.C_below HR.out h2); have k3 := (blk_cell HC1.out 3).trans (show _ = some (Value.slice A s.xs.length c) from rfl); clear h1 h2 h3 h4)
    | ((with_reducible refine gate_builtin (b := .copy) (xs := #[.tmp 10, .tmp 14]) rfl ?_); refine R_copy_all k87 (fun h => h) (by decide) (w0 := w) w.heap.size rfl (.tmp 10) (.tmp 14) 41 41 87 rfl Try.underlying41 (by kernel_rfl) v1 _ s.xs A s.xs.length c (fun _ => True) rfl rfl ?hb H1.out HR1.out (List.length_replicate ..) B1.out B1.out.size ?_; (case hb => obtain ⟨b, h, _⟩ := N1.out; exact ⟨b, h⟩); intro w2 h1 h2 h3; have H2 := Aside0.mk h1; have B2 := Aside0.mk h2; clear h1 h2 h3))
  go_ret
  exact ⟨_, rfl, H2.out, B2.out⟩

end Go.Proofs.Ytoddgpaopejeoaa.Le
