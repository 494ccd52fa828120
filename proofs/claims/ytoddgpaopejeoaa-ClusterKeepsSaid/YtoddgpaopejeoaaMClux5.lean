/- Functions that the statements of this seat reach, each as a plain Lean function, with a proof that the Go code comes to its answers; no condition. -/
import Derived.Test.YtoddgpaopejeoaaMClux0
import Derived.Test.YtoddgpaopejeoaaMClux1
import Derived.Test.YtoddgpaopejeoaaMClux4
namespace Go.Proofs.Ytoddgpaopejeoaa.MClu
open Go.RowKit Go.Proofs.YtoddgpaopejeoaaW.PrintWords Go.Proofs.YtoddgpaopejeoaaW.PrintLast Go.Proofs.YtoddgpaopejeoaaW.PrintMore
attribute [local go_sem] max2_int min2_int max_two min_two max_three min_three max_four min_four   -- for this text's walks alone
set_option linter.unusedVariables false
set_option linter.unusedSimpArgs false

/-! ### cluster_Prune: function 30 -/
theorem drop_atN (ps : List S70) (j : Nat) (h : j < ps.length) : ps.drop j = rd_T70 ps (j : Int) :: ps.drop (j + 1) := by
  rw [List.drop_eq_getElem_cons h]
  unfold rd_T70
  rw [Int.toNat_natCast, List.getD_eq_getElem?_getD, List.getElem?_eq_getElem h]
  rfl
theorem tell_S (x : S70) (W : World) : Calls Try.prog 65 #[.agg #[.int .i64 x.f0, .int .i64 x.f1, .int .i64 x.f2]] W fun e w' => e = .returned (.int .i64 x.f0) ∧ Below W.heap.size W w' := by
  go_enter Try.func65, Try.ntmps65
  go_wp2_with (fail)
  go_ret
  exact ⟨rfl, below_alloc (Below.refl _ _) _⟩
def clu.foldS : List S70 → Int → Int → Int × Int
  | [], a, b => (a, b)
  | x :: xs, a, b => clu.foldS xs (if x.f0 < a then x.f0 else a) (if b < x.f0 then x.f0 else b)
def clu.endsS (l : List S70) : Int × Int := if l.length = 0 then (0, 0) else clu.foldS (l.drop 1) (rd_T70 l 0).f0 (rd_T70 l 0).f0
theorem foldS_cons (x : S70) (xs : List S70) (a b : Int) : clu.foldS (x :: xs) a b = clu.foldS xs (if x.f0 < a then x.f0 else a) (if b < x.f0 then x.f0 else b) := rfl
set_option maxHeartbeats 8000000 in
set_option maxRecDepth 100000 in
theorem ends_S (A0 : Option Addr) (c0 : Nat) (l0 : List S70) (w : World) (hr0 : Kd.C k70 w A0 l0.length l0) (hl : l0.length ≤ 1000) :
    Calls Try.prog 57 #[.slice A0 l0.length c0, .func (.func 65) #[] #[]] w fun e w' => e = .returned (.tuple #[.int .i64 (clu.endsS l0).1, .int .i64 (clu.endsS l0).2]) ∧ Below w.heap.size w w' := by
  have hu70 := Try.underlying70
  have HR0 := Aside0.mk hr0
  have HZ := Aside0.mk hl
  have HB0 := Aside0.mk (Below.refl w.heap.size w)
  clear hr0 hl
  go_enter Try.func57, Try.ntmps57
  go_wp2_with (fail)
  go_loopg [4, 5, 11] l0.length (fun kq v4 v5 v11 w' => ∃ (j : Nat) (a b : Int), v11 = .int .i64 (j : Int) ∧ v4 = .int .i64 a ∧ v5 = .int .i64 b ∧ Aside0 (j + kq = l0.length) ∧ Aside0 ((j = 0 → a = 0 ∧ b = 0) ∧ (0 < j → clu.foldS (l0.drop j) a b = clu.endsS l0)) ∧ Aside0 (Below w.heap.size w w'))
  case atStart => exact ⟨0, 0, 0, rfl, rfl, rfl, ⟨by omega⟩, ⟨fun _ => ⟨rfl, rfl⟩, fun h => absurd h (by omega)⟩, HB0⟩
  case round =>
    clear HB0
    obtain ⟨j, a, b, rfl, rfl, rfl, HI, HS, HB⟩ := hrel
    by_cases hj : j < l0.length
    · have q1 : ((j : Int) < (l0.length : Int)) = True := eq_true (by omega)
      have q2 : ((0 : Int) ≤ (j : Int)) = True := eq_true (by omega)
      obtain ⟨ad, e, hx0, hx1, hx2⟩ := at_T70 HR0.out (j : Int) (by omega) (by omega)
      cases e
      replace hx0 := (HB.out.cell (World.block_lt_of_cell? w _ hx0)).trans hx0
      replace hx1 := (HB.out.cell (World.block_lt_of_cell? w _ hx1)).trans hx1
      replace hx2 := (HB.out.cell (World.block_lt_of_cell? w _ hx2)).trans hx2
      simp only [Int.toNat_natCast] at hx0 hx1 hx2
      have HDR := Aside0.mk (drop_atN l0 j hj)
      obtain ⟨x, hx⟩ : ∃ x, rd_T70 l0 (j : Int) = x := ⟨_, rfl⟩
      have HX := Aside0.mk hx
      rw [hx] at hx0 hx1 hx2 HDR
      clear hx
      have HT := Aside0.mk (fun W => tell_S x W)
      by_cases hj0 : j = 0
      · subst hj0
        have e0 : (((0 : Nat) : Int) == 0) = true := by decide
        have z1 : (if x.f0 < x.f0 then x.f0 else x.f0) = x.f0 := by split <;> rfl
        have hxx : (x.f0 < x.f0) = False := eq_false (by omega)
        have hj0' := Aside0.mk hj
        have ea : ad.add 0 = ad := by simp [Addr.add]
        rw [Nat.zero_mul, ea] at hx0 hx1 hx2
        have q3 : (0 < l0.length) = True := eq_true hj
        have q4 : ((0 : Int) < (l0.length : Int)) = True := eq_true (by omega)
        clear hj ea
        go_wp2_with (first | (go_at_call 65; (with_reducible refine (HT.out _).mono ?_); rintro e w2 ⟨rfl, b2⟩; have nB := Aside0.mk (below_step (below_alloc HB.out _) b2); clear b2))
        go_roundg (gk - 1)
        case measure => have := HI.out; have := hj0'.out; omega
        case rel => exact ⟨1, x.f0, x.f0, by have := HZ.out; simp [wrap64], rfl, rfl, ⟨by have := HI.out; have := hj0'.out; omega⟩, ⟨fun h => absurd h (by omega), fun _ => by unfold clu.endsS; rw [if_neg (by have := hj0'.out; omega), show rd_T70 l0 0 = x from HX.out]⟩, nB⟩
      · have e0 : ((j : Int) == 0) = false := beq_eq_false_iff_ne.mpr (by omega)
        have e1 : (j = 0) = False := eq_false hj0
        have e2 : ((j : Int) = 0) = False := eq_false (by omega)
        obtain ⟨a', ha'⟩ : ∃ a', (if x.f0 < a then x.f0 else a) = a' := ⟨_, rfl⟩
        obtain ⟨b', hb'⟩ : ∃ b', (if b < x.f0 then x.f0 else b) = b' := ⟨_, rfl⟩
        have HAB := Aside0.mk (And.intro ha' hb')
        go_wp2_with (first | (go_at_call 65; (with_reducible refine (HT.out _).mono ?_); rintro e w2 ⟨rfl, b2⟩; have nB := Aside0.mk (below_step (below_alloc HB.out _) b2); clear b2))
        go_roundg (gk - 1)
        case measure => have := HI.out; omega
        case rel => exact ⟨j + 1, a', b', by have := HZ.out; simp [wrap64]; omega, rfl, rfl, ⟨by have := HI.out; omega⟩, ⟨fun h => absurd h (by omega), fun _ => by have h := HS.out.2 (by omega); rw [HDR.out, foldS_cons, HAB.out.1, HAB.out.2] at h; exact h⟩, nB⟩
    · have q1 : ((j : Int) < (l0.length : Int)) = False := eq_false (by omega)
      have hjl : j = l0.length := by have := HI.out; omega
      have HF := Aside0.mk (show clu.endsS l0 = (a, b) by
        by_cases hz : l0.length = 0
        · obtain ⟨rfl, rfl⟩ := HS.out.1 (by omega)
          unfold clu.endsS
          rw [if_pos hz]
        · rw [← HS.out.2 (by omega), hjl, List.drop_length]
          rfl)
      clear hjl
      go_wp2_with (fail)
      go_ret2
      exact ⟨by rw [HF.out]; rfl, HB.out⟩
theorem tell_P (x : S70) (W : World) : Calls Try.prog 58 #[.agg #[.int .i64 x.f0, .int .i64 x.f1, .int .i64 x.f2]] W fun e w' => e = .returned (.int .i64 x.f1) ∧ Below W.heap.size W w' := by
  go_enter Try.func58, Try.ntmps58
  go_wp2_with (fail)
  go_ret
  exact ⟨rfl, below_alloc (Below.refl _ _) _⟩
def clu.foldP : List S70 → Int → Int → Int × Int
  | [], a, b => (a, b)
  | x :: xs, a, b => clu.foldP xs (if x.f1 < a then x.f1 else a) (if b < x.f1 then x.f1 else b)
def clu.endsP (l : List S70) : Int × Int := if l.length = 0 then (0, 0) else clu.foldP (l.drop 1) (rd_T70 l 0).f1 (rd_T70 l 0).f1
theorem foldP_cons (x : S70) (xs : List S70) (a b : Int) : clu.foldP (x :: xs) a b = clu.foldP xs (if x.f1 < a then x.f1 else a) (if b < x.f1 then x.f1 else b) := rfl
set_option maxHeartbeats 8000000 in
set_option maxRecDepth 100000 in
theorem ends_P (A0 : Option Addr) (c0 : Nat) (l0 : List S70) (w : World) (hr0 : Kd.C k70 w A0 l0.length l0) (hl : l0.length ≤ 1000) :
    Calls Try.prog 57 #[.slice A0 l0.length c0, .func (.func 58) #[] #[]] w fun e w' => e = .returned (.tuple #[.int .i64 (clu.endsP l0).1, .int .i64 (clu.endsP l0).2]) ∧ Below w.heap.size w w' := by
  have hu70 := Try.underlying70
  have HR0 := Aside0.mk hr0
  have HZ := Aside0.mk hl
  have HB0 := Aside0.mk (Below.refl w.heap.size w)
  clear hr0 hl
  go_enter Try.func57, Try.ntmps57
  go_wp2_with (fail)
  go_loopg [4, 5, 11] l0.length (fun kq v4 v5 v11 w' => ∃ (j : Nat) (a b : Int), v11 = .int .i64 (j : Int) ∧ v4 = .int .i64 a ∧ v5 = .int .i64 b ∧ Aside0 (j + kq = l0.length) ∧ Aside0 ((j = 0 → a = 0 ∧ b = 0) ∧ (0 < j → clu.foldP (l0.drop j) a b = clu.endsP l0)) ∧ Aside0 (Below w.heap.size w w'))
  case atStart => exact ⟨0, 0, 0, rfl, rfl, rfl, ⟨by omega⟩, ⟨fun _ => ⟨rfl, rfl⟩, fun h => absurd h (by omega)⟩, HB0⟩
  case round =>
    clear HB0
    obtain ⟨j, a, b, rfl, rfl, rfl, HI, HS, HB⟩ := hrel
    by_cases hj : j < l0.length
    · have q1 : ((j : Int) < (l0.length : Int)) = True := eq_true (by omega)
      have q2 : ((0 : Int) ≤ (j : Int)) = True := eq_true (by omega)
      obtain ⟨ad, e, hx0, hx1, hx2⟩ := at_T70 HR0.out (j : Int) (by omega) (by omega)
      cases e
      replace hx0 := (HB.out.cell (World.block_lt_of_cell? w _ hx0)).trans hx0
      replace hx1 := (HB.out.cell (World.block_lt_of_cell? w _ hx1)).trans hx1
      replace hx2 := (HB.out.cell (World.block_lt_of_cell? w _ hx2)).trans hx2
      simp only [Int.toNat_natCast] at hx0 hx1 hx2
      have HDR := Aside0.mk (drop_atN l0 j hj)
      obtain ⟨x, hx⟩ : ∃ x, rd_T70 l0 (j : Int) = x := ⟨_, rfl⟩
      have HX := Aside0.mk hx
      rw [hx] at hx0 hx1 hx2 HDR
      clear hx
      have HT := Aside0.mk (fun W => tell_P x W)
      by_cases hj0 : j = 0
      · subst hj0
        have e0 : (((0 : Nat) : Int) == 0) = true := by decide
        have z1 : (if x.f1 < x.f1 then x.f1 else x.f1) = x.f1 := by split <;> rfl
        have hxx : (x.f1 < x.f1) = False := eq_false (by omega)
        have hj0' := Aside0.mk hj
        have ea : ad.add 0 = ad := by simp [Addr.add]
        rw [Nat.zero_mul, ea] at hx0 hx1 hx2
        have q3 : (0 < l0.length) = True := eq_true hj
        have q4 : ((0 : Int) < (l0.length : Int)) = True := eq_true (by omega)
        clear hj ea
        go_wp2_with (first | (go_at_call 58; (with_reducible refine (HT.out _).mono ?_); rintro e w2 ⟨rfl, b2⟩; have nB := Aside0.mk (below_step (below_alloc HB.out _) b2); clear b2))
        go_roundg (gk - 1)
        case measure => have := HI.out; have := hj0'.out; omega
        case rel => exact ⟨1, x.f1, x.f1, by have := HZ.out; simp [wrap64], rfl, rfl, ⟨by have := HI.out; have := hj0'.out; omega⟩, ⟨fun h => absurd h (by omega), fun _ => by unfold clu.endsP; rw [if_neg (by have := hj0'.out; omega), show rd_T70 l0 0 = x from HX.out]⟩, nB⟩
      · have e0 : ((j : Int) == 0) = false := beq_eq_false_iff_ne.mpr (by omega)
        have e1 : (j = 0) = False := eq_false hj0
        have e2 : ((j : Int) = 0) = False := eq_false (by omega)
        obtain ⟨a', ha'⟩ : ∃ a', (if x.f1 < a then x.f1 else a) = a' := ⟨_, rfl⟩
        obtain ⟨b', hb'⟩ : ∃ b', (if b < x.f1 then x.f1 else b) = b' := ⟨_, rfl⟩
        have HAB := Aside0.mk (And.intro ha' hb')
        go_wp2_with (first | (go_at_call 58; (with_reducible refine (HT.out _).mono ?_); rintro e w2 ⟨rfl, b2⟩; have nB := Aside0.mk (below_step (below_alloc HB.out _) b2); clear b2))
        go_roundg (gk - 1)
        case measure => have := HI.out; omega
        case rel => exact ⟨j + 1, a', b', by have := HZ.out; simp [wrap64]; omega, rfl, rfl, ⟨by have := HI.out; omega⟩, ⟨fun h => absurd h (by omega), fun _ => by have h := HS.out.2 (by omega); rw [HDR.out, foldP_cons, HAB.out.1, HAB.out.2] at h; exact h⟩, nB⟩
    · have q1 : ((j : Int) < (l0.length : Int)) = False := eq_false (by omega)
      have hjl : j = l0.length := by have := HI.out; omega
      have HF := Aside0.mk (show clu.endsP l0 = (a, b) by
        by_cases hz : l0.length = 0
        · obtain ⟨rfl, rfl⟩ := HS.out.1 (by omega)
          unfold clu.endsP
          rw [if_pos hz]
        · rw [← HS.out.2 (by omega), hjl, List.drop_length]
          rfl)
      clear hjl
      go_wp2_with (fail)
      go_ret2
      exact ⟨by rw [HF.out]; rfl, HB.out⟩

section
variable {P : Program} {ops : Array Oper} {rest : List Oper} {o : Oper} {a : Act} {Q : Exit → Act → World → Prop} {α : Type}
theorem R_clear_tail (d : Kd α) {w0 W : World} (base : Nat) (hgd : o.guard = none) (hdst : o.dst = none) (s : Operand) (t e : TypeId) (z : Value) (ho : o.op = .call { callee := .builtin .clear, args := #[s], argTypes := #[t] }) (ht : P.underlying t = some (.slice e))
    (hinfo : (P.info? e).map (fun i => (i.zero, i.size)) = some (some z, d.sz)) (hz : z.cells.size = d.sz) (hz1 : ∀ u ∈ z.cells.toList, u.oneCell' = true) {g n m c c2 off : Nat} {xs : List α} {ok : Nat → Prop}
    (hs : a.eval s = .slice (some ⟨g, off, none⟩) (m + 1) c2) (hoff : off = n * d.sz) (HO : d.R e W base ok (.slice (some ⟨g, 0, none⟩) n c) xs) (hn : n + (m + 1) ≤ c) (HB : Below base w0 W) (hbase : base ≤ W.heap.size)
    (h : ∀ w1, d.R e w1 base ok (.slice (some ⟨g, 0, none⟩) n c) xs → Below base w0 w1 → W.grownBy w1 (some g) → wpList P ops Q rest a w1) :
    wpList P ops Q (o :: rest) a W := by
  obtain ⟨i, hi, hzz⟩ := Option.map_eq_some_iff.1 hinfo
  simp only [Prod.mk.injEq] at hzz
  obtain ⟨hz0, hsz⟩ := hzz
  obtain ⟨hok, inner, hown, hr⟩ := HO
  rcases hown.2 with ⟨hv, _⟩ | ⟨g', cap, cur, hv, hb2, hh, hnc, hcm, hcs, htake⟩
  · cases hv
  injection hv with ha hn' hc'
  injection ha with ha
  injection ha with hg'
  subst hg'
  subst hc'
  have hvl : (Builtin.zeroCells z.cells (m + 1)).toList.length = (m + 1) * d.sz := by simp [Builtin.zeroCells, hz]
  have hone : ∀ u ∈ (Builtin.zeroCells z.cells (m + 1)).toList, u.oneCell' = true := by
    intro u hu
    simp only [Builtin.zeroCells, Array.toList_map, List.mem_map] at hu
    obtain ⟨q, hq, rfl⟩ := hu
    rcases Nat.eq_zero_or_pos z.cells.size with h0 | h0
    · simp [h0] at hq
    · have hlt := Nat.mod_lt q h0
      rw [getElem!_pos z.cells (q % z.cells.size) hlt]
      exact hz1 _ (Array.getElem_mem_toList hlt)
  have hle : off + (m + 1) * d.sz ≤ cur.size := by
    rw [hoff, hcs, ← Nat.add_mul]
    exact Nat.mul_le_mul_right _ hn
  have hst := run_storeCells_cells (P := P) g off (Builtin.zeroCells z.cells (m + 1)).toList 0 W (fun j hj => by rw [cell_of_row W g _ cur e (0, 0) hh]; simp; omega) (fun j _ => blk_frozen hh _) hone
  simp only [Nat.add_zero] at hst
  have hrun : (Builtin.clear_ #[t] o.type #[.slice (some ⟨g, off, none⟩) (m + 1) c2]).run P W = .ok (.tuple #[]) (W.setCells g off (Builtin.zeroCells z.cells (m + 1)).toList) := by
    simp [Builtin.clear_, run_underlying ht, zeroValue, typeInfo, hi, hz0, hst]
  obtain ⟨cur', h3, h4, h5⟩ := setCells_row (Builtin.zeroCells z.cells (m + 1)).toList off W cur hh (by rw [hvl]; exact hle)
  obtain ⟨s1, s2, s3, s4⟩ := setCells_same g (Builtin.zeroCells z.cells (m + 1)).toList off W
  have hfar : ∀ k, k ≠ g → (W.setCells g off (Builtin.zeroCells z.cells (m + 1)).toList).heap[k]? = W.heap[k]? := fun k hk => setCells_far _ _ k hk
  have hg : W.grownBy (W.setCells g off (Builtin.zeroCells z.cells (m + 1)).toList) (some g) := ⟨s1, s2, s3, by rw [s4]; exact Nat.le_refl _, fun k _ hk => hfar k (fun he => hk (by rw [he]))⟩
  have hnx : n = xs.length := hn'
  refine wpList_plain hgd fun K hK => ?_
  unfold Oper.wp execOp
  simp only [ho, resolve, invoke, builtin, Sem.run_bind, Sem.run_pure, Result.andThen_ok, List.map_toArray, List.map_cons, List.map_nil, hs, hrun, hdst]
  have ho2 : off = xs.length * d.sz := by rw [hoff, hnx]
  have hcur : cur'.toList.take (xs.length * d.sz) = inner := by
    rw [h5, ← ho2, List.append_assoc, List.take_append_of_le_length (by rw [List.length_take, Array.length_toList]; omega), List.take_take, Nat.min_self, ho2]
    exact htake
  refine hK _ _ ?_
  rw [hdst]
  refine h _ ⟨hok, inner, ⟨hown.1, .inr ⟨g, c, cur', by rw [hnx], hb2, h3, hnc, hcm, by rw [h4, hcs], hcur⟩⟩, ?_⟩ (HB.grown hg hbase (own_base hown)) hg
  exact hr.imp_ (fun _ _ hq => d.M_move (fun k hk => hfar k (fun he => hk.2 (by rw [he]; simp [Value.ownBlock]))) hq)
end
theorem infoInt : (Try.prog.info? 3).map (fun i => (i.zero, i.size, i.bytes)) = some (some (.int .i64 0), 1, 8) := by kernel_rfl
set_option maxHeartbeats 8000000 in
set_option maxRecDepth 100000 in
theorem delete_node (base : Nat) (w0 w : World) (g n c : Nat) (xs : List S70) (k : Nat) (HO : Kd.R k70 70 w base (fun _ => True) (.slice (some ⟨g, 0, none⟩) n c) xs) (hk : k < n) (hn : n ≤ 1000) (HB : Below base w0 w) (hbase : base ≤ w.heap.size) :
    Calls Try.prog 60 #[.slice (some ⟨g, 0, none⟩) n c, .int .i64 (k : Int), .int .i64 ((k : Int) + 1)] w fun e w' => e = .returned (.slice (some ⟨g, 0, none⟩) (n - 1) c) ∧ Kd.R k70 70 w' base (fun _ => True) (.slice (some ⟨g, 0, none⟩) (n - 1) c) (xs.eraseIdx k) ∧ Below base w0 w' ∧ w.grownBy w' (some g) := by
  obtain ⟨A', c', ev, hnc, _⟩ := Kd.R_reads HO
  injection ev with e1 e2 e3
  subst e3
  have hnl : xs.length = n := e2.symm
  obtain ⟨i0, hi0, hz0⟩ := Option.map_eq_some_iff.1 infoN
  have hsz : i0.size = 3 := by simp only [Prod.mk.injEq] at hz0; exact hz0.2.1
  have hcut0 : ∃ V, ∀ W : World, (Instr.slice 53 (.slice (some ⟨g, 0, none⟩) n c) (some (.int .i64 (k : Int))) (some (.int .i64 ((k : Int) + 1))) (some (.int .i64 (n : Int)))).run Try.prog W = .ok V W := by
    have hel : Try.prog.elem 53 = 70 := by simp [Program.elem, Try.underlying53]
    refine ⟨sliced (some ⟨g, 0, none⟩) k (k + 1) n 3, fun W => ?_⟩
    rw [run_slice_lhm W 53 (some ⟨g, 0, none⟩) n c (by rw [hel]; exact Try.underlying53) .i64 .i64 .i64 (k : Int) ((k : Int) + 1) (n : Int) (by omega) (by omega) (by omega) (by omega), hel]
    simp [sizeOf, typeInfo, hi0, hsz, Result.andThen]
  obtain ⟨V0, hcut0⟩ := hcut0
  have hcut1 := cut_hi 53 70 .i64 Try.underlying53 hi0 3 hsz (some ⟨g, 0, none⟩) n c (k : Int) (by omega) (by omega) (fun _ _ => trivial)
  have hcut2 := cut_lo 53 70 .i64 Try.underlying53 hi0 3 hsz (some ⟨g, 0, none⟩) n c ((k : Int) + 1) (by omega) (by omega)
  have hcut3 := cut_mid 53 70 .i64 .i64 Try.underlying53 hi0 3 hsz (some ⟨g, 0, none⟩) (n - 1 + 1) c ((n - 1 : Nat) : Int) (n : Int) (by omega) (by omega) (by omega) (by omega)
  simp only [Int.toNat_natCast, show ((k : Int) + 1).toNat = k + 1 from by omega] at hcut1 hcut2
  obtain ⟨A2, hA2⟩ : ∃ A2, (if c = k + 1 then some ⟨g, 0, none⟩ else (some (⟨g, 0, none⟩ : Addr)).map (·.add ((k + 1) * 3))) = A2 := ⟨_, rfl⟩
  rw [hA2] at hcut2
  have hcut4 : ∀ W : World, (Instr.slice 53 (.slice (some ⟨g, 0, none⟩) (n - 1) c) (some (.int .i64 ((n - 1 : Nat) : Int))) (some (.int .i64 (n : Int))) none).run Try.prog W = .ok (.slice (some ⟨g, (n - 1) * 3, none⟩) 1 (c - (n - 1))) W := by
    intro W
    have hel : Try.prog.elem 53 = 70 := by simp [Program.elem, Try.underlying53]
    rw [run_slice_lh W 53 (some ⟨g, 0, none⟩) (n - 1) c (by rw [hel]; exact Try.underlying53) .i64 .i64 ((n - 1 : Nat) : Int) (n : Int) (by omega) (by omega) (by omega), hel]
    have h1 : ¬ c = n - 1 := by omega
    have h2 : n - (n - 1) = 1 := by omega
    simp [sizeOf, typeInfo, hi0, hsz, sliced, Result.andThen, h1, h2, add_plain]
  have q1 : ((k : Int) == (k : Int) + 1) = false := beq_eq_false_iff_ne.mpr (by omega)
  have q2 : ((k : Int) = (k : Int) + 1) = False := eq_false (by omega)
  have HO0 := Aside0.mk HO
  have HA2 := Aside0.mk hA2
  have HK := Aside0.mk (And.intro hk (And.intro hnl (And.intro (show n ≤ c by omega) (And.intro HB hbase))))
  clear HO HB hbase hA2 hk hnl hcut3 hi0 hz0 hsz hnc e1 e2 hn
  go_enter Try.func60, Try.ntmps60
  go_wp2_with (fail)
  go_region_law (refine Kd.R_delete_step k70 (w0 := w0) (W := w.drew) base (by rfl) (.tmp 22) (.tmp 25) 53 70 rfl Try.underlying53 (by kernel_rfl) (g := g) (n := n) (c := c) (k := k) (m := n - (k + 1)) (c2 := c - (k + 1)) (A := A2) (xs := xs) (ok := fun _ => True) rfl rfl HA2.out.symm rfl (Kd.R_drew HO0.out) HK.out.1 HK.out.2.2.2.1.drew HK.out.2.2.2.2 ?_; intro w1 h1 b1 hg1; have H1 := Aside0.mk h1; have B1 := Aside0.mk b1; have G1 := Aside0.mk hg1; clear h1 b1 hg1)
  all_goals
    go_wp2_with (first
      | (refine R_clear_tail k70 (w0 := w0) base rfl rfl (.tmp 31) 53 70 (.agg #[(.int .i64 0), (.int .i64 0), (.int .i64 0)]) rfl Try.underlying53 (by kernel_rfl) rfl (by simp [Value.cells, Value.oneCell']) (g := g) (n := n - 1) (m := 0) (c := c) (off := (n - 1) * 3) (xs := xs.eraseIdx k) (ok := fun _ => True) rfl rfl H1.out ?hle B1.out ?hb ?_; (case hle => have := HK.out; omega); (case hb => exact Nat.le_trans HK.out.2.2.2.2 G1.out.size); intro w2 h2 b2 hg2; have H2 := Aside0.mk h2; have B2 := Aside0.mk b2; have G2 := Aside0.mk hg2; clear h2 b2 hg2))
    go_ret
    exact ⟨rfl, H2.out, B2.out, by have h := G1.out.trans G2.out; exact ⟨h.os, h.tape, h.output, h.size, h.block⟩⟩
set_option maxHeartbeats 8000000 in
set_option maxRecDepth 100000 in
theorem delete_int (base : Nat) (w0 w : World) (g n c : Nat) (xs : List Int) (k : Nat) (HO : Kd.R (Kd.int .i64) 3 w base (fun _ => True) (.slice (some ⟨g, 0, none⟩) n c) xs) (hk : k < n) (hn : n ≤ 1000) (HB : Below base w0 w) (hbase : base ≤ w.heap.size) :
    Calls Try.prog 59 #[.slice (some ⟨g, 0, none⟩) n c, .int .i64 (k : Int), .int .i64 ((k : Int) + 1)] w fun e w' => e = .returned (.slice (some ⟨g, 0, none⟩) (n - 1) c) ∧ Kd.R (Kd.int .i64) 3 w' base (fun _ => True) (.slice (some ⟨g, 0, none⟩) (n - 1) c) (xs.eraseIdx k) ∧ Below base w0 w' ∧ w.grownBy w' (some g) := by
  obtain ⟨A', c', ev, hnc, _⟩ := Kd.R_reads HO
  injection ev with e1 e2 e3
  subst e3
  have hnl : xs.length = n := e2.symm
  obtain ⟨i0, hi0, hz0⟩ := Option.map_eq_some_iff.1 infoInt
  have hsz : i0.size = 1 := by simp only [Prod.mk.injEq] at hz0; exact hz0.2.1
  have hcut0 : ∃ V, ∀ W : World, (Instr.slice 59 (.slice (some ⟨g, 0, none⟩) n c) (some (.int .i64 (k : Int))) (some (.int .i64 ((k : Int) + 1))) (some (.int .i64 (n : Int)))).run Try.prog W = .ok V W := by
    have hel : Try.prog.elem 59 = 3 := by simp [Program.elem, Try.underlying59]
    refine ⟨sliced (some ⟨g, 0, none⟩) k (k + 1) n 1, fun W => ?_⟩
    rw [run_slice_lhm W 59 (some ⟨g, 0, none⟩) n c (by rw [hel]; exact Try.underlying59) .i64 .i64 .i64 (k : Int) ((k : Int) + 1) (n : Int) (by omega) (by omega) (by omega) (by omega), hel]
    simp [sizeOf, typeInfo, hi0, hsz, Result.andThen]
  obtain ⟨V0, hcut0⟩ := hcut0
  have hcut1 := cut_hi 59 3 .i64 Try.underlying59 hi0 1 hsz (some ⟨g, 0, none⟩) n c (k : Int) (by omega) (by omega) (fun _ _ => trivial)
  have hcut2 := cut_lo 59 3 .i64 Try.underlying59 hi0 1 hsz (some ⟨g, 0, none⟩) n c ((k : Int) + 1) (by omega) (by omega)
  have hcut3 := cut_mid 59 3 .i64 .i64 Try.underlying59 hi0 1 hsz (some ⟨g, 0, none⟩) (n - 1 + 1) c ((n - 1 : Nat) : Int) (n : Int) (by omega) (by omega) (by omega) (by omega)
  simp only [Int.toNat_natCast, show ((k : Int) + 1).toNat = k + 1 from by omega] at hcut1 hcut2
  obtain ⟨A2, hA2⟩ : ∃ A2, (if c = k + 1 then some ⟨g, 0, none⟩ else (some (⟨g, 0, none⟩ : Addr)).map (·.add ((k + 1) * 1))) = A2 := ⟨_, rfl⟩
  rw [hA2] at hcut2
  have hcut4 : ∀ W : World, (Instr.slice 59 (.slice (some ⟨g, 0, none⟩) (n - 1) c) (some (.int .i64 ((n - 1 : Nat) : Int))) (some (.int .i64 (n : Int))) none).run Try.prog W = .ok (.slice (some ⟨g, n - 1, none⟩) 1 (c - (n - 1))) W := by
    intro W
    have hel : Try.prog.elem 59 = 3 := by simp [Program.elem, Try.underlying59]
    rw [run_slice_lh W 59 (some ⟨g, 0, none⟩) (n - 1) c (by rw [hel]; exact Try.underlying59) .i64 .i64 ((n - 1 : Nat) : Int) (n : Int) (by omega) (by omega) (by omega), hel]
    have h1 : ¬ c = n - 1 := by omega
    have h2 : n - (n - 1) = 1 := by omega
    simp [sizeOf, typeInfo, hi0, hsz, sliced, Result.andThen, h1, h2, add_plain]
  have q1 : ((k : Int) == (k : Int) + 1) = false := beq_eq_false_iff_ne.mpr (by omega)
  have q2 : ((k : Int) = (k : Int) + 1) = False := eq_false (by omega)
  have HO0 := Aside0.mk HO
  have HA2 := Aside0.mk hA2
  have HK := Aside0.mk (And.intro hk (And.intro hnl (And.intro (show n ≤ c by omega) (And.intro HB hbase))))
  clear HO HB hbase hA2 hk hnl hcut3 hi0 hz0 hsz hnc e1 e2 hn
  go_enter Try.func59, Try.ntmps59
  go_wp2_with (fail)
  go_region_law (refine Kd.R_delete_step (Kd.int .i64) (w0 := w0) (W := w.drew) base (by rfl) (.tmp 22) (.tmp 25) 59 3 rfl Try.underlying59 (by kernel_rfl) (g := g) (n := n) (c := c) (k := k) (m := n - (k + 1)) (c2 := c - (k + 1)) (A := A2) (xs := xs) (ok := fun _ => True) rfl rfl HA2.out.symm rfl (Kd.R_drew HO0.out) HK.out.1 HK.out.2.2.2.1.drew HK.out.2.2.2.2 ?_; intro w1 h1 b1 hg1; have H1 := Aside0.mk h1; have B1 := Aside0.mk b1; have G1 := Aside0.mk hg1; clear h1 b1 hg1)
  all_goals
    go_wp2_with (first
      | (refine R_clear_tail (Kd.int .i64) (w0 := w0) base rfl rfl (.tmp 31) 59 3 (.int .i64 0) rfl Try.underlying59 (by kernel_rfl) rfl (by simp [Value.cells, Value.oneCell']) (g := g) (n := n - 1) (m := 0) (c := c) (off := n - 1) (xs := xs.eraseIdx k) (ok := fun _ => True) rfl (Nat.mul_one _).symm H1.out ?hle B1.out ?hb ?_; (case hle => have := HK.out; omega); (case hb => exact Nat.le_trans HK.out.2.2.2.2 G1.out.size); intro w2 h2 b2 hg2; have H2 := Aside0.mk h2; have B2 := Aside0.mk b2; have G2 := Aside0.mk hg2; clear h2 b2 hg2))
    go_ret
    exact ⟨rfl, H2.out, B2.out, by have h := G1.out.trans G2.out; exact ⟨h.os, h.tape, h.output, h.size, h.block⟩⟩

set_option maxHeartbeats 8000000 in
theorem clone_calls (A0 : Option Addr) (c0 : Nat) (l0 : List S70) (w : World) (hr0 : Kd.C k70 w A0 l0.length l0) (hl : l0.length ≤ 1000) :
    Calls Try.prog 56 #[.slice A0 l0.length c0] w fun e w' => ∃ v, e = .returned v ∧ Kd.R k70 70 w' w.heap.size (fun _ => True) v l0 ∧ Below w.heap.size w w' := by
  have HB0 := Aside0.mk (Below.refl w.heap.size w)
  have HR0 := Aside0.mk hr0
  have HL := Aside0.mk hl
  rcases A0 with _ | ad
  · have hz : l0.length = 0 := by
      rcases Nat.eq_zero_or_pos l0.length with h0 | h0
      · exact h0
      · obtain ⟨ad, h, _⟩ := hr0.2.2 h0
        cases h
    obtain rfl := List.eq_nil_of_length_eq_zero hz
    have hnil : ∀ W : World, (binOp .eql 53 (.slice none ([] : List S70).length c0) (.slice none 0 0)).run Try.prog W = .ok (.bool true) W := fun W => Lib.run_eql_slice_nil W 53 70 none _ c0 0 0 Try.underlying53
    have hnil2 : ∀ W : World, (binOp .eql 53 (.slice none 0 c0) (.slice none 0 0)).run Try.prog W = .ok (.bool true) W := fun W => Lib.run_eql_slice_nil W 53 70 none _ c0 0 0 Try.underlying53
    clear hr0 hl hz
    go_enter Try.func56, Try.ntmps56
    go_wp2_with (fail)
    go_ret
    exact ⟨_, rfl, Kd.R_nil _ _ _ _ _, HB0.out⟩
  · have hnil : ∀ W : World, (binOp .eql 53 (.slice (some ad) l0.length c0) (.slice none 0 0)).run Try.prog W = .ok (.bool false) W := fun W => Lib.run_eql_slice_nil W 53 70 (some ad) _ c0 0 0 Try.underlying53
    clear hr0 hl
    go_enter Try.func56, Try.ntmps56
    go_wp2_with (first
      | ((with_reducible refine gate_dst (N := 5) rfl ?_); refine Kd.R_lit k70 (w0 := w) w.heap.size 70 ?hg (N := 5) ?hd (xs := ([] : List S70)) (inner := []) (ok := fun _ => True) (okp := fun _ => True) ?hr ?hp (fun _ hk => hk) trivial HB0.out (Nat.le_refl _) (by simp) ?_; (case hd => rfl); (case hg => rfl); (case hr => first | (go_simp; done) | (go_simp; rfl)); (case hp => exact (Reps.none _ _)); intro v3 w3 ho3 hb3 hg3 hn3; have HL4 := Aside0.mk ho3; have HB4 := Aside0.mk hb3; clear ho3 hb3 hg3 hn3)
      | ((with_reducible refine gate_builtin (b := .append) (xs := #[.tmp 5, .tmp 6]) rfl ?_); at_builtin; refine Kd.R_append_rows k70 (w0 := w) w.heap.size rfl (.tmp 5) (.tmp 6) 53 70 (.agg #[(.int .i64 0), (.int .i64 0), (.int .i64 0)]) 24 rfl Try.underlying53 infoN rfl (by decide) (by omega) v3 [] l0 (some ad) l0.length c0 (fun _ => True) (fun _ => False) rfl rfl HL4.out ?aR (fun _ _ h => h) (fun _ h => h.elim) (fun _ _ => trivial) HB4.out HB4.out.size ?aL ?_; (case aR => exact Kd.C_below HR0.out HB4.out); (case aL => have := HL.out; simp; omega); intro v4 w4 ho4 hb4 hg4 hat4; have HL5 := Aside0.mk (show Kd.R k70 70 w4 w.heap.size (fun _ => True) v4 l0 from ho4); have HB5 := Aside0.mk hb4; clear ho4 hb4 hg4 hat4))
    go_ret
    exact ⟨_, rfl, HL5.out, HB5.out⟩

theorem maxp_mem (l0 : List S70) : ∀ (xs : List S92) (m : S92), clu.maxp l0 xs m = m ∨ clu.maxp l0 xs m ∈ xs
  | [], m => .inl rfl
  | x :: xs, m => by
    rw [maxp_cons]
    split
    · rcases maxp_mem l0 xs x with h | h
      · exact .inr (by rw [h]; exact List.mem_cons_self)
      · exact .inr (List.mem_cons_of_mem _ h)
    · rcases maxp_mem l0 xs m with h | h
      · exact .inl h
      · exact .inr (List.mem_cons_of_mem _ h)
theorem worst_in {l : List S70} {a d : Int} (h : cluster_Worst.f l = some (a, d)) (h0 : 0 < l.length) : 0 ≤ a ∧ a < l.length := by
  unfold cluster_Worst.f at h
  rw [if_neg (by omega)] at h
  by_cases q : l.length ≤ 1000
  case neg =>
    rw [if_neg q] at h
    cases h
  rw [if_pos q] at h
  obtain ⟨ps, hps, he⟩ := Option.map_eq_some_iff.1 h
  obtain ⟨hpl, hpg⟩ := places_get hps
  obtain ⟨he1, _⟩ := Prod.mk.inj he
  have hmem : clu.maxp l (ps.drop 1) (rd_T92 ps 0) ∈ ps := by
    rcases maxp_mem l (ps.drop 1) (rd_T92 ps 0) with h | h
    · rw [h]; exact rd_mem92 ps 0 (by omega)
    · exact List.mem_of_mem_drop h
  obtain ⟨i, hi, hx⟩ := List.mem_iff_getElem.1 hmem
  have h3 := (hpg i (by omega)).2
  have e1 : rd_T92 ps (i : Int) = ps[i] := by
    unfold rd_T92
    rw [Int.toNat_natCast, List.getD_eq_getElem?_getD, List.getElem?_eq_getElem hi]
    rfl
  rw [e1, hx] at h3
  omega
def clu.go : Nat → List Int → List S70 → Int → Option (List Int × Int)
  | 0, _, _, _ => none
  | n + 1, kept, now, least => (cluster_Worst.f now).bind fun r => if (now.length : Int) ≤ (if least < 1 then 1 else least) ∨ r.2 < (clu.endsP now).1 then some (kept, r.2) else clu.go n (kept.eraseIdx r.1.toNat) (now.eraseIdx r.1.toNat) least
def clu.idx (n j : Nat) : List Int := (List.range n).map fun i => if i < j then (i : Int) else 0
def cluster_Prune.f (l0 : List S70) (a1 : Int) : Option (List Int × Int) := if l0.length ≤ 1000 then clu.go (l0.length + 1) (clu.idx l0.length l0.length) l0 a1 else none
theorem idx_zero (n : Nat) : clu.idx n 0 = List.replicate n 0 := by
  unfold clu.idx
  apply List.ext_getElem
  · simp
  · intro i h1 h2
    simp
theorem idx_set (n j : Nat) (h : j < n) : (clu.idx n j).set j (j : Int) = clu.idx n (j + 1) := by
  unfold clu.idx
  apply List.ext_getElem
  · simp
  · intro i h1 h2
    rw [List.getElem_set]
    simp only [List.getElem_map, List.getElem_range]
    by_cases hij : j = i
    · subst hij
      simp
    · rw [if_neg hij]
      by_cases h3 : i < j
      · rw [if_pos h3, if_pos (by omega)]
      · rw [if_neg h3, if_neg (by omega)]
theorem R_own_form {α : Type} {d : Kd α} {e base : Nat} {w : World} {ok : Nat → Prop} {v : Value} {xs : List α} (h : d.R e w base ok v xs) (hb : (∃ b, v.ownBlock = some b) ∨ 0 < xs.length) : ∃ g cap, v = .slice (some ⟨g, 0, none⟩) xs.length cap ∧ xs.length ≤ cap := by
  obtain ⟨_, inner, hown, _⟩ := h
  rcases hown.2 with ⟨hv, hn⟩ | ⟨g, cap, cur, hv, _, _, hnc, _, _, _⟩
  · rcases hb with ⟨b, hb⟩ | hb
    · rw [hv] at hb
      simp [Value.ownBlock] at hb
    · omega
  · exact ⟨g, cap, hv, hnc⟩
theorem R_grown_block {α β : Type} {d : Kd α} {d2 : Kd β} {e e2 : Nat} {w w1 : World} {base base2 : Nat} {ok2 : Nat → Prop} {v : Value} {xs : List α} {ys : List β} {g n c : Nat} (h : d.R e w base (fun _ => True) v xs) (hE : d.E = []) (ho : d2.R e2 w base2 ok2 (.slice (some ⟨g, 0, none⟩) n c) ys) (hne : e ≠ e2) (hg : w.grownBy w1 (some g)) : d.R e w1 base (fun _ => True) v xs :=
  R_grown_types h hE ho hne (by simpa [Value.ownBlock] using hg)

set_option maxHeartbeats 16000000 in
set_option maxRecDepth 100000 in
theorem cluster_Prune.calls (A0 : Option Addr) (c0 : Nat) (l0 : List S70) (a1 : Int) (r1 : List Int) (r2 : Int) (w : World) (hr0 : Kd.C k70 w A0 l0.length l0) (hc0 : l0.length ≤ c0) (h : cluster_Prune.f l0 a1 = some (r1, r2)) :
    Calls Try.prog 30 #[.slice A0 l0.length c0, .int .i64 a1] w fun e w' => ∃ v0_ : Value, e = .returned (.tuple #[v0_, .int .i64 r2]) ∧ Kd.R (Kd.int .i64) 3 w' w.heap.size (fun _ => True) v0_ r1 ∧ Below w.heap.size w w' := by
  unfold cluster_Prune.f at h
  by_cases q2 : l0.length ≤ 1000
  case neg =>
    rw [if_neg q2] at h
    cases h
  rw [if_pos q2] at h
  have HR0 := Aside0.mk hr0
  have HC0 := Aside0.mk hc0
  have HH := Aside0.mk h
  have HZ := Aside0.mk q2
  obtain ⟨mx1, hmx⟩ : ∃ mx1, (if a1 < 1 then 1 else a1) = mx1 := ⟨_, rfl⟩
  have HMX := Aside0.mk hmx
  clear hr0 hc0 h q2
  go_enter Try.func30, Try.ntmps30
  go_wp2_with (fail)
  go_step3
  go_wp2_with (first
    | ((with_reducible refine gate_dst (N := 15) rfl ?_); (refine Kd.R_make (Kd.int .i64) (w0 := w) w.heap.size 3 ?hg (N := 15) ?hd 59 (.tmp 14) (.tmp 14) rfl l0.length rfl rfl Try.underlying59 (.int .i64 0) 8 infoInt rfl (by decide) (by omega) 0 (okp := fun _ => True) (ok := fun _ => True) ?hz (fun _ hk => hk) trivial (by omega) ?hl (Below.refl _ _) (Nat.le_refl _) ?_); (case hd => rfl); (case hg => rfl); (case hz => exact rfl); (case hl => have := HZ.out; simp; omega); intro v1 w1 h1 h2 h3 h4; (simp only [Int.toNat_natCast] at h1); (rw [← idx_zero] at h1); (obtain ⟨g6, c6, hv1, hl1⟩ := R_own_form h1 (.inl (h4.imp fun b hb => hb.1))); (have hil : (clu.idx l0.length 0).length = l0.length := by simp [clu.idx]); (rw [hil] at hv1); (subst hv1); have H1 := Aside0.mk h1; have B1 := Aside0.mk h2; clear h1 h2 h3 h4 hl1 hil))
  go_loopg [18] l0.length (fun kq v18 w' => ∃ (j : Nat), v18 = .int .i64 (j : Int) ∧ Aside0 (j + kq = l0.length) ∧ Aside0 (Kd.R (Kd.int .i64) 3 w' w.heap.size (fun _ => True) (.slice (some ⟨g6, 0, none⟩) l0.length c6) (clu.idx l0.length j)) ∧ Aside0 (Below w.heap.size w w'))
  case atStart => exact ⟨0, rfl, ⟨by omega⟩, H1, B1⟩
  case round =>
    clear H1 B1
    obtain ⟨j, rfl, HI, HO, HB⟩ := hrel
    by_cases hj : j < l0.length
    · have q1 : ((j : Int) < (l0.length : Int)) = True := eq_true (by omega)
      have q3 : ((0 : Int) ≤ (j : Int)) = True := eq_true (by omega)
      have q4 : (j < l0.length) = True := eq_true hj
      obtain ⟨kc, kf⟩ := Kd.R_celln (0 : Int) HO.out (j : Int) (by omega) (by omega)
      rw [Int.toNat_natCast] at kc kf
      have hp := Kd.R_putn HO.out (j : Int) (j : Int)
      rw [Int.toNat_natCast, idx_set _ _ hj] at hp
      have HP := Aside0.mk hp
      have hbg : w.heap.size ≤ g6 := Kd.R_base HO.out g6 (by simp [Value.ownBlock])
      have HBP := Aside0.mk (HB.out.setCell (p := ⟨g6, j, none⟩) hbg (.int .i64 (j : Int)))
      clear hp hbg HO HB hj
      go_wp2_with (fail)
      go_roundg (gk - 1)
      case measure => have := HI.out; have := of_eq_true q4; omega
      case rel => exact ⟨j + 1, by have := HZ.out; simp [wrap64]; have := of_eq_true q4; omega, ⟨by have := HI.out; have := of_eq_true q4; omega⟩, HP, HBP⟩
    · have q1 : ((j : Int) < (l0.length : Int)) = False := eq_false (by omega)
      have hjl : j = l0.length := by have := HI.out; omega
      have HO2 := Aside0.mk (hjl ▸ HO.out)
      have HC := Aside0.mk (clone_calls A0 c0 l0 wr (Kd.C_below HR0.out HB.out) HZ.out)
      clear hj hjl HO
      go_wp2_with (first
        | (go_at_call 56; (with_reducible refine (HC.out).mono ?_); rintro e w2 ⟨v8, rfl, h2, b2⟩; have HN := Aside0.mk (Kd.R_lower h2 HB.out.size); have HK := Aside0.mk (Kd.R_below HO2.out b2); have HB2 := Aside0.mk (below_step HB.out b2); clear h2 b2))
      go_step3
      go_wp2_with (fail)
      go_loopg [6, 8] (l0.length + 1) (fun kq v6 v8 w' => ∃ (kept : List Int) (now : List S70) (g6 c6 : Nat), v6 = .slice (some ⟨g6, 0, none⟩) kept.length c6 ∧ Aside0 (kept.length = now.length ∧ now.length ≤ 1000) ∧ Aside0 (clu.go kq kept now a1 = some (r1, r2)) ∧ Aside0 (Kd.R (Kd.int .i64) 3 w' w.heap.size (fun _ => True) (.slice (some ⟨g6, 0, none⟩) kept.length c6) kept) ∧ Aside0 (Kd.R k70 70 w' w.heap.size (fun _ => True) v8 now) ∧ Aside0 (Below w.heap.size w w'))
      case atStart =>
        have hil : (clu.idx l0.length l0.length).length = l0.length := by simp [clu.idx]
        exact ⟨clu.idx l0.length l0.length, l0, g6, c6, by rw [hil], ⟨hil, HZ.out⟩, HH, by rw [hil]; exact HK, HN, HB2⟩
      case round =>
        clear HN HK HB2 HB HO2 HI q1 HH
        obtain ⟨kept, now, g6, c6, rfl, HL, HGO, HK, HN, HB⟩ := hrel
        cases gk with
        | zero => exact absurd HGO.out (by simp [clu.go])
        | succ k1 =>
          have hg := HGO.out
          simp only [clu.go] at hg
          obtain ⟨⟨ra, rb⟩, hw, hg⟩ := Option.bind_eq_some_iff.1 hg
          rw [HMX.out] at hg
          obtain ⟨A8, c8, hv8, hl8, hC8⟩ := Kd.R_reads HN.out
          subst hv8
          obtain ⟨qt, hqt⟩ : ∃ qt, (clu.endsP now).1 = qt := ⟨_, rfl⟩
          obtain ⟨qh, hqh⟩ : ∃ qh, (clu.endsP now).2 = qh := ⟨_, rfl⟩
          have HW := Aside0.mk (fun W (b : Below wr.heap.size wr W) => cluster_Worst.calls A8 c8 now ra rb W (Kd.C_below hC8 b) hl8 hw)
          have HE := Aside0.mk (fun W (b : Below wr.heap.size wr W) => ends_P A8 c8 now W (Kd.C_below hC8 b) HL.out.2)
          rw [hqt, hqh] at HE
          rw [hqt] at hg
          have HB0 := Aside0.mk (Below.refl wr.heap.size wr)
          have HIN := Aside0.mk (worst_in hw)
          clear hC8 hl8 hw hqt hqh HGO
          by_cases c1 : (now.length : Int) ≤ mx1
          · rw [if_pos (.inl c1)] at hg
            have hg' := Option.some.inj hg
            have e1 := (Prod.mk.inj hg').1
            have e2 := (Prod.mk.inj hg').2
            subst e1
            subst e2
            have d1 : decide ((now.length : Int) ≤ mx1) = true := decide_eq_true c1
            have d2 : ((now.length : Int) ≤ mx1) = True := eq_true c1
            clear hg hg' c1
            go_wp2_with (first
              | (go_at_call 28; (with_reducible refine (HW.out _ HB0.out).mono ?_); rintro e w2 ⟨rfl, b2⟩; have n0 := Aside0.mk (below_step HB0.out b2); clear HB0 b2; have HB0 := n0; clear n0)
              | (go_at_call 57; (with_reducible refine (HE.out _ HB0.out).mono ?_); rintro e w3 ⟨rfl, b2⟩; have n0 := Aside0.mk (below_step HB0.out b2); clear HB0 b2; have HB0 := n0; clear n0))
            try rw [Exit.noGoto_ret]
            go_ret2
            exact ⟨_, rfl, Kd.R_below HK.out HB0.out, below_step HB.out HB0.out⟩
          · have d1 : decide ((now.length : Int) ≤ mx1) = false := decide_eq_false c1
            have d2 : ((now.length : Int) ≤ mx1) = False := eq_false c1
            by_cases c2 : rb < qt
            · rw [if_pos (.inr c2)] at hg
              have hg' := Option.some.inj hg
              have e1 := (Prod.mk.inj hg').1
              have e2 := (Prod.mk.inj hg').2
              subst e1
              subst e2
              have d3 : decide (rb < qt) = true := decide_eq_true c2
              clear hg hg' c1 c2
              go_wp2_with (first
                | (go_at_call 28; (with_reducible refine (HW.out _ HB0.out).mono ?_); rintro e w2 ⟨rfl, b2⟩; have n0 := Aside0.mk (below_step HB0.out b2); clear HB0 b2; have HB0 := n0; clear n0)
                | (go_at_call 57; (with_reducible refine (HE.out _ HB0.out).mono ?_); rintro e w3 ⟨rfl, b2⟩; have n0 := Aside0.mk (below_step HB0.out b2); clear HB0 b2; have HB0 := n0; clear n0))
              try rw [Exit.noGoto_ret]
              go_ret2
              exact ⟨_, rfl, Kd.R_below HK.out HB0.out, below_step HB.out HB0.out⟩
            · rw [if_neg (by rintro (h | h); exact c1 h; exact c2 h)] at hg
              have d3 : decide (rb < qt) = false := decide_eq_false c2
              have hlen : 0 < now.length := by
                have h1 : (1 : Int) ≤ mx1 := by rw [← HMX.out]; split <;> omega
                omega
              obtain ⟨ra0, ra1⟩ := HIN.out hlen
              obtain ⟨m, rfl⟩ := Int.eq_ofNat_of_zero_le ra0
              rw [Int.toNat_natCast] at hg
              have hm : m < now.length := by omega
              obtain ⟨g8, c8', hv8, hle8⟩ := R_own_form HN.out (.inr hlen)
              cases hv8
              have hw1 : wrap64 ((m : Int) + 1) = (m : Int) + 1 := by have := HL.out.2; unfold wrap64; omega
              have HD1 := Aside0.mk (fun W (b : Below wr.heap.size wr W) => delete_int w.heap.size w W g6 kept.length c6 kept m (Kd.R_below HK.out b) (by have := HL.out.1; omega) (by have := HL.out; omega) (below_step HB.out b) (Nat.le_trans HB.out.size b.size))
              have HD2 := Aside0.mk (fun W (h : Kd.R k70 70 W w.heap.size (fun _ => True) (.slice (some ⟨g8, 0, none⟩) now.length c8) now) (b : Below w.heap.size w W) => delete_node w.heap.size w W g8 now.length c8 now m h hm HL.out.2 b b.size)
              have HG2 := Aside0.mk hg
              have HM := Aside0.mk hm
              have HLE := Aside0.mk hlen
              clear hg c1 c2 hlen ra0 ra1 hm hle8
              go_wp2_with (first
                | (go_at_call 28; (with_reducible refine (HW.out _ HB0.out).mono ?_); rintro e w2 ⟨rfl, b2⟩; have n0 := Aside0.mk (below_step HB0.out b2); clear HB0 b2; have HB0 := n0; clear n0)
                | (go_at_call 57; (with_reducible refine (HE.out _ HB0.out).mono ?_); rintro e w3 ⟨rfl, b2⟩; have n0 := Aside0.mk (below_step HB0.out b2); clear HB0 b2; have HB0 := n0; clear n0)
                | (go_at_call 59; (with_reducible refine (HD1.out _ HB0.out).mono ?_); rintro e w4 ⟨rfl, h4, b4, g4⟩; have m0 := Aside0.mk h4; have m1 := Aside0.mk b4; have m2 := Aside0.mk (R_grown_block (Kd.R_below HN.out HB0.out) rfl (Kd.R_below HK.out HB0.out) (by decide) g4); clear h4 b4 g4)
                | (go_at_call 60; (with_reducible refine (HD2.out _ m2.out m1.out).mono ?_); rintro e w5 ⟨rfl, h5, b5, g5⟩; have p0 := Aside0.mk h5; have p1 := Aside0.mk b5; have p2 := Aside0.mk (R_grown_block m0.out rfl m2.out (by decide) g5); clear h5 b5 g5))
              go_roundg k1
              case measure => omega
              case rel =>
                have e1 : (kept.eraseIdx m).length = kept.length - 1 := List.length_eraseIdx_of_lt (by have := HL.out.1; have := HM.out; omega)
                have e2 : (now.eraseIdx m).length = now.length - 1 := List.length_eraseIdx_of_lt HM.out
                exact ⟨kept.eraseIdx m, now.eraseIdx m, g6, c6, by rw [e1], ⟨by rw [e1, e2, HL.out.1], by rw [e2]; have := HL.out.2; omega⟩, HG2, by rw [e1]; exact p2, p0, p1⟩

/-! ### analemmalaw17_ints: function 34 -/
def analemmalaw17_ints.l0 : Nat → List Int → List Int → Int → Option (Bool)
  | 0, _, _, _ => none
  | k + 1, x0, x1, x5 => if x5 < (x0.length : Int) then (if 0 ≤ x5 then (if x5 < (x1.length : Int) then (if (rd x0 x5) = (rd x1 x5) then (analemmalaw17_ints.l0 k x0 x1 (wrap64 (x5 + 1))) else (some false)) else (none)) else (none)) else (some true)
def analemmalaw17_ints.f (k : Nat) (l0 : List Int) (l1 : List Int) : Option (Bool) := if (l0.length : Int) = (l1.length : Int) then (analemmalaw17_ints.l0 k l0 l1 0) else (some false)
theorem analemmalaw17_ints.mono_l : ∀ k, (∀ y0 y1 y2, LeO (analemmalaw17_ints.l0 k y0 y1 y2) (analemmalaw17_ints.l0 (k + 1) y0 y1 y2))
  | 0 => fun _ _ _ r h => by simp [analemmalaw17_ints.l0] at h
  | k + 1 => by
    have ih0 := analemmalaw17_ints.mono_l k
    · intro y0 y1 y2
      unfold analemmalaw17_ints.l0
      repeat' first
      | (with_reducible exact ih0 _ _ _)
      | (with_reducible exact LeO.refl _)
      | (with_reducible exact LeO.none _)
      | (with_reducible refine LeO.ite ?_ ?_)
      | (with_reducible refine LeO.bind ?_ (fun _ => ?_))
      | exact ih0 _ _ _
      | exact LeO.none _
      | refine LeO.ite ?_ ?_
      | refine LeO.bind ?_ (fun _ => ?_)
theorem analemmalaw17_ints.mono : ∀ a0 a1 k, LeO (analemmalaw17_ints.f k a0 a1) (analemmalaw17_ints.f (k + 1) a0 a1) := by
  intro a0 a1 k
  have ih0 := analemmalaw17_ints.mono_l k
  unfold analemmalaw17_ints.f
  repeat' first
      | (with_reducible exact ih0 _ _ _)
      | (with_reducible exact LeO.refl _)
      | (with_reducible exact LeO.none _)
      | (with_reducible refine LeO.ite ?_ ?_)
      | (with_reducible refine LeO.bind ?_ (fun _ => ?_))
      | exact ih0 _ _ _
      | exact LeO.none _
      | refine LeO.ite ?_ ?_
      | refine LeO.bind ?_ (fun _ => ?_)
set_option maxHeartbeats 8000000 in
set_option maxRecDepth 100000 in
theorem analemmalaw17_ints.calls (k : Nat) (A0 : Option Addr) (c0 : Nat) (l0 : List Int) (A1 : Option Addr) (c1 : Nat) (l1 : List Int) (r : Bool) (w : World) (hr0 : Kd.C (Kd.int .i64) w A0 l0.length l0) (hc0 : l0.length ≤ c0) (hr1 : Kd.C (Kd.int .i64) w A1 l1.length l1) (hc1 : l1.length ≤ c1) (h : analemmalaw17_ints.f k l0 l1 = some r) :
    Calls Try.prog 34 #[.slice A0 l0.length c0, .slice A1 l1.length c1] w fun e w' => e = .returned (.bool r) ∧ Drawn0 w w' := by
  have HR0 := Aside0.mk hr0
  have HC0 := Aside0.mk hc0
  clear hr0 hc0
  have HR1 := Aside0.mk hr1
  have HC1 := Aside0.mk hc1
  clear hr1 hc1
  have H : (if (l0.length : Int) = (l1.length : Int) then (analemmalaw17_ints.l0 k l0 l1 0) else (some false)) = some r := h
  clear h
  by_cases c3 : (l0.length : Int) = (l1.length : Int)
  · rw [if_pos c3] at H
    have c3b0 : ((l0.length : Int) == (l1.length : Int)) = true := beq_iff_eq.mpr c3
    have c3b1 : ((l0.length : Int) != (l1.length : Int)) = false := bne_eq_false_iff_eq.mpr c3
    have c3b2 : (l0.length == l1.length) = true := by first | simpa using c3 | (simp at c3 ⊢; omega)
    clear c3
    have H' := Aside0.mk H
    clear H
    go_enter Try.func34, Try.ntmps34
    go_wp2
    repeat (go_quiet (fail); try go_wp2)
    go_loopg [5] k (fun kq v5 w' => ∃ (x5_1 : Int), v5 = .int .i64 x5_1 ∧ Aside0 (analemmalaw17_ints.l0 kq l0 l1 x5_1 = some r) ∧ Aside0 (kq ≤ k) ∧ Drawn0 w w')
    case atStart => exact ⟨(0), (by first | rfl | (simp; done) | (simp [*]; done)), H', ⟨Nat.le_refl _⟩, by repeat (first | exact Drawn0.refl _ | apply Drawn0.step)⟩
    case round =>
      clear H'
      try clear c1
      try clear p2
      try clear c3
      try clear c3b0
      try clear c3b1
      try clear c3b2
      obtain ⟨x5_1, rfl, HA, HK1, ⟨m1, rfl⟩⟩ := hrel
      cases gk with
      | zero => exact absurd HA.out (by simp [analemmalaw17_ints.l0])
      | succ k1 =>
        have H := HA.out
        clear HA
        simp only [analemmalaw17_ints.l0] at H
        by_cases c4 : x5_1 < (l0.length : Int)
        · rw [if_pos c4] at H
          have c4b0 : decide (x5_1 < (l0.length : Int)) = true := decide_eq_true c4
          clear c4
          by_cases c5 : 0 ≤ x5_1
          · rw [if_pos c5] at H
            have c5b0 : decide (0 ≤ x5_1) = true := decide_eq_true c5
            clear c5
            by_cases c6 : x5_1 < (l1.length : Int)
            · rw [if_pos c6] at H
              have c6b0 : decide (x5_1 < (l1.length : Int)) = true := decide_eq_true c6
              clear c6
              by_cases c7 : (rd l0 x5_1) = (rd l1 x5_1)
              · rw [if_pos c7] at H
                have c7b0 : ((rd l0 x5_1) == (rd l1 x5_1)) = true := beq_iff_eq.mpr c7
                have c7b1 : ((rd l0 x5_1) != (rd l1 x5_1)) = false := bne_eq_false_iff_eq.mpr c7
                clear c7
                have H' := Aside0.mk H
                clear H
                have p120 : 0 ≤ (x5_1 : Int) := of_decide_eq_true (by first | (with_reducible assumption) | assumption)
                have q120 : x5_1 < (l0.length : Int) := of_decide_eq_true (by first | (with_reducible assumption) | assumption)
                obtain ⟨ad120, e120, hx120_0⟩ := Kd.at_int HR0.out x5_1 p120 q120
                cases e120
                replace p120 := eq_true p120
                replace q120 := eq_true q120
                have p121 : 0 ≤ (x5_1 : Int) := of_decide_eq_true (by first | (with_reducible assumption) | assumption)
                have q121 : x5_1 < (l1.length : Int) := of_decide_eq_true (by first | (with_reducible assumption) | assumption)
                obtain ⟨ad121, e121, hx121_0⟩ := Kd.at_int HR1.out x5_1 p121 q121
                cases e121
                replace p121 := eq_true p121
                replace q121 := eq_true q121
                go_wp2
                repeat (go_quiet (fail); try go_wp2)
                go_roundg k1
                case measure => have := HK1.out; omega
                case rel => exact ⟨(wrap64 (x5_1 + 1)), (by first | rfl | (simp; done) | (simp [*]; done)), H', ⟨by have := HK1.out; omega⟩, by repeat (first | exact Drawn0.refl _ | apply Drawn0.step)⟩
              · rw [if_neg c7] at H
                have c7b0 : ((rd l0 x5_1) == (rd l1 x5_1)) = false := beq_eq_false_iff_ne.mpr c7
                have c7b1 : ((rd l0 x5_1) != (rd l1 x5_1)) = true := bne_iff_ne.mpr c7
                obtain rfl := Option.some.inj H
                have p120 : 0 ≤ (x5_1 : Int) := of_decide_eq_true (by first | (with_reducible assumption) | assumption)
                have q120 : x5_1 < (l0.length : Int) := of_decide_eq_true (by first | (with_reducible assumption) | assumption)
                obtain ⟨ad120, e120, hx120_0⟩ := Kd.at_int HR0.out x5_1 p120 q120
                cases e120
                replace p120 := eq_true p120
                replace q120 := eq_true q120
                have p121 : 0 ≤ (x5_1 : Int) := of_decide_eq_true (by first | (with_reducible assumption) | assumption)
                have q121 : x5_1 < (l1.length : Int) := of_decide_eq_true (by first | (with_reducible assumption) | assumption)
                obtain ⟨ad121, e121, hx121_0⟩ := Kd.at_int HR1.out x5_1 p121 q121
                cases e121
                replace p121 := eq_true p121
                replace q121 := eq_true q121
                go_wp2
                repeat (go_quiet (fail); try go_wp2)
                go_ret
                exact ⟨by first | rfl | (simp; done) | (simp [*]; done), by repeat (first | exact Drawn0.refl _ | apply Drawn0.step)⟩
            · rw [if_neg c6] at H
              exact absurd H (by simp)
          · rw [if_neg c5] at H
            exact absurd H (by simp)
        · rw [if_neg c4] at H
          have c4b0 : decide (x5_1 < (l0.length : Int)) = false := decide_eq_false c4
          clear c4
          obtain rfl := Option.some.inj H
          go_wp2
          repeat (go_quiet (fail); try go_wp2)
          go_ret
          exact ⟨by first | rfl | (simp; done) | (simp [*]; done), by repeat (first | exact Drawn0.refl _ | apply Drawn0.step)⟩
  · rw [if_neg c3] at H
    have c3b0 : ((l0.length : Int) == (l1.length : Int)) = false := beq_eq_false_iff_ne.mpr c3
    have c3b1 : ((l0.length : Int) != (l1.length : Int)) = true := bne_iff_ne.mpr c3
    have c3b2 : (l0.length == l1.length) = false := by first | simpa using c3 | (simp at c3 ⊢; omega)
    obtain rfl := Option.some.inj H
    go_enter Try.func34, Try.ntmps34
    go_wp2
    repeat (go_quiet (fail); try go_wp2)
    go_ret
    exact ⟨by first | rfl | (simp; done) | (simp [*]; done), by repeat (first | exact Drawn0.refl _ | apply Drawn0.step)⟩

/-! ### cluster_Spread: function 35 -/

def cluster_Spread.f (l0 : List S70) : Option Int := if l0.length ≤ 1000 then fix_Sub.f 2 (clu.endsS l0).2 (clu.endsS l0).1 else none
set_option maxHeartbeats 8000000 in
theorem cluster_Spread.calls (A0 : Option Addr) (c0 : Nat) (l0 : List S70) (r : Int) (w : World) (hr0 : Kd.C k70 w A0 l0.length l0) (hc0 : l0.length ≤ c0) (h : cluster_Spread.f l0 = some r) :
    Calls Try.prog 35 #[.slice A0 l0.length c0] w fun e w' => e = .returned (.int .i64 r) ∧ Below w.heap.size w w' := by
  unfold cluster_Spread.f at h
  by_cases q2 : l0.length ≤ 1000
  case neg =>
    rw [if_neg q2] at h
    cases h
  rw [if_pos q2] at h
  have HE := Aside0.mk (ends_S A0 c0 l0 w hr0 q2)
  have HS := Aside0.mk (fun W => fix_Sub.calls 2 _ _ r W h)
  clear hr0 hc0 h q2
  go_enter Try.func35, Try.ntmps35
  go_wp2_with (first
    | (go_at_call 57; (with_reducible refine (HE.out).mono ?_); rintro e w1 ⟨rfl, b1⟩; have HB1 := Aside0.mk b1; clear b1)
    | (go_at_call 48; (with_reducible refine (HS.out _).mono ?_); rintro e w2 ⟨rfl, b2⟩; have HB2 := Aside0.mk (below_step HB1.out b2); clear b2))
  go_ret
  exact ⟨rfl, HB2.out⟩

/-! ### analemmalaw17_shown: function 26 -/
def analemmalaw17_shown.f (k : Nat)  : Option (Bool) := (some (([(⟨0, 0, 0⟩ : S70), (⟨4294967296, 0, 0⟩ : S70), (⟨429496729600, 0, 0⟩ : S70)] : List (S70)) : List (S70))).bind fun y122 => ((cluster_Prune.f y122 2).bind fun bt125 => ((analemmalaw17_ints.f k bt125.1 (([0, 1] : List Int))).bind fun t132 => (if t132 = true then ((cluster_Spread.f y122).bind fun t133 => (some (t133 == 429496729600))) else (some false))))
theorem analemmalaw17_shown.mono : ∀ k, LeO (analemmalaw17_shown.f k ) (analemmalaw17_shown.f (k + 1) ) := by
  intro  k
  unfold analemmalaw17_shown.f
  repeat' first
      | (with_reducible exact analemmalaw17_ints.mono _ _ _)
      | (with_reducible exact LeO.refl _)
      | (with_reducible exact LeO.none _)
      | (with_reducible refine LeO.ite ?_ ?_)
      | (with_reducible refine LeO.bind ?_ (fun _ => ?_))
      | exact analemmalaw17_ints.mono _ _ _
      | exact LeO.none _
      | refine LeO.ite ?_ ?_
      | refine LeO.bind ?_ (fun _ => ?_)
set_option maxHeartbeats 8000000 in
set_option maxRecDepth 100000 in
theorem analemmalaw17_shown.calls (k : Nat)  (r : Bool) (w : World) (h : analemmalaw17_shown.f k  = some r) :
    Calls Try.prog 26 #[] w fun e w' => e = .returned (.bool r) ∧ Below w.heap.size w w' := by
  have hu70 := Try.underlying70
  have HB := Aside0.mk (Below.refl w.heap.size w)
  have H : ((some (([(⟨0, 0, 0⟩ : S70), (⟨4294967296, 0, 0⟩ : S70), (⟨429496729600, 0, 0⟩ : S70)] : List (S70)) : List (S70))).bind fun y122 => ((cluster_Prune.f y122 2).bind fun bt125 => ((analemmalaw17_ints.f k bt125.1 (([0, 1] : List Int))).bind fun t132 => (if t132 = true then ((cluster_Spread.f y122).bind fun t133 => (some (t133 == 429496729600))) else (some false))))) = some r := h
  clear h
  obtain ⟨y122, hy122⟩ : ∃ y_ : List (S70), y_ = (([(⟨0, 0, 0⟩ : S70), (⟨4294967296, 0, 0⟩ : S70), (⟨429496729600, 0, 0⟩ : S70)] : List (S70))) := ⟨_, rfl⟩
  replace H : ((cluster_Prune.f y122 2).bind fun bt125 => ((analemmalaw17_ints.f k bt125.1 (([0, 1] : List Int))).bind fun t132 => (if t132 = true then ((cluster_Spread.f y122).bind fun t133 => (some (t133 == 429496729600))) else (some false)))) = some r := by first | (rw [hy122]; with_reducible exact H) | (have H2_ := (Option.bind_some _ _).symm.trans H; rw [hy122]; with_reducible exact H2_) | (have H2_ := (Option.bind_some _ _).symm.trans H; with_reducible exact H2_) | with_reducible exact H | (rw [hy122]; exact H) | exact H
  have Ny122 := Aside0.mk hy122
  clear hy122
  replace H := Option.bind_eq_some_iff.mp H
  obtain ⟨⟨t125, t126⟩, A10, H⟩ := H
  replace H : ((analemmalaw17_ints.f k t125 (([0, 1] : List Int))).bind fun t132 => (if t132 = true then ((cluster_Spread.f y122).bind fun t133 => (some (t133 == 429496729600))) else (some false))) = some r := H
  have A1 := Aside0.mk A10
  clear A10
  obtain ⟨y129, hy129⟩ : ∃ y_ : List Int, y_ = (([0, 1] : List Int)) := ⟨_, rfl⟩
  replace H : ((analemmalaw17_ints.f k t125 y129).bind fun t132 => (if t132 = true then ((cluster_Spread.f y122).bind fun t133 => (some (t133 == 429496729600))) else (some false))) = some r := by first | (rw [hy129]; with_reducible exact H) | (have H2_ := (Option.bind_some _ _).symm.trans H; rw [hy129]; with_reducible exact H2_) | (have H2_ := (Option.bind_some _ _).symm.trans H; with_reducible exact H2_) | with_reducible exact H | (rw [hy129]; exact H) | exact H
  have Ny129 := Aside0.mk hy129
  clear hy129
  replace H := Option.bind_eq_some_iff.mp H
  obtain ⟨t132, A20, H⟩ := H
  replace H : (if t132 = true then ((cluster_Spread.f y122).bind fun t133 => (some (t133 == 429496729600))) else (some false)) = some r := H
  have A2 := Aside0.mk A20
  clear A20
  by_cases c3 : t132 = true
  · subst c3
    have H1 : ((cluster_Spread.f y122).bind fun t133 => (some (t133 == 429496729600))) = some r := by rw [if_pos rfl] at H; exact H
    clear H
    have H := H1
    clear H1
    replace H := Option.bind_eq_some_iff.mp H
    obtain ⟨t133, A40, H⟩ := H
    replace H : (some (t133 == 429496729600)) = some r := H
    have A4 := Aside0.mk A40
    clear A40
    obtain rfl := Option.some.inj H
    go_enter Try.func26, Try.ntmps26
    go_wp2_with (first | ((with_reducible refine gate_dst (N := 7) rfl ?_); refine Kd.R_lit k70 _ 70 ?hg (N := 7) ?hd (xs := ([(⟨0, 0, 0⟩ : S70), (⟨4294967296, 0, 0⟩ : S70), (⟨429496729600, 0, 0⟩ : S70)] : List (S70))) (inner := [.int .i64 0, .int .i64 0, .int .i64 0, .int .i64 4294967296, .int .i64 0, .int .i64 0, .int .i64 429496729600, .int .i64 0, .int .i64 0]) (ok := fun _ => True) (okp := fun _ => True) ?hr ?hp (fun _ hk => hk) trivial (Below.refl _ _) (Nat.le_refl _) (by simp) ?_; (case hd => rfl); (case hg => rfl); (case hr => first | (go_simp; done) | (go_simp; rfl)); (case hp => exact (Reps.c3 (show Kd.M k70 _ _ _ (⟨0, 0, 0⟩ : S70) [.int .i64 0, .int .i64 0, .int .i64 0] from (k70_mkM _ _ _ (⟨0, 0, 0⟩ : S70) )) (Reps.c3 (show Kd.M k70 _ _ _ (⟨4294967296, 0, 0⟩ : S70) [.int .i64 4294967296, .int .i64 0, .int .i64 0] from (k70_mkM _ _ _ (⟨4294967296, 0, 0⟩ : S70) )) (Reps.c3 (show Kd.M k70 _ _ _ (⟨429496729600, 0, 0⟩ : S70) [.int .i64 429496729600, .int .i64 0, .int .i64 0] from (k70_mkM _ _ _ (⟨429496729600, 0, 0⟩ : S70) )) (Reps.none _ _))))); intro v123 w5 ho6 hb hg_ hnew_; clear hg_ hnew_; (first | rw [← Ny122.out] at ho6 | (simp only [Int.reduceToNat] at ho6; rw [← Ny122.out] at ho6)); have n0_ := Aside0.mk (Kd.R_lower ho6 (below_size (by repeat (first | (with_reducible first | exact HB.out | apply below_alloc | apply pw_below_drewN | apply below_drew1) | exact HB.out)))); have n1_ := Aside0.mk (below_step (by repeat (first | (with_reducible first | exact HB.out | apply below_alloc | apply pw_below_drewN | apply below_drew1) | exact HB.out)) hb); clear HB; have HO124 := n0_; have HB := n1_; clear n0_ n1_; clear hb ho6; obtain ⟨Ao7, co7, eo7⟩ := Kd.R_slice HO124.out; subst eo7) | ((with_reducible refine gate_callee (f := 30) rfl ?_); refine goesL_ (some 10) rfl rfl Try.func30 (by kernel_rfl) rfl #[.slice Ao7 y122.length co7, .int .i64 2] rfl (by (try simp only [List.map_toArray, List.map_cons, List.map_nil]); first | done | rfl | (simp only [List.length_drop, List.length_take]; rfl)) ?_; (with_reducible refine (cluster_Prune.calls _ _ y122 2 t125 t126 _ ?side1 ?side2 A1.out).mono ?_); (case side1 => repeat (first | exact (Kd.R_reads' HO124.out).2.2 | (with_reducible refine Kd.C_alloc ?_ _) | (with_reducible refine Kd.C_drewN ?_ _) | (with_reducible refine Kd.C_drew ?_))); (case side2 => exact (Kd.R_reads' HO124.out).2.1); rintro e w8 ⟨v127, rfl, ho0, hb⟩; refine ⟨_, rfl, ?_⟩; have n0_ := Aside0.mk (Kd.R_below (by (with_reducible repeat (first | apply Kd.R_alloc | apply Kd.R_drewN | apply Kd.R_drew)); exact HO124.out) hb); have n1_ := Aside0.mk (Kd.R_lower ho0 (below_size (by repeat (first | (with_reducible first | exact HB.out | apply below_alloc | apply pw_below_drewN | apply below_drew1) | exact HB.out)))); have n2_ := Aside0.mk (below_step (by repeat (first | (with_reducible first | exact HB.out | apply below_alloc | apply pw_below_drewN | apply below_drew1) | exact HB.out)) hb); clear HO124; clear HB; have HO124 := n0_; have HO128 := n1_; have HB := n2_; clear n0_ n1_ n2_; (try clear hb); (try clear hb2); (try clear hk); (try clear hi); (try clear ho0)) | ((with_reducible refine gate_dst (N := 14) rfl ?_); refine Kd.R_lit (Kd.int .i64) _ 3 ?hg (N := 14) ?hd (xs := ([0, 1] : List Int)) (inner := [.int .i64 0, .int .i64 1]) (ok := fun _ => True) (okp := fun _ => True) ?hr ?hp (fun _ hk => hk) trivial (Below.refl _ _) (Nat.le_refl _) (by simp) ?_; (case hd => rfl); (case hg => rfl); (case hr => first | (go_simp; done) | (go_simp; rfl)); (case hp => exact (Reps.one (show Kd.M (Kd.int .i64) _ _ _ 0 [.int .i64 0] from rfl) (Reps.one (show Kd.M (Kd.int .i64) _ _ _ 1 [.int .i64 1] from rfl) (Reps.none _ _)))); intro v130 w9 ho10 hb hg_ hnew_; clear hg_ hnew_; (first | rw [← Ny129.out] at ho10 | (simp only [Int.reduceToNat] at ho10; rw [← Ny129.out] at ho10)); have n0_ := Aside0.mk (Kd.R_below (by (with_reducible repeat (first | apply Kd.R_alloc | apply Kd.R_drewN | apply Kd.R_drew)); exact HO124.out) hb); have n1_ := Aside0.mk (Kd.R_elder' (by (with_reducible repeat (first | apply Kd.R_alloc | apply Kd.R_drewN | apply Kd.R_drew)); exact HO128.out) (Kd.R_base ho10) hb); have n2_ := Aside0.mk (Kd.R_lower (Kd.R_new' ho10 (Kd.R_lt (by (with_reducible repeat (first | apply Kd.R_alloc | apply Kd.R_drewN | apply Kd.R_drew)); exact HO128.out))) (below_size (by repeat (first | (with_reducible first | exact HB.out | apply below_alloc | apply pw_below_drewN | apply below_drew1) | exact HB.out)))); have n3_ := Aside0.mk (below_step (by repeat (first | (with_reducible first | exact HB.out | apply below_alloc | apply pw_below_drewN | apply below_drew1) | exact HB.out)) hb); clear HO124; clear HO128; clear HB; have HO124 := n0_; have HO128 := n1_; have HO131 := n2_; have HB := n3_; clear n0_ n1_ n2_ n3_; clear hb ho10; obtain ⟨Ao11, co11, eo11⟩ := Kd.R_slice HO128.out; subst eo11; obtain ⟨Ao12, co12, eo12⟩ := Kd.R_slice HO131.out; subst eo12) | ((with_reducible refine gate_callee (f := 34) rfl ?_); refine goesL_ (some 15) rfl rfl Try.func34 (by kernel_rfl) rfl #[.slice Ao11 t125.length co11, .slice Ao12 y129.length co12] rfl (by (try simp only [List.map_toArray, List.map_cons, List.map_nil]); first | done | rfl | (simp only [List.length_drop, List.length_take]; rfl)) ?_; (with_reducible refine (analemmalaw17_ints.calls k _ _ t125 _ _ y129 true _ ?side1 ?side2 ?side3 ?side4 A2.out).mono ?_); (case side1 => repeat (first | exact (Kd.R_reads' HO128.out).2.2 | (with_reducible refine Kd.C_alloc ?_ _) | (with_reducible refine Kd.C_drewN ?_ _) | (with_reducible refine Kd.C_drew ?_))); (case side2 => exact (Kd.R_reads' HO128.out).2.1); (case side3 => repeat (first | exact (Kd.R_reads' HO131.out).2.2 | (with_reducible refine Kd.C_alloc ?_ _) | (with_reducible refine Kd.C_drewN ?_ _) | (with_reducible refine Kd.C_drew ?_))); (case side4 => exact (Kd.R_reads' HO131.out).2.1); rintro e w' ⟨rfl, ⟨nd, rfl⟩⟩; refine ⟨_, rfl, ?_⟩) | (go_at_call 35; (with_reducible refine (cluster_Spread.calls _ _ y122 t133 _ ?side1 ?side2 A4.out).mono ?_); (case side1 => repeat (first | exact (Kd.R_reads' HO124.out).2.2 | (with_reducible refine Kd.C_alloc ?_ _) | (with_reducible refine Kd.C_drewN ?_ _) | (with_reducible refine Kd.C_drew ?_))); (case side2 => exact (Kd.R_reads' HO124.out).2.1); rintro e w13 ⟨rfl, hb⟩; have n0_ := Aside0.mk (Kd.R_below (by (with_reducible repeat (first | apply Kd.R_alloc | apply Kd.R_drewN | apply Kd.R_drew)); exact HO124.out) hb); have n1_ := Aside0.mk (Kd.R_below (by (with_reducible repeat (first | apply Kd.R_alloc | apply Kd.R_drewN | apply Kd.R_drew)); exact HO128.out) hb); have n2_ := Aside0.mk (Kd.R_below (by (with_reducible repeat (first | apply Kd.R_alloc | apply Kd.R_drewN | apply Kd.R_drew)); exact HO131.out) hb); have n3_ := Aside0.mk (below_step (by repeat (first | (with_reducible first | exact HB.out | apply below_alloc | apply pw_below_drewN | apply below_drew1) | exact HB.out)) hb); clear HO124; clear HO128; clear HO131; clear HB; have HO124 := n0_; have HO128 := n1_; have HO131 := n2_; have HB := n3_; clear n0_ n1_ n2_ n3_; (try clear hb); (try clear hb2); (try clear hk); (try clear hi)))
    go_ret
    exact ⟨by first | rfl | (simp [errW_none, errW_some] <;> rfl) | (simp [*, errW_none, errW_some] <;> rfl), by repeat (first | (with_reducible first | exact HB.out | apply below_alloc | apply pw_below_drewN | apply below_drew1) | exact HB.out)⟩
  · replace c3 := Bool.eq_false_iff.mpr c3
    subst c3
    have H1 : (some false) = some r := by rw [if_neg (show ¬ (false = true) by decide)] at H; exact H
    clear H
    have H := H1
    clear H1
    obtain rfl := Option.some.inj H
    go_enter Try.func26, Try.ntmps26
    go_wp2_with (first | ((with_reducible refine gate_dst (N := 7) rfl ?_); refine Kd.R_lit k70 _ 70 ?hg (N := 7) ?hd (xs := ([(⟨0, 0, 0⟩ : S70), (⟨4294967296, 0, 0⟩ : S70), (⟨429496729600, 0, 0⟩ : S70)] : List (S70))) (inner := [.int .i64 0, .int .i64 0, .int .i64 0, .int .i64 4294967296, .int .i64 0, .int .i64 0, .int .i64 429496729600, .int .i64 0, .int .i64 0]) (ok := fun _ => True) (okp := fun _ => True) ?hr ?hp (fun _ hk => hk) trivial (Below.refl _ _) (Nat.le_refl _) (by simp) ?_; (case hd => rfl); (case hg => rfl); (case hr => first | (go_simp; done) | (go_simp; rfl)); (case hp => exact (Reps.c3 (show Kd.M k70 _ _ _ (⟨0, 0, 0⟩ : S70) [.int .i64 0, .int .i64 0, .int .i64 0] from (k70_mkM _ _ _ (⟨0, 0, 0⟩ : S70) )) (Reps.c3 (show Kd.M k70 _ _ _ (⟨4294967296, 0, 0⟩ : S70) [.int .i64 4294967296, .int .i64 0, .int .i64 0] from (k70_mkM _ _ _ (⟨4294967296, 0, 0⟩ : S70) )) (Reps.c3 (show Kd.M k70 _ _ _ (⟨429496729600, 0, 0⟩ : S70) [.int .i64 429496729600, .int .i64 0, .int .i64 0] from (k70_mkM _ _ _ (⟨429496729600, 0, 0⟩ : S70) )) (Reps.none _ _))))); intro v123 w14 ho15 hb hg_ hnew_; clear hg_ hnew_; (first | rw [← Ny122.out] at ho15 | (simp only [Int.reduceToNat] at ho15; rw [← Ny122.out] at ho15)); have n0_ := Aside0.mk (Kd.R_lower ho15 (below_size (by repeat (first | (with_reducible first | exact HB.out | apply below_alloc | apply pw_below_drewN | apply below_drew1) | exact HB.out)))); have n1_ := Aside0.mk (below_step (by repeat (first | (with_reducible first | exact HB.out | apply below_alloc | apply pw_below_drewN | apply below_drew1) | exact HB.out)) hb); clear HB; have HO124 := n0_; have HB := n1_; clear n0_ n1_; clear hb ho15; obtain ⟨Ao16, co16, eo16⟩ := Kd.R_slice HO124.out; subst eo16) | ((with_reducible refine gate_callee (f := 30) rfl ?_); refine goesL_ (some 10) rfl rfl Try.func30 (by kernel_rfl) rfl #[.slice Ao16 y122.length co16, .int .i64 2] rfl (by (try simp only [List.map_toArray, List.map_cons, List.map_nil]); first | done | rfl | (simp only [List.length_drop, List.length_take]; rfl)) ?_; (with_reducible refine (cluster_Prune.calls _ _ y122 2 t125 t126 _ ?side1 ?side2 A1.out).mono ?_); (case side1 => repeat (first | exact (Kd.R_reads' HO124.out).2.2 | (with_reducible refine Kd.C_alloc ?_ _) | (with_reducible refine Kd.C_drewN ?_ _) | (with_reducible refine Kd.C_drew ?_))); (case side2 => exact (Kd.R_reads' HO124.out).2.1); rintro e w17 ⟨v127, rfl, ho0, hb⟩; refine ⟨_, rfl, ?_⟩; have n0_ := Aside0.mk (Kd.R_below (by (with_reducible repeat (first | apply Kd.R_alloc | apply Kd.R_drewN | apply Kd.R_drew)); exact HO124.out) hb); have n1_ := Aside0.mk (Kd.R_lower ho0 (below_size (by repeat (first | (with_reducible first | exact HB.out | apply below_alloc | apply pw_below_drewN | apply below_drew1) | exact HB.out)))); have n2_ := Aside0.mk (below_step (by repeat (first | (with_reducible first | exact HB.out | apply below_alloc | apply pw_below_drewN | apply below_drew1) | exact HB.out)) hb); clear HO124; clear HB; have HO124 := n0_; have HO128 := n1_; have HB := n2_; clear n0_ n1_ n2_; (try clear hb); (try clear hb2); (try clear hk); (try clear hi); (try clear ho0)) | ((with_reducible refine gate_dst (N := 14) rfl ?_); refine Kd.R_lit (Kd.int .i64) _ 3 ?hg (N := 14) ?hd (xs := ([0, 1] : List Int)) (inner := [.int .i64 0, .int .i64 1]) (ok := fun _ => True) (okp := fun _ => True) ?hr ?hp (fun _ hk => hk) trivial (Below.refl _ _) (Nat.le_refl _) (by simp) ?_; (case hd => rfl); (case hg => rfl); (case hr => first | (go_simp; done) | (go_simp; rfl)); (case hp => exact (Reps.one (show Kd.M (Kd.int .i64) _ _ _ 0 [.int .i64 0] from rfl) (Reps.one (show Kd.M (Kd.int .i64) _ _ _ 1 [.int .i64 1] from rfl) (Reps.none _ _)))); intro v130 w18 ho19 hb hg_ hnew_; clear hg_ hnew_; (first | rw [← Ny129.out] at ho19 | (simp only [Int.reduceToNat] at ho19; rw [← Ny129.out] at ho19)); have n0_ := Aside0.mk (Kd.R_below (by (with_reducible repeat (first | apply Kd.R_alloc | apply Kd.R_drewN | apply Kd.R_drew)); exact HO124.out) hb); have n1_ := Aside0.mk (Kd.R_elder' (by (with_reducible repeat (first | apply Kd.R_alloc | apply Kd.R_drewN | apply Kd.R_drew)); exact HO128.out) (Kd.R_base ho19) hb); have n2_ := Aside0.mk (Kd.R_lower (Kd.R_new' ho19 (Kd.R_lt (by (with_reducible repeat (first | apply Kd.R_alloc | apply Kd.R_drewN | apply Kd.R_drew)); exact HO128.out))) (below_size (by repeat (first | (with_reducible first | exact HB.out | apply below_alloc | apply pw_below_drewN | apply below_drew1) | exact HB.out)))); have n3_ := Aside0.mk (below_step (by repeat (first | (with_reducible first | exact HB.out | apply below_alloc | apply pw_below_drewN | apply below_drew1) | exact HB.out)) hb); clear HO124; clear HO128; clear HB; have HO124 := n0_; have HO128 := n1_; have HO131 := n2_; have HB := n3_; clear n0_ n1_ n2_ n3_; clear hb ho19; obtain ⟨Ao20, co20, eo20⟩ := Kd.R_slice HO128.out; subst eo20; obtain ⟨Ao21, co21, eo21⟩ := Kd.R_slice HO131.out; subst eo21) | ((with_reducible refine gate_callee (f := 34) rfl ?_); refine goesL_ (some 15) rfl rfl Try.func34 (by kernel_rfl) rfl #[.slice Ao20 t125.length co20, .slice Ao21 y129.length co21] rfl (by (try simp only [List.map_toArray, List.map_cons, List.map_nil]); first | done | rfl | (simp only [List.length_drop, List.length_take]; rfl)) ?_; (with_reducible refine (analemmalaw17_ints.calls k _ _ t125 _ _ y129 false _ ?side1 ?side2 ?side3 ?side4 A2.out).mono ?_); (case side1 => repeat (first | exact (Kd.R_reads' HO128.out).2.2 | (with_reducible refine Kd.C_alloc ?_ _) | (with_reducible refine Kd.C_drewN ?_ _) | (with_reducible refine Kd.C_drew ?_))); (case side2 => exact (Kd.R_reads' HO128.out).2.1); (case side3 => repeat (first | exact (Kd.R_reads' HO131.out).2.2 | (with_reducible refine Kd.C_alloc ?_ _) | (with_reducible refine Kd.C_drewN ?_ _) | (with_reducible refine Kd.C_drew ?_))); (case side4 => exact (Kd.R_reads' HO131.out).2.1); rintro e w' ⟨rfl, ⟨nd, rfl⟩⟩; refine ⟨_, rfl, ?_⟩))
    go_ret
    exact ⟨by first | rfl | (simp [errW_none, errW_some] <;> rfl) | (simp [*, errW_none, errW_some] <;> rfl), by repeat (first | (with_reducible first | exact HB.out | apply below_alloc | apply pw_below_drewN | apply below_drew1) | exact HB.out)⟩

/-! ### analemmalaw17_theirs: function 27 -/
def analemmalaw17_theirs.l0 : Nat → List (S70) → List (S89) → Int → Option ((List (S89)))
  | 0, _, _, _ => none
  | k + 1, x0, x3, x4 => if x4 < (x0.length : Int) then (if 0 ≤ x4 then (if x3.length < 5864062014805 then (analemmalaw17_theirs.l0 k x0 (x3 ++ [(⟨(rd_T70 x0 x4).f0, (rd_T70 x0 x4).f1, (rd_T70 x0 x4).f2⟩ : S89)]) (wrap64 (x4 + 1))) else (none)) else (none)) else (some x3)
def analemmalaw17_theirs.f (k : Nat) (l0 : List (S70)) : Option ((List (S89))) := analemmalaw17_theirs.l0 k l0 (([] : List (S89))) 0
theorem analemmalaw17_theirs.mono_l : ∀ k, (∀ y0 y1 y2, LeO (analemmalaw17_theirs.l0 k y0 y1 y2) (analemmalaw17_theirs.l0 (k + 1) y0 y1 y2))
  | 0 => fun _ _ _ r h => by simp [analemmalaw17_theirs.l0] at h
  | k + 1 => by
    have ih0 := analemmalaw17_theirs.mono_l k
    · intro y0 y1 y2
      unfold analemmalaw17_theirs.l0
      repeat' first
      | (with_reducible exact ih0 _ _ _)
      | (with_reducible exact LeO.refl _)
      | (with_reducible exact LeO.none _)
      | (with_reducible refine LeO.ite ?_ ?_)
      | (with_reducible refine LeO.bind ?_ (fun _ => ?_))
      | exact ih0 _ _ _
      | exact LeO.none _
      | refine LeO.ite ?_ ?_
      | refine LeO.bind ?_ (fun _ => ?_)
theorem analemmalaw17_theirs.mono : ∀ a0 k, LeO (analemmalaw17_theirs.f k a0) (analemmalaw17_theirs.f (k + 1) a0) := by
  intro a0 k
  have ih0 := analemmalaw17_theirs.mono_l k
  unfold analemmalaw17_theirs.f
  repeat' first
      | (with_reducible exact ih0 _ _ _)
      | (with_reducible exact LeO.refl _)
      | (with_reducible exact LeO.none _)
      | (with_reducible refine LeO.ite ?_ ?_)
      | (with_reducible refine LeO.bind ?_ (fun _ => ?_))
      | exact ih0 _ _ _
      | exact LeO.none _
      | refine LeO.ite ?_ ?_
      | refine LeO.bind ?_ (fun _ => ?_)
set_option maxHeartbeats 8000000 in
set_option maxRecDepth 100000 in
theorem analemmalaw17_theirs.calls (k : Nat) (A0 : Option Addr) (c0 : Nat) (l0 : List (S70)) (r : List (S89)) (w : World) (hr0 : Kd.C k70 w A0 l0.length l0) (hc0 : l0.length ≤ c0) (h : analemmalaw17_theirs.f k l0 = some r) :
    Calls Try.prog 27 #[.slice A0 l0.length c0] w fun e w' => ∃ v0_ : Value, e = .returned (v0_) ∧ Kd.R k89 89 w' w.heap.size (fun _ => True) v0_ r ∧ Below w.heap.size w w' := by
  have hu70 := Try.underlying70
  have HR0 := Aside0.mk hr0
  have HC0 := Aside0.mk hc0
  clear hr0 hc0
  have HB := Aside0.mk (Below.refl w.heap.size w)
  have H : (analemmalaw17_theirs.l0 k l0 (([] : List (S89))) 0) = some r := h
  clear h
  obtain ⟨y134, hy134⟩ : ∃ y_ : List (S89), y_ = (([] : List (S89))) := ⟨_, rfl⟩
  replace H : (analemmalaw17_theirs.l0 k l0 y134 0) = some r := by first | (rw [hy134]; with_reducible exact H) | (have H2_ := (Option.bind_some _ _).symm.trans H; rw [hy134]; with_reducible exact H2_) | (have H2_ := (Option.bind_some _ _).symm.trans H; with_reducible exact H2_) | with_reducible exact H | (rw [hy134]; exact H) | exact H
  have Ny134 := Aside0.mk hy134
  clear hy134
  have H' := Aside0.mk H
  clear H
  go_enter Try.func27, Try.ntmps27
  go_wp2_with (first | ((with_reducible refine gate_dst (N := 5) rfl ?_); refine Kd.R_lit k89 _ 89 ?hg (N := 5) ?hd (xs := ([] : List (S89))) (inner := []) (ok := fun _ => True) (okp := fun _ => True) ?hr ?hp (fun _ hk => hk) trivial (Below.refl _ _) (Nat.le_refl _) (by simp) ?_; (case hd => rfl); (case hg => rfl); (case hr => first | (go_simp; done) | (go_simp; rfl)); (case hp => exact (Reps.none _ _)); intro v135 w2 ho3 hb hg_ hnew_; clear hg_ hnew_; (first | rw [← Ny134.out] at ho3 | (simp only [Int.reduceToNat] at ho3; rw [← Ny134.out] at ho3)); have n0_ := Aside0.mk (Kd.R_lower ho3 (below_size (by repeat (first | (with_reducible first | exact HB.out | apply below_alloc | apply pw_below_drewN | apply below_drew1) | exact HB.out)))); have n1_ := Aside0.mk (below_step (by repeat (first | (with_reducible first | exact HB.out | apply below_alloc | apply pw_below_drewN | apply below_drew1) | exact HB.out)) hb); clear HB; have HO136 := n0_; have HB := n1_; clear n0_ n1_; clear hb ho3))
  go_loopg [3, 4] k (fun kq v3 v4 w' => ∃ (x3_1 : List (S89)) (x4_1 : Int), v4 = .int .i64 x4_1 ∧ Aside0 (analemmalaw17_theirs.l0 kq l0 x3_1 x4_1 = some r) ∧ Aside0 (kq ≤ k) ∧ Aside0 (Kd.R k89 89 w' w.heap.size (fun _ => True) v3 x3_1) ∧ Aside0 (Below w.heap.size w w'))
  case atStart => exact ⟨(y134), (0), (by first | rfl | (simp; done) | (simp [*]; done)), H', ⟨Nat.le_refl _⟩, ⟨by (with_reducible repeat (first | apply Kd.R_alloc | apply Kd.R_drewN | apply Kd.R_drew)); exact HO136.out⟩, ⟨by repeat (first | (with_reducible first | exact HB.out | apply below_alloc | apply pw_below_drewN | apply below_drew1) | exact HB.out)⟩⟩
  case round =>
    clear H'
    try clear c2
    try clear p2
    obtain ⟨x3_1, x4_1, rfl, HA, HK1, HO_3, HB⟩ := hrel
    cases gk with
    | zero => exact absurd HA.out (by simp [analemmalaw17_theirs.l0])
    | succ k1 =>
      have H := HA.out
      clear HA
      simp only [analemmalaw17_theirs.l0] at H
      by_cases c4 : x4_1 < (l0.length : Int)
      · rw [if_pos c4] at H
        have c4b0 : decide (x4_1 < (l0.length : Int)) = true := decide_eq_true c4
        clear c4
        by_cases c5 : 0 ≤ x4_1
        · rw [if_pos c5] at H
          have c5b0 : decide (0 ≤ x4_1) = true := decide_eq_true c5
          clear c5
          by_cases c6 : x3_1.length < 5864062014805
          · rw [if_pos c6] at H
            have LMc6 := Aside0.mk c6
            clear c6
            obtain ⟨y138, hy138⟩ : ∃ y_ : List (S89), y_ = (x3_1 ++ [(⟨(rd_T70 l0 x4_1).f0, (rd_T70 l0 x4_1).f1, (rd_T70 l0 x4_1).f2⟩ : S89)]) := ⟨_, rfl⟩
            replace H : (analemmalaw17_theirs.l0 k1 l0 y138 (wrap64 (x4_1 + 1))) = some r := by first | (rw [hy138]; with_reducible exact H) | (have H2_ := (Option.bind_some _ _).symm.trans H; rw [hy138]; with_reducible exact H2_) | (have H2_ := (Option.bind_some _ _).symm.trans H; with_reducible exact H2_) | with_reducible exact H | (rw [hy138]; exact H) | exact H
            have Ny138 := Aside0.mk hy138
            clear hy138
            have H' := Aside0.mk H
            clear H
            have p137 : 0 ≤ (x4_1 : Int) := of_decide_eq_true (by first | (with_reducible assumption) | assumption)
            have q137 : x4_1 < (l0.length : Int) := of_decide_eq_true (by first | (with_reducible assumption) | assumption)
            obtain ⟨ad137, e137, hx137_0, hx137_1, hx137_2⟩ := at_T70 HR0.out x4_1 p137 q137
            cases e137
            replace hx137_0 := (HB.out.cell (World.block_lt_of_cell? w _ hx137_0)).trans hx137_0
            replace hx137_1 := (HB.out.cell (World.block_lt_of_cell? w _ hx137_1)).trans hx137_1
            replace hx137_2 := (HB.out.cell (World.block_lt_of_cell? w _ hx137_2)).trans hx137_2
            replace p137 := eq_true p137
            replace q137 := eq_true q137
            go_wp2_with (first | ((with_reducible refine gate_builtin (b := .append) (xs := #[.tmp 12, .tmp 17]) rfl ?_); at_builtin; refine Kd.R_append k89 (w0 := w) w.heap.size rfl (.tmp 12) (.tmp 17) 54 89 (.agg #[(.int .i64 0), (.int .i64 0), (.int .i64 0)]) 24 rfl Try.underlying54 info89 rfl (by decide) (by omega) u3 x3_1 (⟨(rd_T70 l0 x4_1).f0, (rd_T70 l0 x4_1).f1, (rd_T70 l0 x4_1).f2⟩ : S89) [.int .i64 ((rd_T70 l0 x4_1).f0), .int .i64 ((rd_T70 l0 x4_1).f1), .int .i64 ((rd_T70 l0 x4_1).f2)] (fun _ => True) (fun _ => False) rfl rfl ?aP (fun _ hk => hk.elim) ?aF ?aO ?aB ?aS ?aL ?_; (case aP => exact k89_mkM _ _ _ (⟨(rd_T70 l0 x4_1).f0, (rd_T70 l0 x4_1).f1, (rd_T70 l0 x4_1).f2⟩ : S89)); (case aB => exact (by repeat (first | (with_reducible first | exact HB.out | apply below_alloc | apply pw_below_drewN | apply below_drew1) | exact HB.out))); (case aF => exact (fun _ _ => trivial)); (case aO => exact (by (with_reducible repeat (first | apply Kd.R_alloc | apply Kd.R_drewN | apply Kd.R_drew)); exact HO_3.out)); (case aS => exact (below_size (by repeat (first | (with_reducible first | exact HB.out | apply below_alloc | apply pw_below_drewN | apply below_drew1) | exact HB.out)))); (case aL => have := LMc6.out; omega); intro v139 w7 ho hb hg hat; rw [← Ny138.out] at ho; have n0_ := Aside0.mk (hb); have n1_ := Aside0.mk (ho); clear HB; clear HO_3; have HB := n0_; have HO140 := n1_; clear n0_ n1_; clear ho hb hg hat))
            go_roundg k1
            case measure => have := HK1.out; omega
            case rel => exact ⟨(y138), (wrap64 (x4_1 + 1)), (by first | rfl | (simp; done) | (simp [*]; done)), H', ⟨by have := HK1.out; omega⟩, ⟨by (with_reducible repeat (first | apply Kd.R_alloc | apply Kd.R_drewN | apply Kd.R_drew)); exact HO140.out⟩, ⟨by repeat (first | (with_reducible first | exact HB.out | apply below_alloc | apply pw_below_drewN | apply below_drew1) | exact HB.out)⟩⟩
          · rw [if_neg c6] at H
            exact absurd H (by simp)
        · rw [if_neg c5] at H
          exact absurd H (by simp)
      · rw [if_neg c4] at H
        have c4b0 : decide (x4_1 < (l0.length : Int)) = false := decide_eq_false c4
        clear c4
        obtain rfl := Option.some.inj H
        go_wp2
        go_ret
        exact ⟨_, by first | rfl | (simp [errW_none, errW_some] <;> rfl) | (simp [*, errW_none, errW_some] <;> rfl), by (with_reducible repeat (first | apply Kd.R_alloc | apply Kd.R_drewN | apply Kd.R_drew)); exact HO_3.out, by repeat (first | (with_reducible first | exact HB.out | apply below_alloc | apply pw_below_drewN | apply below_drew1) | exact HB.out)⟩

end Go.Proofs.Ytoddgpaopejeoaa.MClu
