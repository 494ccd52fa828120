/- Functions that the statements of this seat reach, each as a plain Lean function, with a proof that the Go code comes to its answers; no condition. -/
import Derived.Test.YtlbelgdcicholaaMExtx0
import Derived.Test.YtlbelgdcicholaaMExtx1
import Derived.Test.YtlbelgdcicholaaMExtx5
namespace Go.Proofs.Ytlbelgdcicholaa.MExt
open Go.RowKit Go.Proofs.YtlbelgdcicholaaW.PrintWords Go.Proofs.YtlbelgdcicholaaW.PrintLast Go.Proofs.YtlbelgdcicholaaW.PrintMore
attribute [local go_sem] max2_int min2_int max_two min_two max_three min_three max_four min_four   -- for this text's walks alone
set_option linter.unusedVariables false
set_option linter.unusedSimpArgs false

attribute [local go_sem high] eqA36
/-! ### extend_Field: function 56 -/
def extend_Field.l0 : Nat → List (S36) → List (S36) → Int → Int → Option (Bool)
  | 0, _, _, _, _ => none
  | k + 1, x0, x1, x12, x13 => if x13 < x12 then (if 0 ≤ x13 then (if x13 < (x0.length : Int) then (if x13 < (x1.length : Int) then (if (!(((rd_T36 x0 x13).f0) == ((rd_T36 x1 x13).f0)) || (!((((rd_T36 x0 x13).f1).toList) == (((rd_T36 x1 x13).f1).toList)))) = true then (some false) else (extend_Field.l0 k x0 x1 x12 (wrap64 (x13 + 1)))) else (none)) else (none)) else (none)) else (some true)
def extend_Field.f (k : Nat) (l0 : List (S36)) (l1 : List (S36)) : Option (Bool) := if (l0.length : Int) = (l1.length : Int) then (extend_Field.l0 k l0 l1 (l0.length : Int) 0) else (some false)
theorem extend_Field.mono_l : ∀ k, (∀ y0 y1 y2 y3, LeO (extend_Field.l0 k y0 y1 y2 y3) (extend_Field.l0 (k + 1) y0 y1 y2 y3))
  | 0 => fun _ _ _ _ r h => by simp [extend_Field.l0] at h
  | k + 1 => by
    have ih0 := extend_Field.mono_l k
    · intro y0 y1 y2 y3
      unfold extend_Field.l0
      repeat' first
      | (with_reducible exact ih0 _ _ _ _)
      | (with_reducible exact LeO.refl _)
      | (with_reducible exact LeO.none _)
      | (with_reducible refine LeO.ite ?_ ?_)
      | (with_reducible refine LeO.bind ?_ (fun _ => ?_))
      | exact ih0 _ _ _ _
      | exact LeO.none _
      | refine LeO.ite ?_ ?_
      | refine LeO.bind ?_ (fun _ => ?_)
theorem extend_Field.mono : ∀ a0 a1 k, LeO (extend_Field.f k a0 a1) (extend_Field.f (k + 1) a0 a1) := by
  intro a0 a1 k
  have ih0 := extend_Field.mono_l k
  unfold extend_Field.f
  repeat' first
      | (with_reducible exact ih0 _ _ _ _)
      | (with_reducible exact LeO.refl _)
      | (with_reducible exact LeO.none _)
      | (with_reducible refine LeO.ite ?_ ?_)
      | (with_reducible refine LeO.bind ?_ (fun _ => ?_))
      | exact ih0 _ _ _ _
      | exact LeO.none _
      | refine LeO.ite ?_ ?_
      | refine LeO.bind ?_ (fun _ => ?_)
set_option maxHeartbeats 8000000 in
set_option maxRecDepth 100000 in
theorem extend_Field.calls (k : Nat) (A0 : Option Addr) (c0 : Nat) (l0 : List (S36)) (A1 : Option Addr) (c1 : Nat) (l1 : List (S36)) (r : Bool) (w : World) (hr0 : Kd.C k36 w A0 l0.length l0) (hc0 : l0.length ≤ c0) (hr1 : Kd.C k36 w A1 l1.length l1) (hc1 : l1.length ≤ c1) (h : extend_Field.f k l0 l1 = some r) :
    Calls Try.prog 56 #[.slice A0 l0.length c0, .slice A1 l1.length c1] w fun e w' => e = .returned (.bool r) ∧ Drawn0 w w' := by
  have hu36 := Try.underlying36
  have HR0 := Aside0.mk hr0
  have HC0 := Aside0.mk hc0
  clear hr0 hc0
  have HR1 := Aside0.mk hr1
  have HC1 := Aside0.mk hc1
  clear hr1 hc1
  have H : (if (l0.length : Int) = (l1.length : Int) then (extend_Field.l0 k l0 l1 (l0.length : Int) 0) else (some false)) = some r := h
  clear h
  by_cases c3 : (l0.length : Int) = (l1.length : Int)
  · rw [if_pos c3] at H
    have c3b0 : ((l0.length : Int) == (l1.length : Int)) = true := beq_iff_eq.mpr c3
    have c3b1 : ((l0.length : Int) != (l1.length : Int)) = false := bne_eq_false_iff_eq.mpr c3
    have c3b2 : (l0.length == l1.length) = true := by first | simpa using c3 | (simp at c3 ⊢; omega)
    clear c3
    have H' := Aside0.mk H
    clear H
    go_enter Try.func56, Try.ntmps56
    go_wp2
    repeat (go_quiet (fail); try go_wp2)
    go_loopg [13] k (fun kq v13 w' => ∃ (x13_1 : Int), v13 = .int .i64 x13_1 ∧ Aside0 (extend_Field.l0 kq l0 l1 (l0.length : Int) x13_1 = some r) ∧ Aside0 (kq ≤ k) ∧ Drawn0 w w')
    case atStart => exact ⟨(0), (by first | rfl | (simp; done) | (simp [*]; done)), H', ⟨Nat.le_refl _⟩, by repeat (first | exact Drawn0.refl _ | apply Drawn0.step)⟩
    case round =>
      clear H'
      try clear c1
      try clear p2
      try clear c3
      try clear c3b0
      try clear c3b1
      try clear c3b2
      obtain ⟨x13_1, rfl, HA, HK1, ⟨m1, rfl⟩⟩ := hrel
      cases gk with
      | zero => exact absurd HA.out (by simp [extend_Field.l0])
      | succ k1 =>
        have H := HA.out
        clear HA
        simp only [extend_Field.l0] at H
        by_cases c4 : x13_1 < (l0.length : Int)
        · rw [if_pos c4] at H
          have c4b0 : decide (x13_1 < (l0.length : Int)) = true := decide_eq_true c4
          clear c4
          by_cases c5 : 0 ≤ x13_1
          · rw [if_pos c5] at H
            have c5b0 : decide (0 ≤ x13_1) = true := decide_eq_true c5
            clear c5
            by_cases c6 : x13_1 < (l0.length : Int)
            · rw [if_pos c6] at H
              have c6b0 : decide (x13_1 < (l0.length : Int)) = true := decide_eq_true c6
              clear c6
              by_cases c7 : x13_1 < (l1.length : Int)
              · rw [if_pos c7] at H
                have c7b0 : decide (x13_1 < (l1.length : Int)) = true := decide_eq_true c7
                clear c7
                by_cases c8 : (!(((rd_T36 l0 x13_1).f0) == ((rd_T36 l1 x13_1).f0)) || (!((((rd_T36 l0 x13_1).f1).toList) == (((rd_T36 l1 x13_1).f1).toList)))) = true
                · rw [if_pos c8] at H
                  have c8b0 : (!(((rd_T36 l0 x13_1).f0) == ((rd_T36 l1 x13_1).f0)) || (!((((rd_T36 l0 x13_1).f1).toList) == (((rd_T36 l1 x13_1).f1).toList)))) = true := c8
                  clear c8
                  obtain rfl := Option.some.inj H
                  have p156 : 0 ≤ (x13_1 : Int) := of_decide_eq_true (by first | (with_reducible assumption) | assumption)
                  have q156 : x13_1 < (l0.length : Int) := of_decide_eq_true (by first | (with_reducible assumption) | assumption)
                  obtain ⟨ad156, e156, hx156_0, hx156_1⟩ := at_T36 HR0.out x13_1 p156 q156
                  cases e156
                  replace p156 := eq_true p156
                  replace q156 := eq_true q156
                  have p157 : 0 ≤ (x13_1 : Int) := of_decide_eq_true (by first | (with_reducible assumption) | assumption)
                  have q157 : x13_1 < (l1.length : Int) := of_decide_eq_true (by first | (with_reducible assumption) | assumption)
                  obtain ⟨ad157, e157, hx157_0, hx157_1⟩ := at_T36 HR1.out x13_1 p157 q157
                  cases e157
                  replace p157 := eq_true p157
                  replace q157 := eq_true q157
                  go_wp2
                  repeat (go_quiet (fail); try go_wp2)
                  go_ret
                  exact ⟨by first | rfl | (simp; done) | (simp [*]; done), by repeat (first | exact Drawn0.refl _ | apply Drawn0.step)⟩
                · rw [if_neg c8] at H
                  have c8b0 : (!(((rd_T36 l0 x13_1).f0) == ((rd_T36 l1 x13_1).f0)) || (!((((rd_T36 l0 x13_1).f1).toList) == (((rd_T36 l1 x13_1).f1).toList)))) = false := by simpa using c8
                  clear c8
                  have H' := Aside0.mk H
                  clear H
                  have p156 : 0 ≤ (x13_1 : Int) := of_decide_eq_true (by first | (with_reducible assumption) | assumption)
                  have q156 : x13_1 < (l0.length : Int) := of_decide_eq_true (by first | (with_reducible assumption) | assumption)
                  obtain ⟨ad156, e156, hx156_0, hx156_1⟩ := at_T36 HR0.out x13_1 p156 q156
                  cases e156
                  replace p156 := eq_true p156
                  replace q156 := eq_true q156
                  have p157 : 0 ≤ (x13_1 : Int) := of_decide_eq_true (by first | (with_reducible assumption) | assumption)
                  have q157 : x13_1 < (l1.length : Int) := of_decide_eq_true (by first | (with_reducible assumption) | assumption)
                  obtain ⟨ad157, e157, hx157_0, hx157_1⟩ := at_T36 HR1.out x13_1 p157 q157
                  cases e157
                  replace p157 := eq_true p157
                  replace q157 := eq_true q157
                  go_wp2
                  repeat (go_quiet (fail); try go_wp2)
                  go_roundg k1
                  case measure => have := HK1.out; omega
                  case rel => exact ⟨(wrap64 (x13_1 + 1)), (by first | rfl | (simp; done) | (simp [*]; done)), H', ⟨by have := HK1.out; omega⟩, by repeat (first | exact Drawn0.refl _ | apply Drawn0.step)⟩
              · rw [if_neg c7] at H
                exact absurd H (by simp)
            · rw [if_neg c6] at H
              exact absurd H (by simp)
          · rw [if_neg c5] at H
            exact absurd H (by simp)
        · rw [if_neg c4] at H
          have c4b0 : decide (x13_1 < (l0.length : Int)) = false := decide_eq_false c4
          clear c4
          obtain rfl := Option.some.inj H
          go_wp2
          repeat (go_quiet (fail); try go_wp2)
          go_ret
          exact ⟨by first | rfl | (simp; done) | (simp [*]; done), by repeat (first | exact Drawn0.refl _ | apply Drawn0.step)⟩
  · rw [if_neg c3] at H
    have c3b0 : ((l0.length : Int) == (l1.length : Int)) = false := beq_eq_false_iff_ne.mpr c3
    have c3b1 : ((l0.length : Int) != (l1.length : Int)) = true := bne_iff_ne.mpr c3
    have c3b2 : (l0.length == l1.length) = false := by first | simpa using c3 | (simp at c3 ⊢; omega)
    obtain rfl := Option.some.inj H
    go_enter Try.func56, Try.ntmps56
    go_wp2
    repeat (go_quiet (fail); try go_wp2)
    go_ret
    exact ⟨by first | rfl | (simp; done) | (simp [*]; done), by repeat (first | exact Drawn0.refl _ | apply Drawn0.step)⟩

/-! ### extend_Join: function 31 -/
section
open Go.Shelf
theorem sizeB : (Try.prog.info? 84).map (fun i => i.size) = some 2 := by kernel_rfl
set_option maxHeartbeats 2000000 in
set_option maxRecDepth 100000 in
theorem copyCheck_used (b : Nat) (w : World) (h0 : w.cell? ⟨b, 0, none⟩ = some (.pointer (some ⟨b, 0, none⟩))) :
    Calls Try.prog 65 #[.pointer (some ⟨b, 0, none⟩)] w fun e w' => e = .returned (.tuple #[]) ∧ w' = w := by
  obtain ⟨j, hj, _⟩ := Option.map_eq_some_iff.1 sizeB
  go_enter Try.func65, Try.ntmps65
  go_wp2
  rw [Lib.run_neq_ptr_same w _ Try.underlying82 hj]
  go_wp2
  go_end0
  exact ⟨rfl, rfl⟩
set_option maxHeartbeats 2000000 in
set_option maxRecDepth 100000 in
theorem copyCheck_fresh (b : Nat) (w : World) (h0 : w.cell? ⟨b, 0, none⟩ = some (.pointer none)) (hsh : w.shape? b = some (84, 2)) (hfz : w.frozen? ⟨b, 0, none⟩ = false) :
    Calls Try.prog 65 #[.pointer (some ⟨b, 0, none⟩)] w fun e w' => e = .returned (.tuple #[]) ∧ w' = w.setCell ⟨b, 0, none⟩ (.pointer (some ⟨b, 0, none⟩)) := by
  obtain ⟨j, hj, hjs⟩ := Option.map_eq_some_iff.1 sizeB
  go_enter Try.func65, Try.ntmps65
  go_wp2
  rw [Lib.run_to_unsafe w ⟨b, 0, none⟩ Try.underlying82 Try.underlying102 hj (by rw [hjs]; decide) hsh (Nat.zero_lt_succ 1)]
  simp only [Result.andThen]
  rw [Oper.upon_value]
  go_wp2
  rw [run_callFunc_extern Try.func70 (by kernel_rfl) (by kernel_rfl) (by kernel_rfl) (e := Extern.AbiNoEscape.same) (by kernel_rfl)]
  rw [Lib.run_noEscape]
  simp only [Result.andThen]
  rw [Oper.upon_value]
  go_wp2
  rw [Lib.run_from_unsafe w ⟨b, 0, none⟩ Try.underlying102 Try.underlying82 hj hsh (by kernel_rfl)]
  simp only [Result.andThen]
  rw [Oper.upon_value]
  go_wp2
  go_end0
  exact ⟨rfl, rfl⟩
theorem copyCheck_calls (B b : Nat) (bs : List Value) (w : World) (h : Lib.IsBuilder 84 5 B b bs w) :
    Calls Try.prog 65 #[.pointer (some ⟨b, 0, none⟩)] w fun e w' => e = .returned (.tuple #[]) ∧ Lib.BuilderAt 84 5 B b (.pointer (some ⟨b, 0, none⟩)) bs w' ∧ Below B w w' ∧ (∀ k, k ≠ b → w'.heap[k]? = w.heap[k]?) ∧ w.heap.size ≤ w'.heap.size := by
  rcases h with h | h
  · refine (copyCheck_fresh b w h.cell0 h.shape h.frozen0).mono ?_
    rintro e w' ⟨rfl, rfl⟩
    exact ⟨rfl, h.used _, (Below.refl B w).setCell (p := ⟨b, 0, none⟩) h.1 _, fun k hk => Below.heap_setCell w ⟨b, 0, none⟩ _ k hk, by simp [World.setCell]⟩
  · refine (copyCheck_used b w h.cell0).mono ?_
    rintro e w' ⟨rfl, rfl⟩
    exact ⟨rfl, h, Below.refl B _, fun _ _ => rfl, Nat.le_refl _⟩
theorem row_ne {W : World} {k : Nat} {cs : Array Value} {t e : TypeId} {base size n : Nat} {v : Value} {xs : List Value} (h : W.heap[k]? = some (.cells cs t (0, 0))) (ht : t ≠ e) (hr : W.ownsRow base e size v n xs) : some k ≠ v.ownBlock := by
  rcases hr.2 with ⟨rfl, _⟩ | ⟨g, cap, cur, rfl, _, hgb, _⟩
  · simp [Value.ownBlock]
  · intro e'
    obtain rfl : k = g := by simpa [Value.ownBlock] using e'
    have := h.symm.trans hgb
    simp at this
    exact ht this.2
theorem isb_below {T e : TypeId} {B b : Nat} {bs : List Value} {W W' : World} (h : Lib.IsBuilder T e B b bs W) (hb : Below W.heap.size W W') : Lib.IsBuilder T e B b bs W' := by
  have key : ∀ {p : Value}, Lib.BuilderAt T e B b p bs W → Lib.BuilderAt T e B b p bs W' := by
    rintro p ⟨hB, v, hbk, hown, hne⟩
    refine ⟨hB, v, blk_below hbk hb, ⟨hown.1, ?_⟩, hne⟩
    rcases hown.2 with ⟨rfl, h0⟩ | ⟨g, cap, cur, rfl, h1, hgb, h2⟩
    · exact .inl ⟨rfl, h0⟩
    · exact .inr ⟨g, cap, cur, rfl, h1, blk_below hgb hb, h2⟩
  exact h.elim (fun q => .inl (key q)) (fun q => .inr (key q))
theorem infoU8 : (Try.prog.info? 5).map (fun i => (i.zero, i.size, i.bytes)) = some (some (.int .u8 0), 1, 1) := by kernel_rfl
set_option maxHeartbeats 2000000 in
set_option maxRecDepth 100000 in
theorem writeString_calls (B b : Nat) (bs : List Value) (s : ByteArray) (w : World) (h : Lib.IsBuilder 84 5 B b bs w) (hlen : bs.length + s.size ≤ 140737488355328) (hBw : B ≤ w.heap.size) :
    Calls Try.prog 54 #[.pointer (some ⟨b, 0, none⟩), .string s] w fun e w' => e = .returned (.tuple #[.int .i64 s.size, .nilIface]) ∧ Lib.BuilderAt 84 5 B b (.pointer (some ⟨b, 0, none⟩)) (bs ++ Lib.strCells s) w' ∧ Below B w w' := by
  obtain ⟨i0, hi, hz0, hz1, hz2⟩ := info_parts infoU8
  go_enter Try.func54, Try.ntmps54
  go_wp2_with (go_at_call 65; refine (copyCheck_calls B b bs _ h).mono ?_)
  rintro e w1 ⟨rfl, h1, hb1, _, _⟩
  obtain ⟨hB, v, hbk, hown, hne⟩ := h1
  have c0 : w1.cell? ⟨b, 0, none⟩ = some (.pointer (some ⟨b, 0, none⟩)) := by rw [Lib.cell_of_heap hbk]; rfl
  have c1 : w1.cell? ⟨b, 1, none⟩ = some v := by rw [Lib.cell_of_heap hbk]; rfl
  go_wp2_with (at_builtin; refine Lib.wpList_append_own_string _ rfl _ _ 67 9 rfl B 5 i0 Try.underlying67 Try.underlying9 hi hz0 hz1 hz2 _ _ _ rfl hown s rfl ?c3 ?c4 ?c5 ?_)
  case c3 => unfold maxLen; omega
  case c4 => omega
  case c5 => have := hb1.size; omega
  intro v' w2 hown' hgrow _
  have hlt : b < w1.heap.size := blk_lt hbk
  have hb2 : w2.heap[b]? = some (.cells #[.pointer (some ⟨b, 0, none⟩), v] 84 (0, 0)) := by
    rw [hgrow.block b hlt (fun e => hne e.symm)]
    exact hbk
  have d0 : w2.cell? ⟨b, 0, none⟩ = some (.pointer (some ⟨b, 0, none⟩)) := by rw [Lib.cell_of_heap hb2]; rfl
  have d1 : w2.cell? ⟨b, 1, none⟩ = some v := by rw [Lib.cell_of_heap hb2]; rfl
  have f1 : w2.frozen? ⟨b, 1, none⟩ = false := Lib.frozen_of_heap hb2 1
  obtain ⟨ao, n', cap, rfl⟩ : ∃ ao n' cap, v' = .slice ao n' cap := by
    rcases hown'.2 with ⟨hv, _⟩ | ⟨g, cap, cur, hv, _⟩
    · exact ⟨_, _, _, hv⟩
    · exact ⟨_, _, _, hv⟩
  go_wp2
  go_ret2
  refine ⟨rfl, ?_, ?_⟩
  · exact Lib.BuilderAt.put (T := 84) (e := 5) hB hb2 (bs' := bs ++ Lib.strCells s) (by simpa [Lib.strCells_length] using hown') (by decide)
  · exact (hb1.grown hgrow (by have := hb1.size; omega) (fun k hk => (hown.lt k hk).1)).setCell (p := ⟨b, 1, none⟩) hB _
set_option maxHeartbeats 2000000 in
set_option maxRecDepth 100000 in
theorem write_calls (B b : Nat) (bs : List Value) (g m c : Nat) (news : List Value) (w : World) (h : Lib.IsBuilder 84 5 B b bs w)
    (hl : news.length = m) (hnews : w.heap[g]? = some (.cells news.toArray 5 (0, 0))) (hgb : g ≠ b) (h1c : ∀ u ∈ news, u.oneCell' = true)
    (hlen : bs.length + m ≤ 140737488355328) (hBw : B ≤ w.heap.size) :
    Calls Try.prog 53 #[.pointer (some ⟨b, 0, none⟩), .slice (some ⟨g, 0, none⟩) m c] w fun e w' => e = .returned (.tuple #[.int .i64 m, .nilIface]) ∧ Lib.BuilderAt 84 5 B b (.pointer (some ⟨b, 0, none⟩)) (bs ++ news) w' ∧ Below B w w' ∧ ∀ k t cs, w.heap[k]? = some (.cells cs t (0, 0)) → k ≠ b → t ≠ 5 → w'.heap[k]? = some (.cells cs t (0, 0)) := by
  obtain ⟨i0, hi, hz0, hz1, hz2⟩ := info_parts infoU8
  go_enter Try.func53, Try.ntmps53
  go_wp2_with (go_at_call 65; refine (copyCheck_calls B b bs _ h).mono ?_)
  rintro e w1 ⟨rfl, h1, hb1, hk1, hs1⟩
  obtain ⟨hB, v, hbk, hown, hne⟩ := h1
  have c0 : w1.cell? ⟨b, 0, none⟩ = some (.pointer (some ⟨b, 0, none⟩)) := by rw [Lib.cell_of_heap hbk]; rfl
  have c1 : w1.cell? ⟨b, 1, none⟩ = some v := by rw [Lib.cell_of_heap hbk]; rfl
  have hn1 : ∀ j u, news[j]? = some u → w1.cell? (Addr.add ⟨g, 0, none⟩ j) = some u := fun j u hj => by
    rw [add_plain]
    refine (blk_cell ((hk1 g hgb).trans hnews) _).trans ?_
    simpa using hj
  go_wp2_with (at_builtin; refine wpList_append_own _ rfl _ _ 67 rfl B 5 i0 (.int .u8 0) 1 1 Try.underlying67 hi hz0 hz1 hz2 rfl (by decide) _ _ _ rfl hown ⟨g, 0, none⟩ m c news rfl (by omega) hn1 h1c ?c3 ?c4 ?c5 ?_)
  case c3 => unfold maxLen; omega
  case c4 => omega
  case c5 => have := hb1.size; omega
  intro v' w2 hown' hgrow _
  have hlt : b < w1.heap.size := blk_lt hbk
  have hb2 : w2.heap[b]? = some (.cells #[.pointer (some ⟨b, 0, none⟩), v] 84 (0, 0)) := by
    rw [hgrow.block b hlt (fun e => hne e.symm)]
    exact hbk
  have d0 : w2.cell? ⟨b, 0, none⟩ = some (.pointer (some ⟨b, 0, none⟩)) := by rw [Lib.cell_of_heap hb2]; rfl
  have d1 : w2.cell? ⟨b, 1, none⟩ = some v := by rw [Lib.cell_of_heap hb2]; rfl
  have f1 : w2.frozen? ⟨b, 1, none⟩ = false := Lib.frozen_of_heap hb2 1
  obtain ⟨ao, n', cap, rfl⟩ : ∃ ao n' cap, v' = .slice ao n' cap := by
    rcases hown'.2 with ⟨hv, _⟩ | ⟨g, cap, cur, hv, _⟩
    · exact ⟨_, _, _, hv⟩
    · exact ⟨_, _, _, hv⟩
  go_wp2
  go_ret2
  refine ⟨rfl, ?_, ?_, ?_⟩
  · exact Lib.BuilderAt.put (T := 84) (e := 5) hB hb2 (bs' := bs ++ news) (by simpa [hl] using hown') (by decide)
  · exact (hb1.grown hgrow (by have := hb1.size; omega) (fun k hk => (hown.lt k hk).1)).setCell (p := ⟨b, 1, none⟩) hB _
  · intro k t cs hk hkb ht
    have a1 := (hk1 k hkb).trans hk
    have a2 := (hgrow.block k (blk_lt a1) (row_ne a1 ht hown)).trans a1
    exact (Below.heap_setCell _ ⟨b, 1, none⟩ _ k hkb).trans a2

open Go.Shelf
def lays169_ren : Go.Shelf.Ren := ⟨fun | 169 => 55 | n => n, fun | 70 => 82 | 9 => 9 | 0 => 0 | 72 => 84 | 37 => 67 | 127 => 97 | 3 => 3 | 5 => 5 | n => n, fun | n => n⟩
theorem lays169 : Go.Proofs.Lays.n169 Try.prog lays169_ren := {
  mixed := by kernel_rfl
  f169 := Try.func55.trans (congrArg some (by kernel_rfl))
  t0 := Try.underlying0
  a0 := Try.isAgg0
  z0 := Try.sizeOf0
  v0 := Try.zeroValue0
  t3 := Try.underlying3
  a3 := Try.isAgg3
  z3 := Try.sizeOf3
  v3 := Try.zeroValue3
  t9 := Try.underlying9
  a9 := Try.isAgg9
  z9 := Try.sizeOf9
  v9 := Try.zeroValue9
  t37 := Try.underlying67
  a37 := Try.isAgg67
  z37 := Try.sizeOf67
  v37 := Try.zeroValue67
  t70 := Try.underlying82
  a70 := Try.isAgg82
  z70 := Try.sizeOf82
  v70 := Try.zeroValue82
  t72 := Try.underlying84
  a72 := Try.isAgg84
  z72 := Try.sizeOf84
  v72 := Try.zeroValue84
  t127 := Try.underlying97
  a127 := Try.isAgg97
  z127 := Try.sizeOf97
  v127 := Try.zeroValue97 }
theorem extra169 : Builder.Extra Try.prog lays169_ren := {
  sizeBuilder := by kernel_rfl
  liesBuilder := by kernel_rfl
  t5 := Try.underlying5
  a5 := Try.isAgg5
  z5 := Try.sizeOf5
  v5 := Try.zeroValue5
  infoByte := by kernel_rfl
  cellsByte := by kernel_rfl
  sizeByte := by kernel_rfl
  neB5 := by decide }
theorem string_calls (B b : Nat) (l : List UInt8) (w : World) (h : Lib.IsBuilder 84 5 B b (Lib.byteCells l) w) (hBw : B ≤ w.heap.size) :
    Calls Try.prog 55 #[.pointer (some ⟨b, 0, none⟩)] w fun e w' => e = .returned (.string ⟨l.toArray⟩) ∧ Below B w w' := Any.Builder_String_any lays169 extra169 B b l w h hBw

end
def jn.bad (x : S36) : Bool := decide (x.f0 < 0) || decide (65535 < x.f0) || decide (x.f1.size < 12) || decide (65528 < x.f1.size) || decide (x.f1.size % 4 ≠ 0)
def jn.head (x : S36) : List Int := [x.f0 / 256 % 256, x.f0 % 256, ((x.f1.size : Int) + 4) / 256 % 256, ((x.f1.size : Int) + 4) % 256]
def jn.piece (x : S36) : ByteArray := strOfNums (jn.head x) ++ x.f1
def jn.all : List S36 → ByteArray
  | [] => ⟨#[]⟩
  | x :: xs => jn.piece x ++ jn.all xs
theorem all_app : ∀ (a b : List S36), jn.all (a ++ b) = jn.all a ++ jn.all b
  | [], b => by
    show jn.all b = (⟨#[]⟩ : ByteArray) ++ jn.all b
    exact ByteArray.ext (by rw [ByteArray.data_append]; simp)
  | x :: xs, b => by
    rw [List.cons_append]
    show jn.piece x ++ jn.all (xs ++ b) = jn.piece x ++ jn.all xs ++ jn.all b
    rw [all_app xs b]
    exact ByteArray.ext (by rw [ByteArray.data_append, ByteArray.data_append, ByteArray.data_append, ByteArray.data_append, Array.append_assoc])
theorem all_take (l : List S36) (j : Nat) : (jn.all (l.take j)).size ≤ (jn.all l).size := by
  have h : jn.all l = jn.all (l.take j) ++ jn.all (l.drop j) := by rw [← all_app, List.take_append_drop]
  rw [h, ByteArray.size_append]
  omega
theorem rd_mem36 (l : List S36) (j : Nat) (h : j < l.length) : rd_T36 l (j : Int) ∈ l := by
  unfold rd_T36
  rw [Int.toNat_natCast, List.getD_eq_getElem?_getD, List.getElem?_eq_getElem h]
  exact List.getElem_mem h
theorem rd_get36 (l : List S36) (j : Nat) (h : j < l.length) : rd_T36 l (j : Int) = l[j] := by
  unfold rd_T36
  rw [Int.toNat_natCast, List.getD_eq_getElem?_getD, List.getElem?_eq_getElem h]
  rfl
theorem bad_cases (y0 : Int) (y1 : ByteArray) (h : jn.bad ⟨y0, y1⟩ = true) :
    ((y0 < 0) = True) ∨ ((y0 < 0) = False ∧ (0 < y0 / 65536) = True) ∨ ((y0 < 0) = False ∧ (0 < y0 / 65536) = False ∧ ((y1.size : Int) < 12) = True) ∨
    ((y0 < 0) = False ∧ (0 < y0 / 65536) = False ∧ ((y1.size : Int) < 12) = False ∧ (65528 < (y1.size : Int)) = True) ∨
    ((y0 < 0) = False ∧ (0 < y0 / 65536) = False ∧ ((y1.size : Int) < 12) = False ∧ (65528 < (y1.size : Int)) = False ∧ (0 < (y1.size : Int) % 4) = True) := by
  by_cases a : y0 < 0
  · exact .inl (eq_true a)
  · by_cases b : 0 < y0 / 65536
    · exact .inr (.inl ⟨eq_false a, eq_true b⟩)
    · by_cases c : (y1.size : Int) < 12
      · exact .inr (.inr (.inl ⟨eq_false a, eq_false b, eq_true c⟩))
      · by_cases d : 65528 < (y1.size : Int)
        · exact .inr (.inr (.inr (.inl ⟨eq_false a, eq_false b, eq_false c, eq_true d⟩)))
        · refine .inr (.inr (.inr (.inr ⟨eq_false a, eq_false b, eq_false c, eq_false d, eq_true ?_⟩)))
          simp [jn.bad] at h
          omega
theorem isb_lt {T e : TypeId} {B b : Nat} {bs : List Value} {W : World} (h : Lib.IsBuilder T e B b bs W) : b < W.heap.size := h.elim (fun q => q.lt) (fun q => q.lt)
theorem below_alloc2 {n : Nat} {w W : World} (h : Below n w W) (o o' : Obj) (hn : n ≤ w.heap.size := by exact Nat.le_refl _) : Below n w ((W.alloc o).alloc o') :=
  (h.alloc (Nat.le_trans hn h.size) o).alloc (by have := h.size; simp; omega) o'
theorem cells_app (a b : ByteArray) : Lib.strCells (a ++ b) = Lib.strCells a ++ Lib.strCells b := by
  unfold Lib.strCells
  rw [ByteArray.data_append, Array.toList_append, List.map_append]
theorem cells_nums (l : List Int) (h : ∀ x ∈ l, 0 ≤ x ∧ x ≤ 255) : Lib.strCells (strOfNums l) = l.map (Value.int .u8) := by
  unfold Lib.strCells strOfNums
  rw [List.toList_toArray, List.map_map]
  refine List.map_congr_left fun x hx => ?_
  have := h x hx
  show Value.int .u8 ((UInt8.ofNat x.toNat).toNat : Int) = Value.int .u8 x
  rw [UInt8.toNat_ofNat']
  congr 1
  omega
theorem take_cells (l : List S36) (j : Nat) (x : S36) (hj : j < l.length) (hx : rd_T36 l (j : Int) = x) (h4 : ¬ 65528 < x.f1.size) : Lib.strCells (jn.all (l.take (j + 1))) = Lib.strCells (jn.all (l.take j)) ++ ([.int .u8 (x.f0 / 256 % 256), .int .u8 (x.f0 % 256), .int .u8 (((x.f1.size : Int) + 4) / 256 % 256), .int .u8 (((x.f1.size : Int) + 4) % 256)] ++ Lib.strCells x.f1) := by
  have e : l[j] = x := by
    rw [← hx]
    unfold rd_T36
    rw [Int.toNat_natCast, List.getD_eq_getElem?_getD, List.getElem?_eq_getElem hj]
    rfl
  rw [List.take_add_one, List.getElem?_eq_getElem hj, e, all_app, cells_app]
  congr 1
  show Lib.strCells (jn.piece x ++ ⟨#[]⟩) = _
  rw [show jn.piece x ++ (⟨#[]⟩ : ByteArray) = jn.piece x from ByteArray.ext (by rw [ByteArray.data_append]; simp)]
  unfold jn.piece
  rw [cells_app, cells_nums _ (fun y hy => by unfold jn.head at hy; simp at hy; omega)]
  rfl
def jn.end_ (l0 : List S36) (m : ByteArray) : Option (ByteArray × Int) :=
  if (ext.go ((jn.all l0 ++ m).size + 1) (jn.all l0 ++ m) []).2.2 = 0 then
    (if ((ext.go ((jn.all l0 ++ m).size + 1) (jn.all l0 ++ m) []).2.1.toList == m.toList) = true then
      (extend_Field.f 100001 (ext.go ((jn.all l0 ++ m).size + 1) (jn.all l0 ++ m) []).1 l0).bind fun q => if q = true then some (jn.all l0 ++ m, 0) else some (⟨#[]⟩, 1)
    else some (⟨#[]⟩, 1)) else some (⟨#[]⟩, 1)
def jn.res (l0 : List S36) (m : ByteArray) : Option (ByteArray × Int) := if l0.any jn.bad = true then some (⟨#[]⟩, 1) else jn.end_ l0 m
set_option maxHeartbeats 8000000 in
set_option maxRecDepth 100000 in
theorem join_calls (A0 : Option Addr) (c0 : Nat) (l0 : List S36) (m : ByteArray) (w : World) (hr0 : Kd.C k36 w A0 l0.length l0) (hc0 : l0.length ≤ c0) (hl : l0.length ≤ 100000) (hsz : (jn.all l0).size + m.size ≤ 100000000) (r1 : ByteArray) (r2 : Int) (hres : jn.res l0 m = some (r1, r2)) :
    Calls Try.prog 31 #[.slice A0 l0.length c0, .string m] w fun e w' => e = .returned (.tuple #[.string r1, .int .i64 r2]) ∧ Below w.heap.size w w' := by
  have HRES := Aside0.mk hres
  clear hres
  have HR0 := Aside0.mk hr0
  have HC0 := Aside0.mk hc0
  clear hr0 hc0
  go_enter Try.func31, Try.ntmps31
  go_wp2_with (fail)
  go_loopg [16] l0.length (fun kq v16 w' => ∃ (j : Nat), v16 = .int .i64 j ∧ Aside0 (j + kq = l0.length) ∧ Aside0 (∀ i, i < j → jn.bad (rd_T36 l0 i) = false) ∧ Aside0 (Lib.IsBuilder 84 5 w.heap.size w.heap.size (Lib.strCells (jn.all (l0.take j))) w') ∧ Aside0 (Below w.heap.size w w'))
  case atStart => exact ⟨0, rfl, ⟨by omega⟩, ⟨fun i hi => absurd hi (by omega)⟩, ⟨Lib.fresh_isBuilder _ _ w⟩, ⟨below_alloc (Below.refl _ w) _⟩⟩
  case round =>
    obtain ⟨j, rfl, HJ, HG, HI, HB⟩ := hrel
    by_cases hj : j < l0.length
    · have HH := Aside0.mk hj
      have q1 : ((j : Int) < (l0.length : Int)) = True := eq_true (by omega)
      obtain ⟨ad, e, hx0, hx1⟩ := at_T36 HR0.out (j : Int) (by omega) (by omega)
      cases e
      replace hx0 := (HB.out.cell (World.block_lt_of_cell? w _ hx0)).trans hx0
      replace hx1 := (HB.out.cell (World.block_lt_of_cell? w _ hx1)).trans hx1
      rw [Int.toNat_natCast] at hx0 hx1
      obtain ⟨x, hx⟩ : ∃ x, rd_T36 l0 (j : Int) = x := ⟨_, rfl⟩
      rw [hx] at hx0 hx1
      obtain ⟨y0, y1⟩ := x
      have HX := Aside0.mk hx
      clear hx hj
      cases hbad : jn.bad ⟨y0, y1⟩ with
      | false =>
        have HBD := Aside0.mk hbad
        have d1 : (y0 < 0) = False := eq_false fun h => by simp [jn.bad, h] at hbad
        have d2 : (65535 < y0) = False := eq_false fun h => by simp [jn.bad, h] at hbad
        have d3 : (y1.size < 12) = False := eq_false fun h => by simp [jn.bad, h] at hbad
        have d4 : (65528 < y1.size) = False := eq_false fun h => by simp [jn.bad, h] at hbad
        have d5 : y1.size % 4 = 0 := Classical.byContradiction fun h => by simp [jn.bad, h] at hbad
        have d6 : (0 < y0 / 65536) = False := eq_false (by have := of_eq_false d1; have := of_eq_false d2; omega)
        have d7 : ((y1.size : Int) < 12) = False := eq_false (by have := of_eq_false d3; omega)
        have d8 : (65528 < (y1.size : Int)) = False := eq_false (by have := of_eq_false d4; omega)
        have d9 : (0 < (y1.size : Int) % 4) = False := eq_false (by omega)
        have w4 : wrap64 ((y1.size : Int) + 4) = (y1.size : Int) + 4 := by have := of_eq_false d8; unfold wrap64; omega
        clear hbad
        have HW := Aside0.mk (fun (B b : Nat) (bs : List Value) (g m c : Nat) (news : List Value) (W : World) => write_calls B b bs g m c news W)
        have HS := Aside0.mk (fun (B b : Nat) (bs : List Value) (s : ByteArray) (W : World) => writeString_calls B b bs s W)
        go_wp2_with (fail)
        refine (HW.out w.heap.size w.heap.size _ (wr.heap.size + 1) 4 4 [.int .u8 (y0 / 256 % 256), .int .u8 (y0 % 256), .int .u8 (((y1.size : Int) + 4) / 256 % 256), .int .u8 (((y1.size : Int) + 4) % 256)] _ (isb_below HI.out (below_alloc (below_alloc (Below.refl _ _) _) _)) rfl ?hn ?hg ?h1 ?hl ?hB).mono ?_
        case hn =>
          have := blk_new (wr.alloc (Obj.cells #[Value.int IntKind.i64 y0, Value.string y1] 36)) (.cells #[.int .u8 (y0 / 256 % 256), .int .u8 (y0 % 256), .int .u8 (((y1.size : Int) + 4) / 256 % 256), .int .u8 (((y1.size : Int) + 4) % 256)] 5)
          rw [World.size_alloc] at this
          exact this
        case hg => have := HB.out.size; omega
        case h1 => simp [Value.oneCell']
        case hl => rw [Lib.strCells_length]; have := all_take l0 j; omega
        case hB => have := HB.out.size; simp; omega
        rintro e w1 ⟨rfl, h1, hb1, hk1⟩
        have hbx := hk1 wr.heap.size _ _ (blk_alloc (blk_new wr (.cells #[.int .i64 y0, .string y1] 36)) _) (by have := isb_lt HI.out; omega) (by decide)
        have kx1 := (blk_cell hbx 1).trans (show _ = some (Value.string y1) from rfl)
        go_wp2_with (fail)
        refine (HS.out w.heap.size w.heap.size _ y1 _ (.inr h1) ?hl2 ?hB2).mono ?_
        case hl2 => rw [List.length_append, Lib.strCells_length]; have := all_take l0 j; have := of_eq_false d4; simp; omega
        case hB2 => have := hb1.size; have := HB.out.size; simp at *; omega
        rintro e w2 ⟨rfl, h2, hb2⟩
        cases gk with
        | zero => exact absurd HJ.out (by have := HH.out; omega)
        | succ k1 =>
          go_wp2_with (fail)
          go_roundg k1
          case measure => omega
          case rel =>
            refine ⟨j + 1, ?_, ⟨by have := HJ.out; omega⟩, ⟨?_⟩, ⟨.inr ?_⟩, ⟨?_⟩⟩
            · rw [show wrap64 ((j : Int) + 1) = ((j + 1 : Nat) : Int) by have := HH.out; unfold wrap64; omega]
            · intro i hi
              by_cases q : i = j
              · rw [q, HX.out]
                exact HBD.out
              · exact HG.out i (by omega)
            · rw [take_cells l0 j ⟨y0, y1⟩ HH.out HX.out (of_eq_false d4)]
              simpa [List.append_assoc] using h2
            · exact ((below_alloc2 HB.out _ _).trans hb1).trans hb2
      | true =>
        have HBD := Aside0.mk hbad
        have hany : l0.any jn.bad = true := List.any_eq_true.2 ⟨_, rd_mem36 l0 j HH.out, by rw [HX.out]; exact hbad⟩
        have hr : (r1, r2) = ((⟨#[]⟩ : ByteArray), (1 : Int)) := by
          have := HRES.out
          unfold jn.res at this
          rw [if_pos hany] at this
          exact (Option.some.inj this).symm
        obtain ⟨rfl, rfl⟩ := Prod.mk.inj hr
        have hcase := bad_cases y0 y1 hbad
        clear hbad hany hr
        rcases hcase with d1 | ⟨d1, d2⟩ | ⟨d1, d2, d3⟩ | ⟨d1, d2, d3, d4⟩ | ⟨d1, d2, d3, d4, d5⟩
        all_goals
          go_wp2_with (fail)
          go_ret2
          exact ⟨rfl, below_alloc HB.out _⟩
    · have hjl : j = l0.length := by have := HJ.out; omega
      subst hjl
      have q1 : ((l0.length : Int) < (l0.length : Int)) = False := eq_false (by omega)
      have hgood : l0.any jn.bad = false := by
        cases hany : l0.any jn.bad with
        | false => rfl
        | true =>
          obtain ⟨x, hx, hb⟩ := List.any_eq_true.1 hany
          obtain ⟨i, hi, rfl⟩ := List.getElem_of_mem hx
          have := HG.out i hi
          rw [rd_get36 l0 i hi] at this
          rw [this] at hb
          cases hb
      have hend : jn.end_ l0 m = some (r1, r2) := by
        have := HRES.out
        unfold jn.res at this
        rw [if_neg (by rw [hgood]; decide)] at this
        exact this
      obtain ⟨s, hs⟩ : ∃ s, jn.all l0 ++ m = s := ⟨_, rfl⟩
      have hss : s.size ≤ 100000000 := by rw [← hs, ByteArray.size_append]; exact hsz
      obtain ⟨⟨x1, x2, x3⟩, hgo⟩ : ∃ x, ext.go (s.size + 1) s [] = x := ⟨_, rfl⟩
      have hW : extend_Walk.f s = some (x1, x2, x3) := by
        unfold extend_Walk.f
        rw [if_pos (by omega), hgo]
      unfold jn.end_ at hend
      rw [hs, hgo] at hend
      have HI0 := HI.out
      rw [List.take_of_length_le (Nat.le_refl _)] at HI0
      have HEND := Aside0.mk hend
      have HS := Aside0.mk (fun (B b : Nat) (bs : List Value) (s : ByteArray) (W : World) => writeString_calls B b bs s W)
      have HHS := Aside0.mk hs
      have HWF := Aside0.mk hW
      clear hend hgood hs hgo hW
      go_wp2_with (fail)
      refine (HS.out w.heap.size w.heap.size _ m _ HI0 ?hl2 ?hB2).mono ?_
      case hl2 => rw [Lib.strCells_length]; omega
      case hB2 => exact HB.out.size
      rintro e w1 ⟨rfl, h1, hb1⟩
      have h1' : Lib.IsBuilder 84 5 w.heap.size w.heap.size (Lib.byteCells s.data.toList) w1 := by
        have e : Lib.byteCells s.data.toList = Lib.strCells (jn.all l0) ++ Lib.strCells m := by rw [← cells_app, HHS.out]; rfl
        rw [e]
        exact .inr h1
      have B1 := HB.out.trans hb1
      clear h1 hb1 HI0 HI
      go_wp2_with (fail)
      refine (string_calls w.heap.size w.heap.size s.data.toList _ h1' B1.size).mono ?_
      rintro e w2 ⟨rfl, hb2⟩
      have B2 := B1.trans hb2
      have es : (⟨s.data.toList.toArray⟩ : ByteArray) = s := ByteArray.ext (by simp)
      rw [es]
      clear h1' B1 hb2 es
      go_wp2_with (fail)
      refine (extend_Walk.calls s x1 x2 x3 _ HWF.out).mono ?_
      rintro e w3 ⟨v, rfl, hR, hb3⟩
      have B3 := B2.trans (hb3.mono B2.size)
      obtain ⟨A1, c1, rfl, hc1, hC1⟩ := Kd.R_reads hR
      have HC1 := Aside0.mk hC1
      have HB3 := Aside0.mk B3
      have HCC := Aside0.mk hc1
      clear hR hb3 B2 B3 hC1 hc1
      by_cases e3 : x3 = 0
      · subst e3
        have he := HEND.out
        rw [if_pos rfl] at he
        cases e2 : (x2.toList == m.toList) with
        | false =>
          rw [if_neg (by rw [e2]; decide)] at he
          obtain ⟨rfl, rfl⟩ := Prod.mk.inj (Option.some.inj he)
          go_wp2_with (fail)
          go_ret2
          exact ⟨rfl, HB3.out⟩
        | true =>
          rw [if_pos e2] at he
          obtain ⟨q, hq, he⟩ := Option.bind_eq_some_iff.1 he
          have HEQ := Aside0.mk hq
          have H0 := Aside0.mk (Kd.C_below HR0.out HB3.out)
          clear hq
          go_wp2_with (fail)
          refine (extend_Field.calls 100001 A1 c1 x1 A0 c0 l0 q _ HC1.out HCC.out H0.out HC0.out HEQ.out).mono ?_
          rintro e w4 ⟨rfl, ⟨nd, rfl⟩⟩
          cases q with
          | false =>
            rw [if_neg (by decide)] at he
            obtain ⟨rfl, rfl⟩ := Prod.mk.inj (Option.some.inj he)
            go_wp2_with (fail)
            go_ret2
            exact ⟨rfl, pw_below_drewN HB3.out nd⟩
          | true =>
            rw [if_pos rfl] at he
            obtain ⟨rfl, rfl⟩ := Prod.mk.inj (Option.some.inj he)
            go_wp2_with (fail)
            go_ret2
            exact ⟨rfl, pw_below_drewN HB3.out nd⟩
      · have he := HEND.out
        rw [if_neg e3] at he
        obtain ⟨rfl, rfl⟩ := Prod.mk.inj (Option.some.inj he)
        have q3 : (x3 = 0) = False := eq_false e3
        go_wp2_with (fail)
        go_ret2
        exact ⟨rfl, HB3.out⟩
def extend_Join.f (l0 : List S36) (a1 : ByteArray) : Option (ByteArray × Int) := if l0.length ≤ 100000 ∧ (jn.all l0).size + a1.size ≤ 100000000 then jn.res l0 a1 else none
theorem extend_Join.calls (A0 : Option Addr) (c0 : Nat) (l0 : List S36) (a1 : ByteArray) (r1 : ByteArray) (r2 : Int) (w : World) (hr0 : Kd.C k36 w A0 l0.length l0) (hc0 : l0.length ≤ c0) (h : extend_Join.f l0 a1 = some (r1, r2)) :
    Calls Try.prog 31 #[.slice A0 l0.length c0, .string a1] w fun e w' => e = .returned (.tuple #[.string r1, .int .i64 r2]) ∧ Below w.heap.size w w' := by
  unfold extend_Join.f at h
  by_cases q : l0.length ≤ 100000 ∧ (jn.all l0).size + a1.size ≤ 100000000
  · rw [if_pos q] at h
    exact join_calls A0 c0 l0 a1 w hr0 hc0 q.1 q.2 r1 r2 h
  · rw [if_neg q] at h
    cases h

end Go.Proofs.Ytlbelgdcicholaa.MExt
