/- Functions that the statements of this seat reach, each as a plain Lean function, with a proof that the Go code comes to its answers; no condition. -/
import Derived.Test.YtoddgpaopejeoaaMClux0
import Derived.Test.YtoddgpaopejeoaaMClux1
import Derived.Test.YtoddgpaopejeoaaMClux2
import Derived.Test.YtoddgpaopejeoaaMClux3
namespace Go.Proofs.Ytoddgpaopejeoaa.MClu
open Go.RowKit Go.Proofs.YtoddgpaopejeoaaW.PrintWords Go.Proofs.YtoddgpaopejeoaaW.PrintLast Go.Proofs.YtoddgpaopejeoaaW.PrintMore
attribute [local go_sem] max2_int min2_int max_two min_two max_three min_three max_four min_four   -- for this text's walks alone
set_option linter.unusedVariables false
set_option linter.unusedSimpArgs false

/-! ### fix_Root: function 62 -/
set_option maxHeartbeats 16000000 in
set_option maxRecDepth 100000 in
theorem fix_Root_1.calls (g : Nat) (A0 : Option Addr) (c0 : Nat) (l0 : List Int) (r : Int) (w : World) (hb : w.heap[g]? = some (.cells #[.slice A0 l0.length c0] 104 (0, 0))) (hr0 : Kd.C (Kd.int .i64) w A0 l0.length l0) (hc0 : l0.length ≤ c0) (h : fix_Mean.f l0 = some r) :
    Calls Try.prog 73 #[.pointer (some ⟨g, 0, none⟩)] w fun e w' => e = .returned (.int .i64 r) ∧ Below w.heap.size w w' := by
  have HR := Aside0.mk hr0
  have HC := Aside0.mk hc0
  have H := Aside0.mk h
  have k1 : w.cell? ⟨g, 0, none⟩ = some (Value.slice A0 l0.length c0) := (blk_cell hb 0).trans rfl
  clear hr0 hc0 h hb
  go_enter Try.func73, Try.ntmps73
  go_wp2_with (first | (go_at_call 74; (with_reducible refine (fix_Mean.calls A0 c0 l0 r w HR.out HC.out H.out).mono ?_); rintro e w1 ⟨rfl, h1⟩; have H1 := Aside0.mk h1; clear h1))
  go_ret
  exact ⟨rfl, H1.out⟩
def fix_Root.l0 : Nat → List Int → List Int → Int → Option (Int)
  | 0, _, _, _ => none
  | k + 1, x0, x3, x4 => if x4 < (x0.length : Int) then (if 0 ≤ x4 then ((fix_Mul.f (rd x0 x4) (rd x0 x4)).bind fun t142 => (if x3.length < 17592186044416 then (fix_Root.l0 k x0 (x3 ++ [t142]) (wrap64 (x4 + 1))) else (none))) else (none)) else ((fix_Mean.f x3).bind fun t146 => ((fix_Sqrt.f k t146).bind fun t147 => (some t147)))
def fix_Root.f (k : Nat) (l0 : List Int) : Option (Int) := fix_Root.l0 k l0 (([] : List Int)) 0
theorem fix_Root.mono_l : ∀ k, (∀ y0 y1 y2, LeO (fix_Root.l0 k y0 y1 y2) (fix_Root.l0 (k + 1) y0 y1 y2))
  | 0 => fun _ _ _ r h => by simp [fix_Root.l0] at h
  | k + 1 => by
    have ih0 := fix_Root.mono_l k
    · intro y0 y1 y2
      unfold fix_Root.l0
      repeat' first
      | (with_reducible exact ih0 _ _ _)
      | (with_reducible exact fix_Sqrt.mono _ _)
      | (with_reducible exact LeO.refl _)
      | (with_reducible exact LeO.none _)
      | (with_reducible refine LeO.ite ?_ ?_)
      | (with_reducible refine LeO.bind ?_ (fun _ => ?_))
      | exact ih0 _ _ _
      | exact fix_Sqrt.mono _ _
      | exact LeO.none _
      | refine LeO.ite ?_ ?_
      | refine LeO.bind ?_ (fun _ => ?_)
theorem fix_Root.mono : ∀ a0 k, LeO (fix_Root.f k a0) (fix_Root.f (k + 1) a0) := fun a0 k => fix_Root.mono_l k _ _ _
set_option maxHeartbeats 16000000 in
set_option maxRecDepth 100000 in
theorem fix_Root.calls (k : Nat) (A0 : Option Addr) (c0 : Nat) (l0 : List Int) (r : Int) (w : World) (hr0 : Kd.C (Kd.int .i64) w A0 l0.length l0) (hc0 : l0.length ≤ c0) (h : fix_Root.f k l0 = some r) :
    Calls Try.prog 62 #[.slice A0 l0.length c0] w fun e w' => e = .returned (.int .i64 r) ∧ Below w.heap.size w w' := by
  have hmf : ∀ (fn : Fn) (first cap : Array Value) (w : World), (Instr.makeFunc fn first cap).run Try.prog w = .ok (.func fn first cap) w := fun _ _ _ _ => rfl
  have HR0 := Aside0.mk hr0
  have HC0 := Aside0.mk hc0
  clear hr0 hc0
  have HB0 := Aside0.mk (below_alloc (Below.refl w.heap.size w) (.cells #[.slice none 0 0] 104 (0, 0)))
  have HG0 := Aside0.mk (blk_new w (.cells #[.slice none 0 0] 104 (0, 0)))
  have HO0 := Aside0.mk (Kd.R_nil (Kd.int .i64) 2 (w.alloc (.cells #[.slice none 0 0] 104 (0, 0))) w.heap.size (fun k => k ≠ w.heap.size))
  have H' := Aside0.mk (show fix_Root.l0 k l0 [] 0 = some r from h)
  clear h
  go_enter Try.func62, Try.ntmps62
  go_wp2_with (fail)
  go_loopg [9] k (fun kq v9 w' => ∃ (x3 : List Int) (x4 : Int) (vs : Value), v9 = .int .i64 x4 ∧ Aside0 (fix_Root.l0 kq l0 x3 x4 = some r) ∧ Aside0 (kq ≤ k) ∧ Aside0 (w'.heap[w.heap.size]? = some (.cells #[vs] 104 (0, 0))) ∧ Aside0 (Kd.R (Kd.int .i64) 2 w' w.heap.size (fun k => k ≠ w.heap.size) vs x3) ∧ Aside0 (Below w.heap.size w w'))
  case atStart => exact ⟨[], 0, _, rfl, H', ⟨Nat.le_refl _⟩, HG0, HO0, HB0⟩
  case round =>
    clear H' HG0 HO0 HB0
    obtain ⟨x3, x4, vs, rfl, HA, HK1, HG, HO, HB⟩ := hrel
    cases gk with
    | zero => exact absurd HA.out (by simp [fix_Root.l0])
    | succ k1 =>
      have H := HA.out
      clear HA
      simp only [fix_Root.l0] at H
      by_cases c4 : x4 < (l0.length : Int)
      · rw [if_pos c4] at H
        have c4b0 : decide (x4 < (l0.length : Int)) = true := decide_eq_true c4
        by_cases c5 : 0 ≤ x4
        · rw [if_pos c5] at H
          have c5b0 : decide (0 ≤ x4) = true := decide_eq_true c5
          obtain ⟨t, A6, H⟩ := Option.bind_eq_some_iff.mp H
          replace A6 := Aside0.mk A6
          by_cases c7 : x3.length < 17592186044416
          · rw [if_pos c7] at H
            have LM := Aside0.mk c7
            clear c7
            replace H := Aside0.mk H
            obtain ⟨ad, e, hx⟩ := Kd.at_int HR0.out x4 c5 c4
            cases e
            replace hx := (HB.out.cell (World.block_lt_of_cell? w _ hx)).trans hx
            replace c4 := eq_true c4
            replace c5 := eq_true c5
            go_wp2_with (fail)
            clear c4 c5
            have n0_ := Aside0.mk (blk_drew HG.out)
            have n1_ := Aside0.mk (Kd.R_drew HO.out)
            have n2_ := Aside0.mk (below_drew1 HB.out)
            clear HG HO HB hx
            have HG := n0_
            have HO := n1_
            have HB := n2_
            clear n0_ n1_ n2_
            refine start_ (n := 7) (S := fun w' => w'.cell? ⟨w.heap.size, 0, none⟩ = some vs) (ds := [6]) #[false, false, false, false, false, false, false] (by kernel_rfl) rfl rfl ((blk_cell HG.out 0).trans rfl) (fun hHeld => ?_)
            generalize wr.drew = w8 at HG HO HB hHeld ⊢
            refine pure_ (i := 1) (N := some 14) (v := ?_) (a' := ?_) #[false, true, false, false, false, false, false] rfl rfl (by kernel_rfl) (fun _ _ _ h => h) (Or.inl ⟨by rfl, ?_⟩) ?_ ?_
            rotate_left
            · intro w'
              go_simp
              with_reducible rfl
            rotate_left
            · simp only [Act.put, List.setIfInBounds_toArray, List.set_cons_zero, List.set_cons_succ, i64_w, i32_w]
              rfl
            refine pure_ (i := 2) (N := some 15) (v := ?_) (a' := ?_) #[false, true, true, false, false, false, false] rfl rfl (by kernel_rfl) (fun _ _ _ h => h) (Or.inl ⟨by rfl, ?_⟩) ?_ ?_
            rotate_left
            · intro w'
              go_simp
              with_reducible rfl
            rotate_left
            · simp only [Act.put, List.setIfInBounds_toArray, List.set_cons_zero, List.set_cons_succ, i64_w, i32_w]
              rfl
            refine take_ (i := 0) (N := some 13) (v := ?_) (a' := ?_) #[true, true, true, false, false, false, false] rfl rfl (by kernel_rfl) (fun _ _ _ h => h) (Or.inl ⟨by rfl, ?_⟩) hHeld ?_ ?_
            rotate_left
            · intro w' s0
              go_simp
              with_reducible rfl
            rotate_left
            · simp only [Act.put, List.setIfInBounds_toArray, List.set_cons_zero, List.set_cons_succ, i64_w, i32_w]
              rfl
            refine one_ (i := 3) (N := some 16) #[true, true, true, true, false, false, false] rfl rfl (by kernel_rfl) (by decide) (fun K hK => ?_)
            refine goes_ Try.func66 (by kernel_rfl) rfl #[.int .i64 (rd l0 x4), .int .i64 (rd l0 x4)] (by rfl) rfl rfl (by simp only [List.map_toArray, List.map_cons, List.map_nil]; rfl) ?_
            with_reducible refine (fix_Mul.calls (rd l0 x4) (rd l0 x4) t _ A6.out).mono ?_
            rintro e w9 ⟨rfl, hb⟩
            refine ⟨_, rfl, ?_⟩
            have n0_ := Aside0.mk (blk_below HG.out hb)
            have n1_ := Aside0.mk (Kd.R_below HO.out hb)
            have n2_ := Aside0.mk (below_step HB.out hb)
            clear HG HO HB hHeld hb
            have HG := n0_
            have HO := n1_
            have HB := n2_
            clear n0_ n1_ n2_
            refine hK.out _ _ ((blk_cell HG.out 0).trans rfl) (fun hHeld => ?_)
            clear hK K
            refine norm_ (a' := ?_) ?_ ?_
            rotate_left
            · show Act.put _ (some 16) _ = _
              simp only [Act.put, List.setIfInBounds_toArray, List.set_cons_zero, List.set_cons_succ, i64_w, i32_w]
              rfl
            refine one_ (i := 4) (N := some 17) #[true, true, true, true, true, false, false] rfl rfl (by kernel_rfl) (by decide) (fun K hK => ?_)
            refine value_ (w1 := ?_) (v := ?_) (by rfl) rfl ?_ ?_
            rotate_left 2
            · go_simp
              constructor
              · rfl
              · rfl
            refine hK.out _ _ ((blk_cell (blk_alloc HG.out _) 0).trans rfl) (fun hHeld => ?_)
            clear hK K
            refine norm_ (a' := ?_) ?_ ?_
            rotate_left
            · show Act.put _ (some 17) _ = _
              simp only [Act.put, List.setIfInBounds_toArray, List.set_cons_zero, List.set_cons_succ, i64_w, i32_w]
              rfl
            refine one_ (i := 5) (N := some 18) #[true, true, true, true, true, true, false] rfl rfl (by kernel_rfl) (by decide) (fun K hK => ?_)
            refine Kd.R_append_step (Kd.int .i64) (w0 := w) w.heap.size (by rfl) (.tmp 13) (.tmp 17) 104 2 (.int .i64 0) 8 rfl Try.underlying104 info2 rfl (by decide) (by omega) vs x3 t [.int .i64 t] (fun k => k ≠ w.heap.size) (fun _ => False) rfl rfl ?aP (fun _ hk => hk.elim) ?aF ?aO ?aB ?aS ?aL ?_
            (case aP => exact rfl)
            (case aB => exact HB.out)
            (case aF => exact fun k hk => by have := blk_lt HG.out; omega)
            (case aO => exact HO.out)
            (case aS => exact (below_size HB.out))
            (case aL => have := LM.out; omega)
            intro v1 w10 ho hb hg hat
            have hG := (hg.block _ (blk_lt HG.out) (Kd.R_away HO.out (fun _ h => h))).trans HG.out
            clear hat hg HG HO HB hHeld
            obtain ⟨A1, c1, ev⟩ := Kd.R_slice ho
            subst ev
            have k6 := (blk_cell hG 0).trans (show _ = some vs from rfl)
            have f6 := blk_frozen hG 0
            refine hK.out _ _ k6 (fun hHeld => ?_)
            clear hK K
            refine norm_ (a' := ?_) ?_ ?_
            rotate_left
            · show Act.put _ (some 18) _ = _
              simp only [Act.put, List.setIfInBounds_toArray, List.set_cons_zero, List.set_cons_succ, i64_w, i32_w]
              rfl
            refine last_ (i := 6) (N := none) #[true, true, true, true, true, true, true] rfl rfl (by kernel_rfl) (by decide) (fun K hK => ?_)
            refine skip_ (w1 := ?_) (by rfl) rfl ?_ ?_
            rotate_left
            · go_simp
              rfl
            refine hK.out _ _ ?_
            clear hK K
            refine done_ (by kernel_rfl) ?_
            have n0_ := Aside0.mk (blk_put hG 0 (.slice A1 (x3 ++ [t]).length c1) (cs' := #[.slice A1 (x3 ++ [t]).length c1]) rfl)
            have n1_ := Aside0.mk (Kd.R_far ho (p := ⟨w.heap.size, 0, none⟩) (fun _ h => h) (.slice A1 (x3 ++ [t]).length c1))
            have n2_ := Aside0.mk (Below.setCell hb (p := ⟨w.heap.size, 0, none⟩) (Nat.le_refl _) (.slice A1 (x3 ++ [t]).length c1))
            clear hG ho hb k6 f6 hHeld
            simp only [List.length_append, List.length_singleton] at n0_ n1_ n2_
            try go_wp2
            go_roundg k1
            case measure => have := HK1.out; omega
            case rel => exact ⟨(x3 ++ [t]), (wrap64 (x4 + 1)), _, rfl, H, ⟨by have := HK1.out; omega⟩, n0_, n1_, n2_⟩
          · rw [if_neg c7] at H
            exact absurd H (by simp)
        · rw [if_neg c5] at H
          exact absurd H (by simp)
      · rw [if_neg c4] at H
        have c4b0 : decide (x4 < (l0.length : Int)) = false := decide_eq_false c4
        clear c4
        obtain ⟨m, A10, H⟩ := Option.bind_eq_some_iff.mp H
        obtain ⟨t, A11, H⟩ := Option.bind_eq_some_iff.mp H
        obtain rfl := Option.some.inj H
        clear H
        obtain ⟨Ao, co, eo⟩ := Kd.R_slice HO.out
        subst eo
        replace A10 := Aside0.mk A10
        replace A11 := Aside0.mk A11
        go_wp2_with (first | (go_at_call 73; (with_reducible refine (fix_Root_1.calls w.heap.size Ao co x3 m wr HG.out (Kd.R_reads' HO.out).2.2 (Kd.R_reads' HO.out).2.1 A10.out).mono ?_); rintro e w1 ⟨rfl, h1⟩; have H1 := Aside0.mk h1; clear h1) | (go_at_call 75; (with_reducible refine (fix_Sqrt.calls k1 m t _ A11.out).mono ?_); rintro e w2 ⟨rfl, h2⟩; have H2 := Aside0.mk h2; clear h2))
        go_ret
        exact ⟨rfl, below_step (below_step HB.out H1.out) H2.out⟩

/-! ### cluster_Apart: function 32 -/
theorem cut_hi {P : Program} (t e : TypeId) (kh : IntKind) {i : TypeInfo} (ht : P.underlying t = some (.slice e)) (hi : P.info? e = some i) (size : Nat) (hsz : i.size = size) (A : Option Addr) (n c : Nat) (h : Int) (h0 : 0 ≤ h) (h2 : h ≤ c) (hl : h = 0 → c = 0 → True) :
    ∀ W : World, (Instr.slice t (.slice A n c) none (some (.int kh h)) none).run P W = .ok (.slice A h.toNat c) W := by
  intro W
  have hel : P.elem t = e := by simp [Program.elem, ht]
  have hu : P.underlying t = some (.slice (P.elem t)) := by rw [hel]; exact ht
  rw [run_slice_h W t A n c hu kh h h0 h2, hel]
  have hA : A.map (·.add 0) = A := by cases A <;> simp [Addr.add]
  simp [sizeOf, typeInfo, hi, hsz, sliced, Result.andThen, hA]
theorem cut_lo {P : Program} (t e : TypeId) (kl : IntKind) {i : TypeInfo} (ht : P.underlying t = some (.slice e)) (hi : P.info? e = some i) (size : Nat) (hsz : i.size = size) (A : Option Addr) (n c : Nat) (l : Int) (h0 : 0 ≤ l) (h2 : l ≤ n) :
    ∀ W : World, (Instr.slice t (.slice A n c) (some (.int kl l)) none none).run P W = .ok (.slice (if c = l.toNat then A else A.map (·.add (l.toNat * size))) (n - l.toNat) (c - l.toNat)) W := by
  intro W
  have hel : P.elem t = e := by simp [Program.elem, ht]
  have hu : P.underlying t = some (.slice (P.elem t)) := by rw [hel]; exact ht
  rw [run_slice_l W t A n c hu kl l h0 h2, hel]
  simp [sizeOf, typeInfo, hi, hsz, sliced, Result.andThen]
theorem infoN : (Try.prog.info? 70).map (fun i => (i.zero, i.size, i.bytes)) = some (some (.agg #[(.int .i64 0), (.int .i64 0), (.int .i64 0)]), 3, 24) := by kernel_rfl
theorem infoI : (Try.prog.info? 2).map (fun i => (i.zero, i.size, i.bytes)) = some (some (.int .i64 0), 1, 8) := by kernel_rfl

set_option maxHeartbeats 4000000 in
theorem grow_calls (n : Int) (w : World) (hn0 : 0 ≤ n) (hn : n ≤ 100000) :
    Calls Try.prog 72 #[.slice none 0 0, .int .i64 n] w fun e w' => ∃ v, e = .returned v ∧ Kd.R k70 70 w' w.heap.size (fun _ => True) v [] ∧ Below w.heap.size w w' := by
  have d0 : (n < 0) = False := eq_false (by omega)
  have hcut : ∀ W : World, (Instr.slice 53 (.slice none 0 0) none (some (.int .i64 0)) none).run Try.prog W = .ok (.slice none 0 0) W := fun W => by kernel_rfl
  obtain ⟨i0, hi0, hz0⟩ := Option.map_eq_some_iff.1 infoN
  have hcut2 := fun (A : Option Addr) (m c : Nat) => cut_hi 53 70 .i64 Try.underlying53 hi0 3 (by simp only [Prod.mk.injEq] at hz0; exact hz0.2.1) A m c 0 (Int.le_refl _) (by omega) (fun _ _ => trivial)
  clear hi0 hz0
  by_cases h0 : n = 0
  · subst h0
    go_enter Try.func72, Try.ntmps72
    go_wp2_with (fail)
    go_ret
    exact ⟨_, rfl, Kd.R_nil _ _ _ _ _, Below.refl _ _⟩
  · have d1 : ((0 : Int) < n) = True := eq_true (by omega)
    have hw0 : wrap64 n = n := by unfold wrap64; omega
    have LN := Aside0.mk (And.intro hn0 hn)
    clear h0 hn hn0
    go_enter Try.func72, Try.ntmps72
    go_wp2_with (first
      | ((with_reducible refine gate_builtin (b := .append) (xs := #[.tmp 20, .tmp 21]) rfl ?_); at_builtin; (refine Kd.R_append_zeros k70 (w0 := w) w.heap.size rfl (.tmp 20) (.tmp 21) 53 3 70 (.agg #[(.int .i64 0), (.int .i64 0), (.int .i64 0)]) 24 rfl Try.underlying53 Try.underlying3 infoN rfl (by decide) (by omega) (.slice none 0 0) [] z70 (kx := .i64) n (fun _ => True) rfl (congrArg (Value.int .i64) hw0) (k70_mkM _ _ _ z70) (fun _ _ => trivial) (Kd.R_nil _ _ _ _ _) LN.out.1 (Below.refl _ _) (Nat.le_refl _) ?aL ?_); (case aL => have := LN.out; simp; omega); intro v1 w1 h1 b1 hg1 hat1; obtain ⟨A1, c1, hv1, _, _⟩ := Kd.R_reads h1; subst hv1; have H1 := Aside0.mk (Kd.R_take h1 (Nat.zero_le _)); have B1 := Aside0.mk b1; clear h1 b1 hg1 hat1))
    go_ret
    exact ⟨_, rfl, H1.out, B1.out⟩

set_option maxHeartbeats 4000000 in
theorem concat_calls (g : Nat) (A1 A2 : Option Addr) (c1 c2 : Nat) (xs ys : List S70) (n1 n2 : Nat) (w : World) (hb : w.heap[g]? = some (.cells #[.slice A1 n1 c1, .slice A2 n2 c2] 53 (0, 0))) (e1 : xs.length = n1) (e2 : ys.length = n2) (h1 : Kd.C k70 w A1 n1 xs) (h2 : Kd.C k70 w A2 n2 ys) (hl : n1 + n2 ≤ 100000) :
    Calls Try.prog 61 #[.slice (some ⟨g, 0, none⟩) 2 2] w fun e w' => ∃ v, e = .returned v ∧ Kd.R k70 70 w' w.heap.size (fun _ => True) v (xs ++ ys) ∧ Below w.heap.size w w' := by
  have k0 := (blk_cell hb 0).trans (show _ = some (Value.slice A1 n1 c1) from rfl)
  have k1 := (blk_cell hb 1).trans (show _ = some (Value.slice A2 n2 c2) from rfl)
  have hw1 : wrap64 (n1 : Int) = n1 := by unfold wrap64; omega
  have hw2 : wrap64 ((n1 : Int) + n2) = ((n1 + n2 : Nat) : Int) := by unfold wrap64; omega
  have d1 : ((n1 : Int) < 0) = False := eq_false (by omega)
  have d2 : (((n1 + n2 : Nat) : Int) < 0) = False := eq_false (by omega)
  have d3 : ((n1 : Int) + n2 < 0) = False := eq_false (by omega)
  have HL := Aside0.mk hl
  have HX := Aside0.mk hb
  have H1 := Aside0.mk h1
  have H2 := Aside0.mk h2
  have HE := Aside0.mk (And.intro e1 e2)
  clear hl hb h1 h2 e1 e2
  go_enter Try.func61, Try.ntmps61
  go_wp2_with (fail)
  refine wp_loop_rounds 3 ?_
  rw [rounds_succ]
  go_wp2_with (fail)
  rw [rounds_succ]
  go_wp2_with (fail)
  rw [rounds_succ]
  go_wp2_with (first
    | (go_at_call 72; (with_reducible refine (grow_calls _ _ (by omega) (by have := HL.out; omega)).mono ?_); rintro e w1 ⟨v1, rfl, h1, b1⟩; have G1 := Aside0.mk h1; have HB1 := Aside0.mk b1; have k0 := (blk_cell (blk_below HX.out b1) 0).trans (show _ = some (Value.slice A1 n1 c1) from rfl); have k1 := (blk_cell (blk_below HX.out b1) 1).trans (show _ = some (Value.slice A2 n2 c2) from rfl); have C1 := Aside0.mk (Kd.C_below H1.out b1); clear h1 b1))
  refine wp_loop_rounds 3 ?_
  rw [rounds_succ]
  go_wp2_with (first
    | ((with_reducible refine gate_builtin (b := .append) (xs := #[.tmp 31, .tmp 32]) rfl ?_); at_builtin; refine Kd.R_append_rows k70 (w0 := w) w.heap.size rfl (.tmp 31) (.tmp 32) 53 70 (.agg #[(.int .i64 0), (.int .i64 0), (.int .i64 0)]) 24 rfl Try.underlying53 infoN rfl (by decide) (by omega) v1 [] xs A1 n1 c1 (fun _ => True) (fun _ => False) rfl rfl G1.out C1.out (fun _ _ h => h) (fun _ h => h.elim) (fun _ _ => trivial) HB1.out HB1.out.size ?aL ?_; (case aL => have := HL.out; simp; omega); intro v2 w2 h2 b2 hg2 hat2; have G2 := Aside0.mk (show Kd.R k70 70 w2 w.heap.size (fun _ => True) v2 xs from h2); have HB2 := Aside0.mk b2; clear k0 k1; have k1 := (blk_cell (blk_below HX.out b2) 1).trans (show _ = some (Value.slice A2 n2 c2) from rfl); have C2 := Aside0.mk (Kd.C_below H2.out b2); clear h2 b2 hg2 hat2))
  rw [rounds_succ]
  go_wp2_with (first
    | ((with_reducible refine gate_builtin (b := .append) (xs := #[.tmp 31, .tmp 32]) rfl ?_); at_builtin; refine Kd.R_append_rows k70 (w0 := w) w.heap.size rfl (.tmp 31) (.tmp 32) 53 70 (.agg #[(.int .i64 0), (.int .i64 0), (.int .i64 0)]) 24 rfl Try.underlying53 infoN rfl (by decide) (by omega) v2 xs ys A2 n2 c2 (fun _ => True) (fun _ => False) rfl rfl G2.out C2.out (fun _ _ h => h) (fun _ h => h.elim) (fun _ _ => trivial) HB2.out HB2.out.size ?aL ?_; (case aL => have := HL.out; have := HE.out.1; omega); intro v3 w3 h3 b3 hg3 hat3; have G3 := Aside0.mk h3; have HB3 := Aside0.mk b3; clear h3 b3 hg3 hat3))
  rw [rounds_succ]
  go_wp2_with (fail)
  go_ret
  exact ⟨_, rfl, G3.out, HB3.out⟩

/-- A row of another type has grown. -/
theorem R_grown_types {α β : Type} {d : Kd α} {d2 : Kd β} {e e2 : Nat} {w w1 : World} {base base2 : Nat} {ok2 : Nat → Prop} {v u : Value} {xs : List α} {ys : List β} (h : d.R e w base (fun _ => True) v xs) (hE : d.E = []) (ho : d2.R e2 w base2 ok2 u ys) (hne : e ≠ e2) (hg : w.grownBy w1 u.ownBlock) : d.R e w1 base (fun _ => True) v xs := by
  refine Kd.R_mono (Kd.R_move (Kd.R_bound h) (fun k hk => ?_)) (fun _ hk => hk.1)
  obtain ⟨_, _, hlt, q, hq, c, hc⟩ := hk
  rw [hE] at hq
  have hq' : q = e := by simpa using hq
  subst hq'
  refine hg.block k hlt (fun hs => ?_)
  obtain ⟨_, inner, hown, _⟩ := ho
  obtain ⟨c2, hc2⟩ := own_typed hown k hs.symm
  rw [hc] at hc2
  injection hc2 with hc2
  injection hc2 with _ hc2 _
  exact hne hc2

/-- How far a node is from each other one. -/
def cluster_Apart.dl (l0 : List S70) (a1 : Int) : Option (List Int) := (l0.take a1.toNat ++ l0.drop (a1.toNat + 1)).mapM fun x => fix_Sub.f 2 (rd_T70 l0 a1).f0 x.f0
def cluster_Apart.f (l0 : List S70) (a1 : Int) : Option Int := if a1 < 0 then some 0 else if (l0.length : Int) ≤ a1 then some 0 else if l0.length ≤ 1000 then (cluster_Apart.dl l0 a1).bind fun ds => fix_Root.f 1100 ds else none
theorem mapM_get {α β : Type} {f : α → Option β} : ∀ {xs : List α} {ys : List β}, xs.mapM f = some ys → ys.length = xs.length ∧ ∀ (i : Nat) (h : i < xs.length) (h' : i < ys.length), f xs[i] = some ys[i]
  | [], ys, h => by
    simp at h
    subst h
    exact ⟨rfl, fun i h => absurd h (by simp)⟩
  | x :: xs, ys, h => by
    rw [List.mapM_cons] at h
    simp only [Option.bind_eq_bind, Option.pure_def] at h
    obtain ⟨y, hy, h⟩ := Option.bind_eq_some_iff.1 h
    obtain ⟨zs, hz, h⟩ := Option.bind_eq_some_iff.1 h
    obtain rfl := Option.some.inj h
    obtain ⟨h1, h2⟩ := mapM_get hz
    refine ⟨by simp [h1], fun i h h' => ?_⟩
    cases i with
    | zero => exact hy
    | succ i => exact h2 i (by simpa using h) (by simpa using h')

set_option maxHeartbeats 8000000 in
set_option maxRecDepth 100000 in
theorem cluster_Apart.calls (A0 : Option Addr) (c0 : Nat) (l0 : List S70) (a1 : Int) (r : Int) (w : World) (hr0 : Kd.C k70 w A0 l0.length l0) (hc0 : l0.length ≤ c0) (h : cluster_Apart.f l0 a1 = some r) :
    Calls Try.prog 32 #[.slice A0 l0.length c0, .int .i64 a1] w fun e w' => e = .returned (.int .i64 r) ∧ Below w.heap.size w w' := by
  unfold cluster_Apart.f at h
  by_cases q0 : a1 < 0
  · rw [if_pos q0] at h
    obtain rfl := Option.some.inj h
    have d0 : decide (a1 < 0) = true := decide_eq_true q0
    clear h q0
    go_enter Try.func32, Try.ntmps32
    go_wp2_with (fail)
    go_ret
    exact ⟨rfl, Below.refl _ _⟩
  rw [if_neg q0] at h
  by_cases q1 : (l0.length : Int) ≤ a1
  · rw [if_pos q1] at h
    obtain rfl := Option.some.inj h
    have d0 : decide (a1 < 0) = false := decide_eq_false q0
    have d1 : ((l0.length : Int) ≤ a1) = True := eq_true q1
    clear h q0 q1
    go_enter Try.func32, Try.ntmps32
    go_wp2_with (fail)
    go_ret
    exact ⟨rfl, Below.refl _ _⟩
  rw [if_neg q1] at h
  by_cases q2 : l0.length ≤ 1000
  case neg =>
    rw [if_neg q2] at h
    cases h
  rw [if_pos q2] at h
  obtain ⟨ds, hds, h⟩ := Option.bind_eq_some_iff.1 h
  obtain ⟨m, rfl⟩ := Int.eq_ofNat_of_zero_le (show 0 ≤ a1 by omega)
  have hm : m < l0.length := by omega
  unfold cluster_Apart.dl at hds
  rw [Int.toNat_natCast] at hds
  obtain ⟨hdl, hdg⟩ := mapM_get hds
  obtain ⟨ys, hys⟩ : ∃ ys, l0.take m ++ l0.drop (m + 1) = ys := ⟨_, rfl⟩
  rw [hys] at hdl
  have hdg' : ∀ i, i < ys.length → fix_Sub.f 2 (rd_T70 l0 (m : Int)).f0 (rd_T70 ys (i : Int)).f0 = some (ds.getD i 0) := by
    intro i hi
    subst hys
    have := hdg i hi (by omega)
    have e1 : rd_T70 (l0.take m ++ l0.drop (m + 1)) (i : Int) = (l0.take m ++ l0.drop (m + 1))[i] := by
      unfold rd_T70
      rw [Int.toNat_natCast, List.getD_eq_getElem?_getD, List.getElem?_eq_getElem hi]
      rfl
    rw [e1, this, List.getD_eq_getElem?_getD, List.getElem?_eq_getElem (show i < ds.length by omega)]
    rfl
  have hyl : ys.length = l0.length - 1 := by rw [← hys, List.length_append, List.length_take, List.length_drop]; omega
  have d0 : decide ((m : Int) < 0) = false := decide_eq_false (by omega)
  have d1 : ((l0.length : Int) ≤ (m : Int)) = False := eq_false (by omega)
  have d2 : (l0.length ≤ m) = False := eq_false (by omega)
  have hw1 : wrap64 ((m : Int) + 1) = (m : Int) + 1 := by unfold wrap64; omega
  obtain ⟨i0, hi0, hz0⟩ := Option.map_eq_some_iff.1 infoN
  have hsz : i0.size = 3 := by simp only [Prod.mk.injEq] at hz0; exact hz0.2.1
  have hcut1 := cut_hi 53 70 .i64 Try.underlying53 hi0 3 hsz A0 l0.length c0 (m : Int) (by omega) (by omega) (fun _ _ => trivial)
  have hcut2 := cut_lo 53 70 .i64 Try.underlying53 hi0 3 hsz A0 l0.length c0 ((m : Int) + 1) (by omega) (by omega)
  simp only [Int.toNat_natCast, show ((m : Int) + 1).toNat = m + 1 from by omega] at hcut1 hcut2
  obtain ⟨A2, hA2⟩ : ∃ A2, (if c0 = m + 1 then A0 else A0.map (·.add ((m + 1) * 3))) = A2 := ⟨_, rfl⟩
  rw [hA2] at hcut2
  have hcut3 : ∀ W : World, (Instr.slice 53 (.slice A0 l0.length c0) (some (.int .i64 (IntKind.i64.wrap ((m : Int) + 1)))) none none).run Try.prog W = .ok (.slice A2 (l0.length - (m + 1)) (c0 - (m + 1))) W := by rw [show IntKind.i64.wrap ((m : Int) + 1) = (m : Int) + 1 from by rw [IntKind.wrap_i64]; omega]; exact hcut2
  have hC1 := Kd.C_take hr0 (show m ≤ l0.length by omega)
  have hC2 := Kd.C_drop (c := c0) hr0 (show m + 1 ≤ l0.length by omega) hc0
  rw [show k70.sz = 3 from rfl, hA2] at hC2
  have hl1 : (l0.take m).length = m := by rw [List.length_take]; omega
  have hl2 : (l0.drop (m + 1)).length = l0.length - (m + 1) := by rw [List.length_drop]
  rw [hl1] at hC1
  rw [hl2] at hC2
  have HC1 := Aside0.mk hC1
  have HC2 := Aside0.mk hC2
  have HE := Aside0.mk (And.intro hl1 hl2)
  have HQ := Aside0.mk (show m + (l0.length - (m + 1)) ≤ 100000 by omega)
  have HR0 := Aside0.mk hr0
  have HYL := Aside0.mk hyl
  have HYS := Aside0.mk hys
  have HDG := Aside0.mk hdg'
  have HDL := Aside0.mk hdl
  have HH := Aside0.mk h
  have HM := Aside0.mk (And.intro hm q2)
  clear hi0 hz0 hsz hA2 hC1 hC2 hl1 hl2 hr0 hyl hys hdg hdg' hdl hds h hm q0 q1 q2 hc0
  go_enter Try.func32, Try.ntmps32
  go_wp2_with (fail)
  go_region_with (first | (go_at_call 61; (with_reducible refine (concat_calls w.heap.size A0 A2 c0 (c0 - (m + 1)) (l0.take m) (l0.drop (m + 1)) m (l0.length - (m + 1)) _ ?hb HE.out.1 HE.out.2 ?h1 ?h2 HQ.out).mono ?_); (case hb => exact blk_drew (blk_new w _)); (case h1 => exact Kd.C_below HC1.out (below_drew (below_alloc (Below.refl w.heap.size w) _))); (case h2 => exact Kd.C_below HC2.out (below_drew (below_alloc (Below.refl w.heap.size w) _))); rintro e w1 ⟨v1, rfl, h1, b1⟩; rw [HYS.out] at h1; obtain ⟨A1, c1, hv1, _, _⟩ := Kd.R_reads h1; subst hv1; have HY1 := Aside0.mk (Kd.R_lower (base' := w.heap.size) h1 (by simp)); have HB1 := Aside0.mk (below_step (below_drew (below_alloc (Below.refl w.heap.size w) _)) b1); clear h1 b1))
  all_goals
    clear hcut1 hcut2 hcut3 hw1 HC1 HC2 HE HQ
    have HO := Aside0.mk (Kd.R_nil (Kd.int .i64) 2 w1 w.heap.size (fun _ => True))
    go_wp2_with (fail)
    simp only [Act.put, List.getElem_toArray, List.getElem_cons_succ, List.getElem_cons_zero, List.setIfInBounds_toArray, List.set_cons_zero, List.set_cons_succ, i64_w]
    go_loopg [5, 26] ys.length (fun kq v5 v26 w' => ∃ (j : Nat), v26 = .int .i64 (j : Int) ∧ Aside0 (j + kq = ys.length) ∧ Aside0 (Kd.R (Kd.int .i64) 2 w' w.heap.size (fun _ => True) v5 (ds.take j)) ∧ Aside0 (Kd.R k70 70 w' w.heap.size (fun _ => True) (.slice A1 ys.length c1) ys) ∧ Aside0 (Below w.heap.size w w'))
    case atStart => exact ⟨0, rfl, ⟨by omega⟩, HO, HY1, HB1⟩
    case round =>
      clear HO HY1 HB1
      obtain ⟨j, rfl, HI, HO, HY, HB⟩ := hrel
      by_cases hj : j < ys.length
      · have q1 : ((j : Int) < (ys.length : Int)) = True := eq_true (by omega)
        have q2 : ((0 : Int) ≤ (j : Int)) = True := eq_true (by omega)
        obtain ⟨A', c', ev, hle, hC⟩ := Kd.R_reads HY.out
        cases ev
        obtain ⟨ad, e, hx0, hx1, hx2⟩ := at_T70 hC (j : Int) (by omega) (by omega)
        cases e
        simp only [Int.toNat_natCast] at hx0 hx1 hx2
        obtain ⟨ad0, e0, hy0, hy1, hy2⟩ := at_T70 HR0.out (m : Int) (by omega) (by have := HM.out.1; omega)
        cases e0
        simp only [Int.toNat_natCast] at hy0 hy1 hy2
        have HY0 := Aside0.mk hy0
        clear hy0 hy1 hy2 hC
        have HJ := Aside0.mk (HDG.out j hj)
        have HL := Aside0.mk (show ds.take (j + 1) = ds.take j ++ [ds.getD j 0] by
          have hjd : j < ds.length := by have := HDL.out; omega
          rw [List.take_add_one, List.getElem?_eq_getElem hjd, List.getD_eq_getElem?_getD, List.getElem?_eq_getElem hjd]
          rfl)
        have HTL := Aside0.mk (show (ds.take j).length ≤ 1000 by have := HDL.out; have := HYL.out; have := HM.out; rw [List.length_take]; omega)
        go_wp2_with (fail)
        clear hx0 hx1 hx2
        have BA := below_drew (below_alloc (Below.refl wr.heap.size wr) (.cells #[.int .i64 (rd_T70 ys (j : Int)).f0, .int .i64 (rd_T70 ys (j : Int)).f1, .int .i64 (rd_T70 ys (j : Int)).f2] 70))
        have n0 := Aside0.mk (Kd.R_below HO.out BA)
        have n1 := Aside0.mk (Kd.R_below HY.out BA)
        have n2 := Aside0.mk (below_step HB.out BA)
        have hy0 := (n2.out.cell (World.block_lt_of_cell? w _ HY0.out)).trans HY0.out
        have hz0 : (wr.alloc (.cells #[.int .i64 (rd_T70 ys (j : Int)).f0, .int .i64 (rd_T70 ys (j : Int)).f1, .int .i64 (rd_T70 ys (j : Int)).f2] 70)).drew.cell? ⟨wr.heap.size, 0, none⟩ = some (.int .i64 (rd_T70 ys (j : Int)).f0) := (blk_cell (blk_drew (blk_new wr _)) 0).trans rfl
        clear HO HY HB BA
        have qm : (m < l0.length) = True := eq_true HM.out.1
        go_region_law (first
          | (go_simp; go_at_call 48; (with_reducible refine (fix_Sub.calls 2 _ _ (ds.getD j 0) _ HJ.out).mono ?_); rintro e w2 ⟨rfl, b2⟩; have n3 := Aside0.mk (Kd.R_below n0.out b2); have n4 := Aside0.mk (Kd.R_below n1.out b2); have n5 := Aside0.mk (below_step n2.out b2); clear b2)
          | (refine Kd.R_append_step (Kd.int .i64) (w0 := w) (W := w2) w.heap.size (by rfl) (.tmp 30) (.tmp 39) 104 2 (.int .i64 0) 8 rfl Try.underlying104 infoI rfl (by decide) (by omega) u5 (ds.take j) (ds.getD j 0) [.int .i64 (ds.getD j 0)] (fun _ => True) (fun _ => False) rfl rfl ?aP (fun _ hk => hk.elim) (fun _ _ => trivial) n3.out n5.out n5.out.size ?aL ?_; (case aP => exact rfl); (case aL => have := HTL.out; omega); intro v1 w3 ho1 hb1 hg1 hat1; rw [← HL.out] at ho1; have HO := Aside0.mk ho1; have HB := Aside0.mk hb1; have HY := Aside0.mk (R_grown_types n4.out rfl n3.out (by decide) hg1); clear ho1 hb1 hg1 hat1))
        all_goals
          go_wp2_with (fail)
          go_roundg (gk - 1)
          case measure => have := HI.out; omega
          case rel => exact ⟨j + 1, by have := HM.out; have := HYL.out; simp [wrap64]; omega, ⟨by have := HI.out; omega⟩, HO, HY, HB⟩
      · have q1 : ((j : Int) < (ys.length : Int)) = False := eq_false (by omega)
        have hjl : j = ys.length := by have := HI.out; omega
        have HOD := Aside0.mk (show Kd.R (Kd.int .i64) 2 wr w.heap.size (fun _ => True) u5 ds from by
          have h := HO.out
          rw [List.take_of_length_le (by have := HDL.out; omega)] at h
          exact h)
        obtain ⟨A5, c5, hv5, hl5, hC5⟩ := Kd.R_reads HOD.out
        subst hv5
        have HRT := Aside0.mk (fix_Root.calls 1100 A5 c5 ds r wr hC5 hl5 h)
        clear hC5 hl5
        go_wp2_with (first | (go_at_call 62; (with_reducible refine (HRT.out).mono ?_); rintro e w2 ⟨rfl, b2⟩; have HB2 := Aside0.mk (below_step HB.out b2); clear b2))
        go_ret
        exact ⟨rfl, HB2.out⟩

-- NOT PRINTED: function 55 (cluster_place)

/-! ### cluster_Worst: function 28 -/
structure S92 where
  f0 : Int
  f1 : Int
def z92 : S92 := ⟨(0 : Int), (0 : Int)⟩
def k92 : Kd S92 := Kd.iso (Kd.pair (Kd.int .i64) (Kd.int .i64)) (fun x : S92 => (x.f0, x.f1))
theorem k92_open {w : World} {x : S92} {cs : List Value} (h : k92.K w x cs) : cs = [.int .i64 x.f0, .int .i64 x.f1] := by
  obtain ⟨_, _, rfl, rfl, rfl⟩ := h
  exact rfl
theorem k92_mk (w : World) (x : S92) : k92.K w x [.int .i64 x.f0, .int .i64 x.f1] := ⟨[.int .i64 x.f0], [.int .i64 x.f1], rfl, rfl, rfl⟩
theorem k92_mkM (w : World) (base : Nat) (ok : Nat → Prop) (x : S92) : k92.M w base ok x [.int .i64 x.f0, .int .i64 x.f1] := ⟨[.int .i64 x.f0], [.int .i64 x.f1], rfl, rfl, rfl⟩
def rd_T92 (xs : List S92) (i : Int) : S92 := xs.getD i.toNat z92
theorem at_T92 {w : World} {A : Option Addr} {n : Nat} {xs : List S92} (h : Kd.C k92 w A n xs) (i : Int) (h0 : 0 ≤ i) (h1 : i < n) : ∃ ad , A = some ad ∧ w.cell? (ad.add (i.toNat * 2)) = some (.int .i64 (rd_T92 xs i).f0) ∧ w.cell? ⟨(ad.add (i.toNat * 2)).block, (ad.add (i.toNat * 2)).off + 1, none⟩ = some (.int .i64 (rd_T92 xs i).f1) := by
  obtain ⟨ad, c, e, _, hK, hc0⟩ := Kd.C_get h z92 i h0 h1
  have hc : ∀ j u, c[j]? = some u → w.cell? (ad.add (i.toNat * 2 + j)) = some u := hc0
  obtain rfl := k92_open hK
  exact ⟨ad, e, hc 0 _ rfl, by rw [← add_field _ _ 1 (by omega)]; exact hc 1 _ rfl⟩
def clu.cmpI (x y : Int) : Int := if x < y then -1 else if y < x then 1 else 0
def clu.worse (l0 : List S70) (x y : S92) : Int := if clu.cmpI x.f1 y.f1 ≠ 0 then clu.cmpI x.f1 y.f1 else if clu.cmpI (rd_T70 l0 x.f0).f2 (rd_T70 l0 y.f0).f2 ≠ 0 then clu.cmpI (rd_T70 l0 x.f0).f2 (rd_T70 l0 y.f0).f2 else clu.cmpI x.f0 y.f0
theorem cmp64_eq (a b : Int) : cmp_Compare_int64.f a b = some (clu.cmpI a b) := by
  simp [cmp_Compare_int64.f, cmp_isNaN_int64.f, clu.cmpI]
  by_cases h1 : a < b <;> by_cases h2 : b < a <;> simp [h1, h2]
theorem cmpi_eq (a b : Int) : cmp_Compare_int.f a b = some (clu.cmpI a b) := by
  simp [cmp_Compare_int.f, cmp_isNaN_int.f, clu.cmpI]
  by_cases h1 : a < b <;> by_cases h2 : b < a <;> simp [h1, h2]
theorem or_eq (a b c : Int) : cmp_Or_int.f 5 [a, b, c] = some (if a ≠ 0 then a else if b ≠ 0 then b else c) := by
  have w1 : wrap64 1 = 1 := by unfold wrap64; omega
  have w2 : wrap64 2 = 2 := by unfold wrap64; omega
  have w3 : wrap64 3 = 3 := by unfold wrap64; omega
  unfold cmp_Or_int.f
  simp only [cmp_Or_int.l0, List.length_cons, List.length_nil]
  simp [rd, w1, w2, w3]
  by_cases ha : a = 0 <;> by_cases hb : b = 0 <;> by_cases hc : c = 0 <;> simp [ha, hb, hc]
theorem reads3 {W : World} {g : Nat} {a b c : Int} (h : W.heap[g]? = some (.cells #[.int .i64 a, .int .i64 b, .int .i64 c] 3 (0, 0))) : Kd.C (Kd.int .i64) W (some ⟨g, 0, none⟩) [a, b, c].length [a, b, c] := by
  refine Kd.C_of_reads (enc := Value.int .i64) (d := (0 : Int)) (h1 := fun _ => rfl) ⟨rfl, (show 3 ≤ 9223372036854775807 by decide), fun _ => ⟨⟨g, 0, none⟩, rfl, fun j hj => ?_⟩⟩
  rw [add_plain]
  have hj' : j < 3 := hj
  rcases (show j = 0 ∨ j = 1 ∨ j = 2 by omega) with rfl | rfl | rfl
  · exact (blk_cell h 0).trans rfl
  · exact (blk_cell h 1).trans rfl
  · exact (blk_cell h 2).trans rfl

theorem or3_calls (g : Nat) (a b c : Int) (W : World) (h : W.heap[g]? = some (.cells #[.int .i64 a, .int .i64 b, .int .i64 c] 3 (0, 0))) :
    Calls Try.prog 52 #[.slice (some ⟨g, 0, none⟩) 3 3] W fun e w' => e = .returned (.int .i64 (if a ≠ 0 then a else if b ≠ 0 then b else c)) ∧ Drawn0 W w' :=
  cmp_Or_int.calls 5 (some ⟨g, 0, none⟩) 3 [a, b, c] _ W (reads3 h) (Nat.le_refl 3) (or_eq a b c)
theorem cell_da {W : World} {a : Addr} {v : Value} (h : W.cell? a = some v) (n : Nat) (o : Obj) : ((W.drewN n).alloc o).cell? a = some v :=
  ((below_alloc (pw_below_drewN (Below.refl W.heap.size W) n) o).cell (World.block_lt_of_cell? W _ h)).trans h
set_option maxHeartbeats 8000000 in
set_option maxRecDepth 100000 in
theorem worse_calls (gb : Nat) (A0 : Option Addr) (c0 : Nat) (l0 : List S70) (x y : S92) (w : World) (hb : w.heap[gb]? = some (.cells #[.slice A0 l0.length c0] 53 (0, 0))) (hr : Kd.C k70 w A0 l0.length l0) (hx : 0 ≤ x.f0 ∧ x.f0 < l0.length) (hy : 0 ≤ y.f0 ∧ y.f0 < l0.length) :
    Calls Try.prog 51 #[.agg #[.int .i64 x.f0, .int .i64 x.f1], .agg #[.int .i64 y.f0, .int .i64 y.f1], .pointer (some ⟨gb, 0, none⟩)] w fun e w' => e = .returned (.int .i64 (clu.worse l0 x y)) ∧ Below w.heap.size w w' := by
  obtain ⟨ad, e, hx0, hx1, hx2⟩ := at_T70 hr x.f0 hx.1 hx.2
  cases e
  obtain ⟨ad2, e, hy0, hy1, hy2⟩ := at_T70 hr y.f0 hy.1 hy.2
  cases e
  obtain ⟨W, hW⟩ : ∃ W, (w.alloc (.cells #[.int .i64 x.f0, .int .i64 x.f1] 92)).alloc (.cells #[.int .i64 y.f0, .int .i64 y.f1] 92) = W := ⟨_, rfl⟩
  have BW : Below w.heap.size w W := hW ▸ below_alloc (below_alloc (Below.refl _ _) _) _
  have kx := (BW.cell (World.block_lt_of_cell? w _ hx2)).trans hx2
  have ky := (BW.cell (World.block_lt_of_cell? w _ hy2)).trans hy2
  have kb : W.cell? ⟨gb, 0, none⟩ = some (.slice (some ad) l0.length c0) := (blk_cell (blk_below hb BW) 0).trans rfl
  have h3 : W.heap[w.heap.size]? = some (.cells #[.int .i64 x.f0, .int .i64 x.f1] 92 (0, 0)) := hW ▸ blk_alloc (blk_new w _) _
  have h4 : W.heap[w.heap.size + 1]? = some (.cells #[.int .i64 y.f0, .int .i64 y.f1] 92 (0, 0)) := by
    have := blk_new (w.alloc (.cells #[.int .i64 x.f0, .int .i64 x.f1] 92)) (.cells #[.int .i64 y.f0, .int .i64 y.f1] 92 (0, 0))
    rw [World.size_alloc, hW] at this
    exact this
  have p0 : W.cell? ⟨w.heap.size, 0, none⟩ = some (.int .i64 x.f0) := (blk_cell h3 0).trans rfl
  have p1 : W.cell? ⟨w.heap.size, 1, none⟩ = some (.int .i64 x.f1) := (blk_cell h3 1).trans rfl
  have p2 : W.cell? ⟨w.heap.size + 1, 0, none⟩ = some (.int .i64 y.f0) := (blk_cell h4 0).trans rfl
  have p3 : W.cell? ⟨w.heap.size + 1, 1, none⟩ = some (.int .i64 y.f1) := (blk_cell h4 1).trans rfl
  have qx0 := eq_true hx.1
  have qx1 := eq_true hx.2
  have qy0 := eq_true hy.1
  have qy1 := eq_true hy.2
  have HBW := Aside0.mk BW
  have HWW := Aside0.mk hW
  obtain ⟨ra, hra⟩ : ∃ ra, clu.cmpI x.f1 y.f1 = ra := ⟨_, rfl⟩
  obtain ⟨rb, hrb⟩ : ∃ rb, clu.cmpI (rd_T70 l0 x.f0).f2 (rd_T70 l0 y.f0).f2 = rb := ⟨_, rfl⟩
  obtain ⟨rc, hrc⟩ : ∃ rc, clu.cmpI x.f0 y.f0 = rc := ⟨_, rfl⟩
  have HA := Aside0.mk (fun W => cmp_Compare_int64.calls x.f1 y.f1 ra W (by rw [cmp64_eq, hra]))
  have HBB := Aside0.mk (fun W => cmp_Compare_int64.calls (rd_T70 l0 x.f0).f2 (rd_T70 l0 y.f0).f2 rb W (by rw [cmp64_eq, hrb]))
  have HC := Aside0.mk (fun W => cmp_Compare_int.calls x.f0 y.f0 rc W (by rw [cmpi_eq, hrc]))
  have HR := Aside0.mk (show clu.worse l0 x y = (if ra ≠ 0 then ra else if rb ≠ 0 then rb else rc) by unfold clu.worse; rw [hra, hrb, hrc])
  have HO := Aside0.mk (fun (g : Nat) (W1 : World) (h : W1.heap[g]? = some (.cells #[.int .i64 ra, .int .i64 rb, .int .i64 rc] 3 (0, 0))) => or3_calls g ra rb rc W1 h)
  obtain ⟨rr, hrr⟩ : ∃ rr, (if ra ≠ 0 then ra else if rb ≠ 0 then rb else rc) = rr := ⟨_, rfl⟩
  rw [hrr] at HR HO
  clear hx0 hx1 hx2 hy0 hy1 hy2 BW h3 h4 hr hb hx hy hra hrb hrc hrr
  have HL3 := Aside0.mk (show [ra, rb, rc].length ≤ 3 from Nat.le_refl 3)
  go_enter Try.func51, Try.ntmps51
  go_wp2_with (fail)
  clear HWW hW
  go_region_held3 (fun w' => w'.cell? ⟨w.heap.size, 0, none⟩ = some (.int .i64 x.f0) ∧ w'.cell? ⟨w.heap.size, 1, none⟩ = some (.int .i64 x.f1) ∧ w'.cell? ⟨w.heap.size + 1, 0, none⟩ = some (.int .i64 y.f0) ∧ w'.cell? ⟨w.heap.size + 1, 1, none⟩ = some (.int .i64 y.f1) ∧ w'.cell? ⟨gb, 0, none⟩ = some (.slice (some ad) l0.length c0) ∧ w'.cell? ⟨(ad.add (x.f0.toNat * 3)).block, (ad.add (x.f0.toNat * 3)).off + 2, none⟩ = some (.int .i64 (rd_T70 l0 x.f0).f2) ∧ w'.cell? ⟨(ad.add (y.f0.toNat * 3)).block, (ad.add (y.f0.toNat * 3)).off + 2, none⟩ = some (.int .i64 (rd_T70 l0 y.f0).f2)) (first | exact ⟨p0, p1, p2, p3, kb, kx, ky⟩ | exact ⟨cell_da p0 _ _, cell_da p1 _ _, cell_da p2 _ _, cell_da p3 _ _, cell_da kb _ _, cell_da kx _ _, cell_da ky _ _⟩) (first
    | (go_at_call 53; (with_reducible refine (HA.out _).mono ?_); rintro e w1 ⟨rfl, h1⟩; obtain ⟨⟨n1, rfl⟩⟩ := h1)
    | (go_at_call 53; (with_reducible refine (HBB.out _).mono ?_); rintro e w1 ⟨rfl, h1⟩; obtain ⟨⟨n2, rfl⟩⟩ := h1)
    | (go_at_call 54; (with_reducible refine (HC.out _).mono ?_); rintro e w1 ⟨rfl, h1⟩; obtain ⟨⟨n3, rfl⟩⟩ := h1)
    | (go_at_call 52; (with_reducible refine (HO.out W.heap.size _ ?hr).mono ?_); (case hr => exact blk_new _ _); rintro e w1 ⟨rfl, h1⟩; obtain ⟨⟨n4, rfl⟩⟩ := h1))
  all_goals
    go_wp2_with (fail)
    go_ret
    refine ⟨?_, ?_⟩
    · rw [HR.out]
      rfl
    · exact below_step HBW.out (pw_below_drewN (below_alloc (pw_below_drewN (Below.refl _ _) _) _) _)

def clu.maxp (l0 : List S70) : List S92 → S92 → S92
  | [], m => m
  | x :: xs, m => clu.maxp l0 xs (if 0 < clu.worse l0 x m then x else m)
theorem maxp_cons (l0 : List S70) (x : S92) (xs : List S92) (m : S92) : clu.maxp l0 (x :: xs) m = clu.maxp l0 xs (if 0 < clu.worse l0 x m then x else m) := rfl
theorem drop_at (ps : List S92) (j : Nat) (h : j < ps.length) : ps.drop j = rd_T92 ps (j : Int) :: ps.drop (j + 1) := by
  rw [List.drop_eq_getElem_cons h]
  unfold rd_T92
  rw [Int.toNat_natCast, List.getD_eq_getElem?_getD, List.getElem?_eq_getElem h]
  rfl
theorem rd_mem92 (ps : List S92) (j : Nat) (h : j < ps.length) : rd_T92 ps (j : Int) ∈ ps := by
  unfold rd_T92
  rw [Int.toNat_natCast, List.getD_eq_getElem?_getD, List.getElem?_eq_getElem h]
  exact List.getElem_mem h

set_option maxHeartbeats 8000000 in
set_option maxRecDepth 100000 in
theorem maxFunc_calls (gb : Nat) (A0 : Option Addr) (c0 : Nat) (l0 : List S70) (A : Option Addr) (c : Nat) (ps : List S92) (w : World) (hb : w.heap[gb]? = some (.cells #[.slice A0 l0.length c0] 53 (0, 0))) (hr : Kd.C k70 w A0 l0.length l0) (hp : Kd.C k92 w A ps.length ps) (h0 : 0 < ps.length) (hl : ps.length ≤ 1000) (hin : ∀ x ∈ ps, 0 ≤ x.f0 ∧ x.f0 < l0.length) :
    Calls Try.prog 55 #[.slice A ps.length c, .func (.func 51) #[] #[.pointer (some ⟨gb, 0, none⟩)]] w fun e w' => (∃ m, m = clu.maxp l0 (ps.drop 1) (rd_T92 ps 0) ∧ m ∈ ps ∧ e = .returned (.agg #[.int .i64 m.f0, .int .i64 m.f1])) ∧ Below w.heap.size w w' := by
  have hu92 := Try.underlying92
  obtain ⟨ad, e, hx0, hx1⟩ := at_T92 hp 0 (by decide) (by omega)
  cases e
  simp only [Int.toNat_zero, Nat.zero_mul] at hx0 hx1
  have ea : ad.add 0 = ad := by simp [Addr.add]
  rw [ea] at hx0 hx1
  have BA := below_alloc (Below.refl w.heap.size w) (.cells #[.int .i64 0, .int .i64 0] 92)
  replace hx0 := (BA.cell (World.block_lt_of_cell? w _ hx0)).trans hx0
  replace hx1 := (BA.cell (World.block_lt_of_cell? w _ hx1)).trans hx1
  clear ea BA
  have q0 : ((ps.length : Int) < 1) = False := eq_false (by omega)
  have q1 : ((0 : Int) < (ps.length : Int)) = True := eq_true (by omega)
  have q2 : (0 < ps.length) = True := eq_true h0
  have HB := Aside0.mk hb
  have HR := Aside0.mk hr
  have HP := Aside0.mk hp
  have HIN := Aside0.mk hin
  have H0 := Aside0.mk (And.intro h0 hl)
  clear hb hr hp hin h0 hl
  go_enter Try.func55, Try.ntmps55
  go_wp2_with (fail)
  have HBW := Aside0.mk (below_alloc (below_alloc (Below.refl w.heap.size w) (.cells #[.int .i64 0, .int .i64 0] 92)) (.cells #[.int .i64 (rd_T92 ps 0).f0, .int .i64 (rd_T92 ps 0).f1] 92))
  have h4 := Aside0.mk (blk_alloc (blk_new w (.cells #[.int .i64 0, .int .i64 0] 92)) (.cells #[.int .i64 (rd_T92 ps 0).f0, .int .i64 (rd_T92 ps 0).f1] 92))
  have h5' := blk_new (w.alloc (.cells #[.int .i64 0, .int .i64 0] 92)) (.cells #[.int .i64 (rd_T92 ps 0).f0, .int .i64 (rd_T92 ps 0).f1] 92)
  rw [World.size_alloc] at h5'
  have h5 := Aside0.mk h5'
  clear h5' hx0 hx1 q1 q2
  go_loopg [6] ps.length (fun kq v6 w' => ∃ (j : Nat) (m : S92), v6 = .int .i64 (j : Int) ∧ Aside0 (j + kq = ps.length + 1 ∧ 1 ≤ j ∧ j ≤ ps.length) ∧ Aside0 (clu.maxp l0 (ps.drop j) m = clu.maxp l0 (ps.drop 1) (rd_T92 ps 0) ∧ m ∈ ps) ∧ Aside0 (w'.heap[w.heap.size]? = some (.cells #[.int .i64 0, .int .i64 0] 92 (0, 0))) ∧ Aside0 (w'.heap[w.heap.size + 1]? = some (.cells #[.int .i64 m.f0, .int .i64 m.f1] 92 (0, 0))) ∧ Aside0 (Below w.heap.size w w'))
  case atStart => exact ⟨1, rd_T92 ps 0, rfl, ⟨by omega, by omega, H0.out.1⟩, ⟨rfl, rd_mem92 ps 0 H0.out.1⟩, h4, h5, HBW⟩
  case round =>
    clear h4 h5 HBW
    obtain ⟨j, m, rfl, HI, HM, h4, h5, HB1⟩ := hrel
    have km0 := (blk_cell h5.out 0).trans (show _ = some (Value.int .i64 m.f0) from rfl)
    have km1 := (blk_cell h5.out 1).trans (show _ = some (Value.int .i64 m.f1) from rfl)
    by_cases hj : j < ps.length
    · have q1 : ((j : Int) < (ps.length : Int)) = True := eq_true (by omega)
      have q2 : ((0 : Int) ≤ (j : Int)) = True := eq_true (by omega)
      obtain ⟨ad, e, hx0, hx1⟩ := at_T92 HP.out (j : Int) (by omega) (by omega)
      cases e
      replace hx0 := (HB1.out.cell (World.block_lt_of_cell? w _ hx0)).trans hx0
      replace hx1 := (HB1.out.cell (World.block_lt_of_cell? w _ hx1)).trans hx1
      simp only [Int.toNat_natCast] at hx0 hx1
      have HX := Aside0.mk (And.intro hx0 hx1)
      have HXI := Aside0.mk (HIN.out _ (rd_mem92 ps j hj))
      have HMI := Aside0.mk (HIN.out _ HM.out.2)
      have HDR := Aside0.mk (drop_at ps j hj)
      have HMEM := Aside0.mk (rd_mem92 ps j hj)
      obtain ⟨rr, hrr⟩ : ∃ rr, clu.worse l0 (rd_T92 ps (j : Int)) m = rr := ⟨_, rfl⟩
      have HW := Aside0.mk (fun W (b : Below w.heap.size w W) => worse_calls gb A0 c0 l0 (rd_T92 ps (j : Int)) m W (blk_below HB.out b) (Kd.C_below HR.out b) HXI.out HMI.out)
      have HRR := Aside0.mk hrr
      rw [hrr] at HW
      clear hrr
      go_wp2_with (fail)
      by_cases hq : 0 < rr
      · have d1 : ((0 : Int) < rr) = True := eq_true hq
        have d2 : decide ((0 : Int) < rr) = true := decide_eq_true hq
        go_region_held3 (fun w' => w'.cell? ⟨w.heap.size + 1, 0, none⟩ = some (.int .i64 m.f0) ∧ w'.cell? ⟨w.heap.size + 1, 1, none⟩ = some (.int .i64 m.f1) ∧ w'.cell? (ad.add (j * 2)) = some (.int .i64 (rd_T92 ps (j : Int)).f0) ∧ w'.cell? ⟨(ad.add (j * 2)).block, (ad.add (j * 2)).off + 1, none⟩ = some (.int .i64 (rd_T92 ps (j : Int)).f1)) (refine ⟨?_, ?_, ?_, ?_⟩ <;> assumption) (first
          | (go_at_call 51; (with_reducible refine (HW.out _ ?hb).mono ?_); (case hb => exact below_drew HB1.out); rintro e w2 ⟨rfl, b2⟩; have n4 := Aside0.mk (blk_below (blk_drew h4.out) b2); have n5 := Aside0.mk (blk_below (blk_drew h5.out) b2); have nB := Aside0.mk (below_step (below_drew HB1.out) b2); have km0' := (blk_cell n5.out 0).trans (show _ = some (Value.int .i64 m.f0) from rfl); have km1' := (blk_cell n5.out 1).trans (show _ = some (Value.int .i64 m.f1) from rfl); have f50 := blk_frozen n5.out 0; have f51 := blk_frozen n5.out 1; have hx0' := (b2.cell (World.block_lt_of_cell? wr _ HX.out.1)).trans HX.out.1; have hx1' := (b2.cell (World.block_lt_of_cell? wr _ HX.out.2)).trans HX.out.2; clear b2))
        clear km0 km1 hx0 hx1
        go_wp2_with (fail)
        have s5 := blk_put n5.out 0 (.int .i64 (rd_T92 ps (j : Int)).f0) rfl
        have m5 := Aside0.mk (blk_put s5 1 (.int .i64 (rd_T92 ps (j : Int)).f1) rfl)
        have m4 := Aside0.mk (blk_far (blk_far n4.out (p := ⟨w.heap.size + 1, 0, none⟩) (by simp) (.int .i64 (rd_T92 ps (j : Int)).f0)) (p := ⟨w.heap.size + 1, 1, none⟩) (by simp) (.int .i64 (rd_T92 ps (j : Int)).f1))
        have mB := Aside0.mk ((nB.out.setCell (p := ⟨w.heap.size + 1, 0, none⟩) (Nat.le_succ _) (.int .i64 (rd_T92 ps (j : Int)).f0)).setCell (p := ⟨w.heap.size + 1, 1, none⟩) (Nat.le_succ _) (.int .i64 (rd_T92 ps (j : Int)).f1))
        go_roundg (gk - 1)
        case measure => have := HI.out; omega
        case rel => exact ⟨j + 1, rd_T92 ps (j : Int), by have := H0.out; simp [wrap64]; omega, ⟨by have := HI.out; omega⟩, ⟨by have h := HM.out.1; rw [HDR.out, maxp_cons, HRR.out, if_pos hq] at h; exact h, HMEM.out⟩, m4, m5, mB⟩
      · have d1 : ((0 : Int) < rr) = False := eq_false hq
        have d2 : decide ((0 : Int) < rr) = false := decide_eq_false hq
        go_region_held3 (fun w' => w'.cell? ⟨w.heap.size + 1, 0, none⟩ = some (.int .i64 m.f0) ∧ w'.cell? ⟨w.heap.size + 1, 1, none⟩ = some (.int .i64 m.f1) ∧ w'.cell? (ad.add (j * 2)) = some (.int .i64 (rd_T92 ps (j : Int)).f0) ∧ w'.cell? ⟨(ad.add (j * 2)).block, (ad.add (j * 2)).off + 1, none⟩ = some (.int .i64 (rd_T92 ps (j : Int)).f1)) (refine ⟨?_, ?_, ?_, ?_⟩ <;> assumption) (first
          | (go_at_call 51; (with_reducible refine (HW.out _ ?hb).mono ?_); (case hb => exact below_drew HB1.out); rintro e w2 ⟨rfl, b2⟩; have n4 := Aside0.mk (blk_below (blk_drew h4.out) b2); have n5 := Aside0.mk (blk_below (blk_drew h5.out) b2); have nB := Aside0.mk (below_step (below_drew HB1.out) b2); have km0' := (blk_cell n5.out 0).trans (show _ = some (Value.int .i64 m.f0) from rfl); have km1' := (blk_cell n5.out 1).trans (show _ = some (Value.int .i64 m.f1) from rfl); have hx0' := (b2.cell (World.block_lt_of_cell? wr _ HX.out.1)).trans HX.out.1; have hx1' := (b2.cell (World.block_lt_of_cell? wr _ HX.out.2)).trans HX.out.2; clear b2))
        clear km0 km1 hx0 hx1
        go_wp2_with (fail)
        go_roundg (gk - 1)
        case measure => have := HI.out; omega
        case rel => exact ⟨j + 1, m, by have := H0.out; simp [wrap64]; omega, ⟨by have := HI.out; omega⟩, ⟨by have h := HM.out.1; rw [HDR.out, maxp_cons, HRR.out, if_neg (by omega)] at h; exact h, HM.out.2⟩, n4, n5, nB⟩
    · have q1 : ((j : Int) < (ps.length : Int)) = False := eq_false (by omega)
      have hjl : j = ps.length := by have := HI.out; omega
      have f40 := blk_frozen h4.out 0
      have f41 := blk_frozen h4.out 1
      have kk0 := (blk_cell h4.out 0).trans (show _ = some (Value.int .i64 0) from rfl)
      have kk1 := (blk_cell h4.out 1).trans (show _ = some (Value.int .i64 0) from rfl)
      have hm : m = clu.maxp l0 (ps.drop 1) (rd_T92 ps 0) := by
        rw [← HM.out.1, hjl, List.drop_length]
        rfl
      have HMQ := Aside0.mk hm
      clear hm
      go_wp2_with (fail)
      have s4 := blk_put h4.out 0 (.int .i64 m.f0) rfl
      have m4 := blk_put s4 1 (.int .i64 m.f1) rfl
      refine bodyPost_ret (results_cell_row rfl _ _ w.heap.size 92 _ (0, 0) _ rfl m4 Try.underlying92 rfl (by kernel_rfl)) rfl ?_
      exact ⟨⟨m, HMQ.out, HM.out.2, rfl⟩, (HB1.out.setCell (p := ⟨w.heap.size, 0, none⟩) (Nat.le_refl _) _).setCell (p := ⟨w.heap.size, 1, none⟩) (Nat.le_refl _) _⟩

/-- Each node's place, and how far it is from the others. -/
def clu.places (l0 : List S70) (n : Nat) : Option (List S92) := (List.range n).mapM fun (i : Nat) => (cluster_Apart.f l0 (i : Int)).map fun d => (⟨(i : Int), d⟩ : S92)
def cluster_Worst.f (l0 : List S70) : Option (Int × Int) := if l0.length = 0 then some (0, 0) else if l0.length ≤ 1000 then (clu.places l0 l0.length).map fun ps => ((clu.maxp l0 (ps.drop 1) (rd_T92 ps 0)).f0, (clu.maxp l0 (ps.drop 1) (rd_T92 ps 0)).f1) else none
theorem places_get {l0 : List S70} {n : Nat} {ps : List S92} (h : clu.places l0 n = some ps) : ps.length = n ∧ ∀ j, j < n → cluster_Apart.f l0 (j : Int) = some (rd_T92 ps (j : Int)).f1 ∧ (rd_T92 ps (j : Int)).f0 = j := by
  obtain ⟨h1, h2⟩ := mapM_get h
  rw [List.length_range] at h1
  refine ⟨h1, fun j hj => ?_⟩
  have h3 := h2 j (by simpa using hj) (by omega)
  rw [List.getElem_range] at h3
  obtain ⟨d, hd, he⟩ := Option.map_eq_some_iff.1 h3
  have e1 : rd_T92 ps (j : Int) = ps[j]'(by omega) := by
    unfold rd_T92
    rw [Int.toNat_natCast, List.getD_eq_getElem?_getD, List.getElem?_eq_getElem (by omega)]
    rfl
  rw [e1, ← he]
  exact ⟨hd, rfl⟩
theorem infoP : (Try.prog.info? 92).map (fun i => (i.zero, i.size, i.bytes)) = some (some (.agg #[(.int .i64 0), (.int .i64 0)]), 2, 16) := by kernel_rfl

set_option maxHeartbeats 8000000 in
set_option maxRecDepth 100000 in
theorem cluster_Worst.calls (A0 : Option Addr) (c0 : Nat) (l0 : List S70) (r1 : Int) (r2 : Int) (w : World) (hr0 : Kd.C k70 w A0 l0.length l0) (hc0 : l0.length ≤ c0) (h : cluster_Worst.f l0 = some (r1, r2)) :
    Calls Try.prog 28 #[.slice A0 l0.length c0] w fun e w' => e = .returned (.tuple #[.int .i64 r1, .int .i64 r2]) ∧ Below w.heap.size w w' := by
  have hmf : ∀ (fn : Fn) (first cap : Array Value) (w : World), (Instr.makeFunc fn first cap).run Try.prog w = .ok (.func fn first cap) w := fun _ _ _ _ => rfl
  have hu92 := Try.underlying92
  have HG0 := blk_new w (.cells #[.slice A0 l0.length c0] 53 (0, 0))
  have k1 := (blk_cell HG0 0).trans (show _ = some (Value.slice A0 l0.length c0) from rfl)
  have HB0 := Aside0.mk (below_alloc (Below.refl w.heap.size w) (.cells #[.slice A0 l0.length c0] 53 (0, 0)))
  unfold cluster_Worst.f at h
  by_cases hz : l0.length = 0
  · rw [if_pos hz] at h
    obtain ⟨rfl, rfl⟩ := Prod.mk.inj (Option.some.inj h)
    rw [hz] at *
    clear h hr0 hc0 HG0
    go_enter Try.func28, Try.ntmps28
    go_wp2_with (fail)
    go_ret2
    exact ⟨rfl, below_alloc (Below.refl _ _) _⟩
  rw [if_neg hz] at h
  by_cases q2 : l0.length ≤ 1000
  case neg =>
    rw [if_neg q2] at h
    cases h
  rw [if_pos q2] at h
  obtain ⟨ps, hps, he⟩ := Option.map_eq_some_iff.1 h
  obtain ⟨hpl, hpg⟩ := places_get hps
  obtain ⟨he1, he2⟩ := Prod.mk.inj he
  have q0 : ((l0.length : Int) = 0) = False := eq_false (by omega)
  have q3 : (l0.length = 0) = False := eq_false hz
  have q4 : ((l0.length : Int) == 0) = false := beq_eq_false_iff_ne.mpr (by omega)
  have HR0 := Aside0.mk hr0
  have HC0 := Aside0.mk hc0
  have HG := Aside0.mk HG0
  have HPL := Aside0.mk hpl
  have HPG := Aside0.mk hpg
  have HE := Aside0.mk (And.intro he1 he2)
  have HZ := Aside0.mk (And.intro hz q2)
  have HO0 := Aside0.mk (Kd.R_nil k92 92 (w.alloc (.cells #[.slice A0 l0.length c0] 53 (0, 0))) w.heap.size (fun _ => True))
  clear h hps hpl hpg he he1 he2 hr0 hc0 HG0 hz q2
  go_enter Try.func28, Try.ntmps28
  go_wp2_with (fail)
  go_loopg [4, 13] l0.length (fun kq v4 v13 w' => ∃ (j : Nat), v13 = .int .i64 (j : Int) ∧ Aside0 (j + kq = l0.length) ∧ Aside0 (Kd.R k92 92 w' w.heap.size (fun _ => True) v4 (ps.take j)) ∧ Aside0 (w'.heap[w.heap.size]? = some (.cells #[.slice A0 l0.length c0] 53 (0, 0))) ∧ Aside0 (Below w.heap.size w w'))
  case atStart => exact ⟨0, rfl, ⟨by omega⟩, HO0, HG, HB0⟩
  case round =>
    clear HO0 HB0 HG k1
    obtain ⟨j, rfl, HI, HO, HG, HB⟩ := hrel
    have k1 := (blk_cell HG.out 0).trans (show _ = some (Value.slice A0 l0.length c0) from rfl)
    by_cases hj : j < l0.length
    · have q1 : ((j : Int) < (l0.length : Int)) = True := eq_true (by omega)
      obtain ⟨hp1, hp0⟩ := HPG.out j hj
      have HA := Aside0.mk (fun W (b : Below w.heap.size w W) => cluster_Apart.calls A0 c0 l0 (j : Int) (rd_T92 ps (j : Int)).f1 W (Kd.C_below HR0.out b) HC0.out hp1)
      have HL := Aside0.mk (show ps.take (j + 1) = ps.take j ++ [(⟨(j : Int), (rd_T92 ps (j : Int)).f1⟩ : S92)] by
        have hjd : j < ps.length := by have := HPL.out; omega
        rw [List.take_add_one, List.getElem?_eq_getElem hjd]
        congr 1
        have e1 : rd_T92 ps (j : Int) = ps[j] := by
          unfold rd_T92
          rw [Int.toNat_natCast, List.getD_eq_getElem?_getD, List.getElem?_eq_getElem hjd]
          rfl
        show [ps[j]] = _
        rw [← e1]
        congr 1
        show (⟨(rd_T92 ps (j : Int)).f0, (rd_T92 ps (j : Int)).f1⟩ : S92) = _
        rw [hp0])
      have HTL := Aside0.mk (show (ps.take j).length ≤ 1000 by have := HPL.out; have := HZ.out; rw [List.length_take]; omega)
      clear hp1 hp0
      go_wp2_with (first
        | (go_at_call 32; (with_reducible refine (HA.out _ HB.out).mono ?_); rintro e w2 ⟨rfl, b2⟩; have n1 := Aside0.mk (Kd.R_below HO.out b2); have n2 := Aside0.mk (blk_below HG.out b2); have n3 := Aside0.mk (below_step HB.out b2); clear k1 b2)
        | ((with_reducible refine gate_builtin (b := .append) (xs := #[.tmp 16, .tmp 22]) rfl ?_); at_builtin; refine Kd.R_append k92 (w0 := w) w.heap.size rfl (.tmp 16) (.tmp 22) 90 92 (.agg #[(.int .i64 0), (.int .i64 0)]) 16 rfl Try.underlying90 infoP rfl (by decide) (by omega) u4 (ps.take j) (⟨(j : Int), (rd_T92 ps (j : Int)).f1⟩ : S92) [.int .i64 (j : Int), .int .i64 (rd_T92 ps (j : Int)).f1] (fun _ => True) (fun _ => False) rfl rfl ?aP (fun _ hk => hk.elim) (fun _ _ => trivial) n1.out n3.out n3.out.size ?aL ?_; (case aP => exact k92_mkM _ _ _ (⟨(j : Int), (rd_T92 ps (j : Int)).f1⟩ : S92)); (case aL => have := HTL.out; omega); intro v5 w5 ho5 hb5 hg5 hat5; rw [← HL.out] at ho5; have m1 := Aside0.mk ho5; have m2 := Aside0.mk (blk_grown n2.out hg5 (Kd.R_ne n1.out n2.out (by decide))); have m3 := Aside0.mk hb5; clear ho5 hb5 hg5 hat5))
      go_roundg (gk - 1)
      case measure => have := HI.out; omega
      case rel => exact ⟨j + 1, by have := HZ.out; simp [wrap64]; omega, ⟨by have := HI.out; omega⟩, m1, m2, m3⟩
    · have q1 : ((j : Int) < (l0.length : Int)) = False := eq_false (by omega)
      have hjl : j = l0.length := by have := HI.out; omega
      obtain ⟨A4, c4, hv4, hl4, hC4⟩ := Kd.R_reads (show Kd.R k92 92 wr w.heap.size (fun _ => True) u4 ps from by
        have h := HO.out
        rw [List.take_of_length_le (by have := HPL.out; omega)] at h
        exact h)
      subst hv4
      have HM := Aside0.mk (maxFunc_calls w.heap.size A0 c0 l0 A4 c4 ps wr HG.out (Kd.C_below HR0.out HB.out) hC4 (by have := HPL.out; have := HZ.out; omega) (by have := HPL.out; have := HZ.out; omega) (fun x hx => by
        obtain ⟨i, hi, rfl⟩ := List.mem_iff_getElem.1 hx
        have hil : i < l0.length := by have := HPL.out; omega
        have h3 := (HPG.out i hil).2
        have e1 : rd_T92 ps (i : Int) = ps[i] := by
          unfold rd_T92
          rw [Int.toNat_natCast, List.getD_eq_getElem?_getD, List.getElem?_eq_getElem hi]
          rfl
        rw [e1] at h3
        omega))
      clear hC4 hl4
      go_wp2_with (first
        | (go_at_call 55; (with_reducible refine (HM.out).mono ?_); rintro e w2 ⟨⟨m, hm, _, rfl⟩, b2⟩; have HMM := Aside0.mk hm; have HB2 := Aside0.mk (below_step HB.out b2); clear hm b2))
      have k7 := (blk_cell (blk_new w2 (.cells #[.int .i64 m.f0, .int .i64 m.f1] 92)) 0)
      go_region_with (fail)
      all_goals
        go_wp2_with (fail)
        go_ret2
        refine ⟨?_, below_step HB2.out (below_drew (below_alloc (Below.refl _ _) _))⟩
        have h1 := HE.out.1
        have h2 := HE.out.2
        rw [← HMM.out] at h1 h2
        rw [h1, h2]
        rfl

-- NOT PRINTED: function 56 (cluster_Node_56)

-- NOT PRINTED: function 57 (cluster_Node_int64)

-- NOT PRINTED: function 59 (slices_Delete_int_int)

-- NOT PRINTED: function 60 (cluster_Node_60)

end Go.Proofs.Ytoddgpaopejeoaa.MClu
