/- Functions that the statements of this seat reach, each as a plain Lean function, with a proof that the Go code comes to its answers; no condition. -/
import Derived.Test.YtilbkdlbbnkgdaaMHeaderx0
import Derived.Test.YtilbkdlbbnkgdaaMHeaderx2
namespace Go.Proofs.Ytilbkdlbbnkgdaa.MHeader
open Go.RowKit Go.Proofs.YtilbkdlbbnkgdaaW.PrintWords Go.Proofs.YtilbkdlbbnkgdaaW.PrintLast Go.Proofs.YtilbkdlbbnkgdaaW.PrintMore
attribute [local go_sem] max2_int min2_int max_two min_two max_three min_three max_four min_four   -- for this text's walks alone
set_option linter.unusedVariables false
set_option linter.unusedSimpArgs false

/-! ### header_Ask: function 36 -/
def header_Ask.f (k : Nat) (a0 : Int) (a1 : Int) (a2 : Int) : Option (ByteArray × Int) := (header_Encode.f k 0 a0 3 0 a1 0 0 0 0 0 0 0 a2).bind fun bt149 => (some (bt149.1, bt149.2))
theorem header_Ask.mono : ∀ a0 a1 a2 k, LeO (header_Ask.f k a0 a1 a2) (header_Ask.f (k + 1) a0 a1 a2) := by
  intro a0 a1 a2 k
  unfold header_Ask.f
  repeat' first
      | (with_reducible exact header_Encode.mono _ _ _ _ _ _ _ _ _ _ _ _ _ _)
      | (with_reducible exact LeO.refl _)
      | (with_reducible exact LeO.none _)
      | (with_reducible refine LeO.ite ?_ ?_)
      | (with_reducible refine LeO.bind ?_ (fun _ => ?_))
      | exact header_Encode.mono _ _ _ _ _ _ _ _ _ _ _ _ _ _
      | exact LeO.none _
      | refine LeO.ite ?_ ?_
      | refine LeO.bind ?_ (fun _ => ?_)
set_option maxHeartbeats 8000000 in
set_option maxRecDepth 100000 in
theorem header_Ask.calls (k : Nat) (a0 : Int) (a1 : Int) (a2 : Int) (r1 : ByteArray) (r2 : Int) (w : World) (h : header_Ask.f k a0 a1 a2 = some (r1, r2)) :
    Calls Try.prog 36 #[.int .i64 a0, .int .i64 a1, .int .u64 a2] w fun e w' => e = .returned (.tuple #[.string r1, .int .i64 r2]) ∧ Below w.heap.size w w' := by
  have hu42 := Try.underlying42
  have HB := Aside0.mk (Below.refl w.heap.size w)
  have H : ((header_Encode.f k 0 a0 3 0 a1 0 0 0 0 0 0 0 a2).bind fun bt149 => (some (bt149.1, bt149.2))) = some (r1, r2) := h
  clear h
  replace H := Option.bind_eq_some_iff.mp H
  obtain ⟨⟨t149, t150⟩, A40, H⟩ := H
  replace H : (some (t149, t150)) = some (r1, r2) := H
  have A4 := Aside0.mk A40
  clear A40
  simp only [Option.some.injEq, Prod.mk.injEq] at H
  obtain ⟨rfl, rfl⟩ := H
  go_enter Try.func36, Try.ntmps36
  go_wp2_with (first | ((with_reducible refine gate_callee (f := 29) rfl ?_); refine goesL_ (some 12) rfl rfl Try.func29 (by kernel_rfl) rfl #[.agg #[.int .i64 0, .int .i64 a0, .int .i64 3, .int .i64 0, .int .i64 a1, .int .i64 0, .int .u32 0, .int .u32 0, .int .u32 0, .int .u64 0, .int .u64 0, .int .u64 0, .int .u64 a2]] rfl (by (try simp only [List.map_toArray, List.map_cons, List.map_nil]); first | done | rfl | (simp only [List.length_drop, List.length_take]; rfl)) ?_; (with_reducible refine (header_Encode.calls k 0 a0 3 0 a1 0 0 0 0 0 0 0 a2 t149 t150 _ A4.out).mono ?_); rintro e w5 ⟨rfl, hb⟩; refine ⟨_, rfl, ?_⟩; have n0_ := Aside0.mk (below_step (by repeat (first | (with_reducible first | exact HB.out | apply below_alloc | apply pw_below_drewN | apply below_drew1) | exact HB.out)) hb); clear HB; have HB := n0_; clear n0_; (try clear hb); (try clear hb2); (try clear hk); (try clear hi)))
  go_ret2
  exact ⟨by first | rfl | (simp [errW_none, errW_some] <;> rfl) | (simp [*, errW_none, errW_some] <;> rfl), by repeat (first | (with_reducible first | exact HB.out | apply below_alloc | apply pw_below_drewN | apply below_drew1) | exact HB.out)⟩

/-! ### analemmalaw05_shown: function 33 -/
def analemmalaw05_shown.f (k : Nat)  : Option (Bool) := (header_Ask.f k 4 6 1).bind fun bt151 => (if (bt151.1.size : Int) = 48 then (if bt151.2 = 0 then (if 0 < (bt151.1.size : Int) then (some ((bt bt151.1 0) == 35)) else (none)) else (some false)) else (some false))
theorem analemmalaw05_shown.mono : ∀ k, LeO (analemmalaw05_shown.f k ) (analemmalaw05_shown.f (k + 1) ) := by
  intro  k
  unfold analemmalaw05_shown.f
  repeat' first
      | (with_reducible exact header_Ask.mono _ _ _ _)
      | (with_reducible exact LeO.refl _)
      | (with_reducible exact LeO.none _)
      | (with_reducible refine LeO.ite ?_ ?_)
      | (with_reducible refine LeO.bind ?_ (fun _ => ?_))
      | exact header_Ask.mono _ _ _ _
      | exact LeO.none _
      | refine LeO.ite ?_ ?_
      | refine LeO.bind ?_ (fun _ => ?_)
set_option maxHeartbeats 8000000 in
set_option maxRecDepth 100000 in
theorem analemmalaw05_shown.calls (k : Nat)  (r : Bool) (w : World) (h : analemmalaw05_shown.f k  = some r) :
    Calls Try.prog 33 #[] w fun e w' => e = .returned (.bool r) ∧ Below w.heap.size w w' := by
  have HB := Aside0.mk (Below.refl w.heap.size w)
  have H : ((header_Ask.f k 4 6 1).bind fun bt151 => (if (bt151.1.size : Int) = 48 then (if bt151.2 = 0 then (if 0 < (bt151.1.size : Int) then (some ((bt bt151.1 0) == 35)) else (none)) else (some false)) else (some false))) = some r := h
  clear h
  replace H := Option.bind_eq_some_iff.mp H
  obtain ⟨⟨t151, t152⟩, A10, H⟩ := H
  replace H : (if (t151.size : Int) = 48 then (if t152 = 0 then (if 0 < (t151.size : Int) then (some ((bt t151 0) == 35)) else (none)) else (some false)) else (some false)) = some r := H
  have A1 := Aside0.mk A10
  clear A10
  by_cases c2 : (t151.size : Int) = 48
  · rw [if_pos c2] at H
    have c2b0 : ((t151.size : Int) == 48) = true := beq_iff_eq.mpr c2
    have c2b1 : ((t151.size : Int) != 48) = false := bne_eq_false_iff_eq.mpr c2
    clear c2
    by_cases c3 : t152 = 0
    · rw [if_pos c3] at H
      have c3b0 : (t152 == 0) = true := beq_iff_eq.mpr c3
      have c3b1 : (t152 != 0) = false := bne_eq_false_iff_eq.mpr c3
      clear c3
      by_cases c4 : 0 < (t151.size : Int)
      · rw [if_pos c4] at H
        have c4b0 : decide (0 < (t151.size : Int)) = true := decide_eq_true c4
        have c4b1 : decide (0 < t151.size) = true := decide_eq_true (by omega)
        clear c4
        obtain rfl := Option.some.inj H
        go_enter Try.func33, Try.ntmps33
        go_wp2_with (first | ((with_reducible refine gate_callee (f := 36) rfl ?_); refine goesL_ (some 4) rfl rfl Try.func36 (by kernel_rfl) rfl #[.int .i64 4, .int .i64 6, .int .u64 1] rfl (by (try simp only [List.map_toArray, List.map_cons, List.map_nil]); first | done | rfl | (simp only [List.length_drop, List.length_take]; rfl)) ?_; (with_reducible refine (header_Ask.calls k 4 6 1 t151 t152 _ A1.out).mono ?_); rintro e w6 ⟨rfl, hb⟩; refine ⟨_, rfl, ?_⟩; have n0_ := Aside0.mk (below_step (by repeat (first | (with_reducible first | exact HB.out | apply below_alloc | apply pw_below_drewN | apply below_drew1) | exact HB.out)) hb); clear HB; have HB := n0_; clear n0_; (try clear hb); (try clear hb2); (try clear hk); (try clear hi); have p5 : 0 ≤ (0 : Int) := (by omega); have q5 : 0 < t151.size := (by have : (0 : Int) < (t151.size : Int) := of_decide_eq_true (by first | (with_reducible assumption) | assumption); omega); have hx5 : ∀ h : 0 < t151.size, ((t151[0]'h).toNat : Int) = bt t151 0 := bt_at t151 0; clear p5; have qi5 : (0 < (t151.size : Int)) = True := eq_true (of_decide_eq_true (by first | (with_reducible assumption) | assumption)); replace q5 := eq_true q5))
        go_ret
        exact ⟨by first | rfl | (simp [errW_none, errW_some] <;> rfl) | (simp [*, errW_none, errW_some] <;> rfl), by repeat (first | (with_reducible first | exact HB.out | apply below_alloc | apply pw_below_drewN | apply below_drew1) | exact HB.out)⟩
      · rw [if_neg c4] at H
        exact absurd H (by simp)
    · rw [if_neg c3] at H
      have c3b0 : (t152 == 0) = false := beq_eq_false_iff_ne.mpr c3
      have c3b1 : (t152 != 0) = true := bne_iff_ne.mpr c3
      obtain rfl := Option.some.inj H
      go_enter Try.func33, Try.ntmps33
      go_wp2_with (first | ((with_reducible refine gate_callee (f := 36) rfl ?_); refine goesL_ (some 4) rfl rfl Try.func36 (by kernel_rfl) rfl #[.int .i64 4, .int .i64 6, .int .u64 1] rfl (by (try simp only [List.map_toArray, List.map_cons, List.map_nil]); first | done | rfl | (simp only [List.length_drop, List.length_take]; rfl)) ?_; (with_reducible refine (header_Ask.calls k 4 6 1 t151 t152 _ A1.out).mono ?_); rintro e w7 ⟨rfl, hb⟩; refine ⟨_, rfl, ?_⟩; have n0_ := Aside0.mk (below_step (by repeat (first | (with_reducible first | exact HB.out | apply below_alloc | apply pw_below_drewN | apply below_drew1) | exact HB.out)) hb); clear HB; have HB := n0_; clear n0_; (try clear hb); (try clear hb2); (try clear hk); (try clear hi)))
      go_ret
      exact ⟨by first | rfl | (simp [errW_none, errW_some] <;> rfl) | (simp [*, errW_none, errW_some] <;> rfl), by repeat (first | (with_reducible first | exact HB.out | apply below_alloc | apply pw_below_drewN | apply below_drew1) | exact HB.out)⟩
  · rw [if_neg c2] at H
    have c2b0 : ((t151.size : Int) == 48) = false := beq_eq_false_iff_ne.mpr c2
    have c2b1 : ((t151.size : Int) != 48) = true := bne_iff_ne.mpr c2
    obtain rfl := Option.some.inj H
    go_enter Try.func33, Try.ntmps33
    go_wp2_with (first | ((with_reducible refine gate_callee (f := 36) rfl ?_); refine goesL_ (some 4) rfl rfl Try.func36 (by kernel_rfl) rfl #[.int .i64 4, .int .i64 6, .int .u64 1] rfl (by (try simp only [List.map_toArray, List.map_cons, List.map_nil]); first | done | rfl | (simp only [List.length_drop, List.length_take]; rfl)) ?_; (with_reducible refine (header_Ask.calls k 4 6 1 t151 t152 _ A1.out).mono ?_); rintro e w8 ⟨rfl, hb⟩; refine ⟨_, rfl, ?_⟩; have n0_ := Aside0.mk (below_step (by repeat (first | (with_reducible first | exact HB.out | apply below_alloc | apply pw_below_drewN | apply below_drew1) | exact HB.out)) hb); clear HB; have HB := n0_; clear n0_; (try clear hb); (try clear hb2); (try clear hk); (try clear hi)))
    go_ret
    exact ⟨by first | rfl | (simp [errW_none, errW_some] <;> rfl) | (simp [*, errW_none, errW_some] <;> rfl), by repeat (first | (with_reducible first | exact HB.out | apply below_alloc | apply pw_below_drewN | apply below_drew1) | exact HB.out)⟩

/-! ### header_get_uint8: function 53 -/
/-- The number of m bytes of s from o on, the first one highest. -/
def header_get.num (s : ByteArray) (o : Nat) : Nat → Int
  | 0 => 0
  | m + 1 => header_get.num s o m * 256 + bt s ((o + m : Nat) : Int)
theorem header_get.num_bd (s : ByteArray) (o : Nat) (m : Nat) : 0 ≤ header_get.num s o m ∧ header_get.num s o m < 256 ^ m := by
  induction m with
  | zero => exact ⟨Int.le_refl 0, by simp [header_get.num]⟩
  | succ m ih =>
    have b := bt_range s ((o + m : Nat) : Int)
    have e : (256 : Int) ^ (m + 1) = 256 ^ m * 256 := Int.pow_succ _ _
    simp only [header_get.num]
    omega
theorem header_get.num_56 (s : ByteArray) (o : Nat) (m : Nat) (h : m ≤ 7) : 0 ≤ header_get.num s o m ∧ header_get.num s o m < 72057594037927936 := by
  have b := header_get.num_bd s o m
  have p : (256 : Nat) ^ m ≤ 256 ^ 7 := Nat.pow_le_pow_right (by decide) h
  have q : ((256 : Int) ^ m) = ((256 ^ m : Nat) : Int) := by simp
  rw [q] at b
  have r : (256 : Nat) ^ 7 = 72057594037927936 := by decide
  omega
theorem header_get.or_ (x y : Int) (h0 : 0 ≤ x) (h1 : x < 72057594037927936) (h2 : 0 ≤ y) (h3 : y ≤ 255) : Go.bits .or .u64 (x * 256) y = x * 256 + y :=
  bits_join .u64 64 (by decide) (fun n q0 q1 => by rw [IntKind.wrap_u64]; omega) 8 _ _ (by omega) (by omega) (by omega) (by omega) (by omega) (by omega)
theorem header_get.bt_ex (s : ByteArray) (m j : Nat) (hj : j < m) (hm : m ≤ s.size) : bt (s.extract 0 m) (j : Int) = bt s (j : Int) := by
  unfold bt
  rw [Int.toNat_natCast, dif_pos (by rw [ByteArray.size_extract]; omega), dif_pos (by omega)]
  simp [ByteArray.getElem_extract]
set_option maxHeartbeats 16000000 in
set_option maxRecDepth 100000 in
theorem header_get_uint8.at_ (g : Nat) (s : ByteArray) (m : Nat) (mi : Int) (hmi : mi = (m : Int)) (w0 w : World) (B : Nat) (hB : Below B w0 w) (hBg : B ≤ g) (hb : w.heap[g]? = some (.cells #[.string s] 9 (0, 0))) (hm : m ≤ s.size) (hm8 : m ≤ 8) (hs : s.size ≤ 140737488355328) :
    Calls Try.prog 53 #[.pointer (some ⟨g, 0, none⟩), .int .i64 mi] w fun e w' => e = .returned (.int .u8 (header_get.num s 0 m % 256)) ∧ w'.heap[g]? = some (.cells #[.string (s.extract m s.size)] 9 (0, 0)) ∧ KeepBut w w' g none ∧ Below B w0 w' := by
  subst hmi
  have HB := Aside0.mk hB
  have HBG := Aside0.mk hBg
  have HG := Aside0.mk hb
  have cg := (blk_cell hb 0).trans (show _ = some (Value.string s) from rfl)
  have hsz : (s.extract 0 m).size = m := by rw [ByteArray.size_extract]; omega
  have kc := fun (W : World) => print_bytes (P := Try.prog) 9 50 5 Try.underlying9 Try.underlying50 Try.underlying5 (s.extract 0 m) W
  rw [hsz] at kc
  have HS := Aside0.mk hsz
  have hmi : (m : Int) ≤ (s.size : Int) := by omega
  clear hB hBg hb hsz
  go_enter Try.func53, Try.ntmps53
  go_wp2
  have hbel : Below B w0 (Lib.bytesWorld w 5 (s.extract 0 m)) := bytes_below HB.out (by have := blk_lt HG.out; have := HBG.out; omega) _ _
  have hkeep : KeepBut w (Lib.bytesWorld w 5 (s.extract 0 m)) g none := KeepBut.of_below (bytes_below (Below.refl _ _) (Nat.le_refl _) _ _) g none
  have hrd := bytes_reads w 5 (s.extract 0 m) (by rw [HS.out]; omega)
  have hgb : (Lib.bytesWorld w 5 (s.extract 0 m)).heap[g]? = some (.cells #[.string s] 9 (0, 0)) := (Lib.bytesWorld_at_old w _ _ g (blk_lt HG.out)).trans HG.out
  have hbl : w.heap.size < (Lib.bytesWorld w 5 (s.extract 0 m)).heap.size := by rw [Lib.bytesWorld_size]; omega
  have hgl : g < w.heap.size := blk_lt HG.out
  generalize Lib.bytesWorld w 5 (s.extract 0 m) = wb at hbel hkeep hrd hgb hbl ⊢
  have HBEL := Aside0.mk hbel
  have HKEEP := Aside0.mk hkeep
  have HRD := Aside0.mk hrd
  have HGB := Aside0.mk hgb
  clear hbel hkeep hrd hgb kc cg
  have HGL := Aside0.mk hgl
  have HBL := Aside0.mk hbl
  clear hgl hbl
  go_loopg [5, 15] m (fun gk v i wr => ∃ j : Nat, j ≤ m ∧ gk = m - j ∧ i = .int .i64 j ∧ v = .int .u64 (header_get.num s 0 j) ∧ wr = wb)
  case atStart => exact ⟨0, by omega, by omega, rfl, rfl, rfl⟩
  case round =>
    obtain ⟨j, hj, hg, rfl, rfl, rfl⟩ := hrel
    have HG2 := Aside0.mk hg
    clear hg
    by_cases hlt : j < m
    · have hn := header_get.num_56 s 0 j (by omega)
      have hc := bt_range s (j : Int)
      obtain ⟨ad, ead, hx⟩ := HRD.out.at_ (j : Int) (by omega) (by rw [HS.out]; omega)
      rw [rd_bytesOf, header_get.bt_ex s m j hlt hm, Int.toNat_natCast] at hx
      obtain rfl : (⟨w.heap.size, 0, none⟩ : Addr) = ad := Option.some.inj ead
      rw [add_plain] at hx
      obtain ⟨c, hcc⟩ : ∃ c, bt s (j : Int) = c := ⟨_, rfl⟩
      obtain ⟨n, hnn⟩ : ∃ n, header_get.num s 0 j = n := ⟨_, rfl⟩
      have hnx : header_get.num s 0 (j + 1) = n * 256 + c := by
        simp only [header_get.num]
        rw [hnn, Nat.zero_add, hcc]
      rw [hcc] at hx hc
      rw [hnn] at hn ⊢
      have w1 : IntKind.u64.wrap (n * 256) = n * 256 := by rw [IntKind.wrap_u64]; omega
      have o1 := header_get.or_ n c hn.1 hn.2 hc.1 hc.2
      have HNX := Aside0.mk hnx
      clear hcc hnn hnx
      go_wp2
      have hg := HG2.out
      go_roundg (m - (j + 1))
      case measure => omega
      case rel => exact ⟨j + 1, by omega, rfl, by first | rfl | go_num, by rw [HNX.out], rfl⟩
    · obtain rfl : j = m := by omega
      have cg := (blk_cell HGB.out 0).trans (show _ = some (Value.string s) from rfl)
      have fg := blk_frozen HGB.out 0
      go_wp2
      go_ret
      exact ⟨rfl, blk_put HGB.out 0 _ rfl, KeepBut.set_ HKEEP.out 0 _, Below.setCell HBEL.out HBG.out _⟩

/-! ### header_get_uint32: function 54 -/
set_option maxHeartbeats 16000000 in
set_option maxRecDepth 100000 in
theorem header_get_uint32.at_ (g : Nat) (s : ByteArray) (m : Nat) (mi : Int) (hmi : mi = (m : Int)) (w0 w : World) (B : Nat) (hB : Below B w0 w) (hBg : B ≤ g) (hb : w.heap[g]? = some (.cells #[.string s] 9 (0, 0))) (hm : m ≤ s.size) (hm8 : m ≤ 8) (hs : s.size ≤ 140737488355328) :
    Calls Try.prog 54 #[.pointer (some ⟨g, 0, none⟩), .int .i64 mi] w fun e w' => e = .returned (.int .u32 (header_get.num s 0 m % 4294967296)) ∧ w'.heap[g]? = some (.cells #[.string (s.extract m s.size)] 9 (0, 0)) ∧ KeepBut w w' g none ∧ Below B w0 w' := by
  subst hmi
  have HB := Aside0.mk hB
  have HBG := Aside0.mk hBg
  have HG := Aside0.mk hb
  have cg := (blk_cell hb 0).trans (show _ = some (Value.string s) from rfl)
  have hsz : (s.extract 0 m).size = m := by rw [ByteArray.size_extract]; omega
  have kc := fun (W : World) => print_bytes (P := Try.prog) 9 50 5 Try.underlying9 Try.underlying50 Try.underlying5 (s.extract 0 m) W
  rw [hsz] at kc
  have HS := Aside0.mk hsz
  have hmi : (m : Int) ≤ (s.size : Int) := by omega
  clear hB hBg hb hsz
  go_enter Try.func54, Try.ntmps54
  go_wp2
  have hbel : Below B w0 (Lib.bytesWorld w 5 (s.extract 0 m)) := bytes_below HB.out (by have := blk_lt HG.out; have := HBG.out; omega) _ _
  have hkeep : KeepBut w (Lib.bytesWorld w 5 (s.extract 0 m)) g none := KeepBut.of_below (bytes_below (Below.refl _ _) (Nat.le_refl _) _ _) g none
  have hrd := bytes_reads w 5 (s.extract 0 m) (by rw [HS.out]; omega)
  have hgb : (Lib.bytesWorld w 5 (s.extract 0 m)).heap[g]? = some (.cells #[.string s] 9 (0, 0)) := (Lib.bytesWorld_at_old w _ _ g (blk_lt HG.out)).trans HG.out
  have hbl : w.heap.size < (Lib.bytesWorld w 5 (s.extract 0 m)).heap.size := by rw [Lib.bytesWorld_size]; omega
  have hgl : g < w.heap.size := blk_lt HG.out
  generalize Lib.bytesWorld w 5 (s.extract 0 m) = wb at hbel hkeep hrd hgb hbl ⊢
  have HBEL := Aside0.mk hbel
  have HKEEP := Aside0.mk hkeep
  have HRD := Aside0.mk hrd
  have HGB := Aside0.mk hgb
  clear hbel hkeep hrd hgb kc cg
  have HGL := Aside0.mk hgl
  have HBL := Aside0.mk hbl
  clear hgl hbl
  go_loopg [5, 15] m (fun gk v i wr => ∃ j : Nat, j ≤ m ∧ gk = m - j ∧ i = .int .i64 j ∧ v = .int .u64 (header_get.num s 0 j) ∧ wr = wb)
  case atStart => exact ⟨0, by omega, by omega, rfl, rfl, rfl⟩
  case round =>
    obtain ⟨j, hj, hg, rfl, rfl, rfl⟩ := hrel
    have HG2 := Aside0.mk hg
    clear hg
    by_cases hlt : j < m
    · have hn := header_get.num_56 s 0 j (by omega)
      have hc := bt_range s (j : Int)
      obtain ⟨ad, ead, hx⟩ := HRD.out.at_ (j : Int) (by omega) (by rw [HS.out]; omega)
      rw [rd_bytesOf, header_get.bt_ex s m j hlt hm, Int.toNat_natCast] at hx
      obtain rfl : (⟨w.heap.size, 0, none⟩ : Addr) = ad := Option.some.inj ead
      rw [add_plain] at hx
      obtain ⟨c, hcc⟩ : ∃ c, bt s (j : Int) = c := ⟨_, rfl⟩
      obtain ⟨n, hnn⟩ : ∃ n, header_get.num s 0 j = n := ⟨_, rfl⟩
      have hnx : header_get.num s 0 (j + 1) = n * 256 + c := by
        simp only [header_get.num]
        rw [hnn, Nat.zero_add, hcc]
      rw [hcc] at hx hc
      rw [hnn] at hn ⊢
      have w1 : IntKind.u64.wrap (n * 256) = n * 256 := by rw [IntKind.wrap_u64]; omega
      have o1 := header_get.or_ n c hn.1 hn.2 hc.1 hc.2
      have HNX := Aside0.mk hnx
      clear hcc hnn hnx
      go_wp2
      have hg := HG2.out
      go_roundg (m - (j + 1))
      case measure => omega
      case rel => exact ⟨j + 1, by omega, rfl, by first | rfl | go_num, by rw [HNX.out], rfl⟩
    · obtain rfl : j = m := by omega
      have cg := (blk_cell HGB.out 0).trans (show _ = some (Value.string s) from rfl)
      have fg := blk_frozen HGB.out 0
      go_wp2
      go_ret
      exact ⟨rfl, blk_put HGB.out 0 _ rfl, KeepBut.set_ HKEEP.out 0 _, Below.setCell HBEL.out HBG.out _⟩

/-! ### header_get_uint64: function 55 -/
set_option maxHeartbeats 16000000 in
set_option maxRecDepth 100000 in
theorem header_get_uint64.at_ (g : Nat) (s : ByteArray) (m : Nat) (mi : Int) (hmi : mi = (m : Int)) (w0 w : World) (B : Nat) (hB : Below B w0 w) (hBg : B ≤ g) (hb : w.heap[g]? = some (.cells #[.string s] 9 (0, 0))) (hm : m ≤ s.size) (hm8 : m ≤ 8) (hs : s.size ≤ 140737488355328) :
    Calls Try.prog 55 #[.pointer (some ⟨g, 0, none⟩), .int .i64 mi] w fun e w' => e = .returned (.int .u64 (header_get.num s 0 m)) ∧ w'.heap[g]? = some (.cells #[.string (s.extract m s.size)] 9 (0, 0)) ∧ KeepBut w w' g none ∧ Below B w0 w' := by
  subst hmi
  have HB := Aside0.mk hB
  have HBG := Aside0.mk hBg
  have HG := Aside0.mk hb
  have cg := (blk_cell hb 0).trans (show _ = some (Value.string s) from rfl)
  have hsz : (s.extract 0 m).size = m := by rw [ByteArray.size_extract]; omega
  have kc := fun (W : World) => print_bytes (P := Try.prog) 9 50 5 Try.underlying9 Try.underlying50 Try.underlying5 (s.extract 0 m) W
  rw [hsz] at kc
  have HS := Aside0.mk hsz
  have hmi : (m : Int) ≤ (s.size : Int) := by omega
  clear hB hBg hb hsz
  go_enter Try.func55, Try.ntmps55
  go_wp2
  have hbel : Below B w0 (Lib.bytesWorld w 5 (s.extract 0 m)) := bytes_below HB.out (by have := blk_lt HG.out; have := HBG.out; omega) _ _
  have hkeep : KeepBut w (Lib.bytesWorld w 5 (s.extract 0 m)) g none := KeepBut.of_below (bytes_below (Below.refl _ _) (Nat.le_refl _) _ _) g none
  have hrd := bytes_reads w 5 (s.extract 0 m) (by rw [HS.out]; omega)
  have hgb : (Lib.bytesWorld w 5 (s.extract 0 m)).heap[g]? = some (.cells #[.string s] 9 (0, 0)) := (Lib.bytesWorld_at_old w _ _ g (blk_lt HG.out)).trans HG.out
  have hbl : w.heap.size < (Lib.bytesWorld w 5 (s.extract 0 m)).heap.size := by rw [Lib.bytesWorld_size]; omega
  have hgl : g < w.heap.size := blk_lt HG.out
  generalize Lib.bytesWorld w 5 (s.extract 0 m) = wb at hbel hkeep hrd hgb hbl ⊢
  have HBEL := Aside0.mk hbel
  have HKEEP := Aside0.mk hkeep
  have HRD := Aside0.mk hrd
  have HGB := Aside0.mk hgb
  clear hbel hkeep hrd hgb kc cg
  have HGL := Aside0.mk hgl
  have HBL := Aside0.mk hbl
  clear hgl hbl
  go_loopg [5, 15] m (fun gk v i wr => ∃ j : Nat, j ≤ m ∧ gk = m - j ∧ i = .int .i64 j ∧ v = .int .u64 (header_get.num s 0 j) ∧ wr = wb)
  case atStart => exact ⟨0, by omega, by omega, rfl, rfl, rfl⟩
  case round =>
    obtain ⟨j, hj, hg, rfl, rfl, rfl⟩ := hrel
    have HG2 := Aside0.mk hg
    clear hg
    by_cases hlt : j < m
    · have hn := header_get.num_56 s 0 j (by omega)
      have hc := bt_range s (j : Int)
      obtain ⟨ad, ead, hx⟩ := HRD.out.at_ (j : Int) (by omega) (by rw [HS.out]; omega)
      rw [rd_bytesOf, header_get.bt_ex s m j hlt hm, Int.toNat_natCast] at hx
      obtain rfl : (⟨w.heap.size, 0, none⟩ : Addr) = ad := Option.some.inj ead
      rw [add_plain] at hx
      obtain ⟨c, hcc⟩ : ∃ c, bt s (j : Int) = c := ⟨_, rfl⟩
      obtain ⟨n, hnn⟩ : ∃ n, header_get.num s 0 j = n := ⟨_, rfl⟩
      have hnx : header_get.num s 0 (j + 1) = n * 256 + c := by
        simp only [header_get.num]
        rw [hnn, Nat.zero_add, hcc]
      rw [hcc] at hx hc
      rw [hnn] at hn ⊢
      have w1 : IntKind.u64.wrap (n * 256) = n * 256 := by rw [IntKind.wrap_u64]; omega
      have o1 := header_get.or_ n c hn.1 hn.2 hc.1 hc.2
      have HNX := Aside0.mk hnx
      clear hcc hnn hnx
      go_wp2
      have hg := HG2.out
      go_roundg (m - (j + 1))
      case measure => omega
      case rel => exact ⟨j + 1, by omega, rfl, by first | rfl | go_num, by rw [HNX.out], rfl⟩
    · obtain rfl : j = m := by omega
      have cg := (blk_cell HGB.out 0).trans (show _ = some (Value.string s) from rfl)
      have fg := blk_frozen HGB.out 0
      go_wp2
      go_ret
      exact ⟨rfl, blk_put HGB.out 0 _ rfl, KeepBut.set_ HKEEP.out 0 _, Below.setCell HBEL.out HBG.out _⟩

/-! ### header_Decode: function 34 -/
/-- A byte as a signed number. -/
def header_Decode_1.sg (c : Int) : Int := wrap64 (IntKind.i8.wrap c)
set_option maxHeartbeats 16000000 in
set_option maxRecDepth 100000 in
theorem header_Decode_1.at_ (g : Nat) (s : ByteArray) (w0 w : World) (B : Nat) (hB : Below B w0 w) (hBg : B ≤ g) (hb : w.heap[g]? = some (.cells #[.string s] 9 (0, 0))) (hm : 1 ≤ s.size) (hs : s.size ≤ 140737488355328) :
    Calls Try.prog 52 #[.pointer (some ⟨g, 0, none⟩)] w fun e w' => e = .returned (.int .i64 (header_Decode_1.sg (header_get.num s 0 1 % 256))) ∧ w'.heap[g]? = some (.cells #[.string (s.extract 1 s.size)] 9 (0, 0)) ∧ KeepBut w w' g none ∧ Below B w0 w' := by
  have HB := Aside0.mk hB
  have HBG := Aside0.mk hBg
  have HG := Aside0.mk hb
  clear hB hBg hb
  go_enter Try.func52, Try.ntmps52
  go_wp2_with (first | (go_at_call 53; (with_reducible refine (header_get_uint8.at_ g s 1 1 rfl w0 _ B HB.out HBG.out HG.out hm (by decide) hs).mono ?_); rintro e w' ⟨rfl, h1, h2, h3⟩; have H1 := Aside0.mk h1; have H2 := Aside0.mk h2; have H3 := Aside0.mk h3; clear h1 h2 h3))
  go_ret
  exact ⟨rfl, H1.out, H2.out, H3.out⟩
theorem header_get.ext2 (s : ByteArray) (a b m : Nat) (ha : a + m = b) (hb : b ≤ s.size) : (s.extract a s.size).extract m (s.extract a s.size).size = s.extract b s.size := by
  rw [ByteArray.extract_extract, ByteArray.size_extract]
  congr 1
  omega
theorem header_get.bt_off (s : ByteArray) (a : Nat) (j : Int) (h0 : 0 ≤ j) (h : a + j < s.size) : bt (s.extract a s.size) j = bt s (a + j) := by
  unfold bt
  rw [dif_pos (by rw [ByteArray.size_extract]; omega), dif_pos (by omega)]
  have e : ((a : Int) + j).toNat = a + j.toNat := by omega
  simp only [e, ByteArray.getElem_extract]
theorem header_get.num_off (s : ByteArray) (a : Nat) (m : Nat) (h : a + m ≤ s.size) : header_get.num (s.extract a s.size) 0 m = header_get.num s a m := by
  induction m with
  | zero => rfl
  | succ m ih =>
    simp only [header_get.num]
    rw [ih (by omega), header_get.bt_off s a _ (by omega) (by omega)]
    congr 2
    omega
theorem header_get_uint8.off (g : Nat) (s : ByteArray) (a b m : Nat) (mi : Int) (hmi : mi = (m : Int)) (w0 w : World) (B : Nat) (hB : Below B w0 w) (hBg : B ≤ g) (hb : w.heap[g]? = some (.cells #[.string (s.extract a s.size)] 9 (0, 0))) (hm : a + m = b) (hn : b ≤ s.size) (hm8 : m ≤ 8) (hs : s.size ≤ 140737488355328) :
    Calls Try.prog 53 #[.pointer (some ⟨g, 0, none⟩), .int .i64 mi] w fun e w' => e = .returned (.int .u8 (header_get.num s a m % 256)) ∧ w'.heap[g]? = some (.cells #[.string (s.extract b s.size)] 9 (0, 0)) ∧ KeepBut w w' g none ∧ Below B w0 w' := by
  have h := header_get_uint8.at_ g (s.extract a s.size) m mi hmi w0 w B hB hBg hb (by rw [ByteArray.size_extract]; omega) hm8 (by rw [ByteArray.size_extract]; omega)
  rw [header_get.ext2 s a b m hm hn, header_get.num_off s a m (by omega)] at h
  exact h
theorem header_get_uint32.off (g : Nat) (s : ByteArray) (a b m : Nat) (mi : Int) (hmi : mi = (m : Int)) (w0 w : World) (B : Nat) (hB : Below B w0 w) (hBg : B ≤ g) (hb : w.heap[g]? = some (.cells #[.string (s.extract a s.size)] 9 (0, 0))) (hm : a + m = b) (hn : b ≤ s.size) (hm8 : m ≤ 8) (hs : s.size ≤ 140737488355328) :
    Calls Try.prog 54 #[.pointer (some ⟨g, 0, none⟩), .int .i64 mi] w fun e w' => e = .returned (.int .u32 (header_get.num s a m % 4294967296)) ∧ w'.heap[g]? = some (.cells #[.string (s.extract b s.size)] 9 (0, 0)) ∧ KeepBut w w' g none ∧ Below B w0 w' := by
  have h := header_get_uint32.at_ g (s.extract a s.size) m mi hmi w0 w B hB hBg hb (by rw [ByteArray.size_extract]; omega) hm8 (by rw [ByteArray.size_extract]; omega)
  rw [header_get.ext2 s a b m hm hn, header_get.num_off s a m (by omega)] at h
  exact h
theorem header_get_uint64.off (g : Nat) (s : ByteArray) (a b m : Nat) (mi : Int) (hmi : mi = (m : Int)) (w0 w : World) (B : Nat) (hB : Below B w0 w) (hBg : B ≤ g) (hb : w.heap[g]? = some (.cells #[.string (s.extract a s.size)] 9 (0, 0))) (hm : a + m = b) (hn : b ≤ s.size) (hm8 : m ≤ 8) (hs : s.size ≤ 140737488355328) :
    Calls Try.prog 55 #[.pointer (some ⟨g, 0, none⟩), .int .i64 mi] w fun e w' => e = .returned (.int .u64 (header_get.num s a m)) ∧ w'.heap[g]? = some (.cells #[.string (s.extract b s.size)] 9 (0, 0)) ∧ KeepBut w w' g none ∧ Below B w0 w' := by
  have h := header_get_uint64.at_ g (s.extract a s.size) m mi hmi w0 w B hB hBg hb (by rw [ByteArray.size_extract]; omega) hm8 (by rw [ByteArray.size_extract]; omega)
  rw [header_get.ext2 s a b m hm hn, header_get.num_off s a m (by omega)] at h
  exact h
def header_Decode.sgn (c : Int) : Int := wrap64 (IntKind.i8.wrap (c % 256))
theorem header_Decode_1.off (g : Nat) (s : ByteArray) (a b : Nat) (w0 w : World) (B : Nat) (hB : Below B w0 w) (hBg : B ≤ g) (hb : w.heap[g]? = some (.cells #[.string (s.extract a s.size)] 9 (0, 0))) (hm : a + 1 = b) (hn : b ≤ s.size) (hs : s.size ≤ 140737488355328) :
    Calls Try.prog 52 #[.pointer (some ⟨g, 0, none⟩)] w fun e w' => e = .returned (.int .i64 (header_Decode.sgn (header_get.num s a 1))) ∧ w'.heap[g]? = some (.cells #[.string (s.extract b s.size)] 9 (0, 0)) ∧ KeepBut w w' g none ∧ Below B w0 w' := by
  have h := header_Decode_1.at_ g (s.extract a s.size) w0 w B hB hBg hb (by rw [ByteArray.size_extract]; omega) (by rw [ByteArray.size_extract]; omega)
  rw [header_get.ext2 s a b 1 hm hn, header_get.num_off s a 1 (by omega)] at h
  exact h
/-- Where the string is, the result and the header, and what was below is as it was. -/
structure header_Decode.St (s : ByteArray) (w0 w : World) (g gh : Nat) (a : Nat) (t : TypeId) (zs cs : Array Value) : Prop where
  str : w.heap[g]? = some (.cells #[.string (s.extract a s.size)] 9 (0, 0))
  res : w.heap[g + 1]? = some (.cells zs t (0, 0))
  hdr : w.heap[gh]? = some (.cells cs t (0, 0))
  far : g + 1 < gh
  bel : Below g w0 w
theorem header_Decode.St.next {s : ByteArray} {w0 w w1 : World} {g gh a b : Nat} {t : TypeId} {zs cs : Array Value} (h : header_Decode.St s w0 w g gh a t zs cs) (h1 : w1.heap[g]? = some (.cells #[.string (s.extract b s.size)] 9 (0, 0))) (hk : KeepBut w w1 g none) (hb : Below g w0 w1) : header_Decode.St s w0 w1 g gh b t zs cs :=
  ⟨h1, hk.blk h.res (by omega) (by simp), hk.blk h.hdr (by have := h.far; omega) (by simp), h.far, hb⟩
theorem header_Decode.St.put {s : ByteArray} {w0 w : World} {g gh a : Nat} {t : TypeId} {zs cs cs' : Array Value} (h : header_Decode.St s w0 w g gh a t zs cs) (i : Nat) (u : Value) (e : cs.setIfInBounds i u = cs') : header_Decode.St s w0 (w.setCell ⟨gh, i, none⟩ u) g gh a t zs cs' :=
  ⟨blk_far h.str (by show g ≠ gh; have := h.far; omega) u, blk_far h.res (by show g + 1 ≠ gh; have := h.far; omega) u, blk_put h.hdr i u e, h.far, Below.setCell h.bel (by show g ≤ gh; have := h.far; omega) u⟩
theorem header_Decode.St.new {s : ByteArray} {w0 w : World} {g gh a : Nat} {t : TypeId} {zs cs : Array Value} (h : header_Decode.St s w0 w g gh a t zs cs) (o : Obj) : header_Decode.St s w0 (w.alloc o) g gh a t zs cs :=
  ⟨blk_alloc h.str o, blk_alloc h.res o, blk_alloc h.hdr o, h.far, Below.alloc h.bel (Nat.le_of_lt (blk_lt h.str)) o⟩
theorem header_Decode.St.below {s : ByteArray} {w0 w w1 : World} {g gh a : Nat} {t : TypeId} {zs cs : Array Value} (h : header_Decode.St s w0 w g gh a t zs cs) (hb : Below w.heap.size w w1) : header_Decode.St s w0 w1 g gh a t zs cs :=
  ⟨blk_below h.str hb, blk_below h.res hb, blk_below h.hdr hb, h.far, below_then h.bel (Nat.le_of_lt (blk_lt h.str)) hb⟩
theorem header_Decode.St.drew {s : ByteArray} {w0 w : World} {g gh a : Nat} {t : TypeId} {zs cs : Array Value} (h : header_Decode.St s w0 w g gh a t zs cs) : header_Decode.St s w0 w.drew g gh a t zs cs := ⟨h.str, h.res, h.hdr, h.far, below_drew h.bel⟩
theorem header_Decode.St.fill {s : ByteArray} {w0 w : World} {g gh a : Nat} {t : TypeId} {zs cs : Array Value} (h : header_Decode.St s w0 w g gh a t zs cs) (cs' : Array Value) (_ : cs' = cs) : header_Decode.St s w0 (w.setRow (g + 1) cs') g gh a t cs' cs :=
  ⟨(setRow_other w (g + 1) g cs' (by omega)).trans h.str, setRow_heap w (g + 1) zs cs' t (0, 0) h.res, (setRow_other w (g + 1) gh cs' (by have := h.far; omega)).trans h.hdr, h.far, ⟨h.bel.os, h.bel.tape, h.bel.output, by rw [setRow_size]; exact h.bel.size, fun k hk => (setRow_other w (g + 1) k cs' (by omega)).trans (h.bel.block k hk)⟩⟩
/-- A string is loaded. -/
theorem header_Decode.ld {P : Program} {o : Oper} {a : Act} {w : World} {K : Act → World → Prop} {Q : Exit → Act → World → Prop} (ty : TypeId) (x : Operand) (ho : o.op = .load ty x) (p : Addr) (v : Value)
    (hx : a.eval x = .pointer (some p)) (hu : P.underlying ty = some .string) (hc : w.cell? p = some v) (h : K (a.put o.dst v) w) : o.wp P a w K Q := by
  have hagg : (isAgg ty).run P w = .ok false w := by
    unfold isAgg
    rw [Sem.run_bind, run_underlying hu w]
    rfl
  have hld : (loadVar ty p).run P w = .ok v w := by
    simp [loadVar, Sem.run_bind, hagg, hc, go_sem]
  unfold Oper.wp execOp
  simp only [ho, hx, Instr.loadAt, Instr.sureAddr, Sem.run_bind, Sem.run_pure, Result.andThen_ok, hld]
  exact h
theorem header_Decode.St.init {s : ByteArray} {w0 w : World} {g a : Nat} {t : TypeId} {zs : Array Value} (h1 : w.heap[g]? = some (.cells #[.string (s.extract a s.size)] 9 (0, 0))) (h2 : w.heap[g + 1]? = some (.cells zs t (0, 0))) (hb : Below g w0 w) (cs : Array Value) : header_Decode.St s w0 (w.alloc (.cells cs t (0, 0))) g w.heap.size a t zs cs :=
  ⟨blk_alloc h1 _, blk_alloc h2 _, blk_new _ _, blk_lt h2, Below.alloc hb (Nat.le_of_lt (blk_lt h1)) _⟩
def header_Decode.zs : Array Value := #[.int .i64 0, .int .i64 0, .int .i64 0, .int .i64 0, .int .i64 0, .int .i64 0, .int .u32 0, .int .u32 0, .int .u32 0, .int .u64 0, .int .u64 0, .int .u64 0, .int .u64 0]
theorem header_Decode.two (w : World) (o1 o2 : Obj) : ((w.alloc o1).alloc o2).heap[w.heap.size + 1]? = some o2 := by
  have h := blk_new (w.alloc o1) o2
  have e : (w.alloc o1).heap.size = w.heap.size + 1 := Array.size_push _
  rw [e] at h
  exact h
theorem header_Decode.bel2 (w : World) (o1 o2 : Obj) : Below w.heap.size w ((w.alloc o1).alloc o2) := below_alloc (below_alloc (Below.refl _ _) _) _
def header_Decode.RowAt (w : World) (gp gh : Nat) (t : TypeId) (l : List Nat) : Prop := w.heap[gp]? = some (.cells (l.map fun i => Value.pointer (some ⟨gh, i, none⟩)).toArray t (0, 0))
def header_Decode.ok (s : ByteArray) : Bool := header_May.ok (header_get.num s 0 1 % 256 / 64) (header_get.num s 0 1 % 256 / 8 % 8) (header_get.num s 0 1 % 8) (header_get.num s 1 1 % 256) (header_Decode.sgn (header_get.num s 2 1)) (header_Decode.sgn (header_get.num s 3 1))
def header_Decode.end_ (s : ByteArray) : Ending := if header_May.ok (header_get.num s 0 1 % 256 / 64) (header_get.num s 0 1 % 256 / 8 % 8) (header_get.num s 0 1 % 8) (header_get.num s 1 1 % 256) (header_Decode.sgn (header_get.num s 2 1)) (header_Decode.sgn (header_get.num s 3 1)) = true then .returned (.tuple #[.agg #[.int .i64 (header_get.num s 0 1 % 256 / 64), .int .i64 (header_get.num s 0 1 % 256 / 8 % 8), .int .i64 (header_get.num s 0 1 % 8), .int .i64 (header_get.num s 1 1 % 256), .int .i64 (header_Decode.sgn (header_get.num s 2 1)), .int .i64 (header_Decode.sgn (header_get.num s 3 1)), .int .u32 (header_get.num s 4 4 % 4294967296), .int .u32 (header_get.num s 8 4 % 4294967296), .int .u32 (header_get.num s 12 4 % 4294967296), .int .u64 (header_get.num s 16 8), .int .u64 (header_get.num s 24 8), .int .u64 (header_get.num s 32 8), .int .u64 (header_get.num s 40 8)], .string (s.extract 48 s.size), .int .i64 0]) else .returned (.tuple #[.agg #[.int .i64 0, .int .i64 0, .int .i64 0, .int .i64 0, .int .i64 0, .int .i64 0, .int .u32 0, .int .u32 0, .int .u32 0, .int .u64 0, .int .u64 0, .int .u64 0, .int .u64 0], .string ⟨#[]⟩, .int .i64 51])
set_option maxHeartbeats 16000000 in
set_option maxRecDepth 100000 in
theorem header_Decode.long_ (s : ByteArray) (w : World) (hs : s.size ≤ 140737488355328) (hl : 48 ≤ s.size) :
    Calls Try.prog 34 #[.string s] w fun e w' => e = header_Decode.end_ s ∧ Below w.heap.size w w' := by
  have hmf : ∀ (fn : Fn) (first cap : Array Value) (w : World), (Instr.makeFunc fn first cap).run Try.prog w = .ok (.func fn first cap) w := fun _ _ _ _ => rfl
  have HN := Aside0.mk (show s.size ≤ 140737488355328 ∧ 48 ≤ s.size from ⟨hs, hl⟩)
  have HE := Aside0.mk (show s.extract 0 s.size = s from ByteArray.extract_zero_size)
  clear hs
  go_enter Try.func34, Try.ntmps34
  go_wp2_with (first | (go_at_call 53; (with_reducible refine (header_get_uint8.off w.heap.size s 0 1 1 1 rfl w _ w.heap.size (header_Decode.bel2 w _ _) (Nat.le_refl _) (by rw [HE.out]; exact blk_alloc (blk_new w _) _) rfl (by have := HN.out; omega) (by decide) HN.out.1).mono ?_); rintro e w1 ⟨rfl, h1, h2, h3⟩; have H1 := Aside0.mk h1; have H2 := Aside0.mk (show w1.heap[w.heap.size + 1]? = some (.cells header_Decode.zs 42 (0, 0)) from h2.blk (header_Decode.two w _ _) (by omega) (by simp)); have H3 := Aside0.mk h3; clear h1 h2 h3))
  have hst := header_Decode.St.init (s := s) (a := 1) H1.out H2.out H3.out #[.int .i64 (header_get.num s 0 1 % 256 / 64), .int .i64 (header_get.num s 0 1 % 256 / 8 % 8), .int .i64 (header_get.num s 0 1 % 8), .int .i64 0, .int .i64 0, .int .i64 0, .int .u32 0, .int .u32 0, .int .u32 0, .int .u64 0, .int .u64 0, .int .u64 0, .int .u64 0]
  generalize w1.alloc _ = w2 at hst ⊢
  generalize w1.heap.size = gh at hst ⊢
  have HST := Aside0.mk hst
  clear hst H1 H2 H3
  (with_reducible refine (header_get_uint8.off w.heap.size s 1 2 1 1 rfl w _ w.heap.size HST.out.bel (Nat.le_refl _) HST.out.str rfl (by have := HN.out; omega) (by decide) HN.out.1).mono ?_)
  rintro e w3 ⟨rfl, h1, h2, h3⟩
  replace HST := Aside0.mk (HST.out.next h1 h2 h3)
  clear h1 h2 h3
  have f3 := blk_frozen HST.out.hdr 3
  have k3 := (blk_cell HST.out.hdr 3).trans (show _ = some (Value.int .i64 0) from rfl)
  go_wp2_with (first | (go_at_call 52; fail))
  replace HST := Aside0.mk (HST.out.put 3 (.int .i64 (header_get.num s 1 1 % 256)) (cs' := #[.int .i64 (header_get.num s 0 1 % 256 / 64), .int .i64 (header_get.num s 0 1 % 256 / 8 % 8), .int .i64 (header_get.num s 0 1 % 8), .int .i64 (header_get.num s 1 1 % 256), .int .i64 0, .int .i64 0, .int .u32 0, .int .u32 0, .int .u32 0, .int .u64 0, .int .u64 0, .int .u64 0, .int .u64 0]) rfl)
  clear f3 k3
  have hsz3 : (w3.setCell ⟨gh, 3, none⟩ (Value.int .i64 (header_get.num s 1 1 % 256))).heap.size = w3.heap.size := World.size_setCell _ _ _
  generalize w3.setCell _ _ = w4 at HST hsz3 ⊢
  clear hsz3
  (with_reducible refine (header_Decode_1.off w.heap.size s 2 3 w _ w.heap.size HST.out.bel (Nat.le_refl _) HST.out.str rfl (by have := HN.out; omega) HN.out.1).mono ?_)
  rintro e w5 ⟨rfl, h1, h2, h3⟩
  replace HST := Aside0.mk (HST.out.next h1 h2 h3)
  clear h1 h2 h3
  have f4 := blk_frozen HST.out.hdr 4
  have k4 := (blk_cell HST.out.hdr 4).trans (show _ = some (Value.int .i64 0) from rfl)
  go_wp2_with (first | (go_at_call 52; fail))
  replace HST := Aside0.mk (HST.out.put 4 (.int .i64 (header_Decode.sgn (header_get.num s 2 1))) (cs' := #[.int .i64 (header_get.num s 0 1 % 256 / 64), .int .i64 (header_get.num s 0 1 % 256 / 8 % 8), .int .i64 (header_get.num s 0 1 % 8), .int .i64 (header_get.num s 1 1 % 256), .int .i64 (header_Decode.sgn (header_get.num s 2 1)), .int .i64 0, .int .u32 0, .int .u32 0, .int .u32 0, .int .u64 0, .int .u64 0, .int .u64 0, .int .u64 0]) rfl)
  clear f4 k4
  have hsz4 : (w5.setCell ⟨gh, 4, none⟩ (Value.int .i64 (header_Decode.sgn (header_get.num s 2 1)))).heap.size = w5.heap.size := World.size_setCell _ _ _
  generalize w5.setCell _ _ = w6 at HST hsz4 ⊢
  clear hsz4
  (with_reducible refine (header_Decode_1.off w.heap.size s 3 4 w _ w.heap.size HST.out.bel (Nat.le_refl _) HST.out.str rfl (by have := HN.out; omega) HN.out.1).mono ?_)
  rintro e w7 ⟨rfl, h1, h2, h3⟩
  replace HST := Aside0.mk (HST.out.next h1 h2 h3)
  clear h1 h2 h3
  have f5 := blk_frozen HST.out.hdr 5
  have k5 := (blk_cell HST.out.hdr 5).trans (show _ = some (Value.int .i64 0) from rfl)
  go_wp2_with (first | (go_at_call 54; fail))
  replace HST := Aside0.mk (HST.out.put 5 (.int .i64 (header_Decode.sgn (header_get.num s 3 1))) (cs' := #[.int .i64 (header_get.num s 0 1 % 256 / 64), .int .i64 (header_get.num s 0 1 % 256 / 8 % 8), .int .i64 (header_get.num s 0 1 % 8), .int .i64 (header_get.num s 1 1 % 256), .int .i64 (header_Decode.sgn (header_get.num s 2 1)), .int .i64 (header_Decode.sgn (header_get.num s 3 1)), .int .u32 0, .int .u32 0, .int .u32 0, .int .u64 0, .int .u64 0, .int .u64 0, .int .u64 0]) rfl)
  clear f5 k5
  have hsz5 : (w7.setCell ⟨gh, 5, none⟩ (Value.int .i64 (header_Decode.sgn (header_get.num s 3 1)))).heap.size = w7.heap.size := World.size_setCell _ _ _
  generalize w7.setCell _ _ = w8 at HST hsz5 ⊢
  have hst1 := HST.out.new (.cells #[.pointer (some ⟨gh, 6, none⟩), .pointer (some ⟨gh, 7, none⟩), .pointer (some ⟨gh, 8, none⟩)] 75 (0, 0))
  have hrow1 := blk_new w8 (.cells #[.pointer (some ⟨gh, 6, none⟩), .pointer (some ⟨gh, 7, none⟩), .pointer (some ⟨gh, 8, none⟩)] 75 (0, 0))
  have hgp1 : gh < w8.heap.size := blk_lt HST.out.hdr
  generalize w8.alloc _ = wx1 at hst1 hrow1 ⊢
  rw [hsz5] at hrow1 hgp1
  clear hsz5
  generalize w7.heap.size = gp1 at hrow1 hgp1 ⊢
  replace HST := Aside0.mk hst1
  have HROW1 := Aside0.mk hrow1
  have HGP1 := Aside0.mk hgp1
  clear hst1 hrow1 hgp1
  go_loopg [43] 3 (fun gk i wr => ∃ c : Int, ∃ a : Nat, ∃ cs : Array Value, (c = 0 ∧ gk = 3 ∧ a = 4 ∧ cs = #[.int .i64 (header_get.num s 0 1 % 256 / 64), .int .i64 (header_get.num s 0 1 % 256 / 8 % 8), .int .i64 (header_get.num s 0 1 % 8), .int .i64 (header_get.num s 1 1 % 256), .int .i64 (header_Decode.sgn (header_get.num s 2 1)), .int .i64 (header_Decode.sgn (header_get.num s 3 1)), .int .u32 0, .int .u32 0, .int .u32 0, .int .u64 0, .int .u64 0, .int .u64 0, .int .u64 0] ∨ c = 1 ∧ gk = 2 ∧ a = 8 ∧ cs = #[.int .i64 (header_get.num s 0 1 % 256 / 64), .int .i64 (header_get.num s 0 1 % 256 / 8 % 8), .int .i64 (header_get.num s 0 1 % 8), .int .i64 (header_get.num s 1 1 % 256), .int .i64 (header_Decode.sgn (header_get.num s 2 1)), .int .i64 (header_Decode.sgn (header_get.num s 3 1)), .int .u32 (header_get.num s 4 4 % 4294967296), .int .u32 0, .int .u32 0, .int .u64 0, .int .u64 0, .int .u64 0, .int .u64 0] ∨ c = 2 ∧ gk = 1 ∧ a = 12 ∧ cs = #[.int .i64 (header_get.num s 0 1 % 256 / 64), .int .i64 (header_get.num s 0 1 % 256 / 8 % 8), .int .i64 (header_get.num s 0 1 % 8), .int .i64 (header_get.num s 1 1 % 256), .int .i64 (header_Decode.sgn (header_get.num s 2 1)), .int .i64 (header_Decode.sgn (header_get.num s 3 1)), .int .u32 (header_get.num s 4 4 % 4294967296), .int .u32 (header_get.num s 8 4 % 4294967296), .int .u32 0, .int .u64 0, .int .u64 0, .int .u64 0, .int .u64 0] ∨ c = 3 ∧ gk = 0 ∧ a = 16 ∧ cs = #[.int .i64 (header_get.num s 0 1 % 256 / 64), .int .i64 (header_get.num s 0 1 % 256 / 8 % 8), .int .i64 (header_get.num s 0 1 % 8), .int .i64 (header_get.num s 1 1 % 256), .int .i64 (header_Decode.sgn (header_get.num s 2 1)), .int .i64 (header_Decode.sgn (header_get.num s 3 1)), .int .u32 (header_get.num s 4 4 % 4294967296), .int .u32 (header_get.num s 8 4 % 4294967296), .int .u32 (header_get.num s 12 4 % 4294967296), .int .u64 0, .int .u64 0, .int .u64 0, .int .u64 0]) ∧ i = .int .i64 c ∧ header_Decode.St s w wr w.heap.size gh a 42 header_Decode.zs cs ∧ wr.heap[gp1]? = some (.cells #[.pointer (some ⟨gh, 6, none⟩), .pointer (some ⟨gh, 7, none⟩), .pointer (some ⟨gh, 8, none⟩)] 75 (0, 0)))
  case atStart => exact ⟨0, 4, _, .inl ⟨rfl, rfl, rfl, rfl⟩, rfl, HST.out, HROW1.out⟩
  case round =>
    obtain ⟨c, a, cs, hc, rfl, hst, hrow⟩ := hrel
    clear HST HROW1
    have HST := Aside0.mk hst
    have HROW1 := Aside0.mk hrow
    clear hst hrow
    obtain ⟨wo, hwo⟩ : ∃ wo : World, wo = wr := ⟨_, rfl⟩
    rcases hc with ⟨rfl, rfl, rfl, rfl⟩ | ⟨rfl, rfl, rfl, rfl⟩ | ⟨rfl, rfl, rfl, rfl⟩ | ⟨rfl, rfl, rfl, rfl⟩
    · have kp := (blk_cell HROW1.out 0).trans (show _ = some (Value.pointer (some ⟨gh, 6, none⟩)) from rfl)
      go_wp2_with (first | (go_at_call 54; fail))
      (with_reducible refine (header_get_uint32.off w.heap.size s 4 8 4 4 rfl w _ w.heap.size HST.out.bel (Nat.le_refl _) HST.out.str rfl (by have := HN.out; omega) (by decide) HN.out.1).mono ?_)
      rintro e wn ⟨rfl, h1, h2, h3⟩
      replace HROW1 := Aside0.mk (h2.blk HROW1.out (by have := HGP1.out; have := HST.out.far; omega) (by simp))
      replace HST := Aside0.mk (HST.out.next h1 h2 h3)
      clear h1 h2 h3 kp
      have ff := blk_frozen HST.out.hdr 6
      have kk := (blk_cell HST.out.hdr 6).trans (show _ = some (Value.int .u32 0) from rfl)
      go_wp2
      have hst := HST.out.put 6 (.int .u32 (header_get.num s 4 4 % 4294967296)) (cs' := #[.int .i64 (header_get.num s 0 1 % 256 / 64), .int .i64 (header_get.num s 0 1 % 256 / 8 % 8), .int .i64 (header_get.num s 0 1 % 8), .int .i64 (header_get.num s 1 1 % 256), .int .i64 (header_Decode.sgn (header_get.num s 2 1)), .int .i64 (header_Decode.sgn (header_get.num s 3 1)), .int .u32 (header_get.num s 4 4 % 4294967296), .int .u32 0, .int .u32 0, .int .u64 0, .int .u64 0, .int .u64 0, .int .u64 0]) rfl
      have hrow := blk_far HROW1.out (p := ⟨gh, 6, none⟩) (by show gp1 ≠ gh; have := HGP1.out; omega) (.int .u32 (header_get.num s 4 4 % 4294967296))
      go_roundg 2
      case measure => omega
      case rel => exact ⟨1, 8, _, .inr (.inl ⟨rfl, rfl, rfl, rfl⟩), rfl, hst, hrow⟩
    · have kp := (blk_cell HROW1.out 1).trans (show _ = some (Value.pointer (some ⟨gh, 7, none⟩)) from rfl)
      go_wp2_with (first | (go_at_call 54; fail))
      (with_reducible refine (header_get_uint32.off w.heap.size s 8 12 4 4 rfl w _ w.heap.size HST.out.bel (Nat.le_refl _) HST.out.str rfl (by have := HN.out; omega) (by decide) HN.out.1).mono ?_)
      rintro e wn ⟨rfl, h1, h2, h3⟩
      replace HROW1 := Aside0.mk (h2.blk HROW1.out (by have := HGP1.out; have := HST.out.far; omega) (by simp))
      replace HST := Aside0.mk (HST.out.next h1 h2 h3)
      clear h1 h2 h3 kp
      have ff := blk_frozen HST.out.hdr 7
      have kk := (blk_cell HST.out.hdr 7).trans (show _ = some (Value.int .u32 0) from rfl)
      go_wp2
      have hst := HST.out.put 7 (.int .u32 (header_get.num s 8 4 % 4294967296)) (cs' := #[.int .i64 (header_get.num s 0 1 % 256 / 64), .int .i64 (header_get.num s 0 1 % 256 / 8 % 8), .int .i64 (header_get.num s 0 1 % 8), .int .i64 (header_get.num s 1 1 % 256), .int .i64 (header_Decode.sgn (header_get.num s 2 1)), .int .i64 (header_Decode.sgn (header_get.num s 3 1)), .int .u32 (header_get.num s 4 4 % 4294967296), .int .u32 (header_get.num s 8 4 % 4294967296), .int .u32 0, .int .u64 0, .int .u64 0, .int .u64 0, .int .u64 0]) rfl
      have hrow := blk_far HROW1.out (p := ⟨gh, 7, none⟩) (by show gp1 ≠ gh; have := HGP1.out; omega) (.int .u32 (header_get.num s 8 4 % 4294967296))
      go_roundg 1
      case measure => omega
      case rel => exact ⟨2, 12, _, .inr (.inr (.inl ⟨rfl, rfl, rfl, rfl⟩)), rfl, hst, hrow⟩
    · have kp := (blk_cell HROW1.out 2).trans (show _ = some (Value.pointer (some ⟨gh, 8, none⟩)) from rfl)
      go_wp2_with (first | (go_at_call 54; fail))
      (with_reducible refine (header_get_uint32.off w.heap.size s 12 16 4 4 rfl w _ w.heap.size HST.out.bel (Nat.le_refl _) HST.out.str rfl (by have := HN.out; omega) (by decide) HN.out.1).mono ?_)
      rintro e wn ⟨rfl, h1, h2, h3⟩
      replace HROW1 := Aside0.mk (h2.blk HROW1.out (by have := HGP1.out; have := HST.out.far; omega) (by simp))
      replace HST := Aside0.mk (HST.out.next h1 h2 h3)
      clear h1 h2 h3 kp
      have ff := blk_frozen HST.out.hdr 8
      have kk := (blk_cell HST.out.hdr 8).trans (show _ = some (Value.int .u32 0) from rfl)
      go_wp2
      have hst := HST.out.put 8 (.int .u32 (header_get.num s 12 4 % 4294967296)) (cs' := #[.int .i64 (header_get.num s 0 1 % 256 / 64), .int .i64 (header_get.num s 0 1 % 256 / 8 % 8), .int .i64 (header_get.num s 0 1 % 8), .int .i64 (header_get.num s 1 1 % 256), .int .i64 (header_Decode.sgn (header_get.num s 2 1)), .int .i64 (header_Decode.sgn (header_get.num s 3 1)), .int .u32 (header_get.num s 4 4 % 4294967296), .int .u32 (header_get.num s 8 4 % 4294967296), .int .u32 (header_get.num s 12 4 % 4294967296), .int .u64 0, .int .u64 0, .int .u64 0, .int .u64 0]) rfl
      have hrow := blk_far HROW1.out (p := ⟨gh, 8, none⟩) (by show gp1 ≠ gh; have := HGP1.out; omega) (.int .u32 (header_get.num s 12 4 % 4294967296))
      go_roundg 0
      case measure => omega
      case rel => exact ⟨3, 16, _, .inr (.inr (.inr (⟨rfl, rfl, rfl, rfl⟩))), rfl, hst, hrow⟩
    · clear HROW1 HGP1
      go_wp2
      have hst2 := HST.out.new (.cells #[.pointer (some ⟨gh, 9, none⟩), .pointer (some ⟨gh, 10, none⟩), .pointer (some ⟨gh, 11, none⟩), .pointer (some ⟨gh, 12, none⟩)] 78 (0, 0))
      have hrow2 := blk_new wr (.cells #[.pointer (some ⟨gh, 9, none⟩), .pointer (some ⟨gh, 10, none⟩), .pointer (some ⟨gh, 11, none⟩), .pointer (some ⟨gh, 12, none⟩)] 78 (0, 0))
      have hgp2 : gh < wr.heap.size := blk_lt HST.out.hdr
      generalize wr.alloc _ = wx2 at hst2 hrow2 ⊢
      generalize wr.heap.size = gp2 at hrow2 hgp2 ⊢
      replace HST := Aside0.mk hst2
      have HROW2 := Aside0.mk hrow2
      have HGP2 := Aside0.mk hgp2
      clear hst2 hrow2 hgp2
      go_loopg [57] 4 (fun gk i wr => ∃ c : Int, ∃ a : Nat, ∃ cs : Array Value, (c = 0 ∧ gk = 4 ∧ a = 16 ∧ cs = #[.int .i64 (header_get.num s 0 1 % 256 / 64), .int .i64 (header_get.num s 0 1 % 256 / 8 % 8), .int .i64 (header_get.num s 0 1 % 8), .int .i64 (header_get.num s 1 1 % 256), .int .i64 (header_Decode.sgn (header_get.num s 2 1)), .int .i64 (header_Decode.sgn (header_get.num s 3 1)), .int .u32 (header_get.num s 4 4 % 4294967296), .int .u32 (header_get.num s 8 4 % 4294967296), .int .u32 (header_get.num s 12 4 % 4294967296), .int .u64 0, .int .u64 0, .int .u64 0, .int .u64 0] ∨ c = 1 ∧ gk = 3 ∧ a = 24 ∧ cs = #[.int .i64 (header_get.num s 0 1 % 256 / 64), .int .i64 (header_get.num s 0 1 % 256 / 8 % 8), .int .i64 (header_get.num s 0 1 % 8), .int .i64 (header_get.num s 1 1 % 256), .int .i64 (header_Decode.sgn (header_get.num s 2 1)), .int .i64 (header_Decode.sgn (header_get.num s 3 1)), .int .u32 (header_get.num s 4 4 % 4294967296), .int .u32 (header_get.num s 8 4 % 4294967296), .int .u32 (header_get.num s 12 4 % 4294967296), .int .u64 (header_get.num s 16 8), .int .u64 0, .int .u64 0, .int .u64 0] ∨ c = 2 ∧ gk = 2 ∧ a = 32 ∧ cs = #[.int .i64 (header_get.num s 0 1 % 256 / 64), .int .i64 (header_get.num s 0 1 % 256 / 8 % 8), .int .i64 (header_get.num s 0 1 % 8), .int .i64 (header_get.num s 1 1 % 256), .int .i64 (header_Decode.sgn (header_get.num s 2 1)), .int .i64 (header_Decode.sgn (header_get.num s 3 1)), .int .u32 (header_get.num s 4 4 % 4294967296), .int .u32 (header_get.num s 8 4 % 4294967296), .int .u32 (header_get.num s 12 4 % 4294967296), .int .u64 (header_get.num s 16 8), .int .u64 (header_get.num s 24 8), .int .u64 0, .int .u64 0] ∨ c = 3 ∧ gk = 1 ∧ a = 40 ∧ cs = #[.int .i64 (header_get.num s 0 1 % 256 / 64), .int .i64 (header_get.num s 0 1 % 256 / 8 % 8), .int .i64 (header_get.num s 0 1 % 8), .int .i64 (header_get.num s 1 1 % 256), .int .i64 (header_Decode.sgn (header_get.num s 2 1)), .int .i64 (header_Decode.sgn (header_get.num s 3 1)), .int .u32 (header_get.num s 4 4 % 4294967296), .int .u32 (header_get.num s 8 4 % 4294967296), .int .u32 (header_get.num s 12 4 % 4294967296), .int .u64 (header_get.num s 16 8), .int .u64 (header_get.num s 24 8), .int .u64 (header_get.num s 32 8), .int .u64 0] ∨ c = 4 ∧ gk = 0 ∧ a = 48 ∧ cs = #[.int .i64 (header_get.num s 0 1 % 256 / 64), .int .i64 (header_get.num s 0 1 % 256 / 8 % 8), .int .i64 (header_get.num s 0 1 % 8), .int .i64 (header_get.num s 1 1 % 256), .int .i64 (header_Decode.sgn (header_get.num s 2 1)), .int .i64 (header_Decode.sgn (header_get.num s 3 1)), .int .u32 (header_get.num s 4 4 % 4294967296), .int .u32 (header_get.num s 8 4 % 4294967296), .int .u32 (header_get.num s 12 4 % 4294967296), .int .u64 (header_get.num s 16 8), .int .u64 (header_get.num s 24 8), .int .u64 (header_get.num s 32 8), .int .u64 (header_get.num s 40 8)]) ∧ i = .int .i64 c ∧ header_Decode.St s w wr w.heap.size gh a 42 header_Decode.zs cs ∧ wr.heap[gp2]? = some (.cells #[.pointer (some ⟨gh, 9, none⟩), .pointer (some ⟨gh, 10, none⟩), .pointer (some ⟨gh, 11, none⟩), .pointer (some ⟨gh, 12, none⟩)] 78 (0, 0)))
      case atStart => exact ⟨0, 16, _, .inl ⟨rfl, rfl, rfl, rfl⟩, rfl, HST.out, HROW2.out⟩
      case round =>
        obtain ⟨c, a, cs, hc, rfl, hst, hrow⟩ := hrel
        clear HST HROW2
        have HST := Aside0.mk hst
        have HROW2 := Aside0.mk hrow
        clear hst hrow
        obtain ⟨wo, hwo⟩ : ∃ wo : World, wo = wr := ⟨_, rfl⟩
        rcases hc with ⟨rfl, rfl, rfl, rfl⟩ | ⟨rfl, rfl, rfl, rfl⟩ | ⟨rfl, rfl, rfl, rfl⟩ | ⟨rfl, rfl, rfl, rfl⟩ | ⟨rfl, rfl, rfl, rfl⟩
        · have kp := (blk_cell HROW2.out 0).trans (show _ = some (Value.pointer (some ⟨gh, 9, none⟩)) from rfl)
          go_wp2_with (first | (go_at_call 55; fail))
          (with_reducible refine (header_get_uint64.off w.heap.size s 16 24 8 8 rfl w _ w.heap.size HST.out.bel (Nat.le_refl _) HST.out.str rfl (by have := HN.out; omega) (by decide) HN.out.1).mono ?_)
          rintro e wn ⟨rfl, h1, h2, h3⟩
          replace HROW2 := Aside0.mk (h2.blk HROW2.out (by have := HGP2.out; have := HST.out.far; omega) (by simp))
          replace HST := Aside0.mk (HST.out.next h1 h2 h3)
          clear h1 h2 h3 kp
          have ff := blk_frozen HST.out.hdr 9
          have kk := (blk_cell HST.out.hdr 9).trans (show _ = some (Value.int .u64 0) from rfl)
          go_wp2
          have hst := HST.out.put 9 (.int .u64 (header_get.num s 16 8)) (cs' := #[.int .i64 (header_get.num s 0 1 % 256 / 64), .int .i64 (header_get.num s 0 1 % 256 / 8 % 8), .int .i64 (header_get.num s 0 1 % 8), .int .i64 (header_get.num s 1 1 % 256), .int .i64 (header_Decode.sgn (header_get.num s 2 1)), .int .i64 (header_Decode.sgn (header_get.num s 3 1)), .int .u32 (header_get.num s 4 4 % 4294967296), .int .u32 (header_get.num s 8 4 % 4294967296), .int .u32 (header_get.num s 12 4 % 4294967296), .int .u64 (header_get.num s 16 8), .int .u64 0, .int .u64 0, .int .u64 0]) rfl
          have hrow := blk_far HROW2.out (p := ⟨gh, 9, none⟩) (by show gp2 ≠ gh; have := HGP2.out; omega) (.int .u64 (header_get.num s 16 8))
          go_roundg 3
          case measure => omega
          case rel => exact ⟨1, 24, _, .inr (.inl ⟨rfl, rfl, rfl, rfl⟩), rfl, hst, hrow⟩
        · have kp := (blk_cell HROW2.out 1).trans (show _ = some (Value.pointer (some ⟨gh, 10, none⟩)) from rfl)
          go_wp2_with (first | (go_at_call 55; fail))
          (with_reducible refine (header_get_uint64.off w.heap.size s 24 32 8 8 rfl w _ w.heap.size HST.out.bel (Nat.le_refl _) HST.out.str rfl (by have := HN.out; omega) (by decide) HN.out.1).mono ?_)
          rintro e wn ⟨rfl, h1, h2, h3⟩
          replace HROW2 := Aside0.mk (h2.blk HROW2.out (by have := HGP2.out; have := HST.out.far; omega) (by simp))
          replace HST := Aside0.mk (HST.out.next h1 h2 h3)
          clear h1 h2 h3 kp
          have ff := blk_frozen HST.out.hdr 10
          have kk := (blk_cell HST.out.hdr 10).trans (show _ = some (Value.int .u64 0) from rfl)
          go_wp2
          have hst := HST.out.put 10 (.int .u64 (header_get.num s 24 8)) (cs' := #[.int .i64 (header_get.num s 0 1 % 256 / 64), .int .i64 (header_get.num s 0 1 % 256 / 8 % 8), .int .i64 (header_get.num s 0 1 % 8), .int .i64 (header_get.num s 1 1 % 256), .int .i64 (header_Decode.sgn (header_get.num s 2 1)), .int .i64 (header_Decode.sgn (header_get.num s 3 1)), .int .u32 (header_get.num s 4 4 % 4294967296), .int .u32 (header_get.num s 8 4 % 4294967296), .int .u32 (header_get.num s 12 4 % 4294967296), .int .u64 (header_get.num s 16 8), .int .u64 (header_get.num s 24 8), .int .u64 0, .int .u64 0]) rfl
          have hrow := blk_far HROW2.out (p := ⟨gh, 10, none⟩) (by show gp2 ≠ gh; have := HGP2.out; omega) (.int .u64 (header_get.num s 24 8))
          go_roundg 2
          case measure => omega
          case rel => exact ⟨2, 32, _, .inr (.inr (.inl ⟨rfl, rfl, rfl, rfl⟩)), rfl, hst, hrow⟩
        · have kp := (blk_cell HROW2.out 2).trans (show _ = some (Value.pointer (some ⟨gh, 11, none⟩)) from rfl)
          go_wp2_with (first | (go_at_call 55; fail))
          (with_reducible refine (header_get_uint64.off w.heap.size s 32 40 8 8 rfl w _ w.heap.size HST.out.bel (Nat.le_refl _) HST.out.str rfl (by have := HN.out; omega) (by decide) HN.out.1).mono ?_)
          rintro e wn ⟨rfl, h1, h2, h3⟩
          replace HROW2 := Aside0.mk (h2.blk HROW2.out (by have := HGP2.out; have := HST.out.far; omega) (by simp))
          replace HST := Aside0.mk (HST.out.next h1 h2 h3)
          clear h1 h2 h3 kp
          have ff := blk_frozen HST.out.hdr 11
          have kk := (blk_cell HST.out.hdr 11).trans (show _ = some (Value.int .u64 0) from rfl)
          go_wp2
          have hst := HST.out.put 11 (.int .u64 (header_get.num s 32 8)) (cs' := #[.int .i64 (header_get.num s 0 1 % 256 / 64), .int .i64 (header_get.num s 0 1 % 256 / 8 % 8), .int .i64 (header_get.num s 0 1 % 8), .int .i64 (header_get.num s 1 1 % 256), .int .i64 (header_Decode.sgn (header_get.num s 2 1)), .int .i64 (header_Decode.sgn (header_get.num s 3 1)), .int .u32 (header_get.num s 4 4 % 4294967296), .int .u32 (header_get.num s 8 4 % 4294967296), .int .u32 (header_get.num s 12 4 % 4294967296), .int .u64 (header_get.num s 16 8), .int .u64 (header_get.num s 24 8), .int .u64 (header_get.num s 32 8), .int .u64 0]) rfl
          have hrow := blk_far HROW2.out (p := ⟨gh, 11, none⟩) (by show gp2 ≠ gh; have := HGP2.out; omega) (.int .u64 (header_get.num s 32 8))
          go_roundg 1
          case measure => omega
          case rel => exact ⟨3, 40, _, .inr (.inr (.inr (.inl ⟨rfl, rfl, rfl, rfl⟩))), rfl, hst, hrow⟩
        · have kp := (blk_cell HROW2.out 3).trans (show _ = some (Value.pointer (some ⟨gh, 12, none⟩)) from rfl)
          go_wp2_with (first | (go_at_call 55; fail))
          (with_reducible refine (header_get_uint64.off w.heap.size s 40 48 8 8 rfl w _ w.heap.size HST.out.bel (Nat.le_refl _) HST.out.str rfl (by have := HN.out; omega) (by decide) HN.out.1).mono ?_)
          rintro e wn ⟨rfl, h1, h2, h3⟩
          replace HROW2 := Aside0.mk (h2.blk HROW2.out (by have := HGP2.out; have := HST.out.far; omega) (by simp))
          replace HST := Aside0.mk (HST.out.next h1 h2 h3)
          clear h1 h2 h3 kp
          have ff := blk_frozen HST.out.hdr 12
          have kk := (blk_cell HST.out.hdr 12).trans (show _ = some (Value.int .u64 0) from rfl)
          go_wp2
          have hst := HST.out.put 12 (.int .u64 (header_get.num s 40 8)) (cs' := #[.int .i64 (header_get.num s 0 1 % 256 / 64), .int .i64 (header_get.num s 0 1 % 256 / 8 % 8), .int .i64 (header_get.num s 0 1 % 8), .int .i64 (header_get.num s 1 1 % 256), .int .i64 (header_Decode.sgn (header_get.num s 2 1)), .int .i64 (header_Decode.sgn (header_get.num s 3 1)), .int .u32 (header_get.num s 4 4 % 4294967296), .int .u32 (header_get.num s 8 4 % 4294967296), .int .u32 (header_get.num s 12 4 % 4294967296), .int .u64 (header_get.num s 16 8), .int .u64 (header_get.num s 24 8), .int .u64 (header_get.num s 32 8), .int .u64 (header_get.num s 40 8)]) rfl
          have hrow := blk_far HROW2.out (p := ⟨gh, 12, none⟩) (by show gp2 ≠ gh; have := HGP2.out; omega) (.int .u64 (header_get.num s 40 8))
          go_roundg 0
          case measure => omega
          case rel => exact ⟨4, 48, _, .inr (.inr (.inr (.inr (⟨rfl, rfl, rfl, rfl⟩)))), rfl, hst, hrow⟩
        · clear HROW2 HGP2
          have k0 := (blk_cell HST.out.hdr 0).trans (show _ = some (Value.int .i64 (header_get.num s 0 1 % 256 / 64)) from rfl)
          have k1 := (blk_cell HST.out.hdr 1).trans (show _ = some (Value.int .i64 (header_get.num s 0 1 % 256 / 8 % 8)) from rfl)
          have k2 := (blk_cell HST.out.hdr 2).trans (show _ = some (Value.int .i64 (header_get.num s 0 1 % 8)) from rfl)
          have k3 := (blk_cell HST.out.hdr 3).trans (show _ = some (Value.int .i64 (header_get.num s 1 1 % 256)) from rfl)
          have k4 := (blk_cell HST.out.hdr 4).trans (show _ = some (Value.int .i64 (header_Decode.sgn (header_get.num s 2 1))) from rfl)
          have k5 := (blk_cell HST.out.hdr 5).trans (show _ = some (Value.int .i64 (header_Decode.sgn (header_get.num s 3 1))) from rfl)
          have k6 := (blk_cell HST.out.hdr 6).trans (show _ = some (Value.int .u32 (header_get.num s 4 4 % 4294967296)) from rfl)
          have k7 := (blk_cell HST.out.hdr 7).trans (show _ = some (Value.int .u32 (header_get.num s 8 4 % 4294967296)) from rfl)
          have k8 := (blk_cell HST.out.hdr 8).trans (show _ = some (Value.int .u32 (header_get.num s 12 4 % 4294967296)) from rfl)
          have k9 := (blk_cell HST.out.hdr 9).trans (show _ = some (Value.int .u64 (header_get.num s 16 8)) from rfl)
          have k10 := (blk_cell HST.out.hdr 10).trans (show _ = some (Value.int .u64 (header_get.num s 24 8)) from rfl)
          have k11 := (blk_cell HST.out.hdr 11).trans (show _ = some (Value.int .u64 (header_get.num s 32 8)) from rfl)
          have k12 := (blk_cell HST.out.hdr 12).trans (show _ = some (Value.int .u64 (header_get.num s 40 8)) from rfl)
          go_wp2_with (first | (go_at_call 31; fail))
          have hm := header_May.calls (header_get.num s 0 1 % 256 / 64) (header_get.num s 0 1 % 256 / 8 % 8) (header_get.num s 0 1 % 8) (header_get.num s 1 1 % 256) (header_Decode.sgn (header_get.num s 2 1)) (header_Decode.sgn (header_get.num s 3 1)) (header_get.num s 4 4 % 4294967296) (header_get.num s 8 4 % 4294967296) (header_get.num s 12 4 % 4294967296) (header_get.num s 16 8) (header_get.num s 24 8) (header_get.num s 32 8) (header_get.num s 40 8) (header_May.ok (header_get.num s 0 1 % 256 / 64) (header_get.num s 0 1 % 256 / 8 % 8) (header_get.num s 0 1 % 8) (header_get.num s 1 1 % 256) (header_Decode.sgn (header_get.num s 2 1)) (header_Decode.sgn (header_get.num s 3 1))) wr rfl
          (with_reducible refine hm.mono ?_)
          rintro e wm ⟨rfl, hb⟩
          replace HST := Aside0.mk (HST.out.below hb)
          clear hm hb k0 k1 k2 k3 k4 k5 k6 k7 k8 k9 k10 k11 k12
          obtain ⟨ok, hok⟩ : ∃ b, header_May.ok (header_get.num s 0 1 % 256 / 64) (header_get.num s 0 1 % 256 / 8 % 8) (header_get.num s 0 1 % 8) (header_get.num s 1 1 % 256) (header_Decode.sgn (header_get.num s 2 1)) (header_Decode.sgn (header_get.num s 3 1)) = b := ⟨_, rfl⟩
          rw [hok]
          have HOK := Aside0.mk hok
          clear hok
          cases ok
          · have hu42 := Try.underlying42
            have k0 := (blk_cell HST.out.res 0).trans (show _ = some (Value.int .i64 0) from rfl)
            have f0 := blk_frozen HST.out.res 0
            have k1 := (blk_cell HST.out.res 1).trans (show _ = some (Value.int .i64 0) from rfl)
            have f1 := blk_frozen HST.out.res 1
            have k2 := (blk_cell HST.out.res 2).trans (show _ = some (Value.int .i64 0) from rfl)
            have f2 := blk_frozen HST.out.res 2
            have k3 := (blk_cell HST.out.res 3).trans (show _ = some (Value.int .i64 0) from rfl)
            have f3 := blk_frozen HST.out.res 3
            have k4 := (blk_cell HST.out.res 4).trans (show _ = some (Value.int .i64 0) from rfl)
            have f4 := blk_frozen HST.out.res 4
            have k5 := (blk_cell HST.out.res 5).trans (show _ = some (Value.int .i64 0) from rfl)
            have f5 := blk_frozen HST.out.res 5
            have k6 := (blk_cell HST.out.res 6).trans (show _ = some (Value.int .u32 0) from rfl)
            have f6 := blk_frozen HST.out.res 6
            have k7 := (blk_cell HST.out.res 7).trans (show _ = some (Value.int .u32 0) from rfl)
            have f7 := blk_frozen HST.out.res 7
            have k8 := (blk_cell HST.out.res 8).trans (show _ = some (Value.int .u32 0) from rfl)
            have f8 := blk_frozen HST.out.res 8
            have k9 := (blk_cell HST.out.res 9).trans (show _ = some (Value.int .u64 0) from rfl)
            have f9 := blk_frozen HST.out.res 9
            have k10 := (blk_cell HST.out.res 10).trans (show _ = some (Value.int .u64 0) from rfl)
            have f10 := blk_frozen HST.out.res 10
            have k11 := (blk_cell HST.out.res 11).trans (show _ = some (Value.int .u64 0) from rfl)
            have f11 := blk_frozen HST.out.res 11
            have k12 := (blk_cell HST.out.res 12).trans (show _ = some (Value.int .u64 0) from rfl)
            have f12 := blk_frozen HST.out.res 12
            go_wp2
            refine bodyPost_ret (results_ctt rfl _ _ (w.heap.size + 1) 42 #[.int .i64 0, .int .i64 0, .int .i64 0, .int .i64 0, .int .i64 0, .int .i64 0, .int .u32 0, .int .u32 0, .int .u32 0, .int .u64 0, .int .u64 0, .int .u64 0, .int .u64 0] (0, 0) _ rfl (by refine blk_put (cs := #[.int .i64 0, .int .i64 0, .int .i64 0, .int .i64 0, .int .i64 0, .int .i64 0, .int .u32 0, .int .u32 0, .int .u32 0, .int .u64 0, .int .u64 0, .int .u64 0, .int .u64 0]) ?_ 12 _ rfl; refine blk_put (cs := #[.int .i64 0, .int .i64 0, .int .i64 0, .int .i64 0, .int .i64 0, .int .i64 0, .int .u32 0, .int .u32 0, .int .u32 0, .int .u64 0, .int .u64 0, .int .u64 0, .int .u64 0]) ?_ 11 _ rfl; refine blk_put (cs := #[.int .i64 0, .int .i64 0, .int .i64 0, .int .i64 0, .int .i64 0, .int .i64 0, .int .u32 0, .int .u32 0, .int .u32 0, .int .u64 0, .int .u64 0, .int .u64 0, .int .u64 0]) ?_ 10 _ rfl; refine blk_put (cs := #[.int .i64 0, .int .i64 0, .int .i64 0, .int .i64 0, .int .i64 0, .int .i64 0, .int .u32 0, .int .u32 0, .int .u32 0, .int .u64 0, .int .u64 0, .int .u64 0, .int .u64 0]) ?_ 9 _ rfl; refine blk_put (cs := #[.int .i64 0, .int .i64 0, .int .i64 0, .int .i64 0, .int .i64 0, .int .i64 0, .int .u32 0, .int .u32 0, .int .u32 0, .int .u64 0, .int .u64 0, .int .u64 0, .int .u64 0]) ?_ 8 _ rfl; refine blk_put (cs := #[.int .i64 0, .int .i64 0, .int .i64 0, .int .i64 0, .int .i64 0, .int .i64 0, .int .u32 0, .int .u32 0, .int .u32 0, .int .u64 0, .int .u64 0, .int .u64 0, .int .u64 0]) ?_ 7 _ rfl; refine blk_put (cs := #[.int .i64 0, .int .i64 0, .int .i64 0, .int .i64 0, .int .i64 0, .int .i64 0, .int .u32 0, .int .u32 0, .int .u32 0, .int .u64 0, .int .u64 0, .int .u64 0, .int .u64 0]) ?_ 6 _ rfl; refine blk_put (cs := #[.int .i64 0, .int .i64 0, .int .i64 0, .int .i64 0, .int .i64 0, .int .i64 0, .int .u32 0, .int .u32 0, .int .u32 0, .int .u64 0, .int .u64 0, .int .u64 0, .int .u64 0]) ?_ 5 _ rfl; refine blk_put (cs := #[.int .i64 0, .int .i64 0, .int .i64 0, .int .i64 0, .int .i64 0, .int .i64 0, .int .u32 0, .int .u32 0, .int .u32 0, .int .u64 0, .int .u64 0, .int .u64 0, .int .u64 0]) ?_ 4 _ rfl; refine blk_put (cs := #[.int .i64 0, .int .i64 0, .int .i64 0, .int .i64 0, .int .i64 0, .int .i64 0, .int .u32 0, .int .u32 0, .int .u32 0, .int .u64 0, .int .u64 0, .int .u64 0, .int .u64 0]) ?_ 3 _ rfl; refine blk_put (cs := #[.int .i64 0, .int .i64 0, .int .i64 0, .int .i64 0, .int .i64 0, .int .i64 0, .int .u32 0, .int .u32 0, .int .u32 0, .int .u64 0, .int .u64 0, .int .u64 0, .int .u64 0]) ?_ 2 _ rfl; refine blk_put (cs := #[.int .i64 0, .int .i64 0, .int .i64 0, .int .i64 0, .int .i64 0, .int .i64 0, .int .u32 0, .int .u32 0, .int .u32 0, .int .u64 0, .int .u64 0, .int .u64 0, .int .u64 0]) ?_ 1 _ rfl; refine blk_put (cs := #[.int .i64 0, .int .i64 0, .int .i64 0, .int .i64 0, .int .i64 0, .int .i64 0, .int .u32 0, .int .u32 0, .int .u32 0, .int .u64 0, .int .u64 0, .int .u64 0, .int .u64 0]) ?_ 0 _ rfl; exact HST.out.res) Try.underlying42 rfl (by kernel_rfl)) rfl ?_
            refine ⟨?_, ?_⟩
            · unfold header_Decode.end_
              rw [HOK.out]
              rfl
            · iterate 13 refine Below.setCell ?_ (Nat.le_succ _) _
              exact HST.out.bel
          · have hu42 := Try.underlying42
            go_wp2
            have hst := HST.out.drew
            clear HST
            refine wp_region_any (by kernel_rfl) ?_
            change wpAny _ _ _ _ _ _ _ (World.drew _)
            generalize World.drew _ = wd at hst ⊢
            have hst2 := hst.fill #[.int .i64 (header_get.num s 0 1 % 256 / 64), .int .i64 (header_get.num s 0 1 % 256 / 8 % 8), .int .i64 (header_get.num s 0 1 % 8), .int .i64 (header_get.num s 1 1 % 256), .int .i64 (header_Decode.sgn (header_get.num s 2 1)), .int .i64 (header_Decode.sgn (header_get.num s 3 1)), .int .u32 (header_get.num s 4 4 % 4294967296), .int .u32 (header_get.num s 8 4 % 4294967296), .int .u32 (header_get.num s 12 4 % 4294967296), .int .u64 (header_get.num s 16 8), .int .u64 (header_get.num s 24 8), .int .u64 (header_get.num s 32 8), .int .u64 (header_get.num s 40 8)] rfl
            have c1 := (blk_cell hst.str 0).trans (show _ = some (Value.string (s.extract 48 s.size)) from rfl)
            have c2 := (blk_cell hst2.str 0).trans (show _ = some (Value.string (s.extract 48 s.size)) from rfl)
            refine wpAny_ready (rs := [0, 1]) (by kernel_rfl) (by simp) ?_
            refine BigFrame.allReady_want rfl rfl (fun K hK => ?_) (BigFrame.allReady_want rfl rfl (fun K hK => ?_) AllReady.nil)
            · skip
              refine wp_load_row 42 (.tmp 7) rfl gh rfl 42 _ (0, 0) _ hst.hdr hu42 rfl (by kernel_rfl) ?_
              refine hK _ _ ?_
              clear hK K
              refine wpAny_ready (rs := [1, 2]) (by kernel_rfl) (by simp) ?_
              refine BigFrame.allReady_want rfl rfl (fun K hK => ?_) (BigFrame.allReady_want rfl rfl (fun K hK => ?_) AllReady.nil)
              · skip
                refine header_Decode.ld 9 (.tmp 1) rfl _ _ rfl Try.underlying9 c1 ?_
                refine hK _ _ ?_
                clear hK K
                refine wpAny_ready (rs := [2]) (by kernel_rfl) (by simp) ?_
                refine BigFrame.allReady_want rfl rfl (fun K hK => ?_) AllReady.nil
                refine wp_store_row 42 (.tmp 2) (.tmp 69) rfl (w.heap.size + 1) #[.int .i64 (header_get.num s 0 1 % 256 / 64), .int .i64 (header_get.num s 0 1 % 256 / 8 % 8), .int .i64 (header_get.num s 0 1 % 8), .int .i64 (header_get.num s 1 1 % 256), .int .i64 (header_Decode.sgn (header_get.num s 2 1)), .int .i64 (header_Decode.sgn (header_get.num s 3 1)), .int .u32 (header_get.num s 4 4 % 4294967296), .int .u32 (header_get.num s 8 4 % 4294967296), .int .u32 (header_get.num s 12 4 % 4294967296), .int .u64 (header_get.num s 16 8), .int .u64 (header_get.num s 24 8), .int .u64 (header_get.num s 32 8), .int .u64 (header_get.num s 40 8)] rfl rfl 42 _ hst.res (by kernel_rfl) rfl (by kernel_rfl) ?_
                refine hK _ _ ?_
                clear hK K
                refine wpAny_ready (rs := [3]) (by kernel_rfl) (by simp) ?_
                refine BigFrame.allReady_want rfl rfl (fun K hK => ?_) AllReady.nil
                refine BigFrame.wp_assign _ rfl ?_
                refine hK _ _ ?_
                clear hK K
                refine wpAny_ready (rs := [4]) (by kernel_rfl) (by simp) ?_
                refine BigFrame.allReady_want rfl rfl (fun K hK => ?_) AllReady.nil
                refine BigFrame.wp_assign _ rfl ?_
                refine hK _ _ ?_
                clear hK K
                refine wpAny_done (by kernel_rfl) ?_ _
                go_wp2
                refine bodyPost_ret (results_ctt rfl _ _ (w.heap.size + 1) 42 #[.int .i64 (header_get.num s 0 1 % 256 / 64), .int .i64 (header_get.num s 0 1 % 256 / 8 % 8), .int .i64 (header_get.num s 0 1 % 8), .int .i64 (header_get.num s 1 1 % 256), .int .i64 (header_Decode.sgn (header_get.num s 2 1)), .int .i64 (header_Decode.sgn (header_get.num s 3 1)), .int .u32 (header_get.num s 4 4 % 4294967296), .int .u32 (header_get.num s 8 4 % 4294967296), .int .u32 (header_get.num s 12 4 % 4294967296), .int .u64 (header_get.num s 16 8), .int .u64 (header_get.num s 24 8), .int .u64 (header_get.num s 32 8), .int .u64 (header_get.num s 40 8)] (0, 0) _ rfl hst2.res Try.underlying42 rfl (by kernel_rfl)) rfl ?_
                refine ⟨?_, hst2.bel⟩
                unfold header_Decode.end_
                rw [HOK.out]
                rfl
              · skip
                refine wp_store_row 42 (.tmp 2) (.tmp 69) rfl (w.heap.size + 1) #[.int .i64 (header_get.num s 0 1 % 256 / 64), .int .i64 (header_get.num s 0 1 % 256 / 8 % 8), .int .i64 (header_get.num s 0 1 % 8), .int .i64 (header_get.num s 1 1 % 256), .int .i64 (header_Decode.sgn (header_get.num s 2 1)), .int .i64 (header_Decode.sgn (header_get.num s 3 1)), .int .u32 (header_get.num s 4 4 % 4294967296), .int .u32 (header_get.num s 8 4 % 4294967296), .int .u32 (header_get.num s 12 4 % 4294967296), .int .u64 (header_get.num s 16 8), .int .u64 (header_get.num s 24 8), .int .u64 (header_get.num s 32 8), .int .u64 (header_get.num s 40 8)] rfl rfl 42 _ hst.res (by kernel_rfl) rfl (by kernel_rfl) ?_
                refine hK _ _ ?_
                clear hK K
                refine wpAny_ready (rs := [1]) (by kernel_rfl) (by simp) ?_
                refine BigFrame.allReady_want rfl rfl (fun K hK => ?_) AllReady.nil
                refine header_Decode.ld 9 (.tmp 1) rfl _ _ rfl Try.underlying9 c2 ?_
                refine hK _ _ ?_
                clear hK K
                refine wpAny_ready (rs := [3]) (by kernel_rfl) (by simp) ?_
                refine BigFrame.allReady_want rfl rfl (fun K hK => ?_) AllReady.nil
                refine BigFrame.wp_assign _ rfl ?_
                refine hK _ _ ?_
                clear hK K
                refine wpAny_ready (rs := [4]) (by kernel_rfl) (by simp) ?_
                refine BigFrame.allReady_want rfl rfl (fun K hK => ?_) AllReady.nil
                refine BigFrame.wp_assign _ rfl ?_
                refine hK _ _ ?_
                clear hK K
                refine wpAny_done (by kernel_rfl) ?_ _
                go_wp2
                refine bodyPost_ret (results_ctt rfl _ _ (w.heap.size + 1) 42 #[.int .i64 (header_get.num s 0 1 % 256 / 64), .int .i64 (header_get.num s 0 1 % 256 / 8 % 8), .int .i64 (header_get.num s 0 1 % 8), .int .i64 (header_get.num s 1 1 % 256), .int .i64 (header_Decode.sgn (header_get.num s 2 1)), .int .i64 (header_Decode.sgn (header_get.num s 3 1)), .int .u32 (header_get.num s 4 4 % 4294967296), .int .u32 (header_get.num s 8 4 % 4294967296), .int .u32 (header_get.num s 12 4 % 4294967296), .int .u64 (header_get.num s 16 8), .int .u64 (header_get.num s 24 8), .int .u64 (header_get.num s 32 8), .int .u64 (header_get.num s 40 8)] (0, 0) _ rfl hst2.res Try.underlying42 rfl (by kernel_rfl)) rfl ?_
                refine ⟨?_, hst2.bel⟩
                unfold header_Decode.end_
                rw [HOK.out]
                rfl
            · skip
              refine header_Decode.ld 9 (.tmp 1) rfl _ _ rfl Try.underlying9 c1 ?_
              refine hK _ _ ?_
              clear hK K
              refine wpAny_ready (rs := [0]) (by kernel_rfl) (by simp) ?_
              refine BigFrame.allReady_want rfl rfl (fun K hK => ?_) AllReady.nil
              refine wp_load_row 42 (.tmp 7) rfl gh rfl 42 _ (0, 0) _ hst.hdr hu42 rfl (by kernel_rfl) ?_
              refine hK _ _ ?_
              clear hK K
              refine wpAny_ready (rs := [2]) (by kernel_rfl) (by simp) ?_
              refine BigFrame.allReady_want rfl rfl (fun K hK => ?_) AllReady.nil
              refine wp_store_row 42 (.tmp 2) (.tmp 69) rfl (w.heap.size + 1) #[.int .i64 (header_get.num s 0 1 % 256 / 64), .int .i64 (header_get.num s 0 1 % 256 / 8 % 8), .int .i64 (header_get.num s 0 1 % 8), .int .i64 (header_get.num s 1 1 % 256), .int .i64 (header_Decode.sgn (header_get.num s 2 1)), .int .i64 (header_Decode.sgn (header_get.num s 3 1)), .int .u32 (header_get.num s 4 4 % 4294967296), .int .u32 (header_get.num s 8 4 % 4294967296), .int .u32 (header_get.num s 12 4 % 4294967296), .int .u64 (header_get.num s 16 8), .int .u64 (header_get.num s 24 8), .int .u64 (header_get.num s 32 8), .int .u64 (header_get.num s 40 8)] rfl rfl 42 _ hst.res (by kernel_rfl) rfl (by kernel_rfl) ?_
              refine hK _ _ ?_
              clear hK K
              refine wpAny_ready (rs := [3]) (by kernel_rfl) (by simp) ?_
              refine BigFrame.allReady_want rfl rfl (fun K hK => ?_) AllReady.nil
              refine BigFrame.wp_assign _ rfl ?_
              refine hK _ _ ?_
              clear hK K
              refine wpAny_ready (rs := [4]) (by kernel_rfl) (by simp) ?_
              refine BigFrame.allReady_want rfl rfl (fun K hK => ?_) AllReady.nil
              refine BigFrame.wp_assign _ rfl ?_
              refine hK _ _ ?_
              clear hK K
              refine wpAny_done (by kernel_rfl) ?_ _
              go_wp2
              refine bodyPost_ret (results_ctt rfl _ _ (w.heap.size + 1) 42 #[.int .i64 (header_get.num s 0 1 % 256 / 64), .int .i64 (header_get.num s 0 1 % 256 / 8 % 8), .int .i64 (header_get.num s 0 1 % 8), .int .i64 (header_get.num s 1 1 % 256), .int .i64 (header_Decode.sgn (header_get.num s 2 1)), .int .i64 (header_Decode.sgn (header_get.num s 3 1)), .int .u32 (header_get.num s 4 4 % 4294967296), .int .u32 (header_get.num s 8 4 % 4294967296), .int .u32 (header_get.num s 12 4 % 4294967296), .int .u64 (header_get.num s 16 8), .int .u64 (header_get.num s 24 8), .int .u64 (header_get.num s 32 8), .int .u64 (header_get.num s 40 8)] (0, 0) _ rfl hst2.res Try.underlying42 rfl (by kernel_rfl)) rfl ?_
              refine ⟨?_, hst2.bel⟩
              unfold header_Decode.end_
              rw [HOK.out]
              rfl
def header_Decode.f (a0 : ByteArray) : Option (Int × Int × Int × Int × Int × Int × Int × Int × Int × Int × Int × Int × Int × ByteArray × Int) :=
  if a0.size < 48 then some (0, 0, 0, 0, 0, 0, 0, 0, 0, 0, 0, 0, 0, (⟨#[]⟩ : ByteArray), 50) else if a0.size ≤ 140737488355328 then
  (if header_Decode.ok a0 = true then some ((header_get.num a0 0 1 % 256 / 64), (header_get.num a0 0 1 % 256 / 8 % 8), (header_get.num a0 0 1 % 8), (header_get.num a0 1 1 % 256), (header_Decode.sgn (header_get.num a0 2 1)), (header_Decode.sgn (header_get.num a0 3 1)), (header_get.num a0 4 4 % 4294967296), (header_get.num a0 8 4 % 4294967296), (header_get.num a0 12 4 % 4294967296), (header_get.num a0 16 8), (header_get.num a0 24 8), (header_get.num a0 32 8), (header_get.num a0 40 8), a0.extract 48 a0.size, 0) else some (0, 0, 0, 0, 0, 0, 0, 0, 0, 0, 0, 0, 0, (⟨#[]⟩ : ByteArray), 51)) else none
set_option maxHeartbeats 16000000 in
set_option maxRecDepth 100000 in
theorem header_Decode.short_ (s : ByteArray) (w : World) (hl : s.size < 48) :
    Calls Try.prog 34 #[.string s] w fun e w' => e = .returned (.tuple #[.agg #[.int .i64 0, .int .i64 0, .int .i64 0, .int .i64 0, .int .i64 0, .int .i64 0, .int .u32 0, .int .u32 0, .int .u32 0, .int .u64 0, .int .u64 0, .int .u64 0, .int .u64 0], .string ⟨#[]⟩, .int .i64 50]) ∧ Below w.heap.size w w' := by
  go_enter Try.func34, Try.ntmps34
  go_wp2
  refine bodyPost_ret (results_ctt rfl _ _ (w.heap.size + 1) 42 #[.int .i64 0, .int .i64 0, .int .i64 0, .int .i64 0, .int .i64 0, .int .i64 0, .int .u32 0, .int .u32 0, .int .u32 0, .int .u64 0, .int .u64 0, .int .u64 0, .int .u64 0] (0, 0) _ rfl (header_Decode.two w _ _) Try.underlying42 rfl (by kernel_rfl)) rfl ?_
  exact ⟨rfl, header_Decode.bel2 w _ _⟩
theorem header_Decode.calls (a0 : ByteArray) (r1 : Int) (r2 : Int) (r3 : Int) (r4 : Int) (r5 : Int) (r6 : Int) (r7 : Int) (r8 : Int) (r9 : Int) (r10 : Int) (r11 : Int) (r12 : Int) (r13 : Int) (r14 : ByteArray) (r15 : Int) (w : World) (h : header_Decode.f a0 = some (r1, r2, r3, r4, r5, r6, r7, r8, r9, r10, r11, r12, r13, r14, r15)) :
    Calls Try.prog 34 #[.string a0] w fun e w' => e = .returned (.tuple #[.agg #[.int .i64 r1, .int .i64 r2, .int .i64 r3, .int .i64 r4, .int .i64 r5, .int .i64 r6, .int .u32 r7, .int .u32 r8, .int .u32 r9, .int .u64 r10, .int .u64 r11, .int .u64 r12, .int .u64 r13], .string r14, .int .i64 r15]) ∧ Below w.heap.size w w' := by
  unfold header_Decode.f at h
  by_cases c : a0.size < 48
  · rw [if_pos c] at h
    simp only [Option.some.injEq, Prod.mk.injEq] at h
    obtain ⟨rfl, rfl, rfl, rfl, rfl, rfl, rfl, rfl, rfl, rfl, rfl, rfl, rfl, rfl, rfl⟩ := h
    exact header_Decode.short_ a0 w c
  · rw [if_neg c] at h
    by_cases d : a0.size ≤ 140737488355328
    · rw [if_pos d] at h
      have hc := header_Decode.long_ a0 w d (by omega)
      unfold header_Decode.end_ at hc
      change (if header_May.ok (header_get.num a0 0 1 % 256 / 64) (header_get.num a0 0 1 % 256 / 8 % 8) (header_get.num a0 0 1 % 8) (header_get.num a0 1 1 % 256) (header_Decode.sgn (header_get.num a0 2 1)) (header_Decode.sgn (header_get.num a0 3 1)) = true then _ else _) = _ at h
      by_cases o : header_May.ok (header_get.num a0 0 1 % 256 / 64) (header_get.num a0 0 1 % 256 / 8 % 8) (header_get.num a0 0 1 % 8) (header_get.num a0 1 1 % 256) (header_Decode.sgn (header_get.num a0 2 1)) (header_Decode.sgn (header_get.num a0 3 1)) = true
      · rw [if_pos o] at h hc
        simp only [Option.some.injEq, Prod.mk.injEq] at h
        obtain ⟨rfl, rfl, rfl, rfl, rfl, rfl, rfl, rfl, rfl, rfl, rfl, rfl, rfl, rfl, rfl⟩ := h
        exact hc
      · rw [if_neg o] at h hc
        simp only [Option.some.injEq, Prod.mk.injEq] at h
        obtain ⟨rfl, rfl, rfl, rfl, rfl, rfl, rfl, rfl, rfl, rfl, rfl, rfl, rfl, rfl, rfl⟩ := h
        exact hc
    · rw [if_neg d] at h
      cases h

end Go.Proofs.Ytilbkdlbbnkgdaa.MHeader
