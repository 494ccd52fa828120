/- Functions that the statements of this seat reach, each as a plain Lean function, with a proof that the Go code comes to its answers; no condition. -/
import Derived.Test.YtlbelgdcicholaaMExtx0
namespace Go.Proofs.Ytlbelgdcicholaa.MExt
open Go.RowKit Go.Proofs.YtlbelgdcicholaaW.PrintWords Go.Proofs.YtlbelgdcicholaaW.PrintLast Go.Proofs.YtlbelgdcicholaaW.PrintMore
attribute [local go_sem] max2_int min2_int max_two min_two max_three min_three max_four min_four   -- for this text's walks alone
set_option linter.unusedVariables false
set_option linter.unusedSimpArgs false

/-- The number of m bytes of s from o on, the first one highest. -/
def header_get.num (s : ByteArray) (o : Nat) : Nat → Int
  | 0 => 0
  | m + 1 => header_get.num s o m * 256 + bt s ((o + m : Nat) : Int)
theorem header_get.num_bd (s : ByteArray) (o : Nat) (m : Nat) : 0 ≤ header_get.num s o m ∧ header_get.num s o m < 256 ^ m := by
  induction m with
  | zero => exact ⟨Int.le_refl 0, by simp [header_get.num]⟩
  | succ m ih =>
    have b := bt_range s ((o + m : Nat) : Int)
    have e : (256 : Int) ^ (m + 1) = 256 ^ m * 256 := Int.pow_succ _ _
    simp only [header_get.num]
    omega
theorem header_get.num_56 (s : ByteArray) (o : Nat) (m : Nat) (h : m ≤ 7) : 0 ≤ header_get.num s o m ∧ header_get.num s o m < 72057594037927936 := by
  have b := header_get.num_bd s o m
  have p : (256 : Nat) ^ m ≤ 256 ^ 7 := Nat.pow_le_pow_right (by decide) h
  have q : ((256 : Int) ^ m) = ((256 ^ m : Nat) : Int) := by simp
  rw [q] at b
  have r : (256 : Nat) ^ 7 = 72057594037927936 := by decide
  omega
theorem header_get.or_ (x y : Int) (h0 : 0 ≤ x) (h1 : x < 72057594037927936) (h2 : 0 ≤ y) (h3 : y ≤ 255) : Go.bits .or .u64 (x * 256) y = x * 256 + y :=
  bits_join .u64 64 (by decide) (fun n q0 q1 => by rw [IntKind.wrap_u64]; omega) 8 _ _ (by omega) (by omega) (by omega) (by omega) (by omega) (by omega)
theorem header_get.bt_ex (s : ByteArray) (m j : Nat) (hj : j < m) (hm : m ≤ s.size) : bt (s.extract 0 m) (j : Int) = bt s (j : Int) := by
  unfold bt
  rw [Int.toNat_natCast, dif_pos (by rw [ByteArray.size_extract]; omega), dif_pos (by omega)]
  simp [ByteArray.getElem_extract]
/-! ### header_get_uint32: function 57 -/
set_option maxHeartbeats 16000000 in
set_option maxRecDepth 100000 in
theorem header_get_uint32.at_ (g : Nat) (s : ByteArray) (m : Nat) (mi : Int) (hmi : mi = (m : Int)) (w0 w : World) (B : Nat) (hB : Below B w0 w) (hBg : B ≤ g) (hb : w.heap[g]? = some (.cells #[.string s] 9 (0, 0))) (hm : m ≤ s.size) (hm8 : m ≤ 8) (hs : s.size ≤ 140737488355328) :
    Calls Try.prog 57 #[.pointer (some ⟨g, 0, none⟩), .int .i64 mi] w fun e w' => e = .returned (.int .u32 (header_get.num s 0 m % 4294967296)) ∧ w'.heap[g]? = some (.cells #[.string (s.extract m s.size)] 9 (0, 0)) ∧ KeepBut w w' g none ∧ Below B w0 w' := by
  subst hmi
  have HB := Aside0.mk hB
  have HBG := Aside0.mk hBg
  have HG := Aside0.mk hb
  have cg := (blk_cell hb 0).trans (show _ = some (Value.string s) from rfl)
  have hsz : (s.extract 0 m).size = m := by rw [ByteArray.size_extract]; omega
  have kc := fun (W : World) => print_bytes (P := Try.prog) 9 67 5 Try.underlying9 Try.underlying67 Try.underlying5 (s.extract 0 m) W
  rw [hsz] at kc
  have HS := Aside0.mk hsz
  have hmi : (m : Int) ≤ (s.size : Int) := by omega
  clear hB hBg hb hsz
  go_enter Try.func57, Try.ntmps57
  go_wp2
  have hbel : Below B w0 (Lib.bytesWorld w 5 (s.extract 0 m)) := bytes_below HB.out (by have := blk_lt HG.out; have := HBG.out; omega) _ _
  have hkeep : KeepBut w (Lib.bytesWorld w 5 (s.extract 0 m)) g none := KeepBut.of_below (bytes_below (Below.refl _ _) (Nat.le_refl _) _ _) g none
  have hrd := bytes_reads w 5 (s.extract 0 m) (by rw [HS.out]; omega)
  have hgb : (Lib.bytesWorld w 5 (s.extract 0 m)).heap[g]? = some (.cells #[.string s] 9 (0, 0)) := (Lib.bytesWorld_at_old w _ _ g (blk_lt HG.out)).trans HG.out
  have hbl : w.heap.size < (Lib.bytesWorld w 5 (s.extract 0 m)).heap.size := by rw [Lib.bytesWorld_size]; omega
  have hgl : g < w.heap.size := blk_lt HG.out
  generalize Lib.bytesWorld w 5 (s.extract 0 m) = wb at hbel hkeep hrd hgb hbl ⊢
  have HBEL := Aside0.mk hbel
  have HKEEP := Aside0.mk hkeep
  have HRD := Aside0.mk hrd
  have HGB := Aside0.mk hgb
  clear hbel hkeep hrd hgb kc cg
  have HGL := Aside0.mk hgl
  have HBL := Aside0.mk hbl
  clear hgl hbl
  go_loopg [5, 15] m (fun gk v i wr => ∃ j : Nat, j ≤ m ∧ gk = m - j ∧ i = .int .i64 j ∧ v = .int .u64 (header_get.num s 0 j) ∧ wr = wb)
  case atStart => exact ⟨0, by omega, by omega, rfl, rfl, rfl⟩
  case round =>
    obtain ⟨j, hj, hg, rfl, rfl, rfl⟩ := hrel
    have HG2 := Aside0.mk hg
    clear hg
    by_cases hlt : j < m
    · have hn := header_get.num_56 s 0 j (by omega)
      have hc := bt_range s (j : Int)
      obtain ⟨ad, ead, hx⟩ := HRD.out.at_ (j : Int) (by omega) (by rw [HS.out]; omega)
      rw [rd_bytesOf, header_get.bt_ex s m j hlt hm, Int.toNat_natCast] at hx
      obtain rfl : (⟨w.heap.size, 0, none⟩ : Addr) = ad := Option.some.inj ead
      rw [add_plain] at hx
      obtain ⟨c, hcc⟩ : ∃ c, bt s (j : Int) = c := ⟨_, rfl⟩
      obtain ⟨n, hnn⟩ : ∃ n, header_get.num s 0 j = n := ⟨_, rfl⟩
      have hnx : header_get.num s 0 (j + 1) = n * 256 + c := by
        simp only [header_get.num]
        rw [hnn, Nat.zero_add, hcc]
      rw [hcc] at hx hc
      rw [hnn] at hn ⊢
      have w1 : IntKind.u64.wrap (n * 256) = n * 256 := by rw [IntKind.wrap_u64]; omega
      have o1 := header_get.or_ n c hn.1 hn.2 hc.1 hc.2
      have HNX := Aside0.mk hnx
      clear hcc hnn hnx
      go_wp2
      have hg := HG2.out
      go_roundg (m - (j + 1))
      case measure => omega
      case rel => exact ⟨j + 1, by omega, rfl, by first | rfl | go_num, by rw [HNX.out], rfl⟩
    · obtain rfl : j = m := by omega
      have cg := (blk_cell HGB.out 0).trans (show _ = some (Value.string s) from rfl)
      have fg := blk_frozen HGB.out 0
      go_wp2
      go_ret
      exact ⟨rfl, blk_put HGB.out 0 _ rfl, KeepBut.set_ HKEEP.out 0 _, Below.setCell HBEL.out HBG.out _⟩

/-! ### header_Ref: function 41 -/
/-- A text and four zero bytes, cut to four bytes. -/
def header_Ref.four (s : ByteArray) : ByteArray := (s ++ (⟨#[0, 0, 0, 0]⟩ : ByteArray)).extract 0 4
theorem header_Ref.sz (s : ByteArray) : (header_Ref.four s).size = 4 := by
  unfold header_Ref.four
  rw [ByteArray.size_extract, ByteArray.size_append]
  have : (⟨#[0, 0, 0, 0]⟩ : ByteArray).size = 4 := rfl
  omega
def header_Ref.f (a0 : ByteArray) : Option (Int) := if a0.size ≤ 1099511627776 then some (header_get.num (header_Ref.four a0) 0 4 % 4294967296) else none
set_option maxHeartbeats 16000000 in
set_option maxRecDepth 100000 in
theorem header_Ref.calls (a0 : ByteArray) (r : Int) (w : World) (h : header_Ref.f a0 = some r) :
    Calls Try.prog 41 #[.string a0] w fun e w' => e = .returned (.int .u32 r) ∧ Below w.heap.size w w' := by
  unfold header_Ref.f at h
  by_cases c : a0.size ≤ 1099511627776
  · rw [if_pos c] at h
    obtain rfl := Option.some.inj h
    clear h
    have hz : ((a0 ++ (⟨#[0, 0, 0, 0]⟩ : ByteArray)).extract 0 4).size = 4 := header_Ref.sz a0
    have z4 : (⟨#[0, 0, 0, 0]⟩ : ByteArray).size = 4 := rfl
    have ha : (a0 ++ (⟨#[0, 0, 0, 0]⟩ : ByteArray)).size = a0.size + 4 := by rw [ByteArray.size_append, z4]
    have HZ := Aside0.mk hz
    clear hz
    go_enter Try.func41, Try.ntmps41
    go_wp2_with (first | (go_at_call 57; (with_reducible refine (header_get_uint32.at_ w.heap.size ((a0 ++ (⟨#[0, 0, 0, 0]⟩ : ByteArray)).extract 0 4) 4 4 rfl w _ w.heap.size (below_alloc (Below.refl _ _) _) (Nat.le_refl _) (blk_new w _) (by rw [HZ.out]; exact Nat.le_refl _) (by decide) (by rw [HZ.out]; decide)).mono ?_); rintro e w1 ⟨rfl, h1, h2, h3⟩; have H3 := Aside0.mk h3; clear h1 h2 h3))
    go_ret
    exact ⟨rfl, H3.out⟩
  · rw [if_neg c] at h
    cases h

/-! ### extend_Kiss: function 16 -/
/-- The codes that have been laid: DENY, RSTR, RATE. -/
def kmap (i1 i2 i3 : Bool) : DataW Nat := .map ((if i1 then [(Lit.int .u32 1145392729, DataW.lit (.int .i64 1))] else []) ++ (if i3 then [(Lit.int .u32 1380013125, DataW.lit (.int .i64 3))] else []) ++ (if i2 then [(Lit.int .u32 1381192786, DataW.lit (.int .i64 2))] else []))
theorem kput1 (b c : Bool) : (kmap false b c).put (Lit.int .u32 1145392729) (.lit (.int .i64 1)) = kmap true b c := by cases b <;> cases c <;> rfl
theorem kput2 (a c : Bool) : (kmap a false c).put (Lit.int .u32 1381192786) (.lit (.int .i64 2)) = kmap a true c := by cases a <;> cases c <;> rfl
theorem kput3 (a b : Bool) : (kmap a b false).put (Lit.int .u32 1380013125) (.lit (.int .i64 3)) = kmap a b true := by cases a <;> cases b <;> rfl
def kown (W : World) (mb : Nat) (n : Nat) (a b c : Bool) : Prop := W.ownsMap Try.prog 27 (plainElem Try.prog 3) mb n (kmap a b c)
theorem ref1 : header_Ref.f ⟨#[68, 69, 78, 89]⟩ = some 1145392729 := by decide +kernel
theorem ref2 : header_Ref.f ⟨#[82, 83, 84, 82]⟩ = some 1381192786 := by decide +kernel
theorem ref3 : header_Ref.f ⟨#[82, 65, 84, 69]⟩ = some 1380013125 := by decide +kernel
theorem kins1 {W : World} {mb n : Nat} {b c : Bool} (h : kown W mb n false b c) (hn : n < maxLen) : ∃ W', (Instr.mapUpdate 66 (.map (some mb)) (.int .u32 1145392729) (.int .i64 1)).run Try.prog W = .ok () W' ∧ kown W' mb (n + 1) true b c ∧ W.grownBy W' (some mb) := by
  obtain ⟨W', h1, h2, h3⟩ := World.ownsMap.update h (Maps.int_keyed Try.underlying27) Try.underlying66 hn (Maps.keyOf_int_mk Try.underlying27 (show (Lit.int .u32 1145392729).wf = true by decide)) (plainElem_int Try.underlying3 (show (Lit.int .i64 1).wf = true by decide))
  rw [kput1] at h2
  exact ⟨W', h1, h2, h3⟩
theorem kins2 {W : World} {mb n : Nat} {a c : Bool} (h : kown W mb n a false c) (hn : n < maxLen) : ∃ W', (Instr.mapUpdate 66 (.map (some mb)) (.int .u32 1381192786) (.int .i64 2)).run Try.prog W = .ok () W' ∧ kown W' mb (n + 1) a true c ∧ W.grownBy W' (some mb) := by
  obtain ⟨W', h1, h2, h3⟩ := World.ownsMap.update h (Maps.int_keyed Try.underlying27) Try.underlying66 hn (Maps.keyOf_int_mk Try.underlying27 (show (Lit.int .u32 1381192786).wf = true by decide)) (plainElem_int Try.underlying3 (show (Lit.int .i64 2).wf = true by decide))
  rw [kput2] at h2
  exact ⟨W', h1, h2, h3⟩
theorem kins3 {W : World} {mb n : Nat} {a b : Bool} (h : kown W mb n a b false) (hn : n < maxLen) : ∃ W', (Instr.mapUpdate 66 (.map (some mb)) (.int .u32 1380013125) (.int .i64 3)).run Try.prog W = .ok () W' ∧ kown W' mb (n + 1) a b true ∧ W.grownBy W' (some mb) := by
  obtain ⟨W', h1, h2, h3⟩ := World.ownsMap.update h (Maps.int_keyed Try.underlying27) Try.underlying66 hn (Maps.keyOf_int_mk Try.underlying27 (show (Lit.int .u32 1380013125).wf = true by decide)) (plainElem_int Try.underlying3 (show (Lit.int .i64 3).wf = true by decide))
  rw [kput3] at h2
  exact ⟨W', h1, h2, h3⟩
def kcode (a : Int) : Int := if a = 1145392729 then 1 else if a = 1381192786 then 2 else if a = 1380013125 then 3 else 0
def khas (a : Int) : Bool := a == 1145392729 || a == 1381192786 || a == 1380013125
theorem kcode_eq (a : Int) : (kmap true true true).atKey (Lit.int .u32 a) (DataW.lit (Lit.int .i64 0)) = DataW.lit (Lit.int .i64 (kcode a)) := by
  by_cases h1 : a = 1145392729
  · subst h1; rfl
  · by_cases h2 : a = 1381192786
    · subst h2; rfl
    · by_cases h3 : a = 1380013125
      · subst h3; rfl
      · have e : kcode a = 0 := by unfold kcode; rw [if_neg h1, if_neg h2, if_neg h3]
        rw [e]
        simp [kmap, DataW.atKey, Lit.sameKey, Ne.symm h1, Ne.symm h2, Ne.symm h3, h1, h2, h3]
theorem khas_eq (a : Int) : Maps.has (kmap true true true) (Lit.int .u32 a) = khas a := by
  by_cases h1 : a = 1145392729
  · subst h1; rfl
  · by_cases h2 : a = 1381192786
    · subst h2; rfl
    · by_cases h3 : a = 1380013125
      · subst h3; rfl
      · simp [kmap, Maps.has, khas, Lit.sameKey, Ne.symm h1, Ne.symm h2, Ne.symm h3, h1, h2, h3]
theorem klook {W : World} {mb n : Nat} (h : kown W mb n true true true) (a : Int) (ha : (Lit.int .u32 a).wf = true) : (Instr.lookup 66 (.map (some mb)) (.int .u32 a) true).run Try.prog W = .ok (.tuple #[.int .i64 (kcode a), .bool (khas a)]) W := by
  obtain ⟨v, ps, h1, h2⟩ := World.ownsMap.look_ok h (Maps.int_keyed Try.underlying27) Try.underlying66 (Try.zeroValue3 W) (plainElem_int Try.underlying3 (show (Lit.int .i64 0).wf = true by decide)) (Maps.keyOf_int_mk Try.underlying27 ha)
  obtain ⟨c, rfl, hc, _⟩ := plainElem_int_inv Try.underlying3 h2
  rw [h1, khas_eq]
  have hk := (Prod.mk.inj hc).1
  rw [kcode_eq] at hk
  have hk2 : kcode a = c := by injection hk with hk; injection hk
  rw [hk2]
def extend_Kiss.T1 : Bool × List (List Nat × List Nat) := (true, [([], []), ([], []), ([0, 1], [0, 1]), ([1], []), ([0, 3], [0, 3]), ([3], []), ([0, 5], [0, 5]), ([0, 1, 2, 3, 4, 5, 6], [0]), ([], []), ([7, 8], [7, 8]), ([9], [9]), ([10], [10]), ([10], [10]), ([11, 5, 0, 1, 2, 3, 4, 5, 6, 7, 8, 9, 10, 11], [11]), ([12, 13, 0, 1, 2, 3, 4, 5, 6, 7, 8, 9, 10, 11, 12, 13], [12])])
def extend_Kiss.B1 : List Nat := [0, 0, 3, 2, 11, 10, 43, 127, 0, 511, 1023, 2047, 2047, 4095, 16383]
theorem extend_Kiss.tab1 : rtab .any (opsOf Try.f16 1) = extend_Kiss.T1 := by kernel_rfl
theorem extend_Kiss.bits1 : waitsOk extend_Kiss.T1.2 extend_Kiss.B1 = true := by kernel_rfl
def KI (W : World) (mb : Nat) (a b c : Bool) : Prop := ∃ n, n ≤ 100 * (a.toNat + b.toNat + c.toNat) ∧ kown W mb n a b c
theorem KI.far {W W' : World} {mb : Nat} {a b c : Bool} (h : KI W mb a b c) (hb : Below W.heap.size W W') : KI W' mb a b c := by
  obtain ⟨n, hn, h⟩ := h
  exact ⟨n, hn, h.kept (row := none) ⟨hb.os, hb.tape, hb.output, hb.size, fun k hk _ => hb.block k hk⟩ (by simp)⟩
theorem KI.in1 {W : World} {mb : Nat} {b c : Bool} (h : KI W mb false b c) : ∃ W', (Instr.mapUpdate 66 (.map (some mb)) (.int .u32 1145392729) (.int .i64 1)).run Try.prog W = .ok () W' ∧ KI W' mb true b c ∧ W.grownBy W' (some mb) := by
  obtain ⟨n, hn, h⟩ := h
  have hm : n < maxLen := by unfold maxLen; cases b <;> cases c <;> simp at hn <;> omega
  obtain ⟨W', h1, h2, h3⟩ := kins1 h hm
  exact ⟨W', h1, ⟨_, by simp; cases b <;> cases c <;> simp at hn ⊢ <;> omega, h2⟩, h3⟩
theorem KI.in2 {W : World} {mb : Nat} {a c : Bool} (h : KI W mb a false c) : ∃ W', (Instr.mapUpdate 66 (.map (some mb)) (.int .u32 1381192786) (.int .i64 2)).run Try.prog W = .ok () W' ∧ KI W' mb a true c ∧ W.grownBy W' (some mb) := by
  obtain ⟨n, hn, h⟩ := h
  have hm : n < maxLen := by unfold maxLen; cases a <;> cases c <;> simp at hn <;> omega
  obtain ⟨W', h1, h2, h3⟩ := kins2 h hm
  exact ⟨W', h1, ⟨_, by simp; cases a <;> cases c <;> simp at hn ⊢ <;> omega, h2⟩, h3⟩
theorem KI.in3 {W : World} {mb : Nat} {a b : Bool} (h : KI W mb a b false) : ∃ W', (Instr.mapUpdate 66 (.map (some mb)) (.int .u32 1380013125) (.int .i64 3)).run Try.prog W = .ok () W' ∧ KI W' mb a b true ∧ W.grownBy W' (some mb) := by
  obtain ⟨n, hn, h⟩ := h
  have hm : n < maxLen := by unfold maxLen; cases a <;> cases b <;> simp at hn <;> omega
  obtain ⟨W', h1, h2, h3⟩ := kins3 h hm
  exact ⟨W', h1, ⟨_, by simp; cases a <;> cases b <;> simp at hn ⊢ <;> omega, h2⟩, h3⟩
theorem KI.look {W : World} {mb : Nat} (h : KI W mb true true true) (a : Int) (ha : (Lit.int .u32 a).wf = true) : (Instr.lookup 66 (.map (some mb)) (.int .u32 a) true).run Try.prog W = .ok (.tuple #[.int .i64 (kcode a), .bool (khas a)]) W := by
  obtain ⟨n, hn, h⟩ := h
  exact klook h a ha
theorem KI.made (W : World) : KI (W.alloc (.map #[] 0)) W.heap.size false false false := ⟨0, Nat.zero_le _, World.ownsMap_made _ _ _ _⟩
def kiss.res (a0 a1 : Int) : Int := if a0 = 0 then (if khas a1 = true then kcode a1 else 4) else 0
theorem up3 (b : Nat → Bool) (i : Nat) (hi : ¬ (i = 2 ∨ i = 4 ∨ i = 6)) : up b i 2 = b 2 ∧ up b i 4 = b 4 ∧ up b i 6 = b 6 := ⟨up_ne (by omega), up_ne (by omega), up_ne (by omega)⟩
set_option maxHeartbeats 8000000 in
set_option maxRecDepth 100000 in
theorem kiss_calls (a0 a1 : Int) (w : World) (ha1 : (Lit.int .u32 a1).wf = true) :
    Calls Try.prog 16 #[.int .i64 a0, .int .u32 a1] w fun e w' => e = .returned (.int .i64 (kiss.res a0 a1)) ∧ Below w.heap.size w w' := by
  have HWF := Aside0.mk ha1
  have HB := Aside0.mk (below_drew1 (Below.refl w.heap.size w))
  clear ha1
  go_enter Try.func16, Try.ntmps16
  go_wp2
  refine start_ (n := 15) (S := fun w' => True) (ds := []) #[false, false, false, false, false, false, false, false, false, false, false, false, false, false, false] (by kernel_rfl) rfl rfl trivial (fun hHeld => ?_)
  refine with_tabW extend_Kiss.tab1 extend_Kiss.bits1 (fun HT_ HW_ => ?_)
  generalize w.drew = w1 at HB hHeld ⊢
  refine pure_ (i := 8) (N := some 13) (v := ?_) (a' := ?_) #[false, false, false, false, false, false, false, false, true, false, false, false, false, false, false] rfl rfl (any_of HT_.out (by kernel_rfl)) (fun _ _ _ h => h) (Or.inl ⟨by rfl, ?_⟩) ?_ ?_
  rotate_left
  · intro w'
    go_simp
    with_reducible rfl
  rotate_left
  · simp only [Act.put, List.setIfInBounds_toArray, List.set_cons_zero, List.set_cons_succ, i64_w, i32_w]
    rfl
  refine inv_at [0, 1, 2, 3, 4, 5, 6, 7, 9, 10, 11, 12, 13, 14] (fun a0_ b a w' => ∃ (mb : Nat) (m7 : Value), a = putSel a0_ b [(0, 8, .map (some mb)), (1, 9, .int .u32 1145392729), (3, 10, .int .u32 1381192786), (5, 11, .int .u32 1380013125), (7, 12, m7), (9, 14, .tuple #[.int .i64 (kcode a1), .bool (khas a1)]), (10, 7, .tuple #[.int .i64 (kcode a1), .bool (khas a1)]), (11, 15, .int .i64 (kcode a1)), (12, 16, .bool (khas a1)), (13, 5, .int .i64 (kcode a1)), (14, 6, .bool (khas a1))] ∧ Below w.heap.size w w' ∧ (b 0 = true → w.heap.size ≤ mb ∧ KI w' mb (b 2) (b 4) (b 6)) ∧ (b 7 = true → m7 = .map (some mb))) HT_.out HW_.out (by kernel_rfl) (by kernel_rfl) ?_ ?_ ?_
  · exact ⟨0, .bool false, by simp only [putSel, Bool.false_eq_true, if_false], HB.out, fun h_ => absurd h_ (by decide), fun h_ => absurd h_ (by decide)⟩
  · clear HB
    refine steps_cons ?_ ?_
    · rintro b a w' ⟨mb, m7, ha, hB, hM, hX⟩ hb_ hon hoff
      refine ⟨_, rfl, fun K hK => ?_⟩
      have h2 := hoff 2 (by kernel_rfl)
      have h4 := hoff 4 (by kernel_rfl)
      have h6 := hoff 6 (by kernel_rfl)
      replace ha := Aside0.mk ha
      have hmm := @run_makeMap Try.prog
      refine value_ (w1 := w'.alloc (.map #[] 0)) (v := .map (some w'.heap.size)) (by rfl) rfl ?_ ?_
      · go_simp
      refine hK.out _ _ ⟨w'.heap.size, m7, (by rw [ha.out]; exact putSel_upk 0 hb_ rfl rfl rfl), below_alloc hB _, fun _ => ⟨hB.size, by rw [(up3 b 0 (by omega)).1, (up3 b 0 (by omega)).2.1, (up3 b 0 (by omega)).2.2, h2, h4, h6]; exact KI.made w'⟩, fun h7 => absurd ((up_ne (b := b) (i := 0) (j := 7) (by omega)).symm.trans h7) (by rw [hoff 7 (by kernel_rfl)]; decide)⟩
    refine steps_cons ?_ ?_
    · rintro b a w' ⟨mb, m7, ha, hB, hM, hX⟩ hb_ hon hoff
      refine ⟨_, rfl, fun K hK => ?_⟩
      replace ha := Aside0.mk ha
      have hM' := Aside0.mk hM
      have hB' := Aside0.mk hB
      clear hM hB
      refine call_ 41 #[.string ⟨#[68, 69, 78, 89]⟩] (by rfl) rfl ?_ ?_
      · go_simp
      refine (header_Ref.calls ⟨#[68, 69, 78, 89]⟩ _ w' ref1).mono ?_
      rintro e w2 ⟨rfl, hb2⟩
      refine ⟨_, rfl, hK.out _ _ ⟨mb, m7, (by rw [ha.out]; exact putSel_upk 1 hb_ rfl rfl rfl), hB'.out.trans (hb2.mono hB'.out.size), fun h0 => ?_, fun h7 => hX ((up_ne (b := b) (i := 1) (j := 7) (by omega)).symm.trans h7)⟩⟩
      have h0' : b 0 = true := by rw [← up_ne (b := b) (i := 1) (j := 0) (by omega)]; exact h0
      exact ⟨(hM'.out h0').1, by rw [(up3 b 1 (by omega)).1, (up3 b 1 (by omega)).2.1, (up3 b 1 (by omega)).2.2]; exact (hM'.out h0').2.far hb2⟩
    refine steps_cons ?_ ?_
    · rintro b a w' ⟨mb, m7, ha, hB, hM, hX⟩ hb_ hon hoff
      refine ⟨_, rfl, fun K hK => ?_⟩
      have e8 : a.tmps[8]? = some (.map (some mb)) := by rw [ha]; exact putSel_on (e := (0, 8, .map (some mb))) 0 rfl rfl (hon 0 (by kernel_rfl)) rfl
      have e9 : a.tmps[9]? = some (.int .u32 1145392729) := by rw [ha]; exact putSel_on (e := (1, 9, .int .u32 1145392729)) 1 rfl rfl (hon 1 (by kernel_rfl)) rfl
      replace ha := Aside0.mk ha
      obtain ⟨hm1, hm2⟩ := hM (hon 0 (by kernel_rfl))
      have hmle := Aside0.mk hm1
      rw [hb_] at hm2
      obtain ⟨w2, hins, hK2, hg⟩ := hm2.in1
      have hB2 := hB.grown hg hB.size (fun k hk => by cases hk; exact hm1)
      have hB' := Aside0.mk hB2
      have hK' := Aside0.mk hK2
      clear hB2 hK2 hg hm2 hm1 hM hB
      refine skip_ (w1 := w2) (by rfl) rfl ?_ ?_
      · go_simp
      refine hK.out _ _ ⟨mb, m7, (by rw [ha.out]; exact (putSel_same rfl).symm), hB'.out, fun h0 => ⟨?_, ?_⟩, fun h7 => hX ((up_ne (b := b) (i := 2) (j := 7) (by omega)).symm.trans h7)⟩
      · exact hmle.out
      · rw [up_self, up_ne (b := b) (i := 2) (j := 4) (by omega), up_ne (b := b) (i := 2) (j := 6) (by omega)]; exact hK'.out
    refine steps_cons ?_ ?_
    · rintro b a w' ⟨mb, m7, ha, hB, hM, hX⟩ hb_ hon hoff
      refine ⟨_, rfl, fun K hK => ?_⟩
      replace ha := Aside0.mk ha
      have hM' := Aside0.mk hM
      have hB' := Aside0.mk hB
      clear hM hB
      refine call_ 41 #[.string ⟨#[82, 83, 84, 82]⟩] (by rfl) rfl ?_ ?_
      · go_simp
      refine (header_Ref.calls ⟨#[82, 83, 84, 82]⟩ _ w' ref2).mono ?_
      rintro e w2 ⟨rfl, hb2⟩
      refine ⟨_, rfl, hK.out _ _ ⟨mb, m7, (by rw [ha.out]; exact putSel_upk 2 hb_ rfl rfl rfl), hB'.out.trans (hb2.mono hB'.out.size), fun h0 => ?_, fun h7 => hX ((up_ne (b := b) (i := 3) (j := 7) (by omega)).symm.trans h7)⟩⟩
      have h0' : b 0 = true := by rw [← up_ne (b := b) (i := 3) (j := 0) (by omega)]; exact h0
      exact ⟨(hM'.out h0').1, by rw [(up3 b 3 (by omega)).1, (up3 b 3 (by omega)).2.1, (up3 b 3 (by omega)).2.2]; exact (hM'.out h0').2.far hb2⟩
    refine steps_cons ?_ ?_
    · rintro b a w' ⟨mb, m7, ha, hB, hM, hX⟩ hb_ hon hoff
      refine ⟨_, rfl, fun K hK => ?_⟩
      have e8 : a.tmps[8]? = some (.map (some mb)) := by rw [ha]; exact putSel_on (e := (0, 8, .map (some mb))) 0 rfl rfl (hon 0 (by kernel_rfl)) rfl
      have e10 : a.tmps[10]? = some (.int .u32 1381192786) := by rw [ha]; exact putSel_on (e := (3, 10, .int .u32 1381192786)) 2 rfl rfl (hon 3 (by kernel_rfl)) rfl
      replace ha := Aside0.mk ha
      obtain ⟨hm1, hm2⟩ := hM (hon 0 (by kernel_rfl))
      have hmle := Aside0.mk hm1
      rw [hb_] at hm2
      obtain ⟨w2, hins, hK2, hg⟩ := hm2.in2
      have hB2 := hB.grown hg hB.size (fun k hk => by cases hk; exact hm1)
      have hB' := Aside0.mk hB2
      have hK' := Aside0.mk hK2
      clear hB2 hK2 hg hm2 hm1 hM hB
      refine skip_ (w1 := w2) (by rfl) rfl ?_ ?_
      · go_simp
      refine hK.out _ _ ⟨mb, m7, (by rw [ha.out]; exact (putSel_same rfl).symm), hB'.out, fun h0 => ⟨?_, ?_⟩, fun h7 => hX ((up_ne (b := b) (i := 4) (j := 7) (by omega)).symm.trans h7)⟩
      · exact hmle.out
      · rw [up_self, up_ne (b := b) (i := 4) (j := 2) (by omega), up_ne (b := b) (i := 4) (j := 6) (by omega)]; exact hK'.out
    refine steps_cons ?_ ?_
    · rintro b a w' ⟨mb, m7, ha, hB, hM, hX⟩ hb_ hon hoff
      refine ⟨_, rfl, fun K hK => ?_⟩
      replace ha := Aside0.mk ha
      have hM' := Aside0.mk hM
      have hB' := Aside0.mk hB
      clear hM hB
      refine call_ 41 #[.string ⟨#[82, 65, 84, 69]⟩] (by rfl) rfl ?_ ?_
      · go_simp
      refine (header_Ref.calls ⟨#[82, 65, 84, 69]⟩ _ w' ref3).mono ?_
      rintro e w2 ⟨rfl, hb2⟩
      refine ⟨_, rfl, hK.out _ _ ⟨mb, m7, (by rw [ha.out]; exact putSel_upk 3 hb_ rfl rfl rfl), hB'.out.trans (hb2.mono hB'.out.size), fun h0 => ?_, fun h7 => hX ((up_ne (b := b) (i := 5) (j := 7) (by omega)).symm.trans h7)⟩⟩
      have h0' : b 0 = true := by rw [← up_ne (b := b) (i := 5) (j := 0) (by omega)]; exact h0
      exact ⟨(hM'.out h0').1, by rw [(up3 b 5 (by omega)).1, (up3 b 5 (by omega)).2.1, (up3 b 5 (by omega)).2.2]; exact (hM'.out h0').2.far hb2⟩
    refine steps_cons ?_ ?_
    · rintro b a w' ⟨mb, m7, ha, hB, hM, hX⟩ hb_ hon hoff
      refine ⟨_, rfl, fun K hK => ?_⟩
      have e8 : a.tmps[8]? = some (.map (some mb)) := by rw [ha]; exact putSel_on (e := (0, 8, .map (some mb))) 0 rfl rfl (hon 0 (by kernel_rfl)) rfl
      have e11 : a.tmps[11]? = some (.int .u32 1380013125) := by rw [ha]; exact putSel_on (e := (5, 11, .int .u32 1380013125)) 3 rfl rfl (hon 5 (by kernel_rfl)) rfl
      replace ha := Aside0.mk ha
      obtain ⟨hm1, hm2⟩ := hM (hon 0 (by kernel_rfl))
      have hmle := Aside0.mk hm1
      rw [hb_] at hm2
      obtain ⟨w2, hins, hK2, hg⟩ := hm2.in3
      have hB2 := hB.grown hg hB.size (fun k hk => by cases hk; exact hm1)
      have hB' := Aside0.mk hB2
      have hK' := Aside0.mk hK2
      clear hB2 hK2 hg hm2 hm1 hM hB
      refine skip_ (w1 := w2) (by rfl) rfl ?_ ?_
      · go_simp
      refine hK.out _ _ ⟨mb, m7, (by rw [ha.out]; exact (putSel_same rfl).symm), hB'.out, fun h0 => ⟨?_, ?_⟩, fun h7 => hX ((up_ne (b := b) (i := 6) (j := 7) (by omega)).symm.trans h7)⟩
      · exact hmle.out
      · rw [up_self, up_ne (b := b) (i := 6) (j := 2) (by omega), up_ne (b := b) (i := 6) (j := 4) (by omega)]; exact hK'.out
    refine steps_cons ?_ ?_
    · rintro b a w' ⟨mb, m7, ha, hB, hM, hX⟩ hb_ hon hoff
      refine ⟨_, rfl, fun K hK => ?_⟩
      have e8 : a.tmps[8]? = some (.map (some mb)) := by rw [ha]; exact putSel_on (e := (0, 8, .map (some mb))) 0 rfl rfl (hon 0 (by kernel_rfl)) rfl
      replace ha := Aside0.mk ha
      have hM' := Aside0.mk hM
      have hB' := Aside0.mk hB
      clear hM hB
      refine value_ (w1 := w') (v := .map (some mb)) (by rfl) rfl ?_ ?_
      · go_simp
      refine hK.out _ _ ⟨mb, .map (some mb), (by rw [ha.out]; exact putSel_upk 4 hb_ rfl rfl rfl), hB'.out, fun h0 => ?_, fun _ => rfl⟩
      have h0' : b 0 = true := by rw [← up_ne (b := b) (i := 7) (j := 0) (by omega)]; exact h0
      exact ⟨(hM'.out h0').1, by rw [(up3 b 7 (by omega)).1, (up3 b 7 (by omega)).2.1, (up3 b 7 (by omega)).2.2]; exact (hM'.out h0').2⟩
    refine steps_cons ?_ ?_
    · rintro b a w' ⟨mb, m7, ha, hB, hM, hX⟩ hb_ hon hoff
      refine ⟨_, rfl, fun K hK => ?_⟩
      obtain rfl := hX (hon 7 (by kernel_rfl))
      have e12 : a.tmps[12]? = some (.map (some mb)) := by rw [ha]; exact putSel_on (e := (7, 12, .map (some mb))) 4 rfl rfl (hon 7 (by kernel_rfl)) rfl
      have e13 : a.tmps[13]? = some (.int .u32 a1) := by rw [ha]; exact (putSel_off rfl).trans rfl
      replace ha := Aside0.mk ha
      have hm2 := (hM (hon 0 (by kernel_rfl))).2
      rw [hon 2 (by kernel_rfl), hon 4 (by kernel_rfl), hon 6 (by kernel_rfl)] at hm2
      have hlk := hm2.look a1 HWF.out
      have hM' := Aside0.mk hM
      have hB' := Aside0.mk hB
      clear hM hB hm2
      refine value_ (w1 := w') (v := .tuple #[.int .i64 (kcode a1), .bool (khas a1)]) (by rfl) rfl ?_ ?_
      · go_simp
      refine hK.out _ _ ⟨mb, .map (some mb), (by rw [ha.out]; exact putSel_upk 5 hb_ rfl rfl rfl), hB'.out, fun h0 => ?_, fun _ => rfl⟩
      have h0' : b 0 = true := by rw [← up_ne (b := b) (i := 9) (j := 0) (by omega)]; exact h0
      exact ⟨(hM'.out h0').1, by rw [(up3 b 9 (by omega)).1, (up3 b 9 (by omega)).2.1, (up3 b 9 (by omega)).2.2]; exact (hM'.out h0').2⟩
    refine steps_cons ?_ ?_
    · rintro b a w' ⟨mb, m7, ha, hB, hM, hX⟩ hb_ hon hoff
      refine ⟨_, rfl, fun K hK => ?_⟩
      have e14 : a.tmps[14]? = some (.tuple #[.int .i64 (kcode a1), .bool (khas a1)]) := by rw [ha]; exact putSel_on (e := (9, 14, .tuple #[.int .i64 (kcode a1), .bool (khas a1)])) 5 rfl rfl (hon 9 (by kernel_rfl)) rfl
      replace ha := Aside0.mk ha
      have hM' := Aside0.mk hM
      have hB' := Aside0.mk hB
      clear hM hB
      refine value_ (w1 := w') (v := .tuple #[.int .i64 (kcode a1), .bool (khas a1)]) (by rfl) rfl ?_ ?_
      · go_simp
      refine hK.out _ _ ⟨mb, m7, (by rw [ha.out]; exact putSel_upk 6 hb_ rfl rfl rfl), hB'.out, fun h0 => ?_, fun h7 => hX ((up_ne (b := b) (i := 10) (j := 7) (by omega)).symm.trans h7)⟩
      have h0' : b 0 = true := by rw [← up_ne (b := b) (i := 10) (j := 0) (by omega)]; exact h0
      exact ⟨(hM'.out h0').1, by rw [(up3 b 10 (by omega)).1, (up3 b 10 (by omega)).2.1, (up3 b 10 (by omega)).2.2]; exact (hM'.out h0').2⟩
    refine steps_cons ?_ ?_
    · rintro b a w' ⟨mb, m7, ha, hB, hM, hX⟩ hb_ hon hoff
      refine ⟨_, rfl, fun K hK => ?_⟩
      have e7 : a.tmps[7]? = some (.tuple #[.int .i64 (kcode a1), .bool (khas a1)]) := by rw [ha]; exact putSel_on (e := (10, 7, .tuple #[.int .i64 (kcode a1), .bool (khas a1)])) 6 rfl rfl (hon 10 (by kernel_rfl)) rfl
      replace ha := Aside0.mk ha
      have hM' := Aside0.mk hM
      have hB' := Aside0.mk hB
      clear hM hB
      refine value_ (w1 := w') (v := .int .i64 (kcode a1)) (by rfl) rfl ?_ ?_
      · go_simp
      refine hK.out _ _ ⟨mb, m7, (by rw [ha.out]; exact putSel_upk 7 hb_ rfl rfl rfl), hB'.out, fun h0 => ?_, fun h7 => hX ((up_ne (b := b) (i := 11) (j := 7) (by omega)).symm.trans h7)⟩
      have h0' : b 0 = true := by rw [← up_ne (b := b) (i := 11) (j := 0) (by omega)]; exact h0
      exact ⟨(hM'.out h0').1, by rw [(up3 b 11 (by omega)).1, (up3 b 11 (by omega)).2.1, (up3 b 11 (by omega)).2.2]; exact (hM'.out h0').2⟩
    refine steps_cons ?_ ?_
    · rintro b a w' ⟨mb, m7, ha, hB, hM, hX⟩ hb_ hon hoff
      refine ⟨_, rfl, fun K hK => ?_⟩
      have e7 : a.tmps[7]? = some (.tuple #[.int .i64 (kcode a1), .bool (khas a1)]) := by rw [ha]; exact putSel_on (e := (10, 7, .tuple #[.int .i64 (kcode a1), .bool (khas a1)])) 6 rfl rfl (hon 10 (by kernel_rfl)) rfl
      replace ha := Aside0.mk ha
      have hM' := Aside0.mk hM
      have hB' := Aside0.mk hB
      clear hM hB
      refine value_ (w1 := w') (v := .bool (khas a1)) (by rfl) rfl ?_ ?_
      · go_simp
      refine hK.out _ _ ⟨mb, m7, (by rw [ha.out]; exact putSel_upk 8 hb_ rfl rfl rfl), hB'.out, fun h0 => ?_, fun h7 => hX ((up_ne (b := b) (i := 12) (j := 7) (by omega)).symm.trans h7)⟩
      have h0' : b 0 = true := by rw [← up_ne (b := b) (i := 12) (j := 0) (by omega)]; exact h0
      exact ⟨(hM'.out h0').1, by rw [(up3 b 12 (by omega)).1, (up3 b 12 (by omega)).2.1, (up3 b 12 (by omega)).2.2]; exact (hM'.out h0').2⟩
    refine steps_cons ?_ ?_
    · rintro b a w' ⟨mb, m7, ha, hB, hM, hX⟩ hb_ hon hoff
      refine ⟨_, rfl, fun K hK => ?_⟩
      have e15 : a.tmps[15]? = some (.int .i64 (kcode a1)) := by rw [ha]; exact putSel_on (e := (11, 15, .int .i64 (kcode a1))) 7 rfl rfl (hon 11 (by kernel_rfl)) rfl
      replace ha := Aside0.mk ha
      have hM' := Aside0.mk hM
      have hB' := Aside0.mk hB
      clear hM hB
      refine value_ (w1 := w') (v := .int .i64 (kcode a1)) (by rfl) rfl ?_ ?_
      · go_simp
      refine hK.out _ _ ⟨mb, m7, (by rw [ha.out]; exact putSel_upk 9 hb_ rfl rfl rfl), hB'.out, fun h0 => ?_, fun h7 => hX ((up_ne (b := b) (i := 13) (j := 7) (by omega)).symm.trans h7)⟩
      have h0' : b 0 = true := by rw [← up_ne (b := b) (i := 13) (j := 0) (by omega)]; exact h0
      exact ⟨(hM'.out h0').1, by rw [(up3 b 13 (by omega)).1, (up3 b 13 (by omega)).2.1, (up3 b 13 (by omega)).2.2]; exact (hM'.out h0').2⟩
    refine steps_cons ?_ ?_
    · rintro b a w' ⟨mb, m7, ha, hB, hM, hX⟩ hb_ hon hoff
      refine ⟨_, rfl, fun K hK => ?_⟩
      have e16 : a.tmps[16]? = some (.bool (khas a1)) := by rw [ha]; exact putSel_on (e := (12, 16, .bool (khas a1))) 8 rfl rfl (hon 12 (by kernel_rfl)) rfl
      replace ha := Aside0.mk ha
      have hM' := Aside0.mk hM
      have hB' := Aside0.mk hB
      clear hM hB
      refine value_ (w1 := w') (v := .bool (khas a1)) (by rfl) rfl ?_ ?_
      · go_simp
      refine hK.out _ _ ⟨mb, m7, (by rw [ha.out]; exact putSel_upk 10 hb_ rfl rfl rfl), hB'.out, fun h0 => ?_, fun h7 => hX ((up_ne (b := b) (i := 14) (j := 7) (by omega)).symm.trans h7)⟩
      have h0' : b 0 = true := by rw [← up_ne (b := b) (i := 14) (j := 0) (by omega)]; exact h0
      exact ⟨(hM'.out h0').1, by rw [(up3 b 14 (by omega)).1, (up3 b 14 (by omega)).2.1, (up3 b 14 (by omega)).2.2]; exact (hM'.out h0').2⟩
    exact steps_nil
  · rintro b a w' hall ⟨mb, m7, ha, hB, hM, hX⟩
    have hb0_ := hall 0 (by kernel_rfl)
    have hb1_ := hall 1 (by kernel_rfl)
    have hb2_ := hall 2 (by kernel_rfl)
    have hb3_ := hall 3 (by kernel_rfl)
    have hb4_ := hall 4 (by kernel_rfl)
    have hb5_ := hall 5 (by kernel_rfl)
    have hb6_ := hall 6 (by kernel_rfl)
    have hb7_ := hall 7 (by kernel_rfl)
    have hb9_ := hall 9 (by kernel_rfl)
    have hb10_ := hall 10 (by kernel_rfl)
    have hb11_ := hall 11 (by kernel_rfl)
    have hb12_ := hall 12 (by kernel_rfl)
    have hb13_ := hall 13 (by kernel_rfl)
    have hb14_ := hall 14 (by kernel_rfl)
    obtain rfl := hX hb7_
    subst ha
    simp only [putSel, hb0_, hb1_, hb2_, hb3_, hb4_, hb5_, hb6_, hb7_, hb9_, hb10_, hb11_, hb12_, hb13_, hb14_, if_true, Act.put, List.setIfInBounds_toArray, List.set_cons_zero, List.set_cons_succ]
    have hB' := Aside0.mk hB
    clear hM hB hX hall HB hb0_ hb1_ hb2_ hb3_ hb4_ hb5_ hb6_ hb7_ hb9_ hb10_ hb11_ hb12_ hb13_ hb14_
    by_cases c0 : a0 = 0
    · subst c0
      cases hk : khas a1 with
      | true =>
        go_wp2
        go_ret
        exact ⟨by unfold kiss.res; rw [if_pos rfl, if_pos hk]; rfl, hB'.out⟩
      | false =>
        go_wp2
        go_ret
        exact ⟨by unfold kiss.res; rw [if_pos rfl, if_neg (by rw [hk]; decide)]; rfl, hB'.out⟩
    · have c1 : (a0 != 0) = true := bne_iff_ne.2 c0
      have c2 : (a0 == 0) = false := beq_eq_false_iff_ne.2 c0
      go_wp2
      go_ret
      exact ⟨by unfold kiss.res; rw [if_neg c0]; rfl, hB'.out⟩
def extend_Kiss.f (a0 a1 : Int) : Option Int := if (Lit.int .u32 a1).wf = true then some (kiss.res a0 a1) else none
theorem extend_Kiss.calls (a0 : Int) (a1 : Int) (r : Int) (w : World) (h : extend_Kiss.f a0 a1 = some r) :
    Calls Try.prog 16 #[.int .i64 a0, .int .u32 a1] w fun e w' => e = .returned (.int .i64 r) ∧ Below w.heap.size w w' := by
  unfold extend_Kiss.f at h
  by_cases q : (Lit.int .u32 a1).wf = true
  · rw [if_pos q] at h
    obtain rfl := Option.some.inj h
    exact kiss_calls a0 a1 w q
  · rw [if_neg q] at h
    cases h

/-! ### extend_Name: function 17 -/
def extend_Name.l0 : Nat → Int → List Int → Int → Option (ByteArray)
  | 0, _, _, _ => none
  | k + 1, x0, x3, x4 => if x4 ≥ 0 then (if 0 ≤ x4 then (if ((shr .u32 x0 x4) % 256) = 0 then (some (strOfNums x3)) else (if ((shr .u32 x0 x4) % 256) ≤ 32 then (if x3.length < 140737488355328 then (extend_Name.l0 k x0 (x3 ++ [63]) (wrap64 (x4 - 8))) else (none)) else (if ((shr .u32 x0 x4) % 256) > 126 then (if x3.length < 140737488355328 then (extend_Name.l0 k x0 (x3 ++ [63]) (wrap64 (x4 - 8))) else (none)) else (if x3.length < 140737488355328 then (extend_Name.l0 k x0 (x3 ++ [(shr .u32 x0 x4) % 256]) (wrap64 (x4 - 8))) else (none))))) else (none)) else (some (strOfNums x3))
def extend_Name.f (k : Nat) (a0 : Int) : Option (ByteArray) := extend_Name.l0 k a0 ([] : List Int) 24
theorem extend_Name.mono_l : ∀ k, (∀ y0 y1 y2, LeO (extend_Name.l0 k y0 y1 y2) (extend_Name.l0 (k + 1) y0 y1 y2))
  | 0 => fun _ _ _ r h => by simp [extend_Name.l0] at h
  | k + 1 => by
    have ih0 := extend_Name.mono_l k
    · intro y0 y1 y2
      unfold extend_Name.l0
      repeat' first
      | (with_reducible exact ih0 _ _ _)
      | (with_reducible exact LeO.refl _)
      | (with_reducible exact LeO.none _)
      | (with_reducible refine LeO.ite ?_ ?_)
      | (with_reducible refine LeO.bind ?_ (fun _ => ?_))
      | exact ih0 _ _ _
      | exact LeO.none _
      | refine LeO.ite ?_ ?_
      | refine LeO.bind ?_ (fun _ => ?_)
theorem extend_Name.mono : ∀ a0 k, LeO (extend_Name.f k a0) (extend_Name.f (k + 1) a0) := by
  intro a0 k
  have ih0 := extend_Name.mono_l k
  unfold extend_Name.f
  repeat' first
      | (with_reducible exact ih0 _ _ _)
      | (with_reducible exact LeO.refl _)
      | (with_reducible exact LeO.none _)
      | (with_reducible refine LeO.ite ?_ ?_)
      | (with_reducible refine LeO.bind ?_ (fun _ => ?_))
      | exact ih0 _ _ _
      | exact LeO.none _
      | refine LeO.ite ?_ ?_
      | refine LeO.bind ?_ (fun _ => ?_)
set_option maxHeartbeats 8000000 in
set_option maxRecDepth 100000 in
theorem extend_Name.calls (k : Nat) (a0 : Int) (r : ByteArray) (w : World) (h : extend_Name.f k a0 = some r) :
    Calls Try.prog 17 #[.int .u32 a0] w fun e w' => e = .returned (.string r) ∧ Below w.heap.size w w' := by
  have HB := Aside0.mk (Below.refl w.heap.size w)
  have H : (extend_Name.l0 k a0 ([] : List Int) 24) = some r := h
  clear h
  have H' := Aside0.mk H
  clear H
  go_enter Try.func17, Try.ntmps17
  go_wp2
  go_loopg [3, 4] k (fun kq v3 v4 w' => ∃ (x3_1 : List Int) (x4_1 : Int), v4 = .int .i64 x4_1 ∧ Aside0 (extend_Name.l0 kq a0 x3_1 x4_1 = some r) ∧ Aside0 (kq ≤ k) ∧ Aside0 (Kd.R (Kd.int .u8) 5 w' w.heap.size (fun _ => True) v3 x3_1) ∧ Aside0 (Below w.heap.size w w'))
  case atStart => exact ⟨(([] : List Int)), (24), (by first | rfl | (simp; done) | (simp [*]; done)), H', ⟨Nat.le_refl _⟩, ⟨by first | exact Kd.R_nil _ _ _ _ _ | exact Kd.N_nil _ _ _ _ _ | exact Kd.V_nil _ _ _ _ _ | exact Kd.Q_nil _ _ _ _ _ | exact Kd.S_nil _ _ _ _ _⟩, ⟨by repeat (first | (with_reducible first | exact HB.out | apply below_alloc | apply pw_below_drewN | apply below_drew1) | exact HB.out)⟩⟩
  case round =>
    clear H'
    try clear c1
    obtain ⟨x3_1, x4_1, rfl, HA, HK1, HO_3, HB⟩ := hrel
    cases gk with
    | zero => exact absurd HA.out (by simp [extend_Name.l0])
    | succ k1 =>
      have H := HA.out
      clear HA
      simp only [extend_Name.l0] at H
      by_cases c2 : x4_1 ≥ 0
      · rw [if_pos c2] at H
        have c2b0 : decide (0 ≤ x4_1) = true := decide_eq_true c2
        clear c2
        by_cases c3 : 0 ≤ x4_1
        · rw [if_pos c3] at H
          have c3b0 := eq_true c3
          have c3b1 : decide (0 ≤ x4_1) = true := decide_eq_true c3
          clear c3
          obtain ⟨ji4, hji4⟩ : ∃ j_ : Int, (shr .u32 a0 x4_1) = j_ := ⟨_, rfl⟩
          replace H : (if ((ji4) % 256) = 0 then (some (strOfNums x3_1)) else (if ((ji4) % 256) ≤ 32 then (if x3_1.length < 140737488355328 then (extend_Name.l0 k1 a0 (x3_1 ++ [63]) (wrap64 (x4_1 - 8))) else (none)) else (if ((ji4) % 256) > 126 then (if x3_1.length < 140737488355328 then (extend_Name.l0 k1 a0 (x3_1 ++ [63]) (wrap64 (x4_1 - 8))) else (none)) else (if x3_1.length < 140737488355328 then (extend_Name.l0 k1 a0 (x3_1 ++ [(ji4) % 256]) (wrap64 (x4_1 - 8))) else (none))))) = some r := by first | (rw [hji4] at H; exact H) | (simp only [hji4] at H ⊢; exact H)
          have hji4_ : (a0 / 2 ^ min x4_1.toNat 32) = ji4 := hji4
          have hji4z : x4_1 ≤ 32 → (a0 / 2 ^ x4_1.toNat) = ji4 := shr_small hji4
          by_cases c5 : ((ji4) % 256) = 0
          · rw [if_pos c5] at H
            have c5b0 : (((ji4) % 256) == 0) = true := beq_iff_eq.mpr c5
            have c5b1 : (((ji4) % 256) != 0) = false := bne_eq_false_iff_eq.mpr c5
            clear c5
            obtain rfl := Option.some.inj H
            have hcv6 := own_string (P := Try.prog) Try.underlying67 Try.underlying5 Try.underlying9 (Kd.own_of_R HO_3.out)
            go_wp2
            go_ret
            exact ⟨by first | rfl | (simp [errW_none, errW_some] <;> rfl) | (simp only [← hji4]; first | rfl | (simp [errW_none, errW_some] <;> rfl)) | (simp [*, errW_none, errW_some] <;> rfl), by repeat (first | (with_reducible first | exact HB.out | apply below_alloc | apply pw_below_drewN | apply below_drew1) | exact HB.out)⟩
          · rw [if_neg c5] at H
            have c5b0 : (((ji4) % 256) == 0) = false := beq_eq_false_iff_ne.mpr c5
            have c5b1 : (((ji4) % 256) != 0) = true := bne_iff_ne.mpr c5
            by_cases c7 : ((ji4) % 256) ≤ 32
            · rw [if_pos c7] at H
              have c7b0 : decide (((ji4) % 256) ≤ 32) = true := decide_eq_true c7
              clear c7
              by_cases c8 : x3_1.length < 140737488355328
              · rw [if_pos c8] at H
                have LMc8 := Aside0.mk c8
                clear c8
                obtain ⟨y101, hy101⟩ : ∃ y_ : List Int, y_ = (x3_1 ++ [63]) := ⟨_, rfl⟩
                replace H : (extend_Name.l0 k1 a0 y101 (wrap64 (x4_1 - 8))) = some r := by first | (rw [hy101]; with_reducible exact H) | (have H2_ := (Option.bind_some _ _).symm.trans H; rw [hy101]; with_reducible exact H2_) | (have H2_ := (Option.bind_some _ _).symm.trans H; with_reducible exact H2_) | with_reducible exact H | (rw [hy101]; exact H) | exact H
                have Ny101 := Aside0.mk hy101
                clear hy101
                have H' := Aside0.mk H
                clear H
                go_wp2_with (first | ((with_reducible refine gate_builtin (b := .append) (xs := #[.tmp 22, .tmp 24]) rfl ?_); at_builtin; refine Kd.R_append (Kd.int .u8) (w0 := w) w.heap.size rfl (.tmp 22) (.tmp 24) 67 5 (.int .u8 0) 1 rfl Try.underlying67 info5 rfl (by decide) (by omega) u3 x3_1 63 [.int .u8 63] (fun _ => True) (fun _ => False) rfl rfl ?aP (fun _ hk => hk.elim) ?aF ?aO ?aB ?aS ?aL ?_; (case aP => exact rfl); (case aB => exact (by repeat (first | (with_reducible first | exact HB.out | apply below_alloc | apply pw_below_drewN | apply below_drew1) | exact HB.out))); (case aF => exact (fun _ _ => trivial)); (case aO => exact (by (with_reducible repeat (first | apply Kd.R_alloc | apply Kd.R_drewN | apply Kd.R_drew)); exact HO_3.out)); (case aS => exact (below_size (by repeat (first | (with_reducible first | exact HB.out | apply below_alloc | apply pw_below_drewN | apply below_drew1) | exact HB.out)))); (case aL => have := LMc8.out; omega); intro v102 w9 ho hb hg hat; rw [← Ny101.out] at ho; have n0_ := Aside0.mk (hb); have n1_ := Aside0.mk (ho); clear HB; clear HO_3; have HB := n0_; have HO103 := n1_; clear n0_ n1_; clear ho hb hg hat))
                go_roundg k1
                case measure => have := HK1.out; omega
                case rel => exact ⟨(y101), (wrap64 (x4_1 - 8)), (by first | rfl | (simp; done) | (simp [*]; done)), H', ⟨by have := HK1.out; omega⟩, ⟨by (with_reducible repeat (first | apply Kd.R_alloc | apply Kd.R_drewN | apply Kd.R_drew)); exact HO103.out⟩, ⟨by repeat (first | (with_reducible first | exact HB.out | apply below_alloc | apply pw_below_drewN | apply below_drew1) | exact HB.out)⟩⟩
              · rw [if_neg c8] at H
                exact absurd H (by simp)
            · rw [if_neg c7] at H
              have c7b0 : decide (((ji4) % 256) ≤ 32) = false := decide_eq_false c7
              clear c7
              by_cases c10 : ((ji4) % 256) > 126
              · rw [if_pos c10] at H
                have c10b0 : decide (126 < ((ji4) % 256)) = true := decide_eq_true c10
                clear c10
                by_cases c11 : x3_1.length < 140737488355328
                · rw [if_pos c11] at H
                  have LMc11 := Aside0.mk c11
                  clear c11
                  obtain ⟨y104, hy104⟩ : ∃ y_ : List Int, y_ = (x3_1 ++ [63]) := ⟨_, rfl⟩
                  replace H : (extend_Name.l0 k1 a0 y104 (wrap64 (x4_1 - 8))) = some r := by first | (rw [hy104]; with_reducible exact H) | (have H2_ := (Option.bind_some _ _).symm.trans H; rw [hy104]; with_reducible exact H2_) | (have H2_ := (Option.bind_some _ _).symm.trans H; with_reducible exact H2_) | with_reducible exact H | (rw [hy104]; exact H) | exact H
                  have Ny104 := Aside0.mk hy104
                  clear hy104
                  have H' := Aside0.mk H
                  clear H
                  go_wp2_with (first | ((with_reducible refine gate_builtin (b := .append) (xs := #[.tmp 22, .tmp 24]) rfl ?_); at_builtin; refine Kd.R_append (Kd.int .u8) (w0 := w) w.heap.size rfl (.tmp 22) (.tmp 24) 67 5 (.int .u8 0) 1 rfl Try.underlying67 info5 rfl (by decide) (by omega) u3 x3_1 63 [.int .u8 63] (fun _ => True) (fun _ => False) rfl rfl ?aP (fun _ hk => hk.elim) ?aF ?aO ?aB ?aS ?aL ?_; (case aP => exact rfl); (case aB => exact (by repeat (first | (with_reducible first | exact HB.out | apply below_alloc | apply pw_below_drewN | apply below_drew1) | exact HB.out))); (case aF => exact (fun _ _ => trivial)); (case aO => exact (by (with_reducible repeat (first | apply Kd.R_alloc | apply Kd.R_drewN | apply Kd.R_drew)); exact HO_3.out)); (case aS => exact (below_size (by repeat (first | (with_reducible first | exact HB.out | apply below_alloc | apply pw_below_drewN | apply below_drew1) | exact HB.out)))); (case aL => have := LMc11.out; omega); intro v105 w12 ho hb hg hat; rw [← Ny104.out] at ho; have n0_ := Aside0.mk (hb); have n1_ := Aside0.mk (ho); clear HB; clear HO_3; have HB := n0_; have HO106 := n1_; clear n0_ n1_; clear ho hb hg hat))
                  go_roundg k1
                  case measure => have := HK1.out; omega
                  case rel => exact ⟨(y104), (wrap64 (x4_1 - 8)), (by first | rfl | (simp; done) | (simp [*]; done)), H', ⟨by have := HK1.out; omega⟩, ⟨by (with_reducible repeat (first | apply Kd.R_alloc | apply Kd.R_drewN | apply Kd.R_drew)); exact HO106.out⟩, ⟨by repeat (first | (with_reducible first | exact HB.out | apply below_alloc | apply pw_below_drewN | apply below_drew1) | exact HB.out)⟩⟩
                · rw [if_neg c11] at H
                  exact absurd H (by simp)
              · rw [if_neg c10] at H
                have c10b0 : decide (126 < ((ji4) % 256)) = false := decide_eq_false c10
                clear c10
                by_cases c13 : x3_1.length < 140737488355328
                · rw [if_pos c13] at H
                  have LMc13 := Aside0.mk c13
                  clear c13
                  obtain ⟨y107, hy107⟩ : ∃ y_ : List Int, y_ = (x3_1 ++ [(ji4) % 256]) := ⟨_, rfl⟩
                  replace H : (extend_Name.l0 k1 a0 y107 (wrap64 (x4_1 - 8))) = some r := by first | (rw [hy107]; with_reducible exact H) | (have H2_ := (Option.bind_some _ _).symm.trans H; rw [hy107]; with_reducible exact H2_) | (have H2_ := (Option.bind_some _ _).symm.trans H; with_reducible exact H2_) | with_reducible exact H | (rw [hy107]; exact H) | exact H
                  have Ny107 := Aside0.mk hy107
                  clear hy107
                  have H' := Aside0.mk H
                  clear H
                  go_wp2_with (first | ((with_reducible refine gate_builtin (b := .append) (xs := #[.tmp 22, .tmp 24]) rfl ?_); at_builtin; refine Kd.R_append (Kd.int .u8) (w0 := w) w.heap.size rfl (.tmp 22) (.tmp 24) 67 5 (.int .u8 0) 1 rfl Try.underlying67 info5 rfl (by decide) (by omega) u3 x3_1 ((ji4) % 256) [.int .u8 ((ji4) % 256)] (fun _ => True) (fun _ => False) rfl rfl ?aP (fun _ hk => hk.elim) ?aF ?aO ?aB ?aS ?aL ?_; (case aP => exact rfl); (case aB => exact (by repeat (first | (with_reducible first | exact HB.out | apply below_alloc | apply pw_below_drewN | apply below_drew1) | exact HB.out))); (case aF => exact (fun _ _ => trivial)); (case aO => exact (by (with_reducible repeat (first | apply Kd.R_alloc | apply Kd.R_drewN | apply Kd.R_drew)); exact HO_3.out)); (case aS => exact (below_size (by repeat (first | (with_reducible first | exact HB.out | apply below_alloc | apply pw_below_drewN | apply below_drew1) | exact HB.out)))); (case aL => have := LMc13.out; omega); intro v108 w14 ho hb hg hat; rw [← Ny107.out] at ho; have n0_ := Aside0.mk (hb); have n1_ := Aside0.mk (ho); clear HB; clear HO_3; have HB := n0_; have HO109 := n1_; clear n0_ n1_; clear ho hb hg hat))
                  go_roundg k1
                  case measure => have := HK1.out; omega
                  case rel => exact ⟨(y107), (wrap64 (x4_1 - 8)), (by first | rfl | (simp; done) | (simp [*]; done)), H', ⟨by have := HK1.out; omega⟩, ⟨by (with_reducible repeat (first | apply Kd.R_alloc | apply Kd.R_drewN | apply Kd.R_drew)); exact HO109.out⟩, ⟨by repeat (first | (with_reducible first | exact HB.out | apply below_alloc | apply pw_below_drewN | apply below_drew1) | exact HB.out)⟩⟩
                · rw [if_neg c13] at H
                  exact absurd H (by simp)
        · rw [if_neg c3] at H
          exact absurd H (by simp)
      · rw [if_neg c2] at H
        have c2b0 : decide (0 ≤ x4_1) = false := decide_eq_false c2
        clear c2
        obtain rfl := Option.some.inj H
        have hcv15 := own_string (P := Try.prog) Try.underlying67 Try.underlying5 Try.underlying9 (Kd.own_of_R HO_3.out)
        go_wp2
        go_ret
        exact ⟨by first | rfl | (simp [errW_none, errW_some] <;> rfl) | (simp [*, errW_none, errW_some] <;> rfl), by repeat (first | (with_reducible first | exact HB.out | apply below_alloc | apply pw_below_drewN | apply below_drew1) | exact HB.out)⟩

/-! ### analemmaref05_Number: function 51 -/
def analemmaref05_Number.l0 : Nat → ByteArray → Int → Int → Option (Int)
  | 0, _, _, _ => none
  | k + 1, x0, x3, x4 => if x4 < (x0.size : Int) then (if 0 ≤ x4 then (analemmaref05_Number.l0 k x0 (Go.bits .or .u64 (IntKind.u64.wrap (x3 * 256)) (IntKind.u64.wrap (bt x0 x4))) (wrap64 (x4 + 1))) else (none)) else (some x3)
def analemmaref05_Number.f (k : Nat) (a0 : ByteArray) : Option (Int) := analemmaref05_Number.l0 k a0 0 0
theorem analemmaref05_Number.mono_l : ∀ k, (∀ y0 y1 y2, LeO (analemmaref05_Number.l0 k y0 y1 y2) (analemmaref05_Number.l0 (k + 1) y0 y1 y2))
  | 0 => fun _ _ _ r h => by simp [analemmaref05_Number.l0] at h
  | k + 1 => by
    have ih0 := analemmaref05_Number.mono_l k
    · intro y0 y1 y2
      unfold analemmaref05_Number.l0
      repeat' first
      | (with_reducible exact ih0 _ _ _)
      | (with_reducible exact LeO.refl _)
      | (with_reducible exact LeO.none _)
      | (with_reducible refine LeO.ite ?_ ?_)
      | (with_reducible refine LeO.bind ?_ (fun _ => ?_))
      | exact ih0 _ _ _
      | exact LeO.none _
      | refine LeO.ite ?_ ?_
      | refine LeO.bind ?_ (fun _ => ?_)
theorem analemmaref05_Number.mono : ∀ a0 k, LeO (analemmaref05_Number.f k a0) (analemmaref05_Number.f (k + 1) a0) := by
  intro a0 k
  have ih0 := analemmaref05_Number.mono_l k
  unfold analemmaref05_Number.f
  repeat' first
      | (with_reducible exact ih0 _ _ _)
      | (with_reducible exact LeO.refl _)
      | (with_reducible exact LeO.none _)
      | (with_reducible refine LeO.ite ?_ ?_)
      | (with_reducible refine LeO.bind ?_ (fun _ => ?_))
      | exact ih0 _ _ _
      | exact LeO.none _
      | refine LeO.ite ?_ ?_
      | refine LeO.bind ?_ (fun _ => ?_)
set_option maxHeartbeats 8000000 in
set_option maxRecDepth 100000 in
theorem analemmaref05_Number.calls (k : Nat) (a0 : ByteArray) (r : Int) (w : World) (h : analemmaref05_Number.f k a0 = some r) :
    Calls Try.prog 51 #[.string a0] w fun e w' => e = .returned (.int .u64 r) ∧ Drawn0 w w' := by
  have H : (analemmaref05_Number.l0 k a0 0 0) = some r := h
  clear h
  have H' := Aside0.mk H
  clear H
  go_enter Try.func51, Try.ntmps51
  go_wp2
  go_loopg [3, 4] k (fun kq v3 v4 w' => ∃ (x3_1 : Int) (x4_1 : Int), v3 = .int .u64 x3_1 ∧ v4 = .int .i64 x4_1 ∧ Aside0 (analemmaref05_Number.l0 kq a0 x3_1 x4_1 = some r) ∧ Aside0 (kq ≤ k) ∧ Drawn0 w w')
  case atStart => exact ⟨(0), (0), (by first | rfl | (simp; done) | (simp [*]; done)), (by first | rfl | (simp; done) | (simp [*]; done)), H', ⟨Nat.le_refl _⟩, by repeat (first | exact Drawn0.refl _ | apply Drawn0.step)⟩
  case round =>
    clear H'
    obtain ⟨x3_1, x4_1, rfl, rfl, HA, HK1, ⟨m1, rfl⟩⟩ := hrel
    cases gk with
    | zero => exact absurd HA.out (by simp [analemmaref05_Number.l0])
    | succ k1 =>
      have H := HA.out
      clear HA
      simp only [analemmaref05_Number.l0] at H
      by_cases c2 : x4_1 < (a0.size : Int)
      · rw [if_pos c2] at H
        have c2b0 : decide (x4_1 < (a0.size : Int)) = true := decide_eq_true c2
        clear c2
        by_cases c3 : 0 ≤ x4_1
        · rw [if_pos c3] at H
          have c3b0 : decide (0 ≤ x4_1) = true := decide_eq_true c3
          clear c3
          have H' := Aside0.mk H
          clear H
          have p4 : 0 ≤ (x4_1 : Int) := of_decide_eq_true (by first | (with_reducible assumption) | assumption)
          have q4 : x4_1 < (a0.size : Int) := of_decide_eq_true (by first | (with_reducible assumption) | assumption)
          have hx4 := bt_at a0 x4_1
          replace p4 := eq_true p4
          replace q4 := eq_true q4
          go_wp2
          go_roundg k1
          case measure => have := HK1.out; omega
          case rel => exact ⟨(Go.bits .or .u64 (IntKind.u64.wrap (x3_1 * 256)) (IntKind.u64.wrap (bt a0 x4_1))), (wrap64 (x4_1 + 1)), (by first | rfl | (simp; done) | (simp [*]; done)), (by first | rfl | (simp; done) | (simp [*]; done)), H', ⟨by have := HK1.out; omega⟩, by repeat (first | exact Drawn0.refl _ | apply Drawn0.step)⟩
        · rw [if_neg c3] at H
          exact absurd H (by simp)
      · rw [if_neg c2] at H
        have c2b0 : decide (x4_1 < (a0.size : Int)) = false := decide_eq_false c2
        clear c2
        obtain rfl := Option.some.inj H
        go_wp2
        go_ret
        exact ⟨by first | rfl | (simp; done) | (simp [*]; done), by repeat (first | exact Drawn0.refl _ | apply Drawn0.step)⟩

/-! ### analemmaref05_Ref: function 42 -/
def analemmaref05_Ref.l0 : Nat → ByteArray → Option (Int)
  | 0, _ => none
  | k + 1, x3 => if (x3.size : Int) < 4 then (if x3.size + 1 ≤ 9223372036854775807 then (analemmaref05_Ref.l0 k (x3 ++ (⟨#[0]⟩ : ByteArray))) else (none)) else (if 0 ≤ 4 then (if 4 ≤ (x3.size : Int) then ((analemmaref05_Number.f k (x3.extract 0 4)).bind fun t110 => (some ((t110) % 4294967296))) else (none)) else (none))
def analemmaref05_Ref.f (k : Nat) (a0 : ByteArray) : Option (Int) := analemmaref05_Ref.l0 k a0
theorem analemmaref05_Ref.mono_l : ∀ k, (∀ y0, LeO (analemmaref05_Ref.l0 k y0) (analemmaref05_Ref.l0 (k + 1) y0))
  | 0 => fun _ r h => by simp [analemmaref05_Ref.l0] at h
  | k + 1 => by
    have ih0 := analemmaref05_Ref.mono_l k
    · intro y0
      unfold analemmaref05_Ref.l0
      repeat' first
      | (with_reducible exact ih0 _)
      | (with_reducible exact analemmaref05_Number.mono _ _)
      | (with_reducible exact LeO.refl _)
      | (with_reducible exact LeO.none _)
      | (with_reducible refine LeO.ite ?_ ?_)
      | (with_reducible refine LeO.bind ?_ (fun _ => ?_))
      | exact ih0 _
      | exact analemmaref05_Number.mono _ _
      | exact LeO.none _
      | refine LeO.ite ?_ ?_
      | refine LeO.bind ?_ (fun _ => ?_)
theorem analemmaref05_Ref.mono : ∀ a0 k, LeO (analemmaref05_Ref.f k a0) (analemmaref05_Ref.f (k + 1) a0) := by
  intro a0 k
  have ih0 := analemmaref05_Ref.mono_l k
  unfold analemmaref05_Ref.f
  repeat' first
      | (with_reducible exact ih0 _)
      | (with_reducible exact analemmaref05_Number.mono _ _)
      | (with_reducible exact LeO.refl _)
      | (with_reducible exact LeO.none _)
      | (with_reducible refine LeO.ite ?_ ?_)
      | (with_reducible refine LeO.bind ?_ (fun _ => ?_))
      | exact ih0 _
      | exact analemmaref05_Number.mono _ _
      | exact LeO.none _
      | refine LeO.ite ?_ ?_
      | refine LeO.bind ?_ (fun _ => ?_)
set_option maxHeartbeats 8000000 in
set_option maxRecDepth 100000 in
theorem analemmaref05_Ref.calls (k : Nat) (a0 : ByteArray) (r : Int) (w : World) (h : analemmaref05_Ref.f k a0 = some r) :
    Calls Try.prog 42 #[.string a0] w fun e w' => e = .returned (.int .u32 r) ∧ Drawn0 w w' := by
  have H : (analemmaref05_Ref.l0 k a0) = some r := h
  clear h
  have H' := Aside0.mk H
  clear H
  go_enter Try.func42, Try.ntmps42
  go_wp2
  go_loopg [3] k (fun kq v3 w' => ∃ (x3_1 : ByteArray), v3 = .string x3_1 ∧ Aside0 (analemmaref05_Ref.l0 kq x3_1 = some r) ∧ Aside0 (kq ≤ k) ∧ Drawn0 w w')
  case atStart => exact ⟨(a0), (by first | rfl | (simp; done) | (simp [*]; done)), H', ⟨Nat.le_refl _⟩, by repeat (first | exact Drawn0.refl _ | apply Drawn0.step)⟩
  case round =>
    clear H'
    obtain ⟨x3_1, rfl, HA, HK1, ⟨m1, rfl⟩⟩ := hrel
    cases gk with
    | zero => exact absurd HA.out (by simp [analemmaref05_Ref.l0])
    | succ k1 =>
      have H := HA.out
      clear HA
      simp only [analemmaref05_Ref.l0] at H
      by_cases c2 : (x3_1.size : Int) < 4
      · rw [if_pos c2] at H
        have c2b0 : decide ((x3_1.size : Int) < 4) = true := decide_eq_true c2
        have c2b1 : decide (x3_1.size < 4) = true := decide_eq_true (by omega)
        clear c2
        by_cases c3 : x3_1.size + 1 ≤ 9223372036854775807
        · rw [if_pos c3] at H
          have c3b0 := eq_true c3
          have c3b1 : decide (x3_1.size + 1 ≤ 9223372036854775807) = true := decide_eq_true c3
          try have c3b2 : (9223372036854775807 < x3_1.size + 1) = False := eq_false (Nat.not_lt.2 c3)
          have H' := Aside0.mk H
          clear H
          go_wp2
          go_roundg k1
          case measure => have := HK1.out; omega
          case rel => exact ⟨(x3_1 ++ (⟨#[0]⟩ : ByteArray)), (by first | rfl | (simp; done) | (simp [*]; done)), H', ⟨by have := HK1.out; omega⟩, by repeat (first | exact Drawn0.refl _ | apply Drawn0.step)⟩
        · rw [if_neg c3] at H
          exact absurd H (by simp)
      · rw [if_neg c2] at H
        have c2b0 : decide ((x3_1.size : Int) < 4) = false := decide_eq_false c2
        have c2b1 : decide (x3_1.size < 4) = false := decide_eq_false (by omega)
        clear c2
        by_cases c4 : 0 ≤ 4
        · rw [if_pos c4] at H
          have c4b0 := eq_true c4
          have c4b1 : decide (0 ≤ 4) = true := decide_eq_true c4
          clear c4
          by_cases c5 : 4 ≤ (x3_1.size : Int)
          · rw [if_pos c5] at H
            have c5b0 := eq_true c5
            have c5b1 : decide (4 ≤ (x3_1.size : Int)) = true := decide_eq_true c5
            clear c5
            replace H := Option.bind_eq_some_iff.mp H
            obtain ⟨t110, A60, H⟩ := H
            replace H : (some ((t110) % 4294967296)) = some r := H
            have A6 := Aside0.mk A60
            clear A60
            obtain rfl := Option.some.inj H
            go_wp2_with (first | ((with_reducible refine gate_callee (f := 51) rfl ?_); refine goesL_ (some 12) rfl rfl Try.func51 (by kernel_rfl) rfl #[.string (x3_1.extract 0 4)] rfl (by (try simp only [List.map_toArray, List.map_cons, List.map_nil]); first | done | rfl | (simp only [List.length_drop, List.length_take]; rfl)) ?_; (with_reducible refine (analemmaref05_Number.calls k1 (x3_1.extract 0 4) t110 _ A6.out).mono ?_); rintro e w' ⟨rfl, ⟨nd, rfl⟩⟩; refine ⟨_, rfl, ?_⟩))
            go_ret
            exact ⟨by first | rfl | (simp; done) | (simp [*]; done), by repeat (first | exact Drawn0.refl _ | apply Drawn0.step)⟩
          · rw [if_neg c5] at H
            exact absurd H (by simp)
        · rw [if_neg c4] at H
          exact absurd H (by simp)

/-! ### analemmaref06_Kiss: function 18 -/
def analemmaref06_Kiss.f (k : Nat) (a0 : Int) (a1 : Int) : Option (Int) := if a0 = 0 then ((analemmaref05_Ref.f k (⟨#[68, 69, 78, 89]⟩ : ByteArray)).bind fun t111 => (if a1 = t111 then (some 1) else ((analemmaref05_Ref.f k (⟨#[82, 83, 84, 82]⟩ : ByteArray)).bind fun t112 => (if a1 = t112 then (some 2) else ((analemmaref05_Ref.f k (⟨#[82, 65, 84, 69]⟩ : ByteArray)).bind fun t113 => (if a1 = t113 then (some 3) else (some 4))))))) else (some 0)
theorem analemmaref06_Kiss.mono : ∀ a0 a1 k, LeO (analemmaref06_Kiss.f k a0 a1) (analemmaref06_Kiss.f (k + 1) a0 a1) := by
  intro a0 a1 k
  unfold analemmaref06_Kiss.f
  repeat' first
      | (with_reducible exact analemmaref05_Ref.mono _ _)
      | (with_reducible exact LeO.refl _)
      | (with_reducible exact LeO.none _)
      | (with_reducible refine LeO.ite ?_ ?_)
      | (with_reducible refine LeO.bind ?_ (fun _ => ?_))
      | exact analemmaref05_Ref.mono _ _
      | exact LeO.none _
      | refine LeO.ite ?_ ?_
      | refine LeO.bind ?_ (fun _ => ?_)
set_option maxHeartbeats 8000000 in
set_option maxRecDepth 100000 in
theorem analemmaref06_Kiss.calls (k : Nat) (a0 : Int) (a1 : Int) (r : Int) (w : World) (h : analemmaref06_Kiss.f k a0 a1 = some r) :
    Calls Try.prog 18 #[.int .i64 a0, .int .u32 a1] w fun e w' => e = .returned (.int .i64 r) ∧ Drawn0 w w' := by
  have H : (if a0 = 0 then ((analemmaref05_Ref.f k (⟨#[68, 69, 78, 89]⟩ : ByteArray)).bind fun t111 => (if a1 = t111 then (some 1) else ((analemmaref05_Ref.f k (⟨#[82, 83, 84, 82]⟩ : ByteArray)).bind fun t112 => (if a1 = t112 then (some 2) else ((analemmaref05_Ref.f k (⟨#[82, 65, 84, 69]⟩ : ByteArray)).bind fun t113 => (if a1 = t113 then (some 3) else (some 4))))))) else (some 0)) = some r := h
  clear h
  by_cases c3 : a0 = 0
  · rw [if_pos c3] at H
    have c3b0 : (a0 == 0) = true := beq_iff_eq.mpr c3
    have c3b1 : (a0 != 0) = false := bne_eq_false_iff_eq.mpr c3
    clear c3
    replace H := Option.bind_eq_some_iff.mp H
    obtain ⟨t111, A40, H⟩ := H
    replace H : (if a1 = t111 then (some 1) else ((analemmaref05_Ref.f k (⟨#[82, 83, 84, 82]⟩ : ByteArray)).bind fun t112 => (if a1 = t112 then (some 2) else ((analemmaref05_Ref.f k (⟨#[82, 65, 84, 69]⟩ : ByteArray)).bind fun t113 => (if a1 = t113 then (some 3) else (some 4)))))) = some r := H
    have A4 := Aside0.mk A40
    clear A40
    by_cases c5 : a1 = t111
    · rw [if_pos c5] at H
      have c5b0 : (a1 == t111) = true := beq_iff_eq.mpr c5
      have c5b1 : (a1 != t111) = false := bne_eq_false_iff_eq.mpr c5
      clear c5
      obtain rfl := Option.some.inj H
      go_enter Try.func18, Try.ntmps18
      go_wp2_with (first | ((with_reducible refine gate_callee (f := 42) rfl ?_); refine goesL_ (some 10) rfl rfl Try.func42 (by kernel_rfl) rfl #[.string (⟨#[68, 69, 78, 89]⟩ : ByteArray)] rfl (by (try simp only [List.map_toArray, List.map_cons, List.map_nil]); first | done | rfl | (simp only [List.length_drop, List.length_take]; rfl)) ?_; (with_reducible refine (analemmaref05_Ref.calls k (⟨#[68, 69, 78, 89]⟩ : ByteArray) t111 _ A4.out).mono ?_); rintro e w' ⟨rfl, ⟨nd, rfl⟩⟩; refine ⟨_, rfl, ?_⟩))
      go_ret
      exact ⟨by first | rfl | (simp; done) | (simp [*]; done), by repeat (first | exact Drawn0.refl _ | apply Drawn0.step)⟩
    · rw [if_neg c5] at H
      have c5b0 : (a1 == t111) = false := beq_eq_false_iff_ne.mpr c5
      have c5b1 : (a1 != t111) = true := bne_iff_ne.mpr c5
      replace H := Option.bind_eq_some_iff.mp H
      obtain ⟨t112, A60, H⟩ := H
      replace H : (if a1 = t112 then (some 2) else ((analemmaref05_Ref.f k (⟨#[82, 65, 84, 69]⟩ : ByteArray)).bind fun t113 => (if a1 = t113 then (some 3) else (some 4)))) = some r := H
      have A6 := Aside0.mk A60
      clear A60
      by_cases c7 : a1 = t112
      · rw [if_pos c7] at H
        have c7b0 : (a1 == t112) = true := beq_iff_eq.mpr c7
        have c7b1 : (a1 != t112) = false := bne_eq_false_iff_eq.mpr c7
        clear c7
        obtain rfl := Option.some.inj H
        go_enter Try.func18, Try.ntmps18
        go_wp2_with (first | ((with_reducible refine gate_callee (f := 42) rfl ?_); refine goesL_ (some 10) rfl rfl Try.func42 (by kernel_rfl) rfl #[.string (⟨#[68, 69, 78, 89]⟩ : ByteArray)] rfl (by (try simp only [List.map_toArray, List.map_cons, List.map_nil]); first | done | rfl | (simp only [List.length_drop, List.length_take]; rfl)) ?_; (with_reducible refine (analemmaref05_Ref.calls k (⟨#[68, 69, 78, 89]⟩ : ByteArray) t111 _ A4.out).mono ?_); rintro e w' ⟨rfl, ⟨nd, rfl⟩⟩; refine ⟨_, rfl, ?_⟩) | ((with_reducible refine gate_callee (f := 42) rfl ?_); refine goesL_ (some 14) rfl rfl Try.func42 (by kernel_rfl) rfl #[.string (⟨#[82, 83, 84, 82]⟩ : ByteArray)] rfl (by (try simp only [List.map_toArray, List.map_cons, List.map_nil]); first | done | rfl | (simp only [List.length_drop, List.length_take]; rfl)) ?_; (with_reducible refine (analemmaref05_Ref.calls k (⟨#[82, 83, 84, 82]⟩ : ByteArray) t112 _ A6.out).mono ?_); rintro e w' ⟨rfl, ⟨nd, rfl⟩⟩; refine ⟨_, rfl, ?_⟩))
        go_ret
        exact ⟨by first | rfl | (simp; done) | (simp [*]; done), by repeat (first | exact Drawn0.refl _ | apply Drawn0.step)⟩
      · rw [if_neg c7] at H
        have c7b0 : (a1 == t112) = false := beq_eq_false_iff_ne.mpr c7
        have c7b1 : (a1 != t112) = true := bne_iff_ne.mpr c7
        replace H := Option.bind_eq_some_iff.mp H
        obtain ⟨t113, A80, H⟩ := H
        replace H : (if a1 = t113 then (some 3) else (some 4)) = some r := H
        have A8 := Aside0.mk A80
        clear A80
        by_cases c9 : a1 = t113
        · rw [if_pos c9] at H
          have c9b0 : (a1 == t113) = true := beq_iff_eq.mpr c9
          have c9b1 : (a1 != t113) = false := bne_eq_false_iff_eq.mpr c9
          clear c9
          obtain rfl := Option.some.inj H
          go_enter Try.func18, Try.ntmps18
          go_wp2_with (first | ((with_reducible refine gate_callee (f := 42) rfl ?_); refine goesL_ (some 10) rfl rfl Try.func42 (by kernel_rfl) rfl #[.string (⟨#[68, 69, 78, 89]⟩ : ByteArray)] rfl (by (try simp only [List.map_toArray, List.map_cons, List.map_nil]); first | done | rfl | (simp only [List.length_drop, List.length_take]; rfl)) ?_; (with_reducible refine (analemmaref05_Ref.calls k (⟨#[68, 69, 78, 89]⟩ : ByteArray) t111 _ A4.out).mono ?_); rintro e w' ⟨rfl, ⟨nd, rfl⟩⟩; refine ⟨_, rfl, ?_⟩) | ((with_reducible refine gate_callee (f := 42) rfl ?_); refine goesL_ (some 14) rfl rfl Try.func42 (by kernel_rfl) rfl #[.string (⟨#[82, 83, 84, 82]⟩ : ByteArray)] rfl (by (try simp only [List.map_toArray, List.map_cons, List.map_nil]); first | done | rfl | (simp only [List.length_drop, List.length_take]; rfl)) ?_; (with_reducible refine (analemmaref05_Ref.calls k (⟨#[82, 83, 84, 82]⟩ : ByteArray) t112 _ A6.out).mono ?_); rintro e w' ⟨rfl, ⟨nd, rfl⟩⟩; refine ⟨_, rfl, ?_⟩) | ((with_reducible refine gate_callee (f := 42) rfl ?_); refine goesL_ (some 18) rfl rfl Try.func42 (by kernel_rfl) rfl #[.string (⟨#[82, 65, 84, 69]⟩ : ByteArray)] rfl (by (try simp only [List.map_toArray, List.map_cons, List.map_nil]); first | done | rfl | (simp only [List.length_drop, List.length_take]; rfl)) ?_; (with_reducible refine (analemmaref05_Ref.calls k (⟨#[82, 65, 84, 69]⟩ : ByteArray) t113 _ A8.out).mono ?_); rintro e w' ⟨rfl, ⟨nd, rfl⟩⟩; refine ⟨_, rfl, ?_⟩))
          go_ret
          exact ⟨by first | rfl | (simp; done) | (simp [*]; done), by repeat (first | exact Drawn0.refl _ | apply Drawn0.step)⟩
        · rw [if_neg c9] at H
          have c9b0 : (a1 == t113) = false := beq_eq_false_iff_ne.mpr c9
          have c9b1 : (a1 != t113) = true := bne_iff_ne.mpr c9
          obtain rfl := Option.some.inj H
          go_enter Try.func18, Try.ntmps18
          go_wp2_with (first | ((with_reducible refine gate_callee (f := 42) rfl ?_); refine goesL_ (some 10) rfl rfl Try.func42 (by kernel_rfl) rfl #[.string (⟨#[68, 69, 78, 89]⟩ : ByteArray)] rfl (by (try simp only [List.map_toArray, List.map_cons, List.map_nil]); first | done | rfl | (simp only [List.length_drop, List.length_take]; rfl)) ?_; (with_reducible refine (analemmaref05_Ref.calls k (⟨#[68, 69, 78, 89]⟩ : ByteArray) t111 _ A4.out).mono ?_); rintro e w' ⟨rfl, ⟨nd, rfl⟩⟩; refine ⟨_, rfl, ?_⟩) | ((with_reducible refine gate_callee (f := 42) rfl ?_); refine goesL_ (some 14) rfl rfl Try.func42 (by kernel_rfl) rfl #[.string (⟨#[82, 83, 84, 82]⟩ : ByteArray)] rfl (by (try simp only [List.map_toArray, List.map_cons, List.map_nil]); first | done | rfl | (simp only [List.length_drop, List.length_take]; rfl)) ?_; (with_reducible refine (analemmaref05_Ref.calls k (⟨#[82, 83, 84, 82]⟩ : ByteArray) t112 _ A6.out).mono ?_); rintro e w' ⟨rfl, ⟨nd, rfl⟩⟩; refine ⟨_, rfl, ?_⟩) | ((with_reducible refine gate_callee (f := 42) rfl ?_); refine goesL_ (some 18) rfl rfl Try.func42 (by kernel_rfl) rfl #[.string (⟨#[82, 65, 84, 69]⟩ : ByteArray)] rfl (by (try simp only [List.map_toArray, List.map_cons, List.map_nil]); first | done | rfl | (simp only [List.length_drop, List.length_take]; rfl)) ?_; (with_reducible refine (analemmaref05_Ref.calls k (⟨#[82, 65, 84, 69]⟩ : ByteArray) t113 _ A8.out).mono ?_); rintro e w' ⟨rfl, ⟨nd, rfl⟩⟩; refine ⟨_, rfl, ?_⟩))
          go_ret
          exact ⟨by first | rfl | (simp; done) | (simp [*]; done), by repeat (first | exact Drawn0.refl _ | apply Drawn0.step)⟩
  · rw [if_neg c3] at H
    have c3b0 : (a0 == 0) = false := beq_eq_false_iff_ne.mpr c3
    have c3b1 : (a0 != 0) = true := bne_iff_ne.mpr c3
    obtain rfl := Option.some.inj H
    go_enter Try.func18, Try.ntmps18
    go_wp2
    go_ret
    exact ⟨by first | rfl | (simp; done) | (simp [*]; done), by repeat (first | exact Drawn0.refl _ | apply Drawn0.step)⟩

end Go.Proofs.Ytlbelgdcicholaa.MExt
