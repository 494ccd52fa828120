/- Functions that the statements of this seat reach, each as a plain Lean function, with a proof that the Go code comes to its answers; no condition. -/
import Derived.Test.YtomjongnjfodmaaMFixRx0
import Derived.Test.YtomjongnjfodmaaMFixRx1
import Derived.Test.YtomjongnjfodmaaMFixRx2
namespace Go.Proofs.Ytomjongnjfodmaa.MFixR
open Go.RowKit Go.Proofs.YtomjongnjfodmaaW.PrintWords Go.Proofs.YtomjongnjfodmaaW.PrintLast Go.Proofs.YtomjongnjfodmaaW.PrintMore
attribute [local go_sem] max2_int min2_int max_two min_two max_three min_three max_four min_four   -- for this text's walks alone
set_option linter.unusedVariables false
set_option linter.unusedSimpArgs false

/-! ### fix_Mean: function 20 -/
def fix_Mean.psum : List Int → Int
  | [] => 0
  | x :: xs => (if x < 0 then 0 else x) + fix_Mean.psum xs
def fix_Mean.nsum : List Int → Int
  | [] => 0
  | x :: xs => (if x < 0 then -x else 0) + fix_Mean.nsum xs
def fix_Mean.In (x : Int) : Bool := decide (-9223372036854775808 ≤ x) && decide (x ≤ 9223372036854775807)
/-- What the difference of both sums, a size and a sign, divided by how many there are, is cut to. -/
def fix_Mean.fin (p n len : Int) : Option Int :=
  if p < n then fix_cut.f ((n - p) / len) ((n - p) % len) true else fix_cut.f ((p - n) / len) ((p - n) % len) false
def fix_Mean.f (l0 : List Int) : Option (Int) :=
  if l0.length = 0 then some 0 else if l0.all fix_Mean.In = true ∧ l0.length ≤ 17592186044416 then fix_Mean.fin (fix_Mean.psum l0) (fix_Mean.nsum l0) l0.length else none
theorem fix_Mean.psum_snoc (l : List Int) (x : Int) : fix_Mean.psum (l ++ [x]) = fix_Mean.psum l + (if x < 0 then 0 else x) := by
  induction l with
  | nil => simp [fix_Mean.psum]
  | cons y ys ih => simp only [List.cons_append, fix_Mean.psum, ih]; omega
theorem fix_Mean.nsum_snoc (l : List Int) (x : Int) : fix_Mean.nsum (l ++ [x]) = fix_Mean.nsum l + (if x < 0 then -x else 0) := by
  induction l with
  | nil => simp [fix_Mean.nsum]
  | cons y ys ih => simp only [List.cons_append, fix_Mean.nsum, ih]; omega
theorem fix_Mean.bd (l : List Int) (h : l.all fix_Mean.In = true) : 0 ≤ fix_Mean.psum l ∧ 0 ≤ fix_Mean.nsum l ∧ fix_Mean.psum l + fix_Mean.nsum l ≤ l.length * 9223372036854775808 := by
  induction l with
  | nil => simp [fix_Mean.psum, fix_Mean.nsum]
  | cons y ys ih =>
    simp only [List.all_cons, Bool.and_eq_true] at h
    have h1 := ih h.2
    have h2 := h.1
    unfold fix_Mean.In at h2
    rw [Bool.and_eq_true, decide_eq_true_iff, decide_eq_true_iff] at h2
    simp only [fix_Mean.psum, fix_Mean.nsum, List.length_cons]
    split <;> omega
theorem fix_Mean.take_all (l : List Int) (j : Nat) (h : l.all fix_Mean.In = true) : (l.take j).all fix_Mean.In = true := by
  rw [List.all_eq_true] at h ⊢
  exact fun x hx => h x (List.mem_of_mem_take hx)
theorem fix_Mean.take_snoc (l : List Int) (j : Nat) (h : j < l.length) : l.take (j + 1) = l.take j ++ [rd l (j : Int)] := by
  rw [List.take_succ_eq_append_getElem h]
  congr 2
  unfold rd
  simp [h]
theorem fix_Mean.at_in (l : List Int) (j : Nat) (h : l.all fix_Mean.In = true) (hj : j < l.length) : -9223372036854775808 ≤ rd l (j : Int) ∧ rd l (j : Int) ≤ 9223372036854775807 := by
  rw [List.all_eq_true] at h
  have e : rd l (j : Int) = l[j] := by unfold rd; simp [hj]
  have := h l[j] (List.getElem_mem hj)
  unfold fix_Mean.In at this
  rw [Bool.and_eq_true, decide_eq_true_iff, decide_eq_true_iff] at this
  rw [e]
  exact this
theorem fix_Mean.plus (p x : Int) (h0 : 0 ≤ p) (h1 : 0 ≤ x) (h2 : x ≤ 18446744073709551615) (h3 : p + x < 340282366920938463463374607431768211456) :
    wide_Plus.f (p / 18446744073709551616) (p % 18446744073709551616) 0 x = some ((p + x) / 18446744073709551616, (p + x) % 18446744073709551616, false) := by
  unfold wide_Plus.f
  simp only [IntKind.wrap_u64]
  by_cases c : (p % 18446744073709551616 + x) % 18446744073709551616 < p % 18446744073709551616
  · rw [if_pos c, if_neg (by omega)]
    congr 2
    · omega
    · congr 1
      · omega
      · rw [beq_eq_false_iff_ne]
        omega
  · rw [if_neg c]
    congr 2
    · omega
    · congr 1
      · omega
      · exact decide_eq_false (by omega)
theorem fix_Mean.bset {w w1 : World} (h : Below w.heap.size w w1) (i : Nat) (u : Value) : Below w.heap.size w (w1.setCell ⟨w.heap.size, i, none⟩ u) := Below.setCell h (Nat.le_refl _) u
theorem fix_Mean.bset2 {w w1 : World} (h : Below w.heap.size w w1) (b i : Nat) (u : Value) (hb : w.heap.size ≤ b) : Below w.heap.size w (w1.setCell ⟨b, i, none⟩ u) := Below.setCell h hb u
theorem fix_Mean.ret_ {k : IntKind} {a b : Int} (h : a = b) : Ending.returned (.int k a) = .returned (.int k b) := by rw [h]
theorem fix_Mean.size (x : Int) (h0 : -9223372036854775808 ≤ x) (h1 : x ≤ 9223372036854775807) : fix_size.f x = some (if x < 0 then -x else x, decide (x < 0)) := by
  unfold fix_size.f
  rw [IntKind.wrap_u64, IntKind.wrap_u64]
  by_cases c : x < 0
  · rw [if_pos c, if_pos c, decide_eq_true c]
    congr 2
    omega
  · rw [if_neg c, if_neg c, decide_eq_false c]
    congr 2
    omega
set_option maxHeartbeats 16000000 in
set_option maxRecDepth 100000 in
theorem fix_Mean.none_ (A0 : Option Addr) (c0 : Nat) (w : World) :
    Calls Try.prog 20 #[.slice A0 0 c0] w fun e w' => e = .returned (.int .i64 0) ∧ Below w.heap.size w w' := by
  go_enter Try.func20, Try.ntmps20
  go_wp2
  go_ret
  exact ⟨rfl, Below.refl _ _⟩
set_option maxHeartbeats 16000000 in
set_option maxRecDepth 100000 in
theorem fix_Mean.some_ (A0 : Option Addr) (c0 : Nat) (l0 : List Int) (r : Int) (w : World) (hr0 : Kd.C (Kd.int .i64) w A0 l0.length l0) (hc0 : l0.length ≤ c0) (hne : l0.length ≠ 0) (hall : l0.all fix_Mean.In = true) (hlen : l0.length ≤ 17592186044416)
    (h : fix_Mean.fin (fix_Mean.psum l0) (fix_Mean.nsum l0) l0.length = some r) :
    Calls Try.prog 20 #[.slice A0 l0.length c0] w fun e w' => e = .returned (.int .i64 r) ∧ Below w.heap.size w w' := by
  have HR0 := Aside0.mk hr0
  have HC0 := Aside0.mk hc0
  have HALL := Aside0.mk hall
  have HF := Aside0.mk h
  have HLEN := Aside0.mk hlen
  have z0 : ((l0.length : Int) == 0) = false := beq_eq_false_iff_ne.mpr (by omega)
  have hlen2 : (l0.length : Int) ≤ 17592186044416 := by omega
  have HNE := Aside0.mk hne
  clear hr0 hc0 h hall hlen hne
  go_enter Try.func20, Try.ntmps20
  go_wp2
  have hbel : Below w.heap.size w (w.alloc (Obj.cells #[Value.int IntKind.u64 0, Value.int IntKind.u64 0, Value.int IntKind.u64 0, Value.int IntKind.u64 0] 52)) := below_alloc (Below.refl _ _) _
  have hcz : (w.alloc (Obj.cells #[Value.int IntKind.u64 0, Value.int IntKind.u64 0, Value.int IntKind.u64 0, Value.int IntKind.u64 0] 52)).heap[w.heap.size]? = some (Obj.cells #[Value.int IntKind.u64 0, Value.int IntKind.u64 0, Value.int IntKind.u64 0, Value.int IntKind.u64 0] 52 (0, 0)) := blk_new w _
  go_outline
  generalize (w.alloc (Obj.cells #[Value.int IntKind.u64 0, Value.int IntKind.u64 0, Value.int IntKind.u64 0, Value.int IntKind.u64 0] 52)) = w0 at hbel hcz ⊢
  have HB := Aside0.mk hbel
  have HZ := Aside0.mk hcz
  clear hbel hcz
  go_loopg [22] l0.length (fun g i wr => ∃ j : Nat, j ≤ l0.length ∧ g = l0.length - j ∧ i = .int .i64 j ∧ wr.heap[w.heap.size]? = some (Obj.cells #[Value.int IntKind.u64 (fix_Mean.psum (l0.take j) / 18446744073709551616), Value.int IntKind.u64 (fix_Mean.psum (l0.take j) % 18446744073709551616), Value.int IntKind.u64 (fix_Mean.nsum (l0.take j) / 18446744073709551616), Value.int IntKind.u64 (fix_Mean.nsum (l0.take j) % 18446744073709551616)] 52 (0, 0)) ∧ Below w.heap.size w wr)
  case atStart => exact ⟨0, by omega, by omega, rfl, by simpa [fix_Mean.psum, fix_Mean.nsum] using HZ.out, HB.out⟩
  case round =>
    obtain ⟨j, hj, hg, rfl, hcz, hbel⟩ := hrel
    clear HB HZ
    have HB := Aside0.mk hbel
    have HZ := Aside0.mk hcz
    have HG := Aside0.mk hg
    clear hbel hcz hg
    obtain ⟨wo, rfl⟩ : ∃ wo : World, wo = wr := ⟨_, rfl⟩
    by_cases hlt : j < l0.length
    · have tb := fix_Mean.bd (l0.take j) (fix_Mean.take_all l0 j HALL.out)
      have tl : (l0.take j).length = j := by rw [List.length_take]; omega
      have ts := fix_Mean.take_snoc l0 j hlt
      have xb := fix_Mean.at_in l0 j HALL.out hlt
      have ps := fix_Mean.psum_snoc (l0.take j) (rd l0 (j : Int))
      have ns := fix_Mean.nsum_snoc (l0.take j) (rd l0 (j : Int))
      rw [← ts] at ps ns
      obtain ⟨ad, ead, hx⟩ := Kd.at_int HR0.out (j : Int) (by omega) (by omega)
      cases ead
      rw [Int.toNat_natCast] at hx
      replace hx := (HB.out.cell (World.block_lt_of_cell? w _ hx)).trans hx
      obtain ⟨x, hxx⟩ : ∃ x, rd l0 (j : Int) = x := ⟨_, rfl⟩
      obtain ⟨p, hp⟩ : ∃ p, fix_Mean.psum (l0.take j) = p := ⟨_, rfl⟩
      obtain ⟨n, hn⟩ : ∃ n, fix_Mean.nsum (l0.take j) = n := ⟨_, rfl⟩
      have hz := HZ.out
      rw [hxx] at ps ns xb hx
      rw [hp] at ps tb hz
      rw [hn] at ns tb hz
      have HSZ := Aside0.mk (fix_Mean.size x xb.1 xb.2)
      have HPS := Aside0.mk ps
      have HNS := Aside0.mk ns
      have HPN := Aside0.mk (show 0 ≤ p ∧ 0 ≤ n ∧ p + n ≤ 17592186044416 * 9223372036854775808 by have := HLEN.out; omega)
      have HXB := Aside0.mk xb
      clear HZ
      have HZ := Aside0.mk hz
      have hzl : w.heap.size < wo.heap.size := blk_lt hz
      have f0 := blk_frozen hz 0
      have f1 := blk_frozen hz 1
      have f2 := blk_frozen hz 2
      have f3 := blk_frozen hz 3
      have k0 := (blk_cell hz 0).trans (show _ = some (Value.int IntKind.u64 (p / 18446744073709551616)) from rfl)
      have k1 := (blk_cell hz 1).trans (show _ = some (Value.int IntKind.u64 (p % 18446744073709551616)) from rfl)
      have k2 := (blk_cell hz 2).trans (show _ = some (Value.int IntKind.u64 (n / 18446744073709551616)) from rfl)
      have k3 := (blk_cell hz 3).trans (show _ = some (Value.int IntKind.u64 (n % 18446744073709551616)) from rfl)
      clear hz tb tl ts xb ps ns hp hn hxx
      by_cases s : x < 0
      · have HPL := Aside0.mk (fix_Mean.plus n (-x) (by have := HPN.out; omega) (by omega) (by have := HXB.out; omega) (by have := HPN.out; have := HXB.out; omega))
        have hs := HSZ.out
        rw [if_pos s, decide_eq_true s] at hs
        have HS2 := Aside0.mk hs
        have HSX := Aside0.mk s
        clear hs HSZ s
        have e1 : fix_Mean.psum (l0.take (j + 1)) = p := by rw [HPS.out, if_pos HSX.out]; omega
        have e2 : fix_Mean.nsum (l0.take (j + 1)) = n + -x := by rw [HNS.out, if_pos HSX.out]
        have E1 := Aside0.mk e1
        have E2 := Aside0.mk e2
        clear e1 e2
        go_upto_region 11 with (first | (go_at_call 39; (with_reducible refine (fix_size.calls x (-x) true _ HS2.out).mono ?_); rintro e w' ⟨rfl, ⟨nd, rfl⟩⟩))
        go_region_with (go_at_call 43; (with_reducible refine (wide_Plus.calls _ _ 0 (-x) _ _ false _ HPL.out).mono ?_); rintro e w' ⟨rfl, ⟨nd, rfl⟩⟩)
        all_goals
          go_wp2
          have hg := HG.out
          go_roundg (l0.length - (j + 1))
          case measure => omega
          case rel => exact ⟨j + 1, by omega, rfl, by first | rfl | go_num, by rw [E1.out, E2.out]; first | exact blk_put (blk_put (blk_drewN HZ.out _) 2 _ rfl) 3 _ rfl | exact blk_put (blk_put (blk_drewN HZ.out _) 3 _ rfl) 2 _ rfl | exact blk_put (blk_put HZ.out 2 _ rfl) 3 _ rfl, by repeat (first | exact HB.out | apply below_drew | apply pw_below_drewN | refine fix_Mean.bset ?_ _ _)⟩
      · have HPL := Aside0.mk (fix_Mean.plus p x (by have := HPN.out; omega) (by omega) (by have := HXB.out; omega) (by have := HPN.out; have := HXB.out; omega))
        have hs := HSZ.out
        rw [if_neg s, decide_eq_false s] at hs
        have HS2 := Aside0.mk hs
        have HSX := Aside0.mk s
        have e1 : fix_Mean.psum (l0.take (j + 1)) = p + x := by rw [HPS.out, if_neg HSX.out]
        have e2 : fix_Mean.nsum (l0.take (j + 1)) = n := by rw [HNS.out, if_neg HSX.out]; omega
        have E1 := Aside0.mk e1
        have E2 := Aside0.mk e2
        clear hs HSZ s e1 e2
        go_upto_region 11 with (first | (go_at_call 39; (with_reducible refine (fix_size.calls x x false _ HS2.out).mono ?_); rintro e w' ⟨rfl, ⟨nd, rfl⟩⟩))
        go_region_with (go_at_call 43; (with_reducible refine (wide_Plus.calls _ _ 0 x _ _ false _ HPL.out).mono ?_); rintro e w' ⟨rfl, ⟨nd, rfl⟩⟩)
        all_goals
          go_wp2
          have hg := HG.out
          go_roundg (l0.length - (j + 1))
          case measure => omega
          case rel => exact ⟨j + 1, by omega, rfl, by first | rfl | go_num, by rw [E1.out, E2.out]; first | exact blk_put (blk_put (blk_drewN HZ.out _) 0 _ rfl) 1 _ rfl | exact blk_put (blk_put (blk_drewN HZ.out _) 1 _ rfl) 0 _ rfl | exact blk_put (blk_put HZ.out 0 _ rfl) 1 _ rfl, by repeat (first | exact HB.out | apply below_drew | apply pw_below_drewN | refine fix_Mean.bset ?_ _ _)⟩
    · obtain rfl : j = l0.length := by omega
      have hz := HZ.out
      rw [List.take_length] at hz
      have pb := fix_Mean.bd l0 HALL.out
      obtain ⟨p, hpp⟩ : ∃ p, fix_Mean.psum l0 = p := ⟨_, rfl⟩
      obtain ⟨n, hnn⟩ : ∃ n, fix_Mean.nsum l0 = n := ⟨_, rfl⟩
      rw [hpp, hnn] at pb hz
      have pn : 0 ≤ p ∧ 0 ≤ n ∧ p + n ≤ (l0.length : Int) * 9223372036854775808 ∧ 1 ≤ (l0.length : Int) ∧ (l0.length : Int) ≤ 17592186044416 := by
        have := HLEN.out
        have := HNE.out
        omega
      have wl : IntKind.u64.wrap (l0.length : Int) = (l0.length : Int) := by rw [IntKind.wrap_u64]; omega
      obtain ⟨ph, hph⟩ : ∃ x, p / 18446744073709551616 = x := ⟨_, rfl⟩
      obtain ⟨pl, hpl⟩ : ∃ x, p % 18446744073709551616 = x := ⟨_, rfl⟩
      obtain ⟨nh, hnh⟩ : ∃ x, n / 18446744073709551616 = x := ⟨_, rfl⟩
      obtain ⟨nl, hnl⟩ : ∃ x, n % 18446744073709551616 = x := ⟨_, rfl⟩
      rw [hph, hpl, hnh, hnl] at hz
      have hp : p = ph * 18446744073709551616 + pl ∧ 0 ≤ pl ∧ pl ≤ 18446744073709551615 ∧ 0 ≤ ph := by omega
      have hn : n = nh * 18446744073709551616 + nl ∧ 0 ≤ nl ∧ nl ≤ 18446744073709551615 ∧ 0 ≤ nh := by omega
      have hzl : w.heap.size < wo.heap.size := blk_lt hz
      have k0 := (blk_cell hz 0).trans (show _ = some (Value.int IntKind.u64 ph) from rfl)
      have k1 := (blk_cell hz 1).trans (show _ = some (Value.int IntKind.u64 pl) from rfl)
      have k2 := (blk_cell hz 2).trans (show _ = some (Value.int IntKind.u64 nh) from rfl)
      have k3 := (blk_cell hz 3).trans (show _ = some (Value.int IntKind.u64 nl) from rfl)
      clear hph hpl hnh hnl HZ hz pb
      by_cases s : p < n
      · obtain ⟨D, hD⟩ : ∃ D, n - p = D := ⟨_, rfl⟩
        have hle : wide_Less.f ph pl nh nl = some true := by
          unfold wide_Less.f
          by_cases q : ph = nh
          · rw [if_pos q]
            congr 1
            exact decide_eq_true (by omega)
          · rw [if_neg q]
            congr 1
            exact decide_eq_true (by omega)
        have hDb : 0 ≤ D ∧ D ≤ 17592186044416 * 9223372036854775808 := by omega
        obtain ⟨dh, hdh⟩ : ∃ x, D / 18446744073709551616 = x := ⟨_, rfl⟩
        obtain ⟨dl_, hdl⟩ : ∃ x, D % 18446744073709551616 = x := ⟨_, rfl⟩
        have hd : D = dh * 18446744073709551616 + dl_ ∧ 0 ≤ dl_ ∧ dl_ ≤ 18446744073709551615 := by omega
        have hdiv : wide_Div.f dh dl_ l0.length = some (D / l0.length, D % l0.length, true) := by
          unfold wide_Div.f
          rw [if_pos ⟨by omega, by omega, by omega, by omega, by omega, by omega⟩, if_neg (by omega), hd.1]
        have hcut : fix_cut.f (D / l0.length) (D % l0.length) true = some r := by
          have h := HF.out
          unfold fix_Mean.fin at h
          rw [hpp, hnn, if_pos s, hD] at h
          exact h
        have wlo : IntKind.u64.wrap (nl - pl) = dl_ := by rw [IntKind.wrap_u64]; omega
        have HLE := Aside0.mk hle
        have HDIV := Aside0.mk hdiv
        have HCUT := Aside0.mk hcut
        clear hle hdiv hcut s hdh hdl hpp hnn
        by_cases bo : nl < pl
        · have dl : decide (nl < pl) = true := decide_eq_true bo
          have whi : IntKind.u64.wrap (IntKind.u64.wrap (nh - ph) - 1) = dh := by rw [IntKind.wrap_u64, IntKind.wrap_u64]; omega
          clear bo hp hn hd pn hD hDb
          go_wp2_with (fail)
          go_region
          all_goals
            go_wp2_with (first | (go_at_call 44; (with_reducible refine (wide_Less.calls ph pl nh nl true _ HLE.out).mono ?_); rintro e w' ⟨rfl, ⟨nd, rfl⟩⟩))
            go_quiet (fail)
            go_wp2_with (first | (go_at_call 42; (with_reducible refine (wide_Div.calls dh dl_ _ _ _ true _ HDIV.out).mono ?_); rintro e wd ⟨rfl, hbd⟩; have HBD := Aside0.mk hbd; clear hbd) | (go_at_call 37; (with_reducible refine (fix_cut.calls _ _ true r _ HCUT.out).mono ?_); rintro e we ⟨rfl, hbe⟩; have HBE := Aside0.mk hbe; clear hbe))
            go_ret
            exact ⟨fix_Mean.ret_ rfl, below_step (below_step (by repeat (first | exact HB.out | apply below_alloc | apply pw_below_drewN | apply below_drew | refine fix_Mean.bset2 ?_ _ _ _ (by omega))) HBD.out) HBE.out⟩
        · have dl : decide (nl < pl) = false := decide_eq_false bo
          have whi : IntKind.u64.wrap (nh - ph) = dh := by rw [IntKind.wrap_u64]; omega
          clear bo hp hn hd pn hD hDb
          go_wp2_with (fail)
          go_region
          all_goals
            go_wp2_with (first | (go_at_call 44; (with_reducible refine (wide_Less.calls ph pl nh nl true _ HLE.out).mono ?_); rintro e w' ⟨rfl, ⟨nd, rfl⟩⟩))
            go_quiet (fail)
            go_wp2_with (first | (go_at_call 42; (with_reducible refine (wide_Div.calls dh dl_ _ _ _ true _ HDIV.out).mono ?_); rintro e wd ⟨rfl, hbd⟩; have HBD := Aside0.mk hbd; clear hbd) | (go_at_call 37; (with_reducible refine (fix_cut.calls _ _ true r _ HCUT.out).mono ?_); rintro e we ⟨rfl, hbe⟩; have HBE := Aside0.mk hbe; clear hbe))
            go_ret
            exact ⟨fix_Mean.ret_ rfl, below_step (below_step (by repeat (first | exact HB.out | apply below_alloc | apply pw_below_drewN | apply below_drew | refine fix_Mean.bset2 ?_ _ _ _ (by omega))) HBD.out) HBE.out⟩
      · obtain ⟨D, hD⟩ : ∃ D, p - n = D := ⟨_, rfl⟩
        have hle : wide_Less.f ph pl nh nl = some false := by
          unfold wide_Less.f
          by_cases q : ph = nh
          · rw [if_pos q]
            congr 1
            exact decide_eq_false (by omega)
          · rw [if_neg q]
            congr 1
            exact decide_eq_false (by omega)
        have hDb : 0 ≤ D ∧ D ≤ 17592186044416 * 9223372036854775808 := by omega
        obtain ⟨dh, hdh⟩ : ∃ x, D / 18446744073709551616 = x := ⟨_, rfl⟩
        obtain ⟨dl_, hdl⟩ : ∃ x, D % 18446744073709551616 = x := ⟨_, rfl⟩
        have hd : D = dh * 18446744073709551616 + dl_ ∧ 0 ≤ dl_ ∧ dl_ ≤ 18446744073709551615 := by omega
        have hdiv : wide_Div.f dh dl_ l0.length = some (D / l0.length, D % l0.length, true) := by
          unfold wide_Div.f
          rw [if_pos ⟨by omega, by omega, by omega, by omega, by omega, by omega⟩, if_neg (by omega), hd.1]
        have hcut : fix_cut.f (D / l0.length) (D % l0.length) false = some r := by
          have h := HF.out
          unfold fix_Mean.fin at h
          rw [hpp, hnn, if_neg s, hD] at h
          exact h
        have wlo : IntKind.u64.wrap (pl - nl) = dl_ := by rw [IntKind.wrap_u64]; omega
        have HLE := Aside0.mk hle
        have HDIV := Aside0.mk hdiv
        have HCUT := Aside0.mk hcut
        clear hle hdiv hcut s hdh hdl hpp hnn
        by_cases bo : pl < nl
        · have dl : decide (pl < nl) = true := decide_eq_true bo
          have whi : IntKind.u64.wrap (IntKind.u64.wrap (ph - nh) - 1) = dh := by rw [IntKind.wrap_u64, IntKind.wrap_u64]; omega
          clear bo hp hn hd pn hD hDb
          go_wp2_with (fail)
          go_region
          all_goals
            go_wp2_with (first | (go_at_call 44; (with_reducible refine (wide_Less.calls ph pl nh nl false _ HLE.out).mono ?_); rintro e w' ⟨rfl, ⟨nd, rfl⟩⟩))
            go_quiet (fail)
            go_wp2_with (first | (go_at_call 42; (with_reducible refine (wide_Div.calls dh dl_ _ _ _ true _ HDIV.out).mono ?_); rintro e wd ⟨rfl, hbd⟩; have HBD := Aside0.mk hbd; clear hbd) | (go_at_call 37; (with_reducible refine (fix_cut.calls _ _ false r _ HCUT.out).mono ?_); rintro e we ⟨rfl, hbe⟩; have HBE := Aside0.mk hbe; clear hbe))
            go_ret
            exact ⟨fix_Mean.ret_ rfl, below_step (below_step (by repeat (first | exact HB.out | apply below_alloc | apply pw_below_drewN | apply below_drew | refine fix_Mean.bset2 ?_ _ _ _ (by omega))) HBD.out) HBE.out⟩
        · have dl : decide (pl < nl) = false := decide_eq_false bo
          have whi : IntKind.u64.wrap (ph - nh) = dh := by rw [IntKind.wrap_u64]; omega
          clear bo hp hn hd pn hD hDb
          go_wp2_with (fail)
          go_region
          all_goals
            go_wp2_with (first | (go_at_call 44; (with_reducible refine (wide_Less.calls ph pl nh nl false _ HLE.out).mono ?_); rintro e w' ⟨rfl, ⟨nd, rfl⟩⟩))
            go_quiet (fail)
            go_wp2_with (first | (go_at_call 42; (with_reducible refine (wide_Div.calls dh dl_ _ _ _ true _ HDIV.out).mono ?_); rintro e wd ⟨rfl, hbd⟩; have HBD := Aside0.mk hbd; clear hbd) | (go_at_call 37; (with_reducible refine (fix_cut.calls _ _ false r _ HCUT.out).mono ?_); rintro e we ⟨rfl, hbe⟩; have HBE := Aside0.mk hbe; clear hbe))
            go_ret
            exact ⟨fix_Mean.ret_ rfl, below_step (below_step (by repeat (first | exact HB.out | apply below_alloc | apply pw_below_drewN | apply below_drew | refine fix_Mean.bset2 ?_ _ _ _ (by omega))) HBD.out) HBE.out⟩

theorem fix_Mean.calls (A0 : Option Addr) (c0 : Nat) (l0 : List Int) (r : Int) (w : World) (hr0 : Kd.C (Kd.int .i64) w A0 l0.length l0) (hc0 : l0.length ≤ c0) (h : fix_Mean.f l0 = some r) :
    Calls Try.prog 20 #[.slice A0 l0.length c0] w fun e w' => e = .returned (.int .i64 r) ∧ Below w.heap.size w w' := by
  unfold fix_Mean.f at h
  by_cases c : l0.length = 0
  · rw [if_pos c] at h
    obtain rfl := Option.some.inj h
    rw [c]
    exact fix_Mean.none_ A0 c0 w
  · rw [if_neg c] at h
    by_cases d : l0.all fix_Mean.In = true ∧ l0.length ≤ 17592186044416
    · rw [if_pos d] at h
      exact fix_Mean.some_ A0 c0 l0 r w hr0 hc0 c d.1 d.2 h
    · rw [if_neg d] at h
      cases h

/-! ### analemmaref02_Mean: function 21 -/
def analemmaref02_Mean.l0 : Nat → List Int → Int → Int → Int → Int → Option (Int)
  | 0, _, _, _, _, _ => none
  | k + 1, x0, x3, x4, x5, x6 => if x6 < (x0.length : Int) then (if 0 ≤ x6 then (if x3 = 0 then (none) else (if (wrap64 ((rd x0 x6) - (wrap64 ((wrap64 (Int.tdiv (rd x0 x6) x3)) * x3)))) < 0 then (analemmaref02_Mean.l0 k x0 x3 (wrap64 (x4 + (wrap64 ((wrap64 (Int.tdiv (rd x0 x6) x3)) - 1)))) (wrap64 (x5 + (wrap64 ((wrap64 ((rd x0 x6) - (wrap64 ((wrap64 (Int.tdiv (rd x0 x6) x3)) * x3)))) + x3)))) (wrap64 (x6 + 1))) else (analemmaref02_Mean.l0 k x0 x3 (wrap64 (x4 + (wrap64 (Int.tdiv (rd x0 x6) x3)))) (wrap64 (x5 + (wrap64 ((rd x0 x6) - (wrap64 ((wrap64 (Int.tdiv (rd x0 x6) x3)) * x3)))))) (wrap64 (x6 + 1))))) else (none)) else (if x3 = 0 then (none) else (some (mx (wrap64 (x4 + (wrap64 (Int.tdiv x5 x3)))) (-9223372036854775807))))
def analemmaref02_Mean.f (k : Nat) (l0 : List Int) : Option (Int) := if (l0.length : Int) = 0 then (some 0) else (analemmaref02_Mean.l0 k l0 (l0.length : Int) 0 0 0)
theorem analemmaref02_Mean.mono_l : ∀ k, (∀ y0 y1 y2 y3 y4, LeO (analemmaref02_Mean.l0 k y0 y1 y2 y3 y4) (analemmaref02_Mean.l0 (k + 1) y0 y1 y2 y3 y4))
  | 0 => fun _ _ _ _ _ r h => by simp [analemmaref02_Mean.l0] at h
  | k + 1 => by
    have ih0 := analemmaref02_Mean.mono_l k
    · intro y0 y1 y2 y3 y4
      unfold analemmaref02_Mean.l0
      repeat' first
      | (with_reducible exact ih0 _ _ _ _ _)
      | (with_reducible exact LeO.refl _)
      | (with_reducible exact LeO.none _)
      | (with_reducible refine LeO.ite ?_ ?_)
      | (with_reducible refine LeO.bind ?_ (fun _ => ?_))
      | exact ih0 _ _ _ _ _
      | exact LeO.none _
      | refine LeO.ite ?_ ?_
      | refine LeO.bind ?_ (fun _ => ?_)
theorem analemmaref02_Mean.mono : ∀ a0 k, LeO (analemmaref02_Mean.f k a0) (analemmaref02_Mean.f (k + 1) a0) := by
  intro a0 k
  have ih0 := analemmaref02_Mean.mono_l k
  unfold analemmaref02_Mean.f
  repeat' first
      | (with_reducible exact ih0 _ _ _ _ _)
      | (with_reducible exact LeO.refl _)
      | (with_reducible exact LeO.none _)
      | (with_reducible refine LeO.ite ?_ ?_)
      | (with_reducible refine LeO.bind ?_ (fun _ => ?_))
      | exact ih0 _ _ _ _ _
      | exact LeO.none _
      | refine LeO.ite ?_ ?_
      | refine LeO.bind ?_ (fun _ => ?_)
set_option maxHeartbeats 8000000 in
set_option maxRecDepth 100000 in
theorem analemmaref02_Mean.calls (k : Nat) (A0 : Option Addr) (c0 : Nat) (l0 : List Int) (r : Int) (w : World) (hr0 : Kd.C (Kd.int .i64) w A0 l0.length l0) (hc0 : l0.length ≤ c0) (h : analemmaref02_Mean.f k l0 = some r) :
    Calls Try.prog 21 #[.slice A0 l0.length c0] w fun e w' => e = .returned (.int .i64 r) ∧ Below w.heap.size w w' := by
  have HR0 := Aside0.mk hr0
  have HC0 := Aside0.mk hc0
  clear hr0 hc0
  have HB := Aside0.mk (Below.refl w.heap.size w)
  have H : (if (l0.length : Int) = 0 then (some 0) else (analemmaref02_Mean.l0 k l0 (l0.length : Int) 0 0 0)) = some r := h
  clear h
  by_cases c2 : (l0.length : Int) = 0
  · rw [if_pos c2] at H
    have c2b0 : ((l0.length : Int) == 0) = true := beq_iff_eq.mpr c2
    have c2b1 : ((l0.length : Int) != 0) = false := bne_eq_false_iff_eq.mpr c2
    clear c2
    obtain rfl := Option.some.inj H
    go_enter Try.func21, Try.ntmps21
    go_wp2
    go_ret
    exact ⟨by first | rfl | (simp [errW_none, errW_some] <;> rfl) | (simp [*, errW_none, errW_some] <;> rfl), by repeat (first | (with_reducible first | exact HB.out | apply below_alloc | apply pw_below_drewN | apply below_drew1) | exact HB.out)⟩
  · rw [if_neg c2] at H
    have c2b0 : ((l0.length : Int) == 0) = false := beq_eq_false_iff_ne.mpr c2
    have c2b1 : ((l0.length : Int) != 0) = true := bne_iff_ne.mpr c2
    have c2b2 : ¬ (l0 = []) := fun h_ => c2 (by rw [h_]; rfl)
    have H' := Aside0.mk H
    clear H
    go_enter Try.func21, Try.ntmps21
    go_wp2
    go_loopg [4, 5, 6] k (fun kq v4 v5 v6 w' => ∃ (x4_1 : Int) (x5_1 : Int) (x6_1 : Int), v4 = .int .i64 x4_1 ∧ v5 = .int .i64 x5_1 ∧ v6 = .int .i64 x6_1 ∧ Aside0 (analemmaref02_Mean.l0 kq l0 (l0.length : Int) x4_1 x5_1 x6_1 = some r) ∧ Aside0 (kq ≤ k) ∧ Aside0 (Below w.heap.size w w'))
    case atStart => exact ⟨(0), (0), (0), (by first | rfl | (simp; done) | (simp [*]; done)), (by first | rfl | (simp; done) | (simp [*]; done)), (by first | rfl | (simp; done) | (simp [*]; done)), H', ⟨Nat.le_refl _⟩, ⟨by repeat (first | (with_reducible first | exact HB.out | apply below_alloc | apply pw_below_drewN | apply below_drew1) | exact HB.out)⟩⟩
    case round =>
      clear H'
      try clear c2
      try clear c2b0
      try clear c2b1
      try clear c2b2
      try clear p2
      obtain ⟨x4_1, x5_1, x6_1, rfl, rfl, rfl, HA, HK1, HB⟩ := hrel
      cases gk with
      | zero => exact absurd HA.out (by simp [analemmaref02_Mean.l0])
      | succ k1 =>
        have H := HA.out
        clear HA
        simp only [analemmaref02_Mean.l0] at H
        by_cases c3 : x6_1 < (l0.length : Int)
        · rw [if_pos c3] at H
          have c3b0 : decide (x6_1 < (l0.length : Int)) = true := decide_eq_true c3
          clear c3
          by_cases c4 : 0 ≤ x6_1
          · rw [if_pos c4] at H
            have c4b0 : decide (0 ≤ x6_1) = true := decide_eq_true c4
            clear c4
            by_cases c5 : (l0.length : Int) = 0
            · rw [if_pos c5] at H
              exact absurd H (by simp)
            · rw [if_neg c5] at H
              have c5b0 : ((l0.length : Int) == 0) = false := beq_eq_false_iff_ne.mpr c5
              have c5b1 : ((l0.length : Int) != 0) = true := bne_iff_ne.mpr c5
              have c5b2 : ¬ (l0 = []) := fun h_ => c5 (by rw [h_]; rfl)
              by_cases c6 : (wrap64 ((rd l0 x6_1) - (wrap64 ((wrap64 (Int.tdiv (rd l0 x6_1) (l0.length : Int))) * (l0.length : Int))))) < 0
              · rw [if_pos c6] at H
                have c6b0 : decide ((wrap64 ((rd l0 x6_1) - (wrap64 ((wrap64 (Int.tdiv (rd l0 x6_1) (l0.length : Int))) * (l0.length : Int))))) < 0) = true := decide_eq_true c6
                clear c6
                have H' := Aside0.mk H
                clear H
                have p117 : 0 ≤ (x6_1 : Int) := of_decide_eq_true (by first | (with_reducible assumption) | assumption)
                have q117 : x6_1 < (l0.length : Int) := of_decide_eq_true (by first | (with_reducible assumption) | assumption)
                obtain ⟨ad117, e117, hx117_0⟩ := Kd.at_int HR0.out x6_1 p117 q117
                cases e117
                replace hx117_0 := (HB.out.cell (World.block_lt_of_cell? w _ hx117_0)).trans hx117_0
                replace p117 := eq_true p117
                replace q117 := eq_true q117
                have p118 : 0 ≤ (x6_1 : Int) := of_decide_eq_true (by first | (with_reducible assumption) | assumption)
                have q118 : x6_1 < (l0.length : Int) := of_decide_eq_true (by first | (with_reducible assumption) | assumption)
                obtain ⟨ad118, e118, hx118_0⟩ := Kd.at_int HR0.out x6_1 p118 q118
                obtain rfl : ad117 = ad118 := (by injection e118)
                replace hx118_0 := (HB.out.cell (World.block_lt_of_cell? w _ hx118_0)).trans hx118_0
                replace p118 := eq_true p118
                replace q118 := eq_true q118
                go_wp2
                go_roundg k1
                case measure => have := HK1.out; omega
                case rel => exact ⟨(wrap64 (x4_1 + (wrap64 ((wrap64 (Int.tdiv (rd l0 x6_1) (l0.length : Int))) - 1)))), (wrap64 (x5_1 + (wrap64 ((wrap64 ((rd l0 x6_1) - (wrap64 ((wrap64 (Int.tdiv (rd l0 x6_1) (l0.length : Int))) * (l0.length : Int))))) + (l0.length : Int))))), (wrap64 (x6_1 + 1)), (by first | rfl | (simp; done) | (simp [*]; done)), (by first | rfl | (simp; done) | (simp [*]; done)), (by first | rfl | (simp; done) | (simp [*]; done)), H', ⟨by have := HK1.out; omega⟩, ⟨by repeat (first | (with_reducible first | exact HB.out | apply below_alloc | apply pw_below_drewN | apply below_drew1) | exact HB.out)⟩⟩
              · rw [if_neg c6] at H
                have c6b0 : decide ((wrap64 ((rd l0 x6_1) - (wrap64 ((wrap64 (Int.tdiv (rd l0 x6_1) (l0.length : Int))) * (l0.length : Int))))) < 0) = false := decide_eq_false c6
                clear c6
                have H' := Aside0.mk H
                clear H
                have p117 : 0 ≤ (x6_1 : Int) := of_decide_eq_true (by first | (with_reducible assumption) | assumption)
                have q117 : x6_1 < (l0.length : Int) := of_decide_eq_true (by first | (with_reducible assumption) | assumption)
                obtain ⟨ad117, e117, hx117_0⟩ := Kd.at_int HR0.out x6_1 p117 q117
                cases e117
                replace hx117_0 := (HB.out.cell (World.block_lt_of_cell? w _ hx117_0)).trans hx117_0
                replace p117 := eq_true p117
                replace q117 := eq_true q117
                have p118 : 0 ≤ (x6_1 : Int) := of_decide_eq_true (by first | (with_reducible assumption) | assumption)
                have q118 : x6_1 < (l0.length : Int) := of_decide_eq_true (by first | (with_reducible assumption) | assumption)
                obtain ⟨ad118, e118, hx118_0⟩ := Kd.at_int HR0.out x6_1 p118 q118
                obtain rfl : ad117 = ad118 := (by injection e118)
                replace hx118_0 := (HB.out.cell (World.block_lt_of_cell? w _ hx118_0)).trans hx118_0
                replace p118 := eq_true p118
                replace q118 := eq_true q118
                go_wp2
                go_roundg k1
                case measure => have := HK1.out; omega
                case rel => exact ⟨(wrap64 (x4_1 + (wrap64 (Int.tdiv (rd l0 x6_1) (l0.length : Int))))), (wrap64 (x5_1 + (wrap64 ((rd l0 x6_1) - (wrap64 ((wrap64 (Int.tdiv (rd l0 x6_1) (l0.length : Int))) * (l0.length : Int))))))), (wrap64 (x6_1 + 1)), (by first | rfl | (simp; done) | (simp [*]; done)), (by first | rfl | (simp; done) | (simp [*]; done)), (by first | rfl | (simp; done) | (simp [*]; done)), H', ⟨by have := HK1.out; omega⟩, ⟨by repeat (first | (with_reducible first | exact HB.out | apply below_alloc | apply pw_below_drewN | apply below_drew1) | exact HB.out)⟩⟩
          · rw [if_neg c4] at H
            exact absurd H (by simp)
        · rw [if_neg c3] at H
          have c3b0 : decide (x6_1 < (l0.length : Int)) = false := decide_eq_false c3
          clear c3
          by_cases c7 : (l0.length : Int) = 0
          · rw [if_pos c7] at H
            exact absurd H (by simp)
          · rw [if_neg c7] at H
            have c7b0 : ((l0.length : Int) == 0) = false := beq_eq_false_iff_ne.mpr c7
            have c7b1 : ((l0.length : Int) != 0) = true := bne_iff_ne.mpr c7
            have c7b2 : ¬ (l0 = []) := fun h_ => c7 (by rw [h_]; rfl)
            obtain ⟨ji8, hji8⟩ : ∃ j_ : Int, (mx (wrap64 (x4_1 + (wrap64 (Int.tdiv x5_1 (l0.length : Int))))) (-9223372036854775807)) = j_ := ⟨_, rfl⟩
            replace H : (some ji8) = some r := by first | (rw [hji8] at H; exact H) | (simp only [hji8] at H ⊢; exact H)
            have hji8_ : (if (wrap64 (x4_1 + (wrap64 (Int.tdiv x5_1 (l0.length : Int))))) < (-9223372036854775807) then (-9223372036854775807) else (wrap64 (x4_1 + (wrap64 (Int.tdiv x5_1 (l0.length : Int)))))) = ji8 := hji8
            obtain rfl := Option.some.inj H
            go_wp2
            go_ret
            exact ⟨by first | rfl | (simp [errW_none, errW_some] <;> rfl) | (simp only [← hji8]; first | rfl | (simp [errW_none, errW_some] <;> rfl)) | (simp [*, errW_none, errW_some] <;> rfl), by repeat (first | (with_reducible first | exact HB.out | apply below_alloc | apply pw_below_drewN | apply below_drew1) | exact HB.out)⟩

/-! ### fix_Root: function 22 -/
set_option maxHeartbeats 16000000 in
set_option maxRecDepth 100000 in
theorem fix_Root_1.calls (g : Nat) (A0 : Option Addr) (c0 : Nat) (l0 : List Int) (r : Int) (w : World) (hb : w.heap[g]? = some (.cells #[.slice A0 l0.length c0] 34 (0, 0))) (hr0 : Kd.C (Kd.int .i64) w A0 l0.length l0) (hc0 : l0.length ≤ c0) (h : fix_Mean.f l0 = some r) :
    Calls Try.prog 45 #[.pointer (some ⟨g, 0, none⟩)] w fun e w' => e = .returned (.int .i64 r) ∧ Below w.heap.size w w' := by
  have HR := Aside0.mk hr0
  have HC := Aside0.mk hc0
  have H := Aside0.mk h
  have k1 : w.cell? ⟨g, 0, none⟩ = some (Value.slice A0 l0.length c0) := (blk_cell hb 0).trans rfl
  clear hr0 hc0 h hb
  go_enter Try.func45, Try.ntmps45
  go_wp2_with (first | (go_at_call 20; (with_reducible refine (fix_Mean.calls A0 c0 l0 r w HR.out HC.out H.out).mono ?_); rintro e w1 ⟨rfl, h1⟩; have H1 := Aside0.mk h1; clear h1))
  go_ret
  exact ⟨rfl, H1.out⟩
def fix_Root.l0 : Nat → List Int → List Int → Int → Option (Int)
  | 0, _, _, _ => none
  | k + 1, x0, x3, x4 => if x4 < (x0.length : Int) then (if 0 ≤ x4 then ((fix_Mul.f (rd x0 x4) (rd x0 x4)).bind fun t142 => (if x3.length < 17592186044416 then (fix_Root.l0 k x0 (x3 ++ [t142]) (wrap64 (x4 + 1))) else (none))) else (none)) else ((fix_Mean.f x3).bind fun t146 => ((fix_Sqrt.f k t146).bind fun t147 => (some t147)))
def fix_Root.f (k : Nat) (l0 : List Int) : Option (Int) := fix_Root.l0 k l0 (([] : List Int)) 0
theorem fix_Root.mono_l : ∀ k, (∀ y0 y1 y2, LeO (fix_Root.l0 k y0 y1 y2) (fix_Root.l0 (k + 1) y0 y1 y2))
  | 0 => fun _ _ _ r h => by simp [fix_Root.l0] at h
  | k + 1 => by
    have ih0 := fix_Root.mono_l k
    · intro y0 y1 y2
      unfold fix_Root.l0
      repeat' first
      | (with_reducible exact ih0 _ _ _)
      | (with_reducible exact fix_Sqrt.mono _ _)
      | (with_reducible exact LeO.refl _)
      | (with_reducible exact LeO.none _)
      | (with_reducible refine LeO.ite ?_ ?_)
      | (with_reducible refine LeO.bind ?_ (fun _ => ?_))
      | exact ih0 _ _ _
      | exact fix_Sqrt.mono _ _
      | exact LeO.none _
      | refine LeO.ite ?_ ?_
      | refine LeO.bind ?_ (fun _ => ?_)
theorem fix_Root.mono : ∀ a0 k, LeO (fix_Root.f k a0) (fix_Root.f (k + 1) a0) := fun a0 k => fix_Root.mono_l k _ _ _
set_option maxHeartbeats 16000000 in
set_option maxRecDepth 100000 in
theorem fix_Root.calls (k : Nat) (A0 : Option Addr) (c0 : Nat) (l0 : List Int) (r : Int) (w : World) (hr0 : Kd.C (Kd.int .i64) w A0 l0.length l0) (hc0 : l0.length ≤ c0) (h : fix_Root.f k l0 = some r) :
    Calls Try.prog 22 #[.slice A0 l0.length c0] w fun e w' => e = .returned (.int .i64 r) ∧ Below w.heap.size w w' := by
  have hmf : ∀ (fn : Fn) (first cap : Array Value) (w : World), (Instr.makeFunc fn first cap).run Try.prog w = .ok (.func fn first cap) w := fun _ _ _ _ => rfl
  have HR0 := Aside0.mk hr0
  have HC0 := Aside0.mk hc0
  clear hr0 hc0
  have HB0 := Aside0.mk (below_alloc (Below.refl w.heap.size w) (.cells #[.slice none 0 0] 34 (0, 0)))
  have HG0 := Aside0.mk (blk_new w (.cells #[.slice none 0 0] 34 (0, 0)))
  have HO0 := Aside0.mk (Kd.R_nil (Kd.int .i64) 2 (w.alloc (.cells #[.slice none 0 0] 34 (0, 0))) w.heap.size (fun k => k ≠ w.heap.size))
  have H' := Aside0.mk (show fix_Root.l0 k l0 [] 0 = some r from h)
  clear h
  go_enter Try.func22, Try.ntmps22
  go_wp2_with (fail)
  go_loopg [9] k (fun kq v9 w' => ∃ (x3 : List Int) (x4 : Int) (vs : Value), v9 = .int .i64 x4 ∧ Aside0 (fix_Root.l0 kq l0 x3 x4 = some r) ∧ Aside0 (kq ≤ k) ∧ Aside0 (w'.heap[w.heap.size]? = some (.cells #[vs] 34 (0, 0))) ∧ Aside0 (Kd.R (Kd.int .i64) 2 w' w.heap.size (fun k => k ≠ w.heap.size) vs x3) ∧ Aside0 (Below w.heap.size w w'))
  case atStart => exact ⟨[], 0, _, rfl, H', ⟨Nat.le_refl _⟩, HG0, HO0, HB0⟩
  case round =>
    clear H' HG0 HO0 HB0
    obtain ⟨x3, x4, vs, rfl, HA, HK1, HG, HO, HB⟩ := hrel
    cases gk with
    | zero => exact absurd HA.out (by simp [fix_Root.l0])
    | succ k1 =>
      have H := HA.out
      clear HA
      simp only [fix_Root.l0] at H
      by_cases c4 : x4 < (l0.length : Int)
      · rw [if_pos c4] at H
        have c4b0 : decide (x4 < (l0.length : Int)) = true := decide_eq_true c4
        by_cases c5 : 0 ≤ x4
        · rw [if_pos c5] at H
          have c5b0 : decide (0 ≤ x4) = true := decide_eq_true c5
          obtain ⟨t, A6, H⟩ := Option.bind_eq_some_iff.mp H
          replace A6 := Aside0.mk A6
          by_cases c7 : x3.length < 17592186044416
          · rw [if_pos c7] at H
            have LM := Aside0.mk c7
            clear c7
            replace H := Aside0.mk H
            obtain ⟨ad, e, hx⟩ := Kd.at_int HR0.out x4 c5 c4
            cases e
            replace hx := (HB.out.cell (World.block_lt_of_cell? w _ hx)).trans hx
            replace c4 := eq_true c4
            replace c5 := eq_true c5
            go_wp2_with (fail)
            clear c4 c5
            have n0_ := Aside0.mk (blk_drew HG.out)
            have n1_ := Aside0.mk (Kd.R_drew HO.out)
            have n2_ := Aside0.mk (below_drew1 HB.out)
            clear HG HO HB hx
            have HG := n0_
            have HO := n1_
            have HB := n2_
            clear n0_ n1_ n2_
            refine start_ (n := 7) (S := fun w' => w'.cell? ⟨w.heap.size, 0, none⟩ = some vs) (ds := [6]) #[false, false, false, false, false, false, false] (by kernel_rfl) rfl rfl ((blk_cell HG.out 0).trans rfl) (fun hHeld => ?_)
            generalize wr.drew = w8 at HG HO HB hHeld ⊢
            refine pure_ (i := 1) (N := some 14) (v := ?_) (a' := ?_) #[false, true, false, false, false, false, false] rfl rfl (by kernel_rfl) (fun _ _ _ h => h) (Or.inl ⟨by rfl, ?_⟩) ?_ ?_
            rotate_left
            · intro w'
              go_simp
              with_reducible rfl
            rotate_left
            · simp only [Act.put, List.setIfInBounds_toArray, List.set_cons_zero, List.set_cons_succ, i64_w, i32_w]
              rfl
            refine pure_ (i := 2) (N := some 15) (v := ?_) (a' := ?_) #[false, true, true, false, false, false, false] rfl rfl (by kernel_rfl) (fun _ _ _ h => h) (Or.inl ⟨by rfl, ?_⟩) ?_ ?_
            rotate_left
            · intro w'
              go_simp
              with_reducible rfl
            rotate_left
            · simp only [Act.put, List.setIfInBounds_toArray, List.set_cons_zero, List.set_cons_succ, i64_w, i32_w]
              rfl
            refine take_ (i := 0) (N := some 13) (v := ?_) (a' := ?_) #[true, true, true, false, false, false, false] rfl rfl (by kernel_rfl) (fun _ _ _ h => h) (Or.inl ⟨by rfl, ?_⟩) hHeld ?_ ?_
            rotate_left
            · intro w' s0
              go_simp
              with_reducible rfl
            rotate_left
            · simp only [Act.put, List.setIfInBounds_toArray, List.set_cons_zero, List.set_cons_succ, i64_w, i32_w]
              rfl
            refine one_ (i := 3) (N := some 16) #[true, true, true, true, false, false, false] rfl rfl (by kernel_rfl) (by decide) (fun K hK => ?_)
            refine goes_ Try.func13 (by kernel_rfl) rfl #[.int .i64 (rd l0 x4), .int .i64 (rd l0 x4)] (by rfl) rfl rfl (by simp only [List.map_toArray, List.map_cons, List.map_nil]; rfl) ?_
            with_reducible refine (fix_Mul.calls (rd l0 x4) (rd l0 x4) t _ A6.out).mono ?_
            rintro e w9 ⟨rfl, hb⟩
            refine ⟨_, rfl, ?_⟩
            have n0_ := Aside0.mk (blk_below HG.out hb)
            have n1_ := Aside0.mk (Kd.R_below HO.out hb)
            have n2_ := Aside0.mk (below_step HB.out hb)
            clear HG HO HB hHeld hb
            have HG := n0_
            have HO := n1_
            have HB := n2_
            clear n0_ n1_ n2_
            refine hK.out _ _ ((blk_cell HG.out 0).trans rfl) (fun hHeld => ?_)
            clear hK K
            refine norm_ (a' := ?_) ?_ ?_
            rotate_left
            · show Act.put _ (some 16) _ = _
              simp only [Act.put, List.setIfInBounds_toArray, List.set_cons_zero, List.set_cons_succ, i64_w, i32_w]
              rfl
            refine one_ (i := 4) (N := some 17) #[true, true, true, true, true, false, false] rfl rfl (by kernel_rfl) (by decide) (fun K hK => ?_)
            refine value_ (w1 := ?_) (v := ?_) (by rfl) rfl ?_ ?_
            rotate_left 2
            · go_simp
              constructor
              · rfl
              · rfl
            refine hK.out _ _ ((blk_cell (blk_alloc HG.out _) 0).trans rfl) (fun hHeld => ?_)
            clear hK K
            refine norm_ (a' := ?_) ?_ ?_
            rotate_left
            · show Act.put _ (some 17) _ = _
              simp only [Act.put, List.setIfInBounds_toArray, List.set_cons_zero, List.set_cons_succ, i64_w, i32_w]
              rfl
            refine one_ (i := 5) (N := some 18) #[true, true, true, true, true, true, false] rfl rfl (by kernel_rfl) (by decide) (fun K hK => ?_)
            refine Kd.R_append_step (Kd.int .i64) (w0 := w) w.heap.size (by rfl) (.tmp 13) (.tmp 17) 34 2 (.int .i64 0) 8 rfl Try.underlying34 info2 rfl (by decide) (by omega) vs x3 t [.int .i64 t] (fun k => k ≠ w.heap.size) (fun _ => False) rfl rfl ?aP (fun _ hk => hk.elim) ?aF ?aO ?aB ?aS ?aL ?_
            (case aP => exact rfl)
            (case aB => exact HB.out)
            (case aF => exact fun k hk => by have := blk_lt HG.out; omega)
            (case aO => exact HO.out)
            (case aS => exact (below_size HB.out))
            (case aL => have := LM.out; omega)
            intro v1 w10 ho hb hg hat
            have hG := (hg.block _ (blk_lt HG.out) (Kd.R_away HO.out (fun _ h => h))).trans HG.out
            clear hat hg HG HO HB hHeld
            obtain ⟨A1, c1, ev⟩ := Kd.R_slice ho
            subst ev
            have k6 := (blk_cell hG 0).trans (show _ = some vs from rfl)
            have f6 := blk_frozen hG 0
            refine hK.out _ _ k6 (fun hHeld => ?_)
            clear hK K
            refine norm_ (a' := ?_) ?_ ?_
            rotate_left
            · show Act.put _ (some 18) _ = _
              simp only [Act.put, List.setIfInBounds_toArray, List.set_cons_zero, List.set_cons_succ, i64_w, i32_w]
              rfl
            refine last_ (i := 6) (N := none) #[true, true, true, true, true, true, true] rfl rfl (by kernel_rfl) (by decide) (fun K hK => ?_)
            refine skip_ (w1 := ?_) (by rfl) rfl ?_ ?_
            rotate_left
            · go_simp
              rfl
            refine hK.out _ _ ?_
            clear hK K
            refine done_ (by kernel_rfl) ?_
            have n0_ := Aside0.mk (blk_put hG 0 (.slice A1 (x3 ++ [t]).length c1) (cs' := #[.slice A1 (x3 ++ [t]).length c1]) rfl)
            have n1_ := Aside0.mk (Kd.R_far ho (p := ⟨w.heap.size, 0, none⟩) (fun _ h => h) (.slice A1 (x3 ++ [t]).length c1))
            have n2_ := Aside0.mk (Below.setCell hb (p := ⟨w.heap.size, 0, none⟩) (Nat.le_refl _) (.slice A1 (x3 ++ [t]).length c1))
            clear hG ho hb k6 f6 hHeld
            simp only [List.length_append, List.length_singleton] at n0_ n1_ n2_
            try go_wp2
            go_roundg k1
            case measure => have := HK1.out; omega
            case rel => exact ⟨(x3 ++ [t]), (wrap64 (x4 + 1)), _, rfl, H, ⟨by have := HK1.out; omega⟩, n0_, n1_, n2_⟩
          · rw [if_neg c7] at H
            exact absurd H (by simp)
        · rw [if_neg c5] at H
          exact absurd H (by simp)
      · rw [if_neg c4] at H
        have c4b0 : decide (x4 < (l0.length : Int)) = false := decide_eq_false c4
        clear c4
        obtain ⟨m, A10, H⟩ := Option.bind_eq_some_iff.mp H
        obtain ⟨t, A11, H⟩ := Option.bind_eq_some_iff.mp H
        obtain rfl := Option.some.inj H
        clear H
        obtain ⟨Ao, co, eo⟩ := Kd.R_slice HO.out
        subst eo
        replace A10 := Aside0.mk A10
        replace A11 := Aside0.mk A11
        go_wp2_with (first | (go_at_call 45; (with_reducible refine (fix_Root_1.calls w.heap.size Ao co x3 m wr HG.out (Kd.R_reads' HO.out).2.2 (Kd.R_reads' HO.out).2.1 A10.out).mono ?_); rintro e w1 ⟨rfl, h1⟩; have H1 := Aside0.mk h1; clear h1) | (go_at_call 12; (with_reducible refine (fix_Sqrt.calls k1 m t _ A11.out).mono ?_); rintro e w2 ⟨rfl, h2⟩; have H2 := Aside0.mk h2; clear h2))
        go_ret
        exact ⟨rfl, below_step (below_step HB.out H1.out) H2.out⟩

/-! ### analemmaref02_size: function 46 -/
def analemmaref02_size.f (a0 : Int) : Option (Int) := if a0 < 0 then (some (IntKind.u64.wrap (-(IntKind.u64.wrap (a0))))) else (some (IntKind.u64.wrap (a0)))
set_option maxHeartbeats 8000000 in
set_option maxRecDepth 100000 in
theorem analemmaref02_size.calls (a0 : Int) (r : Int) (w : World) (h : analemmaref02_size.f a0 = some r) :
    Calls Try.prog 46 #[.int .i64 a0] w fun e w' => e = .returned (.int .u64 r) ∧ Drawn0 w w' := by
  have H : (if a0 < 0 then (some (IntKind.u64.wrap (-(IntKind.u64.wrap (a0))))) else (some (IntKind.u64.wrap (a0)))) = some r := h
  clear h
  by_cases c2 : a0 < 0
  · rw [if_pos c2] at H
    have c2b0 : decide (a0 < 0) = true := decide_eq_true c2
    clear c2
    obtain rfl := Option.some.inj H
    go_enter Try.func46, Try.ntmps46
    go_wp2
    go_ret
    exact ⟨by first | rfl | (simp; done) | (simp [*]; done), by repeat (first | exact Drawn0.refl _ | apply Drawn0.step)⟩
  · rw [if_neg c2] at H
    have c2b0 : decide (a0 < 0) = false := decide_eq_false c2
    clear c2
    obtain rfl := Option.some.inj H
    go_enter Try.func46, Try.ntmps46
    go_wp2
    go_ret
    exact ⟨by first | rfl | (simp; done) | (simp [*]; done), by repeat (first | exact Drawn0.refl _ | apply Drawn0.step)⟩

end Go.Proofs.Ytomjongnjfodmaa.MFixR
