/- The functions that the statement FixMiddle reaches, each as a plain Lean function, with a proof that the Go code comes to its answers; no condition. -/
import Derived.Test.YtomjongnjfodmaaMFixMiddlex0
import Derived.Test.YtomjongnjfodmaaMFixMiddlex1
import Derived.Test.YtomjongnjfodmaaMFixMiddlex2
namespace Go.Proofs.Ytomjongnjfodmaa.MFixMiddle
open Go.RowKit Go.Proofs.YtomjongnjfodmaaW.PrintWords Go.Proofs.YtomjongnjfodmaaW.PrintLast Go.Proofs.YtomjongnjfodmaaW.PrintMore
attribute [local go_sem] max2_int min2_int max_two min_two max_three min_three max_four min_four   -- for this text's walks alone
set_option linter.unusedVariables false
set_option linter.unusedSimpArgs false

/-! ### fix_Mean: function 20 -/
def fix_Mean.psum : List Int → Int
  | [] => 0
  | x :: xs => (if x < 0 then 0 else x) + fix_Mean.psum xs
def fix_Mean.nsum : List Int → Int
  | [] => 0
  | x :: xs => (if x < 0 then -x else 0) + fix_Mean.nsum xs
def fix_Mean.In (x : Int) : Bool := decide (-9223372036854775808 ≤ x) && decide (x ≤ 9223372036854775807)
/-- What the difference of both sums, a size and a sign, divided by how many there are, is cut to. -/
def fix_Mean.fin (p n len : Int) : Option Int :=
  if p < n then fix_cut.f ((n - p) / len) ((n - p) % len) true else fix_cut.f ((p - n) / len) ((p - n) % len) false
def fix_Mean.f (l0 : List Int) : Option (Int) :=
  if l0.length = 0 then some 0 else if l0.all fix_Mean.In = true ∧ l0.length ≤ 17592186044416 then fix_Mean.fin (fix_Mean.psum l0) (fix_Mean.nsum l0) l0.length else none
theorem fix_Mean.psum_snoc (l : List Int) (x : Int) : fix_Mean.psum (l ++ [x]) = fix_Mean.psum l + (if x < 0 then 0 else x) := by
  induction l with
  | nil => simp [fix_Mean.psum]
  | cons y ys ih => simp only [List.cons_append, fix_Mean.psum, ih]; omega
theorem fix_Mean.nsum_snoc (l : List Int) (x : Int) : fix_Mean.nsum (l ++ [x]) = fix_Mean.nsum l + (if x < 0 then -x else 0) := by
  induction l with
  | nil => simp [fix_Mean.nsum]
  | cons y ys ih => simp only [List.cons_append, fix_Mean.nsum, ih]; omega
theorem fix_Mean.bd (l : List Int) (h : l.all fix_Mean.In = true) : 0 ≤ fix_Mean.psum l ∧ 0 ≤ fix_Mean.nsum l ∧ fix_Mean.psum l + fix_Mean.nsum l ≤ l.length * 9223372036854775808 := by
  induction l with
  | nil => simp [fix_Mean.psum, fix_Mean.nsum]
  | cons y ys ih =>
    simp only [List.all_cons, Bool.and_eq_true] at h
    have h1 := ih h.2
    have h2 := h.1
    unfold fix_Mean.In at h2
    rw [Bool.and_eq_true, decide_eq_true_iff, decide_eq_true_iff] at h2
    simp only [fix_Mean.psum, fix_Mean.nsum, List.length_cons]
    split <;> omega
theorem fix_Mean.take_all (l : List Int) (j : Nat) (h : l.all fix_Mean.In = true) : (l.take j).all fix_Mean.In = true := by
  rw [List.all_eq_true] at h ⊢
  exact fun x hx => h x (List.mem_of_mem_take hx)
theorem fix_Mean.take_snoc (l : List Int) (j : Nat) (h : j < l.length) : l.take (j + 1) = l.take j ++ [rd l (j : Int)] := by
  rw [List.take_succ_eq_append_getElem h]
  congr 2
  unfold rd
  simp [h]
theorem fix_Mean.at_in (l : List Int) (j : Nat) (h : l.all fix_Mean.In = true) (hj : j < l.length) : -9223372036854775808 ≤ rd l (j : Int) ∧ rd l (j : Int) ≤ 9223372036854775807 := by
  rw [List.all_eq_true] at h
  have e : rd l (j : Int) = l[j] := by unfold rd; simp [hj]
  have := h l[j] (List.getElem_mem hj)
  unfold fix_Mean.In at this
  rw [Bool.and_eq_true, decide_eq_true_iff, decide_eq_true_iff] at this
  rw [e]
  exact this
theorem fix_Mean.plus (p x : Int) (h0 : 0 ≤ p) (h1 : 0 ≤ x) (h2 : x ≤ 18446744073709551615) (h3 : p + x < 340282366920938463463374607431768211456) :
    wide_Plus.f (p / 18446744073709551616) (p % 18446744073709551616) 0 x = some ((p + x) / 18446744073709551616, (p + x) % 18446744073709551616, false) := by
  unfold wide_Plus.f
  simp only [IntKind.wrap_u64]
  by_cases c : (p % 18446744073709551616 + x) % 18446744073709551616 < p % 18446744073709551616
  · rw [if_pos c, if_neg (by omega)]
    congr 2
    · omega
    · congr 1
      · omega
      · rw [beq_eq_false_iff_ne]
        omega
  · rw [if_neg c]
    congr 2
    · omega
    · congr 1
      · omega
      · exact decide_eq_false (by omega)
theorem fix_Mean.bset {w w1 : World} (h : Below w.heap.size w w1) (i : Nat) (u : Value) : Below w.heap.size w (w1.setCell ⟨w.heap.size, i, none⟩ u) := Below.setCell h (Nat.le_refl _) u
theorem fix_Mean.bset2 {w w1 : World} (h : Below w.heap.size w w1) (b i : Nat) (u : Value) (hb : w.heap.size ≤ b) : Below w.heap.size w (w1.setCell ⟨b, i, none⟩ u) := Below.setCell h hb u
theorem fix_Mean.ret_ {k : IntKind} {a b : Int} (h : a = b) : Ending.returned (.int k a) = .returned (.int k b) := by rw [h]
theorem fix_Mean.size (x : Int) (h0 : -9223372036854775808 ≤ x) (h1 : x ≤ 9223372036854775807) : fix_size.f x = some (if x < 0 then -x else x, decide (x < 0)) := by
  unfold fix_size.f
  rw [IntKind.wrap_u64, IntKind.wrap_u64]
  by_cases c : x < 0
  · rw [if_pos c, if_pos c, decide_eq_true c]
    congr 2
    omega
  · rw [if_neg c, if_neg c, decide_eq_false c]
    congr 2
    omega
set_option maxHeartbeats 16000000 in
set_option maxRecDepth 100000 in
theorem fix_Mean.none_ (A0 : Option Addr) (c0 : Nat) (w : World) :
    Calls Try.prog 20 #[.slice A0 0 c0] w fun e w' => e = .returned (.int .i64 0) ∧ Below w.heap.size w w' := by
  go_enter Try.func20, Try.ntmps20
  go_wp2
  go_ret
  exact ⟨rfl, Below.refl _ _⟩
set_option maxHeartbeats 16000000 in
set_option maxRecDepth 100000 in
theorem fix_Mean.some_ (A0 : Option Addr) (c0 : Nat) (l0 : List Int) (r : Int) (w : World) (hr0 : Kd.C (Kd.int .i64) w A0 l0.length l0) (hc0 : l0.length ≤ c0) (hne : l0.length ≠ 0) (hall : l0.all fix_Mean.In = true) (hlen : l0.length ≤ 17592186044416)
    (h : fix_Mean.fin (fix_Mean.psum l0) (fix_Mean.nsum l0) l0.length = some r) :
    Calls Try.prog 20 #[.slice A0 l0.length c0] w fun e w' => e = .returned (.int .i64 r) ∧ Below w.heap.size w w' := by
  have HR0 := Aside0.mk hr0
  have HC0 := Aside0.mk hc0
  have HALL := Aside0.mk hall
  have HF := Aside0.mk h
  have HLEN := Aside0.mk hlen
  have z0 : ((l0.length : Int) == 0) = false := beq_eq_false_iff_ne.mpr (by omega)
  have hlen2 : (l0.length : Int) ≤ 17592186044416 := by omega
  have HNE := Aside0.mk hne
  clear hr0 hc0 h hall hlen hne
  go_enter Try.func20, Try.ntmps20
  go_wp2
  have hbel : Below w.heap.size w (w.alloc (Obj.cells #[Value.int IntKind.u64 0, Value.int IntKind.u64 0, Value.int IntKind.u64 0, Value.int IntKind.u64 0] 52)) := below_alloc (Below.refl _ _) _
  have hcz : (w.alloc (Obj.cells #[Value.int IntKind.u64 0, Value.int IntKind.u64 0, Value.int IntKind.u64 0, Value.int IntKind.u64 0] 52)).heap[w.heap.size]? = some (Obj.cells #[Value.int IntKind.u64 0, Value.int IntKind.u64 0, Value.int IntKind.u64 0, Value.int IntKind.u64 0] 52 (0, 0)) := blk_new w _
  go_outline
  generalize (w.alloc (Obj.cells #[Value.int IntKind.u64 0, Value.int IntKind.u64 0, Value.int IntKind.u64 0, Value.int IntKind.u64 0] 52)) = w0 at hbel hcz ⊢
  have HB := Aside0.mk hbel
  have HZ := Aside0.mk hcz
  clear hbel hcz
  go_loopg [22] l0.length (fun g i wr => ∃ j : Nat, j ≤ l0.length ∧ g = l0.length - j ∧ i = .int .i64 j ∧ wr.heap[w.heap.size]? = some (Obj.cells #[Value.int IntKind.u64 (fix_Mean.psum (l0.take j) / 18446744073709551616), Value.int IntKind.u64 (fix_Mean.psum (l0.take j) % 18446744073709551616), Value.int IntKind.u64 (fix_Mean.nsum (l0.take j) / 18446744073709551616), Value.int IntKind.u64 (fix_Mean.nsum (l0.take j) % 18446744073709551616)] 52 (0, 0)) ∧ Below w.heap.size w wr)
  case atStart => exact ⟨0, by omega, by omega, rfl, by simpa [fix_Mean.psum, fix_Mean.nsum] using HZ.out, HB.out⟩
  case round =>
    obtain ⟨j, hj, hg, rfl, hcz, hbel⟩ := hrel
    clear HB HZ
    have HB := Aside0.mk hbel
    have HZ := Aside0.mk hcz
    have HG := Aside0.mk hg
    clear hbel hcz hg
    obtain ⟨wo, rfl⟩ : ∃ wo : World, wo = wr := ⟨_, rfl⟩
    by_cases hlt : j < l0.length
    · have tb := fix_Mean.bd (l0.take j) (fix_Mean.take_all l0 j HALL.out)
      have tl : (l0.take j).length = j := by rw [List.length_take]; omega
      have ts := fix_Mean.take_snoc l0 j hlt
      have xb := fix_Mean.at_in l0 j HALL.out hlt
      have ps := fix_Mean.psum_snoc (l0.take j) (rd l0 (j : Int))
      have ns := fix_Mean.nsum_snoc (l0.take j) (rd l0 (j : Int))
      rw [← ts] at ps ns
      obtain ⟨ad, ead, hx⟩ := Kd.at_int HR0.out (j : Int) (by omega) (by omega)
      cases ead
      rw [Int.toNat_natCast] at hx
      replace hx := (HB.out.cell (World.block_lt_of_cell? w _ hx)).trans hx
      obtain ⟨x, hxx⟩ : ∃ x, rd l0 (j : Int) = x := ⟨_, rfl⟩
      obtain ⟨p, hp⟩ : ∃ p, fix_Mean.psum (l0.take j) = p := ⟨_, rfl⟩
      obtain ⟨n, hn⟩ : ∃ n, fix_Mean.nsum (l0.take j) = n := ⟨_, rfl⟩
      have hz := HZ.out
      rw [hxx] at ps ns xb hx
      rw [hp] at ps tb hz
      rw [hn] at ns tb hz
      have HSZ := Aside0.mk (fix_Mean.size x xb.1 xb.2)
      have HPS := Aside0.mk ps
      have HNS := Aside0.mk ns
      have HPN := Aside0.mk (show 0 ≤ p ∧ 0 ≤ n ∧ p + n ≤ 17592186044416 * 9223372036854775808 by have := HLEN.out; omega)
      have HXB := Aside0.mk xb
      clear HZ
      have HZ := Aside0.mk hz
      have hzl : w.heap.size < wo.heap.size := blk_lt hz
      have f0 := blk_frozen hz 0
      have f1 := blk_frozen hz 1
      have f2 := blk_frozen hz 2
      have f3 := blk_frozen hz 3
      have k0 := (blk_cell hz 0).trans (show _ = some (Value.int IntKind.u64 (p / 18446744073709551616)) from rfl)
      have k1 := (blk_cell hz 1).trans (show _ = some (Value.int IntKind.u64 (p % 18446744073709551616)) from rfl)
      have k2 := (blk_cell hz 2).trans (show _ = some (Value.int IntKind.u64 (n / 18446744073709551616)) from rfl)
      have k3 := (blk_cell hz 3).trans (show _ = some (Value.int IntKind.u64 (n % 18446744073709551616)) from rfl)
      clear hz tb tl ts xb ps ns hp hn hxx
      by_cases s : x < 0
      · have HPL := Aside0.mk (fix_Mean.plus n (-x) (by have := HPN.out; omega) (by omega) (by have := HXB.out; omega) (by have := HPN.out; have := HXB.out; omega))
        have hs := HSZ.out
        rw [if_pos s, decide_eq_true s] at hs
        have HS2 := Aside0.mk hs
        have HSX := Aside0.mk s
        clear hs HSZ s
        have e1 : fix_Mean.psum (l0.take (j + 1)) = p := by rw [HPS.out, if_pos HSX.out]; omega
        have e2 : fix_Mean.nsum (l0.take (j + 1)) = n + -x := by rw [HNS.out, if_pos HSX.out]
        have E1 := Aside0.mk e1
        have E2 := Aside0.mk e2
        clear e1 e2
        go_upto_region 11 with (first | (go_at_call 39; (with_reducible refine (fix_size.calls x (-x) true _ HS2.out).mono ?_); rintro e w' ⟨rfl, ⟨nd, rfl⟩⟩))
        go_region_with (go_at_call 43; (with_reducible refine (wide_Plus.calls _ _ 0 (-x) _ _ false _ HPL.out).mono ?_); rintro e w' ⟨rfl, ⟨nd, rfl⟩⟩)
        all_goals
          go_wp2
          have hg := HG.out
          go_roundg (l0.length - (j + 1))
          case measure => omega
          case rel => exact ⟨j + 1, by omega, rfl, by first | rfl | go_num, by rw [E1.out, E2.out]; first | exact blk_put (blk_put (blk_drewN HZ.out _) 2 _ rfl) 3 _ rfl | exact blk_put (blk_put (blk_drewN HZ.out _) 3 _ rfl) 2 _ rfl | exact blk_put (blk_put HZ.out 2 _ rfl) 3 _ rfl, by repeat (first | exact HB.out | apply below_drew | apply pw_below_drewN | refine fix_Mean.bset ?_ _ _)⟩
      · have HPL := Aside0.mk (fix_Mean.plus p x (by have := HPN.out; omega) (by omega) (by have := HXB.out; omega) (by have := HPN.out; have := HXB.out; omega))
        have hs := HSZ.out
        rw [if_neg s, decide_eq_false s] at hs
        have HS2 := Aside0.mk hs
        have HSX := Aside0.mk s
        have e1 : fix_Mean.psum (l0.take (j + 1)) = p + x := by rw [HPS.out, if_neg HSX.out]
        have e2 : fix_Mean.nsum (l0.take (j + 1)) = n := by rw [HNS.out, if_neg HSX.out]; omega
        have E1 := Aside0.mk e1
        have E2 := Aside0.mk e2
        clear hs HSZ s e1 e2
        go_upto_region 11 with (first | (go_at_call 39; (with_reducible refine (fix_size.calls x x false _ HS2.out).mono ?_); rintro e w' ⟨rfl, ⟨nd, rfl⟩⟩))
        go_region_with (go_at_call 43; (with_reducible refine (wide_Plus.calls _ _ 0 x _ _ false _ HPL.out).mono ?_); rintro e w' ⟨rfl, ⟨nd, rfl⟩⟩)
        all_goals
          go_wp2
          have hg := HG.out
          go_roundg (l0.length - (j + 1))
          case measure => omega
          case rel => exact ⟨j + 1, by omega, rfl, by first | rfl | go_num, by rw [E1.out, E2.out]; first | exact blk_put (blk_put (blk_drewN HZ.out _) 0 _ rfl) 1 _ rfl | exact blk_put (blk_put (blk_drewN HZ.out _) 1 _ rfl) 0 _ rfl | exact blk_put (blk_put HZ.out 0 _ rfl) 1 _ rfl, by repeat (first | exact HB.out | apply below_drew | apply pw_below_drewN | refine fix_Mean.bset ?_ _ _)⟩
    · obtain rfl : j = l0.length := by omega
      have hz := HZ.out
      rw [List.take_length] at hz
      have pb := fix_Mean.bd l0 HALL.out
      obtain ⟨p, hpp⟩ : ∃ p, fix_Mean.psum l0 = p := ⟨_, rfl⟩
      obtain ⟨n, hnn⟩ : ∃ n, fix_Mean.nsum l0 = n := ⟨_, rfl⟩
      rw [hpp, hnn] at pb hz
      have pn : 0 ≤ p ∧ 0 ≤ n ∧ p + n ≤ (l0.length : Int) * 9223372036854775808 ∧ 1 ≤ (l0.length : Int) ∧ (l0.length : Int) ≤ 17592186044416 := by
        have := HLEN.out
        have := HNE.out
        omega
      have wl : IntKind.u64.wrap (l0.length : Int) = (l0.length : Int) := by rw [IntKind.wrap_u64]; omega
      obtain ⟨ph, hph⟩ : ∃ x, p / 18446744073709551616 = x := ⟨_, rfl⟩
      obtain ⟨pl, hpl⟩ : ∃ x, p % 18446744073709551616 = x := ⟨_, rfl⟩
      obtain ⟨nh, hnh⟩ : ∃ x, n / 18446744073709551616 = x := ⟨_, rfl⟩
      obtain ⟨nl, hnl⟩ : ∃ x, n % 18446744073709551616 = x := ⟨_, rfl⟩
      rw [hph, hpl, hnh, hnl] at hz
      have hp : p = ph * 18446744073709551616 + pl ∧ 0 ≤ pl ∧ pl ≤ 18446744073709551615 ∧ 0 ≤ ph := by omega
      have hn : n = nh * 18446744073709551616 + nl ∧ 0 ≤ nl ∧ nl ≤ 18446744073709551615 ∧ 0 ≤ nh := by omega
      have hzl : w.heap.size < wo.heap.size := blk_lt hz
      have k0 := (blk_cell hz 0).trans (show _ = some (Value.int IntKind.u64 ph) from rfl)
      have k1 := (blk_cell hz 1).trans (show _ = some (Value.int IntKind.u64 pl) from rfl)
      have k2 := (blk_cell hz 2).trans (show _ = some (Value.int IntKind.u64 nh) from rfl)
      have k3 := (blk_cell hz 3).trans (show _ = some (Value.int IntKind.u64 nl) from rfl)
      clear hph hpl hnh hnl HZ hz pb
      by_cases s : p < n
      · obtain ⟨D, hD⟩ : ∃ D, n - p = D := ⟨_, rfl⟩
        have hle : wide_Less.f ph pl nh nl = some true := by
          unfold wide_Less.f
          by_cases q : ph = nh
          · rw [if_pos q]
            congr 1
            exact decide_eq_true (by omega)
          · rw [if_neg q]
            congr 1
            exact decide_eq_true (by omega)
        have hDb : 0 ≤ D ∧ D ≤ 17592186044416 * 9223372036854775808 := by omega
        obtain ⟨dh, hdh⟩ : ∃ x, D / 18446744073709551616 = x := ⟨_, rfl⟩
        obtain ⟨dl_, hdl⟩ : ∃ x, D % 18446744073709551616 = x := ⟨_, rfl⟩
        have hd : D = dh * 18446744073709551616 + dl_ ∧ 0 ≤ dl_ ∧ dl_ ≤ 18446744073709551615 := by omega
        have hdiv : wide_Div.f dh dl_ l0.length = some (D / l0.length, D % l0.length, true) := by
          unfold wide_Div.f
          rw [if_pos ⟨by omega, by omega, by omega, by omega, by omega, by omega⟩, if_neg (by omega), hd.1]
        have hcut : fix_cut.f (D / l0.length) (D % l0.length) true = some r := by
          have h := HF.out
          unfold fix_Mean.fin at h
          rw [hpp, hnn, if_pos s, hD] at h
          exact h
        have wlo : IntKind.u64.wrap (nl - pl) = dl_ := by rw [IntKind.wrap_u64]; omega
        have HLE := Aside0.mk hle
        have HDIV := Aside0.mk hdiv
        have HCUT := Aside0.mk hcut
        clear hle hdiv hcut s hdh hdl hpp hnn
        by_cases bo : nl < pl
        · have dl : decide (nl < pl) = true := decide_eq_true bo
          have whi : IntKind.u64.wrap (IntKind.u64.wrap (nh - ph) - 1) = dh := by rw [IntKind.wrap_u64, IntKind.wrap_u64]; omega
          clear bo hp hn hd pn hD hDb
          go_wp2_with (fail)
          go_region
          all_goals
            go_wp2_with (first | (go_at_call 44; (with_reducible refine (wide_Less.calls ph pl nh nl true _ HLE.out).mono ?_); rintro e w' ⟨rfl, ⟨nd, rfl⟩⟩))
            go_quiet (fail)
            go_wp2_with (first | (go_at_call 42; (with_reducible refine (wide_Div.calls dh dl_ _ _ _ true _ HDIV.out).mono ?_); rintro e wd ⟨rfl, hbd⟩; have HBD := Aside0.mk hbd; clear hbd) | (go_at_call 37; (with_reducible refine (fix_cut.calls _ _ true r _ HCUT.out).mono ?_); rintro e we ⟨rfl, hbe⟩; have HBE := Aside0.mk hbe; clear hbe))
            go_ret
            exact ⟨fix_Mean.ret_ rfl, below_step (below_step (by repeat (first | exact HB.out | apply below_alloc | apply pw_below_drewN | apply below_drew | refine fix_Mean.bset2 ?_ _ _ _ (by omega))) HBD.out) HBE.out⟩
        · have dl : decide (nl < pl) = false := decide_eq_false bo
          have whi : IntKind.u64.wrap (nh - ph) = dh := by rw [IntKind.wrap_u64]; omega
          clear bo hp hn hd pn hD hDb
          go_wp2_with (fail)
          go_region
          all_goals
            go_wp2_with (first | (go_at_call 44; (with_reducible refine (wide_Less.calls ph pl nh nl true _ HLE.out).mono ?_); rintro e w' ⟨rfl, ⟨nd, rfl⟩⟩))
            go_quiet (fail)
            go_wp2_with (first | (go_at_call 42; (with_reducible refine (wide_Div.calls dh dl_ _ _ _ true _ HDIV.out).mono ?_); rintro e wd ⟨rfl, hbd⟩; have HBD := Aside0.mk hbd; clear hbd) | (go_at_call 37; (with_reducible refine (fix_cut.calls _ _ true r _ HCUT.out).mono ?_); rintro e we ⟨rfl, hbe⟩; have HBE := Aside0.mk hbe; clear hbe))
            go_ret
            exact ⟨fix_Mean.ret_ rfl, below_step (below_step (by repeat (first | exact HB.out | apply below_alloc | apply pw_below_drewN | apply below_drew | refine fix_Mean.bset2 ?_ _ _ _ (by omega))) HBD.out) HBE.out⟩
      · obtain ⟨D, hD⟩ : ∃ D, p - n = D := ⟨_, rfl⟩
        have hle : wide_Less.f ph pl nh nl = some false := by
          unfold wide_Less.f
          by_cases q : ph = nh
          · rw [if_pos q]
            congr 1
            exact decide_eq_false (by omega)
          · rw [if_neg q]
            congr 1
            exact decide_eq_false (by omega)
        have hDb : 0 ≤ D ∧ D ≤ 17592186044416 * 9223372036854775808 := by omega
        obtain ⟨dh, hdh⟩ : ∃ x, D / 18446744073709551616 = x := ⟨_, rfl⟩
        obtain ⟨dl_, hdl⟩ : ∃ x, D % 18446744073709551616 = x := ⟨_, rfl⟩
        have hd : D = dh * 18446744073709551616 + dl_ ∧ 0 ≤ dl_ ∧ dl_ ≤ 18446744073709551615 := by omega
        have hdiv : wide_Div.f dh dl_ l0.length = some (D / l0.length, D % l0.length, true) := by
          unfold wide_Div.f
          rw [if_pos ⟨by omega, by omega, by omega, by omega, by omega, by omega⟩, if_neg (by omega), hd.1]
        have hcut : fix_cut.f (D / l0.length) (D % l0.length) false = some r := by
          have h := HF.out
          unfold fix_Mean.fin at h
          rw [hpp, hnn, if_neg s, hD] at h
          exact h
        have wlo : IntKind.u64.wrap (pl - nl) = dl_ := by rw [IntKind.wrap_u64]; omega
        have HLE := Aside0.mk hle
        have HDIV := Aside0.mk hdiv
        have HCUT := Aside0.mk hcut
        clear hle hdiv hcut s hdh hdl hpp hnn
        by_cases bo : pl < nl
        · have dl : decide (pl < nl) = true := decide_eq_true bo
          have whi : IntKind.u64.wrap (IntKind.u64.wrap (ph - nh) - 1) = dh := by rw [IntKind.wrap_u64, IntKind.wrap_u64]; omega
          clear bo hp hn hd pn hD hDb
          go_wp2_with (fail)
          go_region
          all_goals
            go_wp2_with (first | (go_at_call 44; (with_reducible refine (wide_Less.calls ph pl nh nl false _ HLE.out).mono ?_); rintro e w' ⟨rfl, ⟨nd, rfl⟩⟩))
            go_quiet (fail)
            go_wp2_with (first | (go_at_call 42; (with_reducible refine (wide_Div.calls dh dl_ _ _ _ true _ HDIV.out).mono ?_); rintro e wd ⟨rfl, hbd⟩; have HBD := Aside0.mk hbd; clear hbd) | (go_at_call 37; (with_reducible refine (fix_cut.calls _ _ false r _ HCUT.out).mono ?_); rintro e we ⟨rfl, hbe⟩; have HBE := Aside0.mk hbe; clear hbe))
            go_ret
            exact ⟨fix_Mean.ret_ rfl, below_step (below_step (by repeat (first | exact HB.out | apply below_alloc | apply pw_below_drewN | apply below_drew | refine fix_Mean.bset2 ?_ _ _ _ (by omega))) HBD.out) HBE.out⟩
        · have dl : decide (pl < nl) = false := decide_eq_false bo
          have whi : IntKind.u64.wrap (ph - nh) = dh := by rw [IntKind.wrap_u64]; omega
          clear bo hp hn hd pn hD hDb
          go_wp2_with (fail)
          go_region
          all_goals
            go_wp2_with (first | (go_at_call 44; (with_reducible refine (wide_Less.calls ph pl nh nl false _ HLE.out).mono ?_); rintro e w' ⟨rfl, ⟨nd, rfl⟩⟩))
            go_quiet (fail)
            go_wp2_with (first | (go_at_call 42; (with_reducible refine (wide_Div.calls dh dl_ _ _ _ true _ HDIV.out).mono ?_); rintro e wd ⟨rfl, hbd⟩; have HBD := Aside0.mk hbd; clear hbd) | (go_at_call 37; (with_reducible refine (fix_cut.calls _ _ false r _ HCUT.out).mono ?_); rintro e we ⟨rfl, hbe⟩; have HBE := Aside0.mk hbe; clear hbe))
            go_ret
            exact ⟨fix_Mean.ret_ rfl, below_step (below_step (by repeat (first | exact HB.out | apply below_alloc | apply pw_below_drewN | apply below_drew | refine fix_Mean.bset2 ?_ _ _ _ (by omega))) HBD.out) HBE.out⟩

theorem fix_Mean.calls (A0 : Option Addr) (c0 : Nat) (l0 : List Int) (r : Int) (w : World) (hr0 : Kd.C (Kd.int .i64) w A0 l0.length l0) (hc0 : l0.length ≤ c0) (h : fix_Mean.f l0 = some r) :
    Calls Try.prog 20 #[.slice A0 l0.length c0] w fun e w' => e = .returned (.int .i64 r) ∧ Below w.heap.size w w' := by
  unfold fix_Mean.f at h
  by_cases c : l0.length = 0
  · rw [if_pos c] at h
    obtain rfl := Option.some.inj h
    rw [c]
    exact fix_Mean.none_ A0 c0 w
  · rw [if_neg c] at h
    by_cases d : l0.all fix_Mean.In = true ∧ l0.length ≤ 17592186044416
    · rw [if_pos d] at h
      exact fix_Mean.some_ A0 c0 l0 r w hr0 hc0 c d.1 d.2 h
    · rw [if_neg d] at h
      cases h

/-! ### analemmalaw02_FixMiddle: function 8 -/
mutual
def analemmalaw02_FixMiddle.j0 : Nat → List Int → Int → Int → Bool → Option (Bool)
  | 0, _, _, _, _ => none
  | k + 1, x0, x1, x2, x20 => if x20 = true then ((fix_Mean.f ([] : List Int)).bind fun t117 => (if t117 = 0 then ((analemmalaw02_shown.f k).bind fun t118 => (some t118)) else (some false))) else (if 0 < (x0.length : Int) then (analemmalaw02_FixMiddle.l0 k x0 x1 x2 (rd x0 0) (rd x0 0) 0) else (none))
def analemmalaw02_FixMiddle.l0 : Nat → List Int → Int → Int → Int → Int → Int → Option (Bool)
  | 0, _, _, _, _, _, _ => none
  | k + 1, x0, x1, x2, x7, x8, x9 => if x9 < (x0.length : Int) then (if 0 ≤ x9 then (analemmalaw02_FixMiddle.l0 k x0 x1 x2 (mn x7 (rd x0 x9)) (mx x8 (rd x0 x9)) (wrap64 (x9 + 1))) else (none)) else ((fix_Mean.f x0).bind fun t123 => (analemmalaw02_FixMiddle.l1 k x1 x2 x7 x8 t123 (([] : List Int)) 0))
def analemmalaw02_FixMiddle.l1 : Nat → Int → Int → Int → Int → Int → List Int → Int → Option (Bool)
  | 0, _, _, _, _, _, _, _ => none
  | k + 1, x1, x2, x7, x8, x10, x11, x12 => if x12 ≤ (wrap64 (x2)) then (if x11.length < 17592186044416 then (analemmalaw02_FixMiddle.l1 k x1 x2 x7 x8 x10 (x11 ++ [x1]) (wrap64 (x12 + 1))) else (none)) else (if x10 ≥ (mx x7 (-9223372036854775807)) then (if x10 ≤ (mx x8 (-9223372036854775807)) then ((fix_Mean.f x11).bind fun t130 => (if t130 = (mx x1 (-9223372036854775807)) then ((analemmalaw02_shown.f k).bind fun t131 => (some t131)) else (some false))) else (some false)) else (some false))
end
def analemmalaw02_FixMiddle.f (k : Nat) (l0 : List Int) (a1 : Int) (a2 : Int) : Option (Bool) := if (l0.length : Int) > 1024 then (analemmalaw02_FixMiddle.j0 k l0 a1 a2 true) else (analemmalaw02_FixMiddle.j0 k l0 a1 a2 ((l0.length : Int) == 0))
theorem analemmalaw02_FixMiddle.mono_l : ∀ k, (∀ y0 y1 y2 y3, LeO (analemmalaw02_FixMiddle.j0 k y0 y1 y2 y3) (analemmalaw02_FixMiddle.j0 (k + 1) y0 y1 y2 y3)) ∧ (∀ y0 y1 y2 y3 y4 y5, LeO (analemmalaw02_FixMiddle.l0 k y0 y1 y2 y3 y4 y5) (analemmalaw02_FixMiddle.l0 (k + 1) y0 y1 y2 y3 y4 y5)) ∧ (∀ y0 y1 y2 y3 y4 y5 y6, LeO (analemmalaw02_FixMiddle.l1 k y0 y1 y2 y3 y4 y5 y6) (analemmalaw02_FixMiddle.l1 (k + 1) y0 y1 y2 y3 y4 y5 y6))
  | 0 => ⟨fun _ _ _ _ r h => by simp [analemmalaw02_FixMiddle.j0] at h, fun _ _ _ _ _ _ r h => by simp [analemmalaw02_FixMiddle.l0] at h, fun _ _ _ _ _ _ _ r h => by simp [analemmalaw02_FixMiddle.l1] at h⟩
  | k + 1 => by
    obtain ⟨ih0, ih1, ih2⟩ := analemmalaw02_FixMiddle.mono_l k
    refine ⟨?_, ?_, ?_⟩
    · intro y0 y1 y2 y3
      unfold analemmalaw02_FixMiddle.j0
      repeat' first
      | (with_reducible exact ih0 _ _ _ _)
      | (with_reducible exact ih1 _ _ _ _ _ _)
      | (with_reducible exact ih2 _ _ _ _ _ _ _)
      | (with_reducible exact analemmalaw02_shown.mono _)
      | (with_reducible exact LeO.refl _)
      | (with_reducible exact LeO.none _)
      | (with_reducible refine LeO.ite ?_ ?_)
      | (with_reducible refine LeO.bind ?_ (fun _ => ?_))
      | exact ih0 _ _ _ _
      | exact ih1 _ _ _ _ _ _
      | exact ih2 _ _ _ _ _ _ _
      | exact analemmalaw02_shown.mono _
      | exact LeO.none _
      | refine LeO.ite ?_ ?_
      | refine LeO.bind ?_ (fun _ => ?_)
    · intro y0 y1 y2 y3 y4 y5
      unfold analemmalaw02_FixMiddle.l0
      repeat' first
      | (with_reducible exact ih0 _ _ _ _)
      | (with_reducible exact ih1 _ _ _ _ _ _)
      | (with_reducible exact ih2 _ _ _ _ _ _ _)
      | (with_reducible exact analemmalaw02_shown.mono _)
      | (with_reducible exact LeO.refl _)
      | (with_reducible exact LeO.none _)
      | (with_reducible refine LeO.ite ?_ ?_)
      | (with_reducible refine LeO.bind ?_ (fun _ => ?_))
      | exact ih0 _ _ _ _
      | exact ih1 _ _ _ _ _ _
      | exact ih2 _ _ _ _ _ _ _
      | exact analemmalaw02_shown.mono _
      | exact LeO.none _
      | refine LeO.ite ?_ ?_
      | refine LeO.bind ?_ (fun _ => ?_)
    · intro y0 y1 y2 y3 y4 y5 y6
      unfold analemmalaw02_FixMiddle.l1
      repeat' first
      | (with_reducible exact ih0 _ _ _ _)
      | (with_reducible exact ih1 _ _ _ _ _ _)
      | (with_reducible exact ih2 _ _ _ _ _ _ _)
      | (with_reducible exact analemmalaw02_shown.mono _)
      | (with_reducible exact LeO.refl _)
      | (with_reducible exact LeO.none _)
      | (with_reducible refine LeO.ite ?_ ?_)
      | (with_reducible refine LeO.bind ?_ (fun _ => ?_))
      | exact ih0 _ _ _ _
      | exact ih1 _ _ _ _ _ _
      | exact ih2 _ _ _ _ _ _ _
      | exact analemmalaw02_shown.mono _
      | exact LeO.none _
      | refine LeO.ite ?_ ?_
      | refine LeO.bind ?_ (fun _ => ?_)
theorem analemmalaw02_FixMiddle.mono : ∀ a0 a1 a2 k, LeO (analemmalaw02_FixMiddle.f k a0 a1 a2) (analemmalaw02_FixMiddle.f (k + 1) a0 a1 a2) := by
  intro a0 a1 a2 k
  obtain ⟨ih0, ih1, ih2⟩ := analemmalaw02_FixMiddle.mono_l k
  unfold analemmalaw02_FixMiddle.f
  repeat' first
      | (with_reducible exact ih0 _ _ _ _)
      | (with_reducible exact ih1 _ _ _ _ _ _)
      | (with_reducible exact ih2 _ _ _ _ _ _ _)
      | (with_reducible exact analemmalaw02_shown.mono _)
      | (with_reducible exact LeO.refl _)
      | (with_reducible exact LeO.none _)
      | (with_reducible refine LeO.ite ?_ ?_)
      | (with_reducible refine LeO.bind ?_ (fun _ => ?_))
      | exact ih0 _ _ _ _
      | exact ih1 _ _ _ _ _ _
      | exact ih2 _ _ _ _ _ _ _
      | exact analemmalaw02_shown.mono _
      | exact LeO.none _
      | refine LeO.ite ?_ ?_
      | refine LeO.bind ?_ (fun _ => ?_)
set_option maxHeartbeats 8000000 in
set_option maxRecDepth 100000 in
theorem analemmalaw02_FixMiddle.calls (k : Nat) (A0 : Option Addr) (c0 : Nat) (l0 : List Int) (a1 : Int) (a2 : Int) (r : Bool) (w : World) (hr0 : Kd.C (Kd.int .i64) w A0 l0.length l0) (hc0 : l0.length ≤ c0) (h : analemmalaw02_FixMiddle.f k l0 a1 a2 = some r) (hr : Aside0 (r = true)) :
    Calls Try.prog 8 #[.slice A0 l0.length c0, .int .i64 a1, .int .u8 a2] w fun e w' => e = .returned (.bool r) ∧ Below w.heap.size w w' := by
  have HR0 := Aside0.mk hr0
  have HC0 := Aside0.mk hc0
  clear hr0 hc0
  have HB := Aside0.mk (Below.refl w.heap.size w)
  have H : (if (l0.length : Int) > 1024 then (analemmalaw02_FixMiddle.j0 k l0 a1 a2 true) else (analemmalaw02_FixMiddle.j0 k l0 a1 a2 ((l0.length : Int) == 0))) = some r := h
  clear h
  have HC4 := Aside0.mk H
  clear H
  go_enter Try.func8, Try.ntmps8
  go_upto_region 1 with (fail)
  go_cut [20] (fun v20 wc => ∃ (kq : Nat) (x20_3 : Bool), v20 = .bool x20_3 ∧ Aside0 (analemmalaw02_FixMiddle.j0 kq l0 a1 a2 x20_3 = some r) ∧ Aside0 (kq ≤ k) ∧ Aside0 (Below w.heap.size w wc))
  case first =>
    have H := HC4.out
    clear HC4
    by_cases c5 : (l0.length : Int) > 1024
    · rw [if_pos c5] at H
      have c5b0 : decide (1024 < (l0.length : Int)) = true := decide_eq_true c5
      have c5b1 : decide (1024 < l0.length) = true := decide_eq_true (by omega)
      clear c5
      (first | rw [c5b0] | (simp only [i64_w, i32_w]; rw [c5b0]) | skip)
      have H' := Aside0.mk H
      clear H
      go_wp2
      go_meet
      case rel => exact ⟨_, (true), (by first | rfl | (simp; done) | (simp [*]; done)), H', ⟨by first | omega | exact Nat.le_refl _⟩, ⟨by repeat (first | (with_reducible first | exact HB.out | apply below_alloc | apply pw_below_drewN | apply below_drew1) | exact HB.out)⟩⟩
    · rw [if_neg c5] at H
      have c5b0 : decide (1024 < (l0.length : Int)) = false := decide_eq_false c5
      have c5b1 : decide (1024 < l0.length) = false := decide_eq_false (by omega)
      clear c5
      (first | rw [c5b0] | (simp only [i64_w, i32_w]; rw [c5b0]) | skip)
      have H' := Aside0.mk H
      clear H
      go_wp2
      go_meet
      case rel => exact ⟨_, (((l0.length : Int) == 0)), (by first | rfl | (simp; done) | (simp [*]; done)), H', ⟨by first | omega | exact Nat.le_refl _⟩, ⟨by repeat (first | (with_reducible first | exact HB.out | apply below_alloc | apply pw_below_drewN | apply below_drew1) | exact HB.out)⟩⟩
  case rest =>
    clear HC4
    try clear p2
    try clear c5
    try clear c5b0
    try clear c5b1
    obtain ⟨kq, x20_3, rfl, HA, HJ3, HB⟩ := hcut
    cases kq with
    | zero => exact absurd HA.out (by simp [analemmalaw02_FixMiddle.j0])
    | succ kj3 =>
      have H := HA.out
      clear HA
      simp only [analemmalaw02_FixMiddle.j0] at H
      by_cases c6 : x20_3 = true
      · subst c6
        have H1 : ((fix_Mean.f ([] : List Int)).bind fun t117 => (if t117 = 0 then ((analemmalaw02_shown.f kj3).bind fun t118 => (some t118)) else (some false))) = some r := by rw [if_pos rfl] at H; exact H
        clear H
        have H := H1
        clear H1
        replace H := Option.bind_eq_some_iff.mp H
        obtain ⟨t117, A70, H⟩ := H
        replace H : (if t117 = 0 then ((analemmalaw02_shown.f kj3).bind fun t118 => (some t118)) else (some false)) = some r := H
        have A7 := Aside0.mk A70
        clear A70
        by_cases c8 : t117 = 0
        · rw [if_pos c8] at H
          have c8b0 : (t117 == 0) = true := beq_iff_eq.mpr c8
          have c8b1 : (t117 != 0) = false := bne_eq_false_iff_eq.mpr c8
          clear c8
          replace H := Option.bind_eq_some_iff.mp H
          obtain ⟨t118, A90, H⟩ := H
          replace H : (some t118) = some r := H
          have A9 := Aside0.mk A90
          clear A90
          first | exact absurd ((Option.some.inj H).trans hr.out) Bool.false_ne_true | skip
          all_goals (obtain rfl := Option.some.inj H)
          all_goals (go_wp2_with (first | ((with_reducible refine gate_callee (f := 20) rfl ?_); refine goesL_ (some 21) rfl rfl Try.func20 (by kernel_rfl) rfl #[.slice none 0 0] rfl (by (try simp only [List.map_toArray, List.map_cons, List.map_nil]); first | done | rfl | (simp only [List.length_drop, List.length_take]; rfl)) ?_; (refine (fix_Mean.calls _ _ ([] : List Int) t117 _ ?side1 ?side2 A7.out).mono ?_); (case side1 => exact Kd.C_nil _ _); (case side2 => exact Nat.le_refl _); rintro e w10 ⟨rfl, hb⟩; refine ⟨_, rfl, ?_⟩; have n0_ := Aside0.mk (below_step (by repeat (first | (with_reducible first | exact HB.out | apply below_alloc | apply pw_below_drewN | apply below_drew1) | exact HB.out)) hb); clear HB; have HB := n0_; clear n0_; (try clear hb); (try clear hb2); (try clear hk); (try clear hi)) | (go_at_call 14; (with_reducible refine (analemmalaw02_shown.calls kj3  t118 _ A9.out).mono ?_); rintro e w11 ⟨rfl, hb⟩; have n0_ := Aside0.mk (below_step (by repeat (first | (with_reducible first | exact HB.out | apply below_alloc | apply pw_below_drewN | apply below_drew1) | exact HB.out)) hb); clear HB; have HB := n0_; clear n0_; (try clear hb); (try clear hb2); (try clear hk); (try clear hi))))
          all_goals (go_ret)
          all_goals (exact ⟨by first | rfl | (simp [errW_none, errW_some] <;> rfl) | (simp [*, errW_none, errW_some] <;> rfl), by repeat (first | (with_reducible first | exact HB.out | apply below_alloc | apply pw_below_drewN | apply below_drew1) | exact HB.out)⟩)
        · rw [if_neg c8] at H
          have c8b0 : (t117 == 0) = false := beq_eq_false_iff_ne.mpr c8
          have c8b1 : (t117 != 0) = true := bne_iff_ne.mpr c8
          first | exact absurd ((Option.some.inj H).trans hr.out) Bool.false_ne_true | skip
          all_goals (obtain rfl := Option.some.inj H)
          all_goals (go_wp2_with (first | ((with_reducible refine gate_callee (f := 20) rfl ?_); refine goesL_ (some 21) rfl rfl Try.func20 (by kernel_rfl) rfl #[.slice none 0 0] rfl (by (try simp only [List.map_toArray, List.map_cons, List.map_nil]); first | done | rfl | (simp only [List.length_drop, List.length_take]; rfl)) ?_; (refine (fix_Mean.calls _ _ ([] : List Int) t117 _ ?side1 ?side2 A7.out).mono ?_); (case side1 => exact Kd.C_nil _ _); (case side2 => exact Nat.le_refl _); rintro e w12 ⟨rfl, hb⟩; refine ⟨_, rfl, ?_⟩; have n0_ := Aside0.mk (below_step (by repeat (first | (with_reducible first | exact HB.out | apply below_alloc | apply pw_below_drewN | apply below_drew1) | exact HB.out)) hb); clear HB; have HB := n0_; clear n0_; (try clear hb); (try clear hb2); (try clear hk); (try clear hi))))
          all_goals (go_ret)
          all_goals (exact ⟨by first | rfl | (simp [errW_none, errW_some] <;> rfl) | (simp [*, errW_none, errW_some] <;> rfl), by repeat (first | (with_reducible first | exact HB.out | apply below_alloc | apply pw_below_drewN | apply below_drew1) | exact HB.out)⟩)
      · replace c6 := Bool.eq_false_iff.mpr c6
        subst c6
        have H1 : (if 0 < (l0.length : Int) then (analemmalaw02_FixMiddle.l0 kj3 l0 a1 a2 (rd l0 0) (rd l0 0) 0) else (none)) = some r := by rw [if_neg (show ¬ (false = true) by decide)] at H; exact H
        clear H
        have H := H1
        clear H1
        by_cases c13 : 0 < (l0.length : Int)
        · rw [if_pos c13] at H
          have c13b0 : decide (0 < (l0.length : Int)) = true := decide_eq_true c13
          have c13b1 : decide (0 < l0.length) = true := decide_eq_true (by omega)
          clear c13
          have H' := Aside0.mk H
          clear H
          have p119 : 0 ≤ (0 : Int) := (by omega)
          have q119 : 0 < (l0.length : Int) := of_decide_eq_true (by first | (with_reducible assumption) | assumption)
          obtain ⟨ad119, e119, hx119_0⟩ := Kd.at_int HR0.out 0 p119 q119
          cases e119
          have qi119 : (0 < l0.length) = True := eq_true (by omega)
          (try rw [show ((0 : Int)).toNat = 0 from rfl] at hx119_0)
          (try rw [Addr.add_zero'] at hx119_0)
          replace hx119_0 := (HB.out.cell (World.block_lt_of_cell? w _ hx119_0)).trans hx119_0
          replace p119 := eq_true p119
          replace q119 := eq_true q119
          have p120 : 0 ≤ (0 : Int) := (by omega)
          have q120 : 0 < (l0.length : Int) := of_decide_eq_true (by first | (with_reducible assumption) | assumption)
          obtain ⟨ad120, e120, hx120_0⟩ := Kd.at_int HR0.out 0 p120 q120
          obtain rfl : ad119 = ad120 := (by injection e120)
          have qi120 : (0 < l0.length) = True := eq_true (by omega)
          (try rw [show ((0 : Int)).toNat = 0 from rfl] at hx120_0)
          (try rw [Addr.add_zero'] at hx120_0)
          replace hx120_0 := (HB.out.cell (World.block_lt_of_cell? w _ hx120_0)).trans hx120_0
          replace p120 := eq_true p120
          replace q120 := eq_true q120
          go_wp2
          go_loopg [7, 8, 9] kj3 (fun kq v7 v8 v9 w' => ∃ (x7_2 : Int) (x8_2 : Int) (x9_2 : Int), v7 = .int .i64 x7_2 ∧ v8 = .int .i64 x8_2 ∧ v9 = .int .i64 x9_2 ∧ Aside0 (analemmalaw02_FixMiddle.l0 kq l0 a1 a2 x7_2 x8_2 x9_2 = some r) ∧ Aside0 (kq ≤ kj3) ∧ Aside0 (Below w.heap.size w w'))
          case atStart => exact ⟨(rd l0 0), (rd l0 0), (0), (by first | rfl | (simp; done) | (simp [*]; done)), (by first | rfl | (simp; done) | (simp [*]; done)), (by first | rfl | (simp; done) | (simp [*]; done)), H', ⟨Nat.le_refl _⟩, ⟨by repeat (first | (with_reducible first | exact HB.out | apply below_alloc | apply pw_below_drewN | apply below_drew1) | exact HB.out)⟩⟩
          case round =>
            clear H'
            try clear c1
            try clear p1
            try clear q1
            try clear hx1
            try clear qi1
            try clear c2
            try clear p2
            try clear c5
            try clear c5b0
            try clear c5b1
            try clear c6
            try clear c8
            try clear c8b0
            try clear c8b1
            try clear p11
            try clear q11
            try clear hx11
            try clear qi11
            try clear p12
            try clear q12
            try clear hx12
            try clear qi12
            try clear c13
            try clear c13b0
            try clear c13b1
            try clear hx119_0
            try clear hx120_0
            try clear p119
            try clear p120
            try clear p2
            try clear q119
            try clear q120
            obtain ⟨x7_2, x8_2, x9_2, rfl, rfl, rfl, HA, HK2, HB⟩ := hrel
            cases gk with
            | zero => exact absurd HA.out (by simp [analemmalaw02_FixMiddle.l0])
            | succ k2 =>
              have H := HA.out
              clear HA
              simp only [analemmalaw02_FixMiddle.l0] at H
              by_cases c14 : x9_2 < (l0.length : Int)
              · rw [if_pos c14] at H
                have c14b0 : decide (x9_2 < (l0.length : Int)) = true := decide_eq_true c14
                clear c14
                by_cases c15 : 0 ≤ x9_2
                · rw [if_pos c15] at H
                  have c15b0 : decide (0 ≤ x9_2) = true := decide_eq_true c15
                  clear c15
                  obtain ⟨ji16, hji16⟩ : ∃ j_ : Int, (mn x7_2 (rd l0 x9_2)) = j_ := ⟨_, rfl⟩
                  replace H : (analemmalaw02_FixMiddle.l0 k2 l0 a1 a2 ji16 (mx x8_2 (rd l0 x9_2)) (wrap64 (x9_2 + 1))) = some r := by first | (rw [hji16] at H; exact H) | (simp only [hji16] at H ⊢; exact H)
                  have hji16_ : (if (rd l0 x9_2) < x7_2 then (rd l0 x9_2) else x7_2) = ji16 := hji16
                  obtain ⟨ji17, hji17⟩ : ∃ j_ : Int, (mx x8_2 (rd l0 x9_2)) = j_ := ⟨_, rfl⟩
                  replace H : (analemmalaw02_FixMiddle.l0 k2 l0 a1 a2 ji16 ji17 (wrap64 (x9_2 + 1))) = some r := by first | (rw [hji17] at H; exact H) | (simp only [hji17] at H ⊢; exact H)
                  have hji17_ : (if x8_2 < (rd l0 x9_2) then (rd l0 x9_2) else x8_2) = ji17 := hji17
                  have H' := Aside0.mk H
                  clear H
                  have p121 : 0 ≤ (x9_2 : Int) := of_decide_eq_true (by first | (with_reducible assumption) | assumption)
                  have q121 : x9_2 < (l0.length : Int) := of_decide_eq_true (by first | (with_reducible assumption) | assumption)
                  obtain ⟨ad121, e121, hx121_0⟩ := Kd.at_int HR0.out x9_2 p121 q121
                  obtain rfl : ad119 = ad121 := (by injection e121)
                  replace hx121_0 := (HB.out.cell (World.block_lt_of_cell? w _ hx121_0)).trans hx121_0
                  replace p121 := eq_true p121
                  replace q121 := eq_true q121
                  have p122 : 0 ≤ (x9_2 : Int) := of_decide_eq_true (by first | (with_reducible assumption) | assumption)
                  have q122 : x9_2 < (l0.length : Int) := of_decide_eq_true (by first | (with_reducible assumption) | assumption)
                  obtain ⟨ad122, e122, hx122_0⟩ := Kd.at_int HR0.out x9_2 p122 q122
                  obtain rfl : ad119 = ad122 := (by injection e122)
                  replace hx122_0 := (HB.out.cell (World.block_lt_of_cell? w _ hx122_0)).trans hx122_0
                  replace p122 := eq_true p122
                  replace q122 := eq_true q122
                  go_wp2
                  go_roundg k2
                  case measure => have := HJ3.out; have := HK2.out; omega
                  case rel => exact ⟨(ji16), (ji17), (wrap64 (x9_2 + 1)), (by first | rfl | (simp; done) | (simp only [← hji16] <;> (first | rfl | simp)) | (simp [*]; done)), (by first | rfl | (simp; done) | (simp only [← hji17] <;> (first | rfl | simp)) | (simp [*]; done)), (by first | rfl | (simp; done) | (simp [*]; done)), H', ⟨by have := HJ3.out; have := HK2.out; omega⟩, ⟨by repeat (first | (with_reducible first | exact HB.out | apply below_alloc | apply pw_below_drewN | apply below_drew1) | exact HB.out)⟩⟩
                · rw [if_neg c15] at H
                  exact absurd H (by simp)
              · rw [if_neg c14] at H
                have c14b0 : decide (x9_2 < (l0.length : Int)) = false := decide_eq_false c14
                clear c14
                replace H := Option.bind_eq_some_iff.mp H
                obtain ⟨t123, A180, H⟩ := H
                replace H : (analemmalaw02_FixMiddle.l1 k2 a1 a2 x7_2 x8_2 t123 (([] : List Int)) 0) = some r := H
                have A18 := Aside0.mk A180
                clear A180
                obtain ⟨y124, hy124⟩ : ∃ y_ : List Int, y_ = (([] : List Int)) := ⟨_, rfl⟩
                replace H : (analemmalaw02_FixMiddle.l1 k2 a1 a2 x7_2 x8_2 t123 y124 0) = some r := by first | (rw [hy124]; with_reducible exact H) | (have H2_ := (Option.bind_some _ _).symm.trans H; rw [hy124]; with_reducible exact H2_) | (have H2_ := (Option.bind_some _ _).symm.trans H; with_reducible exact H2_) | with_reducible exact H | (rw [hy124]; exact H) | exact H
                have Ny124 := Aside0.mk hy124
                clear hy124
                have H' := Aside0.mk H
                clear H
                go_wp2_with (first | ((with_reducible refine gate_callee (f := 20) rfl ?_); refine goesL_ (some 51) rfl rfl Try.func20 (by kernel_rfl) rfl #[.slice (some ad119) l0.length c0] rfl (by (try simp only [List.map_toArray, List.map_cons, List.map_nil]); first | done | rfl | (simp only [List.length_drop, List.length_take]; rfl)) ?_; (with_reducible refine (fix_Mean.calls _ _ l0 t123 _ ?side1 ?side2 A18.out).mono ?_); (case side1 => repeat (first | exact (Kd.C_below HR0.out HB.out) | (with_reducible refine Kd.C_alloc ?_ _) | (with_reducible refine Kd.C_drewN ?_ _) | (with_reducible refine Kd.C_drew ?_))); (case side2 => exact HC0.out); rintro e w19 ⟨rfl, hb⟩; refine ⟨_, rfl, ?_⟩; have n0_ := Aside0.mk (below_step (by repeat (first | (with_reducible first | exact HB.out | apply below_alloc | apply pw_below_drewN | apply below_drew1) | exact HB.out)) hb); clear HB; have HB := n0_; clear n0_; (try clear hb); (try clear hb2); (try clear hk); (try clear hi)) | ((with_reducible refine gate_dst (N := 52) rfl ?_); (try (refine gate_guard (by rfl) ?_; dsimp only)); refine Kd.R_lit (Kd.int .i64) _ 2 ?hg (N := 52) ?hd (xs := ([] : List Int)) (inner := []) (ok := fun _ => True) (okp := fun _ => True) ?hr ?hp (fun _ hk => hk) trivial (Below.refl _ _) (Nat.le_refl _) (by simp) ?_; (case hd => rfl); (case hg => rfl); (case hr => first | (go_simp; done) | (go_simp; rfl)); (case hp => exact (Reps.none _ _)); intro v125 w20 ho21 hb hg_ hnew_; clear hg_ hnew_; (first | rw [← Ny124.out] at ho21 | (simp only [Int.reduceToNat] at ho21; rw [← Ny124.out] at ho21)); have n0_ := Aside0.mk (Kd.R_lower ho21 (below_size (by repeat (first | (with_reducible first | exact HB.out | apply below_alloc | apply pw_below_drewN | apply below_drew1) | exact HB.out)))); have n1_ := Aside0.mk (below_step (by repeat (first | (with_reducible first | exact HB.out | apply below_alloc | apply pw_below_drewN | apply below_drew1) | exact HB.out)) hb); clear HB; have HO126 := n0_; have HB := n1_; clear n0_ n1_; clear hb ho21))
                go_loopg [11, 12] k2 (fun kq v11 v12 w' => ∃ (x11_3 : List Int) (x12_3 : Int), v12 = .int .i64 x12_3 ∧ Aside0 (analemmalaw02_FixMiddle.l1 kq a1 a2 x7_2 x8_2 t123 x11_3 x12_3 = some r) ∧ Aside0 (kq ≤ k2) ∧ Aside0 (Kd.R (Kd.int .i64) 2 w' w.heap.size (fun _ => True) v11 x11_3) ∧ Aside0 (Below w.heap.size w w'))
                case atStart => exact ⟨(y124), (0), (by first | rfl | (simp; done) | (simp [*]; done)), H', ⟨Nat.le_refl _⟩, ⟨by (with_reducible repeat (first | apply Kd.R_alloc | apply Kd.R_drewN | apply Kd.R_drew)); exact HO126.out⟩, ⟨by repeat (first | (with_reducible first | exact HB.out | apply below_alloc | apply pw_below_drewN | apply below_drew1) | exact HB.out)⟩⟩
                case round =>
                  clear H'
                  try clear c1
                  try clear p1
                  try clear q1
                  try clear hx1
                  try clear qi1
                  try clear c2
                  try clear p2
                  try clear c5
                  try clear c5b0
                  try clear c5b1
                  try clear c6
                  try clear p6
                  try clear c8
                  try clear c8b0
                  try clear c8b1
                  try clear p11
                  try clear q11
                  try clear hx11
                  try clear qi11
                  try clear p12
                  try clear q12
                  try clear hx12
                  try clear qi12
                  try clear c13
                  try clear c13b0
                  try clear c13b1
                  try clear c14
                  try clear c14b0
                  try clear c15
                  try clear c15b0
                  try clear c20
                  try clear hx119_0
                  try clear hx120_0
                  try clear hx121_0
                  try clear hx122_0
                  try clear p1
                  try clear p11
                  try clear p119
                  try clear p12
                  try clear p120
                  try clear p121
                  try clear p122
                  try clear p2
                  try clear q1
                  try clear q11
                  try clear q119
                  try clear q12
                  try clear q120
                  try clear q121
                  try clear q122
                  obtain ⟨x11_3, x12_3, rfl, HA, HK3, HO_11, HB⟩ := hrel
                  cases gk with
                  | zero => exact absurd HA.out (by simp [analemmalaw02_FixMiddle.l1])
                  | succ k3 =>
                    have H := HA.out
                    clear HA
                    simp only [analemmalaw02_FixMiddle.l1] at H
                    by_cases c22 : x12_3 ≤ (wrap64 (a2))
                    · rw [if_pos c22] at H
                      have c22b0 : decide (x12_3 ≤ (wrap64 (a2))) = true := decide_eq_true c22
                      clear c22
                      by_cases c23 : x11_3.length < 17592186044416
                      · rw [if_pos c23] at H
                        have LMc23 := Aside0.mk c23
                        clear c23
                        obtain ⟨y127, hy127⟩ : ∃ y_ : List Int, y_ = (x11_3 ++ [a1]) := ⟨_, rfl⟩
                        replace H : (analemmalaw02_FixMiddle.l1 k3 a1 a2 x7_2 x8_2 t123 y127 (wrap64 (x12_3 + 1))) = some r := by first | (rw [hy127]; with_reducible exact H) | (have H2_ := (Option.bind_some _ _).symm.trans H; rw [hy127]; with_reducible exact H2_) | (have H2_ := (Option.bind_some _ _).symm.trans H; with_reducible exact H2_) | with_reducible exact H | (rw [hy127]; exact H) | exact H
                        have Ny127 := Aside0.mk hy127
                        clear hy127
                        have H' := Aside0.mk H
                        clear H
                        go_wp2_with (first | ((with_reducible refine gate_builtin (b := .append) (xs := #[.tmp 59, .tmp 61]) rfl ?_); (try (refine gate_guard (by rfl) ?_; dsimp only)); at_builtin; refine Kd.R_append (Kd.int .i64) (w0 := w) w.heap.size rfl (.tmp 59) (.tmp 61) 34 2 (.int .i64 0) 8 rfl Try.underlying34 info2 rfl (by decide) (by omega) u11 x11_3 a1 [.int .i64 a1] (fun _ => True) (fun _ => False) rfl rfl ?aP (fun _ hk => hk.elim) ?aF ?aO ?aB ?aS ?aL ?_; (case aP => exact rfl); (case aB => exact (by repeat (first | (with_reducible first | exact HB.out | apply below_alloc | apply pw_below_drewN | apply below_drew1) | exact HB.out))); (case aF => exact (fun _ _ => trivial)); (case aO => exact (by (with_reducible repeat (first | apply Kd.R_alloc | apply Kd.R_drewN | apply Kd.R_drew)); exact HO_11.out)); (case aS => exact (below_size (by repeat (first | (with_reducible first | exact HB.out | apply below_alloc | apply pw_below_drewN | apply below_drew1) | exact HB.out)))); (case aL => have := LMc23.out; omega); intro v128 w24 ho hb hg hat; rw [← Ny127.out] at ho; have n0_ := Aside0.mk (hb); have n1_ := Aside0.mk (ho); clear HB; clear HO_11; have HB := n0_; have HO129 := n1_; clear n0_ n1_; clear ho hb hg hat))
                        go_roundg k3
                        case measure => have := HJ3.out; have := HK2.out; have := HK3.out; omega
                        case rel => exact ⟨(y127), (wrap64 (x12_3 + 1)), (by first | rfl | (simp; done) | (simp [*]; done)), H', ⟨by have := HJ3.out; have := HK2.out; have := HK3.out; omega⟩, ⟨by (with_reducible repeat (first | apply Kd.R_alloc | apply Kd.R_drewN | apply Kd.R_drew)); exact HO129.out⟩, ⟨by repeat (first | (with_reducible first | exact HB.out | apply below_alloc | apply pw_below_drewN | apply below_drew1) | exact HB.out)⟩⟩
                      · rw [if_neg c23] at H
                        exact absurd H (by simp)
                    · rw [if_neg c22] at H
                      have c22b0 : decide (x12_3 ≤ (wrap64 (a2))) = false := decide_eq_false c22
                      clear c22
                      obtain ⟨ji25, hji25⟩ : ∃ j_ : Int, (mx x7_2 (-9223372036854775807)) = j_ := ⟨_, rfl⟩
                      replace H : (if t123 ≥ (ji25) then (if t123 ≤ (mx x8_2 (-9223372036854775807)) then ((fix_Mean.f x11_3).bind fun t130 => (if t130 = (mx a1 (-9223372036854775807)) then ((analemmalaw02_shown.f k3).bind fun t131 => (some t131)) else (some false))) else (some false)) else (some false)) = some r := by first | (rw [hji25] at H; exact H) | (simp only [hji25] at H ⊢; exact H)
                      have hji25_ : (if x7_2 < (-9223372036854775807) then (-9223372036854775807) else x7_2) = ji25 := hji25
                      by_cases c26 : t123 ≥ (ji25)
                      · rw [if_pos c26] at H
                        have c26b0 : decide ((ji25) ≤ t123) = true := decide_eq_true c26
                        clear c26
                        obtain ⟨ji27, hji27⟩ : ∃ j_ : Int, (mx x8_2 (-9223372036854775807)) = j_ := ⟨_, rfl⟩
                        replace H : (if t123 ≤ (ji27) then ((fix_Mean.f x11_3).bind fun t130 => (if t130 = (mx a1 (-9223372036854775807)) then ((analemmalaw02_shown.f k3).bind fun t131 => (some t131)) else (some false))) else (some false)) = some r := by first | (rw [hji27] at H; exact H) | (simp only [hji27] at H ⊢; exact H)
                        have hji27_ : (if x8_2 < (-9223372036854775807) then (-9223372036854775807) else x8_2) = ji27 := hji27
                        by_cases c28 : t123 ≤ (ji27)
                        · rw [if_pos c28] at H
                          have c28b0 : decide (t123 ≤ (ji27)) = true := decide_eq_true c28
                          clear c28
                          replace H := Option.bind_eq_some_iff.mp H
                          obtain ⟨t130, A290, H⟩ := H
                          replace H : (if t130 = (mx a1 (-9223372036854775807)) then ((analemmalaw02_shown.f k3).bind fun t131 => (some t131)) else (some false)) = some r := H
                          have A29 := Aside0.mk A290
                          clear A290
                          obtain ⟨ji30, hji30⟩ : ∃ j_ : Int, (mx a1 (-9223372036854775807)) = j_ := ⟨_, rfl⟩
                          replace H : (if t130 = (ji30) then ((analemmalaw02_shown.f k3).bind fun t131 => (some t131)) else (some false)) = some r := by first | (rw [hji30] at H; exact H) | (simp only [hji30] at H ⊢; exact H)
                          (try rw [hji30] at A29)
                          have hji30_ : (if a1 < (-9223372036854775807) then (-9223372036854775807) else a1) = ji30 := hji30
                          by_cases c31 : t130 = (ji30)
                          · rw [if_pos c31] at H
                            have c31b0 : (t130 == (ji30)) = true := beq_iff_eq.mpr c31
                            have c31b1 : (t130 != (ji30)) = false := bne_eq_false_iff_eq.mpr c31
                            clear c31
                            replace H := Option.bind_eq_some_iff.mp H
                            obtain ⟨t131, A320, H⟩ := H
                            replace H : (some t131) = some r := H
                            have A32 := Aside0.mk A320
                            clear A320
                            first | exact absurd ((Option.some.inj H).trans hr.out) Bool.false_ne_true | skip
                            all_goals (obtain rfl := Option.some.inj H)
                            all_goals (obtain ⟨Ao33, co33, eo33⟩ := Kd.R_slice HO_11.out)
                            all_goals (subst eo33)
                            all_goals (go_wp2_with (first | (go_at_call 20; (with_reducible refine (fix_Mean.calls _ _ x11_3 t130 _ ?side1 ?side2 A29.out).mono ?_); (case side1 => repeat (first | exact (Kd.R_reads' HO_11.out).2.2 | (with_reducible refine Kd.C_alloc ?_ _) | (with_reducible refine Kd.C_drewN ?_ _) | (with_reducible refine Kd.C_drew ?_))); (case side2 => exact (Kd.R_reads' HO_11.out).2.1); rintro e w34 ⟨rfl, hb⟩; have n0_ := Aside0.mk (Kd.R_below (by (with_reducible repeat (first | apply Kd.R_alloc | apply Kd.R_drewN | apply Kd.R_drew)); exact HO_11.out) hb); have n1_ := Aside0.mk (below_step (by repeat (first | (with_reducible first | exact HB.out | apply below_alloc | apply pw_below_drewN | apply below_drew1) | exact HB.out)) hb); clear HO_11; clear HB; have HO_11 := n0_; have HB := n1_; clear n0_ n1_; (try clear hb); (try clear hb2); (try clear hk); (try clear hi)) | (go_at_call 14; (with_reducible refine (analemmalaw02_shown.calls k3  t131 _ A32.out).mono ?_); rintro e w35 ⟨rfl, hb⟩; have n0_ := Aside0.mk (Kd.R_below (by (with_reducible repeat (first | apply Kd.R_alloc | apply Kd.R_drewN | apply Kd.R_drew)); exact HO_11.out) hb); have n1_ := Aside0.mk (below_step (by repeat (first | (with_reducible first | exact HB.out | apply below_alloc | apply pw_below_drewN | apply below_drew1) | exact HB.out)) hb); clear HO_11; clear HB; have HO_11 := n0_; have HB := n1_; clear n0_ n1_; (try clear hb); (try clear hb2); (try clear hk); (try clear hi))))
                            all_goals (go_ret)
                            all_goals (exact ⟨by first | rfl | (simp [errW_none, errW_some] <;> rfl) | (simp only [← hji25, ← hji27, ← hji30]; first | rfl | (simp [errW_none, errW_some] <;> rfl)) | (simp [*, errW_none, errW_some] <;> rfl), by repeat (first | (with_reducible first | exact HB.out | apply below_alloc | apply pw_below_drewN | apply below_drew1) | exact HB.out)⟩)
                          · rw [if_neg c31] at H
                            have c31b0 : (t130 == (ji30)) = false := beq_eq_false_iff_ne.mpr c31
                            have c31b1 : (t130 != (ji30)) = true := bne_iff_ne.mpr c31
                            first | exact absurd ((Option.some.inj H).trans hr.out) Bool.false_ne_true | skip
                            all_goals (obtain rfl := Option.some.inj H)
                            all_goals (obtain ⟨Ao36, co36, eo36⟩ := Kd.R_slice HO_11.out)
                            all_goals (subst eo36)
                            all_goals (go_wp2_with (first | (go_at_call 20; (with_reducible refine (fix_Mean.calls _ _ x11_3 t130 _ ?side1 ?side2 A29.out).mono ?_); (case side1 => repeat (first | exact (Kd.R_reads' HO_11.out).2.2 | (with_reducible refine Kd.C_alloc ?_ _) | (with_reducible refine Kd.C_drewN ?_ _) | (with_reducible refine Kd.C_drew ?_))); (case side2 => exact (Kd.R_reads' HO_11.out).2.1); rintro e w37 ⟨rfl, hb⟩; have n0_ := Aside0.mk (Kd.R_below (by (with_reducible repeat (first | apply Kd.R_alloc | apply Kd.R_drewN | apply Kd.R_drew)); exact HO_11.out) hb); have n1_ := Aside0.mk (below_step (by repeat (first | (with_reducible first | exact HB.out | apply below_alloc | apply pw_below_drewN | apply below_drew1) | exact HB.out)) hb); clear HO_11; clear HB; have HO_11 := n0_; have HB := n1_; clear n0_ n1_; (try clear hb); (try clear hb2); (try clear hk); (try clear hi))))
                            all_goals (go_ret)
                            all_goals (exact ⟨by first | rfl | (simp [errW_none, errW_some] <;> rfl) | (simp only [← hji25, ← hji27, ← hji30]; first | rfl | (simp [errW_none, errW_some] <;> rfl)) | (simp [*, errW_none, errW_some] <;> rfl), by repeat (first | (with_reducible first | exact HB.out | apply below_alloc | apply pw_below_drewN | apply below_drew1) | exact HB.out)⟩)
                        · rw [if_neg c28] at H
                          have c28b0 : decide (t123 ≤ (ji27)) = false := decide_eq_false c28
                          clear c28
                          first | exact absurd ((Option.some.inj H).trans hr.out) Bool.false_ne_true | skip
                          all_goals (obtain rfl := Option.some.inj H)
                          all_goals (go_wp2)
                          all_goals (go_ret)
                          all_goals (exact ⟨by first | rfl | (simp [errW_none, errW_some] <;> rfl) | (simp only [← hji25, ← hji27]; first | rfl | (simp [errW_none, errW_some] <;> rfl)) | (simp [*, errW_none, errW_some] <;> rfl), by repeat (first | (with_reducible first | exact HB.out | apply below_alloc | apply pw_below_drewN | apply below_drew1) | exact HB.out)⟩)
                      · rw [if_neg c26] at H
                        have c26b0 : decide ((ji25) ≤ t123) = false := decide_eq_false c26
                        clear c26
                        first | exact absurd ((Option.some.inj H).trans hr.out) Bool.false_ne_true | skip
                        all_goals (obtain rfl := Option.some.inj H)
                        all_goals (go_wp2)
                        all_goals (go_ret)
                        all_goals (exact ⟨by first | rfl | (simp [errW_none, errW_some] <;> rfl) | (simp only [← hji25]; first | rfl | (simp [errW_none, errW_some] <;> rfl)) | (simp [*, errW_none, errW_some] <;> rfl), by repeat (first | (with_reducible first | exact HB.out | apply below_alloc | apply pw_below_drewN | apply below_drew1) | exact HB.out)⟩)
        · rw [if_neg c13] at H
          exact absurd H (by simp)

/-- THE ONE PURE STATEMENT of analemmalaw02_FixMiddle: yours. -/
def analemmalaw02_FixMiddle.Pure : Prop := ∀ (l0 : List Int) (a1 : Int) (a2 : Int), l0.length ≤ maxLen → l0.length * 8 ≤ 140737488351232 → (∀ x ∈ l0, (Lit.int .i64 x).wf = true) → (Lit.int .i64 a1).wf = true → (Lit.int .u8 a2).wf = true → ∃ k, analemmalaw02_FixMiddle.f k l0 a1 a2 = some true
theorem analemmalaw02_FixMiddle.walk (P : analemmalaw02_FixMiddle.Pure) (a0 : Option Addr) (len0 cap0 : Nat) (z0 : List Int) (a1 : Int) (a2 : Int) (w : World) (w0 : (a0 = none ∧ len0 = 0 ∧ cap0 = 0 ∧ z0 = []) ∨ ∃ x, a0 = some x ∧ len0 ≤ cap0 ∧ cap0 ≤ maxLen ∧ z0.length = cap0 ∧ (∀ i, i < z0.length → w.cell? (x.add i) = some (.int .i64 (z0.getD i 0))) ∧ ∀ n ∈ z0, (Lit.int .i64 n).wf = true) (y0 : len0 * 8 ≤ 140737488351232) (w1 : (Lit.int .i64 a1).wf = true) (w2 : (Lit.int .u8 a2).wf = true) :
    Calls Try.prog 8 #[.slice a0 len0 cap0, .int .i64 a1, .int .u8 a2] w fun e w' => e = .returned (.bool true) ∧ Below w.heap.size w w' := by
  obtain ⟨l0, rfl, hr0, hm0, hw0, hc0⟩ := ReadsInt.ofRowC w0
  obtain ⟨k, h⟩ := P l0 a1 a2 hm0 y0 hw0 w1 w2
  refine (analemmalaw02_FixMiddle.calls k _ _ l0 a1 a2 true w (Kd.C_of_reads (d := (0 : Int)) (h1 := fun _ => rfl) hr0) hc0 h (Aside0.mk rfl)).mono ?_
  rintro e w' ⟨rfl, hd⟩
  exact ⟨rfl, hd⟩

end Go.Proofs.Ytomjongnjfodmaa.MFixMiddle
