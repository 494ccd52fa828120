/- Functions that the statements of this seat reach, each as a plain Lean function, with a proof that the Go code comes to its answers; no condition. -/
import Derived.Test.YtilbkdlbbnkgdaaMHeaderx0
import Derived.Test.YtilbkdlbbnkgdaaMHeaderx7
namespace Go.Proofs.Ytilbkdlbbnkgdaa.MHeader
open Go.RowKit Go.Proofs.YtilbkdlbbnkgdaaW.PrintWords Go.Proofs.YtilbkdlbbnkgdaaW.PrintLast Go.Proofs.YtilbkdlbbnkgdaaW.PrintMore
attribute [local go_sem] max2_int min2_int max_two min_two max_three min_three max_four min_four   -- for this text's walks alone
set_option linter.unusedVariables false
set_option linter.unusedSimpArgs false

/-! ### analemmaref05_Decode: function 35 -/
theorem gen_world {P : Program} {C : Code} {Q : Exit → Act → World → Prop} {a : Act} {A B D : World → Prop} {W : World} (hA : A W) (hB : B W) (hD : D W) (h : ∀ w, A w → B w → D w → C.wp P Q a w) : C.wp P Q a W := h W hA hB hD
theorem load_row_run {P : Program} {o : Oper} {a : Act} {w : World} (ty : TypeId) (x : Operand) (ho : o.op = .load ty x)
    (g : Nat) (hx : a.eval x = .pointer (some ⟨g, 0, none⟩)) (t : TypeId) (cs : Array Value) (fr : Nat × Nat) (d : TypeDesc) (hg : w.heap[g]? = some (.cells cs t fr))
    (hu : P.underlying ty = some d) (hd : (match d with | .struct _ | .array _ _ => true | _ => false) = true) (hi : (P.info? ty).map (·.size) = some cs.size) : (execOp a.eval o).run P w = .ok (.value (.agg cs)) w := by
  unfold execOp
  simp only [ho, hx, Instr.loadAt, Instr.sureAddr, Sem.run_bind, Sem.run_pure, Result.andThen_ok, run_loadVar_row w g t ty cs fr d hg hu hd hi]
set_option maxHeartbeats 4000000 in
set_option maxRecDepth 100000 in
theorem tail14 {cs zs : Array Value} {w63 : World} {gb177 gb180 : Nat} {a0 : ByteArray} {u3 u4 u5 u7 u8 u9 u10 u11 u12 u13 u14 u15 u16 u17 u18 u19 u20 u21 u22 u23 u24 u25 u26 u27 u28 u29 u30 u31 u32 u33 u34 u35 u36 u37 u38 u39 u40 u41 u42 u43 u44 u45 u46 u47 u48 u49 u50 u51 u52 u53 u54 u55 u56 u57 u58 u59 u60 u61 u62 u63 u64 u65 u66 u67 u68 u69 u70 u71 u72 u73 u74 u75 : Value} {Q : Exit → Act → World → Prop} (hz : cs.size = 13) (hz2 : zs.size = 13) (hall : cs.all (fun x => x.oneCell') = true) (hQp : ∀ c (a : Act) (d : Tmp) (v : Value) w, Q (.panic c) (a.put (some d) v) w → Q (.panic c) a w) (c42b0 : (48 ≤ (a0.size : Int)) = True)
    (BK177 : Aside0 (w63.drew.heap[gb177]? = some (.cells zs 42 (0, 0)))) (BK180 : Aside0 (w63.drew.heap[gb180]? = some (.cells cs 42 (0, 0))))
    (hQ : ∀ w' : World, w' = w63.drew.setRow gb177 cs → Q .normal ⟨#[.string a0, undef, .pointer (some ⟨gb177, 0, none⟩), .string (a0.extract 48 a0.size), .int .i64 0, u5, .pointer (some ⟨gb180, 0, none⟩), u7, u8, u9, u10, u11, u12, u13, u14, u15, u16, u17, u18, u19, u20, u21, u22, u23, u24, u25, u26, u27, u28, u29, u30, u31, u32, u33, u34, u35, u36, u37, u38, u39, u40, u41, u42, u43, u44, u45, u46, u47, u48, u49, u50, u51, u52, u53, u54, u55, u56, u57, u58, u59, u60, u61, u62, u63, u64, u65, u66, u67, u68, u69, u70, u71, u72, .agg cs, .string a0, .string (a0.extract 48 a0.size)], []⟩ w') :
    ((Go.Code.region 14
                                    #[{ dst := some 73, op := Go.Op.load 42 (Go.Operand.tmp 6), type := 42,
                                        pos := "ref.go:64", after := #[], guard := none },
                                      { dst := some 74, op := Go.Op.move (Go.Operand.tmp 0), type := 9,
                                        pos := "ref.go:64", after := #[], guard := none },
                                      { dst := some 75,
                                        op :=
                                          Go.Op.slice 9 (Go.Operand.tmp 74)
                                            (some (Go.Operand.const (Go.Value.int Go.IntKind.i64 48))) none none,
                                        type := 9, pos := "ref.go:64",
                                        after := #[{ on := 1, ground := Go.Ground.data }], guard := none },
                                      { dst := none, op := Go.Op.store 42 (Go.Operand.tmp 2) (Go.Operand.tmp 73),
                                        type := 0, pos := "ref.go:64",
                                        after :=
                                          #[{ on := 0, ground := Go.Ground.data },
                                            { on := 0, ground := Go.Ground.phase },
                                            { on := 1, ground := Go.Ground.textOnly Go.Departure.lateStores },
                                            { on := 2, ground := Go.Ground.textOnly Go.Departure.lateStoresUnsure }],
                                        guard := none },
                                      { dst := some 3, op := Go.Op.assign (Go.Operand.tmp 75), type := 9,
                                        pos := "ref.go:64",
                                        after :=
                                          #[{ on := 2, ground := Go.Ground.data },
                                            { on := 3, ground := Go.Ground.chain },
                                            { on := 0, ground := Go.Ground.phase },
                                            { on := 1, ground := Go.Ground.phase },
                                            { on := 2, ground := Go.Ground.phase },
                                            { on := 3, ground := Go.Ground.phase }],
                                        guard := none },
                                      { dst := some 4,
                                        op := Go.Op.assign (Go.Operand.const (Go.Value.int Go.IntKind.i64 0)),
                                        type := 43, pos := "ref.go:64",
                                        after :=
                                          #[{ on := 4, ground := Go.Ground.chain },
                                            { on := 0, ground := Go.Ground.phase },
                                            { on := 1, ground := Go.Ground.phase },
                                            { on := 2, ground := Go.Ground.phase },
                                            { on := 3, ground := Go.Ground.phase },
                                            { on := 4, ground := Go.Ground.phase }],
                                        guard := none }]
                                    true) : Code).wp Try.prog Q ⟨#[.string a0, undef, .pointer (some ⟨gb177, 0, none⟩), u3, u4, u5, .pointer (some ⟨gb180, 0, none⟩), u7, u8, u9, u10, u11, u12, u13, u14, u15, u16, u17, u18, u19, u20, u21, u22, u23, u24, u25, u26, u27, u28, u29, u30, u31, u32, u33, u34, u35, u36, u37, u38, u39, u40, u41, u42, u43, u44, u45, u46, u47, u48, u49, u50, u51, u52, u53, u54, u55, u56, u57, u58, u59, u60, u61, u62, u63, u64, u65, u66, u67, u68, u69, u70, u71, u72, u73, u74, u75], []⟩ w63 := by
  refine start_ (n := 6) (S := fun w' => w'.heap[gb180]? = some (.cells cs 42 (0, 0))) (ds := [3]) #[false, false, false, false, false, false] (by kernel_rfl) rfl rfl BK180.out (fun hHeld => ?_)
  generalize w63.drew = w64 at BK177 BK180 hHeld hQ ⊢
  refine pure_ (i := 1) (N := some 74) (v := ?_) (a' := ?_) #[false, true, false, false, false, false] rfl rfl (by kernel_rfl) (fun c a w h => hQp c a _ _ w h) (Or.inl ⟨by rfl, ?_⟩) ?_ ?_
  rotate_left
  · intro w'
    go_simp
    with_reducible rfl
  rotate_left
  · simp only [Act.put, List.setIfInBounds_toArray, List.set_cons_zero, List.set_cons_succ, i64_w, i32_w]
    rfl
  refine pure_ (i := 2) (N := some 75) (v := ?_) (a' := ?_) #[false, true, true, false, false, false] rfl rfl (by kernel_rfl) (fun c a w h => hQp c a _ _ w h) (Or.inl ⟨by rfl, ?_⟩) ?_ ?_
  rotate_left
  · intro w'
    go_simp
    with_reducible rfl
  rotate_left
  · simp only [Act.put, List.setIfInBounds_toArray, List.set_cons_zero, List.set_cons_succ, i64_w, i32_w]
    rfl
  refine take_ (i := 0) (N := some 73) (v := .agg cs) (a' := ?_) #[true, true, true, false, false, false] rfl rfl (by kernel_rfl) (fun c a w h => hQp c a _ _ w h) (Or.inl ⟨by rfl, ?_⟩) hHeld ?_ ?_
  · intro w' s0
    exact load_row_run 42 (.tmp 6) rfl gb180 rfl 42 _ (0, 0) _ s0 Try.underlying42 rfl (by rw [hz]; kernel_rfl)
  rotate_left
  · simp only [Act.put, List.setIfInBounds_toArray, List.set_cons_zero, List.set_cons_succ, i64_w, i32_w]
    rfl
  refine last_ (i := 3) (N := none) #[true, true, true, true, false, false] rfl rfl (by kernel_rfl) (by decide) (fun K hK => ?_)
  rw [if_pos (by rfl)]
  refine wp_store_row 42 (.tmp 2) (.tmp 73) rfl gb177 cs rfl rfl 42 _ BK177.out (by rw [hz]; kernel_rfl) (hz2.trans hz.symm) hall ?_
  refine hK.out _ _ ?_
  clear hK K
  refine pure_ (i := 4) (N := some 3) (v := ?_) (a' := ?_) #[true, true, true, true, true, false] rfl rfl (by kernel_rfl) (fun c a w h => hQp c a _ _ w h) (Or.inl ⟨by rfl, ?_⟩) ?_ ?_
  rotate_left
  · intro w'
    go_simp
    with_reducible rfl
  rotate_left
  · simp only [Act.put, List.setIfInBounds_toArray, List.set_cons_zero, List.set_cons_succ, i64_w, i32_w]
    rfl
  refine pure_ (i := 5) (N := some 4) (v := ?_) (a' := ?_) #[true, true, true, true, true, true] rfl rfl (by kernel_rfl) (fun c a w h => hQp c a _ _ w h) (Or.inl ⟨by rfl, ?_⟩) ?_ ?_
  rotate_left
  · intro w'
    go_simp
    with_reducible rfl
  rotate_left
  · simp only [Act.put, List.setIfInBounds_toArray, List.set_cons_zero, List.set_cons_succ, i64_w, i32_w]
    rfl
  refine done_ (by kernel_rfl) ?_
  exact hQ _ rfl
def analemmaref05_Decode.j0 : Nat → ByteArray → Int → Bool → Option (Int × Int × Int × Int × Int × Int × Int × Int × Int × Int × Int × Int × Int × ByteArray × Int)
  | 0, _, _, _ => none
  | k + 1, x0, x5, x21 => if x21 = true then (some (0, 0, 0, 0, 0, 0, 0, 0, 0, 0, 0, 0, 0, (⟨#[]⟩ : ByteArray), 51)) else (if 0 < (x0.size : Int) then (if 1 < (x0.size : Int) then (if 2 < (x0.size : Int) then ((analemmaref05_signed.f (bt x0 2)).bind fun t178 => (if 3 < (x0.size : Int) then ((analemmaref05_signed.f (bt x0 3)).bind fun t179 => (if 4 ≤ 8 then (if 8 ≤ (x0.size : Int) then ((analemmaref05_Number.f k (x0.extract 4 8)).bind fun t181 => (if 8 ≤ 12 then (if 12 ≤ (x0.size : Int) then ((analemmaref05_Number.f k (x0.extract 8 12)).bind fun t182 => (if 12 ≤ 16 then (if 16 ≤ (x0.size : Int) then ((analemmaref05_Number.f k (x0.extract 12 16)).bind fun t183 => (if 16 ≤ 24 then (if 24 ≤ (x0.size : Int) then ((analemmaref05_Number.f k (x0.extract 16 24)).bind fun t184 => (if 24 ≤ 32 then (if 32 ≤ (x0.size : Int) then ((analemmaref05_Number.f k (x0.extract 24 32)).bind fun t185 => (if 32 ≤ 40 then (if 40 ≤ (x0.size : Int) then ((analemmaref05_Number.f k (x0.extract 32 40)).bind fun t186 => (if 40 ≤ 48 then (if 48 ≤ (x0.size : Int) then ((analemmaref05_Number.f k (x0.extract 40 48)).bind fun t187 => (some (wrap64 (Int.tdiv (wrap64 (bt x0 0)) 64), x5, Int.tmod (wrap64 (bt x0 0)) 8, wrap64 (bt x0 1), t178, t179, (t181) % 4294967296, (t182) % 4294967296, (t183) % 4294967296, t184, t185, t186, t187, x0.extract 48 x0.size, 0))) else (none)) else (none))) else (none)) else (none))) else (none)) else (none))) else (none)) else (none))) else (none)) else (none))) else (none)) else (none))) else (none)) else (none))) else (none))) else (none)) else (none)) else (none))
def analemmaref05_Decode.f (k : Nat) (a0 : ByteArray) : Option (Int × Int × Int × Int × Int × Int × Int × Int × Int × Int × Int × Int × Int × ByteArray × Int) := if (a0.size : Int) < 48 then (some (0, 0, 0, 0, 0, 0, 0, 0, 0, 0, 0, 0, 0, (⟨#[]⟩ : ByteArray), 50)) else (if 0 < (a0.size : Int) then (if (Int.tmod (wrap64 (Int.tdiv (wrap64 (bt a0 0)) 8)) 8) < 1 then (analemmaref05_Decode.j0 k a0 (Int.tmod (wrap64 (Int.tdiv (wrap64 (bt a0 0)) 8)) 8) true) else (analemmaref05_Decode.j0 k a0 (Int.tmod (wrap64 (Int.tdiv (wrap64 (bt a0 0)) 8)) 8) (decide ((Int.tmod (wrap64 (Int.tdiv (wrap64 (bt a0 0)) 8)) 8) > 4)))) else (none))
theorem analemmaref05_Decode.mono_l : ∀ k, (∀ y0 y1 y2, LeO (analemmaref05_Decode.j0 k y0 y1 y2) (analemmaref05_Decode.j0 (k + 1) y0 y1 y2))
  | 0 => fun _ _ _ r h => by simp [analemmaref05_Decode.j0] at h
  | k + 1 => by
    have ih0 := analemmaref05_Decode.mono_l k
    · intro y0 y1 y2
      unfold analemmaref05_Decode.j0
      repeat' first
      | (with_reducible exact ih0 _ _ _)
      | (with_reducible exact analemmaref05_Number.mono _ _)
      | (with_reducible exact LeO.refl _)
      | (with_reducible exact LeO.none _)
      | (with_reducible refine LeO.ite ?_ ?_)
      | (with_reducible refine LeO.bind ?_ (fun _ => ?_))
      | exact ih0 _ _ _
      | exact analemmaref05_Number.mono _ _
      | exact LeO.none _
      | refine LeO.ite ?_ ?_
      | refine LeO.bind ?_ (fun _ => ?_)
theorem analemmaref05_Decode.mono : ∀ a0 k, LeO (analemmaref05_Decode.f k a0) (analemmaref05_Decode.f (k + 1) a0) := by
  intro a0 k
  have ih0 := analemmaref05_Decode.mono_l k
  unfold analemmaref05_Decode.f
  repeat' first
      | (with_reducible exact ih0 _ _ _)
      | (with_reducible exact analemmaref05_Number.mono _ _)
      | (with_reducible exact LeO.refl _)
      | (with_reducible exact LeO.none _)
      | (with_reducible refine LeO.ite ?_ ?_)
      | (with_reducible refine LeO.bind ?_ (fun _ => ?_))
      | exact ih0 _ _ _
      | exact analemmaref05_Number.mono _ _
      | exact LeO.none _
      | refine LeO.ite ?_ ?_
      | refine LeO.bind ?_ (fun _ => ?_)
def analemmaref05_Decode.T6 : Bool × List (List Nat × List Nat) := (true, [([], []), ([0], [0]), ([1], [1]), ([2], [2]), ([], []), ([], []), ([5], [5]), ([6], [6]), ([7], [7]), ([], []), ([9], [9]), ([10], [10]), ([], []), ([12], [12]), ([13], [13]), ([], []), ([15], [15]), ([16, 14], [16]), ([3, 4, 8, 11, 14, 17], [3, 4, 8, 11, 14, 17]), ([], []), ([19, 18, 17, 0, 1, 2, 3, 4, 5, 6, 7, 8, 9, 10, 11, 12, 13, 14, 15, 16, 17, 18, 19], [18, 19])])
def analemmaref05_Decode.B6 : List Nat := [0, 1, 3, 7, 0, 0, 32, 96, 224, 0, 512, 1536, 0, 4096, 12288, 0, 32768, 126976, 262143, 0, 1048575]
theorem analemmaref05_Decode.tab6 : rtab .any (opsOf Try.f35 6) = analemmaref05_Decode.T6 := by kernel_rfl
theorem analemmaref05_Decode.bits6 : waitsOk analemmaref05_Decode.T6.2 analemmaref05_Decode.B6 = true := by kernel_rfl
set_option maxHeartbeats 40000000 in
set_option maxRecDepth 100000 in
theorem analemmaref05_Decode.calls (k : Nat) (a0 : ByteArray) (r1 : Int) (r2 : Int) (r3 : Int) (r4 : Int) (r5 : Int) (r6 : Int) (r7 : Int) (r8 : Int) (r9 : Int) (r10 : Int) (r11 : Int) (r12 : Int) (r13 : Int) (r14 : ByteArray) (r15 : Int) (w : World) (h : analemmaref05_Decode.f k a0 = some (r1, r2, r3, r4, r5, r6, r7, r8, r9, r10, r11, r12, r13, r14, r15)) :
    Calls Try.prog 35 #[.string a0] w fun e w' => e = .returned (.tuple #[.agg #[.int .i64 r1, .int .i64 r2, .int .i64 r3, .int .i64 r4, .int .i64 r5, .int .i64 r6, .int .u32 r7, .int .u32 r8, .int .u32 r9, .int .u64 r10, .int .u64 r11, .int .u64 r12, .int .u64 r13], .string r14, .int .i64 r15]) ∧ Below w.heap.size w w' := by
  have hu42 := Try.underlying42
  have HB := Aside0.mk (Below.refl w.heap.size w)
  have H : (if (a0.size : Int) < 48 then (some (0, 0, 0, 0, 0, 0, 0, 0, 0, 0, 0, 0, 0, (⟨#[]⟩ : ByteArray), 50)) else (if 0 < (a0.size : Int) then (if (Int.tmod (wrap64 (Int.tdiv (wrap64 (bt a0 0)) 8)) 8) < 1 then (analemmaref05_Decode.j0 k a0 (Int.tmod (wrap64 (Int.tdiv (wrap64 (bt a0 0)) 8)) 8) true) else (analemmaref05_Decode.j0 k a0 (Int.tmod (wrap64 (Int.tdiv (wrap64 (bt a0 0)) 8)) 8) (decide ((Int.tmod (wrap64 (Int.tdiv (wrap64 (bt a0 0)) 8)) 8) > 4)))) else (none))) = some (r1, r2, r3, r4, r5, r6, r7, r8, r9, r10, r11, r12, r13, r14, r15) := h
  clear h
  by_cases c2 : (a0.size : Int) < 48
  · rw [if_pos c2] at H
    have c2b0 : decide ((a0.size : Int) < 48) = true := decide_eq_true c2
    have c2b1 : decide (a0.size < 48) = true := decide_eq_true (by omega)
    clear c2
    simp only [Option.some.injEq, Prod.mk.injEq] at H
    obtain ⟨rfl, rfl, rfl, rfl, rfl, rfl, rfl, rfl, rfl, rfl, rfl, rfl, rfl, rfl, rfl⟩ := H
    go_enter Try.func35, Try.ntmps35
    go_wp2_with (first | ((with_reducible refine gate_dst (N := 2) rfl ?_); refine box_event ?hg (N := 2) ?hd (cs := #[.int .i64 0, .int .i64 0, .int .i64 0, .int .i64 0, .int .i64 0, .int .i64 0, .int .u32 0, .int .u32 0, .int .u32 0, .int .u64 0, .int .u64 0, .int .u64 0, .int .u64 0]) (t := 42) ?hr ?_; (case hd => rfl); (case hg => rfl); (case hr => first | (go_simp; done) | (go_simp; rfl)); intro gb177 hg w3 hbox hb; have n0_ := Aside0.mk (below_step (by repeat (first | (with_reducible first | exact HB.out | apply below_alloc | apply pw_below_drewN | apply below_drew1) | exact HB.out)) hb); have n1_ := Aside0.mk (hbox); have n2_ := Aside0.mk ((by rw [hg]; exact (below_size (by repeat (first | (with_reducible first | exact HB.out | apply below_alloc | apply pw_below_drewN | apply below_drew1) | exact HB.out))) : w.heap.size ≤ gb177)); have n3_ := Aside0.mk ((by rw [hg]; exact (below_size (by repeat (first | (with_reducible first | exact HB.out | apply below_alloc | apply pw_below_drewN | apply below_drew1) | exact HB.out))) : w.heap.size ≤ gb177)); clear HB; have HB := n0_; have BK177 := n1_; have GW177 := n2_; have GE177 := n3_; clear n0_ n1_ n2_ n3_; clear hb hbox hg; have hcz4_0 : w3.cell? ⟨gb177, 0, none⟩ = some (.int .i64 0) := (blk_cell BK177.out 0).trans rfl; have hcz4_1 : w3.cell? ⟨gb177, 1, none⟩ = some (.int .i64 0) := (blk_cell BK177.out 1).trans rfl; have hcz4_2 : w3.cell? ⟨gb177, 2, none⟩ = some (.int .i64 0) := (blk_cell BK177.out 2).trans rfl; have hcz4_3 : w3.cell? ⟨gb177, 3, none⟩ = some (.int .i64 0) := (blk_cell BK177.out 3).trans rfl; have hcz4_4 : w3.cell? ⟨gb177, 4, none⟩ = some (.int .i64 0) := (blk_cell BK177.out 4).trans rfl; have hcz4_5 : w3.cell? ⟨gb177, 5, none⟩ = some (.int .i64 0) := (blk_cell BK177.out 5).trans rfl; have hcz4_6 : w3.cell? ⟨gb177, 6, none⟩ = some (.int .u32 0) := (blk_cell BK177.out 6).trans rfl; have hcz4_7 : w3.cell? ⟨gb177, 7, none⟩ = some (.int .u32 0) := (blk_cell BK177.out 7).trans rfl; have hcz4_8 : w3.cell? ⟨gb177, 8, none⟩ = some (.int .u32 0) := (blk_cell BK177.out 8).trans rfl; have hcz4_9 : w3.cell? ⟨gb177, 9, none⟩ = some (.int .u64 0) := (blk_cell BK177.out 9).trans rfl; have hcz4_10 : w3.cell? ⟨gb177, 10, none⟩ = some (.int .u64 0) := (blk_cell BK177.out 10).trans rfl; have hcz4_11 : w3.cell? ⟨gb177, 11, none⟩ = some (.int .u64 0) := (blk_cell BK177.out 11).trans rfl; have hcz4_12 : w3.cell? ⟨gb177, 12, none⟩ = some (.int .u64 0) := (blk_cell BK177.out 12).trans rfl; have hfz4_0 := blk_frozen BK177.out 0; have hfz4_1 := blk_frozen BK177.out 1; have hfz4_2 := blk_frozen BK177.out 2; have hfz4_3 := blk_frozen BK177.out 3; have hfz4_4 := blk_frozen BK177.out 4; have hfz4_5 := blk_frozen BK177.out 5; have hfz4_6 := blk_frozen BK177.out 6; have hfz4_7 := blk_frozen BK177.out 7; have hfz4_8 := blk_frozen BK177.out 8; have hfz4_9 := blk_frozen BK177.out 9; have hfz4_10 := blk_frozen BK177.out 10; have hfz4_11 := blk_frozen BK177.out 11; have hfz4_12 := blk_frozen BK177.out 12))
    refine bodyPost_ret (results_ctt rfl _ _ gb177 42 #[.int .i64 0, .int .i64 0, .int .i64 0, .int .i64 0, .int .i64 0, .int .i64 0, .int .u32 0, .int .u32 0, .int .u32 0, .int .u64 0, .int .u64 0, .int .u64 0, .int .u64 0] (0, 0) _ rfl (by (with_reducible repeat (first | refine blk_drewN ?_ _ | refine blk_drew ?_ | refine blk_alloc ?_ _)); refine blk_put (cs := #[.int .i64 0, .int .i64 0, .int .i64 0, .int .i64 0, .int .i64 0, .int .i64 0, .int .u32 0, .int .u32 0, .int .u32 0, .int .u64 0, .int .u64 0, .int .u64 0, .int .u64 0]) ?_ 12 _ rfl; (with_reducible repeat (first | refine blk_drewN ?_ _ | refine blk_drew ?_ | refine blk_alloc ?_ _)); refine blk_put (cs := #[.int .i64 0, .int .i64 0, .int .i64 0, .int .i64 0, .int .i64 0, .int .i64 0, .int .u32 0, .int .u32 0, .int .u32 0, .int .u64 0, .int .u64 0, .int .u64 0, .int .u64 0]) ?_ 11 _ rfl; (with_reducible repeat (first | refine blk_drewN ?_ _ | refine blk_drew ?_ | refine blk_alloc ?_ _)); refine blk_put (cs := #[.int .i64 0, .int .i64 0, .int .i64 0, .int .i64 0, .int .i64 0, .int .i64 0, .int .u32 0, .int .u32 0, .int .u32 0, .int .u64 0, .int .u64 0, .int .u64 0, .int .u64 0]) ?_ 10 _ rfl; (with_reducible repeat (first | refine blk_drewN ?_ _ | refine blk_drew ?_ | refine blk_alloc ?_ _)); refine blk_put (cs := #[.int .i64 0, .int .i64 0, .int .i64 0, .int .i64 0, .int .i64 0, .int .i64 0, .int .u32 0, .int .u32 0, .int .u32 0, .int .u64 0, .int .u64 0, .int .u64 0, .int .u64 0]) ?_ 9 _ rfl; (with_reducible repeat (first | refine blk_drewN ?_ _ | refine blk_drew ?_ | refine blk_alloc ?_ _)); refine blk_put (cs := #[.int .i64 0, .int .i64 0, .int .i64 0, .int .i64 0, .int .i64 0, .int .i64 0, .int .u32 0, .int .u32 0, .int .u32 0, .int .u64 0, .int .u64 0, .int .u64 0, .int .u64 0]) ?_ 8 _ rfl; (with_reducible repeat (first | refine blk_drewN ?_ _ | refine blk_drew ?_ | refine blk_alloc ?_ _)); refine blk_put (cs := #[.int .i64 0, .int .i64 0, .int .i64 0, .int .i64 0, .int .i64 0, .int .i64 0, .int .u32 0, .int .u32 0, .int .u32 0, .int .u64 0, .int .u64 0, .int .u64 0, .int .u64 0]) ?_ 7 _ rfl; (with_reducible repeat (first | refine blk_drewN ?_ _ | refine blk_drew ?_ | refine blk_alloc ?_ _)); refine blk_put (cs := #[.int .i64 0, .int .i64 0, .int .i64 0, .int .i64 0, .int .i64 0, .int .i64 0, .int .u32 0, .int .u32 0, .int .u32 0, .int .u64 0, .int .u64 0, .int .u64 0, .int .u64 0]) ?_ 6 _ rfl; (with_reducible repeat (first | refine blk_drewN ?_ _ | refine blk_drew ?_ | refine blk_alloc ?_ _)); refine blk_put (cs := #[.int .i64 0, .int .i64 0, .int .i64 0, .int .i64 0, .int .i64 0, .int .i64 0, .int .u32 0, .int .u32 0, .int .u32 0, .int .u64 0, .int .u64 0, .int .u64 0, .int .u64 0]) ?_ 5 _ rfl; (with_reducible repeat (first | refine blk_drewN ?_ _ | refine blk_drew ?_ | refine blk_alloc ?_ _)); refine blk_put (cs := #[.int .i64 0, .int .i64 0, .int .i64 0, .int .i64 0, .int .i64 0, .int .i64 0, .int .u32 0, .int .u32 0, .int .u32 0, .int .u64 0, .int .u64 0, .int .u64 0, .int .u64 0]) ?_ 4 _ rfl; (with_reducible repeat (first | refine blk_drewN ?_ _ | refine blk_drew ?_ | refine blk_alloc ?_ _)); refine blk_put (cs := #[.int .i64 0, .int .i64 0, .int .i64 0, .int .i64 0, .int .i64 0, .int .i64 0, .int .u32 0, .int .u32 0, .int .u32 0, .int .u64 0, .int .u64 0, .int .u64 0, .int .u64 0]) ?_ 3 _ rfl; (with_reducible repeat (first | refine blk_drewN ?_ _ | refine blk_drew ?_ | refine blk_alloc ?_ _)); refine blk_put (cs := #[.int .i64 0, .int .i64 0, .int .i64 0, .int .i64 0, .int .i64 0, .int .i64 0, .int .u32 0, .int .u32 0, .int .u32 0, .int .u64 0, .int .u64 0, .int .u64 0, .int .u64 0]) ?_ 2 _ rfl; (with_reducible repeat (first | refine blk_drewN ?_ _ | refine blk_drew ?_ | refine blk_alloc ?_ _)); refine blk_put (cs := #[.int .i64 0, .int .i64 0, .int .i64 0, .int .i64 0, .int .i64 0, .int .i64 0, .int .u32 0, .int .u32 0, .int .u32 0, .int .u64 0, .int .u64 0, .int .u64 0, .int .u64 0]) ?_ 1 _ rfl; (with_reducible repeat (first | refine blk_drewN ?_ _ | refine blk_drew ?_ | refine blk_alloc ?_ _)); refine blk_put (cs := #[.int .i64 0, .int .i64 0, .int .i64 0, .int .i64 0, .int .i64 0, .int .i64 0, .int .u32 0, .int .u32 0, .int .u32 0, .int .u64 0, .int .u64 0, .int .u64 0, .int .u64 0]) ?_ 0 _ rfl; (with_reducible repeat (first | refine blk_drewN ?_ _ | refine blk_drew ?_ | refine blk_alloc ?_ _)); exact BK177.out) Try.underlying42 rfl (by kernel_rfl)) rfl ?_
    exact ⟨by first | rfl | (simp [errW_none, errW_some] <;> rfl) | (simp [*, errW_none, errW_some] <;> rfl), by repeat (first | (with_reducible first | exact HB.out | apply below_alloc | apply pw_below_drewN | apply below_drew1 | refine below_set ?_ GE177.out) | exact HB.out)⟩
  · rw [if_neg c2] at H
    have c2b0 : decide ((a0.size : Int) < 48) = false := decide_eq_false c2
    have c2b1 : decide (a0.size < 48) = false := decide_eq_false (by omega)
    clear c2
    by_cases c5 : 0 < (a0.size : Int)
    · rw [if_pos c5] at H
      have c5b0 : decide (0 < (a0.size : Int)) = true := decide_eq_true c5
      have c5b1 : decide (0 < a0.size) = true := decide_eq_true (by omega)
      clear c5
      have HC7 := Aside0.mk H
      clear H
      go_enter Try.func35, Try.ntmps35
      go_upto_region 4 with (first | ((with_reducible refine gate_dst (N := 2) rfl ?_); refine box_event ?hg (N := 2) ?hd (cs := #[.int .i64 0, .int .i64 0, .int .i64 0, .int .i64 0, .int .i64 0, .int .i64 0, .int .u32 0, .int .u32 0, .int .u32 0, .int .u64 0, .int .u64 0, .int .u64 0, .int .u64 0]) (t := 42) ?hr ?_; (case hd => rfl); (case hg => rfl); (case hr => first | (go_simp; done) | (go_simp; rfl)); intro gb177 hg w8 hbox hb; have n0_ := Aside0.mk (below_step (by repeat (first | (with_reducible first | exact HB.out | apply below_alloc | apply pw_below_drewN | apply below_drew1) | exact HB.out)) hb); have n1_ := Aside0.mk (hbox); have n2_ := Aside0.mk ((by rw [hg]; exact (below_size (by repeat (first | (with_reducible first | exact HB.out | apply below_alloc | apply pw_below_drewN | apply below_drew1) | exact HB.out))) : w.heap.size ≤ gb177)); have n3_ := Aside0.mk ((by rw [hg]; exact (below_size (by repeat (first | (with_reducible first | exact HB.out | apply below_alloc | apply pw_below_drewN | apply below_drew1) | exact HB.out))) : w.heap.size ≤ gb177)); clear HB; have HB := n0_; have BK177 := n1_; have GW177 := n2_; have GE177 := n3_; clear n0_ n1_ n2_ n3_; clear hb hbox hg; have p6 : 0 ≤ (0 : Int) := (by omega); have q6 : 0 < a0.size := (by have : (0 : Int) < (a0.size : Int) := of_decide_eq_true (by first | (with_reducible assumption) | assumption); omega); have hx6 : ∀ h : 0 < a0.size, ((a0[0]'h).toNat : Int) = bt a0 0 := bt_at a0 0; clear p6; have qi6 : (0 < (a0.size : Int)) = True := eq_true (of_decide_eq_true (by first | (with_reducible assumption) | assumption)); replace q6 := eq_true q6))
      (try simp only [Act.put, List.setIfInBounds_toArray, List.set_cons_zero, List.set_cons_succ])
      go_cut [21] (fun v21 wc => ∃ (kq : Nat) (x21_6 : Bool), v21 = .bool x21_6 ∧ Aside0 (analemmaref05_Decode.j0 kq a0 (Int.tmod (wrap64 (Int.tdiv (wrap64 (bt a0 0)) 8)) 8) x21_6 = some (r1, r2, r3, r4, r5, r6, r7, r8, r9, r10, r11, r12, r13, r14, r15)) ∧ Aside0 (kq ≤ k) ∧ Aside0 (wc.heap[gb177]? = some (.cells #[.int .i64 0, .int .i64 0, .int .i64 0, .int .i64 0, .int .i64 0, .int .i64 0, .int .u32 0, .int .u32 0, .int .u32 0, .int .u64 0, .int .u64 0, .int .u64 0, .int .u64 0] 42 (0, 0))) ∧ Aside0 (Below w.heap.size w wc))
      case first =>
        have H := HC7.out
        clear HC7
        by_cases c9 : (Int.tmod (wrap64 (Int.tdiv (wrap64 (bt a0 0)) 8)) 8) < 1
        · rw [if_pos c9] at H
          have c9b0 : decide ((Int.tmod (wrap64 (Int.tdiv (wrap64 (bt a0 0)) 8)) 8) < 1) = true := decide_eq_true c9
          clear c9
          (first | rw [c9b0] | (simp only [i64_w, i32_w]; rw [c9b0]) | skip)
          have H' := Aside0.mk H
          clear H
          go_wp2
          go_meet
          case rel => exact ⟨_, (true), (by first | rfl | (simp; done) | (simp [*]; done)), H', ⟨by first | omega | exact Nat.le_refl _⟩, ⟨by (with_reducible repeat (first | refine blk_drewN ?_ _ | refine blk_drew ?_ | refine blk_alloc ?_ _)); exact BK177.out⟩, ⟨by repeat (first | (with_reducible first | exact HB.out | apply below_alloc | apply pw_below_drewN | apply below_drew1 | refine below_set ?_ GE177.out) | exact HB.out)⟩⟩
        · rw [if_neg c9] at H
          have c9b0 : decide ((Int.tmod (wrap64 (Int.tdiv (wrap64 (bt a0 0)) 8)) 8) < 1) = false := decide_eq_false c9
          clear c9
          (first | rw [c9b0] | (simp only [i64_w, i32_w]; rw [c9b0]) | skip)
          have H' := Aside0.mk H
          clear H
          go_wp2
          go_meet
          case rel => exact ⟨_, (decide ((Int.tmod (wrap64 (Int.tdiv (wrap64 (bt a0 0)) 8)) 8) > 4)), (by first | rfl | (simp; done) | (simp [*]; done)), H', ⟨by first | omega | exact Nat.le_refl _⟩, ⟨by (with_reducible repeat (first | refine blk_drewN ?_ _ | refine blk_drew ?_ | refine blk_alloc ?_ _)); exact BK177.out⟩, ⟨by repeat (first | (with_reducible first | exact HB.out | apply below_alloc | apply pw_below_drewN | apply below_drew1 | refine below_set ?_ GE177.out) | exact HB.out)⟩⟩
      case rest =>
        clear HC7
        try clear c2
        try clear c2b0
        try clear c2b1
        try clear p2
        try clear c3
        try clear c5
        try clear c5b0
        try clear c5b1
        try clear p6
        try clear q6
        try clear hx6
        try clear qi6
        try clear c9
        try clear c9b0
        try clear hcz4_0
        try clear hcz4_1
        try clear hcz4_10
        try clear hcz4_11
        try clear hcz4_12
        try clear hcz4_2
        try clear hcz4_3
        try clear hcz4_4
        try clear hcz4_5
        try clear hcz4_6
        try clear hcz4_7
        try clear hcz4_8
        try clear hcz4_9
        try clear hfz4_0
        try clear hfz4_1
        try clear hfz4_10
        try clear hfz4_11
        try clear hfz4_12
        try clear hfz4_2
        try clear hfz4_3
        try clear hfz4_4
        try clear hfz4_5
        try clear hfz4_6
        try clear hfz4_7
        try clear hfz4_8
        try clear hfz4_9
        try clear p6
        try clear q6
        obtain ⟨kq, x21_6, rfl, HA, HJ6, BK177, HB⟩ := hcut
        cases kq with
        | zero => exact absurd HA.out (by simp [analemmaref05_Decode.j0])
        | succ kj6 =>
          have H := HA.out
          clear HA
          simp only [analemmaref05_Decode.j0] at H
          by_cases c10 : x21_6 = true
          · subst c10
            have H1 : (some (0, 0, 0, 0, 0, 0, 0, 0, 0, 0, 0, 0, 0, (⟨#[]⟩ : ByteArray), 51)) = some (r1, r2, r3, r4, r5, r6, r7, r8, r9, r10, r11, r12, r13, r14, r15) := by rw [if_pos rfl] at H; exact H
            clear H
            have H := H1
            clear H1
            simp only [Option.some.injEq, Prod.mk.injEq] at H
            obtain ⟨rfl, rfl, rfl, rfl, rfl, rfl, rfl, rfl, rfl, rfl, rfl, rfl, rfl, rfl, rfl⟩ := H
            have hcz11_0 : wc.cell? ⟨gb177, 0, none⟩ = some (.int .i64 0) := (blk_cell BK177.out 0).trans rfl
            have hcz11_1 : wc.cell? ⟨gb177, 1, none⟩ = some (.int .i64 0) := (blk_cell BK177.out 1).trans rfl
            have hcz11_2 : wc.cell? ⟨gb177, 2, none⟩ = some (.int .i64 0) := (blk_cell BK177.out 2).trans rfl
            have hcz11_3 : wc.cell? ⟨gb177, 3, none⟩ = some (.int .i64 0) := (blk_cell BK177.out 3).trans rfl
            have hcz11_4 : wc.cell? ⟨gb177, 4, none⟩ = some (.int .i64 0) := (blk_cell BK177.out 4).trans rfl
            have hcz11_5 : wc.cell? ⟨gb177, 5, none⟩ = some (.int .i64 0) := (blk_cell BK177.out 5).trans rfl
            have hcz11_6 : wc.cell? ⟨gb177, 6, none⟩ = some (.int .u32 0) := (blk_cell BK177.out 6).trans rfl
            have hcz11_7 : wc.cell? ⟨gb177, 7, none⟩ = some (.int .u32 0) := (blk_cell BK177.out 7).trans rfl
            have hcz11_8 : wc.cell? ⟨gb177, 8, none⟩ = some (.int .u32 0) := (blk_cell BK177.out 8).trans rfl
            have hcz11_9 : wc.cell? ⟨gb177, 9, none⟩ = some (.int .u64 0) := (blk_cell BK177.out 9).trans rfl
            have hcz11_10 : wc.cell? ⟨gb177, 10, none⟩ = some (.int .u64 0) := (blk_cell BK177.out 10).trans rfl
            have hcz11_11 : wc.cell? ⟨gb177, 11, none⟩ = some (.int .u64 0) := (blk_cell BK177.out 11).trans rfl
            have hcz11_12 : wc.cell? ⟨gb177, 12, none⟩ = some (.int .u64 0) := (blk_cell BK177.out 12).trans rfl
            have hfz11_0 := blk_frozen BK177.out 0
            have hfz11_1 := blk_frozen BK177.out 1
            have hfz11_2 := blk_frozen BK177.out 2
            have hfz11_3 := blk_frozen BK177.out 3
            have hfz11_4 := blk_frozen BK177.out 4
            have hfz11_5 := blk_frozen BK177.out 5
            have hfz11_6 := blk_frozen BK177.out 6
            have hfz11_7 := blk_frozen BK177.out 7
            have hfz11_8 := blk_frozen BK177.out 8
            have hfz11_9 := blk_frozen BK177.out 9
            have hfz11_10 := blk_frozen BK177.out 10
            have hfz11_11 := blk_frozen BK177.out 11
            have hfz11_12 := blk_frozen BK177.out 12
            go_wp2
            refine bodyPost_ret (results_ctt rfl _ _ gb177 42 #[.int .i64 0, .int .i64 0, .int .i64 0, .int .i64 0, .int .i64 0, .int .i64 0, .int .u32 0, .int .u32 0, .int .u32 0, .int .u64 0, .int .u64 0, .int .u64 0, .int .u64 0] (0, 0) _ rfl (by (with_reducible repeat (first | refine blk_drewN ?_ _ | refine blk_drew ?_ | refine blk_alloc ?_ _)); refine blk_put (cs := #[.int .i64 0, .int .i64 0, .int .i64 0, .int .i64 0, .int .i64 0, .int .i64 0, .int .u32 0, .int .u32 0, .int .u32 0, .int .u64 0, .int .u64 0, .int .u64 0, .int .u64 0]) ?_ 12 _ rfl; (with_reducible repeat (first | refine blk_drewN ?_ _ | refine blk_drew ?_ | refine blk_alloc ?_ _)); refine blk_put (cs := #[.int .i64 0, .int .i64 0, .int .i64 0, .int .i64 0, .int .i64 0, .int .i64 0, .int .u32 0, .int .u32 0, .int .u32 0, .int .u64 0, .int .u64 0, .int .u64 0, .int .u64 0]) ?_ 11 _ rfl; (with_reducible repeat (first | refine blk_drewN ?_ _ | refine blk_drew ?_ | refine blk_alloc ?_ _)); refine blk_put (cs := #[.int .i64 0, .int .i64 0, .int .i64 0, .int .i64 0, .int .i64 0, .int .i64 0, .int .u32 0, .int .u32 0, .int .u32 0, .int .u64 0, .int .u64 0, .int .u64 0, .int .u64 0]) ?_ 10 _ rfl; (with_reducible repeat (first | refine blk_drewN ?_ _ | refine blk_drew ?_ | refine blk_alloc ?_ _)); refine blk_put (cs := #[.int .i64 0, .int .i64 0, .int .i64 0, .int .i64 0, .int .i64 0, .int .i64 0, .int .u32 0, .int .u32 0, .int .u32 0, .int .u64 0, .int .u64 0, .int .u64 0, .int .u64 0]) ?_ 9 _ rfl; (with_reducible repeat (first | refine blk_drewN ?_ _ | refine blk_drew ?_ | refine blk_alloc ?_ _)); refine blk_put (cs := #[.int .i64 0, .int .i64 0, .int .i64 0, .int .i64 0, .int .i64 0, .int .i64 0, .int .u32 0, .int .u32 0, .int .u32 0, .int .u64 0, .int .u64 0, .int .u64 0, .int .u64 0]) ?_ 8 _ rfl; (with_reducible repeat (first | refine blk_drewN ?_ _ | refine blk_drew ?_ | refine blk_alloc ?_ _)); refine blk_put (cs := #[.int .i64 0, .int .i64 0, .int .i64 0, .int .i64 0, .int .i64 0, .int .i64 0, .int .u32 0, .int .u32 0, .int .u32 0, .int .u64 0, .int .u64 0, .int .u64 0, .int .u64 0]) ?_ 7 _ rfl; (with_reducible repeat (first | refine blk_drewN ?_ _ | refine blk_drew ?_ | refine blk_alloc ?_ _)); refine blk_put (cs := #[.int .i64 0, .int .i64 0, .int .i64 0, .int .i64 0, .int .i64 0, .int .i64 0, .int .u32 0, .int .u32 0, .int .u32 0, .int .u64 0, .int .u64 0, .int .u64 0, .int .u64 0]) ?_ 6 _ rfl; (with_reducible repeat (first | refine blk_drewN ?_ _ | refine blk_drew ?_ | refine blk_alloc ?_ _)); refine blk_put (cs := #[.int .i64 0, .int .i64 0, .int .i64 0, .int .i64 0, .int .i64 0, .int .i64 0, .int .u32 0, .int .u32 0, .int .u32 0, .int .u64 0, .int .u64 0, .int .u64 0, .int .u64 0]) ?_ 5 _ rfl; (with_reducible repeat (first | refine blk_drewN ?_ _ | refine blk_drew ?_ | refine blk_alloc ?_ _)); refine blk_put (cs := #[.int .i64 0, .int .i64 0, .int .i64 0, .int .i64 0, .int .i64 0, .int .i64 0, .int .u32 0, .int .u32 0, .int .u32 0, .int .u64 0, .int .u64 0, .int .u64 0, .int .u64 0]) ?_ 4 _ rfl; (with_reducible repeat (first | refine blk_drewN ?_ _ | refine blk_drew ?_ | refine blk_alloc ?_ _)); refine blk_put (cs := #[.int .i64 0, .int .i64 0, .int .i64 0, .int .i64 0, .int .i64 0, .int .i64 0, .int .u32 0, .int .u32 0, .int .u32 0, .int .u64 0, .int .u64 0, .int .u64 0, .int .u64 0]) ?_ 3 _ rfl; (with_reducible repeat (first | refine blk_drewN ?_ _ | refine blk_drew ?_ | refine blk_alloc ?_ _)); refine blk_put (cs := #[.int .i64 0, .int .i64 0, .int .i64 0, .int .i64 0, .int .i64 0, .int .i64 0, .int .u32 0, .int .u32 0, .int .u32 0, .int .u64 0, .int .u64 0, .int .u64 0, .int .u64 0]) ?_ 2 _ rfl; (with_reducible repeat (first | refine blk_drewN ?_ _ | refine blk_drew ?_ | refine blk_alloc ?_ _)); refine blk_put (cs := #[.int .i64 0, .int .i64 0, .int .i64 0, .int .i64 0, .int .i64 0, .int .i64 0, .int .u32 0, .int .u32 0, .int .u32 0, .int .u64 0, .int .u64 0, .int .u64 0, .int .u64 0]) ?_ 1 _ rfl; (with_reducible repeat (first | refine blk_drewN ?_ _ | refine blk_drew ?_ | refine blk_alloc ?_ _)); refine blk_put (cs := #[.int .i64 0, .int .i64 0, .int .i64 0, .int .i64 0, .int .i64 0, .int .i64 0, .int .u32 0, .int .u32 0, .int .u32 0, .int .u64 0, .int .u64 0, .int .u64 0, .int .u64 0]) ?_ 0 _ rfl; (with_reducible repeat (first | refine blk_drewN ?_ _ | refine blk_drew ?_ | refine blk_alloc ?_ _)); exact BK177.out) Try.underlying42 rfl (by kernel_rfl)) rfl ?_
            exact ⟨by first | rfl | (simp [errW_none, errW_some] <;> rfl) | (simp [*, errW_none, errW_some] <;> rfl), by repeat (first | (with_reducible first | exact HB.out | apply below_alloc | apply pw_below_drewN | apply below_drew1 | refine below_set ?_ GE177.out) | exact HB.out)⟩
          · replace c10 := Bool.eq_false_iff.mpr c10
            subst c10
            have H1 : (if 0 < (a0.size : Int) then (if 1 < (a0.size : Int) then (if 2 < (a0.size : Int) then ((analemmaref05_signed.f (bt a0 2)).bind fun t178 => (if 3 < (a0.size : Int) then ((analemmaref05_signed.f (bt a0 3)).bind fun t179 => (if 4 ≤ 8 then (if 8 ≤ (a0.size : Int) then ((analemmaref05_Number.f kj6 (a0.extract 4 8)).bind fun t181 => (if 8 ≤ 12 then (if 12 ≤ (a0.size : Int) then ((analemmaref05_Number.f kj6 (a0.extract 8 12)).bind fun t182 => (if 12 ≤ 16 then (if 16 ≤ (a0.size : Int) then ((analemmaref05_Number.f kj6 (a0.extract 12 16)).bind fun t183 => (if 16 ≤ 24 then (if 24 ≤ (a0.size : Int) then ((analemmaref05_Number.f kj6 (a0.extract 16 24)).bind fun t184 => (if 24 ≤ 32 then (if 32 ≤ (a0.size : Int) then ((analemmaref05_Number.f kj6 (a0.extract 24 32)).bind fun t185 => (if 32 ≤ 40 then (if 40 ≤ (a0.size : Int) then ((analemmaref05_Number.f kj6 (a0.extract 32 40)).bind fun t186 => (if 40 ≤ 48 then (if 48 ≤ (a0.size : Int) then ((analemmaref05_Number.f kj6 (a0.extract 40 48)).bind fun t187 => (some (wrap64 (Int.tdiv (wrap64 (bt a0 0)) 64), (Int.tmod (wrap64 (Int.tdiv (wrap64 (bt a0 0)) 8)) 8), Int.tmod (wrap64 (bt a0 0)) 8, wrap64 (bt a0 1), t178, t179, (t181) % 4294967296, (t182) % 4294967296, (t183) % 4294967296, t184, t185, t186, t187, a0.extract 48 a0.size, 0))) else (none)) else (none))) else (none)) else (none))) else (none)) else (none))) else (none)) else (none))) else (none)) else (none))) else (none)) else (none))) else (none)) else (none))) else (none))) else (none)) else (none)) else (none)) = some (r1, r2, r3, r4, r5, r6, r7, r8, r9, r10, r11, r12, r13, r14, r15) := by rw [if_neg (show ¬ (false = true) by decide)] at H; exact H
            clear H
            have H := H1
            clear H1
            by_cases c12 : 0 < (a0.size : Int)
            · rw [if_pos c12] at H
              have c12b0 : decide (0 < (a0.size : Int)) = true := decide_eq_true c12
              have c12b1 : decide (0 < a0.size) = true := decide_eq_true (by omega)
              clear c12
              by_cases c15 : 1 < (a0.size : Int)
              · rw [if_pos c15] at H
                have c15b0 : decide (1 < (a0.size : Int)) = true := decide_eq_true c15
                have c15b1 : decide (1 < a0.size) = true := decide_eq_true (by omega)
                clear c15
                by_cases c17 : 2 < (a0.size : Int)
                · rw [if_pos c17] at H
                  have c17b0 : decide (2 < (a0.size : Int)) = true := decide_eq_true c17
                  have c17b1 : decide (2 < a0.size) = true := decide_eq_true (by omega)
                  clear c17
                  replace H := Option.bind_eq_some_iff.mp H
                  obtain ⟨t178, A190, H⟩ := H
                  replace H : (if 3 < (a0.size : Int) then ((analemmaref05_signed.f (bt a0 3)).bind fun t179 => (if 4 ≤ 8 then (if 8 ≤ (a0.size : Int) then ((analemmaref05_Number.f kj6 (a0.extract 4 8)).bind fun t181 => (if 8 ≤ 12 then (if 12 ≤ (a0.size : Int) then ((analemmaref05_Number.f kj6 (a0.extract 8 12)).bind fun t182 => (if 12 ≤ 16 then (if 16 ≤ (a0.size : Int) then ((analemmaref05_Number.f kj6 (a0.extract 12 16)).bind fun t183 => (if 16 ≤ 24 then (if 24 ≤ (a0.size : Int) then ((analemmaref05_Number.f kj6 (a0.extract 16 24)).bind fun t184 => (if 24 ≤ 32 then (if 32 ≤ (a0.size : Int) then ((analemmaref05_Number.f kj6 (a0.extract 24 32)).bind fun t185 => (if 32 ≤ 40 then (if 40 ≤ (a0.size : Int) then ((analemmaref05_Number.f kj6 (a0.extract 32 40)).bind fun t186 => (if 40 ≤ 48 then (if 48 ≤ (a0.size : Int) then ((analemmaref05_Number.f kj6 (a0.extract 40 48)).bind fun t187 => (some (wrap64 (Int.tdiv (wrap64 (bt a0 0)) 64), (Int.tmod (wrap64 (Int.tdiv (wrap64 (bt a0 0)) 8)) 8), Int.tmod (wrap64 (bt a0 0)) 8, wrap64 (bt a0 1), t178, t179, (t181) % 4294967296, (t182) % 4294967296, (t183) % 4294967296, t184, t185, t186, t187, a0.extract 48 a0.size, 0))) else (none)) else (none))) else (none)) else (none))) else (none)) else (none))) else (none)) else (none))) else (none)) else (none))) else (none)) else (none))) else (none)) else (none))) else (none)) = some (r1, r2, r3, r4, r5, r6, r7, r8, r9, r10, r11, r12, r13, r14, r15) := H
                  have A19 := Aside0.mk A190
                  clear A190
                  by_cases c20 : 3 < (a0.size : Int)
                  · rw [if_pos c20] at H
                    have c20b0 : decide (3 < (a0.size : Int)) = true := decide_eq_true c20
                    have c20b1 : decide (3 < a0.size) = true := decide_eq_true (by omega)
                    clear c20
                    replace H := Option.bind_eq_some_iff.mp H
                    obtain ⟨t179, A220, H⟩ := H
                    replace H : (if 4 ≤ 8 then (if 8 ≤ (a0.size : Int) then ((analemmaref05_Number.f kj6 (a0.extract 4 8)).bind fun t181 => (if 8 ≤ 12 then (if 12 ≤ (a0.size : Int) then ((analemmaref05_Number.f kj6 (a0.extract 8 12)).bind fun t182 => (if 12 ≤ 16 then (if 16 ≤ (a0.size : Int) then ((analemmaref05_Number.f kj6 (a0.extract 12 16)).bind fun t183 => (if 16 ≤ 24 then (if 24 ≤ (a0.size : Int) then ((analemmaref05_Number.f kj6 (a0.extract 16 24)).bind fun t184 => (if 24 ≤ 32 then (if 32 ≤ (a0.size : Int) then ((analemmaref05_Number.f kj6 (a0.extract 24 32)).bind fun t185 => (if 32 ≤ 40 then (if 40 ≤ (a0.size : Int) then ((analemmaref05_Number.f kj6 (a0.extract 32 40)).bind fun t186 => (if 40 ≤ 48 then (if 48 ≤ (a0.size : Int) then ((analemmaref05_Number.f kj6 (a0.extract 40 48)).bind fun t187 => (some (wrap64 (Int.tdiv (wrap64 (bt a0 0)) 64), (Int.tmod (wrap64 (Int.tdiv (wrap64 (bt a0 0)) 8)) 8), Int.tmod (wrap64 (bt a0 0)) 8, wrap64 (bt a0 1), t178, t179, (t181) % 4294967296, (t182) % 4294967296, (t183) % 4294967296, t184, t185, t186, t187, a0.extract 48 a0.size, 0))) else (none)) else (none))) else (none)) else (none))) else (none)) else (none))) else (none)) else (none))) else (none)) else (none))) else (none)) else (none))) else (none)) else (none)) = some (r1, r2, r3, r4, r5, r6, r7, r8, r9, r10, r11, r12, r13, r14, r15) := H
                    have A22 := Aside0.mk A220
                    clear A220
                    by_cases c23 : 4 ≤ 8
                    · rw [if_pos c23] at H
                      have c23b0 := eq_true c23
                      have c23b1 : decide (4 ≤ 8) = true := decide_eq_true c23
                      clear c23
                      by_cases c24 : 8 ≤ (a0.size : Int)
                      · rw [if_pos c24] at H
                        have c24b0 := eq_true c24
                        have c24b1 : decide (8 ≤ (a0.size : Int)) = true := decide_eq_true c24
                        clear c24
                        replace H := Option.bind_eq_some_iff.mp H
                        obtain ⟨t181, A250, H⟩ := H
                        replace H : (if 8 ≤ 12 then (if 12 ≤ (a0.size : Int) then ((analemmaref05_Number.f kj6 (a0.extract 8 12)).bind fun t182 => (if 12 ≤ 16 then (if 16 ≤ (a0.size : Int) then ((analemmaref05_Number.f kj6 (a0.extract 12 16)).bind fun t183 => (if 16 ≤ 24 then (if 24 ≤ (a0.size : Int) then ((analemmaref05_Number.f kj6 (a0.extract 16 24)).bind fun t184 => (if 24 ≤ 32 then (if 32 ≤ (a0.size : Int) then ((analemmaref05_Number.f kj6 (a0.extract 24 32)).bind fun t185 => (if 32 ≤ 40 then (if 40 ≤ (a0.size : Int) then ((analemmaref05_Number.f kj6 (a0.extract 32 40)).bind fun t186 => (if 40 ≤ 48 then (if 48 ≤ (a0.size : Int) then ((analemmaref05_Number.f kj6 (a0.extract 40 48)).bind fun t187 => (some (wrap64 (Int.tdiv (wrap64 (bt a0 0)) 64), (Int.tmod (wrap64 (Int.tdiv (wrap64 (bt a0 0)) 8)) 8), Int.tmod (wrap64 (bt a0 0)) 8, wrap64 (bt a0 1), t178, t179, (t181) % 4294967296, (t182) % 4294967296, (t183) % 4294967296, t184, t185, t186, t187, a0.extract 48 a0.size, 0))) else (none)) else (none))) else (none)) else (none))) else (none)) else (none))) else (none)) else (none))) else (none)) else (none))) else (none)) else (none)) = some (r1, r2, r3, r4, r5, r6, r7, r8, r9, r10, r11, r12, r13, r14, r15) := H
                        have A25 := Aside0.mk A250
                        clear A250
                        by_cases c26 : 8 ≤ 12
                        · rw [if_pos c26] at H
                          have c26b0 := eq_true c26
                          have c26b1 : decide (8 ≤ 12) = true := decide_eq_true c26
                          clear c26
                          by_cases c27 : 12 ≤ (a0.size : Int)
                          · rw [if_pos c27] at H
                            have c27b0 := eq_true c27
                            have c27b1 : decide (12 ≤ (a0.size : Int)) = true := decide_eq_true c27
                            clear c27
                            replace H := Option.bind_eq_some_iff.mp H
                            obtain ⟨t182, A280, H⟩ := H
                            replace H : (if 12 ≤ 16 then (if 16 ≤ (a0.size : Int) then ((analemmaref05_Number.f kj6 (a0.extract 12 16)).bind fun t183 => (if 16 ≤ 24 then (if 24 ≤ (a0.size : Int) then ((analemmaref05_Number.f kj6 (a0.extract 16 24)).bind fun t184 => (if 24 ≤ 32 then (if 32 ≤ (a0.size : Int) then ((analemmaref05_Number.f kj6 (a0.extract 24 32)).bind fun t185 => (if 32 ≤ 40 then (if 40 ≤ (a0.size : Int) then ((analemmaref05_Number.f kj6 (a0.extract 32 40)).bind fun t186 => (if 40 ≤ 48 then (if 48 ≤ (a0.size : Int) then ((analemmaref05_Number.f kj6 (a0.extract 40 48)).bind fun t187 => (some (wrap64 (Int.tdiv (wrap64 (bt a0 0)) 64), (Int.tmod (wrap64 (Int.tdiv (wrap64 (bt a0 0)) 8)) 8), Int.tmod (wrap64 (bt a0 0)) 8, wrap64 (bt a0 1), t178, t179, (t181) % 4294967296, (t182) % 4294967296, (t183) % 4294967296, t184, t185, t186, t187, a0.extract 48 a0.size, 0))) else (none)) else (none))) else (none)) else (none))) else (none)) else (none))) else (none)) else (none))) else (none)) else (none)) = some (r1, r2, r3, r4, r5, r6, r7, r8, r9, r10, r11, r12, r13, r14, r15) := H
                            have A28 := Aside0.mk A280
                            clear A280
                            by_cases c29 : 12 ≤ 16
                            · rw [if_pos c29] at H
                              have c29b0 := eq_true c29
                              have c29b1 : decide (12 ≤ 16) = true := decide_eq_true c29
                              clear c29
                              by_cases c30 : 16 ≤ (a0.size : Int)
                              · rw [if_pos c30] at H
                                have c30b0 := eq_true c30
                                have c30b1 : decide (16 ≤ (a0.size : Int)) = true := decide_eq_true c30
                                clear c30
                                replace H := Option.bind_eq_some_iff.mp H
                                obtain ⟨t183, A310, H⟩ := H
                                replace H : (if 16 ≤ 24 then (if 24 ≤ (a0.size : Int) then ((analemmaref05_Number.f kj6 (a0.extract 16 24)).bind fun t184 => (if 24 ≤ 32 then (if 32 ≤ (a0.size : Int) then ((analemmaref05_Number.f kj6 (a0.extract 24 32)).bind fun t185 => (if 32 ≤ 40 then (if 40 ≤ (a0.size : Int) then ((analemmaref05_Number.f kj6 (a0.extract 32 40)).bind fun t186 => (if 40 ≤ 48 then (if 48 ≤ (a0.size : Int) then ((analemmaref05_Number.f kj6 (a0.extract 40 48)).bind fun t187 => (some (wrap64 (Int.tdiv (wrap64 (bt a0 0)) 64), (Int.tmod (wrap64 (Int.tdiv (wrap64 (bt a0 0)) 8)) 8), Int.tmod (wrap64 (bt a0 0)) 8, wrap64 (bt a0 1), t178, t179, (t181) % 4294967296, (t182) % 4294967296, (t183) % 4294967296, t184, t185, t186, t187, a0.extract 48 a0.size, 0))) else (none)) else (none))) else (none)) else (none))) else (none)) else (none))) else (none)) else (none)) = some (r1, r2, r3, r4, r5, r6, r7, r8, r9, r10, r11, r12, r13, r14, r15) := H
                                have A31 := Aside0.mk A310
                                clear A310
                                by_cases c32 : 16 ≤ 24
                                · rw [if_pos c32] at H
                                  have c32b0 := eq_true c32
                                  have c32b1 : decide (16 ≤ 24) = true := decide_eq_true c32
                                  clear c32
                                  by_cases c33 : 24 ≤ (a0.size : Int)
                                  · rw [if_pos c33] at H
                                    have c33b0 := eq_true c33
                                    have c33b1 : decide (24 ≤ (a0.size : Int)) = true := decide_eq_true c33
                                    clear c33
                                    replace H := Option.bind_eq_some_iff.mp H
                                    obtain ⟨t184, A340, H⟩ := H
                                    replace H : (if 24 ≤ 32 then (if 32 ≤ (a0.size : Int) then ((analemmaref05_Number.f kj6 (a0.extract 24 32)).bind fun t185 => (if 32 ≤ 40 then (if 40 ≤ (a0.size : Int) then ((analemmaref05_Number.f kj6 (a0.extract 32 40)).bind fun t186 => (if 40 ≤ 48 then (if 48 ≤ (a0.size : Int) then ((analemmaref05_Number.f kj6 (a0.extract 40 48)).bind fun t187 => (some (wrap64 (Int.tdiv (wrap64 (bt a0 0)) 64), (Int.tmod (wrap64 (Int.tdiv (wrap64 (bt a0 0)) 8)) 8), Int.tmod (wrap64 (bt a0 0)) 8, wrap64 (bt a0 1), t178, t179, (t181) % 4294967296, (t182) % 4294967296, (t183) % 4294967296, t184, t185, t186, t187, a0.extract 48 a0.size, 0))) else (none)) else (none))) else (none)) else (none))) else (none)) else (none)) = some (r1, r2, r3, r4, r5, r6, r7, r8, r9, r10, r11, r12, r13, r14, r15) := H
                                    have A34 := Aside0.mk A340
                                    clear A340
                                    by_cases c35 : 24 ≤ 32
                                    · rw [if_pos c35] at H
                                      have c35b0 := eq_true c35
                                      have c35b1 : decide (24 ≤ 32) = true := decide_eq_true c35
                                      clear c35
                                      by_cases c36 : 32 ≤ (a0.size : Int)
                                      · rw [if_pos c36] at H
                                        have c36b0 := eq_true c36
                                        have c36b1 : decide (32 ≤ (a0.size : Int)) = true := decide_eq_true c36
                                        clear c36
                                        replace H := Option.bind_eq_some_iff.mp H
                                        obtain ⟨t185, A370, H⟩ := H
                                        replace H : (if 32 ≤ 40 then (if 40 ≤ (a0.size : Int) then ((analemmaref05_Number.f kj6 (a0.extract 32 40)).bind fun t186 => (if 40 ≤ 48 then (if 48 ≤ (a0.size : Int) then ((analemmaref05_Number.f kj6 (a0.extract 40 48)).bind fun t187 => (some (wrap64 (Int.tdiv (wrap64 (bt a0 0)) 64), (Int.tmod (wrap64 (Int.tdiv (wrap64 (bt a0 0)) 8)) 8), Int.tmod (wrap64 (bt a0 0)) 8, wrap64 (bt a0 1), t178, t179, (t181) % 4294967296, (t182) % 4294967296, (t183) % 4294967296, t184, t185, t186, t187, a0.extract 48 a0.size, 0))) else (none)) else (none))) else (none)) else (none)) = some (r1, r2, r3, r4, r5, r6, r7, r8, r9, r10, r11, r12, r13, r14, r15) := H
                                        have A37 := Aside0.mk A370
                                        clear A370
                                        by_cases c38 : 32 ≤ 40
                                        · rw [if_pos c38] at H
                                          have c38b0 := eq_true c38
                                          have c38b1 : decide (32 ≤ 40) = true := decide_eq_true c38
                                          clear c38
                                          by_cases c39 : 40 ≤ (a0.size : Int)
                                          · rw [if_pos c39] at H
                                            have c39b0 := eq_true c39
                                            have c39b1 : decide (40 ≤ (a0.size : Int)) = true := decide_eq_true c39
                                            clear c39
                                            replace H := Option.bind_eq_some_iff.mp H
                                            obtain ⟨t186, A400, H⟩ := H
                                            replace H : (if 40 ≤ 48 then (if 48 ≤ (a0.size : Int) then ((analemmaref05_Number.f kj6 (a0.extract 40 48)).bind fun t187 => (some (wrap64 (Int.tdiv (wrap64 (bt a0 0)) 64), (Int.tmod (wrap64 (Int.tdiv (wrap64 (bt a0 0)) 8)) 8), Int.tmod (wrap64 (bt a0 0)) 8, wrap64 (bt a0 1), t178, t179, (t181) % 4294967296, (t182) % 4294967296, (t183) % 4294967296, t184, t185, t186, t187, a0.extract 48 a0.size, 0))) else (none)) else (none)) = some (r1, r2, r3, r4, r5, r6, r7, r8, r9, r10, r11, r12, r13, r14, r15) := H
                                            have A40 := Aside0.mk A400
                                            clear A400
                                            by_cases c41 : 40 ≤ 48
                                            · rw [if_pos c41] at H
                                              have c41b0 := eq_true c41
                                              have c41b1 : decide (40 ≤ 48) = true := decide_eq_true c41
                                              clear c41
                                              by_cases c42 : 48 ≤ (a0.size : Int)
                                              · rw [if_pos c42] at H
                                                have c42b0 := eq_true c42
                                                have c42b1 : decide (48 ≤ (a0.size : Int)) = true := decide_eq_true c42
                                                clear c42
                                                replace H := Option.bind_eq_some_iff.mp H
                                                obtain ⟨t187, A430, H⟩ := H
                                                replace H : (some (wrap64 (Int.tdiv (wrap64 (bt a0 0)) 64), (Int.tmod (wrap64 (Int.tdiv (wrap64 (bt a0 0)) 8)) 8), Int.tmod (wrap64 (bt a0 0)) 8, wrap64 (bt a0 1), t178, t179, (t181) % 4294967296, (t182) % 4294967296, (t183) % 4294967296, t184, t185, t186, t187, a0.extract 48 a0.size, 0)) = some (r1, r2, r3, r4, r5, r6, r7, r8, r9, r10, r11, r12, r13, r14, r15) := H
                                                have A43 := Aside0.mk A430
                                                clear A430
                                                have c44b0 := eq_true (of_decide_eq_true (by first | (with_reducible assumption) | assumption) : 48 ≤ (a0.size : Int))
                                                simp only [Option.some.injEq, Prod.mk.injEq] at H
                                                obtain ⟨rfl, rfl, rfl, rfl, rfl, rfl, rfl, rfl, rfl, rfl, rfl, rfl, rfl, rfl, rfl⟩ := H
                                                try go_wp2
                                                have n0_ := Aside0.mk (blk_drew BK177.out)
                                                have n1_ := Aside0.mk (below_drew1 HB.out)
                                                clear BK177
                                                clear HB
                                                have BK177 := n0_
                                                have HB := n1_
                                                clear n0_ n1_
                                                have p13 : 0 ≤ (0 : Int) := (by omega)
                                                have q13 : 0 < a0.size := (by have : (0 : Int) < (a0.size : Int) := of_decide_eq_true (by first | (with_reducible assumption) | assumption); omega)
                                                have hx13 : ∀ h : 0 < a0.size, ((a0[0]'h).toNat : Int) = bt a0 0 := bt_at a0 0
                                                clear p13
                                                have qi13 : (0 < (a0.size : Int)) = True := eq_true (of_decide_eq_true (by first | (with_reducible assumption) | assumption))
                                                replace q13 := eq_true q13
                                                have p14 : 0 ≤ (0 : Int) := (by omega)
                                                have q14 : 0 < a0.size := (by have : (0 : Int) < (a0.size : Int) := of_decide_eq_true (by first | (with_reducible assumption) | assumption); omega)
                                                have hx14 : ∀ h : 0 < a0.size, ((a0[0]'h).toNat : Int) = bt a0 0 := bt_at a0 0
                                                clear p14
                                                have qi14 : (0 < (a0.size : Int)) = True := eq_true (of_decide_eq_true (by first | (with_reducible assumption) | assumption))
                                                replace q14 := eq_true q14
                                                have p16 : 0 ≤ (1 : Int) := (by omega)
                                                have q16 : 1 < a0.size := (by have : (1 : Int) < (a0.size : Int) := of_decide_eq_true (by first | (with_reducible assumption) | assumption); omega)
                                                have hx16 : ∀ h : 1 < a0.size, ((a0[1]'h).toNat : Int) = bt a0 1 := bt_at a0 1
                                                clear p16
                                                have qi16 : (1 < (a0.size : Int)) = True := eq_true (of_decide_eq_true (by first | (with_reducible assumption) | assumption))
                                                replace q16 := eq_true q16
                                                have p18 : 0 ≤ (2 : Int) := (by omega)
                                                have q18 : 2 < a0.size := (by have : (2 : Int) < (a0.size : Int) := of_decide_eq_true (by first | (with_reducible assumption) | assumption); omega)
                                                have hx18 : ∀ h : 2 < a0.size, ((a0[2]'h).toNat : Int) = bt a0 2 := bt_at a0 2
                                                clear p18
                                                have qi18 : (2 < (a0.size : Int)) = True := eq_true (of_decide_eq_true (by first | (with_reducible assumption) | assumption))
                                                replace q18 := eq_true q18
                                                have p21 : 0 ≤ (3 : Int) := (by omega)
                                                have q21 : 3 < a0.size := (by have : (3 : Int) < (a0.size : Int) := of_decide_eq_true (by first | (with_reducible assumption) | assumption); omega)
                                                have hx21 : ∀ h : 3 < a0.size, ((a0[3]'h).toNat : Int) = bt a0 3 := bt_at a0 3
                                                clear p21
                                                have qi21 : (3 < (a0.size : Int)) = True := eq_true (of_decide_eq_true (by first | (with_reducible assumption) | assumption))
                                                replace q21 := eq_true q21
                                                refine start_ (n := 21) (S := fun w' => True) (ds := []) #[false, false, false, false, false, false, false, false, false, false, false, false, false, false, false, false, false, false, false, false, false] (by kernel_rfl) rfl rfl trivial (fun hHeld => ?_); refine with_tabW analemmaref05_Decode.tab6 analemmaref05_Decode.bits6 (fun HT_ HW_ => ?_)
                                                generalize wc.drew = w45 at BK177 HB hHeld ⊢
                                                refine pure_ (i := 0) (N := some 23) (v := ?_) (a' := ?_) #[true, false, false, false, false, false, false, false, false, false, false, false, false, false, false, false, false, false, false, false, false] rfl rfl (any_of HT_.out (by kernel_rfl)) (fun _ _ _ h => h) (Or.inl ⟨by rfl, ?_⟩) ?_ ?_
                                                rotate_left
                                                · intro w'
                                                  go_simp
                                                  with_reducible rfl
                                                rotate_left
                                                · simp only [Act.put, List.setIfInBounds_toArray, List.set_cons_zero, List.set_cons_succ, i64_w, i32_w]
                                                  rfl
                                                refine pure_ (i := 4) (N := some 27) (v := ?_) (a' := ?_) #[true, false, false, false, true, false, false, false, false, false, false, false, false, false, false, false, false, false, false, false, false] rfl rfl (any_of HT_.out (by kernel_rfl)) (fun _ _ _ h => h) (Or.inl ⟨by rfl, ?_⟩) ?_ ?_
                                                rotate_left
                                                · intro w'
                                                  go_simp
                                                  with_reducible rfl
                                                rotate_left
                                                · simp only [Act.put, List.setIfInBounds_toArray, List.set_cons_zero, List.set_cons_succ, i64_w, i32_w]
                                                  rfl
                                                refine pure_ (i := 5) (N := some 28) (v := ?_) (a' := ?_) #[true, false, false, false, true, true, false, false, false, false, false, false, false, false, false, false, false, false, false, false, false] rfl rfl (any_of HT_.out (by kernel_rfl)) (fun _ _ _ h => h) (Or.inl ⟨by rfl, ?_⟩) ?_ ?_
                                                rotate_left
                                                · intro w'
                                                  go_simp
                                                  with_reducible rfl
                                                rotate_left
                                                · simp only [Act.put, List.setIfInBounds_toArray, List.set_cons_zero, List.set_cons_succ, i64_w, i32_w]
                                                  rfl
                                                refine pure_ (i := 9) (N := some 32) (v := ?_) (a' := ?_) #[true, false, false, false, true, true, false, false, false, true, false, false, false, false, false, false, false, false, false, false, false] rfl rfl (any_of HT_.out (by kernel_rfl)) (fun _ _ _ h => h) (Or.inl ⟨by rfl, ?_⟩) ?_ ?_
                                                rotate_left
                                                · intro w'
                                                  go_simp
                                                  with_reducible rfl
                                                rotate_left
                                                · simp only [Act.put, List.setIfInBounds_toArray, List.set_cons_zero, List.set_cons_succ, i64_w, i32_w]
                                                  rfl
                                                refine pure_ (i := 12) (N := some 35) (v := ?_) (a' := ?_) #[true, false, false, false, true, true, false, false, false, true, false, false, true, false, false, false, false, false, false, false, false] rfl rfl (any_of HT_.out (by kernel_rfl)) (fun _ _ _ h => h) (Or.inl ⟨by rfl, ?_⟩) ?_ ?_
                                                rotate_left
                                                · intro w'
                                                  go_simp
                                                  with_reducible rfl
                                                rotate_left
                                                · simp only [Act.put, List.setIfInBounds_toArray, List.set_cons_zero, List.set_cons_succ, i64_w, i32_w]
                                                  rfl
                                                refine pure_ (i := 15) (N := some 38) (v := ?_) (a' := ?_) #[true, false, false, false, true, true, false, false, false, true, false, false, true, false, false, true, false, false, false, false, false] rfl rfl (any_of HT_.out (by kernel_rfl)) (fun _ _ _ h => h) (Or.inl ⟨by rfl, ?_⟩) ?_ ?_
                                                rotate_left
                                                · intro w'
                                                  go_simp
                                                  with_reducible rfl
                                                rotate_left
                                                · simp only [Act.put, List.setIfInBounds_toArray, List.set_cons_zero, List.set_cons_succ, i64_w, i32_w]
                                                  rfl
                                                refine take_ (i := 1) (N := some 24) (v := ?_) (a' := ?_) #[true, true, false, false, true, true, false, false, false, true, false, false, true, false, false, true, false, false, false, false, false] rfl rfl (take_ofW HT_.out HW_.out (by kernel_rfl)) (fun _ _ _ h => h) (Or.inl ⟨by rfl, ?_⟩) hHeld ?_ ?_
                                                rotate_left
                                                · intro w' _
                                                  go_simp
                                                  with_reducible rfl
                                                rotate_left
                                                · simp only [Act.put, List.setIfInBounds_toArray, List.set_cons_zero, List.set_cons_succ, i64_w, i32_w]
                                                  rfl
                                                refine pure_ (i := 2) (N := some 25) (v := ?_) (a' := ?_) #[true, true, true, false, true, true, false, false, false, true, false, false, true, false, false, true, false, false, false, false, false] rfl rfl (any_of HT_.out (by kernel_rfl)) (fun _ _ _ h => h) (Or.inl ⟨by rfl, ?_⟩) ?_ ?_
                                                rotate_left
                                                · intro w'
                                                  go_simp
                                                  with_reducible rfl
                                                rotate_left
                                                · simp only [Act.put, List.setIfInBounds_toArray, List.set_cons_zero, List.set_cons_succ, i64_w, i32_w]
                                                  rfl
                                                refine pure_ (i := 3) (N := some 26) (v := ?_) (a' := ?_) #[true, true, true, true, true, true, false, false, false, true, false, false, true, false, false, true, false, false, false, false, false] rfl rfl (any_of HT_.out (by kernel_rfl)) (fun _ _ _ h => h) (Or.inl ⟨by rfl, ?_⟩) ?_ ?_
                                                rotate_left
                                                · intro w'
                                                  go_simp
                                                  with_reducible rfl
                                                rotate_left
                                                · simp only [Act.put, List.setIfInBounds_toArray, List.set_cons_zero, List.set_cons_succ, i64_w, i32_w]
                                                  rfl
                                                refine take_ (i := 6) (N := some 29) (v := ?_) (a' := ?_) #[true, true, true, true, true, true, true, false, false, true, false, false, true, false, false, true, false, false, false, false, false] rfl rfl (take_ofW HT_.out HW_.out (by kernel_rfl)) (fun _ _ _ h => h) (Or.inl ⟨by rfl, ?_⟩) hHeld ?_ ?_
                                                rotate_left
                                                · intro w' _
                                                  go_simp
                                                  with_reducible rfl
                                                rotate_left
                                                · simp only [Act.put, List.setIfInBounds_toArray, List.set_cons_zero, List.set_cons_succ, i64_w, i32_w]
                                                  rfl
                                                refine pure_ (i := 7) (N := some 30) (v := ?_) (a' := ?_) #[true, true, true, true, true, true, true, true, false, true, false, false, true, false, false, true, false, false, false, false, false] rfl rfl (any_of HT_.out (by kernel_rfl)) (fun _ _ _ h => h) (Or.inl ⟨by rfl, ?_⟩) ?_ ?_
                                                rotate_left
                                                · intro w'
                                                  go_simp
                                                  with_reducible rfl
                                                rotate_left
                                                · simp only [Act.put, List.setIfInBounds_toArray, List.set_cons_zero, List.set_cons_succ, i64_w, i32_w]
                                                  rfl
                                                refine pure_ (i := 8) (N := some 31) (v := ?_) (a' := ?_) #[true, true, true, true, true, true, true, true, true, true, false, false, true, false, false, true, false, false, false, false, false] rfl rfl (any_of HT_.out (by kernel_rfl)) (fun _ _ _ h => h) (Or.inl ⟨by rfl, ?_⟩) ?_ ?_
                                                rotate_left
                                                · intro w'
                                                  go_simp
                                                  with_reducible rfl
                                                rotate_left
                                                · simp only [Act.put, List.setIfInBounds_toArray, List.set_cons_zero, List.set_cons_succ, i64_w, i32_w]
                                                  rfl
                                                refine take_ (i := 10) (N := some 33) (v := ?_) (a' := ?_) #[true, true, true, true, true, true, true, true, true, true, true, false, true, false, false, true, false, false, false, false, false] rfl rfl (take_ofW HT_.out HW_.out (by kernel_rfl)) (fun _ _ _ h => h) (Or.inl ⟨by rfl, ?_⟩) hHeld ?_ ?_
                                                rotate_left
                                                · intro w' _
                                                  go_simp
                                                  with_reducible rfl
                                                rotate_left
                                                · simp only [Act.put, List.setIfInBounds_toArray, List.set_cons_zero, List.set_cons_succ, i64_w, i32_w]
                                                  rfl
                                                refine pure_ (i := 11) (N := some 34) (v := ?_) (a' := ?_) #[true, true, true, true, true, true, true, true, true, true, true, true, true, false, false, true, false, false, false, false, false] rfl rfl (any_of HT_.out (by kernel_rfl)) (fun _ _ _ h => h) (Or.inl ⟨by rfl, ?_⟩) ?_ ?_
                                                rotate_left
                                                · intro w'
                                                  go_simp
                                                  with_reducible rfl
                                                rotate_left
                                                · simp only [Act.put, List.setIfInBounds_toArray, List.set_cons_zero, List.set_cons_succ, i64_w, i32_w]
                                                  rfl
                                                refine take_ (i := 13) (N := some 36) (v := ?_) (a' := ?_) #[true, true, true, true, true, true, true, true, true, true, true, true, true, true, false, true, false, false, false, false, false] rfl rfl (take_ofW HT_.out HW_.out (by kernel_rfl)) (fun _ _ _ h => h) (Or.inl ⟨by rfl, ?_⟩) hHeld ?_ ?_
                                                rotate_left
                                                · intro w' _
                                                  go_simp
                                                  with_reducible rfl
                                                rotate_left
                                                · simp only [Act.put, List.setIfInBounds_toArray, List.set_cons_zero, List.set_cons_succ, i64_w, i32_w]
                                                  rfl
                                                refine take_ (i := 16) (N := some 39) (v := ?_) (a' := ?_) #[true, true, true, true, true, true, true, true, true, true, true, true, true, true, false, true, true, false, false, false, false] rfl rfl (take_ofW HT_.out HW_.out (by kernel_rfl)) (fun _ _ _ h => h) (Or.inl ⟨by rfl, ?_⟩) hHeld ?_ ?_
                                                rotate_left
                                                · intro w' _
                                                  go_simp
                                                  with_reducible rfl
                                                rotate_left
                                                · simp only [Act.put, List.setIfInBounds_toArray, List.set_cons_zero, List.set_cons_succ, i64_w, i32_w]
                                                  rfl
                                                refine join_ (σ := Nat) 1 #[true, true, true, true, true, true, true, true, true, true, true, true, true, true, true, true, true, true, true, true, false] (fun s_ => [(37, .int .i64 t178), (40, .int .i64 t179), (6, .pointer (some ⟨s_, 0, none⟩)), (41, .agg #[.int .i64 (wrap64 (Int.tdiv (wrap64 (bt a0 0)) 64)), .int .i64 (Int.tmod (wrap64 (Int.tdiv (wrap64 (bt a0 0)) 8)) 8), .int .i64 (Int.tmod (wrap64 (bt a0 0)) 8), .int .i64 (wrap64 (bt a0 1)), .int .i64 t178, .int .i64 t179, .int .u32 0, .int .u32 0, .int .u32 0, .int .u64 0, .int .u64 0, .int .u64 0, .int .u64 0])]) (fun s_ w' => (w'.heap[gb177]? = some (.cells #[.int .i64 0, .int .i64 0, .int .i64 0, .int .i64 0, .int .i64 0, .int .i64 0, .int .u32 0, .int .u32 0, .int .u32 0, .int .u64 0, .int .u64 0, .int .u64 0, .int .u64 0] 42 (0, 0))) ∧ (w'.heap[s_]? = some (.cells #[.int .i64 0, .int .i64 0, .int .i64 0, .int .i64 0, .int .i64 0, .int .i64 0, .int .u32 0, .int .u32 0, .int .u32 0, .int .u64 0, .int .u64 0, .int .u64 0, .int .u64 0] 42 (0, 0))) ∧ (w.heap.size ≤ s_) ∧ (w.heap.size ≤ s_) ∧ (gb177 ≠ s_) ∧ (s_ ≠ gb177) ∧ (Below w.heap.size w w')) ?_ ?_
                                                rotate_left
                                                · intro hCont
                                                  refine two_ (i := 14) (j := 19) (Ni := some 37) (Nj := some 6) #[true, true, true, true, true, true, true, true, true, true, true, true, true, true, true, true, true, false, false, false, false] #[true, true, true, true, true, true, true, true, true, true, true, true, true, true, false, true, true, false, false, true, false] rfl rfl rfl rfl (two_of HT_.out (by kernel_rfl)) (by decide) (by decide) (fun K hK => ?_) (fun K hK => ?_)
                                                  · skip
                                                    refine goes_ Try.func56 (by kernel_rfl) rfl #[.int .u8 (bt a0 2)] (by rfl) rfl rfl (by (try simp only [List.map_toArray, List.map_cons, List.map_nil]); first | done | rfl | (simp only [List.length_drop, List.length_take]; rfl)) ?_
                                                    with_reducible refine (analemmaref05_signed.calls (bt a0 2) t178 _ A19.out).mono ?_
                                                    rintro e w' ⟨rfl, ⟨nd, rfl⟩⟩
                                                    refine ⟨_, rfl, ?_⟩
                                                    refine hK.out _ _ trivial (fun hHeld => ?_)
                                                    clear hK K
                                                    refine norm_ (a' := ?_) ?_ ?_
                                                    rotate_left
                                                    · show Act.put _ (some 37) _ = _
                                                      simp only [Act.put, List.setIfInBounds_toArray, List.set_cons_zero, List.set_cons_succ, i64_w, i32_w]
                                                      rfl
                                                    refine two_ (i := 17) (j := 19) (Ni := some 40) (Nj := some 6) #[true, true, true, true, true, true, true, true, true, true, true, true, true, true, true, true, true, true, false, false, false] #[true, true, true, true, true, true, true, true, true, true, true, true, true, true, true, true, true, false, false, true, false] rfl rfl rfl rfl (two_of HT_.out (by kernel_rfl)) (by decide) (by decide) (fun K hK => ?_) (fun K hK => ?_)
                                                    · skip
                                                      refine goes_ Try.func56 (by kernel_rfl) rfl #[.int .u8 (bt a0 3)] (by rfl) rfl rfl (by (try simp only [List.map_toArray, List.map_cons, List.map_nil]); first | done | rfl | (simp only [List.length_drop, List.length_take]; rfl)) ?_
                                                      with_reducible refine (analemmaref05_signed.calls (bt a0 3) t179 _ A22.out).mono ?_
                                                      rintro e w' ⟨rfl, ⟨nd, rfl⟩⟩
                                                      refine ⟨_, rfl, ?_⟩
                                                      refine hK.out _ _ trivial (fun hHeld => ?_)
                                                      clear hK K
                                                      refine norm_ (a' := ?_) ?_ ?_
                                                      rotate_left
                                                      · show Act.put _ (some 40) _ = _
                                                        simp only [Act.put, List.setIfInBounds_toArray, List.set_cons_zero, List.set_cons_succ, i64_w, i32_w]
                                                        rfl
                                                      refine pure_ (i := 18) (N := some 41) (v := ?_) (a' := ?_) #[true, true, true, true, true, true, true, true, true, true, true, true, true, true, true, true, true, true, true, false, false] rfl rfl (any_of HT_.out (by kernel_rfl)) (fun _ _ _ h => h) (Or.inl ⟨by rfl, ?_⟩) ?_ ?_
                                                      rotate_left
                                                      · intro w'
                                                        go_simp
                                                        with_reducible rfl
                                                      rotate_left
                                                      · simp only [Act.put, List.setIfInBounds_toArray, List.set_cons_zero, List.set_cons_succ, i64_w, i32_w]
                                                        rfl
                                                      refine one_ (i := 19) (N := some 6) #[true, true, true, true, true, true, true, true, true, true, true, true, true, true, true, true, true, true, true, true, false] rfl rfl (one_of HT_.out (by kernel_rfl)) (by decide) (fun K hK => ?_)
                                                      refine box_step ?hg (N := 6) ?hd (cs := #[.int .i64 0, .int .i64 0, .int .i64 0, .int .i64 0, .int .i64 0, .int .i64 0, .int .u32 0, .int .u32 0, .int .u32 0, .int .u64 0, .int .u64 0, .int .u64 0, .int .u64 0]) (t := 42) ?hr ?_; (case hd => rfl); (case hg => rfl); (case hr => first | (go_simp; done) | (go_simp; rfl))
                                                      intro gb180 hg w46 hbox hb
                                                      have n0_ := Aside0.mk (blk_below (g := gb177) (o := .cells #[.int .i64 0, .int .i64 0, .int .i64 0, .int .i64 0, .int .i64 0, .int .i64 0, .int .u32 0, .int .u32 0, .int .u32 0, .int .u64 0, .int .u64 0, .int .u64 0, .int .u64 0] 42 (0, 0)) (by (with_reducible repeat (first | refine blk_drewN ?_ _ | refine blk_drew ?_ | refine blk_alloc ?_ _)); exact BK177.out) hb)
                                                      have n1_ := Aside0.mk (below_step (by repeat (first | (with_reducible first | exact HB.out | apply below_alloc | apply pw_below_drewN | apply below_drew1 | refine below_set ?_ GE177.out) | exact HB.out)) hb)
                                                      have n2_ := Aside0.mk (hbox)
                                                      have n3_ := Aside0.mk ((by rw [hg]; exact (below_size (by repeat (first | (with_reducible first | exact HB.out | apply below_alloc | apply pw_below_drewN | apply below_drew1 | refine below_set ?_ GE177.out) | exact HB.out))) : w.heap.size ≤ gb180))
                                                      have n4_ := Aside0.mk ((by rw [hg]; exact (below_size (by repeat (first | (with_reducible first | exact HB.out | apply below_alloc | apply pw_below_drewN | apply below_drew1 | refine below_set ?_ GE177.out) | exact HB.out))) : w.heap.size ≤ gb180))
                                                      have n5_ := Aside0.mk ((by rw [hg]; exact Nat.ne_of_lt (blk_lt (g := gb177) (o := .cells #[.int .i64 0, .int .i64 0, .int .i64 0, .int .i64 0, .int .i64 0, .int .i64 0, .int .u32 0, .int .u32 0, .int .u32 0, .int .u64 0, .int .u64 0, .int .u64 0, .int .u64 0] 42 (0, 0)) (by (with_reducible repeat (first | refine blk_drewN ?_ _ | refine blk_drew ?_ | refine blk_alloc ?_ _)); exact BK177.out)) : gb177 ≠ gb180))
                                                      have n6_ := Aside0.mk ((by rw [hg]; exact Nat.ne_of_gt (blk_lt (g := gb177) (o := .cells #[.int .i64 0, .int .i64 0, .int .i64 0, .int .i64 0, .int .i64 0, .int .i64 0, .int .u32 0, .int .u32 0, .int .u32 0, .int .u64 0, .int .u64 0, .int .u64 0, .int .u64 0] 42 (0, 0)) (by (with_reducible repeat (first | refine blk_drewN ?_ _ | refine blk_drew ?_ | refine blk_alloc ?_ _)); exact BK177.out)) : gb180 ≠ gb177))
                                                      clear BK177
                                                      clear HB
                                                      have BK177 := n0_
                                                      have HB := n1_
                                                      have BK180 := n2_
                                                      have GW180 := n3_
                                                      have GE180 := n4_
                                                      have NB177_180 := n5_
                                                      have NB180_177 := n6_
                                                      clear n0_ n1_ n2_ n3_ n4_ n5_ n6_
                                                      clear hb hbox hg
                                                      refine hK.out _ _ trivial (fun hHeld => ?_)
                                                      clear hK K
                                                      refine norm_ (a' := ?_) ?_ ?_
                                                      rotate_left
                                                      · show Act.put _ (some 6) _ = _
                                                        simp only [Act.put, List.setIfInBounds_toArray, List.set_cons_zero, List.set_cons_succ, i64_w, i32_w]
                                                        rfl
                                                      exact norm_ (by simp only [putAll, Act.put, List.setIfInBounds_toArray, List.set_cons_zero, List.set_cons_succ]) (hCont (gb180) _ ⟨(by (with_reducible repeat (first | refine blk_drewN ?_ _ | refine blk_drew ?_ | refine blk_alloc ?_ _)); exact BK177.out), (by (with_reducible repeat (first | refine blk_drewN ?_ _ | refine blk_drew ?_ | refine blk_alloc ?_ _)); exact BK180.out), GW180.out, GE180.out, NB177_180.out, NB180_177.out, (by repeat (first | (with_reducible first | exact HB.out | apply below_alloc | apply pw_below_drewN | apply below_drew1 | refine below_set ?_ GE177.out | refine below_set ?_ GE180.out) | exact HB.out))⟩)
                                                    · skip
                                                      refine box_step ?hg (N := 6) ?hd (cs := #[.int .i64 0, .int .i64 0, .int .i64 0, .int .i64 0, .int .i64 0, .int .i64 0, .int .u32 0, .int .u32 0, .int .u32 0, .int .u64 0, .int .u64 0, .int .u64 0, .int .u64 0]) (t := 42) ?hr ?_; (case hd => rfl); (case hg => rfl); (case hr => first | (go_simp; done) | (go_simp; rfl))
                                                      intro gb180 hg w46 hbox hb
                                                      have n0_ := Aside0.mk (blk_below (g := gb177) (o := .cells #[.int .i64 0, .int .i64 0, .int .i64 0, .int .i64 0, .int .i64 0, .int .i64 0, .int .u32 0, .int .u32 0, .int .u32 0, .int .u64 0, .int .u64 0, .int .u64 0, .int .u64 0] 42 (0, 0)) (by (with_reducible repeat (first | refine blk_drewN ?_ _ | refine blk_drew ?_ | refine blk_alloc ?_ _)); exact BK177.out) hb)
                                                      have n1_ := Aside0.mk (below_step (by repeat (first | (with_reducible first | exact HB.out | apply below_alloc | apply pw_below_drewN | apply below_drew1 | refine below_set ?_ GE177.out) | exact HB.out)) hb)
                                                      have n2_ := Aside0.mk (hbox)
                                                      have n3_ := Aside0.mk ((by rw [hg]; exact (below_size (by repeat (first | (with_reducible first | exact HB.out | apply below_alloc | apply pw_below_drewN | apply below_drew1 | refine below_set ?_ GE177.out) | exact HB.out))) : w.heap.size ≤ gb180))
                                                      have n4_ := Aside0.mk ((by rw [hg]; exact (below_size (by repeat (first | (with_reducible first | exact HB.out | apply below_alloc | apply pw_below_drewN | apply below_drew1 | refine below_set ?_ GE177.out) | exact HB.out))) : w.heap.size ≤ gb180))
                                                      have n5_ := Aside0.mk ((by rw [hg]; exact Nat.ne_of_lt (blk_lt (g := gb177) (o := .cells #[.int .i64 0, .int .i64 0, .int .i64 0, .int .i64 0, .int .i64 0, .int .i64 0, .int .u32 0, .int .u32 0, .int .u32 0, .int .u64 0, .int .u64 0, .int .u64 0, .int .u64 0] 42 (0, 0)) (by (with_reducible repeat (first | refine blk_drewN ?_ _ | refine blk_drew ?_ | refine blk_alloc ?_ _)); exact BK177.out)) : gb177 ≠ gb180))
                                                      have n6_ := Aside0.mk ((by rw [hg]; exact Nat.ne_of_gt (blk_lt (g := gb177) (o := .cells #[.int .i64 0, .int .i64 0, .int .i64 0, .int .i64 0, .int .i64 0, .int .i64 0, .int .u32 0, .int .u32 0, .int .u32 0, .int .u64 0, .int .u64 0, .int .u64 0, .int .u64 0] 42 (0, 0)) (by (with_reducible repeat (first | refine blk_drewN ?_ _ | refine blk_drew ?_ | refine blk_alloc ?_ _)); exact BK177.out)) : gb180 ≠ gb177))
                                                      clear BK177
                                                      clear HB
                                                      have BK177 := n0_
                                                      have HB := n1_
                                                      have BK180 := n2_
                                                      have GW180 := n3_
                                                      have GE180 := n4_
                                                      have NB177_180 := n5_
                                                      have NB180_177 := n6_
                                                      clear n0_ n1_ n2_ n3_ n4_ n5_ n6_
                                                      clear hb hbox hg
                                                      refine hK.out _ _ trivial (fun hHeld => ?_)
                                                      clear hK K
                                                      refine norm_ (a' := ?_) ?_ ?_
                                                      rotate_left
                                                      · show Act.put _ (some 6) _ = _
                                                        simp only [Act.put, List.setIfInBounds_toArray, List.set_cons_zero, List.set_cons_succ, i64_w, i32_w]
                                                        rfl
                                                      refine one_ (i := 17) (N := some 40) #[true, true, true, true, true, true, true, true, true, true, true, true, true, true, true, true, true, true, false, true, false] rfl rfl (one_of HT_.out (by kernel_rfl)) (by decide) (fun K hK => ?_)
                                                      refine goes_ Try.func56 (by kernel_rfl) rfl #[.int .u8 (bt a0 3)] (by rfl) rfl rfl (by (try simp only [List.map_toArray, List.map_cons, List.map_nil]); first | done | rfl | (simp only [List.length_drop, List.length_take]; rfl)) ?_
                                                      with_reducible refine (analemmaref05_signed.calls (bt a0 3) t179 _ A22.out).mono ?_
                                                      rintro e w' ⟨rfl, ⟨nd, rfl⟩⟩
                                                      refine ⟨_, rfl, ?_⟩
                                                      refine hK.out _ _ trivial (fun hHeld => ?_)
                                                      clear hK K
                                                      refine norm_ (a' := ?_) ?_ ?_
                                                      rotate_left
                                                      · show Act.put _ (some 40) _ = _
                                                        simp only [Act.put, List.setIfInBounds_toArray, List.set_cons_zero, List.set_cons_succ, i64_w, i32_w]
                                                        rfl
                                                      refine pure_ (i := 18) (N := some 41) (v := ?_) (a' := ?_) #[true, true, true, true, true, true, true, true, true, true, true, true, true, true, true, true, true, true, true, true, false] rfl rfl (any_of HT_.out (by kernel_rfl)) (fun _ _ _ h => h) (Or.inl ⟨by rfl, ?_⟩) ?_ ?_
                                                      rotate_left
                                                      · intro w'
                                                        go_simp
                                                        with_reducible rfl
                                                      rotate_left
                                                      · simp only [Act.put, List.setIfInBounds_toArray, List.set_cons_zero, List.set_cons_succ, i64_w, i32_w]
                                                        rfl
                                                      exact norm_ (by simp only [putAll, Act.put, List.setIfInBounds_toArray, List.set_cons_zero, List.set_cons_succ]) (hCont (gb180) _ ⟨(by (with_reducible repeat (first | refine blk_drewN ?_ _ | refine blk_drew ?_ | refine blk_alloc ?_ _)); exact BK177.out), (by (with_reducible repeat (first | refine blk_drewN ?_ _ | refine blk_drew ?_ | refine blk_alloc ?_ _)); exact BK180.out), GW180.out, GE180.out, NB177_180.out, NB180_177.out, (by repeat (first | (with_reducible first | exact HB.out | apply below_alloc | apply pw_below_drewN | apply below_drew1 | refine below_set ?_ GE177.out | refine below_set ?_ GE180.out) | exact HB.out))⟩)
                                                  · skip
                                                    refine box_step ?hg (N := 6) ?hd (cs := #[.int .i64 0, .int .i64 0, .int .i64 0, .int .i64 0, .int .i64 0, .int .i64 0, .int .u32 0, .int .u32 0, .int .u32 0, .int .u64 0, .int .u64 0, .int .u64 0, .int .u64 0]) (t := 42) ?hr ?_; (case hd => rfl); (case hg => rfl); (case hr => first | (go_simp; done) | (go_simp; rfl))
                                                    intro gb180 hg w46 hbox hb
                                                    have n0_ := Aside0.mk (blk_below (g := gb177) (o := .cells #[.int .i64 0, .int .i64 0, .int .i64 0, .int .i64 0, .int .i64 0, .int .i64 0, .int .u32 0, .int .u32 0, .int .u32 0, .int .u64 0, .int .u64 0, .int .u64 0, .int .u64 0] 42 (0, 0)) (by (with_reducible repeat (first | refine blk_drewN ?_ _ | refine blk_drew ?_ | refine blk_alloc ?_ _)); exact BK177.out) hb)
                                                    have n1_ := Aside0.mk (below_step (by repeat (first | (with_reducible first | exact HB.out | apply below_alloc | apply pw_below_drewN | apply below_drew1 | refine below_set ?_ GE177.out) | exact HB.out)) hb)
                                                    have n2_ := Aside0.mk (hbox)
                                                    have n3_ := Aside0.mk ((by rw [hg]; exact (below_size (by repeat (first | (with_reducible first | exact HB.out | apply below_alloc | apply pw_below_drewN | apply below_drew1 | refine below_set ?_ GE177.out) | exact HB.out))) : w.heap.size ≤ gb180))
                                                    have n4_ := Aside0.mk ((by rw [hg]; exact (below_size (by repeat (first | (with_reducible first | exact HB.out | apply below_alloc | apply pw_below_drewN | apply below_drew1 | refine below_set ?_ GE177.out) | exact HB.out))) : w.heap.size ≤ gb180))
                                                    have n5_ := Aside0.mk ((by rw [hg]; exact Nat.ne_of_lt (blk_lt (g := gb177) (o := .cells #[.int .i64 0, .int .i64 0, .int .i64 0, .int .i64 0, .int .i64 0, .int .i64 0, .int .u32 0, .int .u32 0, .int .u32 0, .int .u64 0, .int .u64 0, .int .u64 0, .int .u64 0] 42 (0, 0)) (by (with_reducible repeat (first | refine blk_drewN ?_ _ | refine blk_drew ?_ | refine blk_alloc ?_ _)); exact BK177.out)) : gb177 ≠ gb180))
                                                    have n6_ := Aside0.mk ((by rw [hg]; exact Nat.ne_of_gt (blk_lt (g := gb177) (o := .cells #[.int .i64 0, .int .i64 0, .int .i64 0, .int .i64 0, .int .i64 0, .int .i64 0, .int .u32 0, .int .u32 0, .int .u32 0, .int .u64 0, .int .u64 0, .int .u64 0, .int .u64 0] 42 (0, 0)) (by (with_reducible repeat (first | refine blk_drewN ?_ _ | refine blk_drew ?_ | refine blk_alloc ?_ _)); exact BK177.out)) : gb180 ≠ gb177))
                                                    clear BK177
                                                    clear HB
                                                    have BK177 := n0_
                                                    have HB := n1_
                                                    have BK180 := n2_
                                                    have GW180 := n3_
                                                    have GE180 := n4_
                                                    have NB177_180 := n5_
                                                    have NB180_177 := n6_
                                                    clear n0_ n1_ n2_ n3_ n4_ n5_ n6_
                                                    clear hb hbox hg
                                                    refine hK.out _ _ trivial (fun hHeld => ?_)
                                                    clear hK K
                                                    refine norm_ (a' := ?_) ?_ ?_
                                                    rotate_left
                                                    · show Act.put _ (some 6) _ = _
                                                      simp only [Act.put, List.setIfInBounds_toArray, List.set_cons_zero, List.set_cons_succ, i64_w, i32_w]
                                                      rfl
                                                    refine one_ (i := 14) (N := some 37) #[true, true, true, true, true, true, true, true, true, true, true, true, true, true, true, true, true, false, false, true, false] rfl rfl (one_of HT_.out (by kernel_rfl)) (by decide) (fun K hK => ?_)
                                                    refine goes_ Try.func56 (by kernel_rfl) rfl #[.int .u8 (bt a0 2)] (by rfl) rfl rfl (by (try simp only [List.map_toArray, List.map_cons, List.map_nil]); first | done | rfl | (simp only [List.length_drop, List.length_take]; rfl)) ?_
                                                    with_reducible refine (analemmaref05_signed.calls (bt a0 2) t178 _ A19.out).mono ?_
                                                    rintro e w' ⟨rfl, ⟨nd, rfl⟩⟩
                                                    refine ⟨_, rfl, ?_⟩
                                                    refine hK.out _ _ trivial (fun hHeld => ?_)
                                                    clear hK K
                                                    refine norm_ (a' := ?_) ?_ ?_
                                                    rotate_left
                                                    · show Act.put _ (some 37) _ = _
                                                      simp only [Act.put, List.setIfInBounds_toArray, List.set_cons_zero, List.set_cons_succ, i64_w, i32_w]
                                                      rfl
                                                    refine one_ (i := 17) (N := some 40) #[true, true, true, true, true, true, true, true, true, true, true, true, true, true, true, true, true, true, false, true, false] rfl rfl (one_of HT_.out (by kernel_rfl)) (by decide) (fun K hK => ?_)
                                                    refine goes_ Try.func56 (by kernel_rfl) rfl #[.int .u8 (bt a0 3)] (by rfl) rfl rfl (by (try simp only [List.map_toArray, List.map_cons, List.map_nil]); first | done | rfl | (simp only [List.length_drop, List.length_take]; rfl)) ?_
                                                    with_reducible refine (analemmaref05_signed.calls (bt a0 3) t179 _ A22.out).mono ?_
                                                    rintro e w' ⟨rfl, ⟨nd, rfl⟩⟩
                                                    refine ⟨_, rfl, ?_⟩
                                                    refine hK.out _ _ trivial (fun hHeld => ?_)
                                                    clear hK K
                                                    refine norm_ (a' := ?_) ?_ ?_
                                                    rotate_left
                                                    · show Act.put _ (some 40) _ = _
                                                      simp only [Act.put, List.setIfInBounds_toArray, List.set_cons_zero, List.set_cons_succ, i64_w, i32_w]
                                                      rfl
                                                    refine pure_ (i := 18) (N := some 41) (v := ?_) (a' := ?_) #[true, true, true, true, true, true, true, true, true, true, true, true, true, true, true, true, true, true, true, true, false] rfl rfl (any_of HT_.out (by kernel_rfl)) (fun _ _ _ h => h) (Or.inl ⟨by rfl, ?_⟩) ?_ ?_
                                                    rotate_left
                                                    · intro w'
                                                      go_simp
                                                      with_reducible rfl
                                                    rotate_left
                                                    · simp only [Act.put, List.setIfInBounds_toArray, List.set_cons_zero, List.set_cons_succ, i64_w, i32_w]
                                                      rfl
                                                    exact norm_ (by simp only [putAll, Act.put, List.setIfInBounds_toArray, List.set_cons_zero, List.set_cons_succ]) (hCont (gb180) _ ⟨(by (with_reducible repeat (first | refine blk_drewN ?_ _ | refine blk_drew ?_ | refine blk_alloc ?_ _)); exact BK177.out), (by (with_reducible repeat (first | refine blk_drewN ?_ _ | refine blk_drew ?_ | refine blk_alloc ?_ _)); exact BK180.out), GW180.out, GE180.out, NB177_180.out, NB180_177.out, (by repeat (first | (with_reducible first | exact HB.out | apply below_alloc | apply pw_below_drewN | apply below_drew1 | refine below_set ?_ GE177.out | refine below_set ?_ GE180.out) | exact HB.out))⟩)
                                                rintro gb180 w47 ⟨h0_, h1_, h2_, h3_, h4_, h5_, h6_⟩
                                                have n0_ : Aside0 (w47.heap[gb177]? = some (.cells #[.int .i64 0, .int .i64 0, .int .i64 0, .int .i64 0, .int .i64 0, .int .i64 0, .int .u32 0, .int .u32 0, .int .u32 0, .int .u64 0, .int .u64 0, .int .u64 0, .int .u64 0] 42 (0, 0))) := ⟨h0_⟩
                                                have n1_ : Aside0 (w47.heap[gb180]? = some (.cells #[.int .i64 0, .int .i64 0, .int .i64 0, .int .i64 0, .int .i64 0, .int .i64 0, .int .u32 0, .int .u32 0, .int .u32 0, .int .u64 0, .int .u64 0, .int .u64 0, .int .u64 0] 42 (0, 0))) := ⟨h1_⟩
                                                have n2_ : Aside0 (w.heap.size ≤ gb180) := ⟨h2_⟩
                                                have n3_ : Aside0 (w.heap.size ≤ gb180) := ⟨h3_⟩
                                                have n4_ : Aside0 (gb177 ≠ gb180) := ⟨h4_⟩
                                                have n5_ : Aside0 (gb180 ≠ gb177) := ⟨h5_⟩
                                                have n6_ : Aside0 (Below w.heap.size w w47) := ⟨h6_⟩
                                                clear BK177
                                                clear HB
                                                clear h0_ h1_ h2_ h3_ h4_ h5_ h6_
                                                have BK177 := n0_
                                                have BK180 := n1_
                                                have GW180 := n2_
                                                have GE180 := n3_
                                                have NB177_180 := n4_
                                                have NB180_177 := n5_
                                                have HB := n6_
                                                clear n0_ n1_ n2_ n3_ n4_ n5_ n6_
                                                have hHeld := trivial
                                                refine norm_ (a' := ?_) ?_ ?_
                                                rotate_left
                                                · simp only [putAll, Act.put, List.setIfInBounds_toArray, List.set_cons_zero, List.set_cons_succ]
                                                  rfl
                                                refine one_ (i := 20) (N := none) #[true, true, true, true, true, true, true, true, true, true, true, true, true, true, true, true, true, true, true, true, true] rfl rfl (one_of HT_.out (by kernel_rfl)) (by decide) (fun K hK => ?_)
                                                have hs48 : w47.cell? ⟨gb180, 0, none⟩ = some (.int .i64 0) := (blk_cell BK180.out 0).trans rfl
                                                have hfs48 := blk_frozen BK180.out 0
                                                have hns48_0 := NB177_180.out
                                                have hms48_0 := NB180_177.out
                                                have hs49 : w47.cell? ⟨gb180, 1, none⟩ = some (.int .i64 0) := (blk_cell BK180.out 1).trans rfl
                                                have hfs49 := blk_frozen BK180.out 1
                                                have hns49_0 := NB177_180.out
                                                have hms49_0 := NB180_177.out
                                                have hs50 : w47.cell? ⟨gb180, 2, none⟩ = some (.int .i64 0) := (blk_cell BK180.out 2).trans rfl
                                                have hfs50 := blk_frozen BK180.out 2
                                                have hns50_0 := NB177_180.out
                                                have hms50_0 := NB180_177.out
                                                have hs51 : w47.cell? ⟨gb180, 3, none⟩ = some (.int .i64 0) := (blk_cell BK180.out 3).trans rfl
                                                have hfs51 := blk_frozen BK180.out 3
                                                have hns51_0 := NB177_180.out
                                                have hms51_0 := NB180_177.out
                                                have hs52 : w47.cell? ⟨gb180, 4, none⟩ = some (.int .i64 0) := (blk_cell BK180.out 4).trans rfl
                                                have hfs52 := blk_frozen BK180.out 4
                                                have hns52_0 := NB177_180.out
                                                have hms52_0 := NB180_177.out
                                                have hs53 : w47.cell? ⟨gb180, 5, none⟩ = some (.int .i64 0) := (blk_cell BK180.out 5).trans rfl
                                                have hfs53 := blk_frozen BK180.out 5
                                                have hns53_0 := NB177_180.out
                                                have hms53_0 := NB180_177.out
                                                have hs54 : w47.cell? ⟨gb180, 6, none⟩ = some (.int .u32 0) := (blk_cell BK180.out 6).trans rfl
                                                have hfs54 := blk_frozen BK180.out 6
                                                have hns54_0 := NB177_180.out
                                                have hms54_0 := NB180_177.out
                                                have hs55 : w47.cell? ⟨gb180, 7, none⟩ = some (.int .u32 0) := (blk_cell BK180.out 7).trans rfl
                                                have hfs55 := blk_frozen BK180.out 7
                                                have hns55_0 := NB177_180.out
                                                have hms55_0 := NB180_177.out
                                                have hs56 : w47.cell? ⟨gb180, 8, none⟩ = some (.int .u32 0) := (blk_cell BK180.out 8).trans rfl
                                                have hfs56 := blk_frozen BK180.out 8
                                                have hns56_0 := NB177_180.out
                                                have hms56_0 := NB180_177.out
                                                have hs57 : w47.cell? ⟨gb180, 9, none⟩ = some (.int .u64 0) := (blk_cell BK180.out 9).trans rfl
                                                have hfs57 := blk_frozen BK180.out 9
                                                have hns57_0 := NB177_180.out
                                                have hms57_0 := NB180_177.out
                                                have hs58 : w47.cell? ⟨gb180, 10, none⟩ = some (.int .u64 0) := (blk_cell BK180.out 10).trans rfl
                                                have hfs58 := blk_frozen BK180.out 10
                                                have hns58_0 := NB177_180.out
                                                have hms58_0 := NB180_177.out
                                                have hs59 : w47.cell? ⟨gb180, 11, none⟩ = some (.int .u64 0) := (blk_cell BK180.out 11).trans rfl
                                                have hfs59 := blk_frozen BK180.out 11
                                                have hns59_0 := NB177_180.out
                                                have hms59_0 := NB180_177.out
                                                have hs60 : w47.cell? ⟨gb180, 12, none⟩ = some (.int .u64 0) := (blk_cell BK180.out 12).trans rfl
                                                have hfs60 := blk_frozen BK180.out 12
                                                have hns60_0 := NB177_180.out
                                                have hms60_0 := NB180_177.out
                                                refine skip_ (w1 := ?_) (by rfl) rfl ?_ ?_
                                                rotate_left
                                                · go_simp
                                                  rfl
                                                refine hK.out _ _ trivial (fun hHeld => ?_)
                                                clear hK K
                                                refine done_ (done_of HT_.out (by kernel_rfl)) ?_
                                                try go_wp2_with (first | ((with_reducible refine gate_callee (f := 57) rfl ?_); refine goesL_ (some 44) rfl rfl Try.func57 (by kernel_rfl) rfl #[.string (a0.extract 4 8)] rfl (by (try simp only [List.map_toArray, List.map_cons, List.map_nil]); first | done | rfl | (simp only [List.length_drop, List.length_take]; rfl)) ?_; (with_reducible refine (analemmaref05_Number.calls kj6 (a0.extract 4 8) t181 _ A25.out).mono ?_); rintro e w' ⟨rfl, ⟨nd, rfl⟩⟩; refine ⟨_, rfl, ?_⟩; have hnb61 := NB180_177.out; have hnc61 := NB177_180.out; have hcz62_0 : w47.cell? ⟨gb180, 0, none⟩ = some (.int .i64 0) := (blk_cell BK180.out 0).trans rfl; have hcz62_1 : w47.cell? ⟨gb180, 1, none⟩ = some (.int .i64 0) := (blk_cell BK180.out 1).trans rfl; have hcz62_2 : w47.cell? ⟨gb180, 2, none⟩ = some (.int .i64 0) := (blk_cell BK180.out 2).trans rfl; have hcz62_3 : w47.cell? ⟨gb180, 3, none⟩ = some (.int .i64 0) := (blk_cell BK180.out 3).trans rfl; have hcz62_4 : w47.cell? ⟨gb180, 4, none⟩ = some (.int .i64 0) := (blk_cell BK180.out 4).trans rfl; have hcz62_5 : w47.cell? ⟨gb180, 5, none⟩ = some (.int .i64 0) := (blk_cell BK180.out 5).trans rfl; have hcz62_6 : w47.cell? ⟨gb180, 6, none⟩ = some (.int .u32 0) := (blk_cell BK180.out 6).trans rfl; have hcz62_7 : w47.cell? ⟨gb180, 7, none⟩ = some (.int .u32 0) := (blk_cell BK180.out 7).trans rfl; have hcz62_8 : w47.cell? ⟨gb180, 8, none⟩ = some (.int .u32 0) := (blk_cell BK180.out 8).trans rfl; have hcz62_9 : w47.cell? ⟨gb180, 9, none⟩ = some (.int .u64 0) := (blk_cell BK180.out 9).trans rfl; have hcz62_10 : w47.cell? ⟨gb180, 10, none⟩ = some (.int .u64 0) := (blk_cell BK180.out 10).trans rfl; have hcz62_11 : w47.cell? ⟨gb180, 11, none⟩ = some (.int .u64 0) := (blk_cell BK180.out 11).trans rfl; have hcz62_12 : w47.cell? ⟨gb180, 12, none⟩ = some (.int .u64 0) := (blk_cell BK180.out 12).trans rfl; have hfz62_0 := blk_frozen BK180.out 0; have hfz62_1 := blk_frozen BK180.out 1; have hfz62_2 := blk_frozen BK180.out 2; have hfz62_3 := blk_frozen BK180.out 3; have hfz62_4 := blk_frozen BK180.out 4; have hfz62_5 := blk_frozen BK180.out 5; have hfz62_6 := blk_frozen BK180.out 6; have hfz62_7 := blk_frozen BK180.out 7; have hfz62_8 := blk_frozen BK180.out 8; have hfz62_9 := blk_frozen BK180.out 9; have hfz62_10 := blk_frozen BK180.out 10; have hfz62_11 := blk_frozen BK180.out 11; have hfz62_12 := blk_frozen BK180.out 12) | ((with_reducible refine gate_callee (f := 57) rfl ?_); refine goesL_ (some 49) rfl rfl Try.func57 (by kernel_rfl) rfl #[.string (a0.extract 8 12)] rfl (by (try simp only [List.map_toArray, List.map_cons, List.map_nil]); first | done | rfl | (simp only [List.length_drop, List.length_take]; rfl)) ?_; (with_reducible refine (analemmaref05_Number.calls kj6 (a0.extract 8 12) t182 _ A28.out).mono ?_); rintro e w' ⟨rfl, ⟨nd, rfl⟩⟩; refine ⟨_, rfl, ?_⟩) | ((with_reducible refine gate_callee (f := 57) rfl ?_); refine goesL_ (some 54) rfl rfl Try.func57 (by kernel_rfl) rfl #[.string (a0.extract 12 16)] rfl (by (try simp only [List.map_toArray, List.map_cons, List.map_nil]); first | done | rfl | (simp only [List.length_drop, List.length_take]; rfl)) ?_; (with_reducible refine (analemmaref05_Number.calls kj6 (a0.extract 12 16) t183 _ A31.out).mono ?_); rintro e w' ⟨rfl, ⟨nd, rfl⟩⟩; refine ⟨_, rfl, ?_⟩) | ((with_reducible refine gate_callee (f := 57) rfl ?_); refine goesL_ (some 59) rfl rfl Try.func57 (by kernel_rfl) rfl #[.string (a0.extract 16 24)] rfl (by (try simp only [List.map_toArray, List.map_cons, List.map_nil]); first | done | rfl | (simp only [List.length_drop, List.length_take]; rfl)) ?_; (with_reducible refine (analemmaref05_Number.calls kj6 (a0.extract 16 24) t184 _ A34.out).mono ?_); rintro e w' ⟨rfl, ⟨nd, rfl⟩⟩; refine ⟨_, rfl, ?_⟩) | ((with_reducible refine gate_callee (f := 57) rfl ?_); refine goesL_ (some 63) rfl rfl Try.func57 (by kernel_rfl) rfl #[.string (a0.extract 24 32)] rfl (by (try simp only [List.map_toArray, List.map_cons, List.map_nil]); first | done | rfl | (simp only [List.length_drop, List.length_take]; rfl)) ?_; (with_reducible refine (analemmaref05_Number.calls kj6 (a0.extract 24 32) t185 _ A37.out).mono ?_); rintro e w' ⟨rfl, ⟨nd, rfl⟩⟩; refine ⟨_, rfl, ?_⟩) | ((with_reducible refine gate_callee (f := 57) rfl ?_); refine goesL_ (some 67) rfl rfl Try.func57 (by kernel_rfl) rfl #[.string (a0.extract 32 40)] rfl (by (try simp only [List.map_toArray, List.map_cons, List.map_nil]); first | done | rfl | (simp only [List.length_drop, List.length_take]; rfl)) ?_; (with_reducible refine (analemmaref05_Number.calls kj6 (a0.extract 32 40) t186 _ A40.out).mono ?_); rintro e w' ⟨rfl, ⟨nd, rfl⟩⟩; refine ⟨_, rfl, ?_⟩) | ((with_reducible refine gate_callee (f := 57) rfl ?_); refine goesL_ (some 71) rfl rfl Try.func57 (by kernel_rfl) rfl #[.string (a0.extract 40 48)] rfl (by (try simp only [List.map_toArray, List.map_cons, List.map_nil]); first | done | rfl | (simp only [List.length_drop, List.length_take]; rfl)) ?_; (with_reducible refine (analemmaref05_Number.calls kj6 (a0.extract 40 48) t187 _ A43.out).mono ?_); rintro e w' ⟨rfl, ⟨nd, rfl⟩⟩; refine ⟨_, rfl, ?_⟩))
                                                refine gen_world (A := fun w' => w'.heap[gb177]? = some (.cells #[.int .i64 0, .int .i64 0, .int .i64 0, .int .i64 0, .int .i64 0, .int .i64 0, .int .u32 0, .int .u32 0, .int .u32 0, .int .u64 0, .int .u64 0, .int .u64 0, .int .u64 0] 42 (0, 0))) (B := fun w' => w'.heap[gb180]? = some (.cells #[.int .i64 (wrap64 (Int.tdiv (wrap64 (bt a0 0)) 64)), .int .i64 (Int.tmod (wrap64 (Int.tdiv (wrap64 (bt a0 0)) 8)) 8), .int .i64 (Int.tmod (wrap64 (bt a0 0)) 8), .int .i64 (wrap64 (bt a0 1)), .int .i64 t178, .int .i64 t179, .int .u32 ((t181) % 4294967296), .int .u32 ((t182) % 4294967296), .int .u32 ((t183) % 4294967296), .int .u64 t184, .int .u64 t185, .int .u64 t186, .int .u64 t187] 42 (0, 0))) (D := fun w' => Below w.heap.size w w') ?_ ?_ ?_ (fun w63 hA hB hD => ?_)
                                                · (with_reducible repeat (first | refine blk_drewN ?_ _ | refine blk_drew ?_ | refine blk_alloc ?_ _)); refine blk_far ?_ NB177_180.out _; (with_reducible repeat (first | refine blk_drewN ?_ _ | refine blk_drew ?_ | refine blk_alloc ?_ _)); refine blk_far ?_ NB177_180.out _; (with_reducible repeat (first | refine blk_drewN ?_ _ | refine blk_drew ?_ | refine blk_alloc ?_ _)); refine blk_far ?_ NB177_180.out _; (with_reducible repeat (first | refine blk_drewN ?_ _ | refine blk_drew ?_ | refine blk_alloc ?_ _)); refine blk_far ?_ NB177_180.out _; (with_reducible repeat (first | refine blk_drewN ?_ _ | refine blk_drew ?_ | refine blk_alloc ?_ _)); refine blk_far ?_ NB177_180.out _; (with_reducible repeat (first | refine blk_drewN ?_ _ | refine blk_drew ?_ | refine blk_alloc ?_ _)); refine blk_far ?_ NB177_180.out _; (with_reducible repeat (first | refine blk_drewN ?_ _ | refine blk_drew ?_ | refine blk_alloc ?_ _)); refine blk_far ?_ NB177_180.out _; (with_reducible repeat (first | refine blk_drewN ?_ _ | refine blk_drew ?_ | refine blk_alloc ?_ _)); refine blk_far ?_ NB177_180.out _; (with_reducible repeat (first | refine blk_drewN ?_ _ | refine blk_drew ?_ | refine blk_alloc ?_ _)); refine blk_far ?_ NB177_180.out _; (with_reducible repeat (first | refine blk_drewN ?_ _ | refine blk_drew ?_ | refine blk_alloc ?_ _)); refine blk_far ?_ NB177_180.out _; (with_reducible repeat (first | refine blk_drewN ?_ _ | refine blk_drew ?_ | refine blk_alloc ?_ _)); refine blk_far ?_ NB177_180.out _; (with_reducible repeat (first | refine blk_drewN ?_ _ | refine blk_drew ?_ | refine blk_alloc ?_ _)); refine blk_far ?_ NB177_180.out _; (with_reducible repeat (first | refine blk_drewN ?_ _ | refine blk_drew ?_ | refine blk_alloc ?_ _)); refine blk_far ?_ NB177_180.out _; (with_reducible repeat (first | refine blk_drewN ?_ _ | refine blk_drew ?_ | refine blk_alloc ?_ _)); refine blk_far ?_ NB177_180.out _; (with_reducible repeat (first | refine blk_drewN ?_ _ | refine blk_drew ?_ | refine blk_alloc ?_ _)); refine blk_far ?_ NB177_180.out _; (with_reducible repeat (first | refine blk_drewN ?_ _ | refine blk_drew ?_ | refine blk_alloc ?_ _)); refine blk_far ?_ NB177_180.out _; (with_reducible repeat (first | refine blk_drewN ?_ _ | refine blk_drew ?_ | refine blk_alloc ?_ _)); refine blk_far ?_ NB177_180.out _; (with_reducible repeat (first | refine blk_drewN ?_ _ | refine blk_drew ?_ | refine blk_alloc ?_ _)); refine blk_far ?_ NB177_180.out _; (with_reducible repeat (first | refine blk_drewN ?_ _ | refine blk_drew ?_ | refine blk_alloc ?_ _)); refine blk_far ?_ NB177_180.out _; (with_reducible repeat (first | refine blk_drewN ?_ _ | refine blk_drew ?_ | refine blk_alloc ?_ _)); refine blk_far ?_ NB177_180.out _; (with_reducible repeat (first | refine blk_drewN ?_ _ | refine blk_drew ?_ | refine blk_alloc ?_ _)); exact BK177.out
                                                · (with_reducible repeat (first | refine blk_drewN ?_ _ | refine blk_drew ?_ | refine blk_alloc ?_ _)); refine blk_put (cs := #[.int .i64 (wrap64 (Int.tdiv (wrap64 (bt a0 0)) 64)), .int .i64 (Int.tmod (wrap64 (Int.tdiv (wrap64 (bt a0 0)) 8)) 8), .int .i64 (Int.tmod (wrap64 (bt a0 0)) 8), .int .i64 (wrap64 (bt a0 1)), .int .i64 t178, .int .i64 t179, .int .u32 ((t181) % 4294967296), .int .u32 ((t182) % 4294967296), .int .u32 ((t183) % 4294967296), .int .u64 t184, .int .u64 t185, .int .u64 t186, .int .u64 0]) ?_ 12 _ rfl; (with_reducible repeat (first | refine blk_drewN ?_ _ | refine blk_drew ?_ | refine blk_alloc ?_ _)); refine blk_put (cs := #[.int .i64 (wrap64 (Int.tdiv (wrap64 (bt a0 0)) 64)), .int .i64 (Int.tmod (wrap64 (Int.tdiv (wrap64 (bt a0 0)) 8)) 8), .int .i64 (Int.tmod (wrap64 (bt a0 0)) 8), .int .i64 (wrap64 (bt a0 1)), .int .i64 t178, .int .i64 t179, .int .u32 ((t181) % 4294967296), .int .u32 ((t182) % 4294967296), .int .u32 ((t183) % 4294967296), .int .u64 t184, .int .u64 t185, .int .u64 0, .int .u64 0]) ?_ 11 _ rfl; (with_reducible repeat (first | refine blk_drewN ?_ _ | refine blk_drew ?_ | refine blk_alloc ?_ _)); refine blk_put (cs := #[.int .i64 (wrap64 (Int.tdiv (wrap64 (bt a0 0)) 64)), .int .i64 (Int.tmod (wrap64 (Int.tdiv (wrap64 (bt a0 0)) 8)) 8), .int .i64 (Int.tmod (wrap64 (bt a0 0)) 8), .int .i64 (wrap64 (bt a0 1)), .int .i64 t178, .int .i64 t179, .int .u32 ((t181) % 4294967296), .int .u32 ((t182) % 4294967296), .int .u32 ((t183) % 4294967296), .int .u64 t184, .int .u64 0, .int .u64 0, .int .u64 0]) ?_ 10 _ rfl; (with_reducible repeat (first | refine blk_drewN ?_ _ | refine blk_drew ?_ | refine blk_alloc ?_ _)); refine blk_put (cs := #[.int .i64 (wrap64 (Int.tdiv (wrap64 (bt a0 0)) 64)), .int .i64 (Int.tmod (wrap64 (Int.tdiv (wrap64 (bt a0 0)) 8)) 8), .int .i64 (Int.tmod (wrap64 (bt a0 0)) 8), .int .i64 (wrap64 (bt a0 1)), .int .i64 t178, .int .i64 t179, .int .u32 ((t181) % 4294967296), .int .u32 ((t182) % 4294967296), .int .u32 ((t183) % 4294967296), .int .u64 0, .int .u64 0, .int .u64 0, .int .u64 0]) ?_ 9 _ rfl; (with_reducible repeat (first | refine blk_drewN ?_ _ | refine blk_drew ?_ | refine blk_alloc ?_ _)); refine blk_put (cs := #[.int .i64 (wrap64 (Int.tdiv (wrap64 (bt a0 0)) 64)), .int .i64 (Int.tmod (wrap64 (Int.tdiv (wrap64 (bt a0 0)) 8)) 8), .int .i64 (Int.tmod (wrap64 (bt a0 0)) 8), .int .i64 (wrap64 (bt a0 1)), .int .i64 t178, .int .i64 t179, .int .u32 ((t181) % 4294967296), .int .u32 ((t182) % 4294967296), .int .u32 0, .int .u64 0, .int .u64 0, .int .u64 0, .int .u64 0]) ?_ 8 _ rfl; (with_reducible repeat (first | refine blk_drewN ?_ _ | refine blk_drew ?_ | refine blk_alloc ?_ _)); refine blk_put (cs := #[.int .i64 (wrap64 (Int.tdiv (wrap64 (bt a0 0)) 64)), .int .i64 (Int.tmod (wrap64 (Int.tdiv (wrap64 (bt a0 0)) 8)) 8), .int .i64 (Int.tmod (wrap64 (bt a0 0)) 8), .int .i64 (wrap64 (bt a0 1)), .int .i64 t178, .int .i64 t179, .int .u32 ((t181) % 4294967296), .int .u32 0, .int .u32 0, .int .u64 0, .int .u64 0, .int .u64 0, .int .u64 0]) ?_ 7 _ rfl; (with_reducible repeat (first | refine blk_drewN ?_ _ | refine blk_drew ?_ | refine blk_alloc ?_ _)); refine blk_put (cs := #[.int .i64 (wrap64 (Int.tdiv (wrap64 (bt a0 0)) 64)), .int .i64 (Int.tmod (wrap64 (Int.tdiv (wrap64 (bt a0 0)) 8)) 8), .int .i64 (Int.tmod (wrap64 (bt a0 0)) 8), .int .i64 (wrap64 (bt a0 1)), .int .i64 t178, .int .i64 t179, .int .u32 0, .int .u32 0, .int .u32 0, .int .u64 0, .int .u64 0, .int .u64 0, .int .u64 0]) ?_ 6 _ rfl; (with_reducible repeat (first | refine blk_drewN ?_ _ | refine blk_drew ?_ | refine blk_alloc ?_ _)); refine blk_put (cs := #[.int .i64 (wrap64 (Int.tdiv (wrap64 (bt a0 0)) 64)), .int .i64 (Int.tmod (wrap64 (Int.tdiv (wrap64 (bt a0 0)) 8)) 8), .int .i64 (Int.tmod (wrap64 (bt a0 0)) 8), .int .i64 (wrap64 (bt a0 1)), .int .i64 t178, .int .i64 t179, .int .u32 0, .int .u32 0, .int .u32 0, .int .u64 0, .int .u64 0, .int .u64 0, .int .u64 0]) ?_ 12 _ rfl; (with_reducible repeat (first | refine blk_drewN ?_ _ | refine blk_drew ?_ | refine blk_alloc ?_ _)); refine blk_put (cs := #[.int .i64 (wrap64 (Int.tdiv (wrap64 (bt a0 0)) 64)), .int .i64 (Int.tmod (wrap64 (Int.tdiv (wrap64 (bt a0 0)) 8)) 8), .int .i64 (Int.tmod (wrap64 (bt a0 0)) 8), .int .i64 (wrap64 (bt a0 1)), .int .i64 t178, .int .i64 t179, .int .u32 0, .int .u32 0, .int .u32 0, .int .u64 0, .int .u64 0, .int .u64 0, .int .u64 0]) ?_ 11 _ rfl; (with_reducible repeat (first | refine blk_drewN ?_ _ | refine blk_drew ?_ | refine blk_alloc ?_ _)); refine blk_put (cs := #[.int .i64 (wrap64 (Int.tdiv (wrap64 (bt a0 0)) 64)), .int .i64 (Int.tmod (wrap64 (Int.tdiv (wrap64 (bt a0 0)) 8)) 8), .int .i64 (Int.tmod (wrap64 (bt a0 0)) 8), .int .i64 (wrap64 (bt a0 1)), .int .i64 t178, .int .i64 t179, .int .u32 0, .int .u32 0, .int .u32 0, .int .u64 0, .int .u64 0, .int .u64 0, .int .u64 0]) ?_ 10 _ rfl; (with_reducible repeat (first | refine blk_drewN ?_ _ | refine blk_drew ?_ | refine blk_alloc ?_ _)); refine blk_put (cs := #[.int .i64 (wrap64 (Int.tdiv (wrap64 (bt a0 0)) 64)), .int .i64 (Int.tmod (wrap64 (Int.tdiv (wrap64 (bt a0 0)) 8)) 8), .int .i64 (Int.tmod (wrap64 (bt a0 0)) 8), .int .i64 (wrap64 (bt a0 1)), .int .i64 t178, .int .i64 t179, .int .u32 0, .int .u32 0, .int .u32 0, .int .u64 0, .int .u64 0, .int .u64 0, .int .u64 0]) ?_ 9 _ rfl; (with_reducible repeat (first | refine blk_drewN ?_ _ | refine blk_drew ?_ | refine blk_alloc ?_ _)); refine blk_put (cs := #[.int .i64 (wrap64 (Int.tdiv (wrap64 (bt a0 0)) 64)), .int .i64 (Int.tmod (wrap64 (Int.tdiv (wrap64 (bt a0 0)) 8)) 8), .int .i64 (Int.tmod (wrap64 (bt a0 0)) 8), .int .i64 (wrap64 (bt a0 1)), .int .i64 t178, .int .i64 t179, .int .u32 0, .int .u32 0, .int .u32 0, .int .u64 0, .int .u64 0, .int .u64 0, .int .u64 0]) ?_ 8 _ rfl; (with_reducible repeat (first | refine blk_drewN ?_ _ | refine blk_drew ?_ | refine blk_alloc ?_ _)); refine blk_put (cs := #[.int .i64 (wrap64 (Int.tdiv (wrap64 (bt a0 0)) 64)), .int .i64 (Int.tmod (wrap64 (Int.tdiv (wrap64 (bt a0 0)) 8)) 8), .int .i64 (Int.tmod (wrap64 (bt a0 0)) 8), .int .i64 (wrap64 (bt a0 1)), .int .i64 t178, .int .i64 t179, .int .u32 0, .int .u32 0, .int .u32 0, .int .u64 0, .int .u64 0, .int .u64 0, .int .u64 0]) ?_ 7 _ rfl; (with_reducible repeat (first | refine blk_drewN ?_ _ | refine blk_drew ?_ | refine blk_alloc ?_ _)); refine blk_put (cs := #[.int .i64 (wrap64 (Int.tdiv (wrap64 (bt a0 0)) 64)), .int .i64 (Int.tmod (wrap64 (Int.tdiv (wrap64 (bt a0 0)) 8)) 8), .int .i64 (Int.tmod (wrap64 (bt a0 0)) 8), .int .i64 (wrap64 (bt a0 1)), .int .i64 t178, .int .i64 t179, .int .u32 0, .int .u32 0, .int .u32 0, .int .u64 0, .int .u64 0, .int .u64 0, .int .u64 0]) ?_ 6 _ rfl; (with_reducible repeat (first | refine blk_drewN ?_ _ | refine blk_drew ?_ | refine blk_alloc ?_ _)); refine blk_put (cs := #[.int .i64 (wrap64 (Int.tdiv (wrap64 (bt a0 0)) 64)), .int .i64 (Int.tmod (wrap64 (Int.tdiv (wrap64 (bt a0 0)) 8)) 8), .int .i64 (Int.tmod (wrap64 (bt a0 0)) 8), .int .i64 (wrap64 (bt a0 1)), .int .i64 t178, .int .i64 0, .int .u32 0, .int .u32 0, .int .u32 0, .int .u64 0, .int .u64 0, .int .u64 0, .int .u64 0]) ?_ 5 _ rfl; (with_reducible repeat (first | refine blk_drewN ?_ _ | refine blk_drew ?_ | refine blk_alloc ?_ _)); refine blk_put (cs := #[.int .i64 (wrap64 (Int.tdiv (wrap64 (bt a0 0)) 64)), .int .i64 (Int.tmod (wrap64 (Int.tdiv (wrap64 (bt a0 0)) 8)) 8), .int .i64 (Int.tmod (wrap64 (bt a0 0)) 8), .int .i64 (wrap64 (bt a0 1)), .int .i64 0, .int .i64 0, .int .u32 0, .int .u32 0, .int .u32 0, .int .u64 0, .int .u64 0, .int .u64 0, .int .u64 0]) ?_ 4 _ rfl; (with_reducible repeat (first | refine blk_drewN ?_ _ | refine blk_drew ?_ | refine blk_alloc ?_ _)); refine blk_put (cs := #[.int .i64 (wrap64 (Int.tdiv (wrap64 (bt a0 0)) 64)), .int .i64 (Int.tmod (wrap64 (Int.tdiv (wrap64 (bt a0 0)) 8)) 8), .int .i64 (Int.tmod (wrap64 (bt a0 0)) 8), .int .i64 0, .int .i64 0, .int .i64 0, .int .u32 0, .int .u32 0, .int .u32 0, .int .u64 0, .int .u64 0, .int .u64 0, .int .u64 0]) ?_ 3 _ rfl; (with_reducible repeat (first | refine blk_drewN ?_ _ | refine blk_drew ?_ | refine blk_alloc ?_ _)); refine blk_put (cs := #[.int .i64 (wrap64 (Int.tdiv (wrap64 (bt a0 0)) 64)), .int .i64 (Int.tmod (wrap64 (Int.tdiv (wrap64 (bt a0 0)) 8)) 8), .int .i64 0, .int .i64 0, .int .i64 0, .int .i64 0, .int .u32 0, .int .u32 0, .int .u32 0, .int .u64 0, .int .u64 0, .int .u64 0, .int .u64 0]) ?_ 2 _ rfl; (with_reducible repeat (first | refine blk_drewN ?_ _ | refine blk_drew ?_ | refine blk_alloc ?_ _)); refine blk_put (cs := #[.int .i64 (wrap64 (Int.tdiv (wrap64 (bt a0 0)) 64)), .int .i64 0, .int .i64 0, .int .i64 0, .int .i64 0, .int .i64 0, .int .u32 0, .int .u32 0, .int .u32 0, .int .u64 0, .int .u64 0, .int .u64 0, .int .u64 0]) ?_ 1 _ rfl; (with_reducible repeat (first | refine blk_drewN ?_ _ | refine blk_drew ?_ | refine blk_alloc ?_ _)); refine blk_put (cs := #[.int .i64 0, .int .i64 0, .int .i64 0, .int .i64 0, .int .i64 0, .int .i64 0, .int .u32 0, .int .u32 0, .int .u32 0, .int .u64 0, .int .u64 0, .int .u64 0, .int .u64 0]) ?_ 0 _ rfl; (with_reducible repeat (first | refine blk_drewN ?_ _ | refine blk_drew ?_ | refine blk_alloc ?_ _)); exact BK180.out
                                                · repeat (first | (with_reducible first | exact HB.out | apply below_alloc | apply pw_below_drewN | apply below_drew1 | refine below_set ?_ GE177.out | refine below_set ?_ GE180.out) | exact HB.out)
                                                clear BK177 BK180 HB
                                                have BK177 := Aside0.mk (blk_drew hA)
                                                have BK180 := Aside0.mk (blk_drew hB)
                                                have HB := Aside0.mk (below_drew1 hD)
                                                clear hA hB hD
                                                refine tail14 (cs := #[.int .i64 (wrap64 (Int.tdiv (wrap64 (bt a0 0)) 64)), .int .i64 (Int.tmod (wrap64 (Int.tdiv (wrap64 (bt a0 0)) 8)) 8), .int .i64 (Int.tmod (wrap64 (bt a0 0)) 8), .int .i64 (wrap64 (bt a0 1)), .int .i64 t178, .int .i64 t179, .int .u32 ((t181) % 4294967296), .int .u32 ((t182) % 4294967296), .int .u32 ((t183) % 4294967296), .int .u64 t184, .int .u64 t185, .int .u64 t186, .int .u64 t187]) (zs := #[.int .i64 0, .int .i64 0, .int .i64 0, .int .i64 0, .int .i64 0, .int .i64 0, .int .u32 0, .int .u32 0, .int .u32 0, .int .u64 0, .int .u64 0, .int .u64 0, .int .u64 0]) rfl rfl (by kernel_rfl) (fun _ _ _ _ _ h => h) c42b0 BK177 BK180 ?_
                                                intro w' hw'
                                                have hset : w'.heap[gb177]? = some (.cells #[.int .i64 (wrap64 (Int.tdiv (wrap64 (bt a0 0)) 64)), .int .i64 (Int.tmod (wrap64 (Int.tdiv (wrap64 (bt a0 0)) 8)) 8), .int .i64 (Int.tmod (wrap64 (bt a0 0)) 8), .int .i64 (wrap64 (bt a0 1)), .int .i64 t178, .int .i64 t179, .int .u32 ((t181) % 4294967296), .int .u32 ((t182) % 4294967296), .int .u32 ((t183) % 4294967296), .int .u64 t184, .int .u64 t185, .int .u64 t186, .int .u64 t187] 42 (0, 0)) := by rw [hw']; exact setRow_heap w63.drew gb177 #[.int .i64 0, .int .i64 0, .int .i64 0, .int .i64 0, .int .i64 0, .int .i64 0, .int .u32 0, .int .u32 0, .int .u32 0, .int .u64 0, .int .u64 0, .int .u64 0, .int .u64 0] #[.int .i64 (wrap64 (Int.tdiv (wrap64 (bt a0 0)) 64)), .int .i64 (Int.tmod (wrap64 (Int.tdiv (wrap64 (bt a0 0)) 8)) 8), .int .i64 (Int.tmod (wrap64 (bt a0 0)) 8), .int .i64 (wrap64 (bt a0 1)), .int .i64 t178, .int .i64 t179, .int .u32 ((t181) % 4294967296), .int .u32 ((t182) % 4294967296), .int .u32 ((t183) % 4294967296), .int .u64 t184, .int .u64 t185, .int .u64 t186, .int .u64 t187] 42 (0, 0) BK177.out
                                                have hbel : Below w.heap.size w w' := by rw [hw']; exact ⟨HB.out.os, HB.out.tape, HB.out.output, by rw [setRow_size]; exact HB.out.size, fun k hk => (setRow_other w63.drew gb177 k _ (by have := GE177.out; omega)).trans (HB.out.block k hk)⟩
                                                have HS := Aside0.mk hset
                                                have HL := Aside0.mk hbel
                                                clear hw' hset hbel BK177 BK180 HB
                                                try go_wp2
                                                refine bodyPost_ret (results_ctt rfl _ _ gb177 42 #[.int .i64 (wrap64 (Int.tdiv (wrap64 (bt a0 0)) 64)), .int .i64 (Int.tmod (wrap64 (Int.tdiv (wrap64 (bt a0 0)) 8)) 8), .int .i64 (Int.tmod (wrap64 (bt a0 0)) 8), .int .i64 (wrap64 (bt a0 1)), .int .i64 t178, .int .i64 t179, .int .u32 ((t181) % 4294967296), .int .u32 ((t182) % 4294967296), .int .u32 ((t183) % 4294967296), .int .u64 t184, .int .u64 t185, .int .u64 t186, .int .u64 t187] (0, 0) _ rfl HS.out Try.underlying42 rfl (by kernel_rfl)) rfl ?_
                                                exact ⟨rfl, HL.out⟩
                                              · rw [if_neg c42] at H
                                                exact absurd H (by simp)
                                            · rw [if_neg c41] at H
                                              exact absurd H (by simp)
                                          · rw [if_neg c39] at H
                                            exact absurd H (by simp)
                                        · rw [if_neg c38] at H
                                          exact absurd H (by simp)
                                      · rw [if_neg c36] at H
                                        exact absurd H (by simp)
                                    · rw [if_neg c35] at H
                                      exact absurd H (by simp)
                                  · rw [if_neg c33] at H
                                    exact absurd H (by simp)
                                · rw [if_neg c32] at H
                                  exact absurd H (by simp)
                              · rw [if_neg c30] at H
                                exact absurd H (by simp)
                            · rw [if_neg c29] at H
                              exact absurd H (by simp)
                          · rw [if_neg c27] at H
                            exact absurd H (by simp)
                        · rw [if_neg c26] at H
                          exact absurd H (by simp)
                      · rw [if_neg c24] at H
                        exact absurd H (by simp)
                    · rw [if_neg c23] at H
                      exact absurd H (by simp)
                  · rw [if_neg c20] at H
                    exact absurd H (by simp)
                · rw [if_neg c17] at H
                  exact absurd H (by simp)
              · rw [if_neg c15] at H
                exact absurd H (by simp)
            · rw [if_neg c12] at H
              exact absurd H (by simp)
    · rw [if_neg c5] at H
      exact absurd H (by simp)

end Go.Proofs.Ytilbkdlbbnkgdaa.MHeader
