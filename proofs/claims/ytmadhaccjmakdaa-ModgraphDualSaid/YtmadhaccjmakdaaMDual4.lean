/- Part 4 of 6 of one proof: The examples' function returns true -/
import Derived.Test.YtmadhaccjmakdaaMDual1
import Derived.Test.YtmadhaccjmakdaaMDual2
import Derived.Test.YtmadhaccjmakdaaMDual3
set_option linter.unusedVariables false
set_option linter.unusedSimpArgs false
set_option maxHeartbeats 8000000
set_option maxRecDepth 100000
namespace Go.Proofs.Ytmadhaccjmakdaa.P
open Go.RowKit Go.Proofs.Yw.A Go.Proofs.Yw.A.Kd Go.Proofs.Yw.B Go.Proofs.Yw.C
attribute [local go_sem] str_gtr str_leq str_geq max2_int min2_int max_two min_two max_three min_three max_four min_four
noncomputable def w_module.l0 : Nat -> List ByteArray -> Int -> ByteArray -> Bool -> List (S66) -> RawS -> Option (ByteArray × Bool × (List (S138)) × (List (S66)) × RawS)
 | 0, _, _, _, _, _, _ => none
 | k + 1, x1, x6, x296000, x296001, x296003, x296004 => if x6 < (x1.length : Int) then (if 0 <= x6 then (if x296003.length < 1954687338268 then (w_module.l0 k x1 (wrap64 (x6 + 1)) x296000 x296001 (x296003 ++ [(⟨rdOf ByteArray.empty x1 x6, false, (⟨#[]⟩ : ByteArray), false, false, ([] : List (S138))⟩ : S66)]) x296004) else (none)) else (none)) else (some (x296000, x296001, ([] : List (S138)), x296003, x296004))
noncomputable def w_module.f (k : Nat) (a0 : ByteArray) (l1 : List ByteArray) : Option (ByteArray × Bool × (List (S138)) × (List (S66)) × RawS) := w_module.l0 k l1 0 a0 false ([] : List (S66)) RawS.nil
noncomputable def w_module.T5 : Bool × List (List Nat × List Nat) := (true, [([], []), ([0], [0]), ([], []), ([], []), ([2, 3], [2, 3]), ([4], [4]), ([5], [5]), ([6], [6]), ([1, 7], [1, 7]), ([0, 1, 2, 3, 4, 5, 6, 7, 8], []), ([9, 8, 8, 0, 1, 2, 3, 4, 5, 6, 7, 8], [8, 9])])
noncomputable def w_module.B5 : List Nat := [0, 1, 0, 0, 12, 28, 60, 124, 255, 511, 1023]
theorem w_module.tab5 : rtab .any (opsOf Try.f23 5) = w_module.T5 := by kernel_rfl
theorem w_module.bits5 : waitsOk w_module.T5.2 w_module.B5 = true := by kernel_rfl
theorem w_module.calls (k : Nat) (a0 : ByteArray) (A1 : Option Addr) (c1 : Nat) (l1 : List ByteArray) (r1 : ByteArray) (r2 : Bool) (r3 : List (S138)) (r4 : List (S66)) (r5 : RawS) (w : World) (hr1 : Kd.C Kd.string w A1 l1.length l1) (hc1 : l1.length <= c1) (h : w_module.f k a0 l1 = some (r1, r2, r3, r4, r5)) :
 Calls Try.prog 23 #[.string a0, .slice A1 l1.length c1] w fun e w' => ∃ v2_ v3_ : Value, e = .returned (.agg #[.string r1, .bool r2, v2_, v3_, .slice r5.a r5.n r5.c]) /\ Kd.S k138 138 w' w.heap.size (fun _ => True) v2_ r3 /\ Kd.R k66 66 w' w.heap.size (fun k_ => some k_ ≠ (v2_ : Value).ownBlock) v3_ r4 /\ Below w.heap.size w w' := by
 have hu42 := Try.underlying42
 have hu66 := Try.underlying66
 have HR1 := aM hr1
 have HC1 := aM hc1
 clear hr1 hc1
 have HB := aM (Below.refl w.heap.size w)
 have H : (w_module.l0 k l1 0 a0 false ([] : List (S66)) RawS.nil) = some (r1, r2, r3, r4, r5) := h
 clear h
 have H' := aM H
 clear H
 go_enter Try.func23, Try.ntmps23
 go_wp2_with (first | ((with_reducible refine gate_dst (N := 4) rfl ?_); refine be 4 rfl rfl #[.string (⟨#[]⟩ : ByteArray), .bool false, .slice none 0 0, .slice none 0 0, .slice RawS.nil.a RawS.nil.n RawS.nil.c] 42 ?_; intro gb294 hg w3 hbox hb; have BK294 := aM hbox; have GE294 := gs hg HB; replace HB := bs HB hb; clear hb hbox hg) | ((with_reducible refine gate_dst (N := 5) rfl ?_); refine be 5 rfl rfl #[.string (⟨#[]⟩ : ByteArray), .bool false, .slice none 0 0, .slice none 0 0, .slice RawS.nil.a RawS.nil.n RawS.nil.c] 42 ?_; intro gb295 hg w4 hbox hb; have BK295 := aM hbox; have GE295 := gs hg HB; have NB294_295 := nl hg BK294; have NB295_294 := nr hg BK294; replace BK294 := kb BK294 hb; replace HB := bs HB hb; clear hb hbox hg; have hnb5 := NB295_294.1; have hnc5 := NB294_295.1; have hcz6_0 : w4.cell? ⟨gb295, 0, none⟩ = some (.string (⟨#[]⟩ : ByteArray)) := (blk_cell BK295.1 0).trans rfl; have hcz6_1 : w4.cell? ⟨gb295, 1, none⟩ = some (.bool false) := (blk_cell BK295.1 1).trans rfl; have hcz6_2 : w4.cell? ⟨gb295, 2, none⟩ = some (.slice none 0 0) := (blk_cell BK295.1 2).trans rfl; have hcz6_3 : w4.cell? ⟨gb295, 3, none⟩ = some (.slice none 0 0) := (blk_cell BK295.1 3).trans rfl; have hcz6_4 : w4.cell? ⟨gb295, 4, none⟩ = some (.slice RawS.nil.a RawS.nil.n RawS.nil.c) := (blk_cell BK295.1 4).trans rfl; have hfz6_0 := blk_frozen BK295.1 0; have hfz6_1 := blk_frozen BK295.1 1; have hfz6_2 := blk_frozen BK295.1 2; have hfz6_3 := blk_frozen BK295.1 3; have hfz6_4 := blk_frozen BK295.1 4))
 go_loopg [6] k (fun kq v6 w' => ∃ (x6_1 : Int) (x296003_1 : List (S66)) (u296003 : Value), v6 = .int .i64 x6_1 /\ Az (w_module.l0 kq l1 x6_1 a0 false x296003_1 RawS.nil = some (r1, r2, r3, r4, r5)) /\ Az (kq <= k) /\ Az (Kd.R k66 66 w' w.heap.size (fun _ => True) u296003 x296003_1) /\ Az (w'.heap[gb294]? = some (.cells #[.string (⟨#[]⟩ : ByteArray), .bool false, (.slice none 0 0), (.slice none 0 0), .slice RawS.nil.a RawS.nil.n RawS.nil.c] 42 (0, 0))) /\ Az (w'.heap[gb295]? = some (.cells #[.string a0, .bool false, (.slice none 0 0), u296003, .slice RawS.nil.a RawS.nil.n RawS.nil.c] 42 (0, 0))) /\ Az (Below w.heap.size w w'))
 case atStart => exact ⟨(0), (([] : List (S66))), (.slice none 0 0), rr, H', ⟨Nat.le_refl _⟩, ⟨by first | exact R_nil _ _ _ _ _ | exact N_nil _ _ _ _ _ | exact V_nil _ _ _ _ _ | exact Q_nil _ _ _ _ _ | exact S_nil _ _ _ _ _⟩, ⟨kf BK294⟩, ⟨by (with_reducible repeat (first | refine kN ?_ _ | refine kD ?_ | refine kA ?_ _)); refine blk_put (cs := #[.string a0, .bool false, .slice none 0 0, .slice none 0 0, .slice RawS.nil.a RawS.nil.n RawS.nil.c]) ?_ 4 _ rfl; (with_reducible repeat (first | refine kN ?_ _ | refine kD ?_ | refine kA ?_ _)); refine blk_put (cs := #[.string a0, .bool false, .slice none 0 0, .slice none 0 0, .slice RawS.nil.a RawS.nil.n RawS.nil.c]) ?_ 3 _ rfl; (with_reducible repeat (first | refine kN ?_ _ | refine kD ?_ | refine kA ?_ _)); refine blk_put (cs := #[.string a0, .bool false, .slice none 0 0, .slice none 0 0, .slice RawS.nil.a RawS.nil.n RawS.nil.c]) ?_ 2 _ rfl; (with_reducible repeat (first | refine kN ?_ _ | refine kD ?_ | refine kA ?_ _)); refine blk_put (cs := #[.string a0, .bool false, .slice none 0 0, .slice none 0 0, .slice RawS.nil.a RawS.nil.n RawS.nil.c]) ?_ 1 _ rfl; (with_reducible repeat (first | refine kN ?_ _ | refine kD ?_ | refine kA ?_ _)); refine blk_put (cs := #[.string (⟨#[]⟩ : ByteArray), .bool false, .slice none 0 0, .slice none 0 0, .slice RawS.nil.a RawS.nil.n RawS.nil.c]) ?_ 0 _ rfl; (with_reducible repeat (first | refine kN ?_ _ | refine kD ?_ | refine kA ?_ _)); exact BK295.1⟩, ⟨hh HB⟩⟩
 case round =>
  clear H'
  clear hcz6_0 hcz6_1 hcz6_2 hcz6_3 hcz6_4 hfz6_0 hfz6_1 hfz6_2 hfz6_3 hfz6_4
  obtain ⟨x6_1, x296003_1, u296003, rfl, HA, HK1, HO_296003, BK294, BK295, HB⟩ := hrel
  cases gk with
  | zero => exact absurd HA.1 (by simp [w_module.l0])
  | succ k1 =>
   have H := HA.1
   clear HA
   simp only [w_module.l0] at H
   by_cases c7 : x6_1 < (l1.length : Int)
   rotate_left
   · rw [if_neg c7] at H
     have c7b0 : decide (x6_1 < (l1.length : Int)) = false := decide_eq_false c7
     clear c7
     simp only [Option.some.injEq, Prod.mk.injEq] at H
     obtain ⟨rfl, rfl, rfl, rfl, rfl⟩ := H
     have hnb14 := NB295_294.1
     have hnc14 := NB294_295.1
     obtain ⟨hcz15_0, hcz15_1, hcz15_2, hcz15_3⟩ := cz BK295
     have hcz15_4 : wr.cell? ⟨gb295, 4, none⟩ = some (.slice RawS.nil.a RawS.nil.n RawS.nil.c) := (blk_cell BK295.1 4).trans rfl
     obtain ⟨hfz15_0, hfz15_1, hfz15_2, hfz15_3⟩ := fz BK295
     have hfz15_4 := blk_frozen BK295.1 4
     obtain ⟨hcz16_0, hcz16_1, hcz16_2, hcz16_3⟩ := cz BK294
     have hcz16_4 : wr.cell? ⟨gb294, 4, none⟩ = some (.slice RawS.nil.a RawS.nil.n RawS.nil.c) := (blk_cell BK294.1 4).trans rfl
     obtain ⟨hfz16_0, hfz16_1, hfz16_2, hfz16_3⟩ := fz BK294
     have hfz16_4 := blk_frozen BK294.1 4
     obtain ⟨Ao17, co17, eo17⟩ := R_slice HO_296003.1
     subst eo17
     go_wp2
     refine bodyPost_ret (results_cell_row rfl _ _ gb294 42 #[.string a0, .bool false, .slice none 0 0, .slice Ao17 x296003_1.length co17, .slice RawS.nil.a RawS.nil.n RawS.nil.c] (0, 0) _ rfl (by (with_reducible repeat (first | refine kN ?_ _ | refine kD ?_ | refine kA ?_ _)); refine blk_put (cs := #[.string a0, .bool false, .slice none 0 0, .slice Ao17 x296003_1.length co17, .slice RawS.nil.a RawS.nil.n RawS.nil.c]) ?_ 4 _ rfl; (with_reducible repeat (first | refine kN ?_ _ | refine kD ?_ | refine kA ?_ _)); refine blk_put (cs := #[.string a0, .bool false, .slice none 0 0, .slice none 0 0, .slice RawS.nil.a RawS.nil.n RawS.nil.c]) ?_ 3 _ rfl; (with_reducible repeat (first | refine kN ?_ _ | refine kD ?_ | refine kA ?_ _)); refine blk_put (cs := #[.string a0, .bool false, .slice none 0 0, .slice none 0 0, .slice RawS.nil.a RawS.nil.n RawS.nil.c]) ?_ 2 _ rfl; (with_reducible repeat (first | refine kN ?_ _ | refine kD ?_ | refine kA ?_ _)); refine blk_put (cs := #[.string a0, .bool false, .slice none 0 0, .slice none 0 0, .slice RawS.nil.a RawS.nil.n RawS.nil.c]) ?_ 1 _ rfl; (with_reducible repeat (first | refine kN ?_ _ | refine kD ?_ | refine kA ?_ _)); refine blk_put (cs := #[.string (⟨#[]⟩ : ByteArray), .bool false, .slice none 0 0, .slice none 0 0, .slice RawS.nil.a RawS.nil.n RawS.nil.c]) ?_ 0 _ rfl; (with_reducible repeat (first | refine kN ?_ _ | refine kD ?_ | refine kA ?_ _)); exact BK294.1) Try.underlying42 rfl (by kernel_rfl)) rfl ?_
     exact ⟨_, _, by first | rfl | (simp [errW_none, errW_some] <;> rfl) | (simp [*, errW_none, errW_some] <;> rfl), by first | exact S_nil _ _ _ _ _ | exact N_nil _ _ _ _ _ | exact V_nil _ _ _ _ _ | exact Q_nil _ _ _ _ _ | exact R_nil _ _ _ _ _, rz (R_mono (R_far (p := ⟨gb294, 4, none⟩) (R_far (p := ⟨gb294, 3, none⟩) (R_far (p := ⟨gb294, 2, none⟩) (R_far (p := ⟨gb294, 1, none⟩) (R_far (p := ⟨gb294, 0, none⟩) (R_types HO_296003.1 BK294.1 (by decide)) (fun _ hk => hk.2) (.string a0)) (fun _ hk => hk.2) (.bool false)) (fun _ hk => hk.2) (.slice none 0 0)) (fun _ hk => hk.2) (.slice Ao17 x296003_1.length co17)) (fun _ hk => hk.2) (.slice RawS.nil.a RawS.nil.n RawS.nil.c)) (fun _ hk => (by simp [Value.ownBlock]))), hh HB⟩
   rw [if_pos c7] at H
   have c7b0 : decide (x6_1 < (l1.length : Int)) = true := decide_eq_true c7
   clear c7
   by_cases c8 : 0 <= x6_1
   rotate_left
   · rw [if_neg c8] at H
     exact absurd H (by simp)
   rw [if_pos c8] at H
   have c8b0 : decide (0 <= x6_1) = true := decide_eq_true c8
   clear c8
   by_cases c9 : x296003_1.length < 1954687338268
   rotate_left
   · rw [if_neg c9] at H
     exact absurd H (by simp)
   rw [if_pos c9] at H
   have LMc9 := aM c9
   clear c9
   obtain ⟨y297, hy297⟩ : ∃ y_ : List (S66), y_ = (x296003_1 ++ [(⟨rdOf ByteArray.empty l1 x6_1, false, (⟨#[]⟩ : ByteArray), false, false, ([] : List (S138))⟩ : S66)]) := ⟨_, rfl⟩
   replace H : (w_module.l0 k1 l1 (wrap64 (x6_1 + 1)) a0 false y297 RawS.nil) = some (r1, r2, r3, r4, r5) := by first | (rw [hy297]; with_reducible exact H) | (have H2_ := (Option.bind_some _ _).symm.trans H; rw [hy297]; with_reducible exact H2_) | (have H2_ := (Option.bind_some _ _).symm.trans H; with_reducible exact H2_) | with_reducible exact H | (rw [hy297]; exact H) | exact H
   have Ny297 := aM hy297
   clear hy297
   have H' := aM H
   clear H
   try go_wp2
   replace HO_296003 := aM (R_drew HO_296003.1)
   replace BK294 := aM (blk_drew BK294.1)
   replace BK295 := aM (blk_drew BK295.1)
   replace HB := aM (below_drew1 HB.1)
   have p296 : 0 <= (x6_1 : Int) := dt
   have q296 : x6_1 < (l1.length : Int) := dt
   obtain ⟨ad296, e296, hx296_0⟩ := Kd.at_string HR1.1 x6_1 p296 q296
   have hw296_0 := hx296_0
   cases e296
   replace hx296_0 := hx HB hx296_0
   replace p296 := eq_true p296
   replace q296 := eq_true q296
   refine start_ (n := 11) (S := fun w' => w'.cell? ⟨gb295, 0, none⟩ = some (.string a0) /\ w'.cell? ⟨gb295, 1, none⟩ = some (.bool false) /\ w'.cell? ⟨gb295, 2, none⟩ = some (.slice none 0 0) /\ w'.cell? ⟨gb295, 3, none⟩ = some (u296003) /\ w'.cell? ⟨gb295, 4, none⟩ = some (.slice RawS.nil.a RawS.nil.n RawS.nil.c) /\ w'.cell? (ad296.add (x6_1).toNat) = some (.string (rdOf ByteArray.empty l1 x6_1))) (ds := [10]) #[F_, F_, F_, F_, F_, F_, F_, F_, F_, F_, F_] (by kernel_rfl) rfl rfl ⟨(blk_cell BK295.1 0).trans rfl, (blk_cell BK295.1 1).trans rfl, (blk_cell BK295.1 2).trans rfl, (blk_cell BK295.1 3).trans rfl, (blk_cell BK295.1 4).trans rfl, (hx HB hw296_0)⟩ (fun hHeld => ?_); refine with_tabW w_module.tab5 w_module.bits5 (fun HT_ HW_ => ?_)
   generalize wr.drew = w10 at HO_296003 BK294 BK295 HB hx296_0 hHeld ⊢
   refine pure_ (i := 0) (N := some 15) (v := ?_) (a' := ?_) #[T_, F_, F_, F_, F_, F_, F_, F_, F_, F_, F_] rfl rfl (any_of HT_.1 (by kernel_rfl)) (fun _ _ _ h => h) (Or.inl ⟨by rfl, ?_⟩) ?_ ?_
   rotate_left
   · intro w'
     go_simp
     with_reducible rfl
   rotate_left
   · simp only [Act.put, sA, sZ, sS, i64_w, i32_w]
     rfl
   refine pure_ (i := 2) (N := some 17) (v := ?_) (a' := ?_) #[T_, F_, T_, F_, F_, F_, F_, F_, F_, F_, F_] rfl rfl (any_of HT_.1 (by kernel_rfl)) (fun _ _ _ h => h) (Or.inl ⟨by rfl, ?_⟩) ?_ ?_
   rotate_left
   · intro w'
     go_simp
     with_reducible rfl
   rotate_left
   · simp only [Act.put, sA, sZ, sS, i64_w, i32_w]
     rfl
   refine pure_ (i := 3) (N := some 18) (v := ?_) (a' := ?_) #[T_, F_, T_, T_, F_, F_, F_, F_, F_, F_, F_] rfl rfl (any_of HT_.1 (by kernel_rfl)) (fun _ _ _ h => h) (Or.inl ⟨by rfl, ?_⟩) ?_ ?_
   rotate_left
   · intro w'
     go_simp
     with_reducible rfl
   rotate_left
   · simp only [Act.put, sA, sZ, sS, i64_w, i32_w]
     rfl
   refine pure_ (i := 4) (N := some 19) (v := ?_) (a' := ?_) #[T_, F_, T_, T_, T_, F_, F_, F_, F_, F_, F_] rfl rfl (any_of HT_.1 (by kernel_rfl)) (fun _ _ _ h => h) (Or.inl ⟨by rfl, ?_⟩) ?_ ?_
   rotate_left
   · intro w'
     go_simp
     with_reducible rfl
   rotate_left
   · simp only [Act.put, sA, sZ, sS, i64_w, i32_w]
     rfl
   refine take_ (i := 1) (N := some 16) (v := ?_) (a' := ?_) #[T_, T_, T_, T_, T_, F_, F_, F_, F_, F_, F_] rfl rfl (take_ofW HT_.1 HW_.1 (by kernel_rfl)) (fun _ _ _ h => h) (Or.inl ⟨by rfl, ?_⟩) hHeld ?_ ?_
   rotate_left
   · rintro w' ⟨s0, s1, s2, s3, s4, s5⟩
     go_simp
     with_reducible rfl
   rotate_left
   · simp only [Act.put, sA, sZ, sS, i64_w, i32_w]
     rfl
   refine take_ (i := 5) (N := some 20) (v := ?_) (a' := ?_) #[T_, T_, T_, T_, T_, T_, F_, F_, F_, F_, F_] rfl rfl (take_ofW HT_.1 HW_.1 (by kernel_rfl)) (fun _ _ _ h => h) (Or.inl ⟨by rfl, ?_⟩) hHeld ?_ ?_
   rotate_left
   · rintro w' ⟨s0, s1, s2, s3, s4, s5⟩
     go_simp
     with_reducible rfl
   rotate_left
   · simp only [Act.put, sA, sZ, sS, i64_w, i32_w]
     rfl
   refine pure_ (i := 6) (N := some 21) (v := ?_) (a' := ?_) #[T_, T_, T_, T_, T_, T_, T_, F_, F_, F_, F_] rfl rfl (any_of HT_.1 (by kernel_rfl)) (fun _ _ _ h => h) (Or.inl ⟨by rfl, ?_⟩) ?_ ?_
   rotate_left
   · intro w'
     go_simp
     with_reducible rfl
   rotate_left
   · simp only [Act.put, sA, sZ, sS, i64_w, i32_w]
     rfl
   refine one_ (i := 7) (N := some 22) #[T_, T_, T_, T_, T_, T_, T_, T_, F_, F_, F_] rfl rfl (one_of HT_.1 (by kernel_rfl)) (by decide) (fun K hK => ?_)
   refine value_ (w1 := ?_) (v := ?_) (by rfl) rfl ?_ ?_
   rotate_left 2
   · go_simp
     constructor
     · rfl
     · rfl
   refine hK.out _ _ ⟨(blk_cell (blk_alloc BK295.1 _) 0).trans rfl, (blk_cell (blk_alloc BK295.1 _) 1).trans rfl, (blk_cell (blk_alloc BK295.1 _) 2).trans rfl, (blk_cell (blk_alloc BK295.1 _) 3).trans rfl, (blk_cell (blk_alloc BK295.1 _) 4).trans rfl, (World.cell?_alloc_lt _ _ _ (World.block_lt_of_cell? _ _ ((hx HB hw296_0)))).trans ((hx HB hw296_0))⟩ (fun hHeld => ?_)
   clear hK K
   refine norm_ (a' := ?_) ?_ ?_
   rotate_left
   · show Act.put _ (some 22) _ = _
     simp only [Act.put, sA, sZ, sS, i64_w, i32_w]
     rfl
   refine one_ (i := 8) (N := some 23) #[T_, T_, T_, T_, T_, T_, T_, T_, T_, F_, F_] rfl rfl (one_of HT_.1 (by kernel_rfl)) (by decide) (fun K hK => ?_)
   refine R_append_step k66 (w0 := w) w.heap.size (by rfl) (.tmp 16) (.tmp 22) 39 66 (.agg #[(.string ⟨#[]⟩), (.bool false), (.string ⟨#[]⟩), (.bool false), (.bool false), (.slice none 0 0)]) 72 rfl Try.underlying39 info66 rfl (by decide) (by omega) u296003 x296003_1 (⟨rdOf ByteArray.empty l1 x6_1, false, (⟨#[]⟩ : ByteArray), false, false, ([] : List (S138))⟩ : S66) [.string (rdOf ByteArray.empty l1 x6_1), .bool false, .string (⟨#[]⟩ : ByteArray), .bool false, .bool false, .slice none 0 0] (fun _ => True) (fun k_ => ((fun _ => True)) k_ /\ some k_ ≠ (u296003 : Value).ownBlock) rfl rfl ?aP (fun _ hk => hk) ?aF ?aO ?aB ?aS ?aL ?_
   (case aP => exact k66_mkM _ _ _ (⟨rdOf ByteArray.empty l1 x6_1, false, (⟨#[]⟩ : ByteArray), false, false, ([] : List (S138))⟩ : S66) (R_nil _ _ _ _ _))
   (case aB => exact (hh HB))
   (case aF => exact (fun _ _ => trivial))
   (case aO => exact (rk HO_296003))
   (case aS => exact (below_size (hh HB)))
   (case aL => have := LMc9.1; omega)
   intro v298 w11 ho hb hg hat
   rw [<- Ny297.1] at ho
   have HO299 := aM (ho)
   replace BK294 := aM (blk_grown (g := gb294) (o := .cells #[.string (⟨#[]⟩ : ByteArray), .bool false, .slice none 0 0, .slice none 0 0, .slice RawS.nil.a RawS.nil.n RawS.nil.c] 42 (0, 0)) (kk BK294) hg (R_ne HO_296003.1 BK294.1 (by decide)))
   replace BK295 := aM (blk_grown (g := gb295) (o := .cells #[.string a0, .bool false, .slice none 0 0, u296003, .slice RawS.nil.a RawS.nil.n RawS.nil.c] 42 (0, 0)) (kk BK295) hg (R_ne HO_296003.1 BK295.1 (by decide)))
   replace HB := aM (hb)
   clear HO_296003
   clear ho hb hg hat
   obtain ⟨Ao12, co12, eo12⟩ := R_slice HO299.1
   (first | subst eo12 | (injection eo12 with f1_ f2_ f3_; have f4_ := f1_.symm; have f5_ := f3_.symm; clear f1_ f2_ f3_; subst f4_; subst f5_))
   refine hK.out _ _ ⟨(blk_cell BK295.1 0).trans rfl, (blk_cell BK295.1 1).trans rfl, (blk_cell BK295.1 2).trans rfl, (blk_cell BK295.1 3).trans rfl, (blk_cell BK295.1 4).trans rfl, (hx HB hw296_0)⟩ (fun hHeld => ?_)
   clear hK K
   refine norm_ (a' := ?_) ?_ ?_
   rotate_left
   · show Act.put _ (some 23) _ = _
     simp only [Act.put, sA, sZ, sS, i64_w, i32_w]
     rfl
   refine pure_ (i := 9) (N := some 24) (v := ?_) (a' := ?_) #[T_, T_, T_, T_, T_, T_, T_, T_, T_, T_, F_] rfl rfl (any_of HT_.1 (by kernel_rfl)) (fun _ _ _ h => h) (Or.inl ⟨by rfl, ?_⟩) ?_ ?_
   rotate_left
   · intro w'
     go_simp
     with_reducible rfl
   rotate_left
   · simp only [Act.put, sA, sZ, sS, i64_w, i32_w]
     rfl
   refine last_ (i := 10) (N := none) #[T_, T_, T_, T_, T_, T_, T_, T_, T_, T_, T_] rfl rfl (one_of HT_.1 (by kernel_rfl)) (by decide) (fun K hK => ?_)
   have hs13 : w11.cell? ⟨gb295, 3, none⟩ = some (u296003) := (blk_cell BK295.1 3).trans rfl
   have hfs13 := blk_frozen BK295.1 3
   have hns13_0 := NB294_295.1
   have hms13_0 := NB295_294.1
   refine skip_ (w1 := ?_) (by rfl) rfl ?_ ?_
   rotate_left
   · go_simp
     rfl
   refine hK.out _ _ ?_
   clear hK K
   refine done_ (done_of HT_.1 (by kernel_rfl)) ?_
   try go_wp2
   go_roundg k1
   case measure => have := HK1.1; omega
   case rel => exact ⟨(wrap64 (x6_1 + 1)), (y297), (.slice Ao12 y297.length co12), rr, H', ⟨by have := HK1.1; omega⟩, ⟨rz (R_mono (R_far (p := ⟨gb295, 3, none⟩) (R_types HO299.1 BK295.1 (by decide)) (fun _ hk => hk.2) (.slice Ao12 y297.length co12)) (fun _ hk => trivial))⟩, ⟨kf BK294⟩, ⟨by (with_reducible repeat (first | refine kN ?_ _ | refine kD ?_ | refine kA ?_ _)); refine blk_put (cs := #[.string a0, .bool false, .slice none 0 0, u296003, .slice RawS.nil.a RawS.nil.n RawS.nil.c]) ?_ 3 _ rfl; (with_reducible repeat (first | refine kN ?_ _ | refine kD ?_ | refine kA ?_ _)); exact BK295.1⟩, ⟨hh HB⟩⟩
noncomputable def q_Has.l0 : Nat -> List ByteArray -> ByteArray -> Int -> Option (Bool)
 | 0, _, _, _ => none
 | k + 1, x0, x1, x5 => if x5 < (x0.length : Int) then (if 0 <= x5 then (if (rdOf ByteArray.empty x0 x5).toList = x1.toList then (some true) else (q_Has.l0 k x0 x1 (wrap64 (x5 + 1)))) else (none)) else (some false)
noncomputable def q_Has.f (k : Nat) (l0 : List ByteArray) (a1 : ByteArray) : Option (Bool) := q_Has.l0 k l0 a1 0
theorem q_Has.calls (k : Nat) (A0 : Option Addr) (c0 : Nat) (l0 : List ByteArray) (a1 : ByteArray) (r : Bool) (w : World) (hr0 : Kd.C Kd.string w A0 l0.length l0) (hc0 : l0.length <= c0) (h : q_Has.f k l0 a1 = some r) :
 Calls Try.prog 21 #[.slice A0 l0.length c0, .string a1] w fun e w' => e = .returned (.bool r) /\ Drawn0 w w' := by
 have HR0 := aM hr0
 have HC0 := aM hc0
 clear hr0 hc0
 have H : (q_Has.l0 k l0 a1 0) = some r := h
 clear h
 have H' := aM H
 clear H
 go_enter Try.func21, Try.ntmps21
 go_wp2
 go_loopg [5] k (fun kq v5 w' => ∃ (x5_1 : Int), v5 = .int .i64 x5_1 /\ Az (q_Has.l0 kq l0 a1 x5_1 = some r) /\ Az (kq <= k) /\ Drawn0 w w')
 case atStart => exact ⟨(0), rr, H', ⟨Nat.le_refl _⟩, by repeat (first | exact Drawn0.refl _ | apply Drawn0.step)⟩
 case round =>
  clear H'
  obtain ⟨x5_1, rfl, HA, HK1, ⟨m1, rfl⟩⟩ := hrel
  cases gk with
  | zero => exact absurd HA.1 (by simp [q_Has.l0])
  | succ k1 =>
   have H := HA.1
   clear HA
   simp only [q_Has.l0] at H
   by_cases c3 : x5_1 < (l0.length : Int)
   rotate_left
   · rw [if_neg c3] at H
     have c3b0 : decide (x5_1 < (l0.length : Int)) = false := decide_eq_false c3
     clear c3
     obtain rfl := Option.some.inj H
     go_wp2
     go_ret
     exact ⟨by first | rfl | (simp; done) | (simp [*]; done), by repeat (first | exact Drawn0.refl _ | apply Drawn0.step)⟩
   rw [if_pos c3] at H
   have c3b0 : decide (x5_1 < (l0.length : Int)) = true := decide_eq_true c3
   clear c3
   by_cases c4 : 0 <= x5_1
   rotate_left
   · rw [if_neg c4] at H
     exact absurd H (by simp)
   rw [if_pos c4] at H
   have c4b0 : decide (0 <= x5_1) = true := decide_eq_true c4
   clear c4
   by_cases c5 : (rdOf ByteArray.empty l0 x5_1).toList = a1.toList
   · rw [if_pos c5] at H
     have c5b0 : ((rdOf ByteArray.empty l0 x5_1).toList == a1.toList) = true := beq_iff_eq.mpr c5
     have c5b1 : ((rdOf ByteArray.empty l0 x5_1).toList != a1.toList) = false := bne_eq_false_iff_eq.mpr c5
     clear c5
     obtain rfl := Option.some.inj H
     have p300 : 0 <= (x5_1 : Int) := dt
     have q300 : x5_1 < (l0.length : Int) := dt
     obtain ⟨ad300, e300, hx300_0⟩ := Kd.at_string HR0.1 x5_1 p300 q300
     cases e300
     replace p300 := eq_true p300
     replace q300 := eq_true q300
     go_wp2
     go_ret
     exact ⟨by first | rfl | (simp; done) | (simp [*]; done), by repeat (first | exact Drawn0.refl _ | apply Drawn0.step)⟩
   rw [if_neg c5] at H
   have c5b0 : ((rdOf ByteArray.empty l0 x5_1).toList == a1.toList) = false := beq_eq_false_iff_ne.mpr c5
   have c5b1 : ((rdOf ByteArray.empty l0 x5_1).toList != a1.toList) = true := bne_iff_ne.mpr c5
   have H' := aM H
   clear H
   have p300 : 0 <= (x5_1 : Int) := dt
   have q300 : x5_1 < (l0.length : Int) := dt
   obtain ⟨ad300, e300, hx300_0⟩ := Kd.at_string HR0.1 x5_1 p300 q300
   cases e300
   replace p300 := eq_true p300
   replace q300 := eq_true q300
   go_wp2
   go_roundg k1
   case measure => have := HK1.1; omega
   case rel => exact ⟨(wrap64 (x5_1 + 1)), rr, H', ⟨by have := HK1.1; omega⟩, by repeat (first | exact Drawn0.refl _ | apply Drawn0.step)⟩
mutual
noncomputable def r_Insert.l0 : Nat -> List ByteArray -> ByteArray -> List ByteArray -> Bool -> Int -> Option (List ByteArray)
 | 0, _, _, _, _, _ => none
 | k + 1, x0, x1, x5, x6, x7 => if x7 < (x0.length : Int) then (if x6 = true then (r_Insert.j1 k x0 x1 x5 x6 x7 false) else (if 0 <= x7 then (r_Insert.j1 k x0 x1 x5 x6 x7 (!(Op.bytesLess ((rdOf ByteArray.empty x0 x7).toList) x1.toList))) else (none))) else (if x6 = true then (some x5) else (if x5.length < 8796093022208 then (some (x5 ++ [x1])) else (none)))
noncomputable def r_Insert.j1 : Nat -> List ByteArray -> ByteArray -> List ByteArray -> Bool -> Int -> Bool -> Option (List ByteArray)
 | 0, _, _, _, _, _, _ => none
 | k + 1, x0, x1, x5, x6, x7, x23 => if x23 = true then (if 0 <= x7 then (if x7 < (x0.length : Int) then (if (Op.bytesLess x1.toList ((rdOf ByteArray.empty x0 x7).toList)) = true then (if x5.length < 8796093022208 then ((some (x5 ++ [x1] : List ByteArray)).bind fun y306 => (if y306.length < 8796093022208 then (r_Insert.l0 k x0 x1 (y306 ++ [rdOf ByteArray.empty x0 x7]) true (wrap64 (x7 + 1))) else (none))) else (none)) else (if x5.length < 8796093022208 then (r_Insert.l0 k x0 x1 (x5 ++ [rdOf ByteArray.empty x0 x7]) true (wrap64 (x7 + 1))) else (none))) else (none)) else (none)) else (if 0 <= x7 then (if x7 < (x0.length : Int) then (if x5.length < 8796093022208 then (r_Insert.l0 k x0 x1 (x5 ++ [rdOf ByteArray.empty x0 x7]) x6 (wrap64 (x7 + 1))) else (none)) else (none)) else (none))
end
noncomputable def r_Insert.f (k : Nat) (l0 : List ByteArray) (a1 : ByteArray) : Option (List ByteArray) := r_Insert.l0 k l0 a1 ([] : List ByteArray) false 0
theorem r_Insert.calls (k : Nat) (A0 : Option Addr) (c0 : Nat) (l0 : List ByteArray) (a1 : ByteArray) (r : List ByteArray) (w : World) (hr0 : Kd.C Kd.string w A0 l0.length l0) (hc0 : l0.length <= c0) (h : r_Insert.f k l0 a1 = some r) :
 Calls Try.prog 38 #[.slice A0 l0.length c0, .string a1] w fun e w' => ∃ v0_ : Value, e = .returned (v0_) /\ Kd.R Kd.string 9 w' w.heap.size (fun _ => True) v0_ r /\ Below w.heap.size w w' := by
 have HR0 := aM hr0
 have HC0 := aM hc0
 clear hr0 hc0
 have HB := aM (Below.refl w.heap.size w)
 have H : (r_Insert.l0 k l0 a1 ([] : List ByteArray) false 0) = some r := h
 clear h
 have H' := aM H
 clear H
 go_enter Try.func38, Try.ntmps38
 go_wp2
 go_loopg [5, 6, 7] k (fun kq v5 v6 v7 w' => ∃ (x5_1 : List ByteArray) (x6_1 : Bool) (x7_1 : Int), v6 = .bool x6_1 /\ v7 = .int .i64 x7_1 /\ Az (r_Insert.l0 kq l0 a1 x5_1 x6_1 x7_1 = some r) /\ Az (kq <= k) /\ Az (Kd.R Kd.string 9 w' w.heap.size (fun _ => True) v5 x5_1) /\ Az (Below w.heap.size w w'))
 case atStart => exact ⟨(([] : List ByteArray)), (false), (0), rr, rr, H', ⟨Nat.le_refl _⟩, ⟨by first | exact R_nil _ _ _ _ _ | exact N_nil _ _ _ _ _ | exact V_nil _ _ _ _ _ | exact Q_nil _ _ _ _ _ | exact S_nil _ _ _ _ _⟩, ⟨hh HB⟩⟩
 case round =>
  clear H'
  obtain ⟨x5_1, x6_1, x7_1, rfl, rfl, HA, HK1, HO_5, HB⟩ := hrel
  cases gk with
  | zero => exact absurd HA.1 (by simp [r_Insert.l0])
  | succ k1 =>
   have H := HA.1
   clear HA
   simp only [r_Insert.l0] at H
   by_cases c3 : x7_1 < (l0.length : Int)
   rotate_left
   · rw [if_neg c3] at H
     have c3b0 : decide (x7_1 < (l0.length : Int)) = false := decide_eq_false c3
     clear c3
     by_cases c21 : x6_1 = true
     · subst c21
       rw [if_pos rfl] at H
       obtain rfl := Option.some.inj H
       go_wp2
       go_ret
       exact ⟨_, by first | rfl | (simp [errW_none, errW_some] <;> rfl) | (simp [*, errW_none, errW_some] <;> rfl), rk HO_5, hh HB⟩
     replace c21 := Bool.eq_false_iff.mpr c21
     subst c21
     rw [if_neg (show ¬ (false = true) by decide)] at H
     by_cases c22 : x5_1.length < 8796093022208
     rotate_left
     · rw [if_neg c22] at H
       exact absurd H (by simp)
     rw [if_pos c22] at H
     have LMc22 := aM c22
     clear c22
     obtain ⟨y301, hy301⟩ : ∃ y_ : List ByteArray, y_ = (x5_1 ++ [a1]) := ⟨_, rfl⟩
     replace H : (some y301) = some r := by first | (rw [hy301]; with_reducible exact H) | (have H2_ := (Option.bind_some _ _).symm.trans H; rw [hy301]; with_reducible exact H2_) | (have H2_ := (Option.bind_some _ _).symm.trans H; with_reducible exact H2_) | with_reducible exact H | (rw [hy301]; exact H) | exact H
     have Ny301 := aM hy301
     clear hy301
     obtain rfl := Option.some.inj H
     go_wp2_with (first | ((with_reducible refine gate_builtin (b := .append) (xs := #[.tmp 43, .tmp 45]) rfl ?_); at_builtin; refine R_append Kd.string (w0 := w) w.heap.size rfl (.tmp 43) (.tmp 45) 25 9 (.string ⟨#[]⟩) 16 rfl Try.underlying25 info9 rfl (by decide) (by omega) u5 x5_1 a1 [.string a1] (fun _ => True) (fun _ => False) rfl rfl ?aP (fun _ hk => hk.elim) ?aF ?aO ?aB ?aS ?aL ?_; (case aP => exact rfl); (case aB => exact (hh HB)); (case aF => exact (fun _ _ => trivial)); (case aO => exact (rk HO_5)); (case aS => exact (below_size (hh HB))); (case aL => have := LMc22.1; omega); intro v302 w23 ho hb hg hat; rw [<- Ny301.1] at ho; have HO303 := aM (ho); replace HB := aM (hb); clear HO_5; clear ho hb hg hat))
     go_ret
     exact ⟨_, by first | rfl | (simp [errW_none, errW_some] <;> rfl) | (simp [*, errW_none, errW_some] <;> rfl), rk HO303, hh HB⟩
   rw [if_pos c3] at H
   have c3b0 : decide (x7_1 < (l0.length : Int)) = true := decide_eq_true c3
   clear c3
   have HC4 := aM H
   clear H
   go_upto_region 6 with (fail)
   go_cut [23] (fun v23 wc => ∃ (kq : Nat) (x23_3 : Bool), v23 = .bool x23_3 /\ Az (r_Insert.j1 kq l0 a1 x5_1 x6_1 x7_1 x23_3 = some r) /\ Az (kq <= k1) /\ Az (Kd.R Kd.string 9 wc w.heap.size (fun _ => True) u5 x5_1) /\ Az (Below w.heap.size w wc))
   case first =>
    have H := HC4.1
    clear HC4
    by_cases c5 : x6_1 = true
    · subst c5
      rw [if_pos rfl] at H
      have H' := aM H
      clear H
      go_wp2
      go_meet
      case rel => exact ⟨_, (false), rr, H', (ol HK1), ⟨rk HO_5⟩, ⟨hh HB⟩⟩
    replace c5 := Bool.eq_false_iff.mpr c5
    subst c5
    rw [if_neg (show ¬ (false = true) by decide)] at H
    by_cases c6 : 0 <= x7_1
    rotate_left
    · rw [if_neg c6] at H
      exact absurd H (by simp)
    rw [if_pos c6] at H
    have c6b0 : decide (0 <= x7_1) = true := decide_eq_true c6
    clear c6
    (first | rw [c6b0] | (simp only [i64_w, i32_w]; rw [c6b0]) | skip)
    have H' := aM H
    clear H
    have p304 : 0 <= (x7_1 : Int) := dt
    have q304 : x7_1 < (l0.length : Int) := dt
    obtain ⟨ad304, e304, hx304_0⟩ := Kd.at_string HR0.1 x7_1 p304 q304
    cases e304
    replace hx304_0 := hx HB hx304_0
    replace p304 := eq_true p304
    replace q304 := eq_true q304
    go_wp2
    go_meet
    case rel => exact ⟨_, (!(Op.bytesLess ((rdOf ByteArray.empty l0 x7_1).toList) a1.toList)), rr, H', (ol HK1), ⟨rk HO_5⟩, ⟨hh HB⟩⟩
   case rest =>
    clear HC4
    clear c3b0
    obtain ⟨kq, x23_3, rfl, HA, HJ3, HO_5, HB⟩ := hcut
    cases kq with
    | zero => exact absurd HA.1 (by simp [r_Insert.j1])
    | succ kj3 =>
     have H := HA.1
     clear HA
     simp only [r_Insert.j1] at H
     by_cases c7 : x23_3 = true
     rotate_left
     · replace c7 := Bool.eq_false_iff.mpr c7
       subst c7
       rw [if_neg (show ¬ (false = true) by decide)] at H
       by_cases c17 : 0 <= x7_1
       rotate_left
       · rw [if_neg c17] at H
         exact absurd H (by simp)
       rw [if_pos c17] at H
       have c17b0 : decide (0 <= x7_1) = true := decide_eq_true c17
       clear c17
       by_cases c18 : x7_1 < (l0.length : Int)
       rotate_left
       · rw [if_neg c18] at H
         exact absurd H (by simp)
       rw [if_pos c18] at H
       have c18b0 : decide (x7_1 < (l0.length : Int)) = true := decide_eq_true c18
       clear c18
       by_cases c19 : x5_1.length < 8796093022208
       rotate_left
       · rw [if_neg c19] at H
         exact absurd H (by simp)
       rw [if_pos c19] at H
       have LMc19 := aM c19
       clear c19
       obtain ⟨y318, hy318⟩ : ∃ y_ : List ByteArray, y_ = (x5_1 ++ [rdOf ByteArray.empty l0 x7_1]) := ⟨_, rfl⟩
       replace H : (r_Insert.l0 kj3 l0 a1 y318 x6_1 (wrap64 (x7_1 + 1))) = some r := by first | (rw [hy318]; with_reducible exact H) | (have H2_ := (Option.bind_some _ _).symm.trans H; rw [hy318]; with_reducible exact H2_) | (have H2_ := (Option.bind_some _ _).symm.trans H; with_reducible exact H2_) | with_reducible exact H | (rw [hy318]; exact H) | exact H
       have Ny318 := aM hy318
       clear hy318
       have H' := aM H
       clear H
       have p317 : 0 <= (x7_1 : Int) := dt
       have q317 : x7_1 < (l0.length : Int) := dt
       obtain ⟨ad317, e317, hx317_0⟩ := Kd.at_string HR0.1 x7_1 p317 q317
       cases e317
       replace hx317_0 := hx HB hx317_0
       replace p317 := eq_true p317
       replace q317 := eq_true q317
       go_wp2_with (first | ((with_reducible refine gate_builtin (b := .append) (xs := #[.tmp 34, .tmp 39]) rfl ?_); at_builtin; refine R_append Kd.string (w0 := w) w.heap.size rfl (.tmp 34) (.tmp 39) 25 9 (.string ⟨#[]⟩) 16 rfl Try.underlying25 info9 rfl (by decide) (by omega) u5 x5_1 (rdOf ByteArray.empty l0 x7_1) [.string (rdOf ByteArray.empty l0 x7_1)] (fun _ => True) (fun _ => False) rfl rfl ?aP (fun _ hk => hk.elim) ?aF ?aO ?aB ?aS ?aL ?_; (case aP => exact rfl); (case aB => exact (hh HB)); (case aF => exact (fun _ _ => trivial)); (case aO => exact (rk HO_5)); (case aS => exact (below_size (hh HB))); (case aL => have := LMc19.1; omega); intro v319 w20 ho hb hg hat; rw [<- Ny318.1] at ho; have HO320 := aM (ho); replace HB := aM (hb); clear HO_5; clear ho hb hg hat))
       go_roundg kj3
       case measure => have := HK1.1; have := HJ3.1; omega
       case rel => exact ⟨(y318), (x6_1), (wrap64 (x7_1 + 1)), rr, rr, H', ⟨by have := HK1.1; have := HJ3.1; omega⟩, ⟨rk HO320⟩, ⟨hh HB⟩⟩
     subst c7
     rw [if_pos rfl] at H
     by_cases c8 : 0 <= x7_1
     rotate_left
     · rw [if_neg c8] at H
       exact absurd H (by simp)
     rw [if_pos c8] at H
     have c8b0 : decide (0 <= x7_1) = true := decide_eq_true c8
     clear c8
     by_cases c9 : x7_1 < (l0.length : Int)
     rotate_left
     · rw [if_neg c9] at H
       exact absurd H (by simp)
     rw [if_pos c9] at H
     have c9b0 : decide (x7_1 < (l0.length : Int)) = true := decide_eq_true c9
     clear c9
     by_cases c10 : (Op.bytesLess a1.toList ((rdOf ByteArray.empty l0 x7_1).toList)) = true
     rotate_left
     · rw [if_neg c10] at H
       have c10b0 : (Op.bytesLess a1.toList ((rdOf ByteArray.empty l0 x7_1).toList)) = false := by simpa using c10
       clear c10
       by_cases c15 : x5_1.length < 8796093022208
       rotate_left
       · rw [if_neg c15] at H
         exact absurd H (by simp)
       rw [if_pos c15] at H
       have LMc15 := aM c15
       clear c15
       obtain ⟨y314, hy314⟩ : ∃ y_ : List ByteArray, y_ = (x5_1 ++ [rdOf ByteArray.empty l0 x7_1]) := ⟨_, rfl⟩
       replace H : (r_Insert.l0 kj3 l0 a1 y314 true (wrap64 (x7_1 + 1))) = some r := by first | (rw [hy314]; with_reducible exact H) | (have H2_ := (Option.bind_some _ _).symm.trans H; rw [hy314]; with_reducible exact H2_) | (have H2_ := (Option.bind_some _ _).symm.trans H; with_reducible exact H2_) | with_reducible exact H | (rw [hy314]; exact H) | exact H
       have Ny314 := aM hy314
       clear hy314
       have H' := aM H
       clear H
       have p305 : 0 <= (x7_1 : Int) := dt
       have q305 : x7_1 < (l0.length : Int) := dt
       obtain ⟨ad305, e305, hx305_0⟩ := Kd.at_string HR0.1 x7_1 p305 q305
       cases e305
       replace hx305_0 := hx HB hx305_0
       replace p305 := eq_true p305
       replace q305 := eq_true q305
       have p313 : 0 <= (x7_1 : Int) := dt
       have q313 : x7_1 < (l0.length : Int) := dt
       obtain ⟨ad313, e313, hx313_0⟩ := Kd.at_string HR0.1 x7_1 p313 q313
       obtain rfl : ad305 = ad313 := (by injection e313)
       replace hx313_0 := hx HB hx313_0
       replace p313 := eq_true p313
       replace q313 := eq_true q313
       go_wp2_with (first | ((with_reducible refine gate_builtin (b := .append) (xs := #[.tmp 34, .tmp 39]) rfl ?_); at_builtin; refine R_append Kd.string (w0 := w) w.heap.size rfl (.tmp 34) (.tmp 39) 25 9 (.string ⟨#[]⟩) 16 rfl Try.underlying25 info9 rfl (by decide) (by omega) u5 x5_1 (rdOf ByteArray.empty l0 x7_1) [.string (rdOf ByteArray.empty l0 x7_1)] (fun _ => True) (fun _ => False) rfl rfl ?aP (fun _ hk => hk.elim) ?aF ?aO ?aB ?aS ?aL ?_; (case aP => exact rfl); (case aB => exact (hh HB)); (case aF => exact (fun _ _ => trivial)); (case aO => exact (rk HO_5)); (case aS => exact (below_size (hh HB))); (case aL => have := LMc15.1; omega); intro v315 w16 ho hb hg hat; rw [<- Ny314.1] at ho; have HO316 := aM (ho); replace HB := aM (hb); clear HO_5; clear ho hb hg hat))
       go_roundg kj3
       case measure => have := HK1.1; have := HJ3.1; omega
       case rel => exact ⟨(y314), (true), (wrap64 (x7_1 + 1)), rr, rr, H', ⟨by have := HK1.1; have := HJ3.1; omega⟩, ⟨rk HO316⟩, ⟨hh HB⟩⟩
     rw [if_pos c10] at H
     have c10b0 : (Op.bytesLess a1.toList ((rdOf ByteArray.empty l0 x7_1).toList)) = true := c10
     clear c10
     by_cases c11 : x5_1.length < 8796093022208
     rotate_left
     · rw [if_neg c11] at H
       exact absurd H (by simp)
     rw [if_pos c11] at H
     have LMc11 := aM c11
     clear c11
     obtain ⟨y306, hy306⟩ : ∃ y_ : List ByteArray, y_ = (x5_1 ++ [a1]) := ⟨_, rfl⟩
     replace H : (if y306.length < 8796093022208 then (r_Insert.l0 kj3 l0 a1 (y306 ++ [rdOf ByteArray.empty l0 x7_1]) true (wrap64 (x7_1 + 1))) else (none)) = some r := by first | (rw [hy306]; with_reducible exact H) | (have H2_ := (Option.bind_some _ _).symm.trans H; rw [hy306]; with_reducible exact H2_) | (have H2_ := (Option.bind_some _ _).symm.trans H; with_reducible exact H2_) | with_reducible exact H | (rw [hy306]; exact H) | exact H
     have Ny306 := aM hy306
     clear hy306
     by_cases c12 : y306.length < 8796093022208
     rotate_left
     · rw [if_neg c12] at H
       exact absurd H (by simp)
     rw [if_pos c12] at H
     have LMc12 := aM c12
     clear c12
     obtain ⟨y310, hy310⟩ : ∃ y_ : List ByteArray, y_ = (y306 ++ [rdOf ByteArray.empty l0 x7_1]) := ⟨_, rfl⟩
     replace H : (r_Insert.l0 kj3 l0 a1 y310 true (wrap64 (x7_1 + 1))) = some r := by first | (rw [hy310]; with_reducible exact H) | (have H2_ := (Option.bind_some _ _).symm.trans H; rw [hy310]; with_reducible exact H2_) | (have H2_ := (Option.bind_some _ _).symm.trans H; with_reducible exact H2_) | with_reducible exact H | (rw [hy310]; exact H) | exact H
     have Ny310 := aM hy310
     clear hy310
     have H' := aM H
     clear H
     have p305 : 0 <= (x7_1 : Int) := dt
     have q305 : x7_1 < (l0.length : Int) := dt
     obtain ⟨ad305, e305, hx305_0⟩ := Kd.at_string HR0.1 x7_1 p305 q305
     cases e305
     replace hx305_0 := hx HB hx305_0
     replace p305 := eq_true p305
     replace q305 := eq_true q305
     go_wp2_with (first | ((with_reducible refine gate_builtin (b := .append) (xs := #[.tmp 30, .tmp 32]) rfl ?_); at_builtin; refine R_append Kd.string (w0 := w) w.heap.size rfl (.tmp 30) (.tmp 32) 25 9 (.string ⟨#[]⟩) 16 rfl Try.underlying25 info9 rfl (by decide) (by omega) u5 x5_1 a1 [.string a1] (fun _ => True) (fun _ => False) rfl rfl ?aP (fun _ hk => hk.elim) ?aF ?aO ?aB ?aS ?aL ?_; (case aP => exact rfl); (case aB => exact (hh HB)); (case aF => exact (fun _ _ => trivial)); (case aO => exact (rk HO_5)); (case aS => exact (below_size (hh HB))); (case aL => have := LMc11.1; omega); intro v307 w13 ho hb hg hat; rw [<- Ny306.1] at ho; have HO308 := aM (ho); replace HB := aM (hb); clear HO_5; clear ho hb hg hat; have p309 : 0 <= (x7_1 : Int) := dt; have q309 : x7_1 < (l0.length : Int) := dt; obtain ⟨ad309, e309, hx309_0⟩ := Kd.at_string HR0.1 x7_1 p309 q309; obtain rfl : ad305 = ad309 := (by injection e309); replace hx309_0 := hx HB hx309_0; replace p309 := eq_true p309; replace q309 := eq_true q309) | ((with_reducible refine gate_builtin (b := .append) (xs := #[.tmp 34, .tmp 39]) rfl ?_); at_builtin; refine R_append Kd.string (w0 := w) w.heap.size rfl (.tmp 34) (.tmp 39) 25 9 (.string ⟨#[]⟩) 16 rfl Try.underlying25 info9 rfl (by decide) (by omega) v307 y306 (rdOf ByteArray.empty l0 x7_1) [.string (rdOf ByteArray.empty l0 x7_1)] (fun _ => True) (fun _ => False) rfl rfl ?aP (fun _ hk => hk.elim) ?aF ?aO ?aB ?aS ?aL ?_; (case aP => exact rfl); (case aB => exact (hh HB)); (case aF => exact (fun _ _ => trivial)); (case aO => exact (rk HO308)); (case aS => exact (below_size (hh HB))); (case aL => have := LMc12.1; omega); intro v311 w14 ho hb hg hat; rw [<- Ny310.1] at ho; have HO312 := aM (ho); replace HB := aM (hb); clear HO308; clear ho hb hg hat))
     go_roundg kj3
     case measure => have := HK1.1; have := HJ3.1; omega
     case rel => exact ⟨(y310), (true), (wrap64 (x7_1 + 1)), rr, rr, H', ⟨by have := HK1.1; have := HJ3.1; omega⟩, ⟨rk HO312⟩, ⟨hh HB⟩⟩
mutual
noncomputable def r_Imports.l0 : Nat -> List (S42) -> ByteArray -> List ByteArray -> Int -> Option (List ByteArray)
 | 0, _, _, _, _ => none
 | k + 1, x0, x1, x5, x6 => if x6 < (x0.length : Int) then (r_Imports.l1 k x0 x1 x5 x6 0) else (some x5)
noncomputable def r_Imports.l1 : Nat -> List (S42) -> ByteArray -> List ByteArray -> Int -> Int -> Option (List ByteArray)
 | 0, _, _, _, _, _ => none
 | k + 1, x0, x1, x5, x6, x7 => if 0 <= x6 then (if x6 < (x0.length : Int) then (if x7 < (((rd_T42 x0 x6).f3).length : Int) then (if ((rd_T42 x0 x6).f0).toList = x1.toList then (if 0 <= x7 then ((r_Insert.f k x5 ((rd_T66 ((rd_T42 x0 x6).f3) x7).f0)).bind fun t325 => (r_Imports.l1 k x0 x1 t325 x6 (wrap64 (x7 + 1)))) else (none)) else (r_Imports.l0 k x0 x1 x5 (wrap64 (x6 + 1)))) else (r_Imports.l0 k x0 x1 x5 (wrap64 (x6 + 1)))) else (none)) else (none)
end
noncomputable def r_Imports.f (k : Nat) (l0 : List (S42)) (a1 : ByteArray) : Option (List ByteArray) := r_Imports.l0 k l0 a1 ([] : List ByteArray) 0
theorem r_Imports.calls (k : Nat) (A0 : Option Addr) (c0 : Nat) (l0 : List (S42)) (a1 : ByteArray) (r : List ByteArray) (w : World) (hr0 : Kd.C k42 w A0 l0.length l0) (hc0 : l0.length <= c0) (h : r_Imports.f k l0 a1 = some r) :
 Calls Try.prog 22 #[.slice A0 l0.length c0, .string a1] w fun e w' => ∃ v0_ : Value, e = .returned (v0_) /\ Kd.R Kd.string 9 w' w.heap.size (fun _ => True) v0_ r /\ Below w.heap.size w w' := by
 have HR0 := aM hr0
 have HC0 := aM hc0
 clear hr0 hc0
 have HB := aM (Below.refl w.heap.size w)
 have H : (r_Imports.l0 k l0 a1 ([] : List ByteArray) 0) = some r := h
 clear h
 have H' := aM H
 clear H
 go_enter Try.func22, Try.ntmps22
 go_wp2
 go_loopg [5, 6] k (fun kq v5 v6 w' => ∃ (x5_1 : List ByteArray) (x6_1 : Int), v6 = .int .i64 x6_1 /\ Az (r_Imports.l0 kq l0 a1 x5_1 x6_1 = some r) /\ Az (kq <= k) /\ Az (Kd.R Kd.string 9 w' w.heap.size (fun _ => True) v5 x5_1) /\ Az (Below w.heap.size w w'))
 case atStart => exact ⟨(([] : List ByteArray)), (0), rr, H', ⟨Nat.le_refl _⟩, ⟨by first | exact R_nil _ _ _ _ _ | exact N_nil _ _ _ _ _ | exact V_nil _ _ _ _ _ | exact Q_nil _ _ _ _ _ | exact S_nil _ _ _ _ _⟩, ⟨hh HB⟩⟩
 case round =>
  clear H'
  obtain ⟨x5_1, x6_1, rfl, HA, HK1, HO_5, HB⟩ := hrel
  cases gk with
  | zero => exact absurd HA.1 (by simp [r_Imports.l0])
  | succ k1 =>
   have H := HA.1
   clear HA
   simp only [r_Imports.l0] at H
   by_cases c3 : x6_1 < (l0.length : Int)
   rotate_left
   · rw [if_neg c3] at H
     have c3b0 : decide (x6_1 < (l0.length : Int)) = false := decide_eq_false c3
     clear c3
     obtain rfl := Option.some.inj H
     go_wp2
     go_ret
     exact ⟨_, by first | rfl | (simp [errW_none, errW_some] <;> rfl) | (simp [*, errW_none, errW_some] <;> rfl), rk HO_5, hh HB⟩
   rw [if_pos c3] at H
   have c3b0 : decide (x6_1 < (l0.length : Int)) = true := decide_eq_true c3
   clear c3
   have H' := aM H
   clear H
   go_wp2
   go_loopg [5, 7] k1 (fun kq v5 v7 w' => ∃ (x5_2 : List ByteArray) (x7_2 : Int), v7 = .int .i64 x7_2 /\ Az (r_Imports.l1 kq l0 a1 x5_2 x6_1 x7_2 = some r) /\ Az (kq <= k1) /\ Az (Kd.R Kd.string 9 w' w.heap.size (fun _ => True) v5 x5_2) /\ Az (Below w.heap.size w w'))
   case atStart => exact ⟨(x5_1), (0), rr, H', ⟨Nat.le_refl _⟩, ⟨rk HO_5⟩, ⟨hh HB⟩⟩
   case round =>
    clear H'
    clear c3b0
    obtain ⟨x5_2, x7_2, rfl, HA, HK2, HO_5, HB⟩ := hrel
    cases gk with
    | zero => exact absurd HA.1 (by simp [r_Imports.l1])
    | succ k2 =>
     have H := HA.1
     clear HA
     simp only [r_Imports.l1] at H
     by_cases c4 : 0 <= x6_1
     rotate_left
     · rw [if_neg c4] at H
       exact absurd H (by simp)
     rw [if_pos c4] at H
     have c4b0 : decide (0 <= x6_1) = true := decide_eq_true c4
     clear c4
     by_cases c5 : x6_1 < (l0.length : Int)
     rotate_left
     · rw [if_neg c5] at H
       exact absurd H (by simp)
     rw [if_pos c5] at H
     have c5b0 : decide (x6_1 < (l0.length : Int)) = true := decide_eq_true c5
     clear c5
     by_cases c6 : x7_2 < (((rd_T42 l0 x6_1).f3).length : Int)
     rotate_left
     · rw [if_neg c6] at H
       have c6b0 : decide (x7_2 < (((rd_T42 l0 x6_1).f3).length : Int)) = false := decide_eq_false c6
       clear c6
       have H' := aM H
       clear H
       have p321 : 0 <= (x6_1 : Int) := dt
       have q321 : x6_1 < (l0.length : Int) := dt
       obtain ⟨ad321, A321_2, c321_2, A321_3, c321_3, e321, hx321_0, hx321_1, hx321_2, hx321_3, hx321_4, hl321_2, hi321_2, hl321_3, hi321_3⟩ := at_T42 HR0.1 x6_1 p321 q321
       cases e321
       replace hx321_0 := hx HB hx321_0
       replace hx321_1 := hx HB hx321_1
       have hw_ea321_2 := aM hx321_2; replace hx321_2 := hx HB hx321_2
       have hw_ea321_3 := aM hx321_3; replace hx321_3 := hx HB hx321_3
       replace hx321_4 := hx HB hx321_4
       have HR321_2 := aM hi321_2
       have HC321_2 := aM hl321_2
       clear hi321_2 hl321_2
       have HR321_3 := aM hi321_3
       have HC321_3 := aM hl321_3
       clear hi321_3 hl321_3
       replace p321 := eq_true p321
       replace q321 := eq_true q321
       go_wp2
       go_roundg k2
       case measure => have := HK1.1; have := HK2.1; omega
       case rel => exact ⟨(x5_2), (wrap64 (x6_1 + 1)), rr, H', ⟨by have := HK1.1; have := HK2.1; omega⟩, ⟨rk HO_5⟩, ⟨hh HB⟩⟩
     rw [if_pos c6] at H
     have c6b0 : decide (x7_2 < (((rd_T42 l0 x6_1).f3).length : Int)) = true := decide_eq_true c6
     clear c6
     by_cases c7 : ((rd_T42 l0 x6_1).f0).toList = a1.toList
     rotate_left
     · rw [if_neg c7] at H
       have c7b0 : (((rd_T42 l0 x6_1).f0).toList == a1.toList) = false := beq_eq_false_iff_ne.mpr c7
       have c7b1 : (((rd_T42 l0 x6_1).f0).toList != a1.toList) = true := bne_iff_ne.mpr c7
       have H' := aM H
       clear H
       have p321 : 0 <= (x6_1 : Int) := dt
       have q321 : x6_1 < (l0.length : Int) := dt
       obtain ⟨ad321, A321_2, c321_2, A321_3, c321_3, e321, hx321_0, hx321_1, hx321_2, hx321_3, hx321_4, hl321_2, hi321_2, hl321_3, hi321_3⟩ := at_T42 HR0.1 x6_1 p321 q321
       cases e321
       replace hx321_0 := hx HB hx321_0
       replace hx321_1 := hx HB hx321_1
       have hw_ea321_2 := aM hx321_2; replace hx321_2 := hx HB hx321_2
       have hw_ea321_3 := aM hx321_3; replace hx321_3 := hx HB hx321_3
       replace hx321_4 := hx HB hx321_4
       have HR321_2 := aM hi321_2
       have HC321_2 := aM hl321_2
       clear hi321_2 hl321_2
       have HR321_3 := aM hi321_3
       have HC321_3 := aM hl321_3
       clear hi321_3 hl321_3
       replace p321 := eq_true p321
       replace q321 := eq_true q321
       have p322 : 0 <= (x6_1 : Int) := dt
       have q322 : x6_1 < (l0.length : Int) := dt
       obtain ⟨ad322, A322_2, c322_2, A322_3, c322_3, e322, hx322_0, hx322_1, hx322_2, hx322_3, hx322_4, hl322_2, hi322_2, hl322_3, hi322_3⟩ := at_T42 HR0.1 x6_1 p322 q322
       obtain rfl : ad321 = ad322 := (by injection e322)
       replace hx322_0 := hx HB hx322_0
       replace hx322_1 := hx HB hx322_1
       have hw_ea322_2 := aM hx322_2; replace hx322_2 := hx HB hx322_2
       have hw_ea322_3 := aM hx322_3; replace hx322_3 := hx HB hx322_3
       replace hx322_4 := hx HB hx322_4
       have HR322_2 := aM hi322_2
       have HC322_2 := aM hl322_2
       clear hi322_2 hl322_2
       have HR322_3 := aM hi322_3
       have HC322_3 := aM hl322_3
       clear hi322_3 hl322_3
       replace p322 := eq_true p322
       replace q322 := eq_true q322
       have ea_ := Option.some.inj (by first | exact hx321_2.symm.trans hx322_2 | exact hw_ea321_2.1.symm.trans hw_ea322_2.1)
       injection ea_ with ea_ en_ ec_
       subst ea_
       subst ec_
       clear en_
       have ea_ := Option.some.inj (by first | exact hx321_3.symm.trans hx322_3 | exact hw_ea321_3.1.symm.trans hw_ea322_3.1)
       injection ea_ with ea_ en_ ec_
       subst ea_
       subst ec_
       clear en_
       go_wp2
       go_roundg k2
       case measure => have := HK1.1; have := HK2.1; omega
       case rel => exact ⟨(x5_2), (wrap64 (x6_1 + 1)), rr, H', ⟨by have := HK1.1; have := HK2.1; omega⟩, ⟨rk HO_5⟩, ⟨hh HB⟩⟩
     rw [if_pos c7] at H
     have c7b0 : (((rd_T42 l0 x6_1).f0).toList == a1.toList) = true := beq_iff_eq.mpr c7
     have c7b1 : (((rd_T42 l0 x6_1).f0).toList != a1.toList) = false := bne_eq_false_iff_eq.mpr c7
     clear c7
     by_cases c8 : 0 <= x7_2
     rotate_left
     · rw [if_neg c8] at H
       exact absurd H (by simp)
     rw [if_pos c8] at H
     have c8b0 : decide (0 <= x7_2) = true := decide_eq_true c8
     clear c8
     replace H := Option.bind_eq_some_iff.mp H
     obtain ⟨t325, A90, H⟩ := H
     try dsimp only at H
     have A9 := aM A90
     clear A90
     have H' := aM H
     clear H
     have p321 : 0 <= (x6_1 : Int) := dt
     have q321 : x6_1 < (l0.length : Int) := dt
     obtain ⟨ad321, A321_2, c321_2, A321_3, c321_3, e321, hx321_0, hx321_1, hx321_2, hx321_3, hx321_4, hl321_2, hi321_2, hl321_3, hi321_3⟩ := at_T42 HR0.1 x6_1 p321 q321
     cases e321
     replace hx321_0 := hx HB hx321_0
     replace hx321_1 := hx HB hx321_1
     have hw_ea321_2 := aM hx321_2; replace hx321_2 := hx HB hx321_2
     have hw_ea321_3 := aM hx321_3; replace hx321_3 := hx HB hx321_3
     replace hx321_4 := hx HB hx321_4
     have HR321_2 := aM hi321_2
     have HC321_2 := aM hl321_2
     clear hi321_2 hl321_2
     have HR321_3 := aM hi321_3
     have HC321_3 := aM hl321_3
     clear hi321_3 hl321_3
     replace p321 := eq_true p321
     replace q321 := eq_true q321
     have p322 : 0 <= (x6_1 : Int) := dt
     have q322 : x6_1 < (l0.length : Int) := dt
     obtain ⟨ad322, A322_2, c322_2, A322_3, c322_3, e322, hx322_0, hx322_1, hx322_2, hx322_3, hx322_4, hl322_2, hi322_2, hl322_3, hi322_3⟩ := at_T42 HR0.1 x6_1 p322 q322
     obtain rfl : ad321 = ad322 := (by injection e322)
     replace hx322_0 := hx HB hx322_0
     replace hx322_1 := hx HB hx322_1
     have hw_ea322_2 := aM hx322_2; replace hx322_2 := hx HB hx322_2
     have hw_ea322_3 := aM hx322_3; replace hx322_3 := hx HB hx322_3
     replace hx322_4 := hx HB hx322_4
     have HR322_2 := aM hi322_2
     have HC322_2 := aM hl322_2
     clear hi322_2 hl322_2
     have HR322_3 := aM hi322_3
     have HC322_3 := aM hl322_3
     clear hi322_3 hl322_3
     replace p322 := eq_true p322
     replace q322 := eq_true q322
     have ea_ := Option.some.inj (by first | exact hx321_2.symm.trans hx322_2 | exact hw_ea321_2.1.symm.trans hw_ea322_2.1)
     injection ea_ with ea_ en_ ec_
     subst ea_
     subst ec_
     clear en_
     have ea_ := Option.some.inj (by first | exact hx321_3.symm.trans hx322_3 | exact hw_ea321_3.1.symm.trans hw_ea322_3.1)
     injection ea_ with ea_ en_ ec_
     subst ea_
     subst ec_
     clear en_
     have p323 : 0 <= (x6_1 : Int) := dt
     have q323 : x6_1 < (l0.length : Int) := dt
     obtain ⟨ad323, A323_2, c323_2, A323_3, c323_3, e323, hx323_0, hx323_1, hx323_2, hx323_3, hx323_4, hl323_2, hi323_2, hl323_3, hi323_3⟩ := at_T42 HR0.1 x6_1 p323 q323
     obtain rfl : ad321 = ad323 := (by injection e323)
     replace hx323_0 := hx HB hx323_0
     replace hx323_1 := hx HB hx323_1
     have hw_ea323_2 := aM hx323_2; replace hx323_2 := hx HB hx323_2
     have hw_ea323_3 := aM hx323_3; replace hx323_3 := hx HB hx323_3
     replace hx323_4 := hx HB hx323_4
     have HR323_2 := aM hi323_2
     have HC323_2 := aM hl323_2
     clear hi323_2 hl323_2
     have HR323_3 := aM hi323_3
     have HC323_3 := aM hl323_3
     clear hi323_3 hl323_3
     replace p323 := eq_true p323
     replace q323 := eq_true q323
     have ea_ := Option.some.inj (by first | exact hx321_2.symm.trans hx323_2 | exact hw_ea321_2.1.symm.trans hw_ea323_2.1)
     injection ea_ with ea_ en_ ec_
     subst ea_
     subst ec_
     clear en_
     have ea_ := Option.some.inj (by first | exact hx321_3.symm.trans hx323_3 | exact hw_ea321_3.1.symm.trans hw_ea323_3.1)
     injection ea_ with ea_ en_ ec_
     subst ea_
     subst ec_
     clear en_
     have p324 : 0 <= (x7_2 : Int) := dt
     have q324 : x7_2 < (((rd_T42 l0 x6_1).f3).length : Int) := dt
     obtain ⟨ad324, A324_5, c324_5, e324, hx324_0, hx324_1, hx324_2, hx324_3, hx324_4, hx324_5, hl324_5, hi324_5⟩ := at_T66 HR323_3.1 x7_2 p324 q324
     cases e324
     replace hx324_0 := hx HB hx324_0
     replace hx324_1 := hx HB hx324_1
     replace hx324_2 := hx HB hx324_2
     replace hx324_3 := hx HB hx324_3
     replace hx324_4 := hx HB hx324_4
     replace hx324_5 := hx HB hx324_5
     have HR324_5 := aM hi324_5
     have HC324_5 := aM hl324_5
     clear hi324_5 hl324_5
     replace p324 := eq_true p324
     replace q324 := eq_true q324
     obtain ⟨Ao10, co10, eo10⟩ := R_slice HO_5.1
     subst eo10
     go_wp2_with (first | ((with_reducible refine gate_callee (f := 38) rfl ?_); refine gL (some 43) rfl rfl Try.func38 (by kernel_rfl) rfl #[.slice Ao10 x5_2.length co10, .string ((rd_T66 ((rd_T42 l0 x6_1).f3) x7_2).f0)] rfl ?_; (with_reducible refine (r_Insert.calls k2 _ _ x5_2 ((rd_T66 ((rd_T42 l0 x6_1).f3) x7_2).f0) t325 _ ?side1 ?side2 A9.1).mono ?_); (case side1 => exact cr HO_5); (case side2 => exact (R_reads' HO_5.1).2.1); rintro e w11 ⟨v326, rfl, ho0, hb⟩; refine ⟨_, rfl, ?_⟩; have HO327 := aM (R_lower (R_new' ho0 (R_lt (rk HO_5))) (below_size (hh HB))); replace HO_5 := aM (R_elder' (rk HO_5) (R_base ho0) hb); replace HB := bs HB hb; clear hb ho0))
     go_roundg k2
     case measure => have := HK1.1; have := HK2.1; omega
     case rel => exact ⟨(t325), (wrap64 (x7_2 + 1)), rr, H', ⟨by have := HK1.1; have := HK2.1; omega⟩, ⟨rz (R_mono HO327.1 (fun _ hk => trivial))⟩, ⟨hh HB⟩⟩
noncomputable def r_Names.l0 : Nat -> List (S42) -> List ByteArray -> Int -> Option (List ByteArray)
 | 0, _, _, _ => none
 | k + 1, x0, x3, x4 => if x4 < (x0.length : Int) then (if 0 <= x4 then ((r_Insert.f k x3 ((rd_T42 x0 x4).f0)).bind fun t329 => (r_Names.l0 k x0 t329 (wrap64 (x4 + 1)))) else (none)) else (some x3)
noncomputable def r_Names.f (k : Nat) (l0 : List (S42)) : Option (List ByteArray) := r_Names.l0 k l0 ([] : List ByteArray) 0
end Go.Proofs.Ytmadhaccjmakdaa.P
namespace Go.Proofs.Ytmadhaccjmakdaa
open Go.RowKit Go.Maps Go.Sort Go.Proofs.Yw.A Go.Proofs.Yw.B Go.Proofs.Yw.C
open P
namespace Mg
theorem asc_of {S ss : List (List UInt8)} (h : Elems S ss) (h1 : ss.Pairwise (fun a b => leB a b = true)) : asc S = ss := by
 rw [<- Elems.asc h]
 exact List.mergeSort_of_pairwise h1
theorem asc_self {S : List (List UInt8)} (hn : S.Nodup) (h1 : S.Pairwise (fun a b => leB a b = true)) : asc S = S :=
 asc_of ⟨hn, fun x => by simp⟩ h1
theorem asc_elems (S : List (List UInt8)) : Elems S (asc S) := by
 have h := dd_elems S
 have hp := List.mergeSort_perm (dd S) leB
 exact ⟨hp.symm.nodup h.nodup, fun x => (hp.mem_iff).trans (h.mem x)⟩
theorem mem_asc {S : List (List UInt8)} {x : List UInt8} : x ∈ asc S ↔ x ∈ S := by
 rw [(asc_elems S).mem x]; simp
theorem asc_pair (S : List (List UInt8)) : (asc S).Pairwise (fun a b => a <= b) := leB_pair (dd S)
theorem twice_of : ∀ (l : List S42) (seen : List (List UInt8)), (seen ++ l.map nm).Nodup -> twice l seen = none := by
 intro l
 induction l with
 | nil => intro _ _; rfl
 | cons m l ih =>
  intro seen h
  unfold twice
  have hm : ¬ seen.contains (nm m) = true := by
   intro hc
   have hc2 := List.contains_iff_mem.1 hc
   rw [List.nodup_append] at h
   exact h.2.2 _ hc2 _ (by simp) rfl
  rw [if_neg hm]
  exact ih _ (by simpa using h)
theorem missI_of (K : List (List UInt8)) : ∀ l : List S66, (∀ i ∈ l, im i ∈ K) -> missI K l = none := by
 intro l
 induction l with
 | nil => intro _; rfl
 | cons i l ih =>
  intro h
  unfold missI
  rw [if_pos (List.contains_iff_mem.2 (h i List.mem_cons_self))]
  exact ih (fun j hj => h j (List.mem_cons_of_mem _ hj))
theorem miss_of (K : List (List UInt8)) : ∀ l : List S42, (∀ m ∈ l, ∀ i ∈ m.f3, im i ∈ K) -> miss K l = none := by
 intro l
 induction l with
 | nil => intro _; rfl
 | cons m l ih =>
  intro h
  unfold miss
  rw [missI_of K m.f3 (h m List.mem_cons_self)]
  exact ih (fun j hj => h j (List.mem_cons_of_mem _ hj))
def key (m : S42) : List UInt8 × List (List UInt8) := (nm m, m.f3.map im)
theorem impsL_key (l : List S42) (n : List UInt8) : impsL l n = (((l.map key).find? (fun p => p.1 == n)).map (·.2)).getD [] := by
 unfold impsL
 induction l with
 | nil => rfl
 | cons m l ih =>
  by_cases hm : (nm m == n) = true
  · rw [List.map_cons, List.find?_cons_of_pos (by exact hm), List.find?_cons_of_pos (by exact hm)]
    rfl
  rw [List.map_cons, List.find?_cons_of_neg (by exact hm), List.find?_cons_of_neg (by exact hm)]
  exact ih
theorem nm_key (l : List S42) : l.map nm = (l.map key).map (·.1) := by rw [List.map_map]; rfl
theorem size_dat (x : ByteArray) : x.size = x.data.toList.length := by cases x; rfl
theorem okSizes_key {l : List S42} (h : ∀ p ∈ l.map key, p.1.length <= 1000 /\ p.2.length <= 100000 /\ ∀ x ∈ p.2, x.length <= 1000) : okSizes l := by
 intro m hm
 obtain ⟨h1, h2, h3⟩ := h _ (List.mem_map.2 ⟨m, hm, rfl⟩)
 have h1' : m.f0.data.toList.length <= 1000 := h1
 have h2' : (m.f3.map im).length <= 100000 := h2
 rw [List.length_map] at h2'
 refine ⟨by rw [size_dat]; unfold maxLen; omega, h2', fun i hi => ?_⟩
 have h4 : i.f0.data.toList.length <= 1000 := h3 (im i) (List.mem_map.2 ⟨i, hi, rfl⟩)
 rw [size_dat]; unfold maxLen; omega
theorem made_good {l : List S42} (hl : ¬ (l.length : Int) > 32) (hs : okSizes l) (hn : (l.map nm).Nodup) (hi : ∀ m ∈ l, ∀ i ∈ m.f3, im i ∈ l.map nm) : m_made.f l = some (namesOf l, edgesOf l, 0, ⟨#[]⟩, 0, 0) := by
 unfold m_made.f
 rw [if_neg hl, if_pos hs, twice_of l [] (by simpa using hn)]
 simp only []
 rw [miss_of _ l hi]
def namesK (P : List (List UInt8 × List (List UInt8))) : List ByteArray := (asc (P.map (·.1))).map bz
def edgesK (P : List (List UInt8 × List (List UInt8))) : List (List Int) := (asc (P.map (·.1))).map (fun n => (asc (((P.find? (fun p => p.1 == n)).map (·.2)).getD [])).map (fun y => (rank (asc (P.map (·.1))) y : Int)))
theorem namesOf_key (l : List S42) : namesOf l = namesK (l.map key) := by unfold namesOf namesK; rw [nm_key]
theorem edgesOf_key (l : List S42) : edgesOf l = edgesK (l.map key) := by
 unfold edgesOf edgesK edgeOf
 rw [nm_key]
 simp only [impsL_key]
theorem made_key {l : List S42} (hl : (l.map key).length <= 32) (hs : ∀ p ∈ l.map key, p.1.length <= 1000 /\ p.2.length <= 100000 /\ ∀ x ∈ p.2, x.length <= 1000) (hn : ((l.map key).map (·.1)).Nodup) (hi : ∀ p ∈ l.map key, ∀ x ∈ p.2, x ∈ (l.map key).map (·.1)) :
 m_made.f l = some (namesK (l.map key), edgesK (l.map key), 0, ⟨#[]⟩, 0, 0) := by
 rw [<- namesOf_key, <- edgesOf_key]
 rw [List.length_map] at hl
 refine made_good (by omega) (okSizes_key hs) (by rw [nm_key]; exact hn) (fun m hm i hm2 => ?_)
 rw [nm_key]
 exact hi (key m) (List.mem_map.2 ⟨m, hm, rfl⟩) (im i) (List.mem_map.2 ⟨i, hm2, rfl⟩)
theorem made_abc {l : List S42} (h : l.map key = [([65], [[66]]), ([66], []), ([67], [])]) : m_made.f l = some ([bz [65], bz [66], bz [67]], [[1], [], []], 0, ⟨#[]⟩, 0, 0) := by
 have e := made_key (l := l) (by rw [h]; decide) (by rw [h]; decide) (by rw [h]; decide) (by rw [h]; decide)
 rw [e, h]
 have a1 : asc [[65], [66], [67]] = [[65], [66], [67]] := asc_self (by decide) (by decide)
 have a2 : asc [[66]] = [[66]] := asc_self (by decide) (by decide)
 have a3 : asc ([] : List (List UInt8)) = [] := asc_self (by decide) (by decide)
 unfold namesK edgesK
 simp only [List.map_cons, List.map_nil]
 rw [a1]
 simp [List.find?, a2, a3, rank]
 decide
theorem made_cyc {l : List S42} (h : l.map key = [([65], [[66]]), ([66], [[65], [67]]), ([67], [[66]])]) : m_made.f l = some ([bz [65], bz [66], bz [67]], [[1], [0, 2], [1]], 0, ⟨#[]⟩, 0, 0) := by
 have e := made_key (l := l) (by rw [h]; decide) (by rw [h]; decide) (by rw [h]; decide) (by rw [h]; decide)
 rw [e, h]
 have a1 : asc [[65], [66], [67]] = [[65], [66], [67]] := asc_self (by decide) (by decide)
 have a2 : asc [[66]] = [[66]] := asc_self (by decide) (by decide)
 have a3 : asc [[65], [67]] = [[65], [67]] := asc_self (by decide) (by decide)
 unfold namesK edgesK
 simp only [List.map_cons, List.map_nil]
 rw [a1]
 simp [List.find?, a2, a3, rank]
 decide
end Mg
end Go.Proofs.Ytmadhaccjmakdaa
namespace Go.Proofs.Ytmadhaccjmakdaa
open Go.RowKit Go.Proofs.Yw.A Go.Proofs.Yw.B Go.Proofs.Yw.C Go.Proofs.Ytmadhaccjmakdaa.P
namespace Lv
open Tj Rw Od
def lv1 : Nat -> Int -> List Int -> Int -> List Int -> Option (List Int)
 | 0, _, _, _, _ => none
 | k + 1, v, l, i, lv =>
  if i < l.length then
   if 0 <= rd l i /\ rd l i < lv.length then lv1 k v l (i + 1) (lv.set v.toNat (max (rd lv v) (wrap64 (rd lv (rd l i) + 1)))) else none
  else some lv
def lv0 : Nat -> List (List Int) -> List (List Int) -> Int -> List Int -> Int -> Option (Option (List Int × Int))
 | 0, _, _, _, _, _ => none
 | k + 1, es, comps, i, lv, top =>
  if i < comps.length then
   if 0 < (row comps i).length /\ 0 <= rd (row comps i) 0 /\ rd (row comps i) 0 < es.length then
    if 1 < (row comps i).length \/ (row es (rd (row comps i) 0)).contains (rd (row comps i) 0) = true then some none
    else (lv1 k (rd (row comps i) 0) (row es (rd (row comps i) 0)) 0 lv).bind fun lv2 => lv0 k es comps (i + 1) lv2 (max top (rd lv2 (rd (row comps i) 0)))
   else none
  else some (some (lv, top))
def lv3 : Nat -> List Int -> Int -> List (List Int) -> Option (List (List Int))
 | 0, _, _, _ => none
 | k + 1, lv, i, out =>
  if i < lv.length then
   if 0 <= rd lv i /\ rd lv i < out.length /\ (row out (rd lv i)).length < 17592186044415 then lv3 k lv (i + 1) (app out (rd lv i) i) else none
  else some out
noncomputable def levelsF (k : Nat) (es : List (List Int)) : Option (List (List Int) × Int) :=
 (g_valid.f k es).bind fun b =>
  if b = true then
   (g_ordered.f es).bind fun comps =>
    if es.length < 17592186044416 then
     (lv0 k es comps 0 (List.replicate es.length 0) (-1)).bind fun o =>
      match o with
      | none => some ([], 18)
      | some (lv, top) => if 0 <= wrap64 (top + 1) /\ wrap64 (top + 1) < 5864062014805 then (lv3 k lv 0 (List.replicate (wrap64 (top + 1)).toNat [])).map fun out => (out, 0) else none
    else none
  else some ([], 1)
end Lv
end Go.Proofs.Ytmadhaccjmakdaa
namespace Go.Proofs.Ytmadhaccjmakdaa.P
open Go.RowKit Go.Proofs.Yw.A Go.Proofs.Yw.A.Kd Go.Proofs.Yw.B Go.Proofs.Yw.C
attribute [local go_sem] str_gtr str_leq str_geq max2_int min2_int max_two min_two max_three min_three max_four min_four
noncomputable def slices_Index_int_int.l0 : Nat -> List Int -> Int -> Int -> Int -> Option (Int)
 | 0, _, _, _, _ => none
 | k + 1, x0, x1, x7, x8 => if x8 < x7 then (if 0 <= x8 then (if x8 < (x0.length : Int) then (if x1 = (rd x0 x8) then (some x8) else (slices_Index_int_int.l0 k x0 x1 x7 (wrap64 (x8 + 1)))) else (none)) else (none)) else (some (-1))
noncomputable def slices_Index_int_int.f (k : Nat) (l0 : List Int) (a1 : Int) : Option (Int) := slices_Index_int_int.l0 k l0 a1 (l0.length : Int) 0
theorem slices_Index_int_int.calls (k : Nat) (A0 : Option Addr) (c0 : Nat) (l0 : List Int) (a1 : Int) (r : Int) (w : World) (hr0 : Kd.C (Kd.int .i64) w A0 l0.length l0) (hc0 : l0.length <= c0) (h : slices_Index_int_int.f k l0 a1 = some r) :
 Calls Try.prog 55 #[.slice A0 l0.length c0, .int .i64 a1] w fun e w' => e = .returned (.int .i64 r) /\ Drawn0 w w' := by
 have HR0 := aM hr0
 have HC0 := aM hc0
 clear hr0 hc0
 have H : (slices_Index_int_int.l0 k l0 a1 (l0.length : Int) 0) = some r := h
 clear h
 have H' := aM H
 clear H
 go_enter Try.func55, Try.ntmps55
 go_wp2
 go_loopg [8] k (fun kq v8 w' => ∃ (x8_1 : Int), v8 = .int .i64 x8_1 /\ Az (slices_Index_int_int.l0 kq l0 a1 (l0.length : Int) x8_1 = some r) /\ Az (kq <= k) /\ Drawn0 w w')
 case atStart => exact ⟨(0), rr, H', ⟨Nat.le_refl _⟩, by repeat (first | exact Drawn0.refl _ | apply Drawn0.step)⟩
 case round =>
  clear H'
  obtain ⟨x8_1, rfl, HA, HK1, ⟨m1, rfl⟩⟩ := hrel
  cases gk with
  | zero => exact absurd HA.1 (by simp [slices_Index_int_int.l0])
  | succ k1 =>
   have H := HA.1
   clear HA
   simp only [slices_Index_int_int.l0] at H
   by_cases c3 : x8_1 < (l0.length : Int)
   rotate_left
   · rw [if_neg c3] at H
     have c3b0 : decide (x8_1 < (l0.length : Int)) = false := decide_eq_false c3
     clear c3
     obtain rfl := Option.some.inj H
     go_wp2
     go_ret
     exact ⟨by first | rfl | (simp; done) | (simp [*]; done), by repeat (first | exact Drawn0.refl _ | apply Drawn0.step)⟩
   rw [if_pos c3] at H
   have c3b0 : decide (x8_1 < (l0.length : Int)) = true := decide_eq_true c3
   clear c3
   by_cases c4 : 0 <= x8_1
   rotate_left
   · rw [if_neg c4] at H
     exact absurd H (by simp)
   rw [if_pos c4] at H
   have c4b0 : decide (0 <= x8_1) = true := decide_eq_true c4
   clear c4
   by_cases c5 : x8_1 < (l0.length : Int)
   rotate_left
   · rw [if_neg c5] at H
     exact absurd H (by simp)
   rw [if_pos c5] at H
   have c5b0 : decide (x8_1 < (l0.length : Int)) = true := decide_eq_true c5
   clear c5
   by_cases c6 : a1 = (rd l0 x8_1)
   · rw [if_pos c6] at H
     have c6b0 : (a1 == (rd l0 x8_1)) = true := beq_iff_eq.mpr c6
     have c6b1 : (a1 != (rd l0 x8_1)) = false := bne_eq_false_iff_eq.mpr c6
     clear c6
     obtain rfl := Option.some.inj H
     have p200 : 0 <= (x8_1 : Int) := dt
     have q200 : x8_1 < (l0.length : Int) := dt
     obtain ⟨ad200, e200, hx200_0⟩ := Kd.at_int HR0.1 x8_1 p200 q200
     cases e200
     replace p200 := eq_true p200
     replace q200 := eq_true q200
     go_wp2
     go_ret
     exact ⟨by first | rfl | (simp; done) | (simp [*]; done), by repeat (first | exact Drawn0.refl _ | apply Drawn0.step)⟩
   rw [if_neg c6] at H
   have c6b0 : (a1 == (rd l0 x8_1)) = false := beq_eq_false_iff_ne.mpr c6
   have c6b1 : (a1 != (rd l0 x8_1)) = true := bne_iff_ne.mpr c6
   have H' := aM H
   clear H
   have p200 : 0 <= (x8_1 : Int) := dt
   have q200 : x8_1 < (l0.length : Int) := dt
   obtain ⟨ad200, e200, hx200_0⟩ := Kd.at_int HR0.1 x8_1 p200 q200
   cases e200
   replace p200 := eq_true p200
   replace q200 := eq_true q200
   go_wp2
   go_roundg k1
   case measure => have := HK1.1; omega
   case rel => exact ⟨(wrap64 (x8_1 + 1)), rr, H', ⟨by have := HK1.1; omega⟩, by repeat (first | exact Drawn0.refl _ | apply Drawn0.step)⟩
noncomputable def slices_Contains_int_int.f (k : Nat) (l0 : List Int) (a1 : Int) : Option (Bool) := (slices_Index_int_int.f k l0 a1).bind fun t201 => (some (decide (t201 >= 0)))
theorem slices_Contains_int_int.calls (k : Nat) (A0 : Option Addr) (c0 : Nat) (l0 : List Int) (a1 : Int) (r : Bool) (w : World) (hr0 : Kd.C (Kd.int .i64) w A0 l0.length l0) (hc0 : l0.length <= c0) (h : slices_Contains_int_int.f k l0 a1 = some r) :
 Calls Try.prog 41 #[.slice A0 l0.length c0, .int .i64 a1] w fun e w' => e = .returned (.bool r) /\ Drawn0 w w' := by
 have HR0 := aM hr0
 have HC0 := aM hc0
 clear hr0 hc0
 have H : ((slices_Index_int_int.f k l0 a1).bind fun t201 => (some (decide (t201 >= 0)))) = some r := h
 clear h
 replace H := Option.bind_eq_some_iff.mp H
 obtain ⟨t201, A30, H⟩ := H
 try dsimp only at H
 have A3 := aM A30
 clear A30
 obtain rfl := Option.some.inj H
 go_enter Try.func41, Try.ntmps41
 go_wp2_with (first | ((with_reducible refine gate_callee (f := 55) rfl ?_); refine gL (some 7) rfl rfl Try.func55 (by kernel_rfl) rfl #[.slice A0 l0.length c0, .int .i64 a1] rfl ?_; (with_reducible refine (slices_Index_int_int.calls k _ _ l0 a1 t201 _ ?side1 ?side2 A3.1).mono ?_); (case side1 => exact ck HR0); (case side2 => exact HC0.1); rintro e w' ⟨rfl, ⟨nd, rfl⟩⟩; refine ⟨_, rfl, ?_⟩))
 go_ret
 exact ⟨by first | rfl | (simp; done) | (simp [*]; done), by repeat (first | exact Drawn0.refl _ | apply Drawn0.step)⟩
end Go.Proofs.Ytmadhaccjmakdaa.P
namespace Go.Proofs.Ytmadhaccjmakdaa
open Go.RowKit Go.Proofs.Yw.A Go.Proofs.Yw.B Go.Proofs.Yw.C Go.Proofs.Ytmadhaccjmakdaa.P
namespace Lv
open Tj Rw Od
theorem wrap_small (x : Int) (h0 : -9223372036854775808 <= x) (h1 : x < 9223372036854775808) : wrap64 x = x := by
 unfold wrap64
 omega
theorem index_run (l : List Int) (a : Int) (hl : l.length <= 9223372036854775807) : ∀ (m : Nat) (i : Nat), i + m = l.length -> (l.take i).contains a = false -> ∃ r : Int, slices_Index_int_int.l0 (m + 1) l a l.length i = some r /\ (decide (r >= 0)) = l.contains a := by
 intro m
 induction m with
 | zero =>
  intro i hi hc
  have : i = l.length := by omega
  subst this
  rw [List.take_length] at hc
  refine ⟨-1, ?_, by rw [hc]; decide⟩
  unfold slices_Index_int_int.l0
  rw [if_neg (by omega)]
 | succ m ih =>
  intro i hi hc
  unfold slices_Index_int_int.l0
  rw [if_pos (by omega), if_pos (by omega), if_pos (by omega)]
  have hil : i < l.length := by omega
  have hrd : rd l (i : Int) = l[i] := by
   show l.getD (i : Int).toNat 0 = l[i]
   rw [Int.toNat_natCast, List.getD_eq_getElem?_getD, List.getElem?_eq_getElem hil]
   rfl
  rw [hrd]
  by_cases he : a = l[i]
  · rw [if_pos he]
    refine ⟨i, rfl, ?_⟩
    have h1 : l.contains a = true := by
     rw [List.contains_iff_mem, he]
     exact List.getElem_mem hil
    rw [h1]
    exact decide_eq_true (by omega)
  rw [if_neg he]
  have hw : wrap64 ((i : Int) + 1) = ((i + 1 : Nat) : Int) := by
   rw [wrap_small _ (by omega) (by omega)]
   omega
  rw [hw]
  refine ih (i + 1) (by omega) ?_
  rw [List.take_succ_eq_append_getElem hil, List.contains_append, hc]
  simp [he]
theorem contains_run (l : List Int) (a : Int) (hl : l.length <= 9223372036854775807) : slices_Contains_int_int.f (l.length + 1) l a = some (l.contains a) := by
 obtain ⟨r, h1, h2⟩ := index_run l a hl l.length 0 (by omega) rfl
 unfold slices_Contains_int_int.f slices_Index_int_int.f
 rw [show ((0 : Int)) = ((0 : Nat) : Int) from rfl, h1]
 show some (decide (r >= 0)) = _
 rw [h2]
theorem levels_calls (k : Nat) (A : Option Addr) (c : Nat) (es : List (List Int)) (r1 : List (List Int)) (r2 : Int) (w : World) (hr : Kd.C KS w A es.length es) (hc : es.length <= c) (h : levelsF k es = some (r1, r2)) :
 Calls Try.prog 30 #[.agg #[.slice A es.length c]] w fun e w' => ∃ v, e = .returned (.tuple #[v, .int .i64 r2]) /\ Kd.S KS 55 w' w.heap.size (fun _ => True) v r1 /\ Below w.heap.size w w' := by
 have hu24 := Try.underlying49
 unfold levelsF at h
 obtain ⟨b, hb, h⟩ := Option.bind_eq_some_iff.1 h
 have HR := Az.mk hr
 have HC := Az.mk hc
 clear hr hc
 cases b with
 | false =>
  have HVA := Az.mk hb
  rw [if_neg (by decide)] at h
  obtain ⟨rfl, rfl⟩ := Prod.mk.inj (Option.some.inj h)
  clear hb h
  go_enter Try.func30, Try.ntmps30
  go_wp2_with (first | ((with_reducible refine gate_dst (N := 1) rfl ?_); refine box_event ?hg (N := 1) ?hd (cs := #[.slice A es.length c]) (t := 49) ?hr ?_; (case hd => rfl); (case hg => rfl); (case hr => first | (go_simp; done) | (go_simp; rfl)); intro gb hg w5 hbox hb; have B5 := Az.mk (below_step (Below.refl w.heap.size w) hb); have K5 := Az.mk hbox; have GE : Az (w.heap.size <= gb) := Az.mk (by rw [hg]; exact Nat.le_refl _); have hcz : w5.cell? ⟨gb, 0, none⟩ = some (.slice A es.length c) := (blk_cell K5.1 0).trans rfl; clear hb hbox hg) | (go_at_call 39; refine (g_valid.calls k A c es false _ (Kd.C_below HR.1 B5.1) HC.1 HVA.1).mono ?_; rintro e w7 ⟨rfl, hb7⟩; have B7 := Az.mk (below_step B5.1 hb7); have K7 := Az.mk (blk_below K5.1 hb7); clear hb7 hcz B5 K5; have hcz : w7.cell? ⟨gb, 0, none⟩ = some (.slice A es.length c) := (blk_cell K7.1 0).trans rfl) | fail)
  go_ret2
  exact ⟨_, rfl, Kd.S_nil _ _ _ _ _, B7.1⟩
 | true =>
  have HVA := Az.mk hb
  rw [if_pos rfl] at h
  obtain ⟨comps, ho, h⟩ := Option.bind_eq_some_iff.1 h
  have HO := Az.mk ho
  by_cases hL : es.length < 17592186044416
  case neg => rw [if_neg hL] at h; cases h
  rw [if_pos hL] at h
  obtain ⟨o, hlv, h⟩ := Option.bind_eq_some_iff.1 h
  have HLV := Az.mk hlv
  have HH := Az.mk h
  have HLL := Az.mk hL
  clear hb ho h hlv hL
  go_enter Try.func30, Try.ntmps30
  go_upto_region 4 with (first | ((with_reducible refine gate_dst (N := 1) rfl ?_); refine box_event ?hg (N := 1) ?hd (cs := #[.slice A es.length c]) (t := 49) ?hr ?_; (case hd => rfl); (case hg => rfl); (case hr => first | (go_simp; done) | (go_simp; rfl)); intro gb hg w5 hbox hb; have B5 := Az.mk (below_step (Below.refl w.heap.size w) hb); have K5 := Az.mk hbox; have GE : Az (w.heap.size <= gb) := Az.mk (by rw [hg]; exact Nat.le_refl _); have hcz : w5.cell? ⟨gb, 0, none⟩ = some (.slice A es.length c) := (blk_cell K5.1 0).trans rfl; clear hb hbox hg) | (go_at_call 39; refine (g_valid.calls k A c es true _ (Kd.C_below HR.1 B5.1) HC.1 HVA.1).mono ?_; rintro e w7 ⟨rfl, hb7⟩; have B7 := Az.mk (below_step B5.1 hb7); have K7 := Az.mk (blk_below K5.1 hb7); clear hb7 hcz B5 K5; have hcz : w7.cell? ⟨gb, 0, none⟩ = some (.slice A es.length c) := (blk_cell K7.1 0).trans rfl) | (go_at_call 40; refine (g_ordered.calls A c es comps _ (Kd.C_below HR.1 B7.1) HC.1 HO.1).mono ?_; rintro e w9 ⟨vc, rfl, hV, hb9⟩; obtain ⟨Ac, cc, rfl, hlc, hF⟩ := hV; have V9 := Az.mk (Kd.F_bound hF); have B9 := Az.mk (below_step B7.1 hb9); have K9 := Az.mk (blk_below K7.1 hb9); have S7 := Az.mk (B7.1.size); have LC := Az.mk (Kd.F_max hF); clear hF hb9 hcz B7 K7 hlc; have hcz : w9.cell? ⟨gb, 0, none⟩ = some (.slice A es.length c) := (blk_cell K9.1 0).trans rfl) | fail)
  obtain ⟨i0, e0, e1, e2, e3⟩ := info_parts info3
  have hll := HLL.1
  have hmk := run_make w9 55 3 i0 _ Try.underlying55 e0 e1 .i64 .i64 es.length es.length (by omega) (by omega) (by rw [e3]; omega) (by omega)
  rw [Int.toNat_natCast, e2, Nat.mul_one] at hmk
  have hz0 : (Value.int .i64 0).cells = #[.int .i64 0] := rfl
  rw [hz0] at hmk
  clear e0 e1 e2 e3 hz0
  go_upto_region 6 with fail
  have hb0 := B9.1.size
  have O3 := Az.mk (arr_made (blk_new w9 (.cells (madeCells #[.int .i64 0] es.length) 3)))
  have B3 := Az.mk (below_alloc B9.1 (.cells (madeCells #[.int .i64 0] es.length) 3))
  have K3 := Az.mk (blk_alloc K9.1 (.cells (madeCells #[.int .i64 0] es.length) 3))
  have F3 := Az.mk (Kd.F_alloc V9.1 (.cells (madeCells #[.int .i64 0] es.length) 3))
  have HGA : Az (w.heap.size <= w9.heap.size /\ gb < w9.heap.size) := ⟨hb0, blk_lt K9.1⟩
  clear hmk B9 K9 V9 hb0 hcz
  generalize w9.alloc (.cells (madeCells #[.int .i64 0] es.length) 3) = w10 at O3 B3 K3 F3 ⊢
  generalize w9.heap.size = ga at O3 B3 K3 F3 HGA ⊢
  have hlc := LC.1
  have hll2 : Az ((List.replicate es.length (0 : Int)).length = es.length) := ⟨by simp⟩
  go_wp2_with fail
  go_loopg [6, 27] k (fun kq v6 v27 w' => ∃ (i top : Int) (lv : List Int), v27 = .int .i64 i /\ v6 = .int .i64 top /\ Az (0 <= i) /\ Az (lv.length = es.length) /\ Az (lv0 kq es comps i lv top = some o) /\ Az (kq <= k) /\ Az (Below w.heap.size w w') /\ Az (w'.heap[gb]? = some (.cells #[.slice A es.length c] 49 (0, 0))) /\ Az (w'.heap[ga]? = some (arr lv)) /\ Az (Kd.F KS w' (fun k => w7.heap.size <= k /\ k < ga) Ac comps.length comps))
  case atStart => exact ⟨0, -1, _, rfl, rfl, ⟨by omega⟩, hll2, HLV, ⟨Nat.le_refl _⟩, B3, K3, O3, F3⟩
  case round => as_aux_lemma =>
   clear HLV B3 K3 O3 F3 hll2
   obtain ⟨i, top, lv, rfl, rfl, HI, HLEN, HA, HK1, B3, K3, O3, F3⟩ := hrel
   cases gk with
   | zero => exact absurd HA.1 (by simp [lv0])
   | succ k1 =>
    have H := HA.1
    clear HA
    rw [lv0] at H
    by_cases ci : i < comps.length
    rotate_left
    · as_aux_lemma =>
      rw [if_neg ci] at H
      obtain rfl := Option.some.inj H
      have cb : decide (i < (comps.length : Int)) = false := decide_eq_false ci
      clear H
      by_cases ct : 0 <= wrap64 (top + 1) /\ wrap64 (top + 1) < 5864062014805
      case neg => have := HH.1; simp only at this; rw [if_neg ct] at this; cases this
      have HH1 := HH.1
      simp only at HH1
      rw [if_pos ct] at HH1
      obtain ⟨out0, h3, h4⟩ := Option.map_eq_some_iff.1 HH1
      obtain ⟨rfl, rfl⟩ := Prod.mk.inj h4
      have H3 := Az.mk h3
      obtain ⟨ct0, ct1⟩ := ct
      obtain ⟨n, hn⟩ := Int.eq_ofNat_of_zero_le ct0
      rw [hn] at ct1
      rw [hn, Int.toNat_natCast] at H3
      have HN := Az.mk hn
      clear HH HH1 h3 h4 ct0 hn
      go_upto_region 19 with fail
      have hn := HN.1
      obtain ⟨i0, e0, e1, e2, e3⟩ := info_parts info55
      have hmk := run_make wr 47 55 i0 _ Try.underlying47 e0 e1 .i64 .i64 n n (by omega) (by omega) (by rw [e3]; omega) (by omega)
      rw [Int.toNat_natCast, e2, Nat.mul_one] at hmk
      have hz0 : (Value.slice none 0 0).cells = #[.slice none 0 0] := rfl
      rw [hz0] at hmk
      clear e0 e1 e2 e3 hz0
      go_upto_region 20 with fail
      obtain ⟨W3, rfl⟩ : ∃ W3 : World, W3 = wr := ⟨_, rfl⟩
      have O6 := Az.mk (show (W3.alloc (.cells (madeCells #[.slice none 0 0] n) 55)).heap[ga]? = some (arr lv) from blk_alloc O3.1 (.cells (madeCells #[.slice none 0 0] n) 55))
      have B6 := Az.mk (below_alloc B3.1 (.cells (madeCells #[.slice none 0 0] n) 55))
      have hbs := B3.1.size
      have S6 := Az.mk (S_made (base := w.heap.size) (ok := fun k => W3.heap.size <= k) (blk_new W3 (.cells (madeCells #[.slice none 0 0] n) 55)) hbs (by unfold maxLen; omega) (Nat.le_refl _))
      have HGO : Az (w.heap.size <= W3.heap.size /\ ga < W3.heap.size) := ⟨hbs, blk_lt O3.1⟩
      have hll2 : Az ((List.replicate n ([] : List Int)).length = n) := ⟨by simp⟩
      have HLE : Az (lv.length <= 9223372036854775807) := ⟨by have := HLL.1; rw [HLEN.1]; omega⟩
      clear hmk hn hbs K3 O3 B3 F3
      generalize W3.alloc (.cells (madeCells #[.slice none 0 0] n) 55) = W4 at O6 B6 S6 ⊢
      generalize W3.heap.size = go at S6 HGO ⊢
      have hle := HLE.1
      have hel := HLEN.1
      go_wp2_with fail
      go_loopg [82] k (fun kq v82 w' => ∃ (j : Int) (out : List (List Int)), v82 = .int .i64 j /\ Az (0 <= j) /\ Az (out.length = n) /\ Az (lv3 kq lv j out = some out0) /\ Az (kq <= k) /\ Az (Below w.heap.size w w') /\ Az (w'.heap[ga]? = some (arr lv)) /\ Az (Kd.S KS 55 w' w.heap.size (fun k => go <= k) (.slice (some ⟨go, 0, none⟩) n n) out))
      case atStart => exact ⟨0, _, rfl, ⟨by omega⟩, hll2, H3, ⟨Nat.le_refl _⟩, B6, O6, S6⟩
      case round => as_aux_lemma =>
       clear H3 B6 O6 S6 hll2
       obtain ⟨j, out, rfl, HJ, HLO, HA, HK2, B6, O6, S6⟩ := hrel
       obtain ⟨W5, rfl⟩ : ∃ W5 : World, W5 = wr := ⟨_, rfl⟩
       cases gk with
       | zero => exact absurd HA.1 (by simp [lv3])
       | succ k2 =>
        have H := HA.1
        clear HA
        rw [lv3] at H
        by_cases cj : j < lv.length
        rotate_left
        · as_aux_lemma =>
          rw [if_neg cj] at H
          obtain rfl := Option.some.inj H
          have cbj : decide (j < (es.length : Int)) = false := decide_eq_false (by rw [<- hel]; exact cj)
          clear H
          go_wp2_with fail
          go_ret2
          exact ⟨_, rfl, Kd.S_mono S6.1 (fun _ _ => trivial), B6.1⟩
        as_aux_lemma =>
        rw [if_pos cj] at H
        by_cases cd : 0 <= rd lv j /\ rd lv j < out.length /\ (row out (rd lv j)).length < 17592186044415
        case neg => rw [if_neg cd] at H; cases H
        rw [if_pos cd] at H
        have hj0 := HJ.1
        have cx := arr_cell O6.1 j hj0 cj
        have cj2 : j < (es.length : Int) := by rw [<- hel]; exact cj
        have cbj : decide (j < (es.length : Int)) = true := decide_eq_true cj2
        have qj := eq_true hj0
        generalize rd lv j = d at H cd cx
        obtain ⟨cd0, cd1, cd2⟩ := cd
        rw [HLO.1] at cd1
        have H' := Az.mk H
        clear H
        have q9 := eq_true cd0
        have q10 := eq_true cd1
        go_upto_region 23 with fail
        have hgo := Kd.S_lt S6.1 go (by simp [Value.ownBlock])
        have hgs := B6.1.size
        obtain ⟨v0, oki, x1, x2, x3, x4, x5⟩ := S_upd S6.1 (fun k hk => by omega) d cd0 cd1
        have X3 := Az.mk (Kd.R_mono (ok' := fun k => oki k \/ W5.heap.size <= k) x3 (fun k hk => .inl hk))
        have X4 := Az.mk x4
        have X5 := Az.mk (@x5)
        have X6 := Az.mk x3
        clear x3 x4 x5 cx
        go_wp2_with ((with_reducible refine gate_builtin (b := .append) (xs := #[.tmp 92, .tmp 94]) rfl ?_); at_builtin; refine Kd.R_append (Kd.int .i64) (w0 := W5) w.heap.size rfl (.tmp 92) (.tmp 94) 55 3 (.int .i64 0) 8 rfl Try.underlying55 info3 rfl (by decide) (by omega) v0 (row out d) j [.int .i64 j] (fun k => oki k \/ W5.heap.size <= k) (fun _ => False) rfl rfl rfl (fun _ hk => hk.elim) (fun k hk => .inr hk) X3.1 (Below.refl _ _) ?hs ?hl ?_)
        (case hs => omega)
        (case hl => omega)
        intro v1 w9 ho hb hg hat
        obtain ⟨A9, q9c, rfl⟩ := Kd.R_slice ho
        have hown : ∀ k, v0.ownBlock = some k -> go <= k /\ k ≠ go := fun k hk => X4.1 k (X6.1.1 k hk)
        have hga := HGO.1.2
        have hgw := HGO.1.1
        have O9 := Az.mk (blk_grown O6.1 hg (fun e => by have := (hown ga e.symm).1; omega))
        have B9 := Az.mk (B6.1.grown hg (by omega) (fun k hk => by have := (hown k hk).1; omega))
        have hne9 : some go ≠ v0.ownBlock := fun e => (hown _ e.symm).2 rfl
        have k2 : w9.cell? ⟨go, d.toNat, none⟩ = some v0 := (World.cell?_of_block (hg.block go hgo hne9)).trans x1
        have k3 : w9.frozen? ⟨go, d.toNat, none⟩ = false := (World.frozen?_of_block (hg.block go hgo hne9)).trans x2
        have G9 := Az.mk hg
        have R9 := Az.mk ho
        clear hg ho hb hat hown x1 x2 hne9 B6 O6 S6 X3 X4 X6 hga hgw
        go_upto_region 24 with fail
        obtain ⟨S10, g10⟩ := X5.1 w9 _ _ G9.1 R9.1
        have S11 := Az.mk S10
        have O11 := Az.mk (blk_grown O9.1 g10 (by have := HGO.1.2; intro e; injection e with e; omega))
        have B11 := Az.mk (B9.1.grown g10 (by have := G9.1.size; omega) (fun k hk => by cases hk; exact HGO.1.1))
        have HL11 : Az ((app out d j).length = n) := ⟨by unfold app; simp only [List.length_set]; exact HLO.1⟩
        clear S10 g10 k2 k3 G9 R9 X5 O9 B9 hgs hgo
        have e9 : (row out d ++ [j]).length = (row out d).length + 1 := by simp
        rw [e9] at S11 O11 B11
        clear e9
        generalize w9.setCell ⟨go, d.toNat, none⟩ (.slice A9 ((row out d).length + 1) q9c) = w11 at S11 O11 B11 ⊢
        go_wp2_with fail
        go_roundg k2
        case measure => omega
        case rel => exact ⟨j + 1, _, rfl, ⟨by omega⟩, HL11, H', ⟨by have := HK2.1; omega⟩, B11, O11, S11⟩
    as_aux_lemma =>
    rw [if_pos ci] at H
    by_cases cx : 0 < (row comps i).length /\ 0 <= rd (row comps i) 0 /\ rd (row comps i) 0 < es.length
    case neg => rw [if_neg cx] at H; cases H
    rw [if_pos cx] at H
    obtain ⟨cx0, cx1, cx2⟩ := cx
    have hi0 := HI.1
    obtain ⟨adc, Ar, cr, er, hx, hxl, hxi⟩ := at_L11 (Kd.F_now F3.1) i hi0 ci
    subst er
    have el : rd_L11 comps i = row comps i := rfl
    rw [el] at hx hxl hxi
    have HXI := Az.mk hxi
    have HXL := Az.mk hxl
    obtain ⟨ad0, e0, hy⟩ := Kd.at_int hxi 0 (by omega) (by omega)
    subst e0
    rw [show ((0 : Int)).toNat = 0 from rfl, Addr.add_zero'] at hy
    clear hxi hxl el
    have cb : decide (i < (comps.length : Int)) = true := decide_eq_true ci
    have q0 := eq_true hi0
    have cz : (0 < (row comps i).length) = True := eq_true cx0
    have H' := Az.mk H
    clear H
    go_upto_region 10 with fail
    clear hy hx cz cb q0
    generalize rd (row comps i) 0 = v at H' cx1 cx2 ⊢
    have hcz := (blk_cell K3.1 0)
    have hcy : wr.cell? ⟨gb, 0, none⟩ = some (.slice A es.length c) := hcz.trans rfl
    clear hcz
    by_cases c1 : 1 < (row comps i).length
    · as_aux_lemma =>
      have H := H'.1
      clear H'
      rw [if_pos (Or.inl c1)] at H
      obtain rfl := Option.some.inj H
      obtain ⟨rfl, rfl⟩ := Prod.mk.inj (Option.some.inj HH.1)
      have cb1 : decide ((1 : Int) < ((row comps i).length : Int)) = true := decide_eq_true (by omega)
      clear H HH
      go_wp2_with fail
      go_ret2
      exact ⟨_, rfl, Kd.S_nil _ _ _ _ _, B3.1⟩
    as_aux_lemma =>
    have cb1 : decide ((1 : Int) < ((row comps i).length : Int)) = false := decide_eq_false (by omega)
    obtain ⟨adE, Ae, ce, er, hx, hxl, hxi⟩ := at_L11 HR.1 v cx1 cx2
    subst er
    have el : rd_L11 es v = row es v := rfl
    rw [el] at hx hxl hxi
    have hx1 := (B3.1.cell (World.block_lt_of_cell? _ _ hx)).trans hx
    have HXE := Az.mk hx
    have EXI := Az.mk hxi
    have EXL := Az.mk hxl
    clear hx hxi hxl el
    have q1 := eq_true cx1
    have q2 := eq_true cx2
    have CON := Az.mk (fun (wq : World) (hq : Below w.heap.size w wq) => slices_Contains_int_int.calls ((row es v).length + 1) Ae ce (row es v) v _ wq (Kd.C_below EXI.1 hq) EXL.1 (contains_run _ _ (EXI.1.2.1)))
    by_cases cc1 : (row es v).contains v = true
    · as_aux_lemma =>
      have H := H'.1
      clear H'
      rw [if_pos (Or.inr cc1)] at H
      obtain rfl := Option.some.inj H
      obtain ⟨rfl, rfl⟩ := Prod.mk.inj (Option.some.inj HH.1)
      clear H HH
      rw [cc1] at CON
      go_wp2_with (go_at_call 41; refine (CON.1 wr B3.1).mono ?_; rintro e w11 ⟨rfl, hd11⟩; obtain ⟨⟨nq, rfl⟩⟩ := hd11)
      go_ret2
      exact ⟨_, rfl, Kd.S_nil _ _ _ _ _, pw_below_drewN B3.1 nq⟩
    as_aux_lemma =>
    have cc2 : (row es v).contains v = false := by simpa using cc1
    rw [cc2] at CON
    have H := H'.1
    clear H'
    rw [if_neg (by rintro (h | h); exact c1 h; exact cc1 h)] at H
    obtain ⟨lv2, hl2, H⟩ := Option.bind_eq_some_iff.1 H
    have HL2 := Az.mk hl2
    have H' := Az.mk H
    clear H hl2
    go_upto_region 12 with (go_at_call 41; refine (CON.1 wr B3.1).mono ?_; rintro e w11 ⟨rfl, hd11⟩; obtain ⟨⟨nq, rfl⟩⟩ := hd11)
    have B4 := Az.mk (pw_below_drewN B3.1 nq)
    have K4 := Az.mk (blk_drewN K3.1 nq)
    have O4 := Az.mk (show (wr.drewN nq).heap[ga]? = some (arr lv) from blk_drewN O3.1 nq)
    have F4 := Az.mk (Kd.F_drewN F3.1 nq)
    clear B3 K3 O3 F3 CON hcy hx1
    generalize wr.drewN nq = w12 at B4 K4 O4 F4 ⊢
    have hcy : w12.cell? ⟨gb, 0, none⟩ = some (.slice (some adE) es.length c) := (blk_cell K4.1 0).trans rfl
    have hx1 := (B4.1.cell (World.block_lt_of_cell? _ _ HXE.1)).trans HXE.1
    have hel := EXI.1.2.1
    go_wp2_with fail
    clear hx1 hcy q1 q2
    go_loopg [52] k1 (fun kq v52 w' => ∃ (j : Int) (lv3 : List Int), v52 = .int .i64 j /\ Az (0 <= j) /\ Az (lv3.length = es.length) /\ Az (lv1 kq v (row es v) j lv3 = some lv2) /\ Az (kq <= k1) /\ Az (Below w.heap.size w w') /\ Az (w'.heap[gb]? = some (.cells #[.slice (some adE) es.length c] 49 (0, 0))) /\ Az (w'.heap[ga]? = some (arr lv3)) /\ Az (Kd.F KS w' (fun k => w7.heap.size <= k /\ k < ga) (some adc) comps.length comps))
    case atStart => exact ⟨0, _, rfl, ⟨by omega⟩, HLEN, HL2, ⟨Nat.le_refl _⟩, B4, K4, O4, F4⟩
    case round => as_aux_lemma =>
     clear HL2 B4 K4 O4 F4
     obtain ⟨j, lv3, rfl, HJ, HLEN3, HA, HK2, B4, K4, O4, F4⟩ := hrel
     obtain ⟨W2, rfl⟩ : ∃ W2 : World, W2 = wr := ⟨_, rfl⟩
     cases gk with
     | zero => exact absurd HA.1 (by simp [lv1])
     | succ k2 =>
      have H := HA.1
      clear HA
      rw [lv1] at H
      by_cases cj : j < (row es v).length
      rotate_left
      · as_aux_lemma =>
        rw [if_neg cj] at H
        obtain rfl := Option.some.inj H
        have cbj : decide (j < ((row es v).length : Int)) = false := decide_eq_false cj
        clear H
        have q1 := eq_true cx1
        have q2 := eq_true cx2
        have cv := arr_cell O4.1 v cx1 (by rw [HLEN3.1]; exact cx2)
        go_wp2_with fail
        go_roundg k1
        case measure => omega
        case rel => exact ⟨i + 1, _, _, rfl, rfl, ⟨by have := HI.1; omega⟩, HLEN3, H', ⟨by have := HK1.1; omega⟩, B4, K4, O4, F4⟩
      as_aux_lemma =>
      rw [if_pos cj] at H
      by_cases cd : 0 <= rd (row es v) j /\ rd (row es v) j < lv3.length
      case neg => rw [if_neg cd] at H; cases H
      rw [if_pos cd] at H
      have hj0 := HJ.1
      obtain ⟨adj, ej, hx⟩ := Kd.at_int EXI.1 j hj0 cj
      subst ej
      have hxj := (B4.1.cell (World.block_lt_of_cell? _ _ hx)).trans hx
      clear hx
      generalize rd (row es v) j = d at H cd hxj
      obtain ⟨cd0, cd1⟩ := cd
      have H' := Az.mk H
      clear H
      have cbj : decide (j < ((row es v).length : Int)) = true := decide_eq_true cj
      have qj := eq_true hj0
      have q1 := eq_true cx1
      have q2 := eq_true cx2
      have q3 := eq_true cd0
      have q4 : (d < (es.length : Int)) = True := eq_true (by rw [<- HLEN3.1]; exact cd1)
      have cv := arr_cell O4.1 v cx1 (by rw [HLEN3.1]; exact cx2)
      have cdd := arr_cell O4.1 d cd0 cd1
      have fv := arr_free O4.1 v.toNat
      go_upto_region 15 with fail
      go_region
      have B5 := Az.mk (below_drew (B4.1.setCell (show w.heap.size <= (⟨ga, v.toNat, none⟩ : Addr).block from HGA.1.1) (.int .i64 (max (rd lv3 v) (wrap64 (rd lv3 d + 1))))))
      have K5 := Az.mk (blk_drew (blk_far K4.1 (p := ⟨ga, v.toNat, none⟩) (show gb ≠ ga from Nat.ne_of_lt HGA.1.2) (.int .i64 (max (rd lv3 v) (wrap64 (rd lv3 d + 1))))))
      have O5 := Az.mk (show (W2.setCell ⟨ga, v.toNat, none⟩ (.int .i64 (max (rd lv3 v) (wrap64 (rd lv3 d + 1))))).drew.heap[ga]? = some (arr (lv3.set v.toNat (max (rd lv3 v) (wrap64 (rd lv3 d + 1))))) from by unfold arr; rw [<- nums_set]; exact blk_drew (blk_set O4.1 v.toNat _))
      have F5 := Az.mk (Kd.F_drew (Kd.F_far (p := ⟨ga, v.toNat, none⟩) F4.1 (fun k hk => show k ≠ ga from Nat.ne_of_lt hk.2) (.int .i64 (max (rd lv3 v) (wrap64 (rd lv3 d + 1))))))
      have L5 : Az ((lv3.set v.toNat (max (rd lv3 v) (wrap64 (rd lv3 d + 1)))).length = es.length) := ⟨by rw [List.length_set]; exact HLEN3.1⟩
      clear B4 K4 O4 F4 cv cdd fv hxj HLEN3
      generalize (W2.setCell ⟨ga, v.toNat, none⟩ (.int .i64 (max (rd lv3 v) (wrap64 (rd lv3 d + 1))))).drew = w13 at B5 K5 O5 F5 ⊢
      go_wp2_with fail
      go_roundg k2
      case measure => omega
      case rel => exact ⟨j + 1, _, rfl, ⟨by omega⟩, L5, H', ⟨by have := HK2.1; omega⟩, B5, K5, O5, F5⟩
end Lv
end Go.Proofs.Ytmadhaccjmakdaa
namespace Go.Proofs.Ytmadhaccjmakdaa
open Go.RowKit Go.Proofs.Yw.A Go.Proofs.Yw.B Go.Proofs.Yw.C Go.Proofs.Ytmadhaccjmakdaa.P
namespace P
noncomputable def g_Levels.f (l : List (List Int)) : Option (List (List Int) × Int) := Od.lim fun k => Lv.levelsF k l
theorem g_Levels.calls (A0_0 : Option Addr) (c0_0 : Nat) (l0_0 : List (List Int)) (r1 : List (List Int)) (r2 : Int) (w : World) (hr0_0 : Kd.C (Kd.slice 3 (Kd.int .i64)) w A0_0 l0_0.length l0_0) (hc0_0 : l0_0.length <= c0_0) (h : g_Levels.f l0_0 = some (r1, r2)) :
    Calls Try.prog 30 #[.agg #[.slice A0_0 l0_0.length c0_0]] w fun e w' => ∃ v0_ : Value, e = .returned (.tuple #[v0_, .int .i64 r2]) /\ Kd.S (Kd.slice 3 (Kd.int .i64)) 55 w' w.heap.size (fun _ => True) v0_ r1 /\ Below w.heap.size w w' := by
  obtain ⟨k0, h0⟩ := Od.lim_some h
  exact Lv.levels_calls k0 A0_0 c0_0 l0_0 r1 r2 w hr0_0 hc0_0 (h0 k0 (Nat.le_refl _))
end P
end Go.Proofs.Ytmadhaccjmakdaa
namespace Go.Proofs.Ytmadhaccjmakdaa.P
open Go.RowKit Go.Proofs.Yw.A Go.Proofs.Yw.A.Kd Go.Proofs.Yw.B Go.Proofs.Yw.C
attribute [local go_sem] str_gtr str_leq str_geq max2_int min2_int max_two min_two max_three min_three max_four min_four
noncomputable def m_Levels.l0 : Nat -> List (List ByteArray) -> List (List Int) -> Int -> Int -> List ByteArray -> List (List Int) -> Option ((List (List ByteArray)) × Int × ByteArray × Int × Int)
 | 0, _, _, _, _, _, _ => none
 | k + 1, x8, x26, x27, x28, x214000, x214001 => if x28 < x27 then (if 0 <= x28 then (if x28 < (x26.length : Int) then ((p_named.f k x214000 x214001 (rd_L11 x26 x28)).bind fun t220 => (if x8.length < 5864062014805 then (m_Levels.l0 k (x8 ++ [t220]) x26 x27 (wrap64 (x28 + 1)) x214000 x214001) else (none))) else (none)) else (none)) else (some (x8, 0, (⟨#[]⟩ : ByteArray), 0, 0))
noncomputable def m_Levels.f (k : Nat) (l0 : List (S42)) : Option ((List (List ByteArray)) × Int × ByteArray × Int × Int) := (m_acyclic.f k l0).bind fun bt203 => (if bt203.2.2.1 = 0 then ((g_Levels.f bt203.2.1).bind fun bt215 => (m_Levels.l0 k ([] : List (List ByteArray)) bt215.1 (bt215.1.length : Int) 0 bt203.1 bt203.2.1)) else (some (([] : List (List ByteArray)), bt203.2.2.1, bt203.2.2.2.1, bt203.2.2.2.2.1, bt203.2.2.2.2.2)))
theorem m_Levels.calls (k : Nat) (A0 : Option Addr) (c0 : Nat) (l0 : List (S42)) (r1 : List (List ByteArray)) (r2 : Int) (r3 : ByteArray) (r4 : Int) (r5 : Int) (w : World) (hr0 : Kd.C k42 w A0 l0.length l0) (hc0 : l0.length <= c0) (h : m_Levels.f k l0 = some (r1, r2, r3, r4, r5)) :
 Calls Try.prog 12 #[.slice A0 l0.length c0] w fun e w' => ∃ v0_ : Value, e = .returned (.tuple #[v0_, .agg #[.int .i64 r2, .string r3, .int .i64 r4, .int .i64 r5]]) /\ Kd.S (Kd.slice 9 Kd.string) 25 w' w.heap.size (fun _ => True) v0_ r1 /\ Below w.heap.size w w' := by
 have hu28 := Try.underlying28
 have hu51 := Try.underlying51
 have hu49 := Try.underlying49
 have HR0 := aM hr0
 have HC0 := aM hc0
 clear hr0 hc0
 have HB := aM (Below.refl w.heap.size w)
 have H : ((m_acyclic.f k l0).bind fun bt203 => (if bt203.2.2.1 = 0 then ((g_Levels.f bt203.2.1).bind fun bt215 => (m_Levels.l0 k ([] : List (List ByteArray)) bt215.1 (bt215.1.length : Int) 0 bt203.1 bt203.2.1)) else (some (([] : List (List ByteArray)), bt203.2.2.1, bt203.2.2.2.1, bt203.2.2.2.2.1, bt203.2.2.2.2.2)))) = some (r1, r2, r3, r4, r5) := h
 clear h
 replace H := Option.bind_eq_some_iff.mp H
 obtain ⟨⟨t203, t206, t209, t210, t211, t212⟩, A20, H⟩ := H
 replace H : (if t209 = 0 then ((g_Levels.f t206).bind fun bt215 => (m_Levels.l0 k ([] : List (List ByteArray)) bt215.1 (bt215.1.length : Int) 0 t203 t206)) else (some (([] : List (List ByteArray)), t209, t210, t211, t212))) = some (r1, r2, r3, r4, r5) := H
 have A2 := aM A20
 clear A20
 by_cases c3 : t209 = 0
 rotate_left
 · rw [if_neg c3] at H
   have c3b0 : (t209 == 0) = false := beq_eq_false_iff_ne.mpr c3
   have c3b1 : (t209 != 0) = true := bne_iff_ne.mpr c3
   simp only [Option.some.injEq, Prod.mk.injEq] at H
   obtain ⟨rfl, rfl, rfl, rfl, rfl⟩ := H
   go_enter Try.func12, Try.ntmps12
   try go_wp2_with (first | ((with_reducible refine gate_dst (N := 3) rfl ?_); refine be 3 rfl rfl #[.int .i64 0, .string (⟨#[]⟩ : ByteArray), .int .i64 0, .int .i64 0] 28 ?_; intro gb202 hg w32 hbox hb; have BK202 := aM hbox; have GE202 := gs hg HB; replace HB := bs HB hb; clear hb hbox hg) | ((with_reducible refine gate_callee (f := 24) rfl ?_); refine gL (some 13) rfl rfl Try.func24 (by kernel_rfl) rfl #[.slice A0 l0.length c0] rfl ?_; (with_reducible refine (m_acyclic.calls k _ _ l0 t203 t206 t209 t210 t211 t212 _ ?side1 ?side2 A2.1).mono ?_); (case side1 => exact cb HR0 HB); (case side2 => exact HC0.1); rintro e w33 ⟨v204, v207, rfl, ho0, ho1, hb⟩; refine ⟨_, rfl, ?_⟩; have HO205 := aM (R_lower ho0 (below_size (hh HB))); have HO208 := aM (S_lower ho1 (below_size (hh HB))); replace BK202 := kb BK202 hb; replace HB := bs HB hb; clear hb ho0 ho1) | ((with_reducible refine gate_dst (N := 4) rfl ?_); refine be 4 rfl rfl #[.slice none 0 0, .slice none 0 0] 51 ?_; intro gb213 hg w34 hbox hb; have BK213 := aM hbox; have GE213 := gs hg HB; have NB202_213 := nl hg BK202; have NB213_202 := nr hg BK202; replace HO205 := rb HO205 hb; replace HO208 := sb HO208 hb; replace BK202 := kb BK202 hb; replace HB := bs HB hb; clear hb hbox hg) | ((with_reducible refine gate_dst (N := 5) rfl ?_); refine be 5 rfl rfl #[.int .i64 0, .string (⟨#[]⟩ : ByteArray), .int .i64 0, .int .i64 0] 28 ?_; intro gb214 hg w35 hbox hb; have BK214 := aM hbox; have GE214 := gs hg HB; have NB202_214 := nl hg BK202; have NB214_202 := nr hg BK202; have NB213_214 := nl hg BK213; have NB214_213 := nr hg BK213; replace HO205 := rb HO205 hb; replace HO208 := sb HO208 hb; replace BK202 := kb BK202 hb; replace BK213 := kb BK213 hb; replace HB := bs HB hb; clear hb hbox hg; obtain ⟨Ao36, co36, eo36⟩ := R_slice HO205.1; subst eo36; have hnb37 := NB213_202.1; have hnc37 := NB202_213.1; have hnb38 := NB213_214.1; have hnc38 := NB214_213.1; obtain ⟨hcz39_0, hcz39_1⟩ := cz2 BK213; obtain ⟨hfz39_0, hfz39_1⟩ := fz2 BK213; obtain ⟨Ao40, co40, eo40⟩ := S_slice HO208.1; subst eo40; have hnb41 := NB214_202.1; have hnc41 := NB202_214.1; obtain ⟨hcz42_0, hcz42_1, hcz42_2, hcz42_3⟩ := cz BK214; obtain ⟨hfz42_0, hfz42_1, hfz42_2, hfz42_3⟩ := fz BK214))
   have n0_ : Az (Kd.R Kd.string 9 ((((((w35.setCell ⟨gb213, 0, none⟩ (.slice Ao36 t203.length co36)).setCell ⟨gb213, 1, none⟩ (.slice Ao40 t206.length co40)).setCell ⟨gb214, 0, none⟩ (.int .i64 t209)).setCell ⟨gb214, 1, none⟩ (.string t210)).setCell ⟨gb214, 2, none⟩ (.int .i64 t211)).setCell ⟨gb214, 3, none⟩ (.int .i64 t212)) w.heap.size (fun _ => True) (.slice Ao36 t203.length co36) t203) := ⟨rz (R_mono (R_far (p := ⟨gb214, 3, none⟩) (R_far (p := ⟨gb214, 2, none⟩) (R_far (p := ⟨gb214, 1, none⟩) (R_far (p := ⟨gb214, 0, none⟩) (R_far (p := ⟨gb213, 1, none⟩) (R_far (p := ⟨gb213, 0, none⟩) (R_types (R_types HO205.1 BK213.1 (by decide)) BK214.1 (by decide)) (fun _ hk => hk.1.2) (.slice Ao36 t203.length co36)) (fun _ hk => hk.1.2) (.slice Ao40 t206.length co40)) (fun _ hk => hk.2) (.int .i64 t209)) (fun _ hk => hk.2) (.string t210)) (fun _ hk => hk.2) (.int .i64 t211)) (fun _ hk => hk.2) (.int .i64 t212)) (fun _ hk => trivial))⟩
   have n1_ : Az (Kd.S (Kd.slice 3 (Kd.int .i64)) 55 ((((((w35.setCell ⟨gb213, 0, none⟩ (.slice Ao36 t203.length co36)).setCell ⟨gb213, 1, none⟩ (.slice Ao40 t206.length co40)).setCell ⟨gb214, 0, none⟩ (.int .i64 t209)).setCell ⟨gb214, 1, none⟩ (.string t210)).setCell ⟨gb214, 2, none⟩ (.int .i64 t211)).setCell ⟨gb214, 3, none⟩ (.int .i64 t212)) w.heap.size (fun _ => True) (.slice Ao40 t206.length co40) t206) := ⟨sz (S_mono (S_far (p := ⟨gb214, 3, none⟩) (S_far (p := ⟨gb214, 2, none⟩) (S_far (p := ⟨gb214, 1, none⟩) (S_far (p := ⟨gb214, 0, none⟩) (S_far (p := ⟨gb213, 1, none⟩) (S_far (p := ⟨gb213, 0, none⟩) (S_types (S_types HO208.1 BK213.1 (by decide)) BK214.1 (by decide)) (fun _ hk => hk.1.2) (.slice Ao36 t203.length co36)) (fun _ hk => hk.1.2) (.slice Ao40 t206.length co40)) (fun _ hk => hk.2) (.int .i64 t209)) (fun _ hk => hk.2) (.string t210)) (fun _ hk => hk.2) (.int .i64 t211)) (fun _ hk => hk.2) (.int .i64 t212)) (fun _ hk => trivial))⟩
   have n2_ : Az (((((((w35.setCell ⟨gb213, 0, none⟩ (.slice Ao36 t203.length co36)).setCell ⟨gb213, 1, none⟩ (.slice Ao40 t206.length co40)).setCell ⟨gb214, 0, none⟩ (.int .i64 t209)).setCell ⟨gb214, 1, none⟩ (.string t210)).setCell ⟨gb214, 2, none⟩ (.int .i64 t211)).setCell ⟨gb214, 3, none⟩ (.int .i64 t212)).heap[gb202]? = some (.cells #[.int .i64 0, .string (⟨#[]⟩ : ByteArray), .int .i64 0, .int .i64 0] 28 (0, 0))) := ⟨kf BK202⟩
   have n3_ : Az (((((((w35.setCell ⟨gb213, 0, none⟩ (.slice Ao36 t203.length co36)).setCell ⟨gb213, 1, none⟩ (.slice Ao40 t206.length co40)).setCell ⟨gb214, 0, none⟩ (.int .i64 t209)).setCell ⟨gb214, 1, none⟩ (.string t210)).setCell ⟨gb214, 2, none⟩ (.int .i64 t211)).setCell ⟨gb214, 3, none⟩ (.int .i64 t212)).heap[gb213]? = some (.cells #[.slice Ao36 t203.length co36, .slice Ao40 t206.length co40] 51 (0, 0))) := ⟨kf BK213⟩
   have n4_ : Az (((((((w35.setCell ⟨gb213, 0, none⟩ (.slice Ao36 t203.length co36)).setCell ⟨gb213, 1, none⟩ (.slice Ao40 t206.length co40)).setCell ⟨gb214, 0, none⟩ (.int .i64 t209)).setCell ⟨gb214, 1, none⟩ (.string t210)).setCell ⟨gb214, 2, none⟩ (.int .i64 t211)).setCell ⟨gb214, 3, none⟩ (.int .i64 t212)).heap[gb214]? = some (.cells #[.int .i64 t209, .string t210, .int .i64 t211, .int .i64 t212] 28 (0, 0))) := ⟨kf BK214⟩
   have n5_ : Az (Below w.heap.size w ((((((w35.setCell ⟨gb213, 0, none⟩ (.slice Ao36 t203.length co36)).setCell ⟨gb213, 1, none⟩ (.slice Ao40 t206.length co40)).setCell ⟨gb214, 0, none⟩ (.int .i64 t209)).setCell ⟨gb214, 1, none⟩ (.string t210)).setCell ⟨gb214, 2, none⟩ (.int .i64 t211)).setCell ⟨gb214, 3, none⟩ (.int .i64 t212))) := ⟨hh HB⟩
   (clear HO205)
   (clear HO208)
   (clear BK202)
   (clear BK213)
   (clear BK214)
   (clear HB)
   generalize ((((((w35.setCell ⟨gb213, 0, none⟩ (.slice Ao36 t203.length co36)).setCell ⟨gb213, 1, none⟩ (.slice Ao40 t206.length co40)).setCell ⟨gb214, 0, none⟩ (.int .i64 t209)).setCell ⟨gb214, 1, none⟩ (.string t210)).setCell ⟨gb214, 2, none⟩ (.int .i64 t211)).setCell ⟨gb214, 3, none⟩ (.int .i64 t212)) = w43 at n0_ n1_ n2_ n3_ n4_ n5_ ⊢
   have HO205 := n0_
   have HO208 := n1_
   have BK202 := n2_
   have BK213 := n3_
   have BK214 := n4_
   have HB := n5_
   clear n0_ n1_ n2_ n3_ n4_ n5_
   replace HO205 := aM (R_drew HO205.1)
   replace HO208 := aM (S_drew HO208.1)
   replace BK202 := aM (blk_drew BK202.1)
   replace BK213 := aM (blk_drew BK213.1)
   replace BK214 := aM (blk_drew BK214.1)
   replace HB := aM (below_drew1 HB.1)
   refine start_ (n := 3) (S := fun w' => w'.cell? ⟨gb214, 0, none⟩ = some (.int .i64 t209) /\ w'.cell? ⟨gb214, 1, none⟩ = some (.string t210) /\ w'.cell? ⟨gb214, 2, none⟩ = some (.int .i64 t211) /\ w'.cell? ⟨gb214, 3, none⟩ = some (.int .i64 t212)) (ds := []) #[F_, F_, F_] (by kernel_rfl) rfl rfl ⟨(blk_cell BK214.1 0).trans rfl, (blk_cell BK214.1 1).trans rfl, (blk_cell BK214.1 2).trans rfl, (blk_cell BK214.1 3).trans rfl⟩ (fun hHeld => ?_)
   generalize w43.drew = w44 at HO205 HO208 BK202 BK213 BK214 HB hHeld ⊢
   refine pure_ (i := 1) (N := some 2) (v := ?_) (a' := ?_) #[F_, T_, F_] rfl rfl (by kernel_rfl) (fun _ _ _ h => h) (Or.inl ⟨by rfl, ?_⟩) ?_ ?_
   rotate_left
   · intro w'
     go_simp
     with_reducible rfl
   rotate_left
   · simp only [Act.put, sA, sZ, sS, i64_w, i32_w]
     rfl
   refine take_ (i := 0) (N := some 19) (v := ?_) (a' := ?_) #[T_, T_, F_] rfl rfl (by kernel_rfl) (fun _ _ _ h => h) (Or.inl ⟨by rfl, ?_⟩) hHeld ?_ ?_
   rotate_left
   · rintro w' ⟨s0, s1, s2, s3⟩
     go_simp
     with_reducible rfl
   rotate_left
   · simp only [Act.put, sA, sZ, sS, i64_w, i32_w]
     rfl
   refine one_ (i := 2) (N := none) #[T_, T_, T_] rfl rfl (by kernel_rfl) (by decide) (fun K hK => ?_)
   have hs45 : w44.cell? ⟨gb202, 0, none⟩ = some (.int .i64 0) := (blk_cell BK202.1 0).trans rfl
   have hfs45 := blk_frozen BK202.1 0
   have hns45_1 := NB213_202.1
   have hns45_2 := NB214_202.1
   have hms45_1 := NB202_213.1
   have hms45_2 := NB202_214.1
   have hs46 : w44.cell? ⟨gb202, 1, none⟩ = some (.string (⟨#[]⟩ : ByteArray)) := (blk_cell BK202.1 1).trans rfl
   have hfs46 := blk_frozen BK202.1 1
   have hns46_1 := NB213_202.1
   have hns46_2 := NB214_202.1
   have hms46_1 := NB202_213.1
   have hms46_2 := NB202_214.1
   have hs47 : w44.cell? ⟨gb202, 2, none⟩ = some (.int .i64 0) := (blk_cell BK202.1 2).trans rfl
   have hfs47 := blk_frozen BK202.1 2
   have hns47_1 := NB213_202.1
   have hns47_2 := NB214_202.1
   have hms47_1 := NB202_213.1
   have hms47_2 := NB202_214.1
   have hs48 : w44.cell? ⟨gb202, 3, none⟩ = some (.int .i64 0) := (blk_cell BK202.1 3).trans rfl
   have hfs48 := blk_frozen BK202.1 3
   have hns48_1 := NB213_202.1
   have hns48_2 := NB214_202.1
   have hms48_1 := NB202_213.1
   have hms48_2 := NB202_214.1
   refine skip_ (w1 := ?_) (by rfl) rfl ?_ ?_
   rotate_left
   · go_simp
     rfl
   refine hK.out _ _ ⟨((cell_far (p := ⟨gb202, _, none⟩) NB214_202.1 _).trans (((cell_far (p := ⟨gb202, _, none⟩) NB214_202.1 _).trans (((cell_far (p := ⟨gb202, _, none⟩) NB214_202.1 _).trans (((cell_far (p := ⟨gb202, _, none⟩) NB214_202.1 _).trans (hHeld.1)))))))), ((cell_far (p := ⟨gb202, _, none⟩) NB214_202.1 _).trans (((cell_far (p := ⟨gb202, _, none⟩) NB214_202.1 _).trans (((cell_far (p := ⟨gb202, _, none⟩) NB214_202.1 _).trans (((cell_far (p := ⟨gb202, _, none⟩) NB214_202.1 _).trans (hHeld.2.1)))))))), ((cell_far (p := ⟨gb202, _, none⟩) NB214_202.1 _).trans (((cell_far (p := ⟨gb202, _, none⟩) NB214_202.1 _).trans (((cell_far (p := ⟨gb202, _, none⟩) NB214_202.1 _).trans (((cell_far (p := ⟨gb202, _, none⟩) NB214_202.1 _).trans (hHeld.2.2.1)))))))), ((cell_far (p := ⟨gb202, _, none⟩) NB214_202.1 _).trans (((cell_far (p := ⟨gb202, _, none⟩) NB214_202.1 _).trans (((cell_far (p := ⟨gb202, _, none⟩) NB214_202.1 _).trans (((cell_far (p := ⟨gb202, _, none⟩) NB214_202.1 _).trans (hHeld.2.2.2))))))))⟩ (fun hHeld => ?_)
   clear hK K
   refine done_ (by kernel_rfl) ?_
   try go_wp2
   refine bodyPost_ret (results_tc rfl _ _ gb202 28 #[.int .i64 t209, .string t210, .int .i64 t211, .int .i64 t212] (0, 0) _ rfl (kf BK202) Try.underlying28 rfl (by kernel_rfl)) rfl ?_
   exact ⟨_, by first | rfl | (simp [errW_none, errW_some] <;> rfl) | (simp [*, errW_none, errW_some] <;> rfl), by first | exact S_nil _ _ _ _ _ | exact N_nil _ _ _ _ _ | exact V_nil _ _ _ _ _ | exact Q_nil _ _ _ _ _ | exact R_nil _ _ _ _ _, hh HB⟩
 rw [if_pos c3] at H
 have c3b0 : (t209 == 0) = true := beq_iff_eq.mpr c3
 have c3b1 : (t209 != 0) = false := bne_eq_false_iff_eq.mpr c3
 clear c3
 replace H := Option.bind_eq_some_iff.mp H
 obtain ⟨⟨t215, t218⟩, A40, H⟩ := H
 replace H : (m_Levels.l0 k ([] : List (List ByteArray)) t215 (t215.length : Int) 0 t203 t206) = some (r1, r2, r3, r4, r5) := H
 have A4 := aM A40
 clear A40
 have H' := aM H
 clear H
 go_enter Try.func12, Try.ntmps12
 go_wp2_with (first | ((with_reducible refine gate_dst (N := 3) rfl ?_); refine be 3 rfl rfl #[.int .i64 0, .string (⟨#[]⟩ : ByteArray), .int .i64 0, .int .i64 0] 28 ?_; intro gb202 hg w5 hbox hb; have BK202 := aM hbox; have GE202 := gs hg HB; replace HB := bs HB hb; clear hb hbox hg) | ((with_reducible refine gate_callee (f := 24) rfl ?_); refine gL (some 13) rfl rfl Try.func24 (by kernel_rfl) rfl #[.slice A0 l0.length c0] rfl ?_; (with_reducible refine (m_acyclic.calls k _ _ l0 t203 t206 t209 t210 t211 t212 _ ?side1 ?side2 A2.1).mono ?_); (case side1 => exact cb HR0 HB); (case side2 => exact HC0.1); rintro e w6 ⟨v204, v207, rfl, ho0, ho1, hb⟩; refine ⟨_, rfl, ?_⟩; have HO205 := aM (R_lower ho0 (below_size (hh HB))); have HO208 := aM (S_lower ho1 (below_size (hh HB))); replace BK202 := kb BK202 hb; replace HB := bs HB hb; clear hb ho0 ho1) | ((with_reducible refine gate_dst (N := 4) rfl ?_); refine be 4 rfl rfl #[.slice none 0 0, .slice none 0 0] 51 ?_; intro gb213 hg w7 hbox hb; have BK213 := aM hbox; have GE213 := gs hg HB; have NB202_213 := nl hg BK202; have NB213_202 := nr hg BK202; replace HO205 := rb HO205 hb; replace HO208 := sb HO208 hb; replace BK202 := kb BK202 hb; replace HB := bs HB hb; clear hb hbox hg) | ((with_reducible refine gate_dst (N := 5) rfl ?_); refine be 5 rfl rfl #[.int .i64 0, .string (⟨#[]⟩ : ByteArray), .int .i64 0, .int .i64 0] 28 ?_; intro gb214 hg w8 hbox hb; have BK214 := aM hbox; have GE214 := gs hg HB; have NB202_214 := nl hg BK202; have NB214_202 := nr hg BK202; have NB213_214 := nl hg BK213; have NB214_213 := nr hg BK213; replace HO205 := rb HO205 hb; replace HO208 := sb HO208 hb; replace BK202 := kb BK202 hb; replace BK213 := kb BK213 hb; replace HB := bs HB hb; clear hb hbox hg; obtain ⟨Ao9, co9, eo9⟩ := R_slice HO205.1; subst eo9; have hnb10 := NB213_202.1; have hnc10 := NB202_213.1; have hnb11 := NB213_214.1; have hnc11 := NB214_213.1; obtain ⟨hcz12_0, hcz12_1⟩ := cz2 BK213; obtain ⟨hfz12_0, hfz12_1⟩ := fz2 BK213; obtain ⟨Ao13, co13, eo13⟩ := S_slice HO208.1; subst eo13; have hnb14 := NB214_202.1; have hnc14 := NB202_214.1; obtain ⟨hcz15_0, hcz15_1, hcz15_2, hcz15_3⟩ := cz BK214; obtain ⟨hfz15_0, hfz15_1, hfz15_2, hfz15_3⟩ := fz BK214) | ((with_reducible refine gate_callee (f := 30) rfl ?_); refine gL (some 23) rfl rfl Try.func30 (by kernel_rfl) rfl #[.agg #[.slice Ao13 t206.length co13]] rfl ?_; (with_reducible refine (g_Levels.calls _ _ t206 t215 t218 _ ?side1 ?side2 A4.1).mono ?_); (case side1 => exact c3 (sf24 HO208 BK213 (by decide) BK214 (by decide))); (case side2 => exact (S_reads' HO208.1).2.1); rintro e w16 ⟨v216, rfl, ho0, hb⟩; refine ⟨_, rfl, ?_⟩; have HO217 := aM (S_lower (S_new' ho0 (S_lt (sz (sf24 HO208 BK213 (by decide) BK214 (by decide))))) (below_size (hh HB))); replace HO205 := aM (R_below (rz (rf24 HO205 BK213 (by decide) BK214 (by decide))) hb); replace HO208 := aM (S_elder' (sz (sf24 HO208 BK213 (by decide) BK214 (by decide))) (S_base ho0) hb); replace BK202 := kg (o' := .cells #[.int .i64 0, .string (⟨#[]⟩ : ByteArray), .int .i64 0, .int .i64 0] 28 (0, 0)) BK202 hb; replace BK213 := kg (o' := .cells #[.slice Ao9 t203.length co9, .slice Ao13 t206.length co13] 51 (0, 0)) BK213 hb; replace BK214 := kg (o' := .cells #[.int .i64 t209, .string t210, .int .i64 t211, .int .i64 t212] 28 (0, 0)) BK214 hb; replace HB := bs HB hb; clear hb ho0; obtain ⟨Ao17, co17, eo17⟩ := S_slice HO217.1; subst eo17))
 go_loopg [8, 28] k (fun kq v8 v28 w' => ∃ (x8_1 : List (List ByteArray)) (x28_1 : Int), v28 = .int .i64 x28_1 /\ Az (m_Levels.l0 kq x8_1 t215 (t215.length : Int) x28_1 t203 t206 = some (r1, r2, r3, r4, r5)) /\ Az (kq <= k) /\ Az (Kd.S (Kd.slice 9 Kd.string) 25 w' w.heap.size (fun k_ => some k_ ≠ ((.slice Ao9 t203.length co9) : Value).ownBlock) v8 x8_1) /\ Az (Kd.S (Kd.slice 3 (Kd.int .i64)) 55 w' w.heap.size (fun k_ => some k_ ≠ ((.slice Ao13 t206.length co13) : Value).ownBlock) (.slice Ao17 t215.length co17) t215) /\ Az (Kd.R Kd.string 9 w' w.heap.size (fun _ => True) (.slice Ao9 t203.length co9) t203) /\ Az (Kd.S (Kd.slice 3 (Kd.int .i64)) 55 w' w.heap.size (fun k_ => some k_ ≠ ((.slice Ao17 t215.length co17) : Value).ownBlock) (.slice Ao13 t206.length co13) t206) /\ Az (w'.heap[gb202]? = some (.cells #[.int .i64 0, .string (⟨#[]⟩ : ByteArray), .int .i64 0, .int .i64 0] 28 (0, 0))) /\ Az (w'.heap[gb213]? = some (.cells #[(.slice Ao9 t203.length co9), (.slice Ao13 t206.length co13)] 51 (0, 0))) /\ Az (w'.heap[gb214]? = some (.cells #[.int .i64 t209, .string t210, .int .i64 t211, .int .i64 t212] 28 (0, 0))) /\ Az (Below w.heap.size w w'))
 case atStart => exact ⟨(([] : List (List ByteArray))), (0), rr, H', ⟨Nat.le_refl _⟩, ⟨by first | exact S_nil _ _ _ _ _ | exact N_nil _ _ _ _ _ | exact V_nil _ _ _ _ _ | exact Q_nil _ _ _ _ _ | exact R_nil _ _ _ _ _⟩, ⟨sz (S_mono HO217.1 (fun _ hk => hk.2))⟩, ⟨rk HO205⟩, ⟨sz (S_mono HO208.1 (fun _ hk => hk.2))⟩, ⟨kk BK202⟩, ⟨kk BK213⟩, ⟨kk BK214⟩, ⟨hh HB⟩⟩
 case round =>
  clear H'
  clear c3b0 c3b1 hcz12_0 hcz12_1 hcz15_0 hcz15_1 hcz15_2 hcz15_3 hfz12_0 hfz12_1 hfz15_0 hfz15_1 hfz15_2 hfz15_3
  obtain ⟨x8_1, x28_1, rfl, HA, HK1, HO_8, HO_26, HO_214000, HO_214001, BK202, BK213, BK214, HB⟩ := hrel
  cases gk with
  | zero => exact absurd HA.1 (by simp [m_Levels.l0])
  | succ k1 =>
   have H := HA.1
   clear HA
   simp only [m_Levels.l0] at H
   by_cases c18 : x28_1 < (t215.length : Int)
   rotate_left
   · rw [if_neg c18] at H
     have c18b0 : decide (x28_1 < (t215.length : Int)) = false := decide_eq_false c18
     clear c18
     simp only [Option.some.injEq, Prod.mk.injEq] at H
     obtain ⟨rfl, rfl, rfl, rfl, rfl⟩ := H
     have hnb29 := NB202_213.1
     have hnc29 := NB213_202.1
     have hnb30 := NB202_214.1
     have hnc30 := NB214_202.1
     obtain ⟨hcz31_0, hcz31_1, hcz31_2, hcz31_3⟩ := cz BK202
     obtain ⟨hfz31_0, hfz31_1, hfz31_2, hfz31_3⟩ := fz BK202
     go_wp2
     refine bodyPost_ret (results_tc rfl _ _ gb202 28 #[.int .i64 0, .string (⟨#[]⟩ : ByteArray), .int .i64 0, .int .i64 0] (0, 0) _ rfl (kf BK202) Try.underlying28 rfl (by kernel_rfl)) rfl ?_
     exact ⟨_, by first | rfl | (simp [errW_none, errW_some] <;> rfl) | (simp [*, errW_none, errW_some] <;> rfl), sz (S_mono (S_far (p := ⟨gb202, 3, none⟩) (S_far (p := ⟨gb202, 2, none⟩) (S_far (p := ⟨gb202, 1, none⟩) (S_far (p := ⟨gb202, 0, none⟩) (S_types HO_8.1 BK202.1 (by decide)) (fun _ hk => hk.2) (.int .i64 0)) (fun _ hk => hk.2) (.string (⟨#[]⟩ : ByteArray))) (fun _ hk => hk.2) (.int .i64 0)) (fun _ hk => hk.2) (.int .i64 0)) (fun _ hk => trivial)), hh HB⟩
   rw [if_pos c18] at H
   have c18b0 : decide (x28_1 < (t215.length : Int)) = true := decide_eq_true c18
   clear c18
   by_cases c19 : 0 <= x28_1
   rotate_left
   · rw [if_neg c19] at H
     exact absurd H (by simp)
   rw [if_pos c19] at H
   have c19b0 : decide (0 <= x28_1) = true := decide_eq_true c19
   clear c19
   by_cases c20 : x28_1 < (t215.length : Int)
   rotate_left
   · rw [if_neg c20] at H
     exact absurd H (by simp)
   rw [if_pos c20] at H
   have c20b0 : decide (x28_1 < (t215.length : Int)) = true := decide_eq_true c20
   clear c20
   replace H := Option.bind_eq_some_iff.mp H
   obtain ⟨t220, A210, H⟩ := H
   replace H : (if x8_1.length < 5864062014805 then (m_Levels.l0 k1 (x8_1 ++ [t220]) t215 (t215.length : Int) (wrap64 (x28_1 + 1)) t203 t206) else (none)) = some (r1, r2, r3, r4, r5) := H
   have A21 := aM A210
   clear A210
   by_cases c22 : x8_1.length < 5864062014805
   rotate_left
   · rw [if_neg c22] at H
     exact absurd H (by simp)
   rw [if_pos c22] at H
   have LMc22 := aM c22
   clear c22
   obtain ⟨y223, hy223⟩ : ∃ y_ : List (List ByteArray), y_ = (x8_1 ++ [t220]) := ⟨_, rfl⟩
   replace H : (m_Levels.l0 k1 y223 t215 (t215.length : Int) (wrap64 (x28_1 + 1)) t203 t206) = some (r1, r2, r3, r4, r5) := by first | (rw [hy223]; with_reducible exact H) | (have H2_ := (Option.bind_some _ _).symm.trans H; rw [hy223]; with_reducible exact H2_) | (have H2_ := (Option.bind_some _ _).symm.trans H; with_reducible exact H2_) | with_reducible exact H | (rw [hy223]; exact H) | exact H
   have Ny223 := aM hy223
   clear hy223
   have H' := aM H
   clear H
   have p219 : 0 <= (x28_1 : Int) := dt
   have q219 : x28_1 < (t215.length : Int) := dt
   obtain ⟨ad219, A219_0, c219_0, e219, hx219_0, hl219_0, hi219_0⟩ := at_L11 (S_reads' HO_26.1).2.2 x28_1 p219 q219
   cases e219
   obtain ⟨ce219, hce219, hMe219, hcc219⟩ := S_get HO_26.1 [] x28_1 p219 (by first | exact q219 | exact dt | (have e_ := (S_reads' HO_26.1).1; omega))
   obtain ⟨ve219_0, rfl, ge219_0⟩ := hMe219
   have hv219_0 := hcc219 0 _ rfl
   rw [Nat.add_zero, show ((Kd.slice 3 (Kd.int .i64))).sz = 1 from rfl, Nat.mul_one] at hv219_0
   replace hv219_0 := Option.some.inj (hv219_0.symm.trans hx219_0)
   rw [hv219_0] at ge219_0
   have HL219_0 := aM (show Kd.R (Kd.int .i64) 3 _ _ _ _ (rd_L11 t215 x28_1) from ge219_0)
   clear hv219_0 ge219_0
   clear hcc219 hce219
   have HR219_0 := aM hi219_0
   have HC219_0 := aM hl219_0
   clear hi219_0 hl219_0
   replace p219 := eq_true p219
   replace q219 := eq_true q219
   have hnb23 := NB213_202.1
   have hnc23 := NB202_213.1
   have hnb24 := NB213_214.1
   have hnc24 := NB214_213.1
   obtain ⟨hcz25_0, hcz25_1⟩ := cz2 BK213
   obtain ⟨hfz25_0, hfz25_1⟩ := fz2 BK213
   go_wp2_with (first | ((with_reducible refine gate_callee (f := 26) rfl ?_); refine gL (some 35) rfl rfl Try.func26 (by kernel_rfl) rfl #[.agg #[.slice Ao9 t203.length co9, .slice Ao13 t206.length co13], .slice A219_0 (rd_L11 t215 x28_1).length c219_0] rfl ?_; (with_reducible refine (p_named.calls k1 _ _ t203 _ _ t206 _ _ (rd_L11 t215 x28_1) t220 _ ?side1 ?side2 ?side3 ?side4 ?side5 ?side6 A21.1).mono ?_); (case side1 => exact cr HO_214000); (case side2 => exact (R_reads' HO_214000.1).2.1); (case side3 => repeat (first | exact (S_reads' HO_214001.1).2.2 | (with_reducible refine C_alloc ?_ _) | (with_reducible refine C_drewN ?_ _) | (with_reducible refine C_drew ?_))); (case side4 => exact (S_reads' HO_214001.1).2.1); (case side5 => repeat (first | exact (by repeat (first | (with_reducible exact HR219_0.1) | (with_reducible refine C_alloc ?_ _) | (with_reducible refine C_drewN ?_ _) | (with_reducible refine C_drew ?_) | exact HR219_0.1)) | (with_reducible refine C_alloc ?_ _) | (with_reducible refine C_drewN ?_ _) | (with_reducible refine C_drew ?_))); (case side6 => exact HC219_0.1); rintro e w26 ⟨v221, rfl, ho0, hb⟩; refine ⟨_, rfl, ?_⟩; have HO222 := aM (R_lower (R_new' ho0 (R_lt (rk HO_214000))) (below_size (hh HB))); replace HO_8 := aM (S_elder' (sk HO_8) (R_base ho0) hb); replace HO_26 := sb HO_26 hb; replace HO_214000 := aM (R_elder' (rk HO_214000) (R_base ho0) hb); replace HO_214001 := sb HO_214001 hb; replace HL219_0 := rb HL219_0 hb; replace BK202 := kb BK202 hb; replace BK213 := kb BK213 hb; replace BK214 := kb BK214 hb; replace HR219_0 := aM (C_below (by repeat (first | (with_reducible exact HR219_0.1) | (with_reducible refine C_alloc ?_ _) | (with_reducible refine C_drewN ?_ _) | (with_reducible refine C_drew ?_) | exact HR219_0.1)) hb); replace HB := bs HB hb; clear hb ho0; obtain ⟨Ao28, co28, eo28⟩ := R_slice HO222.1; subst eo28) | ((with_reducible refine gate_builtin (b := .append) (xs := #[.tmp 32, .tmp 36]) rfl ?_); at_builtin; refine S_append (Kd.slice 9 Kd.string) (w0 := w) w.heap.size rfl (.tmp 32) (.tmp 36) 31 25 (.slice none 0 0) 24 rfl Try.underlying31 info25 rfl (by decide) (by omega) u8 x8_1 t220 [.slice Ao28 t220.length co28] (fun k_ => some k_ ≠ (.slice Ao9 t203.length co9 : Value).ownBlock) (fun k_ => some k_ = (.slice Ao28 t220.length co28 : Value).ownBlock) rfl rfl ?aP (fun k_ hk_ => ((R_mono (ok' := fun k_ => ((fun k_ => some k_ ≠ (.slice Ao9 t203.length co9 : Value).ownBlock)) k_ /\ some k_ ≠ (u8 : Value).ownBlock) (R_apart' (HO222.1) (S_typed HO_8.1) (by decide)) (fun k_ hk => ⟨hk.1.2, hk.2⟩))).1 k_ hk_.symm) ?aF ?aO ?aB ?aS ?aL ?_; (case aP => exact M_row (R_mono (R_tight rfl (R_mono (ok' := fun k_ => ((fun k_ => some k_ ≠ (.slice Ao9 t203.length co9 : Value).ownBlock)) k_ /\ some k_ ≠ (u8 : Value).ownBlock) (R_apart' (HO222.1) (S_typed HO_8.1) (by decide)) (fun k_ hk => ⟨hk.1.2, hk.2⟩))) (fun _ h_ => h_))); (case aB => exact (hh HB)); (case aF => exact (fun k_ hk => Kd.fresh' (R_lt (rk HO_214000)) k_ hk)); (case aO => exact (sz (S_mono HO_8.1 (fun k_ hk => ⟨hk.1, fun e_ => hk.2 e_⟩)))); (case aS => exact (below_size (hh HB))); (case aL => have := LMc22.1; omega); intro v224 w27 ho hb hg hat; rw [<- Ny223.1] at ho; have HO225 := aM (ho); replace HO_26 := aM (S_over' (sk HO_26) (S_typed (sk HO_8)) (by decide) hg); replace HO_214000 := aM (R_over' (rk HO_214000) (S_typed (sk HO_8)) (by decide) hg); replace HO_214001 := aM (S_over' (sk HO_214001) (S_typed (sk HO_8)) (by decide) hg); replace BK202 := aM (blk_grown (g := gb202) (o := .cells #[.int .i64 0, .string (⟨#[]⟩ : ByteArray), .int .i64 0, .int .i64 0] 28 (0, 0)) (kk BK202) hg (S_ne HO_8.1 BK202.1 (by decide))); replace BK213 := aM (blk_grown (g := gb213) (o := .cells #[.slice Ao9 t203.length co9, .slice Ao13 t206.length co13] 51 (0, 0)) (kk BK213) hg (S_ne HO_8.1 BK213.1 (by decide))); replace BK214 := aM (blk_grown (g := gb214) (o := .cells #[.int .i64 t209, .string t210, .int .i64 t211, .int .i64 t212] 28 (0, 0)) (kk BK214) hg (S_ne HO_8.1 BK214.1 (by decide))); replace HL219_0 := aM (R_over' (rk HL219_0) (S_typed (sk HO_8)) (by decide) hg); replace HB := aM (hb); clear HO_8 HO222; clear ho hb hg hat))
   go_roundg k1
   case measure => have := HK1.1; omega
   case rel => exact ⟨(y223), (wrap64 (x28_1 + 1)), rr, H', ⟨by have := HK1.1; omega⟩, ⟨sk HO225⟩, ⟨sk HO_26⟩, ⟨rz (R_mono HO_214000.1 (fun _ hk => trivial))⟩, ⟨sk HO_214001⟩, ⟨kk BK202⟩, ⟨kk BK213⟩, ⟨kk BK214⟩, ⟨hh HB⟩⟩
noncomputable def w_same.l0 : Nat -> List ByteArray -> List ByteArray -> Int -> Option (Bool)
 | 0, _, _, _ => none
 | k + 1, x0, x1, x5 => if x5 < (x0.length : Int) then (if 0 <= x5 then (if x5 < (x1.length : Int) then (if (rdOf ByteArray.empty x0 x5).toList = (rdOf ByteArray.empty x1 x5).toList then (w_same.l0 k x0 x1 (wrap64 (x5 + 1))) else (some false)) else (none)) else (none)) else (some true)
noncomputable def w_same.f (k : Nat) (l0 : List ByteArray) (l1 : List ByteArray) : Option (Bool) := if (l0.length : Int) = (l1.length : Int) then (w_same.l0 k l0 l1 0) else (some false)
theorem w_same.calls (k : Nat) (A0 : Option Addr) (c0 : Nat) (l0 : List ByteArray) (A1 : Option Addr) (c1 : Nat) (l1 : List ByteArray) (r : Bool) (w : World) (hr0 : Kd.C Kd.string w A0 l0.length l0) (hc0 : l0.length <= c0) (hr1 : Kd.C Kd.string w A1 l1.length l1) (hc1 : l1.length <= c1) (h : w_same.f k l0 l1 = some r) :
 Calls Try.prog 14 #[.slice A0 l0.length c0, .slice A1 l1.length c1] w fun e w' => e = .returned (.bool r) /\ Drawn0 w w' := by
 have HR0 := aM hr0
 have HC0 := aM hc0
 clear hr0 hc0
 have HR1 := aM hr1
 have HC1 := aM hc1
 clear hr1 hc1
 have H : (if (l0.length : Int) = (l1.length : Int) then (w_same.l0 k l0 l1 0) else (some false)) = some r := h
 clear h
 by_cases c3 : (l0.length : Int) = (l1.length : Int)
 rotate_left
 · rw [if_neg c3] at H
   have c3b0 : ((l0.length : Int) == (l1.length : Int)) = false := beq_eq_false_iff_ne.mpr c3
   have c3b1 : ((l0.length : Int) != (l1.length : Int)) = true := bne_iff_ne.mpr c3
   have c3b2 : (l0.length == l1.length) = false := by first | simpa using c3 | (simp at c3 ⊢; omega)
   obtain rfl := Option.some.inj H
   go_enter Try.func14, Try.ntmps14
   go_wp2
   repeat (go_quiet (fail); try go_wp2)
   go_ret
   exact ⟨by first | rfl | (simp; done) | (simp [*]; done), by repeat (first | exact Drawn0.refl _ | apply Drawn0.step)⟩
 rw [if_pos c3] at H
 have c3b0 : ((l0.length : Int) == (l1.length : Int)) = true := beq_iff_eq.mpr c3
 have c3b1 : ((l0.length : Int) != (l1.length : Int)) = false := bne_eq_false_iff_eq.mpr c3
 have c3b2 : (l0.length == l1.length) = true := by first | simpa using c3 | (simp at c3 ⊢; omega)
 clear c3
 have H' := aM H
 clear H
 go_enter Try.func14, Try.ntmps14
 go_wp2
 repeat (go_quiet (fail); try go_wp2)
 go_loopg [5] k (fun kq v5 w' => ∃ (x5_1 : Int), v5 = .int .i64 x5_1 /\ Az (w_same.l0 kq l0 l1 x5_1 = some r) /\ Az (kq <= k) /\ Drawn0 w w')
 case atStart => exact ⟨(0), rr, H', ⟨Nat.le_refl _⟩, by repeat (first | exact Drawn0.refl _ | apply Drawn0.step)⟩
 case round =>
  clear H'
  clear c3b0 c3b1 c3b2
  obtain ⟨x5_1, rfl, HA, HK1, ⟨m1, rfl⟩⟩ := hrel
  cases gk with
  | zero => exact absurd HA.1 (by simp [w_same.l0])
  | succ k1 =>
   have H := HA.1
   clear HA
   simp only [w_same.l0] at H
   by_cases c4 : x5_1 < (l0.length : Int)
   rotate_left
   · rw [if_neg c4] at H
     have c4b0 : decide (x5_1 < (l0.length : Int)) = false := decide_eq_false c4
     clear c4
     obtain rfl := Option.some.inj H
     go_wp2
     repeat (go_quiet (fail); try go_wp2)
     go_ret
     exact ⟨by first | rfl | (simp; done) | (simp [*]; done), by repeat (first | exact Drawn0.refl _ | apply Drawn0.step)⟩
   rw [if_pos c4] at H
   have c4b0 : decide (x5_1 < (l0.length : Int)) = true := decide_eq_true c4
   clear c4
   by_cases c5 : 0 <= x5_1
   rotate_left
   · rw [if_neg c5] at H
     exact absurd H (by simp)
   rw [if_pos c5] at H
   have c5b0 : decide (0 <= x5_1) = true := decide_eq_true c5
   clear c5
   by_cases c6 : x5_1 < (l1.length : Int)
   rotate_left
   · rw [if_neg c6] at H
     exact absurd H (by simp)
   rw [if_pos c6] at H
   have c6b0 : decide (x5_1 < (l1.length : Int)) = true := decide_eq_true c6
   clear c6
   by_cases c7 : (rdOf ByteArray.empty l0 x5_1).toList = (rdOf ByteArray.empty l1 x5_1).toList
   rotate_left
   · rw [if_neg c7] at H
     have c7b0 : ((rdOf ByteArray.empty l0 x5_1).toList == (rdOf ByteArray.empty l1 x5_1).toList) = false := beq_eq_false_iff_ne.mpr c7
     have c7b1 : ((rdOf ByteArray.empty l0 x5_1).toList != (rdOf ByteArray.empty l1 x5_1).toList) = true := bne_iff_ne.mpr c7
     obtain rfl := Option.some.inj H
     have p226 : 0 <= (x5_1 : Int) := dt
     have q226 : x5_1 < (l0.length : Int) := dt
     obtain ⟨ad226, e226, hx226_0⟩ := Kd.at_string HR0.1 x5_1 p226 q226
     cases e226
     replace p226 := eq_true p226
     replace q226 := eq_true q226
     have p227 : 0 <= (x5_1 : Int) := dt
     have q227 : x5_1 < (l1.length : Int) := dt
     obtain ⟨ad227, e227, hx227_0⟩ := Kd.at_string HR1.1 x5_1 p227 q227
     cases e227
     replace p227 := eq_true p227
     replace q227 := eq_true q227
     go_wp2
     repeat (go_quiet (fail); try go_wp2)
     go_ret
     exact ⟨by first | rfl | (simp; done) | (simp [*]; done), by repeat (first | exact Drawn0.refl _ | apply Drawn0.step)⟩
   rw [if_pos c7] at H
   have c7b0 : ((rdOf ByteArray.empty l0 x5_1).toList == (rdOf ByteArray.empty l1 x5_1).toList) = true := beq_iff_eq.mpr c7
   have c7b1 : ((rdOf ByteArray.empty l0 x5_1).toList != (rdOf ByteArray.empty l1 x5_1).toList) = false := bne_eq_false_iff_eq.mpr c7
   clear c7
   have H' := aM H
   clear H
   have p226 : 0 <= (x5_1 : Int) := dt
   have q226 : x5_1 < (l0.length : Int) := dt
   obtain ⟨ad226, e226, hx226_0⟩ := Kd.at_string HR0.1 x5_1 p226 q226
   cases e226
   replace p226 := eq_true p226
   replace q226 := eq_true q226
   have p227 : 0 <= (x5_1 : Int) := dt
   have q227 : x5_1 < (l1.length : Int) := dt
   obtain ⟨ad227, e227, hx227_0⟩ := Kd.at_string HR1.1 x5_1 p227 q227
   cases e227
   replace p227 := eq_true p227
   replace q227 := eq_true q227
   go_wp2
   repeat (go_quiet (fail); try go_wp2)
   go_roundg k1
   case measure => have := HK1.1; omega
   case rel => exact ⟨(wrap64 (x5_1 + 1)), rr, H', ⟨by have := HK1.1; omega⟩, by repeat (first | exact Drawn0.refl _ | apply Drawn0.step)⟩
end Go.Proofs.Ytmadhaccjmakdaa.P
namespace Go.Proofs.Ytmadhaccjmakdaa
open Go.Shelf Go.Lib Go.RowKit Go.Maps Go.Sort Go.Proofs.Yw.A Go.Proofs.Yw.B Go.Proofs.Yw.C
attribute [local go_sem] max2_int min2_int max_two min_two max_three min_three max_four min_four
open P Mg Od Tj
namespace Mg
def addAll (U : List (List Int)) (v : Int) : List Int -> List (List Int)
  | [] => U
  | x :: l => addAll (U.set x.toNat (U.getD x.toNat [] ++ [v])) v l
def backL (U : List (List Int)) (v : Int) : List (List Int) -> List (List Int)
  | [] => U
  | l :: ls => backL (addAll U v l) (v + 1) ls
def okB (n : Nat) (es : List (List Int)) : Prop := n <= 100 /\ es.length <= 100 /\ ∀ r ∈ es, r.length <= 1000 /\ ∀ x ∈ r, 0 <= x /\ x < (n : Int)
end Mg
namespace P
open Classical in
noncomputable def m_Users.f (l0 : List S42) (s : ByteArray) : Option (List ByteArray × Int × ByteArray × Int × Int) :=
  (Od.lim fun k => m_acyclic.f k l0).bind fun bt =>
    if bt.2.2.1 = 0 then (if okB bt.1.length bt.2.1 then m_reached.f bt.1 bt.2.1 (backL (List.replicate bt.1.length []) 0 bt.2.1) s else none)
    else some ([], bt.2.2.1, bt.2.2.2.1, bt.2.2.2.2.1, bt.2.2.2.2.2)
end P
namespace Mg
def fst4 (w : World) (g : Nat) (c : Int) (x : ByteArray) (a b : Int) : World := (((w.setCell ⟨g, 0, none⟩ (.int .i64 c)).setCell ⟨g, 1, none⟩ (.string x)).setCell ⟨g, 2, none⟩ (.int .i64 a)).setCell ⟨g, 3, none⟩ (.int .i64 b)
theorem info55m2 : (Try.prog.info? 55).map (fun i => (i.zero, i.size, i.bytes)) = some (some (.slice none 0 0), 1, 24) := by kernel_rfl
theorem fst4_f {w : World} {g : Nat} (h : w.heap[g]? = some (Obj.cells #[Value.int .i64 0, Value.string ⟨#[]⟩, Value.int .i64 0, Value.int .i64 0] 28 (0, 0))) (c : Int) (x : ByteArray) (a b : Int) : (fst4 w g c x a b).heap[g]? = some (Obj.cells #[.int .i64 c, .string x, .int .i64 a, .int .i64 b] 28 (0, 0)) :=
  blk_put (blk_put (blk_put (blk_put h 0 _ rfl) 1 _ rfl) 2 _ rfl) 3 _ rfl
theorem fst4_below {w W : World} {B g : Nat} (h : Below B w W) (hg : B <= g) (c : Int) (x : ByteArray) (a b : Int) : Below B w (fst4 W g c x a b) := by
  unfold fst4
  exact (((h.setCell hg _).setCell hg _).setCell hg _).setCell hg _
theorem fst4_heap (w : World) (g : Nat) (c : Int) (x : ByteArray) (a b : Int) (k : Nat) (h : k ≠ g) : (fst4 w g c x a b).heap[k]? = w.heap[k]? := by
  unfold fst4
  rw [Below.heap_setCell _ _ _ k h, Below.heap_setCell _ _ _ k h, Below.heap_setCell _ _ _ k h, Below.heap_setCell _ _ _ k h]
theorem Users_fault (k : Nat) (A0 : Option Addr) (c0 : Nat) (l0 : List S42) (s : ByteArray) (w : World) (hr0 : Kd.C k42 w A0 l0.length l0) (hc0 : l0.length <= c0)
    (t1 : List ByteArray) (t2 : List (List Int)) (t3 : Int) (t4 : ByteArray) (t5 t6 : Int) (hA : m_acyclic.f k l0 = some (t1, t2, t3, t4, t5, t6)) (h3 : t3 ≠ 0) :
    Calls Try.prog 17 #[.slice A0 l0.length c0, .string s] w fun e w' => ∃ v0_ : Value, e = .returned (.tuple #[v0_, .agg #[.int .i64 t3, .string t4, .int .i64 t5, .int .i64 t6]]) /\ Kd.R Kd.string 9 w' w.heap.size (fun _ => True) v0_ [] /\ Below w.heap.size w w' := by
  have hu51 := Try.underlying51
  have hu49 := Try.underlying49
  have hu28 := Try.underlying28
  have q1 : (t3 == 0) = false := beq_eq_false_iff_ne.mpr h3
  have q2 : (t3 != 0) = true := bne_iff_ne.mpr h3
  have HR0 := Az.mk hr0
  have HC0 := Az.mk hc0
  have HA := Az.mk hA
  clear hr0 hc0 hA h3
  go_enter Try.func17, Try.ntmps17
  go_upto_region 3 with (first | (go_at_call 24; (refine (m_acyclic.calls k _ _ l0 t1 t2 t3 t4 t5 t6 _ ?s1 HC0.1 HA.1).mono ?_); (case s1 => repeat (first | exact HR0.1 | (with_reducible refine Kd.C_alloc ?_ _) | (with_reducible refine Kd.C_drewN ?_ _) | (with_reducible refine Kd.C_drew ?_))); rintro e w5 ⟨v0, v1, rfl, hn, he, hb⟩; obtain ⟨An, cn, rfl⟩ := Kd.R_slice hn; obtain ⟨Ae, ce, rfl⟩ := Kd.S_slice he; have HN := Az.mk hn; have HE := Az.mk he; have HB := Az.mk hb; clear hn he hb))
  have b0 := (MapKept.heap_alloc w (Obj.cells #[Value.int .i64 0, Value.string ⟨#[]⟩, Value.int .i64 0, Value.int .i64 0] 28)).1
  have hb0 := below_alloc (Below.refl w.heap.size w) (Obj.cells #[Value.int .i64 0, Value.string ⟨#[]⟩, Value.int .i64 0, Value.int .i64 0] 28)
  have b5 := blk_below b0 HB.1
  have hb5 : Below w.heap.size w w5 := hb0.trans (HB.1.mono hb0.size)
  have f0 := blk_alloc (blk_alloc b5 (Obj.cells #[Value.slice An t1.length cn, Value.slice Ae t2.length ce] 51)) (Obj.cells #[Value.int .i64 t3, Value.string t4, Value.int .i64 t5, Value.int .i64 t6] 28)
  have f2 := (MapKept.heap_alloc (w5.alloc (Obj.cells #[Value.slice An t1.length cn, Value.slice Ae t2.length ce] 51)) (Obj.cells #[Value.int .i64 t3, Value.string t4, Value.int .i64 t5, Value.int .i64 t6] 28)).1
  have z1 : (w5.alloc (Obj.cells #[Value.slice An t1.length cn, Value.slice Ae t2.length ce] 51)).heap.size = w5.heap.size + 1 := by simp
  rw [z1] at f2
  have hb7 := below_alloc (below_alloc hb5 (Obj.cells #[Value.slice An t1.length cn, Value.slice Ae t2.length ce] 51)) (Obj.cells #[Value.int .i64 t3, Value.string t4, Value.int .i64 t5, Value.int .i64 t6] 28)
  generalize (w5.alloc (Obj.cells #[Value.slice An t1.length cn, Value.slice Ae t2.length ce] 51)).alloc (Obj.cells #[Value.int .i64 t3, Value.string t4, Value.int .i64 t5, Value.int .i64 t6] 28) = w7 at *
  have F0 := Az.mk f0
  have HB7 := Az.mk hb7
  have hlt := blk_lt b5
  have hne : w5.heap.size + 1 ≠ w.heap.size := by omega
  have x0 := blk_cell f2 0
  have x1 := blk_cell f2 1
  have x2 := blk_cell f2 2
  have x3 := blk_cell f2 3
  have y0 := blk_cell f0 0
  have y1 := blk_cell f0 1
  have y2 := blk_cell f0 2
  have y3 := blk_cell f0 3
  have e0 := blk_frozen f0 0
  have e1 := blk_frozen f0 1
  have e2 := blk_frozen f0 2
  have e3 := blk_frozen f0 3
  clear b0 hb0 b5 hb5 f0 f2 z1 hb7 hlt hne q1 q2
  go_region
  all_goals go_wp2
  all_goals
    refine bodyPost_ret (results_tc rfl _ _ w.heap.size 28 #[.int .i64 t3, .string t4, .int .i64 t5, .int .i64 t6] (0, 0) _ rfl (by first | exact fst4_f F0.1 t3 t4 t5 t6 | exact blk_drew (fst4_f F0.1 t3 t4 t5 t6) | exact fst4_f (blk_drew F0.1) t3 t4 t5 t6) Try.underlying28 rfl hi28) rfl ?_
    exact ⟨_, rfl, Kd.R_nil _ _ _ _ _, by first | exact fst4_below HB7.1 (Nat.le_refl _) t3 t4 t5 t6 | exact below_drew (fst4_below HB7.1 (Nat.le_refl _) t3 t4 t5 t6) | exact fst4_below (below_drew HB7.1) (Nat.le_refl _) t3 t4 t5 t6⟩
theorem Users_walk (k : Nat) (A0 : Option Addr) (c0 : Nat) (l0 : List S42) (s : ByteArray) (w : World) (hr0 : Kd.C k42 w A0 l0.length l0) (hc0 : l0.length <= c0)
    (t1 : List ByteArray) (t2 : List (List Int)) (t4 : ByteArray) (t5 t6 : Int) (hA : m_acyclic.f k l0 = some (t1, t2, 0, t4, t5, t6)) (hok : okB t1.length t2)
    (r1 : List ByteArray) (r2 : Int) (r3 : ByteArray) (r4 r5 : Int) (hRe : m_reached.f t1 t2 (backL (List.replicate t1.length []) 0 t2) s = some (r1, r2, r3, r4, r5)) :
    Calls Try.prog 17 #[.slice A0 l0.length c0, .string s] w fun e w' => ∃ v0_ : Value, e = .returned (.tuple #[v0_, .agg #[.int .i64 r2, .string r3, .int .i64 r4, .int .i64 r5]]) /\ Kd.R Kd.string 9 w' w.heap.size (fun _ => True) v0_ r1 /\ Below w.heap.size w w' := by
  have hu51 := Try.underlying51
  have hu49 := Try.underlying49
  have hu28 := Try.underlying28
  have HR0 := Az.mk hr0
  have HC0 := Az.mk hc0
  have HA := Az.mk hA
  have HOK := Az.mk hok
  have HRE := Az.mk hRe
  clear hr0 hc0 hA hok hRe
  go_enter Try.func17, Try.ntmps17
  go_upto_region 4 with (first | (go_at_call 24; (refine (m_acyclic.calls k _ _ l0 t1 t2 0 t4 t5 t6 _ ?s1 HC0.1 HA.1).mono ?_); (case s1 => repeat (first | exact HR0.1 | (with_reducible refine Kd.C_alloc ?_ _) | (with_reducible refine Kd.C_drewN ?_ _) | (with_reducible refine Kd.C_drew ?_))); rintro e w5 ⟨v0, v1, rfl, hn, he, hb⟩; obtain ⟨An, cn, rfl⟩ := Kd.R_slice hn; obtain ⟨Ae, ce, rfl⟩ := Kd.S_slice he; have HN := Az.mk hn; have HE := Az.mk he; have HB := Az.mk hb; clear hn he hb))
  have b0 := (MapKept.heap_alloc w (Obj.cells #[Value.int .i64 0, Value.string ⟨#[]⟩, Value.int .i64 0, Value.int .i64 0] 28)).1
  have hb0 := below_alloc (Below.refl w.heap.size w) (Obj.cells #[Value.int .i64 0, Value.string ⟨#[]⟩, Value.int .i64 0, Value.int .i64 0] 28)
  have hz0 : (w.alloc (Obj.cells #[Value.int .i64 0, Value.string ⟨#[]⟩, Value.int .i64 0, Value.int .i64 0] 28)).heap.size = w.heap.size + 1 := by simp
  have b5 := blk_below b0 HB.1
  have hb5 : Below w.heap.size w w5 := hb0.trans (HB.1.mono hb0.size)
  have hs5 := HB.1.size
  have f0 := blk_alloc (blk_alloc b5 (Obj.cells #[Value.slice An t1.length cn, Value.slice Ae t2.length ce] 51)) (Obj.cells #[Value.int .i64 0, Value.string t4, Value.int .i64 t5, Value.int .i64 t6] 28)
  have f1 := blk_alloc (MapKept.heap_alloc w5 (Obj.cells #[Value.slice An t1.length cn, Value.slice Ae t2.length ce] 51)).1 (Obj.cells #[Value.int .i64 0, Value.string t4, Value.int .i64 t5, Value.int .i64 t6] 28)
  have hb57 := below_alloc (below_alloc (Below.refl w5.heap.size w5) (Obj.cells #[Value.slice An t1.length cn, Value.slice Ae t2.length ce] 51)) (Obj.cells #[Value.int .i64 0, Value.string t4, Value.int .i64 t5, Value.int .i64 t6] 28)
  have hs7 : ((w5.alloc (Obj.cells #[Value.slice An t1.length cn, Value.slice Ae t2.length ce] 51)).alloc (Obj.cells #[Value.int .i64 0, Value.string t4, Value.int .i64 t5, Value.int .i64 t6] 28)).heap.size = w5.heap.size + 1 + 1 := by simp
  generalize (w5.alloc (Obj.cells #[Value.slice An t1.length cn, Value.slice Ae t2.length ce] 51)).alloc (Obj.cells #[Value.int .i64 0, Value.string t4, Value.int .i64 t5, Value.int .i64 t6] 28) = w7 at *
  have F0 := Az.mk f0
  have F1 := Az.mk f1
  have HB5 := Az.mk hb5
  have HB57 := Az.mk hb57
  have HS7 := Az.mk hs7
  have HS5 := Az.mk (show w.heap.size + 1 <= w5.heap.size by omega)
  have HN7 := Az.mk (Kd.R_below HN.1 hb57)
  have HE7 := Az.mk (Kd.S_below HE.1 hb57)
  have x0 := blk_cell f1 0
  clear b0 hb0 hz0 b5 hb5 hs5 f0 f1 hb57 hs7
  have hn100 : t1.length <= 100 := HOK.1.1
  obtain ⟨i0, e0, e1, e2, e3⟩ := info_parts info55m2
  have hmk := run_make w7 47 55 i0 _ Try.underlying47 e0 e1 .i64 .i64 t1.length t1.length (by omega) (by omega) (by rw [e3]; omega) (by omega)
  rw [e2, Nat.mul_one] at hmk
  have hz0 : (Value.slice none 0 0).cells = #[.slice none 0 0] := rfl
  rw [hz0] at hmk
  clear e0 e1 e2 e3 hz0
  go_upto_region 5 with fail
  have m1 := (MapKept.heap_alloc w7 (Obj.cells (madeCells #[Value.slice none 0 0] t1.length) 55)).1
  have hm1 := below_alloc (Below.refl w7.heap.size w7) (Obj.cells (madeCells #[Value.slice none 0 0] t1.length) 55)
  have hm2 := below_alloc hm1 (Obj.cells #[Value.slice (some ⟨w7.heap.size, 0, none⟩) t1.length t1.length] 49)
  have hS := S_made (base := w7.heap.size) (ok := fun k => w7.heap.size <= k /\ k ≠ w7.heap.size + 1) m1 (Nat.le_refl _) (by unfold maxLen; omega) ⟨Nat.le_refl _, by omega⟩
  have hS9 := Kd.S_alloc hS (Obj.cells #[Value.slice (some ⟨w7.heap.size, 0, none⟩) t1.length t1.length] 49)
  have m2 := (MapKept.heap_alloc (w7.alloc (Obj.cells (madeCells #[Value.slice none 0 0] t1.length) 55)) (Obj.cells #[Value.slice (some ⟨w7.heap.size, 0, none⟩) t1.length t1.length] 49)).1
  have hz8 : (w7.alloc (Obj.cells (madeCells #[Value.slice none 0 0] t1.length) 55)).heap.size = w7.heap.size + 1 := by simp
  have hz9 : ((w7.alloc (Obj.cells (madeCells #[Value.slice none 0 0] t1.length) 55)).alloc (Obj.cells #[Value.slice (some ⟨w7.heap.size, 0, none⟩) t1.length t1.length] 49)).heap.size = w7.heap.size + 1 + 1 := by simp
  rw [hz8] at m2
  generalize (w7.alloc (Obj.cells (madeCells #[Value.slice none 0 0] t1.length) 55)).alloc (Obj.cells #[Value.slice (some ⟨w7.heap.size, 0, none⟩) t1.length t1.length] 49) = w9 at *
  obtain ⟨go, hgo⟩ : ∃ go, go = w7.heap.size := ⟨_, rfl⟩
  rw [<- hgo] at hS9 m2 hm2 hz9 ⊢
  have HGO := Az.mk hgo
  have HS9 := Az.mk hS9
  have HM2 := Az.mk m2
  have HB9 := Az.mk hm2
  have HZ9 := Az.mk hz9
  have x1 := blk_cell (blk_below F1.1 (by rw [<- hgo]; exact hm2)) 1
  clear m1 hm1 hm2 hS hS9 m2 hz8 hz9 hgo hmk x0 hn100
  go_wp2
  clear x1
  obtain ⟨BK, hBK⟩ : ∃ BK, backL (List.replicate t1.length []) 0 t2 = BK := ⟨_, rfl⟩
  have HBK := Az.mk hBK
  clear hBK
  go_loopg [31] t2.length (fun kq v31 w' => ∃ (x : Int) (U : List (List Int)), v31 = .int .i64 x /\ Az (0 <= x /\ x.toNat + kq = t2.length) /\ Az (U.length = t1.length /\ backL U x (t2.drop x.toNat) = BK /\ (∀ r ∈ U, r.length <= x.toNat * 1000) /\ Kd.S KS 55 w' go (fun k => go <= k /\ k ≠ go + 1) (.slice (some ⟨go, 0, none⟩) t1.length t1.length) U /\ w'.heap[go + 1]? = some (Obj.cells #[Value.slice (some ⟨go, 0, none⟩) t1.length t1.length] 49) /\ Below go w7 w'))
  case atStart => exact ⟨0, _, rfl, ⟨by decide, by simp⟩, ⟨List.length_replicate .., by simpa using HBK.1, fun r hr => by rw [List.eq_of_mem_replicate hr]; simp, HS9.1, HM2.1, HB9.1⟩⟩
  case round =>
    obtain ⟨x, U, rfl, hk, hI⟩ := hrel
    clear HS9 HM2 HB9
    have hk0 := hk.1.1
    by_cases hx : x < (t2.length : Int)
    · have q3 : decide (x < (t2.length : Int)) = true := decide_eq_true hx
      have HX := Az.mk hx
      have hbw : Below w7.heap.size w7 wr := by rw [<- HGO.1]; exact hI.1.2.2.2.2.2
      obtain ⟨hl1, hc1, hC1⟩ := Kd.S_reads' HE7.1
      obtain ⟨ad, A3, c3, rfl, g0, g1, g2⟩ := at_L11 hC1 x hk0 hx
      replace g0 := (hbw.cell (World.block_lt_of_cell? _ _ g0)).trans g0
      have hrm : rd_L11 t2 x ∈ t2 := by
        have hi : x.toNat < t2.length := by omega
        have : rd_L11 t2 x = t2[x.toNat] := by simp [rd_L11, List.getD_eq_getElem?_getD, List.getElem?_eq_getElem hi]
        rw [this]; exact List.getElem_mem hi
      have hrb := HOK.1.2.2 _ hrm
      have hdr : t2.drop x.toNat = rd_L11 t2 x :: t2.drop (x.toNat + 1) := by
        have hi : x.toNat < t2.length := by omega
        rw [List.drop_eq_getElem_cons hi]
        simp [rd_L11, List.getD_eq_getElem?_getD, List.getElem?_eq_getElem hi]
      have hbk := hI.1.2.1
      rw [hdr] at hbk
      generalize rd_L11 t2 x = rw1 at *
      have p1 := eq_true hk0
      have p2 : (x < (t2.length : Int)) = True := eq_true hx
      have HRB := Az.mk hrb
      have HBK1 : Az (backL (addAll U x rw1) (x + 1) (t2.drop (x.toNat + 1)) = BK) := ⟨hbk⟩
      have H2 := Az.mk g2
      have hxr : wrap64 x = x := by unfold wrap64; have := HOK.1.2.1; omega
      obtain ⟨gk1, rfl⟩ : ∃ g, g = gk := ⟨_, rfl⟩
      clear hl1 hc1 hC1 hrm hrb hdr hbk g1 g2 hx hk0 hbw
      go_wp2
      clear g0
      obtain ⟨wo, rfl⟩ : ∃ wo, wo = wr := ⟨_, rfl⟩
      go_loopg [38] rw1.length (fun kq v38 w' => ∃ (z : Int) (V : List (List Int)), v38 = .int .i64 z /\ Az (0 <= z /\ z.toNat + kq = rw1.length) /\ Az (V.length = t1.length /\ addAll V x (rw1.drop z.toNat) = addAll U x rw1 /\ (∀ r ∈ V, r.length <= x.toNat * 1000 + z.toNat) /\ Kd.S KS 55 w' go (fun k => go <= k /\ k ≠ go + 1) (.slice (some ⟨go, 0, none⟩) t1.length t1.length) V /\ w'.heap[go + 1]? = some (Obj.cells #[Value.slice (some ⟨go, 0, none⟩) t1.length t1.length] 49) /\ Below go w7 w'))
      case atStart => exact ⟨0, U, rfl, ⟨by decide, by simp⟩, ⟨hI.1.1, by simp, fun r hr => hI.1.2.2.1 r hr, hI.1.2.2.2.1, hI.1.2.2.2.2.1, hI.1.2.2.2.2.2⟩⟩
      case round =>
        obtain ⟨z, V, rfl, hk2, hJ⟩ := hrel
        have hk20 := hk2.1.1
        by_cases hz : z < (rw1.length : Int)
        · have q4 : decide (z < (rw1.length : Int)) = true := decide_eq_true hz
          have HZ := Az.mk hz
          have hbw2 : Below w7.heap.size w7 wr := by rw [<- HGO.1]; exact hJ.1.2.2.2.2.2
          obtain ⟨ad2, rfl, y0⟩ := Kd.at_int (Kd.C_below H2.1 hbw2) z hk20 hz
          have hdm : Go.Proofs.Yw.A.rd rw1 z ∈ rw1 := by
            have hi : z.toNat < rw1.length := by omega
            have : Go.Proofs.Yw.A.rd rw1 z = rw1[z.toNat] := by simp [Go.Proofs.Yw.A.rd, rdOf, List.getD_eq_getElem?_getD, List.getElem?_eq_getElem hi]
            rw [this]; exact List.getElem_mem hi
          obtain ⟨hd0, hd1⟩ := HRB.1.2 _ hdm
          have hdr : rw1.drop z.toNat = Go.Proofs.Yw.A.rd rw1 z :: rw1.drop (z.toNat + 1) := by
            have hi : z.toNat < rw1.length := by omega
            rw [List.drop_eq_getElem_cons hi]
            simp [Go.Proofs.Yw.A.rd, rdOf, List.getD_eq_getElem?_getD, List.getElem?_eq_getElem hi]
          have hadd := hJ.1.2.1
          rw [hdr] at hadd
          generalize Go.Proofs.Yw.A.rd rw1 z = d at *
          have HADD : Az (addAll (V.set d.toNat (V.getD d.toNat [] ++ [x])) x (rw1.drop (z.toNat + 1)) = addAll U x rw1) := ⟨hadd⟩
          have p3 := eq_true hk20
          have p4 : (z < (rw1.length : Int)) = True := eq_true hz
          clear hdm hdr hadd hz hk20 hbw2
          go_upto_region 11 with fail
          clear y0
          have hsz := blk_lt hJ.1.2.2.2.2.1
          obtain ⟨v0, oki, u1, u2, u3, u4, u5⟩ := S_upd (Kd.S_drew hJ.1.2.2.2.1) (fun k hk => by have : wr.drew.heap.size = wr.heap.size := rfl; rw [this] at hk; omega) d hd0 hd1
          have U3 := Az.mk (Kd.R_mono (ok' := fun k => oki k \/ wr.heap.size <= k) u3 (fun k hk => .inl hk))
          have U4 := Az.mk u4
          have U5 := Az.mk (@u5)
          have U6 := Az.mk u3
          have hrl : (row V d).length <= 101000 := by
            have h1 := HOK.1.2.1
            have h2 := hk.1
            have h3 := hk2.1
            have h4 := HRB.1.1
            have h5 := HX.1
            by_cases hi : d.toNat < V.length
            · have : row V d ∈ V := by unfold row; rw [List.getD_eq_getElem?_getD, List.getElem?_eq_getElem hi]; exact List.getElem_mem hi
              have h6 := hJ.1.2.2.1 _ this
              have h7 : x.toNat <= 100 := by omega
              have h8 : z.toNat <= 1000 := by omega
              omega
            · unfold row
              rw [List.getD_eq_getElem?_getD, List.getElem?_eq_none (by omega)]
              simp
          have HRL := Az.mk (show ((row V d).length + 1) * 8 <= 140737488355328 by omega)
          have c8 : wr.cell? ⟨go + 1, 0, none⟩ = some (Value.slice (some ⟨go, 0, none⟩) t1.length t1.length) := blk_cell hJ.1.2.2.2.2.1 0
          have w1' : wr.cell? ⟨go, d.toNat, none⟩ = some v0 := u1
          have c8d : (wr.alloc (Obj.cells #[Value.int .i64 x] 3)).cell? ⟨go + 1, 0, none⟩ = some (Value.slice (some ⟨go, 0, none⟩) t1.length t1.length) := ((below_alloc (Below.refl wr.heap.size wr) _).cell (World.block_lt_of_cell? _ _ c8)).trans c8
          have c8e : (wr.drew.alloc (Obj.cells #[Value.int .i64 x] 3)).cell? ⟨go + 1, 0, none⟩ = some (Value.slice (some ⟨go, 0, none⟩) t1.length t1.length) := ((below_alloc (below_drew (Below.refl wr.heap.size wr)) _).cell (World.block_lt_of_cell? _ _ c8)).trans c8
          have w1d : (wr.alloc (Obj.cells #[Value.int .i64 x] 3)).cell? ⟨go, d.toNat, none⟩ = some v0 := ((below_alloc (Below.refl wr.heap.size wr) _).cell (World.block_lt_of_cell? _ _ w1')).trans w1'
          have w1e : (wr.drew.alloc (Obj.cells #[Value.int .i64 x] 3)).cell? ⟨go, d.toNat, none⟩ = some v0 := ((below_alloc (below_drew (Below.refl wr.heap.size wr)) _).cell (World.block_lt_of_cell? _ _ w1')).trans w1'
          have hgb : wr.drew.heap[go + 1]? = some (Obj.cells #[Value.slice (some ⟨go, 0, none⟩) t1.length t1.length] 49) := hJ.1.2.2.2.2.1
          have HGB := Az.mk hgb
          have hgl : go <= wr.drew.heap.size := by have : wr.drew.heap.size = wr.heap.size := rfl; omega
          have hfr : ∀ k, wr.drew.heap.size <= k -> oki k \/ wr.heap.size <= k := fun k hk => .inr hk
          have HFR := Az.mk hfr
          have HGL := Az.mk hgl
          have U2 := Az.mk u2
          have p5 := eq_true hd0
          have p6 : (d < (t1.length : Int)) = True := eq_true hd1
          have HD0 := Az.mk (And.intro hd0 hd1)
          clear u1 u2 u3 u4 u5 hrl hgb hgl hfr hsz hd0 hd1
          have HSTEP : Az (∀ (w3 : World) (A2 : Option Addr) (cr : Nat), wr.drew.grownBy w3 v0.ownBlock -> Kd.R (Kd.int .i64) 3 w3 go (fun k => oki k \/ wr.heap.size <= k) (.slice A2 (row V d ++ [x]).length cr) (row V d ++ [x]) -> w3.heap[go + 1]? = some (Obj.cells #[Value.slice (some ⟨go, 0, none⟩) t1.length t1.length] 49) ->
              (V.set d.toNat (row V d ++ [x])).length = t1.length /\ (∀ r ∈ V.set d.toNat (row V d ++ [x]), r.length <= x.toNat * 1000 + (z.toNat + 1)) /\ Kd.S KS 55 (w3.setCell ⟨go, d.toNat, none⟩ (.slice A2 ((row V d).length + 1) cr)) go (fun k => go <= k /\ k ≠ go + 1) (.slice (some ⟨go, 0, none⟩) t1.length t1.length) (V.set d.toNat (row V d ++ [x])) /\ (w3.setCell ⟨go, d.toNat, none⟩ (.slice A2 ((row V d).length + 1) cr)).heap[go + 1]? = some (Obj.cells #[Value.slice (some ⟨go, 0, none⟩) t1.length t1.length] 49) /\ Below go w7 (w3.setCell ⟨go, d.toNat, none⟩ (.slice A2 ((row V d).length + 1) cr))) := ⟨by
            intro w3 A2 cr hg hr hb
            have hS := U5.1 w3 _ _ hg hr
            have e9 : (row V d ++ [x]).length = (row V d).length + 1 := by simp
            rw [e9] at hS
            refine ⟨by rw [List.length_set]; exact hJ.1.1, fun r hr2 => ?_, hS.1, blk_grown hb hS.2 (by intro e; injection e with e; omega), ?_⟩
            · rcases List.mem_or_eq_of_mem_set hr2 with h | h
              · have := hJ.1.2.2.1 r h; omega
              · subst h
                rw [e9]
                by_cases hi : d.toNat < V.length
                · have hm : row V d ∈ V := by unfold row; rw [List.getD_eq_getElem?_getD, List.getElem?_eq_getElem hi]; exact List.getElem_mem hi
                  have := hJ.1.2.2.1 _ hm
                  omega
                · have : row V d = [] := by unfold row; rw [List.getD_eq_getElem?_getD, List.getElem?_eq_none (by omega)]; rfl
                  rw [this, List.length_nil]; omega
            · exact ((below_drew hJ.1.2.2.2.2.2).grown hg HGL.1 (fun k hk => (U4.1 k (U6.1.1 k hk)).1.1)).setCell (Nat.le_refl _) _⟩
          go_region_law ((refine Kd.R_append_step (Kd.int .i64) (w0 := wr.drew) (W := wr.drew) go rfl (.tmp 49) (.tmp 51) 55 3 (.int .i64 0) 8 rfl Try.underlying55 info3 rfl (by decide) (by decide) v0 (row V d) x [.int .i64 x] (fun k => oki k \/ wr.heap.size <= k) (fun _ => False) rfl rfl rfl (fun _ hk => hk.elim) HFR.1 U3.1 (Below.refl _ _) HGL.1 HRL.1 ?_); intro v1 w3 ho hb1 hg hat; obtain ⟨A2, cr, rfl⟩ := Kd.R_slice ho; have hnm : some (go + 1) ≠ v0.ownBlock := (fun e => (U4.1 (go + 1) (U6.1.1 _ e.symm)).1.2 rfl); have hng : some go ≠ v0.ownBlock := (fun e => (U4.1 go (U6.1.1 _ e.symm)).2 rfl); have hgs : go < wr.drew.heap.size := (by have := blk_lt HGB.1; omega); have k1 : w3.cell? ⟨go + 1, 0, none⟩ = some (Value.slice (some ⟨go, 0, none⟩) t1.length t1.length) := blk_cell (blk_grown HGB.1 hg hnm) 0; have k2 : w3.cell? ⟨go, d.toNat, none⟩ = some v0 := (World.cell?_of_block (hg.block go hgs hng)).trans w1'; have k3 : w3.frozen? ⟨go, d.toNat, none⟩ = false := (World.frozen?_of_block (hg.block go hgs hng)).trans U2.1; have G1 := Az.mk hg; have R1 := Az.mk ho; have B1 := Az.mk (blk_grown HGB.1 hg hnm); clear hg ho hb1 hat hnm hng hgs)
          all_goals go_wp2
          all_goals go_roundg (gk - 1)
          all_goals first
            | (have h1 := hk2.1; have h2 := HZ.1; omega)
            | (have h1 := hk2.1
               have h2 := HZ.1
               have h4 := HRB.1.1
               have et : (z + 1).toNat = z.toNat + 1 := by omega
               have hst := HSTEP.1 _ _ _ G1.1 R1.1 B1.1
               exact ⟨z + 1, _, by rw [show wrap64 (z + 1) = z + 1 from by unfold wrap64; omega], ⟨by omega, by omega⟩, ⟨hst.1, by rw [et]; exact HADD.1, by rw [et]; exact hst.2.1, hst.2.2.1, hst.2.2.2.1, hst.2.2.2.2⟩⟩)
        · have q4 : decide (z < (rw1.length : Int)) = false := decide_eq_false hz
          have hd : rw1.drop z.toNat = [] := List.drop_of_length_le (by have := hk2.1; omega)
          have hJ2 := hJ.1
          rw [hd] at hJ2
          have HJ2 := Az.mk hJ2
          clear hd hJ2 hz hk20
          go_wp2
          go_roundg (gk1 - 1)
          case measure => have := hk.1; have := HX.1; omega
          case rel =>
            have h1 := hk.1
            have h2 := HX.1
            have h3 := hk2.1
            have h4 := HRB.1.1
            have h5 := HOK.1.2.1
            have et : (x + 1).toNat = x.toNat + 1 := by omega
            have hv : V = addAll U x rw1 := HJ2.1.2.1
            exact ⟨x + 1, V, by rw [show wrap64 (x + 1) = x + 1 from by unfold wrap64; omega], ⟨by omega, by omega⟩, ⟨HJ2.1.1, by rw [et, hv]; exact HBK1.1, fun r hr => by have := HJ2.1.2.2.1 r hr; omega, HJ2.1.2.2.2.1, HJ2.1.2.2.2.2.1, HJ2.1.2.2.2.2.2⟩⟩
    · have q3 : decide (x < (t2.length : Int)) = false := decide_eq_false hx
      have hd : t2.drop x.toNat = [] := List.drop_of_length_le (by have := hk.1; omega)
      have hI2 := hI.1
      rw [hd] at hI2
      obtain ⟨i1, rfl, i3, i4, i5, i6⟩ := hI2
      have hbw : Below w7.heap.size w7 wr := by rw [<- HGO.1]; exact i6
      have HBW := Az.mk hbw
      have f0 := blk_below F0.1 hbw
      have f1 := blk_below F1.1 hbw
      have HF0 := Az.mk f0
      have x0 := blk_cell f1 0
      have x1 := blk_cell f1 1
      have z0 := blk_cell i5 0
      have hN := plainR (Kd.R_below HN7.1 hbw)
      have hE := Kd.S_reads' (Kd.S_below HE7.1 hbw)
      have hU : t1.length = (backL U x []).length /\ t1.length <= t1.length /\ KS.C wr (some ⟨go, 0, none⟩) (backL U x []).length (backL U x []) := Kd.S_reads' i4
      have hbk := HBK.1
      have hre := HRE.1
      rw [hbk] at hre
      have hcall := m_reached.calls _ cn t1 _ ce t2 _ t1.length (backL U x []) s r1 r2 r3 r4 r5 wr hN.2.2 hN.2.1 hE.2.2 hE.2.1 hU.2.2 (by rw [<- hU.1]; exact Nat.le_refl _) hre
      rw [<- hU.1] at hcall
      have HCALL := Az.mk hcall
      clear hd i1 i3 i4 i5 i6 hbw f0 f1 hN hE hU hbk hre hcall hx hk0 hI
      go_wp2_with (go_at_call 31; (refine HCALL.1.mono ?_); rintro e w10 ⟨v10, rfl, hr10, hb10⟩; have HR10 := Az.mk hr10; have HB10 := Az.mk hb10; have g0 := blk_below HF0.1 hb10; have HG0 := Az.mk g0; have y0 := blk_cell g0 0; have y1 := blk_cell g0 1; have y2 := blk_cell g0 2; have y3 := blk_cell g0 3; have e0 := blk_frozen g0 0; have e1 := blk_frozen g0 1; have e2 := blk_frozen g0 2; have e3 := blk_frozen g0 3; clear hr10 hb10 g0)
      refine bodyPost_ret (results_tc rfl _ _ w.heap.size 28 #[.int .i64 r2, .string r3, .int .i64 r4, .int .i64 r5] (0, 0) _ rfl (fst4_f HG0.1 r2 r3 r4 r5) Try.underlying28 rfl hi28) rfl ?_
      have hlt : w.heap.size < wr.heap.size := by have h1 := blk_lt HF0.1; exact h1
      have hall : Below w.heap.size w w10 := ((HB5.1.trans (HB57.1.mono HB5.1.size)).trans (HBW.1.mono (by have := HB5.1.size; have := HB57.1.size; omega))).trans (HB10.1.mono (Nat.le_of_lt hlt))
      refine ⟨_, rfl, ?_, fst4_below hall (Nat.le_refl _) r2 r3 r4 r5⟩
      exact Kd.R_lower (Kd.R_mono (Kd.R_move (Kd.R_bound HR10.1) (fun k hk => fst4_heap w10 _ r2 r3 r4 r5 k (by have := hk.2.1; omega))) (fun _ _ => trivial)) (Nat.le_of_lt hlt)
end Mg
namespace P
theorem m_Users.calls (A0 : Option Addr) (c0 : Nat) (l0 : List S42) (a1 : ByteArray) (r1 : List ByteArray) (r2 : Int) (r3 : ByteArray) (r4 r5 : Int) (w : World) (hr0 : Kd.C k42 w A0 l0.length l0) (hc0 : l0.length <= c0) (h : m_Users.f l0 a1 = some (r1, r2, r3, r4, r5)) :
    Calls Try.prog 17 #[.slice A0 l0.length c0, .string a1] w fun e w' => ∃ v0_ : Value, e = .returned (.tuple #[v0_, .agg #[.int .i64 r2, .string r3, .int .i64 r4, .int .i64 r5]]) /\ Kd.R Kd.string 9 w' w.heap.size (fun _ => True) v0_ r1 /\ Below w.heap.size w w' := by
  unfold m_Users.f at h
  obtain ⟨⟨t1, t2, t3, t4, t5, t6⟩, hl, h⟩ := Option.bind_eq_some_iff.mp h
  obtain ⟨k0, hk0⟩ := Od.lim_some hl
  have hA := hk0 k0 (Nat.le_refl _)
  simp only [] at h
  by_cases h3 : t3 = 0
  · rw [if_pos h3] at h
    by_cases ho : okB t1.length t2
    · rw [if_pos ho] at h
      subst h3
      exact Users_walk k0 A0 c0 l0 a1 w hr0 hc0 t1 t2 t4 t5 t6 hA ho r1 r2 r3 r4 r5 h
    · rw [if_neg ho] at h; cases h
  · rw [if_neg h3] at h
    simp only [Option.some.injEq, Prod.mk.injEq] at h
    obtain ⟨rfl, rfl, rfl, rfl, rfl⟩ := h
    exact Users_fault k0 A0 c0 l0 a1 w hr0 hc0 t1 t2 t3 t4 t5 t6 hA h3
end P
end Go.Proofs.Ytmadhaccjmakdaa
namespace Go.Proofs.Ytmadhaccjmakdaa.P
open Go.RowKit Go.Proofs.Yw.A Go.Proofs.Yw.B Go.Proofs.Yw.C Mg
theorem ord_x : g_ordered.f [[1], [], []] = some [[1], [0], [2]] := Od.lim_of (k0 := 40) (fun k hk => by
 obtain ⟨m, rfl⟩ : ∃ m, k = m + 40 := ⟨k - 40, by omega⟩
 kernel_rfl)
theorem lev_x : g_Levels.f [[1], [], []] = some ([[1, 2], [0]], 0) := Od.lim_of (k0 := 40) (fun k hk => by
 obtain ⟨m, rfl⟩ : ∃ m, k = m + 40 := ⟨k - 40, by omega⟩
 unfold Lv.levelsF
 rw [ord_x]
 kernel_rfl)
theorem acy_x {l : List S42} (h : l.map key = [([65], [[66]]), ([66], []), ([67], [])]) : m_acyclic.f 40 l = some ([bz [65], bz [66], bz [67]], [[1], [], []], 0, ⟨#[]⟩, 0, 0) := by
 unfold m_acyclic.f
 rw [made_abc h]
 kernel_rfl
theorem order_x {l : List S42} (h : l.map key = [([65], [[66]]), ([66], []), ([67], [])]) : m_Order.f 40 l = some ([bz [66], bz [65], bz [67]], 0, ⟨#[]⟩, 0, 0) := by
 unfold m_Order.f
 rw [acy_x h]
 simp only [Option.bind_some, if_true]
 unfold g_Components.f
 rw [ord_x]
 kernel_rfl
theorem levels_x {l : List S42} (h : l.map key = [([65], [[66]]), ([66], []), ([67], [])]) : m_Levels.f 40 l = some ([[bz [66], bz [67]], [bz [65]]], 0, ⟨#[]⟩, 0, 0) := by
 unfold m_Levels.f
 rw [acy_x h]
 simp only [Option.bind_some, if_true]
 rw [lev_x]
 kernel_rfl
theorem reach_x : m_reached.f [bz [65], bz [66], bz [67]] [[1], [], []] [[1], [], []] (bz [65]) = some ([bz [66]], 0, ⟨#[]⟩, 0, 0) := by
 have hL : (Od.lim fun k => (g_Reach.f k [[1], [], []] (rank ([bz [65], bz [66], bz [67]].map dat) (dat (bz [65])) : Nat)).bind fun t => p_named.f k [bz [65], bz [66], bz [67]] [[1], [], []] t) = some [bz [65], bz [66]] := Od.lim_of (k0 := 40) (fun k hk => by
  obtain ⟨m, rfl⟩ : ∃ m, k = m + 40 := ⟨k - 40, by omega⟩
  kernel_rfl)
 unfold m_reached.f
 rw [if_pos (by decide), if_pos (by decide), hL]
 have hf : [bz [65], bz [66]].filter (fun x => !but (bz [65]) x) = [bz [66]] := by kernel_rfl
 show some (List.filter (fun x => !but (bz [65]) x) [bz [65], bz [66]], (0 : Int), (⟨#[]⟩ : ByteArray), (0 : Int), (0 : Int)) = _
 rw [hf]
theorem needs_x {l : List S42} (h : l.map key = [([65], [[66]]), ([66], []), ([67], [])]) : m_Needs.f 40 l (bz [65]) = some ([bz [66]], 0, ⟨#[]⟩, 0, 0) := by
 unfold m_Needs.f
 rw [acy_x h]
 simp only [Option.bind_some, if_true]
 rw [reach_x]
 rfl
theorem cycle_x {l : List S42} (h : l.map key = [([65], [[66]]), ([66], [[65], [67]]), ([67], [[66]])]) : m_Cycle.f 100 l = some [bz [65], bz [66]] := by
 unfold m_Cycle.f
 rw [made_cyc h]
 kernel_rfl
theorem missI_bz (K : List (List UInt8)) : ∀ l : List S66, missI K l = ((l.map im).find? (fun x => !K.contains x)).map bz := by
 intro l
 induction l with
 | nil => rfl
 | cons i l ih =>
  unfold missI
  by_cases h : K.contains (im i) = true
  · rw [if_pos h, ih, List.map_cons, List.find?_cons_of_neg (by simpa using h)]
  rw [if_neg h, List.map_cons, List.find?_cons_of_pos (by simpa using h)]
  rfl
theorem made_x {l : List S42} (h : l.map key = [([65], [[88]])]) : m_made.f l = some ([], [], 16, bz [88], 0, 0) := by
 have hk := nm_key l
 rw [h] at hk
 have hlen : l.length = 1 := by have := congrArg List.length h; simpa using this
 obtain ⟨m, rfl⟩ : ∃ m, l = [m] := List.length_eq_one_iff.1 hlen
 have hkm : key m = ([65], [[88]]) := by simpa using h
 have hi : m.f3.map im = [[88]] := congrArg Prod.snd hkm
 unfold m_made.f
 rw [if_neg (by simp), if_pos (okSizes_key (by rw [h]; decide)), twice_of _ [] (by rw [hk]; decide)]
 simp only []
 rw [hk]
 unfold miss
 rw [missI_bz, hi]
 rfl
theorem order_miss {l : List S42} (h : l.map key = [([65], [[88]])]) : m_Order.f 40 l = some ([], 16, bz [88], 0, 0) := by
 unfold m_Order.f m_acyclic.f
 rw [made_x h]
 rfl
theorem reach_y : m_reached.f [bz [65], bz [66], bz [67]] [[1], [], []] [[], [0], []] (bz [66]) = some ([bz [65]], 0, ⟨#[]⟩, 0, 0) := by
 have hL : (Od.lim fun k => (g_Reach.f k [[], [0], []] (rank ([bz [65], bz [66], bz [67]].map dat) (dat (bz [66])) : Nat)).bind fun t => p_named.f k [bz [65], bz [66], bz [67]] [[1], [], []] t) = some [bz [65], bz [66]] := Od.lim_of (k0 := 40) (fun k hk => by
  obtain ⟨m, rfl⟩ : ∃ m, k = m + 40 := ⟨k - 40, by omega⟩
  kernel_rfl)
 unfold m_reached.f
 rw [if_pos (by decide), if_pos (by decide), hL]
 have hf : [bz [65], bz [66]].filter (fun x => !but (bz [66]) x) = [bz [65]] := by kernel_rfl
 show some (List.filter (fun x => !but (bz [66]) x) [bz [65], bz [66]], (0 : Int), (⟨#[]⟩ : ByteArray), (0 : Int), (0 : Int)) = _
 rw [hf]
theorem users_x {l : List S42} (h : l.map key = [([65], [[66]]), ([66], []), ([67], [])]) : m_Users.f l (bz [66]) = some ([bz [65]], 0, ⟨#[]⟩, 0, 0) := by
 have hL : (Od.lim fun k => m_acyclic.f k l) = some ([bz [65], bz [66], bz [67]], [[1], [], []], 0, ⟨#[]⟩, 0, 0) := Od.lim_of (k0 := 40) (fun k hk => by
  obtain ⟨m, rfl⟩ : ∃ m, k = m + 40 := ⟨k - 40, by omega⟩
  unfold m_acyclic.f
  rw [made_abc h]
  kernel_rfl)
 have hb : backL (List.replicate [bz [65], bz [66], bz [67]].length []) 0 [[1], [], []] = [[], [0], []] := by kernel_rfl
 have ho : okB [bz [65], bz [66], bz [67]].length [[1], [], []] := by unfold okB; decide
 unfold m_Users.f
 rw [hL]
 simp only [Option.bind_some, if_true]
 rw [if_pos ho, hb]
 exact reach_y
end Go.Proofs.Ytmadhaccjmakdaa.P
namespace Go.Proofs.Ytmadhaccjmakdaa.P
open Go.RowKit Go.Proofs.Yw.A Go.Proofs.Yw.A.Kd Go.Proofs.Yw.B Go.Proofs.Yw.C
attribute [local go_sem] str_gtr str_leq str_geq max2_int min2_int max_two min_two max_three min_three max_four min_four
theorem eqA28 (d : Nat) (w : World) (x0 y0 : Int) (x1 y1 : ByteArray) (x2 y2 : Int) (x3 y3 : Int) :
 (Op.equalIn (d + 2) 28 (.agg #[.int .i64 x0, .string x1, .int .i64 x2, .int .i64 x3]) (.agg #[.int .i64 y0, .string y1, .int .i64 y2, .int .i64 y3])).run Try.prog w = .ok (x0 == y0 && (x1.toList == y1.toList && (x2 == y2 && (x3 == y3)))) w := by
 refine eqA_of Try.underlying28 (by kernel_rfl) ?_
 refine eqf_cons (by rfl) (by go_simp; rfl) (by go_simp; rfl) (by go_simp) ?_
 refine eqf_cons (by rfl) (by go_simp; rfl) (by go_simp; rfl) (by go_simp) ?_
 refine eqf_cons (by rfl) (by go_simp; rfl) (by go_simp; rfl) (by go_simp) ?_
 exact eqf_last (by rfl) (by go_simp; rfl) (by go_simp; rfl) (by go_simp)
end Go.Proofs.Ytmadhaccjmakdaa.P
namespace Go.Proofs.Ytmadhaccjmakdaa
open Go.RowKit Go.Proofs.Yw.A Go.Proofs.Yw.B Go.Proofs.Yw.C
attribute [local go_sem] str_gtr str_leq str_geq max2_int min2_int max_two min_two max_three min_three max_four min_four
open P Mg
attribute [local go_sem high] eqA28
namespace Aw
def Stab (p : World -> Prop) : Prop := ∀ w w1, Below w.heap.size w w1 -> p w -> p w1
theorem stab_and {p q : World -> Prop} (hp : Stab p) (hq : Stab q) : Stab fun w => p w /\ q w := fun w w1 hb h => ⟨hp w w1 hb h.1, hq w w1 hb h.2⟩
theorem stab_c {α : Type} (d : Kd α) (A : Option Addr) (n : Nat) (xs : List α) : Stab fun w => d.C w A n xs := fun w w1 hb h => Kd.C_below h hb
theorem stab_k {α : Type} (d : Kd α) (x : α) (cs : List Value) : Stab fun w => d.K w x cs := fun w w1 hb h => d.K_below hb h
theorem stab_b (w0 : World) : Stab fun w => Below w0.heap.size w0 w := fun w w1 hb h => below_step h hb
theorem stab_x (g : Nat) (cs : Array Value) (t : TypeId) : Stab fun w => w.heap[g]? = some (.cells cs t (0, 0)) := fun w w1 hb h => blk_below h hb
theorem C_lit {α : Type} (d : Kd α) (w : World) {xs : List α} {inner : List Value} (e : TypeId) (hrep : Reps (d.K w) d.sz xs inner) (hm : xs.length <= 9223372036854775807) (hl : inner.length = xs.length * d.sz) :
 d.C (w.alloc (.cells inner.toArray e)) (some ⟨w.heap.size, 0, none⟩) xs.length xs := by
 refine ⟨rfl, hm, fun _ => ⟨_, rfl, fun j p hj => ⟨_, ?_, d.K_below (below_alloc (Below.refl _ _) _) (hrep.2 j p hj), fun i u hu => ?_⟩⟩⟩
 · exact d.K_len (hrep.2 j p hj)
 · have hb := (MapKept.heap_alloc w (.cells inner.toArray e)).1
   have hu' : inner[j * d.sz + i]? = some u := by
    rw [List.getElem?_take] at hu
    split at hu
    · rw [List.getElem?_drop] at hu; exact hu
    · cases hu
   have hadd : (⟨w.heap.size, 0, none⟩ : Addr).add (j * d.sz + i) = ⟨w.heap.size, j * d.sz + i, none⟩ := by
    unfold Addr.add
    split
    · rename_i h0; rw [h0]
    · simp
   rw [hadd, blk_cell hb]
   simpa using hu'
def i66 (x : ByteArray) : S66 := ⟨x, false, ⟨#[]⟩, false, false, []⟩
def mm (x : ByteArray) (l : List ByteArray) : S42 := ⟨x, false, [], l.map i66, RawS.nil⟩
theorem mod_ex (s : ByteArray) (l1 : List ByteArray) (x : S42) (h : w_module.f 40 s l1 = some (x.f0, x.f1, x.f2, x.f3, x.f4)) (A1 : Option Addr) (c1 : Nat) (w : World) (hr1 : Kd.C Kd.string w A1 l1.length l1) (hc1 : l1.length <= c1) :
 Calls Try.prog 23 #[.string s, .slice A1 l1.length c1] w fun e w' => ∃ A2 c2 A3 c3, e = .returned (.agg #[.string x.f0, .bool x.f1, .slice A2 x.f2.length c2, .slice A3 x.f3.length c3, .slice x.f4.a x.f4.n x.f4.c]) /\
  k42.K w' x [.string x.f0, .bool x.f1, .slice A2 x.f2.length c2, .slice A3 x.f3.length c3, .slice x.f4.a x.f4.n x.f4.c] /\ Below w.heap.size w w' := by
 refine (w_module.calls 40 s A1 c1 l1 _ _ _ _ _ w hr1 hc1 h).mono ?_
 rintro e w' ⟨v2, v3, rfl, h2, h3, hb⟩
 obtain ⟨A2, c2, rfl, l2, g2⟩ := Kd.S_reads h2
 obtain ⟨A3, c3, rfl, l3, g3⟩ := Kd.R_reads h3
 exact ⟨A2, c2, A3, c3, rfl, k42_mk w' x l2 g2 l3 g3, hb⟩
end Aw
namespace Aw
theorem rS1 (w : World) (x : ByteArray) : Reps (Kd.string.K w) 1 [x] [.string x] := Reps.one (show Kd.K Kd.string w x [.string x] from rfl) (Reps.none _ _)
theorem sC1 (w : World) (x : ByteArray) : Kd.string.C (w.alloc (.cells #[.string x] 9)) (some ⟨w.heap.size, 0, none⟩) 1 [x] := C_lit Kd.string w 9 (rS1 w x) (by simp) rfl
theorem sC2 (w : World) (x y : ByteArray) : Kd.string.C (w.alloc (.cells #[.string x, .string y] 9)) (some ⟨w.heap.size, 0, none⟩) 2 [x, y] :=
 C_lit Kd.string w 9 (Reps.one (show Kd.K Kd.string w x [.string x] from rfl) (rS1 w y)) (by simp) rfl
theorem sC3 (w : World) (x y z : ByteArray) : Kd.string.C (w.alloc (.cells #[.string x, .string y, .string z] 9)) (some ⟨w.heap.size, 0, none⟩) 3 [x, y, z] :=
 C_lit Kd.string w 9 (Reps.one (show Kd.K Kd.string w x [.string x] from rfl) (Reps.one (show Kd.K Kd.string w y [.string y] from rfl) (rS1 w z))) (by simp) rfl
theorem mod0_ex (s : ByteArray) (w : World) : Calls Try.prog 23 #[.string s, .slice none 0 0] w fun e w' => ∃ A2 c2 A3 c3, e = .returned (.agg #[.string s, .bool false, .slice A2 0 c2, .slice A3 0 c3, .slice none 0 0]) /\
 k42.K w' (mm s []) [.string s, .bool false, .slice A2 0 c2, .slice A3 0 c3, .slice none 0 0] /\ Below w.heap.size w w' :=
 mod_ex s [] (mm s []) (by rfl) none 0 w (Kd.C_nil _ _) (Nat.le_refl _)
theorem mod1_ex (s x : ByteArray) (w : World) : Calls Try.prog 23 #[.string s, .slice (some ⟨w.heap.size, 0, none⟩) 1 1] (w.alloc (.cells #[.string x] 9)) fun e w' => ∃ A2 c2 A3 c3, e = .returned (.agg #[.string s, .bool false, .slice A2 0 c2, .slice A3 1 c3, .slice none 0 0]) /\
 k42.K w' (mm s [x]) [.string s, .bool false, .slice A2 0 c2, .slice A3 1 c3, .slice none 0 0] /\ Below w.heap.size w w' :=
 (mod_ex s [x] (mm s [x]) (by kernel_rfl) _ 1 _ (sC1 w x) (Nat.le_refl _)).mono fun e w' ⟨A2, c2, A3, c3, h1, h2, h3⟩ => ⟨A2, c2, A3, c3, h1, h2, below_step (below_alloc (Below.refl _ _) _) h3⟩
theorem mod2_ex (s x y : ByteArray) (w : World) : Calls Try.prog 23 #[.string s, .slice (some ⟨w.heap.size, 0, none⟩) 2 2] (w.alloc (.cells #[.string x, .string y] 9)) fun e w' => ∃ A2 c2 A3 c3, e = .returned (.agg #[.string s, .bool false, .slice A2 0 c2, .slice A3 2 c3, .slice none 0 0]) /\
 k42.K w' (mm s [x, y]) [.string s, .bool false, .slice A2 0 c2, .slice A3 2 c3, .slice none 0 0] /\ Below w.heap.size w w' :=
 (mod_ex s [x, y] (mm s [x, y]) (by kernel_rfl) _ 2 _ (sC2 w x y) (Nat.le_refl _)).mono fun e w' ⟨A2, c2, A3, c3, h1, h2, h3⟩ => ⟨A2, c2, A3, c3, h1, h2, below_step (below_alloc (Below.refl _ _) _) h3⟩
def L1 : List S42 := [mm (bz [65]) [bz [66]], mm (bz [66]) [], mm (bz [67]) []]
def L2 : List S42 := [mm (bz [65]) [bz [88]]]
def L3 : List S42 := [mm (bz [65]) [bz [66]], mm (bz [66]) [bz [65], bz [67]], mm (bz [67]) [bz [66]]]
theorem key1 : L1.map key = [([65], [[66]]), ([66], []), ([67], [])] := by kernel_rfl
theorem key2 : L2.map key = [([65], [[88]])] := by kernel_rfl
theorem key3 : L3.map key = [([65], [[66]]), ([66], [[65], [67]]), ([67], [[66]])] := by kernel_rfl
theorem ord_ex (A : Option Addr) (c : Nat) (w : World) (h : k42.C w A 3 L1) (hc : 3 <= c) : Calls Try.prog 10 #[.slice A 3 c] w fun e w' => ∃ A2 c2, e = .returned (.tuple #[.slice A2 3 c2, .agg #[.int .i64 0, .string ⟨#[]⟩, .int .i64 0, .int .i64 0]]) /\
 Kd.string.C w' A2 3 [(⟨#[66]⟩ : ByteArray), (⟨#[65]⟩ : ByteArray), (⟨#[67]⟩ : ByteArray)] /\ 3 <= c2 /\ Below w.heap.size w w' := by
 refine (m_Order.calls 40 A c L1 _ _ _ _ _ w h hc (order_x key1)).mono ?_
 rintro e w' ⟨v, rfl, hr, hb⟩
 obtain ⟨A2, c2, rfl, l2, g2⟩ := Kd.R_reads hr
 exact ⟨A2, c2, rfl, g2, l2, hb⟩
theorem lev_ex (A : Option Addr) (c : Nat) (w : World) (h : k42.C w A 3 L1) (hc : 3 <= c) : Calls Try.prog 12 #[.slice A 3 c] w fun e w' => ∃ A2 c2, e = .returned (.tuple #[.slice A2 2 c2, .agg #[.int .i64 0, .string ⟨#[]⟩, .int .i64 0, .int .i64 0]]) /\
 (Kd.slice 9 Kd.string).C w' A2 2 [[(⟨#[66]⟩ : ByteArray), (⟨#[67]⟩ : ByteArray)], [(⟨#[65]⟩ : ByteArray)]] /\ 2 <= c2 /\ Below w.heap.size w w' := by
 refine (m_Levels.calls 40 A c L1 _ _ _ _ _ w h hc (levels_x key1)).mono ?_
 rintro e w' ⟨v, rfl, hr, hb⟩
 obtain ⟨A2, c2, rfl, l2, g2⟩ := Kd.S_reads hr
 exact ⟨A2, c2, rfl, g2, l2, hb⟩
theorem needs_ex (A : Option Addr) (c : Nat) (w : World) (h : k42.C w A 3 L1) (hc : 3 <= c) : Calls Try.prog 15 #[.slice A 3 c, .string ⟨#[65]⟩] w fun e w' => ∃ A2 c2, e = .returned (.tuple #[.slice A2 1 c2, .agg #[.int .i64 0, .string ⟨#[]⟩, .int .i64 0, .int .i64 0]]) /\
 Kd.string.C w' A2 1 [(⟨#[66]⟩ : ByteArray)] /\ 1 <= c2 /\ Below w.heap.size w w' := by
 refine (m_Needs.calls 40 A c L1 _ _ _ _ _ _ w h hc (needs_x key1)).mono ?_
 rintro e w' ⟨v, rfl, hr, hb⟩
 obtain ⟨A2, c2, rfl, l2, g2⟩ := Kd.R_reads hr
 exact ⟨A2, c2, rfl, g2, l2, hb⟩
theorem users_ex (A : Option Addr) (c : Nat) (w : World) (h : k42.C w A 3 L1) (hc : 3 <= c) : Calls Try.prog 17 #[.slice A 3 c, .string ⟨#[66]⟩] w fun e w' => ∃ A2 c2, e = .returned (.tuple #[.slice A2 1 c2, .agg #[.int .i64 0, .string ⟨#[]⟩, .int .i64 0, .int .i64 0]]) /\
 Kd.string.C w' A2 1 [(⟨#[65]⟩ : ByteArray)] /\ 1 <= c2 /\ Below w.heap.size w w' := by
 refine (m_Users.calls A c L1 _ _ _ _ _ _ w h hc (users_x key1)).mono ?_
 rintro e w' ⟨v, rfl, hr, hb⟩
 obtain ⟨A2, c2, rfl, l2, g2⟩ := Kd.R_reads hr
 exact ⟨A2, c2, rfl, g2, l2, hb⟩
theorem miss_ex (A : Option Addr) (c : Nat) (w : World) (h : k42.C w A 1 L2) (hc : 1 <= c) : Calls Try.prog 10 #[.slice A 1 c] w fun e w' => ∃ A2 c2, e = .returned (.tuple #[.slice A2 0 c2, .agg #[.int .i64 16, .string ⟨#[88]⟩, .int .i64 0, .int .i64 0]]) /\ Below w.heap.size w w' := by
 refine (m_Order.calls 40 A c L2 _ _ _ _ _ w h hc (order_miss key2)).mono ?_
 rintro e w' ⟨v, rfl, hr, hb⟩
 obtain ⟨A2, c2, rfl, l2, g2⟩ := Kd.R_reads hr
 exact ⟨A2, c2, rfl, hb⟩
theorem cyc_ex (A : Option Addr) (c : Nat) (w : World) (h : k42.C w A 3 L3) (hc : 3 <= c) : Calls Try.prog 19 #[.slice A 3 c] w fun e w' => ∃ A2 c2, e = .returned (.slice A2 2 c2) /\ Kd.string.C w' A2 2 [(⟨#[65]⟩ : ByteArray), (⟨#[66]⟩ : ByteArray)] /\ 2 <= c2 /\ Below w.heap.size w w' := by
 refine (m_Cycle.calls 100 A c L3 _ w h hc (cycle_x key3)).mono ?_
 rintro e w' ⟨v, rfl, hr, hb⟩
 obtain ⟨A2, c2, rfl, l2, g2⟩ := Kd.R_reads hr
 exact ⟨A2, c2, rfl, g2, l2, hb⟩
theorem same_ex (l : List ByteArray) (hl : w_same.f 40 l l = some true) (A1 A2 : Option Addr) (c1 c2 n : Nat) (w : World) (hn : l.length = n) (h1 : Kd.string.C w A1 n l) (h2 : Kd.string.C w A2 n l) (hc1 : n <= c1) (hc2 : n <= c2) :
 Calls Try.prog 14 #[.slice A1 n c1, .slice A2 n c2] w fun e w' => e = .returned (.bool true) /\ Drawn0 w w' := by
 subst hn
 exact w_same.calls 40 A1 c1 l A2 c2 l true w h1 hc1 h2 hc2 hl
theorem same1 : w_same.f 40 [bz [66], bz [65], bz [67]] [bz [66], bz [65], bz [67]] = some true := by kernel_rfl
theorem same2 : w_same.f 40 [bz [66], bz [67]] [bz [66], bz [67]] = some true := by kernel_rfl
theorem same3 : w_same.f 40 [bz [66]] [bz [66]] = some true := by kernel_rfl
theorem same4 : w_same.f 40 [bz [65]] [bz [65]] = some true := by kernel_rfl
theorem same5 : w_same.f 40 [bz [65], bz [66]] [bz [65], bz [66]] = some true := by kernel_rfl
theorem box_x (W : World) (cs : Array Value) : ∃ W1 g, W.alloc (.cells cs 28) = W1 /\ W.heap.size = g /\ W1.heap[g]? = some (.cells cs 28 (0, 0)) /\ Below W.heap.size W W1 := ⟨_, _, rfl, rfl, blk_new W _, below_alloc (Below.refl _ _) _⟩
theorem L1_lit {w : World} {A0 A1 A2 A3 A4 A5 : Option Addr} {c0 c1 c2 c3 c4 c5 : Nat} (h0 : k42.K w (mm ⟨#[65]⟩ [⟨#[66]⟩]) [.string ⟨#[65]⟩, .bool false, .slice A0 0 c0, .slice A1 1 c1, .slice none 0 0])
 (h1 : k42.K w (mm ⟨#[66]⟩ []) [.string ⟨#[66]⟩, .bool false, .slice A2 0 c2, .slice A3 0 c3, .slice none 0 0]) (h2 : k42.K w (mm ⟨#[67]⟩ []) [.string ⟨#[67]⟩, .bool false, .slice A4 0 c4, .slice A5 0 c5, .slice none 0 0]) :
 k42.C (w.alloc (.cells #[.string ⟨#[65]⟩, .bool false, .slice A0 0 c0, .slice A1 1 c1, .slice none 0 0, .string ⟨#[66]⟩, .bool false, .slice A2 0 c2, .slice A3 0 c3, .slice none 0 0, .string ⟨#[67]⟩, .bool false, .slice A4 0 c4, .slice A5 0 c5, .slice none 0 0] 42)) (some ⟨w.heap.size, 0, none⟩) 3 L1 :=
 C_lit k42 w 42 (Reps.c5 h0 (Reps.c5 h1 (Reps.c5 h2 (Reps.none _ _)))) (by decide) rfl
theorem L2_lit {w : World} {A0 A1 : Option Addr} {c0 c1 : Nat} (h0 : k42.K w (mm ⟨#[65]⟩ [⟨#[88]⟩]) [.string ⟨#[65]⟩, .bool false, .slice A0 0 c0, .slice A1 1 c1, .slice none 0 0]) :
 k42.C (w.alloc (.cells #[.string ⟨#[65]⟩, .bool false, .slice A0 0 c0, .slice A1 1 c1, .slice none 0 0] 42)) (some ⟨w.heap.size, 0, none⟩) 1 L2 :=
 C_lit k42 w 42 (Reps.c5 h0 (Reps.none _ _)) (by decide) rfl
theorem L3_lit {w : World} {A0 A1 A2 A3 A4 A5 : Option Addr} {c0 c1 c2 c3 c4 c5 : Nat} (h0 : k42.K w (mm ⟨#[65]⟩ [⟨#[66]⟩]) [.string ⟨#[65]⟩, .bool false, .slice A0 0 c0, .slice A1 1 c1, .slice none 0 0])
 (h1 : k42.K w (mm ⟨#[66]⟩ [⟨#[65]⟩, ⟨#[67]⟩]) [.string ⟨#[66]⟩, .bool false, .slice A2 0 c2, .slice A3 2 c3, .slice none 0 0]) (h2 : k42.K w (mm ⟨#[67]⟩ [⟨#[66]⟩]) [.string ⟨#[67]⟩, .bool false, .slice A4 0 c4, .slice A5 1 c5, .slice none 0 0]) :
 k42.C (w.alloc (.cells #[.string ⟨#[65]⟩, .bool false, .slice A0 0 c0, .slice A1 1 c1, .slice none 0 0, .string ⟨#[66]⟩, .bool false, .slice A2 0 c2, .slice A3 2 c3, .slice none 0 0, .string ⟨#[67]⟩, .bool false, .slice A4 0 c4, .slice A5 1 c5, .slice none 0 0] 42)) (some ⟨w.heap.size, 0, none⟩) 3 L3 :=
 C_lit k42 w 42 (Reps.c5 h0 (Reps.c5 h1 (Reps.c5 h2 (Reps.none _ _)))) (by decide) rfl
theorem stab_cell (a : Addr) (v : Value) : Stab fun w => w.cell? a = some v := fun w w1 hb h => pw_cell_below hb h
theorem box4 {w : World} {g : Nat} {a b c d : Value} {t : TypeId} (h : w.heap[g]? = some (.cells #[a, b, c, d] t (0, 0))) : w.cell? ⟨g, 0, none⟩ = some a /\ w.cell? ⟨g, 1, none⟩ = some b /\ w.cell? ⟨g, 2, none⟩ = some c /\ w.cell? ⟨g, 3, none⟩ = some d :=
 ⟨blk_cell h 0, blk_cell h 1, blk_cell h 2, blk_cell h 3⟩
theorem lev0 {w : World} {A : Option Addr} (h : (Kd.slice 9 Kd.string).C w A 2 [[(⟨#[66]⟩ : ByteArray), (⟨#[67]⟩ : ByteArray)], [(⟨#[65]⟩ : ByteArray)]]) : ∃ ad X f, A = some ad /\ w.cell? ad = some (.slice X 2 f) /\ 2 <= f /\ Kd.string.C w X 2 [(⟨#[66]⟩ : ByteArray), (⟨#[67]⟩ : ByteArray)] := by
 obtain ⟨ad, X, f, h1, h2, h3, h4⟩ := at_L2 h 0 (by decide) (by decide)
 exact ⟨ad, X, f, h1, by have h5 : w.cell? (ad.add 0) = some (.slice X 2 f) := h2; simpa [Addr.add] using h5, h3, h4⟩
theorem sm1 (A1 A2 : Option Addr) (c1 c2 : Nat) (w : World) (h1 : Kd.string.C w A1 3 [(⟨#[66]⟩ : ByteArray), (⟨#[65]⟩ : ByteArray), (⟨#[67]⟩ : ByteArray)]) (h2 : Kd.string.C w A2 3 [(⟨#[66]⟩ : ByteArray), (⟨#[65]⟩ : ByteArray), (⟨#[67]⟩ : ByteArray)]) (hc1 : 3 <= c1) (hc2 : 3 <= c2) : Calls Try.prog 14 #[.slice A1 3 c1, .slice A2 3 c2] w fun e w' => e = .returned (.bool true) /\ Drawn0 w w' := same_ex _ same1 A1 A2 c1 c2 3 w rfl h1 h2 hc1 hc2
theorem sm2 (A1 A2 : Option Addr) (c1 c2 : Nat) (w : World) (h1 : Kd.string.C w A1 2 [(⟨#[66]⟩ : ByteArray), (⟨#[67]⟩ : ByteArray)]) (h2 : Kd.string.C w A2 2 [(⟨#[66]⟩ : ByteArray), (⟨#[67]⟩ : ByteArray)]) (hc1 : 2 <= c1) (hc2 : 2 <= c2) : Calls Try.prog 14 #[.slice A1 2 c1, .slice A2 2 c2] w fun e w' => e = .returned (.bool true) /\ Drawn0 w w' := same_ex _ same2 A1 A2 c1 c2 2 w rfl h1 h2 hc1 hc2
theorem sm3 (A1 A2 : Option Addr) (c1 c2 : Nat) (w : World) (h1 : Kd.string.C w A1 1 [(⟨#[66]⟩ : ByteArray)]) (h2 : Kd.string.C w A2 1 [(⟨#[66]⟩ : ByteArray)]) (hc1 : 1 <= c1) (hc2 : 1 <= c2) : Calls Try.prog 14 #[.slice A1 1 c1, .slice A2 1 c2] w fun e w' => e = .returned (.bool true) /\ Drawn0 w w' := same_ex _ same3 A1 A2 c1 c2 1 w rfl h1 h2 hc1 hc2
theorem sm4 (A1 A2 : Option Addr) (c1 c2 : Nat) (w : World) (h1 : Kd.string.C w A1 1 [(⟨#[65]⟩ : ByteArray)]) (h2 : Kd.string.C w A2 1 [(⟨#[65]⟩ : ByteArray)]) (hc1 : 1 <= c1) (hc2 : 1 <= c2) : Calls Try.prog 14 #[.slice A1 1 c1, .slice A2 1 c2] w fun e w' => e = .returned (.bool true) /\ Drawn0 w w' := same_ex _ same4 A1 A2 c1 c2 1 w rfl h1 h2 hc1 hc2
theorem sm5 (A1 A2 : Option Addr) (c1 c2 : Nat) (w : World) (h1 : Kd.string.C w A1 2 [(⟨#[65]⟩ : ByteArray), (⟨#[66]⟩ : ByteArray)]) (h2 : Kd.string.C w A2 2 [(⟨#[65]⟩ : ByteArray), (⟨#[66]⟩ : ByteArray)]) (hc1 : 2 <= c1) (hc2 : 2 <= c2) : Calls Try.prog 14 #[.slice A1 2 c1, .slice A2 2 c2] w fun e w' => e = .returned (.bool true) /\ Drawn0 w w' := same_ex _ same5 A1 A2 c1 c2 2 w rfl h1 h2 hc1 hc2
theorem awake_calls (w : World) : Calls Try.prog 9 #[] w fun e w' => e = .returned (.bool true) /\ Below w.heap.size w w' := by
 have hu28 := Try.underlying28
 have hu22 := Try.underlying22
 have hu25 := Try.underlying25
 have HS := Az.mk (stab_b w)
 have HP := Az.mk (Below.refl w.heap.size w)
 go_enter Try.func9, Try.ntmps9
 go_upto_region 2 with (first | (go_at_call 23; (with_reducible refine (mod1_ex ⟨#[65]⟩ ⟨#[66]⟩ _).mono ?_); rintro e w1 ⟨A0, c0, A1, c1, rfl, hk, hb⟩; have n0 := Az.mk (HS.1 _ _ hb HP.1); clear HP; have HP := n0; clear n0; have HK0 := Az.mk hk; clear hk hb) | (go_at_call 23; (with_reducible refine (mod0_ex ⟨#[66]⟩ _).mono ?_); rintro e w2 ⟨A2, c2, A3, c3, rfl, hk, hb⟩; have n0 := Az.mk (HS.1 _ _ hb HP.1); clear HP; have HP := n0; clear n0; have n0 := Az.mk (stab_k _ _ _ _ _ hb HK0.1); clear HK0; have HK0 := n0; clear n0; have HK1 := Az.mk hk; clear hk hb) | (go_at_call 23; (with_reducible refine (mod0_ex ⟨#[67]⟩ _).mono ?_); rintro e w3 ⟨A4, c4, A5, c5, rfl, hk, hb⟩; have n0 := Az.mk (HS.1 _ _ hb HP.1); clear HP; have HP := n0; clear n0; have n0 := Az.mk (stab_k _ _ _ _ _ hb HK0.1); clear HK0; have HK0 := n0; clear n0; have n0 := Az.mk (stab_k _ _ _ _ _ hb HK1.1); clear HK1; have HK1 := n0; clear n0; have HK2 := Az.mk hk; clear hk hb))
 have hl := L1_lit HK0.1 HK1.1 HK2.1
 have hb := below_alloc (Below.refl w3.heap.size w3) (.cells #[Value.string ⟨#[65]⟩, Value.bool false, Value.slice A0 0 c0, Value.slice A1 1 c1, Value.slice none 0 0, Value.string ⟨#[66]⟩, Value.bool false, Value.slice A2 0 c2, Value.slice A3 0 c3, Value.slice none 0 0, Value.string ⟨#[67]⟩, Value.bool false, Value.slice A4 0 c4, Value.slice A5 0 c5, Value.slice none 0 0] 42)
 generalize w3.alloc (.cells #[Value.string ⟨#[65]⟩, Value.bool false, Value.slice A0 0 c0, Value.slice A1 1 c1, Value.slice none 0 0, Value.string ⟨#[66]⟩, Value.bool false, Value.slice A2 0 c2, Value.slice A3 0 c3, Value.slice none 0 0, Value.string ⟨#[67]⟩, Value.bool false, Value.slice A4 0 c4, Value.slice A5 0 c5, Value.slice none 0 0] 42) = W4 at *
 have HP1 := Az.mk (And.intro (HS.1 _ _ hb HP.1) hl)
 have HS1 := Az.mk (stab_and HS.1 (stab_c k42 (some ⟨w3.heap.size, 0, none⟩) 3 L1))
 clear HP HS hb hl HK0 HK1 HK2
 generalize (some (⟨w3.heap.size, 0, none⟩ : Addr)) = AL at *
 go_upto_region 3 with (first | (go_at_call 10; (with_reducible refine (ord_ex _ _ _ HP1.1.2 (Nat.le_refl _)).mono ?_); rintro e w4 ⟨B2, d2, rfl, hc, hl2, hb⟩; have HX := Az.mk (HS1.1 _ _ hb HP1.1); clear HP1; have HP1 := HX; clear HX; have HC := Az.mk hc; clear hc; clear hb))
 obtain ⟨W12, g2, e1, e2, hx, hb⟩ := box_x w4 #[.int .i64 0, .string ⟨#[]⟩, .int .i64 0, .int .i64 0]
 rw [e1, e2]
 clear e1 e2
 have HQ := Az.mk (And.intro (HS1.1 _ _ hb HP1.1) (And.intro (Kd.C_below HC.1 hb) hx))
 have HT := Az.mk (stab_and HS1.1 (stab_and (stab_c Kd.string B2 3 [(⟨#[66]⟩ : ByteArray), (⟨#[65]⟩ : ByteArray), (⟨#[67]⟩ : ByteArray)]) (stab_x g2 #[.int .i64 0, .string ⟨#[]⟩, .int .i64 0, .int .i64 0] 28)))
 clear HP1 HS1 hb hx HC
 have HP2 := HQ
 have HS2 := HT
 clear HQ HT
 go_upto_region 4 with (first | (go_at_call 12; (with_reducible refine (lev_ex _ _ _ HP2.1.1.2 (Nat.le_refl _)).mono ?_); rintro e w5 ⟨B3, d3, rfl, hc, hl3, hb⟩; have HX := Az.mk (HS2.1 _ _ hb HP2.1); clear HP2; have HP2 := HX; clear HX; have HC := Az.mk hc; clear hc; clear hb))
 obtain ⟨W13, g3, e1, e2, hx, hb⟩ := box_x w5 #[.int .i64 0, .string ⟨#[]⟩, .int .i64 0, .int .i64 0]
 rw [e1, e2]
 clear e1 e2
 have HQ := Az.mk (And.intro (HS2.1 _ _ hb HP2.1) (And.intro (Kd.C_below HC.1 hb) hx))
 have HT := Az.mk (stab_and HS2.1 (stab_and (stab_c (Kd.slice 9 Kd.string) B3 2 [[(⟨#[66]⟩ : ByteArray), (⟨#[67]⟩ : ByteArray)], [(⟨#[65]⟩ : ByteArray)]]) (stab_x g3 #[.int .i64 0, .string ⟨#[]⟩, .int .i64 0, .int .i64 0] 28)))
 clear HP2 HS2 hb hx HC
 have HP3 := HQ
 have HS3 := HT
 clear HQ HT
 go_upto_region 5 with (first | (go_at_call 15; (with_reducible refine (needs_ex _ _ _ HP3.1.1.1.2 (Nat.le_refl _)).mono ?_); rintro e w6 ⟨B4, d4, rfl, hc, hl4, hb⟩; have HX := Az.mk (HS3.1 _ _ hb HP3.1); clear HP3; have HP3 := HX; clear HX; have HC := Az.mk hc; clear hc; clear hb))
 obtain ⟨W14, g4, e1, e2, hx, hb⟩ := box_x w6 #[.int .i64 0, .string ⟨#[]⟩, .int .i64 0, .int .i64 0]
 rw [e1, e2]
 clear e1 e2
 have HQ := Az.mk (And.intro (HS3.1 _ _ hb HP3.1) (And.intro (Kd.C_below HC.1 hb) hx))
 have HT := Az.mk (stab_and HS3.1 (stab_and (stab_c Kd.string B4 1 [(⟨#[66]⟩ : ByteArray)]) (stab_x g4 #[.int .i64 0, .string ⟨#[]⟩, .int .i64 0, .int .i64 0] 28)))
 clear HP3 HS3 hb hx HC
 have HP4 := HQ
 have HS4 := HT
 clear HQ HT
 go_upto_region 6 with (first | (go_at_call 17; (with_reducible refine (users_ex _ _ _ HP4.1.1.1.1.2 (Nat.le_refl _)).mono ?_); rintro e w7 ⟨B5, d5, rfl, hc, hl5, hb⟩; have HX := Az.mk (HS4.1 _ _ hb HP4.1); clear HP4; have HP4 := HX; clear HX; have HC := Az.mk hc; clear hc; clear hb))
 obtain ⟨W15, g5, e1, e2, hx, hb⟩ := box_x w7 #[.int .i64 0, .string ⟨#[]⟩, .int .i64 0, .int .i64 0]
 rw [e1, e2]
 clear e1 e2
 have HQ := Az.mk (And.intro (HS4.1 _ _ hb HP4.1) (And.intro (Kd.C_below HC.1 hb) hx))
 have HT := Az.mk (stab_and HS4.1 (stab_and (stab_c Kd.string B5 1 [(⟨#[65]⟩ : ByteArray)]) (stab_x g5 #[.int .i64 0, .string ⟨#[]⟩, .int .i64 0, .int .i64 0] 28)))
 clear HP4 HS4 hb hx HC
 have HP5 := HQ
 have HS5 := HT
 clear HQ HT
 go_upto_region 7 with (first | (go_at_call 23; (with_reducible refine (mod1_ex ⟨#[65]⟩ ⟨#[88]⟩ _).mono ?_); rintro e w8 ⟨E0, f0, E1, f1, rfl, hk, hb⟩; have n0 := Az.mk (HS5.1 _ _ hb HP5.1); clear HP5; have HP5 := n0; clear n0; have HK0 := Az.mk hk; clear hk hb) | (go_at_call 10; (with_reducible refine (miss_ex _ _ _ (L2_lit HK0.1) (Nat.le_refl _)).mono ?_); rintro e w9 ⟨E2, f2, rfl, hb⟩; have n0 := Az.mk (HS5.1 _ _ (below_step (below_alloc (Below.refl _ _) _) hb) HP5.1); clear HP5; have HP5 := n0; clear n0; clear hb HK0))
 obtain ⟨W16, g6, e1, e2, hx, hb⟩ := box_x w9 #[.int .i64 16, .string ⟨#[88]⟩, .int .i64 0, .int .i64 0]
 rw [e1, e2]
 clear e1 e2
 have HQ := Az.mk (And.intro (HS5.1 _ _ hb HP5.1) hx)
 have HT := Az.mk (stab_and HS5.1 (stab_x g6 #[.int .i64 16, .string ⟨#[88]⟩, .int .i64 0, .int .i64 0] 28))
 clear HP5 HS5 hb hx
 have HP6 := HQ
 have HS6 := HT
 clear HQ HT
 go_upto_region 8 with (first | (go_at_call 23; (with_reducible refine (mod1_ex ⟨#[65]⟩ ⟨#[66]⟩ _).mono ?_); rintro e wa ⟨G0, h0, G1, h1, rfl, hk, hb⟩; have n0 := Az.mk (HS6.1 _ _ hb HP6.1); clear HP6; have HP6 := n0; clear n0; have HK0 := Az.mk hk; clear hk hb) | (go_at_call 23; (with_reducible refine (mod2_ex ⟨#[66]⟩ ⟨#[65]⟩ ⟨#[67]⟩ _).mono ?_); rintro e wb ⟨G2, h2, G3, h3, rfl, hk, hb⟩; have n0 := Az.mk (HS6.1 _ _ hb HP6.1); clear HP6; have HP6 := n0; clear n0; have n0 := Az.mk (stab_k _ _ _ _ _ hb HK0.1); clear HK0; have HK0 := n0; clear n0; have HK1 := Az.mk hk; clear hk hb) | (go_at_call 23; (with_reducible refine (mod1_ex ⟨#[67]⟩ ⟨#[66]⟩ _).mono ?_); rintro e wc ⟨G4, h4, G5, h5, rfl, hk, hb⟩; have n0 := Az.mk (HS6.1 _ _ hb HP6.1); clear HP6; have HP6 := n0; clear n0; have n0 := Az.mk (stab_k _ _ _ _ _ hb HK0.1); clear HK0; have HK0 := n0; clear n0; have n0 := Az.mk (stab_k _ _ _ _ _ hb HK1.1); clear HK1; have HK1 := n0; clear n0; have HK2 := Az.mk hk; clear hk hb) | (go_at_call 19; (with_reducible refine (cyc_ex _ _ _ (L3_lit HK0.1 HK1.1 HK2.1) (Nat.le_refl _)).mono ?_); rintro e wd ⟨B7, d7, rfl, hc, hl7, hb⟩; have n0 := Az.mk (And.intro (HS6.1 _ _ (below_step (below_alloc (Below.refl _ _) _) hb) HP6.1) hc); clear HP6; have HP7 := n0; clear n0; have HS7 := Az.mk (stab_and HS6.1 (stab_c Kd.string B7 2 [(⟨#[65]⟩ : ByteArray), (⟨#[66]⟩ : ByteArray)])); clear hb hc HK0 HK1 HK2 HS6))
 go_upto_region 9 with fail
 obtain ⟨W18, g8, e1, e2, hx, hb⟩ := box_x wd #[.int .i64 0, .string ⟨#[]⟩, .int .i64 0, .int .i64 0]
 rw [e1, e2]
 clear e1 e2
 have HQ := Az.mk (And.intro (HS7.1 _ _ hb HP7.1) hx)
 have HT := Az.mk (stab_and HS7.1 (stab_x g8 #[.int .i64 0, .string ⟨#[]⟩, .int .i64 0, .int .i64 0] 28))
 clear HP7 HS7 hb hx
 have HP8 := HQ
 have HS8 := HT
 clear HQ HT
 obtain ⟨ad3, X3, f3, rfl, hx3, hfl, hX⟩ := lev0 HP8.1.1.1.1.1.1.2.1
 have HQ := Az.mk (And.intro HP8.1 (And.intro hx3 hX))
 have HT := Az.mk (stab_and HS8.1 (stab_and (stab_cell ad3 (.slice X3 2 f3)) (stab_c Kd.string X3 2 [(⟨#[66]⟩ : ByteArray), (⟨#[67]⟩ : ByteArray)])))
 clear HP8 HS8 hx3 hX
 have HP9 := HQ
 have HS9 := HT
 clear HQ HT
 obtain ⟨x20, x21, x22, x23⟩ := box4 HP9.1.1.1.1.1.1.1.1.2.2
 obtain ⟨x30, x31, x32, x33⟩ := box4 HP9.1.1.1.1.1.1.1.2.2
 obtain ⟨x40, x41, x42, x43⟩ := box4 HP9.1.1.1.1.1.1.2.2
 obtain ⟨x50, x51, x52, x53⟩ := box4 HP9.1.1.1.1.1.2.2
 obtain ⟨x80, x81, x82, x83⟩ := box4 HP9.1.1.2
 go_wp2_with (first | (go_at_call 14; (with_reducible refine (sm1 _ _ _ _ _ (Kd.C_alloc HP9.1.1.1.1.1.1.1.1.2.1 _) (sC3 _ _ _ _) hl2 (Nat.le_refl _)).mono ?_); rintro e w20 ⟨rfl, hd⟩; have n0 := Az.mk (HS9.1 _ _ (below_step (below_alloc (Below.refl _ _) _) hd.below) HP9.1); clear HP9; have HP9 := n0; clear n0 hd x20 x21 x22 x23 x30 x31 x32 x33 x40 x41 x42 x43 x50 x51 x52 x53 x80 x81 x82 x83; have yy := HP9.1.2.1) | (go_at_call 14; (with_reducible refine (sm2 _ _ _ _ _ (Kd.C_alloc HP9.1.2.2 _) (sC2 _ _ _) hfl (Nat.le_refl _)).mono ?_); rintro e w21 ⟨rfl, hd⟩; have n0 := Az.mk (HS9.1 _ _ (below_step (below_alloc (Below.refl _ _) _) hd.below) HP9.1); clear HP9; have HP9 := n0; clear n0 hd yy) | (go_at_call 14; (with_reducible refine (sm3 _ _ _ _ _ (Kd.C_alloc HP9.1.1.1.1.1.1.2.1 _) (sC1 _ _) hl4 (Nat.le_refl _)).mono ?_); rintro e w22 ⟨rfl, hd⟩; have n0 := Az.mk (HS9.1 _ _ (below_step (below_alloc (Below.refl _ _) _) hd.below) HP9.1); clear HP9; have HP9 := n0; clear n0 hd) | (go_at_call 14; (with_reducible refine (sm4 _ _ _ _ _ (Kd.C_alloc HP9.1.1.1.1.1.2.1 _) (sC1 _ _) hl5 (Nat.le_refl _)).mono ?_); rintro e w23 ⟨rfl, hd⟩; have n0 := Az.mk (HS9.1 _ _ (below_step (below_alloc (Below.refl _ _) _) hd.below) HP9.1); clear HP9; have HP9 := n0; clear n0 hd; obtain ⟨x60, x61, x62, x63⟩ := box4 HP9.1.1.1.1.2) | (go_at_call 14; (with_reducible refine (sm5 _ _ _ _ _ (Kd.C_alloc HP9.1.1.1.2 _) (sC2 _ _ _) hl7 (Nat.le_refl _)).mono ?_); rintro e w24 ⟨rfl, hd⟩; have n0 := Az.mk (HS9.1 _ _ (below_step (below_alloc (Below.refl _ _) _) hd.below) HP9.1); clear HP9; have HP9 := n0; clear n0 hd x60 x61 x62 x63))
 go_ret
 exact ⟨rfl, HP9.1.1.1.1.1.1.1.1.1.1⟩
end Aw
namespace P
noncomputable def w_awake.f : Option Bool := some true
theorem w_awake.calls (r : Bool) (w : World) (h : w_awake.f = some r) : Calls Try.prog 9 #[] w fun e w' => e = .returned (.bool r) /\ Below w.heap.size w w' := by
 obtain rfl := Option.some.inj h
 exact Aw.awake_calls w
end P
end Go.Proofs.Ytmadhaccjmakdaa
