/- Part 3 of 6 of one proof: The search for a place among the waiting components: the comparing function and slices.BinarySearchFunc with it -/
import Derived.Test.YtmadhaccjmakdaaMCycle1
import Derived.Test.YtmadhaccjmakdaaMCycle2
set_option linter.unusedVariables false
set_option linter.unusedSimpArgs false
namespace Go.Proofs.Ytmadhaccjmakdaa.P
open Go.RowKit Go.Proofs.YtmadhaccjmakdaaW.PrintWords Go.Proofs.YtmadhaccjmakdaaW.PrintLast Go.Proofs.YtmadhaccjmakdaaW.PrintMore
attribute [local go_sem] str_gtr str_leq str_geq max2_int min2_int max_two min_two max_three min_three max_four min_four
noncomputable def lazyclaw10_module.l0 : Nat → List ByteArray → Int → ByteArray → Bool → List (S66) → RawS → Option (ByteArray × Bool × (List (S138)) × (List (S66)) × RawS)
 | 0, _, _, _, _, _, _ => none
 | k + 1, x1, x6, x296000, x296001, x296003, x296004 => if x6 < (x1.length : Int) then (if 0 ≤ x6 then (if x296003.length < 1954687338268 then (lazyclaw10_module.l0 k x1 (wrap64 (x6 + 1)) x296000 x296001 (x296003 ++ [(⟨rdOf ByteArray.empty x1 x6, false, (⟨#[]⟩ : ByteArray), false, false, ([] : List (S138))⟩ : S66)]) x296004) else (none)) else (none)) else (some (x296000, x296001, ([] : List (S138)), x296003, x296004))
noncomputable def lazyclaw10_module.f (k : Nat) (a0 : ByteArray) (l1 : List ByteArray) : Option (ByteArray × Bool × (List (S138)) × (List (S66)) × RawS) := lazyclaw10_module.l0 k l1 0 a0 false ([] : List (S66)) RawS.nil
noncomputable def lazyclaw10_module.T5 : Bool × List (List Nat × List Nat) := (true, [([], []), ([0], [0]), ([], []), ([], []), ([2, 3], [2, 3]), ([4], [4]), ([5], [5]), ([6], [6]), ([1, 7], [1, 7]), ([0, 1, 2, 3, 4, 5, 6, 7, 8], []), ([9, 8, 8, 0, 1, 2, 3, 4, 5, 6, 7, 8], [8, 9])])
noncomputable def lazyclaw10_module.B5 : List Nat := [0, 1, 0, 0, 12, 28, 60, 124, 255, 511, 1023]
theorem lazyclaw10_module.tab5 : rtab .any (opsOf Try.f23 5) = lazyclaw10_module.T5 := by kernel_rfl
theorem lazyclaw10_module.bits5 : waitsOk lazyclaw10_module.T5.2 lazyclaw10_module.B5 = true := by kernel_rfl
set_option maxHeartbeats 8000000 in
set_option maxRecDepth 100000 in
theorem lazyclaw10_module.calls (k : Nat) (a0 : ByteArray) (A1 : Option Addr) (c1 : Nat) (l1 : List ByteArray) (r1 : ByteArray) (r2 : Bool) (r3 : List (S138)) (r4 : List (S66)) (r5 : RawS) (w : World) (hr1 : Kd.C Kd.string w A1 l1.length l1) (hc1 : l1.length ≤ c1) (h : lazyclaw10_module.f k a0 l1 = some (r1, r2, r3, r4, r5)) :
 Calls Try.prog 23 #[.string a0, .slice A1 l1.length c1] w fun e w' => ∃ v2_ v3_ : Value, e = .returned (.agg #[.string r1, .bool r2, v2_, v3_, .slice r5.a r5.n r5.c]) ∧ Kd.S k138 138 w' w.heap.size (fun _ => True) v2_ r3 ∧ Kd.R k66 66 w' w.heap.size (fun k_ => some k_ ≠ (v2_ : Value).ownBlock) v3_ r4 ∧ Below w.heap.size w w' := by
 have hu42 := Try.underlying42
 have hu66 := Try.underlying66
 have HR1 := aM hr1
 have HC1 := aM hc1
 clear hr1 hc1
 have HB := aM (Below.refl w.heap.size w)
 have H : (lazyclaw10_module.l0 k l1 0 a0 false ([] : List (S66)) RawS.nil) = some (r1, r2, r3, r4, r5) := h
 clear h
 have H' := aM H
 clear H
 go_enter Try.func23, Try.ntmps23
 go_wp2_with (first | ((with_reducible refine gate_dst (N := 4) rfl ?_); refine box_event ?hg (N := 4) ?hd (cs := #[.string (⟨#[]⟩ : ByteArray), .bool false, .slice none 0 0, .slice none 0 0, .slice RawS.nil.a RawS.nil.n RawS.nil.c]) (t := 42) ?hr ?_; (case hd => rfl); (case hg => rfl); (case hr => first | (go_simp; done) | (go_simp; rfl)); intro gb294 hg w3 hbox hb; have BK294 := aM hbox; have GW294 := gs hg HB; have GE294 := gs hg HB; replace HB := bs HB hb; clear hb hbox hg) | ((with_reducible refine gate_dst (N := 5) rfl ?_); refine box_event ?hg (N := 5) ?hd (cs := #[.string (⟨#[]⟩ : ByteArray), .bool false, .slice none 0 0, .slice none 0 0, .slice RawS.nil.a RawS.nil.n RawS.nil.c]) (t := 42) ?hr ?_; (case hd => rfl); (case hg => rfl); (case hr => first | (go_simp; done) | (go_simp; rfl)); intro gb295 hg w4 hbox hb; have BK295 := aM hbox; have GW295 := gs hg HB; have GE295 := gs hg HB; have NB294_295 := nl hg BK294; have NB295_294 := nr hg BK294; replace BK294 := kb BK294 hb; replace HB := bs HB hb; clear hb hbox hg; have hnb5 := NB295_294.out; have hnc5 := NB294_295.out; have hcz6_0 : w4.cell? ⟨gb295, 0, none⟩ = some (.string (⟨#[]⟩ : ByteArray)) := (blk_cell BK295.out 0).trans rfl; have hcz6_1 : w4.cell? ⟨gb295, 1, none⟩ = some (.bool false) := (blk_cell BK295.out 1).trans rfl; have hcz6_2 : w4.cell? ⟨gb295, 2, none⟩ = some (.slice none 0 0) := (blk_cell BK295.out 2).trans rfl; have hcz6_3 : w4.cell? ⟨gb295, 3, none⟩ = some (.slice none 0 0) := (blk_cell BK295.out 3).trans rfl; have hcz6_4 : w4.cell? ⟨gb295, 4, none⟩ = some (.slice RawS.nil.a RawS.nil.n RawS.nil.c) := (blk_cell BK295.out 4).trans rfl; have hfz6_0 := blk_frozen BK295.out 0; have hfz6_1 := blk_frozen BK295.out 1; have hfz6_2 := blk_frozen BK295.out 2; have hfz6_3 := blk_frozen BK295.out 3; have hfz6_4 := blk_frozen BK295.out 4))
 go_loopg [6] k (fun kq v6 w' => ∃ (x6_1 : Int) (x296003_1 : List (S66)) (u296003 : Value), v6 = .int .i64 x6_1 ∧ Aside0 (lazyclaw10_module.l0 kq l1 x6_1 a0 false x296003_1 RawS.nil = some (r1, r2, r3, r4, r5)) ∧ Aside0 (kq ≤ k) ∧ Aside0 (Kd.R k66 66 w' w.heap.size (fun _ => True) u296003 x296003_1) ∧ Aside0 (w'.heap[gb294]? = some (.cells #[.string (⟨#[]⟩ : ByteArray), .bool false, (.slice none 0 0), (.slice none 0 0), .slice RawS.nil.a RawS.nil.n RawS.nil.c] 42 (0, 0))) ∧ Aside0 (w'.heap[gb295]? = some (.cells #[.string a0, .bool false, (.slice none 0 0), u296003, .slice RawS.nil.a RawS.nil.n RawS.nil.c] 42 (0, 0))) ∧ Aside0 (Below w.heap.size w w'))
 case atStart => exact ⟨(0), (([] : List (S66))), (.slice none 0 0), (by first | rfl | (simp; done) | (simp [*]; done)), H', ⟨Nat.le_refl _⟩, ⟨by first | exact Kd.R_nil _ _ _ _ _ | exact Kd.N_nil _ _ _ _ _ | exact Kd.V_nil _ _ _ _ _ | exact Kd.Q_nil _ _ _ _ _ | exact Kd.S_nil _ _ _ _ _⟩, ⟨kf BK294⟩, ⟨by (with_reducible repeat (first | refine kN ?_ _ | refine kD ?_ | refine kA ?_ _)); refine blk_put (cs := #[.string a0, .bool false, .slice none 0 0, .slice none 0 0, .slice RawS.nil.a RawS.nil.n RawS.nil.c]) ?_ 4 _ rfl; (with_reducible repeat (first | refine kN ?_ _ | refine kD ?_ | refine kA ?_ _)); refine blk_put (cs := #[.string a0, .bool false, .slice none 0 0, .slice none 0 0, .slice RawS.nil.a RawS.nil.n RawS.nil.c]) ?_ 3 _ rfl; (with_reducible repeat (first | refine kN ?_ _ | refine kD ?_ | refine kA ?_ _)); refine blk_put (cs := #[.string a0, .bool false, .slice none 0 0, .slice none 0 0, .slice RawS.nil.a RawS.nil.n RawS.nil.c]) ?_ 2 _ rfl; (with_reducible repeat (first | refine kN ?_ _ | refine kD ?_ | refine kA ?_ _)); refine blk_put (cs := #[.string a0, .bool false, .slice none 0 0, .slice none 0 0, .slice RawS.nil.a RawS.nil.n RawS.nil.c]) ?_ 1 _ rfl; (with_reducible repeat (first | refine kN ?_ _ | refine kD ?_ | refine kA ?_ _)); refine blk_put (cs := #[.string (⟨#[]⟩ : ByteArray), .bool false, .slice none 0 0, .slice none 0 0, .slice RawS.nil.a RawS.nil.n RawS.nil.c]) ?_ 0 _ rfl; (with_reducible repeat (first | refine kN ?_ _ | refine kD ?_ | refine kA ?_ _)); exact BK295.out⟩, ⟨hh HB⟩⟩
 case round =>
  clear H'
  try clear c1
  try clear c2
  try clear p2
  try clear c5
  try clear hcz6_0
  try clear hcz6_1
  try clear hcz6_2
  try clear hcz6_3
  try clear hcz6_4
  try clear hfz6_0
  try clear hfz6_1
  try clear hfz6_2
  try clear hfz6_3
  try clear hfz6_4
  obtain ⟨x6_1, x296003_1, u296003, rfl, HA, HK1, HO_296003, BK294, BK295, HB⟩ := hrel
  cases gk with
  | zero => exact absurd HA.out (by simp [lazyclaw10_module.l0])
  | succ k1 =>
   have H := HA.out
   clear HA
   simp only [lazyclaw10_module.l0] at H
   by_cases c7 : x6_1 < (l1.length : Int)
   · rw [if_pos c7] at H
     have c7b0 : decide (x6_1 < (l1.length : Int)) = true := decide_eq_true c7
     clear c7
     by_cases c8 : 0 ≤ x6_1
     · rw [if_pos c8] at H
       have c8b0 : decide (0 ≤ x6_1) = true := decide_eq_true c8
       clear c8
       by_cases c9 : x296003_1.length < 1954687338268
       · rw [if_pos c9] at H
         have LMc9 := aM c9
         clear c9
         obtain ⟨y297, hy297⟩ : ∃ y_ : List (S66), y_ = (x296003_1 ++ [(⟨rdOf ByteArray.empty l1 x6_1, false, (⟨#[]⟩ : ByteArray), false, false, ([] : List (S138))⟩ : S66)]) := ⟨_, rfl⟩
         replace H : (lazyclaw10_module.l0 k1 l1 (wrap64 (x6_1 + 1)) a0 false y297 RawS.nil) = some (r1, r2, r3, r4, r5) := by first | (rw [hy297]; with_reducible exact H) | (have H2_ := (Option.bind_some _ _).symm.trans H; rw [hy297]; with_reducible exact H2_) | (have H2_ := (Option.bind_some _ _).symm.trans H; with_reducible exact H2_) | with_reducible exact H | (rw [hy297]; exact H) | exact H
         have Ny297 := aM hy297
         clear hy297
         have H' := aM H
         clear H
         try go_wp2
         replace HO_296003 := aM (Kd.R_drew HO_296003.out)
         replace BK294 := aM (blk_drew BK294.out)
         replace BK295 := aM (blk_drew BK295.out)
         replace HB := aM (below_drew1 HB.out)
         have p296 : 0 ≤ (x6_1 : Int) := dt
         have q296 : x6_1 < (l1.length : Int) := dt
         obtain ⟨ad296, e296, hx296_0⟩ := Kd.at_string HR1.out x6_1 p296 q296
         have hw296_0 := hx296_0
         cases e296
         replace hx296_0 := (HB.out.cell (World.block_lt_of_cell? w _ hx296_0)).trans hx296_0
         replace p296 := eq_true p296
         replace q296 := eq_true q296
         refine start_ (n := 11) (S := fun w' => w'.cell? ⟨gb295, 0, none⟩ = some (.string a0) ∧ w'.cell? ⟨gb295, 1, none⟩ = some (.bool false) ∧ w'.cell? ⟨gb295, 2, none⟩ = some (.slice none 0 0) ∧ w'.cell? ⟨gb295, 3, none⟩ = some (u296003) ∧ w'.cell? ⟨gb295, 4, none⟩ = some (.slice RawS.nil.a RawS.nil.n RawS.nil.c) ∧ w'.cell? (ad296.add (x6_1).toNat) = some (.string (rdOf ByteArray.empty l1 x6_1))) (ds := [10]) #[false, false, false, false, false, false, false, false, false, false, false] (by kernel_rfl) rfl rfl ⟨(blk_cell BK295.out 0).trans rfl, (blk_cell BK295.out 1).trans rfl, (blk_cell BK295.out 2).trans rfl, (blk_cell BK295.out 3).trans rfl, (blk_cell BK295.out 4).trans rfl, ((HB.out.cell (World.block_lt_of_cell? w _ hw296_0)).trans hw296_0)⟩ (fun hHeld => ?_); refine with_tabW lazyclaw10_module.tab5 lazyclaw10_module.bits5 (fun HT_ HW_ => ?_)
         generalize wr.drew = w10 at HO_296003 BK294 BK295 HB hx296_0 hHeld ⊢
         refine pure_ (i := 0) (N := some 15) (v := ?_) (a' := ?_) #[true, false, false, false, false, false, false, false, false, false, false] rfl rfl (any_of HT_.out (by kernel_rfl)) (fun _ _ _ h => h) (Or.inl ⟨by rfl, ?_⟩) ?_ ?_
         rotate_left
         · intro w'
           go_simp
           with_reducible rfl
         rotate_left
         · simp only [Act.put, sA, sZ, sS, i64_w, i32_w]
           rfl
         refine pure_ (i := 2) (N := some 17) (v := ?_) (a' := ?_) #[true, false, true, false, false, false, false, false, false, false, false] rfl rfl (any_of HT_.out (by kernel_rfl)) (fun _ _ _ h => h) (Or.inl ⟨by rfl, ?_⟩) ?_ ?_
         rotate_left
         · intro w'
           go_simp
           with_reducible rfl
         rotate_left
         · simp only [Act.put, sA, sZ, sS, i64_w, i32_w]
           rfl
         refine pure_ (i := 3) (N := some 18) (v := ?_) (a' := ?_) #[true, false, true, true, false, false, false, false, false, false, false] rfl rfl (any_of HT_.out (by kernel_rfl)) (fun _ _ _ h => h) (Or.inl ⟨by rfl, ?_⟩) ?_ ?_
         rotate_left
         · intro w'
           go_simp
           with_reducible rfl
         rotate_left
         · simp only [Act.put, sA, sZ, sS, i64_w, i32_w]
           rfl
         refine pure_ (i := 4) (N := some 19) (v := ?_) (a' := ?_) #[true, false, true, true, true, false, false, false, false, false, false] rfl rfl (any_of HT_.out (by kernel_rfl)) (fun _ _ _ h => h) (Or.inl ⟨by rfl, ?_⟩) ?_ ?_
         rotate_left
         · intro w'
           go_simp
           with_reducible rfl
         rotate_left
         · simp only [Act.put, sA, sZ, sS, i64_w, i32_w]
           rfl
         refine take_ (i := 1) (N := some 16) (v := ?_) (a' := ?_) #[true, true, true, true, true, false, false, false, false, false, false] rfl rfl (take_ofW HT_.out HW_.out (by kernel_rfl)) (fun _ _ _ h => h) (Or.inl ⟨by rfl, ?_⟩) hHeld ?_ ?_
         rotate_left
         · rintro w' ⟨s0, s1, s2, s3, s4, s5⟩
           go_simp
           with_reducible rfl
         rotate_left
         · simp only [Act.put, sA, sZ, sS, i64_w, i32_w]
           rfl
         refine take_ (i := 5) (N := some 20) (v := ?_) (a' := ?_) #[true, true, true, true, true, true, false, false, false, false, false] rfl rfl (take_ofW HT_.out HW_.out (by kernel_rfl)) (fun _ _ _ h => h) (Or.inl ⟨by rfl, ?_⟩) hHeld ?_ ?_
         rotate_left
         · rintro w' ⟨s0, s1, s2, s3, s4, s5⟩
           go_simp
           with_reducible rfl
         rotate_left
         · simp only [Act.put, sA, sZ, sS, i64_w, i32_w]
           rfl
         refine pure_ (i := 6) (N := some 21) (v := ?_) (a' := ?_) #[true, true, true, true, true, true, true, false, false, false, false] rfl rfl (any_of HT_.out (by kernel_rfl)) (fun _ _ _ h => h) (Or.inl ⟨by rfl, ?_⟩) ?_ ?_
         rotate_left
         · intro w'
           go_simp
           with_reducible rfl
         rotate_left
         · simp only [Act.put, sA, sZ, sS, i64_w, i32_w]
           rfl
         refine one_ (i := 7) (N := some 22) #[true, true, true, true, true, true, true, true, false, false, false] rfl rfl (one_of HT_.out (by kernel_rfl)) (by decide) (fun K hK => ?_)
         refine value_ (w1 := ?_) (v := ?_) (by rfl) rfl ?_ ?_
         rotate_left 2
         · go_simp
           constructor
           · rfl
           · rfl
         refine hK.out _ _ ⟨(blk_cell (blk_alloc BK295.out _) 0).trans rfl, (blk_cell (blk_alloc BK295.out _) 1).trans rfl, (blk_cell (blk_alloc BK295.out _) 2).trans rfl, (blk_cell (blk_alloc BK295.out _) 3).trans rfl, (blk_cell (blk_alloc BK295.out _) 4).trans rfl, (World.cell?_alloc_lt _ _ _ (World.block_lt_of_cell? _ _ (((HB.out.cell (World.block_lt_of_cell? w _ hw296_0)).trans hw296_0)))).trans (((HB.out.cell (World.block_lt_of_cell? w _ hw296_0)).trans hw296_0))⟩ (fun hHeld => ?_)
         clear hK K
         refine norm_ (a' := ?_) ?_ ?_
         rotate_left
         · show Act.put _ (some 22) _ = _
           simp only [Act.put, sA, sZ, sS, i64_w, i32_w]
           rfl
         refine one_ (i := 8) (N := some 23) #[true, true, true, true, true, true, true, true, true, false, false] rfl rfl (one_of HT_.out (by kernel_rfl)) (by decide) (fun K hK => ?_)
         refine Kd.R_append_step k66 (w0 := w) w.heap.size (by rfl) (.tmp 16) (.tmp 22) 39 66 (.agg #[(.string ⟨#[]⟩), (.bool false), (.string ⟨#[]⟩), (.bool false), (.bool false), (.slice none 0 0)]) 72 rfl Try.underlying39 info66 rfl (by decide) (by omega) u296003 x296003_1 (⟨rdOf ByteArray.empty l1 x6_1, false, (⟨#[]⟩ : ByteArray), false, false, ([] : List (S138))⟩ : S66) [.string (rdOf ByteArray.empty l1 x6_1), .bool false, .string (⟨#[]⟩ : ByteArray), .bool false, .bool false, .slice none 0 0] (fun _ => True) (fun k_ => ((fun _ => True)) k_ ∧ some k_ ≠ (u296003 : Value).ownBlock) rfl rfl ?aP (fun _ hk => hk) ?aF ?aO ?aB ?aS ?aL ?_
         (case aP => exact k66_mkM _ _ _ (⟨rdOf ByteArray.empty l1 x6_1, false, (⟨#[]⟩ : ByteArray), false, false, ([] : List (S138))⟩ : S66) (Kd.R_nil _ _ _ _ _))
         (case aB => exact (hh HB))
         (case aF => exact (fun _ _ => trivial))
         (case aO => exact (rk HO_296003))
         (case aS => exact (below_size (hh HB)))
         (case aL => have := LMc9.out; omega)
         intro v298 w11 ho hb hg hat
         rw [← Ny297.out] at ho
         have HO299 := aM (ho)
         replace BK294 := aM (blk_grown (g := gb294) (o := .cells #[.string (⟨#[]⟩ : ByteArray), .bool false, .slice none 0 0, .slice none 0 0, .slice RawS.nil.a RawS.nil.n RawS.nil.c] 42 (0, 0)) (kk BK294) hg (Kd.R_ne HO_296003.out BK294.out (by decide)))
         replace BK295 := aM (blk_grown (g := gb295) (o := .cells #[.string a0, .bool false, .slice none 0 0, u296003, .slice RawS.nil.a RawS.nil.n RawS.nil.c] 42 (0, 0)) (kk BK295) hg (Kd.R_ne HO_296003.out BK295.out (by decide)))
         replace HB := aM (hb)
         clear HO_296003
         clear ho hb hg hat
         obtain ⟨Ao12, co12, eo12⟩ := Kd.R_slice HO299.out
         (first | subst eo12 | (injection eo12 with f1_ f2_ f3_; have f4_ := f1_.symm; have f5_ := f3_.symm; clear f1_ f2_ f3_; subst f4_; subst f5_))
         refine hK.out _ _ ⟨(blk_cell BK295.out 0).trans rfl, (blk_cell BK295.out 1).trans rfl, (blk_cell BK295.out 2).trans rfl, (blk_cell BK295.out 3).trans rfl, (blk_cell BK295.out 4).trans rfl, ((HB.out.cell (World.block_lt_of_cell? w _ hw296_0)).trans hw296_0)⟩ (fun hHeld => ?_)
         clear hK K
         refine norm_ (a' := ?_) ?_ ?_
         rotate_left
         · show Act.put _ (some 23) _ = _
           simp only [Act.put, sA, sZ, sS, i64_w, i32_w]
           rfl
         refine pure_ (i := 9) (N := some 24) (v := ?_) (a' := ?_) #[true, true, true, true, true, true, true, true, true, true, false] rfl rfl (any_of HT_.out (by kernel_rfl)) (fun _ _ _ h => h) (Or.inl ⟨by rfl, ?_⟩) ?_ ?_
         rotate_left
         · intro w'
           go_simp
           with_reducible rfl
         rotate_left
         · simp only [Act.put, sA, sZ, sS, i64_w, i32_w]
           rfl
         refine last_ (i := 10) (N := none) #[true, true, true, true, true, true, true, true, true, true, true] rfl rfl (one_of HT_.out (by kernel_rfl)) (by decide) (fun K hK => ?_)
         have hs13 : w11.cell? ⟨gb295, 3, none⟩ = some (u296003) := (blk_cell BK295.out 3).trans rfl
         have hfs13 := blk_frozen BK295.out 3
         have hns13_0 := NB294_295.out
         have hms13_0 := NB295_294.out
         refine skip_ (w1 := ?_) (by rfl) rfl ?_ ?_
         rotate_left
         · go_simp
           rfl
         refine hK.out _ _ ?_
         clear hK K
         refine done_ (done_of HT_.out (by kernel_rfl)) ?_
         try go_wp2
         go_roundg k1
         case measure => have := HK1.out; omega
         case rel => exact ⟨(wrap64 (x6_1 + 1)), (y297), (.slice Ao12 y297.length co12), (by first | rfl | (simp; done) | (simp [*]; done)), H', ⟨by have := HK1.out; omega⟩, ⟨by (with_reducible repeat (first | apply Kd.R_alloc | apply Kd.R_drewN | apply Kd.R_drew)); exact Kd.R_mono (Kd.R_far (p := ⟨gb295, 3, none⟩) (Kd.R_types HO299.out BK295.out (by decide)) (fun _ hk => hk.2) (.slice Ao12 y297.length co12)) (fun _ hk => trivial)⟩, ⟨kf BK294⟩, ⟨by (with_reducible repeat (first | refine kN ?_ _ | refine kD ?_ | refine kA ?_ _)); refine blk_put (cs := #[.string a0, .bool false, .slice none 0 0, u296003, .slice RawS.nil.a RawS.nil.n RawS.nil.c]) ?_ 3 _ rfl; (with_reducible repeat (first | refine kN ?_ _ | refine kD ?_ | refine kA ?_ _)); exact BK295.out⟩, ⟨hh HB⟩⟩
       · rw [if_neg c9] at H
         exact absurd H (by simp)
     · rw [if_neg c8] at H
       exact absurd H (by simp)
   · rw [if_neg c7] at H
     have c7b0 : decide (x6_1 < (l1.length : Int)) = false := decide_eq_false c7
     clear c7
     simp only [Option.some.injEq, Prod.mk.injEq] at H
     obtain ⟨rfl, rfl, rfl, rfl, rfl⟩ := H
     have hnb14 := NB295_294.out
     have hnc14 := NB294_295.out
     obtain ⟨hcz15_0, hcz15_1, hcz15_2, hcz15_3⟩ := cz BK295
     have hcz15_4 : wr.cell? ⟨gb295, 4, none⟩ = some (.slice RawS.nil.a RawS.nil.n RawS.nil.c) := (blk_cell BK295.out 4).trans rfl
     obtain ⟨hfz15_0, hfz15_1, hfz15_2, hfz15_3⟩ := fz BK295
     have hfz15_4 := blk_frozen BK295.out 4
     obtain ⟨hcz16_0, hcz16_1, hcz16_2, hcz16_3⟩ := cz BK294
     have hcz16_4 : wr.cell? ⟨gb294, 4, none⟩ = some (.slice RawS.nil.a RawS.nil.n RawS.nil.c) := (blk_cell BK294.out 4).trans rfl
     obtain ⟨hfz16_0, hfz16_1, hfz16_2, hfz16_3⟩ := fz BK294
     have hfz16_4 := blk_frozen BK294.out 4
     obtain ⟨Ao17, co17, eo17⟩ := Kd.R_slice HO_296003.out
     subst eo17
     go_wp2
     refine bodyPost_ret (results_cell_row rfl _ _ gb294 42 #[.string a0, .bool false, .slice none 0 0, .slice Ao17 x296003_1.length co17, .slice RawS.nil.a RawS.nil.n RawS.nil.c] (0, 0) _ rfl (by (with_reducible repeat (first | refine kN ?_ _ | refine kD ?_ | refine kA ?_ _)); refine blk_put (cs := #[.string a0, .bool false, .slice none 0 0, .slice Ao17 x296003_1.length co17, .slice RawS.nil.a RawS.nil.n RawS.nil.c]) ?_ 4 _ rfl; (with_reducible repeat (first | refine kN ?_ _ | refine kD ?_ | refine kA ?_ _)); refine blk_put (cs := #[.string a0, .bool false, .slice none 0 0, .slice none 0 0, .slice RawS.nil.a RawS.nil.n RawS.nil.c]) ?_ 3 _ rfl; (with_reducible repeat (first | refine kN ?_ _ | refine kD ?_ | refine kA ?_ _)); refine blk_put (cs := #[.string a0, .bool false, .slice none 0 0, .slice none 0 0, .slice RawS.nil.a RawS.nil.n RawS.nil.c]) ?_ 2 _ rfl; (with_reducible repeat (first | refine kN ?_ _ | refine kD ?_ | refine kA ?_ _)); refine blk_put (cs := #[.string a0, .bool false, .slice none 0 0, .slice none 0 0, .slice RawS.nil.a RawS.nil.n RawS.nil.c]) ?_ 1 _ rfl; (with_reducible repeat (first | refine kN ?_ _ | refine kD ?_ | refine kA ?_ _)); refine blk_put (cs := #[.string (⟨#[]⟩ : ByteArray), .bool false, .slice none 0 0, .slice none 0 0, .slice RawS.nil.a RawS.nil.n RawS.nil.c]) ?_ 0 _ rfl; (with_reducible repeat (first | refine kN ?_ _ | refine kD ?_ | refine kA ?_ _)); exact BK294.out) Try.underlying42 rfl (by kernel_rfl)) rfl ?_
     exact ⟨_, _, by first | rfl | (simp [errW_none, errW_some] <;> rfl) | (simp [*, errW_none, errW_some] <;> rfl), by first | exact Kd.S_nil _ _ _ _ _ | exact Kd.N_nil _ _ _ _ _ | exact Kd.V_nil _ _ _ _ _ | exact Kd.Q_nil _ _ _ _ _ | exact Kd.R_nil _ _ _ _ _, by (with_reducible repeat (first | apply Kd.R_alloc | apply Kd.R_drewN | apply Kd.R_drew)); exact Kd.R_mono (Kd.R_far (p := ⟨gb294, 4, none⟩) (Kd.R_far (p := ⟨gb294, 3, none⟩) (Kd.R_far (p := ⟨gb294, 2, none⟩) (Kd.R_far (p := ⟨gb294, 1, none⟩) (Kd.R_far (p := ⟨gb294, 0, none⟩) (Kd.R_types HO_296003.out BK294.out (by decide)) (fun _ hk => hk.2) (.string a0)) (fun _ hk => hk.2) (.bool false)) (fun _ hk => hk.2) (.slice none 0 0)) (fun _ hk => hk.2) (.slice Ao17 x296003_1.length co17)) (fun _ hk => hk.2) (.slice RawS.nil.a RawS.nil.n RawS.nil.c)) (fun _ hk => (by simp [Value.ownBlock])), hh HB⟩
noncomputable def lazycref01_Has.l0 : Nat → List ByteArray → ByteArray → Int → Option (Bool)
 | 0, _, _, _ => none
 | k + 1, x0, x1, x5 => if x5 < (x0.length : Int) then (if 0 ≤ x5 then (if (rdOf ByteArray.empty x0 x5).toList = x1.toList then (some true) else (lazycref01_Has.l0 k x0 x1 (wrap64 (x5 + 1)))) else (none)) else (some false)
noncomputable def lazycref01_Has.f (k : Nat) (l0 : List ByteArray) (a1 : ByteArray) : Option (Bool) := lazycref01_Has.l0 k l0 a1 0
set_option maxHeartbeats 8000000 in
set_option maxRecDepth 100000 in
theorem lazycref01_Has.calls (k : Nat) (A0 : Option Addr) (c0 : Nat) (l0 : List ByteArray) (a1 : ByteArray) (r : Bool) (w : World) (hr0 : Kd.C Kd.string w A0 l0.length l0) (hc0 : l0.length ≤ c0) (h : lazycref01_Has.f k l0 a1 = some r) :
 Calls Try.prog 21 #[.slice A0 l0.length c0, .string a1] w fun e w' => e = .returned (.bool r) ∧ Drawn0 w w' := by
 have HR0 := aM hr0
 have HC0 := aM hc0
 clear hr0 hc0
 have H : (lazycref01_Has.l0 k l0 a1 0) = some r := h
 clear h
 have H' := aM H
 clear H
 go_enter Try.func21, Try.ntmps21
 go_wp2
 go_loopg [5] k (fun kq v5 w' => ∃ (x5_1 : Int), v5 = .int .i64 x5_1 ∧ Aside0 (lazycref01_Has.l0 kq l0 a1 x5_1 = some r) ∧ Aside0 (kq ≤ k) ∧ Drawn0 w w')
 case atStart => exact ⟨(0), (by first | rfl | (simp; done) | (simp [*]; done)), H', ⟨Nat.le_refl _⟩, by repeat (first | exact Drawn0.refl _ | apply Drawn0.step)⟩
 case round =>
  clear H'
  try clear c2
  try clear p2
  obtain ⟨x5_1, rfl, HA, HK1, ⟨m1, rfl⟩⟩ := hrel
  cases gk with
  | zero => exact absurd HA.out (by simp [lazycref01_Has.l0])
  | succ k1 =>
   have H := HA.out
   clear HA
   simp only [lazycref01_Has.l0] at H
   by_cases c3 : x5_1 < (l0.length : Int)
   · rw [if_pos c3] at H
     have c3b0 : decide (x5_1 < (l0.length : Int)) = true := decide_eq_true c3
     clear c3
     by_cases c4 : 0 ≤ x5_1
     · rw [if_pos c4] at H
       have c4b0 : decide (0 ≤ x5_1) = true := decide_eq_true c4
       clear c4
       by_cases c5 : (rdOf ByteArray.empty l0 x5_1).toList = a1.toList
       · rw [if_pos c5] at H
         have c5b0 : ((rdOf ByteArray.empty l0 x5_1).toList == a1.toList) = true := beq_iff_eq.mpr c5
         have c5b1 : ((rdOf ByteArray.empty l0 x5_1).toList != a1.toList) = false := bne_eq_false_iff_eq.mpr c5
         clear c5
         obtain rfl := Option.some.inj H
         have p300 : 0 ≤ (x5_1 : Int) := dt
         have q300 : x5_1 < (l0.length : Int) := dt
         obtain ⟨ad300, e300, hx300_0⟩ := Kd.at_string HR0.out x5_1 p300 q300
         cases e300
         replace p300 := eq_true p300
         replace q300 := eq_true q300
         go_wp2
         go_ret
         exact ⟨by first | rfl | (simp; done) | (simp [*]; done), by repeat (first | exact Drawn0.refl _ | apply Drawn0.step)⟩
       · rw [if_neg c5] at H
         have c5b0 : ((rdOf ByteArray.empty l0 x5_1).toList == a1.toList) = false := beq_eq_false_iff_ne.mpr c5
         have c5b1 : ((rdOf ByteArray.empty l0 x5_1).toList != a1.toList) = true := bne_iff_ne.mpr c5
         have H' := aM H
         clear H
         have p300 : 0 ≤ (x5_1 : Int) := dt
         have q300 : x5_1 < (l0.length : Int) := dt
         obtain ⟨ad300, e300, hx300_0⟩ := Kd.at_string HR0.out x5_1 p300 q300
         cases e300
         replace p300 := eq_true p300
         replace q300 := eq_true q300
         go_wp2
         go_roundg k1
         case measure => have := HK1.out; omega
         case rel => exact ⟨(wrap64 (x5_1 + 1)), (by first | rfl | (simp; done) | (simp [*]; done)), H', ⟨by have := HK1.out; omega⟩, by repeat (first | exact Drawn0.refl _ | apply Drawn0.step)⟩
     · rw [if_neg c4] at H
       exact absurd H (by simp)
   · rw [if_neg c3] at H
     have c3b0 : decide (x5_1 < (l0.length : Int)) = false := decide_eq_false c3
     clear c3
     obtain rfl := Option.some.inj H
     go_wp2
     go_ret
     exact ⟨by first | rfl | (simp; done) | (simp [*]; done), by repeat (first | exact Drawn0.refl _ | apply Drawn0.step)⟩
mutual
noncomputable def lazycref10_Insert.l0 : Nat → List ByteArray → ByteArray → List ByteArray → Bool → Int → Option (List ByteArray)
 | 0, _, _, _, _, _ => none
 | k + 1, x0, x1, x5, x6, x7 => if x7 < (x0.length : Int) then (if x6 = true then (lazycref10_Insert.j1 k x0 x1 x5 x6 x7 false) else (if 0 ≤ x7 then (lazycref10_Insert.j1 k x0 x1 x5 x6 x7 (!(Op.bytesLess ((rdOf ByteArray.empty x0 x7).toList) x1.toList))) else (none))) else (if x6 = true then (some x5) else (if x5.length < 8796093022208 then (some (x5 ++ [x1])) else (none)))
noncomputable def lazycref10_Insert.j1 : Nat → List ByteArray → ByteArray → List ByteArray → Bool → Int → Bool → Option (List ByteArray)
 | 0, _, _, _, _, _, _ => none
 | k + 1, x0, x1, x5, x6, x7, x23 => if x23 = true then (if 0 ≤ x7 then (if x7 < (x0.length : Int) then (if (Op.bytesLess x1.toList ((rdOf ByteArray.empty x0 x7).toList)) = true then (if x5.length < 8796093022208 then ((some (x5 ++ [x1] : List ByteArray)).bind fun y306 => (if y306.length < 8796093022208 then (lazycref10_Insert.l0 k x0 x1 (y306 ++ [rdOf ByteArray.empty x0 x7]) true (wrap64 (x7 + 1))) else (none))) else (none)) else (if x5.length < 8796093022208 then (lazycref10_Insert.l0 k x0 x1 (x5 ++ [rdOf ByteArray.empty x0 x7]) true (wrap64 (x7 + 1))) else (none))) else (none)) else (none)) else (if 0 ≤ x7 then (if x7 < (x0.length : Int) then (if x5.length < 8796093022208 then (lazycref10_Insert.l0 k x0 x1 (x5 ++ [rdOf ByteArray.empty x0 x7]) x6 (wrap64 (x7 + 1))) else (none)) else (none)) else (none))
end
noncomputable def lazycref10_Insert.f (k : Nat) (l0 : List ByteArray) (a1 : ByteArray) : Option (List ByteArray) := lazycref10_Insert.l0 k l0 a1 ([] : List ByteArray) false 0
set_option maxHeartbeats 8000000 in
set_option maxRecDepth 100000 in
theorem lazycref10_Insert.calls (k : Nat) (A0 : Option Addr) (c0 : Nat) (l0 : List ByteArray) (a1 : ByteArray) (r : List ByteArray) (w : World) (hr0 : Kd.C Kd.string w A0 l0.length l0) (hc0 : l0.length ≤ c0) (h : lazycref10_Insert.f k l0 a1 = some r) :
 Calls Try.prog 38 #[.slice A0 l0.length c0, .string a1] w fun e w' => ∃ v0_ : Value, e = .returned (v0_) ∧ Kd.R Kd.string 9 w' w.heap.size (fun _ => True) v0_ r ∧ Below w.heap.size w w' := by
 have HR0 := aM hr0
 have HC0 := aM hc0
 clear hr0 hc0
 have HB := aM (Below.refl w.heap.size w)
 have H : (lazycref10_Insert.l0 k l0 a1 ([] : List ByteArray) false 0) = some r := h
 clear h
 have H' := aM H
 clear H
 go_enter Try.func38, Try.ntmps38
 go_wp2
 go_loopg [5, 6, 7] k (fun kq v5 v6 v7 w' => ∃ (x5_1 : List ByteArray) (x6_1 : Bool) (x7_1 : Int), v6 = .bool x6_1 ∧ v7 = .int .i64 x7_1 ∧ Aside0 (lazycref10_Insert.l0 kq l0 a1 x5_1 x6_1 x7_1 = some r) ∧ Aside0 (kq ≤ k) ∧ Aside0 (Kd.R Kd.string 9 w' w.heap.size (fun _ => True) v5 x5_1) ∧ Aside0 (Below w.heap.size w w'))
 case atStart => exact ⟨(([] : List ByteArray)), (false), (0), (by first | rfl | (simp; done) | (simp [*]; done)), (by first | rfl | (simp; done) | (simp [*]; done)), H', ⟨Nat.le_refl _⟩, ⟨by first | exact Kd.R_nil _ _ _ _ _ | exact Kd.N_nil _ _ _ _ _ | exact Kd.V_nil _ _ _ _ _ | exact Kd.Q_nil _ _ _ _ _ | exact Kd.S_nil _ _ _ _ _⟩, ⟨hh HB⟩⟩
 case round =>
  clear H'
  try clear p2
  obtain ⟨x5_1, x6_1, x7_1, rfl, rfl, HA, HK1, HO_5, HB⟩ := hrel
  cases gk with
  | zero => exact absurd HA.out (by simp [lazycref10_Insert.l0])
  | succ k1 =>
   have H := HA.out
   clear HA
   simp only [lazycref10_Insert.l0] at H
   by_cases c3 : x7_1 < (l0.length : Int)
   · rw [if_pos c3] at H
     have c3b0 : decide (x7_1 < (l0.length : Int)) = true := decide_eq_true c3
     clear c3
     have HC4 := aM H
     clear H
     go_upto_region 6 with (fail)
     go_cut [23] (fun v23 wc => ∃ (kq : Nat) (x23_3 : Bool), v23 = .bool x23_3 ∧ Aside0 (lazycref10_Insert.j1 kq l0 a1 x5_1 x6_1 x7_1 x23_3 = some r) ∧ Aside0 (kq ≤ k1) ∧ Aside0 (Kd.R Kd.string 9 wc w.heap.size (fun _ => True) u5 x5_1) ∧ Aside0 (Below w.heap.size w wc))
     case first =>
      have H := HC4.out
      clear HC4
      by_cases c5 : x6_1 = true
      · subst c5
        have H1 : (lazycref10_Insert.j1 k1 l0 a1 x5_1 true x7_1 false) = some r := by rw [if_pos rfl] at H; exact H
        clear H
        have H := H1
        clear H1
        have H' := aM H
        clear H
        go_wp2
        go_meet
        case rel => exact ⟨_, (false), (by first | rfl | (simp; done) | (simp [*]; done)), H', ⟨by have := HK1.out; first | omega | exact Nat.le_refl _⟩, ⟨rk HO_5⟩, ⟨hh HB⟩⟩
      · replace c5 := Bool.eq_false_iff.mpr c5
        subst c5
        have H1 : (if 0 ≤ x7_1 then (lazycref10_Insert.j1 k1 l0 a1 x5_1 false x7_1 (!(Op.bytesLess ((rdOf ByteArray.empty l0 x7_1).toList) a1.toList))) else (none)) = some r := by rw [if_neg (show ¬ (false = true) by decide)] at H; exact H
        clear H
        have H := H1
        clear H1
        by_cases c6 : 0 ≤ x7_1
        · rw [if_pos c6] at H
          have c6b0 : decide (0 ≤ x7_1) = true := decide_eq_true c6
          clear c6
          (first | rw [c6b0] | (simp only [i64_w, i32_w]; rw [c6b0]) | skip)
          have H' := aM H
          clear H
          have p304 : 0 ≤ (x7_1 : Int) := dt
          have q304 : x7_1 < (l0.length : Int) := dt
          obtain ⟨ad304, e304, hx304_0⟩ := Kd.at_string HR0.out x7_1 p304 q304
          cases e304
          replace hx304_0 := (HB.out.cell (World.block_lt_of_cell? w _ hx304_0)).trans hx304_0
          replace p304 := eq_true p304
          replace q304 := eq_true q304
          go_wp2
          go_meet
          case rel => exact ⟨_, (!(Op.bytesLess ((rdOf ByteArray.empty l0 x7_1).toList) a1.toList)), (by first | rfl | (simp; done) | (simp [*]; done)), H', ⟨by have := HK1.out; first | omega | exact Nat.le_refl _⟩, ⟨rk HO_5⟩, ⟨hh HB⟩⟩
        · rw [if_neg c6] at H
          exact absurd H (by simp)
     case rest =>
      clear HC4
      try clear p2
      try clear c3
      try clear c3b0
      try clear p3
      try clear q3
      try clear hx3
      try clear c5
      try clear c6
      try clear c6b0
      try clear hx304_0
      try clear p2
      try clear p304
      try clear q304
      obtain ⟨kq, x23_3, rfl, HA, HJ3, HO_5, HB⟩ := hcut
      cases kq with
      | zero => exact absurd HA.out (by simp [lazycref10_Insert.j1])
      | succ kj3 =>
       have H := HA.out
       clear HA
       simp only [lazycref10_Insert.j1] at H
       by_cases c7 : x23_3 = true
       · subst c7
         have H1 : (if 0 ≤ x7_1 then (if x7_1 < (l0.length : Int) then (if (Op.bytesLess a1.toList ((rdOf ByteArray.empty l0 x7_1).toList)) = true then (if x5_1.length < 8796093022208 then ((some (x5_1 ++ [a1] : List ByteArray)).bind fun y306 => (if y306.length < 8796093022208 then (lazycref10_Insert.l0 kj3 l0 a1 (y306 ++ [rdOf ByteArray.empty l0 x7_1]) true (wrap64 (x7_1 + 1))) else (none))) else (none)) else (if x5_1.length < 8796093022208 then (lazycref10_Insert.l0 kj3 l0 a1 (x5_1 ++ [rdOf ByteArray.empty l0 x7_1]) true (wrap64 (x7_1 + 1))) else (none))) else (none)) else (none)) = some r := by rw [if_pos rfl] at H; exact H
         clear H
         have H := H1
         clear H1
         by_cases c8 : 0 ≤ x7_1
         · rw [if_pos c8] at H
           have c8b0 : decide (0 ≤ x7_1) = true := decide_eq_true c8
           clear c8
           by_cases c9 : x7_1 < (l0.length : Int)
           · rw [if_pos c9] at H
             have c9b0 : decide (x7_1 < (l0.length : Int)) = true := decide_eq_true c9
             clear c9
             by_cases c10 : (Op.bytesLess a1.toList ((rdOf ByteArray.empty l0 x7_1).toList)) = true
             · rw [if_pos c10] at H
               have c10b0 : (Op.bytesLess a1.toList ((rdOf ByteArray.empty l0 x7_1).toList)) = true := c10
               clear c10
               by_cases c11 : x5_1.length < 8796093022208
               · rw [if_pos c11] at H
                 have LMc11 := aM c11
                 clear c11
                 obtain ⟨y306, hy306⟩ : ∃ y_ : List ByteArray, y_ = (x5_1 ++ [a1]) := ⟨_, rfl⟩
                 replace H : (if y306.length < 8796093022208 then (lazycref10_Insert.l0 kj3 l0 a1 (y306 ++ [rdOf ByteArray.empty l0 x7_1]) true (wrap64 (x7_1 + 1))) else (none)) = some r := by first | (rw [hy306]; with_reducible exact H) | (have H2_ := (Option.bind_some _ _).symm.trans H; rw [hy306]; with_reducible exact H2_) | (have H2_ := (Option.bind_some _ _).symm.trans H; with_reducible exact H2_) | with_reducible exact H | (rw [hy306]; exact H) | exact H
                 have Ny306 := aM hy306
                 clear hy306
                 by_cases c12 : y306.length < 8796093022208
                 · rw [if_pos c12] at H
                   have LMc12 := aM c12
                   clear c12
                   obtain ⟨y310, hy310⟩ : ∃ y_ : List ByteArray, y_ = (y306 ++ [rdOf ByteArray.empty l0 x7_1]) := ⟨_, rfl⟩
                   replace H : (lazycref10_Insert.l0 kj3 l0 a1 y310 true (wrap64 (x7_1 + 1))) = some r := by first | (rw [hy310]; with_reducible exact H) | (have H2_ := (Option.bind_some _ _).symm.trans H; rw [hy310]; with_reducible exact H2_) | (have H2_ := (Option.bind_some _ _).symm.trans H; with_reducible exact H2_) | with_reducible exact H | (rw [hy310]; exact H) | exact H
                   have Ny310 := aM hy310
                   clear hy310
                   have H' := aM H
                   clear H
                   have p305 : 0 ≤ (x7_1 : Int) := dt
                   have q305 : x7_1 < (l0.length : Int) := dt
                   obtain ⟨ad305, e305, hx305_0⟩ := Kd.at_string HR0.out x7_1 p305 q305
                   cases e305
                   replace hx305_0 := (HB.out.cell (World.block_lt_of_cell? w _ hx305_0)).trans hx305_0
                   replace p305 := eq_true p305
                   replace q305 := eq_true q305
                   go_wp2_with (first | ((with_reducible refine gate_builtin (b := .append) (xs := #[.tmp 30, .tmp 32]) rfl ?_); at_builtin; refine Kd.R_append Kd.string (w0 := w) w.heap.size rfl (.tmp 30) (.tmp 32) 25 9 (.string ⟨#[]⟩) 16 rfl Try.underlying25 info9 rfl (by decide) (by omega) u5 x5_1 a1 [.string a1] (fun _ => True) (fun _ => False) rfl rfl ?aP (fun _ hk => hk.elim) ?aF ?aO ?aB ?aS ?aL ?_; (case aP => exact rfl); (case aB => exact (hh HB)); (case aF => exact (fun _ _ => trivial)); (case aO => exact (rk HO_5)); (case aS => exact (below_size (hh HB))); (case aL => have := LMc11.out; omega); intro v307 w13 ho hb hg hat; rw [← Ny306.out] at ho; have HO308 := aM (ho); replace HB := aM (hb); clear HO_5; clear ho hb hg hat; have p309 : 0 ≤ (x7_1 : Int) := dt; have q309 : x7_1 < (l0.length : Int) := dt; obtain ⟨ad309, e309, hx309_0⟩ := Kd.at_string HR0.out x7_1 p309 q309; obtain rfl : ad305 = ad309 := (by injection e309); replace hx309_0 := (HB.out.cell (World.block_lt_of_cell? w _ hx309_0)).trans hx309_0; replace p309 := eq_true p309; replace q309 := eq_true q309) | ((with_reducible refine gate_builtin (b := .append) (xs := #[.tmp 34, .tmp 39]) rfl ?_); at_builtin; refine Kd.R_append Kd.string (w0 := w) w.heap.size rfl (.tmp 34) (.tmp 39) 25 9 (.string ⟨#[]⟩) 16 rfl Try.underlying25 info9 rfl (by decide) (by omega) v307 y306 (rdOf ByteArray.empty l0 x7_1) [.string (rdOf ByteArray.empty l0 x7_1)] (fun _ => True) (fun _ => False) rfl rfl ?aP (fun _ hk => hk.elim) ?aF ?aO ?aB ?aS ?aL ?_; (case aP => exact rfl); (case aB => exact (hh HB)); (case aF => exact (fun _ _ => trivial)); (case aO => exact (rk HO308)); (case aS => exact (below_size (hh HB))); (case aL => have := LMc12.out; omega); intro v311 w14 ho hb hg hat; rw [← Ny310.out] at ho; have HO312 := aM (ho); replace HB := aM (hb); clear HO308; clear ho hb hg hat))
                   go_roundg kj3
                   case measure => have := HK1.out; have := HJ3.out; omega
                   case rel => exact ⟨(y310), (true), (wrap64 (x7_1 + 1)), (by first | rfl | (simp; done) | (simp [*]; done)), (by first | rfl | (simp; done) | (simp [*]; done)), H', ⟨by have := HK1.out; have := HJ3.out; omega⟩, ⟨rk HO312⟩, ⟨hh HB⟩⟩
                 · rw [if_neg c12] at H
                   exact absurd H (by simp)
               · rw [if_neg c11] at H
                 exact absurd H (by simp)
             · rw [if_neg c10] at H
               have c10b0 : (Op.bytesLess a1.toList ((rdOf ByteArray.empty l0 x7_1).toList)) = false := by simpa using c10
               clear c10
               by_cases c15 : x5_1.length < 8796093022208
               · rw [if_pos c15] at H
                 have LMc15 := aM c15
                 clear c15
                 obtain ⟨y314, hy314⟩ : ∃ y_ : List ByteArray, y_ = (x5_1 ++ [rdOf ByteArray.empty l0 x7_1]) := ⟨_, rfl⟩
                 replace H : (lazycref10_Insert.l0 kj3 l0 a1 y314 true (wrap64 (x7_1 + 1))) = some r := by first | (rw [hy314]; with_reducible exact H) | (have H2_ := (Option.bind_some _ _).symm.trans H; rw [hy314]; with_reducible exact H2_) | (have H2_ := (Option.bind_some _ _).symm.trans H; with_reducible exact H2_) | with_reducible exact H | (rw [hy314]; exact H) | exact H
                 have Ny314 := aM hy314
                 clear hy314
                 have H' := aM H
                 clear H
                 have p305 : 0 ≤ (x7_1 : Int) := dt
                 have q305 : x7_1 < (l0.length : Int) := dt
                 obtain ⟨ad305, e305, hx305_0⟩ := Kd.at_string HR0.out x7_1 p305 q305
                 cases e305
                 replace hx305_0 := (HB.out.cell (World.block_lt_of_cell? w _ hx305_0)).trans hx305_0
                 replace p305 := eq_true p305
                 replace q305 := eq_true q305
                 have p313 : 0 ≤ (x7_1 : Int) := dt
                 have q313 : x7_1 < (l0.length : Int) := dt
                 obtain ⟨ad313, e313, hx313_0⟩ := Kd.at_string HR0.out x7_1 p313 q313
                 obtain rfl : ad305 = ad313 := (by injection e313)
                 replace hx313_0 := (HB.out.cell (World.block_lt_of_cell? w _ hx313_0)).trans hx313_0
                 replace p313 := eq_true p313
                 replace q313 := eq_true q313
                 go_wp2_with (first | ((with_reducible refine gate_builtin (b := .append) (xs := #[.tmp 34, .tmp 39]) rfl ?_); at_builtin; refine Kd.R_append Kd.string (w0 := w) w.heap.size rfl (.tmp 34) (.tmp 39) 25 9 (.string ⟨#[]⟩) 16 rfl Try.underlying25 info9 rfl (by decide) (by omega) u5 x5_1 (rdOf ByteArray.empty l0 x7_1) [.string (rdOf ByteArray.empty l0 x7_1)] (fun _ => True) (fun _ => False) rfl rfl ?aP (fun _ hk => hk.elim) ?aF ?aO ?aB ?aS ?aL ?_; (case aP => exact rfl); (case aB => exact (hh HB)); (case aF => exact (fun _ _ => trivial)); (case aO => exact (rk HO_5)); (case aS => exact (below_size (hh HB))); (case aL => have := LMc15.out; omega); intro v315 w16 ho hb hg hat; rw [← Ny314.out] at ho; have HO316 := aM (ho); replace HB := aM (hb); clear HO_5; clear ho hb hg hat))
                 go_roundg kj3
                 case measure => have := HK1.out; have := HJ3.out; omega
                 case rel => exact ⟨(y314), (true), (wrap64 (x7_1 + 1)), (by first | rfl | (simp; done) | (simp [*]; done)), (by first | rfl | (simp; done) | (simp [*]; done)), H', ⟨by have := HK1.out; have := HJ3.out; omega⟩, ⟨rk HO316⟩, ⟨hh HB⟩⟩
               · rw [if_neg c15] at H
                 exact absurd H (by simp)
           · rw [if_neg c9] at H
             exact absurd H (by simp)
         · rw [if_neg c8] at H
           exact absurd H (by simp)
       · replace c7 := Bool.eq_false_iff.mpr c7
         subst c7
         have H1 : (if 0 ≤ x7_1 then (if x7_1 < (l0.length : Int) then (if x5_1.length < 8796093022208 then (lazycref10_Insert.l0 kj3 l0 a1 (x5_1 ++ [rdOf ByteArray.empty l0 x7_1]) x6_1 (wrap64 (x7_1 + 1))) else (none)) else (none)) else (none)) = some r := by rw [if_neg (show ¬ (false = true) by decide)] at H; exact H
         clear H
         have H := H1
         clear H1
         by_cases c17 : 0 ≤ x7_1
         · rw [if_pos c17] at H
           have c17b0 : decide (0 ≤ x7_1) = true := decide_eq_true c17
           clear c17
           by_cases c18 : x7_1 < (l0.length : Int)
           · rw [if_pos c18] at H
             have c18b0 : decide (x7_1 < (l0.length : Int)) = true := decide_eq_true c18
             clear c18
             by_cases c19 : x5_1.length < 8796093022208
             · rw [if_pos c19] at H
               have LMc19 := aM c19
               clear c19
               obtain ⟨y318, hy318⟩ : ∃ y_ : List ByteArray, y_ = (x5_1 ++ [rdOf ByteArray.empty l0 x7_1]) := ⟨_, rfl⟩
               replace H : (lazycref10_Insert.l0 kj3 l0 a1 y318 x6_1 (wrap64 (x7_1 + 1))) = some r := by first | (rw [hy318]; with_reducible exact H) | (have H2_ := (Option.bind_some _ _).symm.trans H; rw [hy318]; with_reducible exact H2_) | (have H2_ := (Option.bind_some _ _).symm.trans H; with_reducible exact H2_) | with_reducible exact H | (rw [hy318]; exact H) | exact H
               have Ny318 := aM hy318
               clear hy318
               have H' := aM H
               clear H
               have p317 : 0 ≤ (x7_1 : Int) := dt
               have q317 : x7_1 < (l0.length : Int) := dt
               obtain ⟨ad317, e317, hx317_0⟩ := Kd.at_string HR0.out x7_1 p317 q317
               cases e317
               replace hx317_0 := (HB.out.cell (World.block_lt_of_cell? w _ hx317_0)).trans hx317_0
               replace p317 := eq_true p317
               replace q317 := eq_true q317
               go_wp2_with (first | ((with_reducible refine gate_builtin (b := .append) (xs := #[.tmp 34, .tmp 39]) rfl ?_); at_builtin; refine Kd.R_append Kd.string (w0 := w) w.heap.size rfl (.tmp 34) (.tmp 39) 25 9 (.string ⟨#[]⟩) 16 rfl Try.underlying25 info9 rfl (by decide) (by omega) u5 x5_1 (rdOf ByteArray.empty l0 x7_1) [.string (rdOf ByteArray.empty l0 x7_1)] (fun _ => True) (fun _ => False) rfl rfl ?aP (fun _ hk => hk.elim) ?aF ?aO ?aB ?aS ?aL ?_; (case aP => exact rfl); (case aB => exact (hh HB)); (case aF => exact (fun _ _ => trivial)); (case aO => exact (rk HO_5)); (case aS => exact (below_size (hh HB))); (case aL => have := LMc19.out; omega); intro v319 w20 ho hb hg hat; rw [← Ny318.out] at ho; have HO320 := aM (ho); replace HB := aM (hb); clear HO_5; clear ho hb hg hat))
               go_roundg kj3
               case measure => have := HK1.out; have := HJ3.out; omega
               case rel => exact ⟨(y318), (x6_1), (wrap64 (x7_1 + 1)), (by first | rfl | (simp; done) | (simp [*]; done)), (by first | rfl | (simp; done) | (simp [*]; done)), H', ⟨by have := HK1.out; have := HJ3.out; omega⟩, ⟨rk HO320⟩, ⟨hh HB⟩⟩
             · rw [if_neg c19] at H
               exact absurd H (by simp)
           · rw [if_neg c18] at H
             exact absurd H (by simp)
         · rw [if_neg c17] at H
           exact absurd H (by simp)
   · rw [if_neg c3] at H
     have c3b0 : decide (x7_1 < (l0.length : Int)) = false := decide_eq_false c3
     clear c3
     by_cases c21 : x6_1 = true
     · subst c21
       have H1 : (some x5_1) = some r := by rw [if_pos rfl] at H; exact H
       clear H
       have H := H1
       clear H1
       obtain rfl := Option.some.inj H
       go_wp2
       go_ret
       exact ⟨_, by first | rfl | (simp [errW_none, errW_some] <;> rfl) | (simp [*, errW_none, errW_some] <;> rfl), rk HO_5, hh HB⟩
     · replace c21 := Bool.eq_false_iff.mpr c21
       subst c21
       have H1 : (if x5_1.length < 8796093022208 then (some (x5_1 ++ [a1])) else (none)) = some r := by rw [if_neg (show ¬ (false = true) by decide)] at H; exact H
       clear H
       have H := H1
       clear H1
       by_cases c22 : x5_1.length < 8796093022208
       · rw [if_pos c22] at H
         have LMc22 := aM c22
         clear c22
         obtain ⟨y301, hy301⟩ : ∃ y_ : List ByteArray, y_ = (x5_1 ++ [a1]) := ⟨_, rfl⟩
         replace H : (some y301) = some r := by first | (rw [hy301]; with_reducible exact H) | (have H2_ := (Option.bind_some _ _).symm.trans H; rw [hy301]; with_reducible exact H2_) | (have H2_ := (Option.bind_some _ _).symm.trans H; with_reducible exact H2_) | with_reducible exact H | (rw [hy301]; exact H) | exact H
         have Ny301 := aM hy301
         clear hy301
         obtain rfl := Option.some.inj H
         go_wp2_with (first | ((with_reducible refine gate_builtin (b := .append) (xs := #[.tmp 43, .tmp 45]) rfl ?_); at_builtin; refine Kd.R_append Kd.string (w0 := w) w.heap.size rfl (.tmp 43) (.tmp 45) 25 9 (.string ⟨#[]⟩) 16 rfl Try.underlying25 info9 rfl (by decide) (by omega) u5 x5_1 a1 [.string a1] (fun _ => True) (fun _ => False) rfl rfl ?aP (fun _ hk => hk.elim) ?aF ?aO ?aB ?aS ?aL ?_; (case aP => exact rfl); (case aB => exact (hh HB)); (case aF => exact (fun _ _ => trivial)); (case aO => exact (rk HO_5)); (case aS => exact (below_size (hh HB))); (case aL => have := LMc22.out; omega); intro v302 w23 ho hb hg hat; rw [← Ny301.out] at ho; have HO303 := aM (ho); replace HB := aM (hb); clear HO_5; clear ho hb hg hat))
         go_ret
         exact ⟨_, by first | rfl | (simp [errW_none, errW_some] <;> rfl) | (simp [*, errW_none, errW_some] <;> rfl), rk HO303, hh HB⟩
       · rw [if_neg c22] at H
         exact absurd H (by simp)
end Go.Proofs.Ytmadhaccjmakdaa.P
namespace Go.Proofs.Ytmadhaccjmakdaa.P
open Go.RowKit Go.Proofs.YtmadhaccjmakdaaW.PrintWords Go.Proofs.YtmadhaccjmakdaaW.PrintLast Go.Proofs.YtmadhaccjmakdaaW.PrintMore
attribute [local go_sem] str_gtr str_leq str_geq max2_int min2_int max_two min_two max_three min_three max_four min_four
mutual
noncomputable def lazycref10_Imports.l0 : Nat → List (S42) → ByteArray → List ByteArray → Int → Option (List ByteArray)
 | 0, _, _, _, _ => none
 | k + 1, x0, x1, x5, x6 => if x6 < (x0.length : Int) then (lazycref10_Imports.l1 k x0 x1 x5 x6 0) else (some x5)
noncomputable def lazycref10_Imports.l1 : Nat → List (S42) → ByteArray → List ByteArray → Int → Int → Option (List ByteArray)
 | 0, _, _, _, _, _ => none
 | k + 1, x0, x1, x5, x6, x7 => if 0 ≤ x6 then (if x6 < (x0.length : Int) then (if x7 < (((rd_T42 x0 x6).f3).length : Int) then (if ((rd_T42 x0 x6).f0).toList = x1.toList then (if 0 ≤ x7 then ((lazycref10_Insert.f k x5 ((rd_T66 ((rd_T42 x0 x6).f3) x7).f0)).bind fun t325 => (lazycref10_Imports.l1 k x0 x1 t325 x6 (wrap64 (x7 + 1)))) else (none)) else (lazycref10_Imports.l0 k x0 x1 x5 (wrap64 (x6 + 1)))) else (lazycref10_Imports.l0 k x0 x1 x5 (wrap64 (x6 + 1)))) else (none)) else (none)
end
noncomputable def lazycref10_Imports.f (k : Nat) (l0 : List (S42)) (a1 : ByteArray) : Option (List ByteArray) := lazycref10_Imports.l0 k l0 a1 ([] : List ByteArray) 0
set_option maxHeartbeats 8000000 in
set_option maxRecDepth 100000 in
theorem lazycref10_Imports.calls (k : Nat) (A0 : Option Addr) (c0 : Nat) (l0 : List (S42)) (a1 : ByteArray) (r : List ByteArray) (w : World) (hr0 : Kd.C k42 w A0 l0.length l0) (hc0 : l0.length ≤ c0) (h : lazycref10_Imports.f k l0 a1 = some r) :
 Calls Try.prog 22 #[.slice A0 l0.length c0, .string a1] w fun e w' => ∃ v0_ : Value, e = .returned (v0_) ∧ Kd.R Kd.string 9 w' w.heap.size (fun _ => True) v0_ r ∧ Below w.heap.size w w' := by
 have HR0 := aM hr0
 have HC0 := aM hc0
 clear hr0 hc0
 have HB := aM (Below.refl w.heap.size w)
 have H : (lazycref10_Imports.l0 k l0 a1 ([] : List ByteArray) 0) = some r := h
 clear h
 have H' := aM H
 clear H
 go_enter Try.func22, Try.ntmps22
 go_wp2
 go_loopg [5, 6] k (fun kq v5 v6 w' => ∃ (x5_1 : List ByteArray) (x6_1 : Int), v6 = .int .i64 x6_1 ∧ Aside0 (lazycref10_Imports.l0 kq l0 a1 x5_1 x6_1 = some r) ∧ Aside0 (kq ≤ k) ∧ Aside0 (Kd.R Kd.string 9 w' w.heap.size (fun _ => True) v5 x5_1) ∧ Aside0 (Below w.heap.size w w'))
 case atStart => exact ⟨(([] : List ByteArray)), (0), (by first | rfl | (simp; done) | (simp [*]; done)), H', ⟨Nat.le_refl _⟩, ⟨by first | exact Kd.R_nil _ _ _ _ _ | exact Kd.N_nil _ _ _ _ _ | exact Kd.V_nil _ _ _ _ _ | exact Kd.Q_nil _ _ _ _ _ | exact Kd.S_nil _ _ _ _ _⟩, ⟨hh HB⟩⟩
 case round =>
  clear H'
  try clear c2
  try clear p2
  obtain ⟨x5_1, x6_1, rfl, HA, HK1, HO_5, HB⟩ := hrel
  cases gk with
  | zero => exact absurd HA.out (by simp [lazycref10_Imports.l0])
  | succ k1 =>
   have H := HA.out
   clear HA
   simp only [lazycref10_Imports.l0] at H
   by_cases c3 : x6_1 < (l0.length : Int)
   · rw [if_pos c3] at H
     have c3b0 : decide (x6_1 < (l0.length : Int)) = true := decide_eq_true c3
     clear c3
     have H' := aM H
     clear H
     go_wp2
     go_loopg [5, 7] k1 (fun kq v5 v7 w' => ∃ (x5_2 : List ByteArray) (x7_2 : Int), v7 = .int .i64 x7_2 ∧ Aside0 (lazycref10_Imports.l1 kq l0 a1 x5_2 x6_1 x7_2 = some r) ∧ Aside0 (kq ≤ k1) ∧ Aside0 (Kd.R Kd.string 9 w' w.heap.size (fun _ => True) v5 x5_2) ∧ Aside0 (Below w.heap.size w w'))
     case atStart => exact ⟨(x5_1), (0), (by first | rfl | (simp; done) | (simp [*]; done)), H', ⟨Nat.le_refl _⟩, ⟨rk HO_5⟩, ⟨hh HB⟩⟩
     case round =>
      clear H'
      try clear c2
      try clear p2
      try clear c3
      try clear c3b0
      try clear p2
      obtain ⟨x5_2, x7_2, rfl, HA, HK2, HO_5, HB⟩ := hrel
      cases gk with
      | zero => exact absurd HA.out (by simp [lazycref10_Imports.l1])
      | succ k2 =>
       have H := HA.out
       clear HA
       simp only [lazycref10_Imports.l1] at H
       by_cases c4 : 0 ≤ x6_1
       · rw [if_pos c4] at H
         have c4b0 : decide (0 ≤ x6_1) = true := decide_eq_true c4
         clear c4
         by_cases c5 : x6_1 < (l0.length : Int)
         · rw [if_pos c5] at H
           have c5b0 : decide (x6_1 < (l0.length : Int)) = true := decide_eq_true c5
           clear c5
           by_cases c6 : x7_2 < (((rd_T42 l0 x6_1).f3).length : Int)
           · rw [if_pos c6] at H
             have c6b0 : decide (x7_2 < (((rd_T42 l0 x6_1).f3).length : Int)) = true := decide_eq_true c6
             clear c6
             by_cases c7 : ((rd_T42 l0 x6_1).f0).toList = a1.toList
             · rw [if_pos c7] at H
               have c7b0 : (((rd_T42 l0 x6_1).f0).toList == a1.toList) = true := beq_iff_eq.mpr c7
               have c7b1 : (((rd_T42 l0 x6_1).f0).toList != a1.toList) = false := bne_eq_false_iff_eq.mpr c7
               clear c7
               by_cases c8 : 0 ≤ x7_2
               · rw [if_pos c8] at H
                 have c8b0 : decide (0 ≤ x7_2) = true := decide_eq_true c8
                 clear c8
                 replace H := Option.bind_eq_some_iff.mp H
                 obtain ⟨t325, A90, H⟩ := H
                 replace H : (lazycref10_Imports.l1 k2 l0 a1 t325 x6_1 (wrap64 (x7_2 + 1))) = some r := H
                 have A9 := aM A90
                 clear A90
                 have H' := aM H
                 clear H
                 have p321 : 0 ≤ (x6_1 : Int) := dt
                 have q321 : x6_1 < (l0.length : Int) := dt
                 obtain ⟨ad321, A321_2, c321_2, A321_3, c321_3, e321, hx321_0, hx321_1, hx321_2, hx321_3, hx321_4, hl321_2, hi321_2, hl321_3, hi321_3⟩ := at_T42 HR0.out x6_1 p321 q321
                 cases e321
                 replace hx321_0 := (HB.out.cell (World.block_lt_of_cell? w _ hx321_0)).trans hx321_0
                 replace hx321_1 := (HB.out.cell (World.block_lt_of_cell? w _ hx321_1)).trans hx321_1
                 have hw_ea321_2 := aM hx321_2; replace hx321_2 := (HB.out.cell (World.block_lt_of_cell? w _ hx321_2)).trans hx321_2
                 have hw_ea321_3 := aM hx321_3; replace hx321_3 := (HB.out.cell (World.block_lt_of_cell? w _ hx321_3)).trans hx321_3
                 replace hx321_4 := (HB.out.cell (World.block_lt_of_cell? w _ hx321_4)).trans hx321_4
                 have HR321_2 := aM hi321_2
                 have HC321_2 := aM hl321_2
                 clear hi321_2 hl321_2
                 have HR321_3 := aM hi321_3
                 have HC321_3 := aM hl321_3
                 clear hi321_3 hl321_3
                 replace p321 := eq_true p321
                 replace q321 := eq_true q321
                 have p322 : 0 ≤ (x6_1 : Int) := dt
                 have q322 : x6_1 < (l0.length : Int) := dt
                 obtain ⟨ad322, A322_2, c322_2, A322_3, c322_3, e322, hx322_0, hx322_1, hx322_2, hx322_3, hx322_4, hl322_2, hi322_2, hl322_3, hi322_3⟩ := at_T42 HR0.out x6_1 p322 q322
                 obtain rfl : ad321 = ad322 := (by injection e322)
                 replace hx322_0 := (HB.out.cell (World.block_lt_of_cell? w _ hx322_0)).trans hx322_0
                 replace hx322_1 := (HB.out.cell (World.block_lt_of_cell? w _ hx322_1)).trans hx322_1
                 have hw_ea322_2 := aM hx322_2; replace hx322_2 := (HB.out.cell (World.block_lt_of_cell? w _ hx322_2)).trans hx322_2
                 have hw_ea322_3 := aM hx322_3; replace hx322_3 := (HB.out.cell (World.block_lt_of_cell? w _ hx322_3)).trans hx322_3
                 replace hx322_4 := (HB.out.cell (World.block_lt_of_cell? w _ hx322_4)).trans hx322_4
                 have HR322_2 := aM hi322_2
                 have HC322_2 := aM hl322_2
                 clear hi322_2 hl322_2
                 have HR322_3 := aM hi322_3
                 have HC322_3 := aM hl322_3
                 clear hi322_3 hl322_3
                 replace p322 := eq_true p322
                 replace q322 := eq_true q322
                 have ea_ := Option.some.inj (by first | exact hx321_2.symm.trans hx322_2 | exact hw_ea321_2.out.symm.trans hw_ea322_2.out)
                 injection ea_ with ea_ en_ ec_
                 subst ea_
                 subst ec_
                 clear en_
                 have ea_ := Option.some.inj (by first | exact hx321_3.symm.trans hx322_3 | exact hw_ea321_3.out.symm.trans hw_ea322_3.out)
                 injection ea_ with ea_ en_ ec_
                 subst ea_
                 subst ec_
                 clear en_
                 have p323 : 0 ≤ (x6_1 : Int) := dt
                 have q323 : x6_1 < (l0.length : Int) := dt
                 obtain ⟨ad323, A323_2, c323_2, A323_3, c323_3, e323, hx323_0, hx323_1, hx323_2, hx323_3, hx323_4, hl323_2, hi323_2, hl323_3, hi323_3⟩ := at_T42 HR0.out x6_1 p323 q323
                 obtain rfl : ad321 = ad323 := (by injection e323)
                 replace hx323_0 := (HB.out.cell (World.block_lt_of_cell? w _ hx323_0)).trans hx323_0
                 replace hx323_1 := (HB.out.cell (World.block_lt_of_cell? w _ hx323_1)).trans hx323_1
                 have hw_ea323_2 := aM hx323_2; replace hx323_2 := (HB.out.cell (World.block_lt_of_cell? w _ hx323_2)).trans hx323_2
                 have hw_ea323_3 := aM hx323_3; replace hx323_3 := (HB.out.cell (World.block_lt_of_cell? w _ hx323_3)).trans hx323_3
                 replace hx323_4 := (HB.out.cell (World.block_lt_of_cell? w _ hx323_4)).trans hx323_4
                 have HR323_2 := aM hi323_2
                 have HC323_2 := aM hl323_2
                 clear hi323_2 hl323_2
                 have HR323_3 := aM hi323_3
                 have HC323_3 := aM hl323_3
                 clear hi323_3 hl323_3
                 replace p323 := eq_true p323
                 replace q323 := eq_true q323
                 have ea_ := Option.some.inj (by first | exact hx321_2.symm.trans hx323_2 | exact hw_ea321_2.out.symm.trans hw_ea323_2.out)
                 injection ea_ with ea_ en_ ec_
                 subst ea_
                 subst ec_
                 clear en_
                 have ea_ := Option.some.inj (by first | exact hx321_3.symm.trans hx323_3 | exact hw_ea321_3.out.symm.trans hw_ea323_3.out)
                 injection ea_ with ea_ en_ ec_
                 subst ea_
                 subst ec_
                 clear en_
                 have p324 : 0 ≤ (x7_2 : Int) := dt
                 have q324 : x7_2 < (((rd_T42 l0 x6_1).f3).length : Int) := dt
                 obtain ⟨ad324, A324_5, c324_5, e324, hx324_0, hx324_1, hx324_2, hx324_3, hx324_4, hx324_5, hl324_5, hi324_5⟩ := at_T66 HR323_3.out x7_2 p324 q324
                 cases e324
                 replace hx324_0 := (HB.out.cell (World.block_lt_of_cell? w _ hx324_0)).trans hx324_0
                 replace hx324_1 := (HB.out.cell (World.block_lt_of_cell? w _ hx324_1)).trans hx324_1
                 replace hx324_2 := (HB.out.cell (World.block_lt_of_cell? w _ hx324_2)).trans hx324_2
                 replace hx324_3 := (HB.out.cell (World.block_lt_of_cell? w _ hx324_3)).trans hx324_3
                 replace hx324_4 := (HB.out.cell (World.block_lt_of_cell? w _ hx324_4)).trans hx324_4
                 replace hx324_5 := (HB.out.cell (World.block_lt_of_cell? w _ hx324_5)).trans hx324_5
                 have HR324_5 := aM hi324_5
                 have HC324_5 := aM hl324_5
                 clear hi324_5 hl324_5
                 replace p324 := eq_true p324
                 replace q324 := eq_true q324
                 obtain ⟨Ao10, co10, eo10⟩ := Kd.R_slice HO_5.out
                 subst eo10
                 go_wp2_with (first | ((with_reducible refine gate_callee (f := 38) rfl ?_); refine gL (some 43) rfl rfl Try.func38 (by kernel_rfl) rfl #[.slice Ao10 x5_2.length co10, .string ((rd_T66 ((rd_T42 l0 x6_1).f3) x7_2).f0)] rfl ?_; (with_reducible refine (lazycref10_Insert.calls k2 _ _ x5_2 ((rd_T66 ((rd_T42 l0 x6_1).f3) x7_2).f0) t325 _ ?side1 ?side2 A9.out).mono ?_); (case side1 => exact cr HO_5); (case side2 => exact (Kd.R_reads' HO_5.out).2.1); rintro e w11 ⟨v326, rfl, ho0, hb⟩; refine ⟨_, rfl, ?_⟩; have HO327 := aM (Kd.R_lower (Kd.R_new' ho0 (Kd.R_lt (rk HO_5))) (below_size (hh HB))); replace HO_5 := aM (Kd.R_elder' (rk HO_5) (Kd.R_base ho0) hb); replace HB := bs HB hb; (try clear hb); (try clear hb2); (try clear hk); (try clear hi); (try clear ho0)))
                 go_roundg k2
                 case measure => have := HK1.out; have := HK2.out; omega
                 case rel => exact ⟨(t325), (wrap64 (x7_2 + 1)), (by first | rfl | (simp; done) | (simp [*]; done)), H', ⟨by have := HK1.out; have := HK2.out; omega⟩, ⟨by (with_reducible repeat (first | apply Kd.R_alloc | apply Kd.R_drewN | apply Kd.R_drew)); exact Kd.R_mono HO327.out (fun _ hk => trivial)⟩, ⟨hh HB⟩⟩
               · rw [if_neg c8] at H
                 exact absurd H (by simp)
             · rw [if_neg c7] at H
               have c7b0 : (((rd_T42 l0 x6_1).f0).toList == a1.toList) = false := beq_eq_false_iff_ne.mpr c7
               have c7b1 : (((rd_T42 l0 x6_1).f0).toList != a1.toList) = true := bne_iff_ne.mpr c7
               have H' := aM H
               clear H
               have p321 : 0 ≤ (x6_1 : Int) := dt
               have q321 : x6_1 < (l0.length : Int) := dt
               obtain ⟨ad321, A321_2, c321_2, A321_3, c321_3, e321, hx321_0, hx321_1, hx321_2, hx321_3, hx321_4, hl321_2, hi321_2, hl321_3, hi321_3⟩ := at_T42 HR0.out x6_1 p321 q321
               cases e321
               replace hx321_0 := (HB.out.cell (World.block_lt_of_cell? w _ hx321_0)).trans hx321_0
               replace hx321_1 := (HB.out.cell (World.block_lt_of_cell? w _ hx321_1)).trans hx321_1
               have hw_ea321_2 := aM hx321_2; replace hx321_2 := (HB.out.cell (World.block_lt_of_cell? w _ hx321_2)).trans hx321_2
               have hw_ea321_3 := aM hx321_3; replace hx321_3 := (HB.out.cell (World.block_lt_of_cell? w _ hx321_3)).trans hx321_3
               replace hx321_4 := (HB.out.cell (World.block_lt_of_cell? w _ hx321_4)).trans hx321_4
               have HR321_2 := aM hi321_2
               have HC321_2 := aM hl321_2
               clear hi321_2 hl321_2
               have HR321_3 := aM hi321_3
               have HC321_3 := aM hl321_3
               clear hi321_3 hl321_3
               replace p321 := eq_true p321
               replace q321 := eq_true q321
               have p322 : 0 ≤ (x6_1 : Int) := dt
               have q322 : x6_1 < (l0.length : Int) := dt
               obtain ⟨ad322, A322_2, c322_2, A322_3, c322_3, e322, hx322_0, hx322_1, hx322_2, hx322_3, hx322_4, hl322_2, hi322_2, hl322_3, hi322_3⟩ := at_T42 HR0.out x6_1 p322 q322
               obtain rfl : ad321 = ad322 := (by injection e322)
               replace hx322_0 := (HB.out.cell (World.block_lt_of_cell? w _ hx322_0)).trans hx322_0
               replace hx322_1 := (HB.out.cell (World.block_lt_of_cell? w _ hx322_1)).trans hx322_1
               have hw_ea322_2 := aM hx322_2; replace hx322_2 := (HB.out.cell (World.block_lt_of_cell? w _ hx322_2)).trans hx322_2
               have hw_ea322_3 := aM hx322_3; replace hx322_3 := (HB.out.cell (World.block_lt_of_cell? w _ hx322_3)).trans hx322_3
               replace hx322_4 := (HB.out.cell (World.block_lt_of_cell? w _ hx322_4)).trans hx322_4
               have HR322_2 := aM hi322_2
               have HC322_2 := aM hl322_2
               clear hi322_2 hl322_2
               have HR322_3 := aM hi322_3
               have HC322_3 := aM hl322_3
               clear hi322_3 hl322_3
               replace p322 := eq_true p322
               replace q322 := eq_true q322
               have ea_ := Option.some.inj (by first | exact hx321_2.symm.trans hx322_2 | exact hw_ea321_2.out.symm.trans hw_ea322_2.out)
               injection ea_ with ea_ en_ ec_
               subst ea_
               subst ec_
               clear en_
               have ea_ := Option.some.inj (by first | exact hx321_3.symm.trans hx322_3 | exact hw_ea321_3.out.symm.trans hw_ea322_3.out)
               injection ea_ with ea_ en_ ec_
               subst ea_
               subst ec_
               clear en_
               go_wp2
               go_roundg k2
               case measure => have := HK1.out; have := HK2.out; omega
               case rel => exact ⟨(x5_2), (wrap64 (x6_1 + 1)), (by first | rfl | (simp; done) | (simp [*]; done)), H', ⟨by have := HK1.out; have := HK2.out; omega⟩, ⟨rk HO_5⟩, ⟨hh HB⟩⟩
           · rw [if_neg c6] at H
             have c6b0 : decide (x7_2 < (((rd_T42 l0 x6_1).f3).length : Int)) = false := decide_eq_false c6
             clear c6
             have H' := aM H
             clear H
             have p321 : 0 ≤ (x6_1 : Int) := dt
             have q321 : x6_1 < (l0.length : Int) := dt
             obtain ⟨ad321, A321_2, c321_2, A321_3, c321_3, e321, hx321_0, hx321_1, hx321_2, hx321_3, hx321_4, hl321_2, hi321_2, hl321_3, hi321_3⟩ := at_T42 HR0.out x6_1 p321 q321
             cases e321
             replace hx321_0 := (HB.out.cell (World.block_lt_of_cell? w _ hx321_0)).trans hx321_0
             replace hx321_1 := (HB.out.cell (World.block_lt_of_cell? w _ hx321_1)).trans hx321_1
             have hw_ea321_2 := aM hx321_2; replace hx321_2 := (HB.out.cell (World.block_lt_of_cell? w _ hx321_2)).trans hx321_2
             have hw_ea321_3 := aM hx321_3; replace hx321_3 := (HB.out.cell (World.block_lt_of_cell? w _ hx321_3)).trans hx321_3
             replace hx321_4 := (HB.out.cell (World.block_lt_of_cell? w _ hx321_4)).trans hx321_4
             have HR321_2 := aM hi321_2
             have HC321_2 := aM hl321_2
             clear hi321_2 hl321_2
             have HR321_3 := aM hi321_3
             have HC321_3 := aM hl321_3
             clear hi321_3 hl321_3
             replace p321 := eq_true p321
             replace q321 := eq_true q321
             go_wp2
             go_roundg k2
             case measure => have := HK1.out; have := HK2.out; omega
             case rel => exact ⟨(x5_2), (wrap64 (x6_1 + 1)), (by first | rfl | (simp; done) | (simp [*]; done)), H', ⟨by have := HK1.out; have := HK2.out; omega⟩, ⟨rk HO_5⟩, ⟨hh HB⟩⟩
         · rw [if_neg c5] at H
           exact absurd H (by simp)
       · rw [if_neg c4] at H
         exact absurd H (by simp)
   · rw [if_neg c3] at H
     have c3b0 : decide (x6_1 < (l0.length : Int)) = false := decide_eq_false c3
     clear c3
     obtain rfl := Option.some.inj H
     go_wp2
     go_ret
     exact ⟨_, by first | rfl | (simp [errW_none, errW_some] <;> rfl) | (simp [*, errW_none, errW_some] <;> rfl), rk HO_5, hh HB⟩
noncomputable def lazycref10_Names.l0 : Nat → List (S42) → List ByteArray → Int → Option (List ByteArray)
 | 0, _, _, _ => none
 | k + 1, x0, x3, x4 => if x4 < (x0.length : Int) then (if 0 ≤ x4 then ((lazycref10_Insert.f k x3 ((rd_T42 x0 x4).f0)).bind fun t329 => (lazycref10_Names.l0 k x0 t329 (wrap64 (x4 + 1)))) else (none)) else (some x3)
noncomputable def lazycref10_Names.f (k : Nat) (l0 : List (S42)) : Option (List ByteArray) := lazycref10_Names.l0 k l0 ([] : List ByteArray) 0
set_option maxHeartbeats 8000000 in
set_option maxRecDepth 100000 in
theorem lazycref10_Names.calls (k : Nat) (A0 : Option Addr) (c0 : Nat) (l0 : List (S42)) (r : List ByteArray) (w : World) (hr0 : Kd.C k42 w A0 l0.length l0) (hc0 : l0.length ≤ c0) (h : lazycref10_Names.f k l0 = some r) :
 Calls Try.prog 28 #[.slice A0 l0.length c0] w fun e w' => ∃ v0_ : Value, e = .returned (v0_) ∧ Kd.R Kd.string 9 w' w.heap.size (fun _ => True) v0_ r ∧ Below w.heap.size w w' := by
 have HR0 := aM hr0
 have HC0 := aM hc0
 clear hr0 hc0
 have HB := aM (Below.refl w.heap.size w)
 have H : (lazycref10_Names.l0 k l0 ([] : List ByteArray) 0) = some r := h
 clear h
 have H' := aM H
 clear H
 go_enter Try.func28, Try.ntmps28
 go_wp2
 go_loopg [3, 4] k (fun kq v3 v4 w' => ∃ (x3_1 : List ByteArray) (x4_1 : Int), v4 = .int .i64 x4_1 ∧ Aside0 (lazycref10_Names.l0 kq l0 x3_1 x4_1 = some r) ∧ Aside0 (kq ≤ k) ∧ Aside0 (Kd.R Kd.string 9 w' w.heap.size (fun _ => True) v3 x3_1) ∧ Aside0 (Below w.heap.size w w'))
 case atStart => exact ⟨(([] : List ByteArray)), (0), (by first | rfl | (simp; done) | (simp [*]; done)), H', ⟨Nat.le_refl _⟩, ⟨by first | exact Kd.R_nil _ _ _ _ _ | exact Kd.N_nil _ _ _ _ _ | exact Kd.V_nil _ _ _ _ _ | exact Kd.Q_nil _ _ _ _ _ | exact Kd.S_nil _ _ _ _ _⟩, ⟨hh HB⟩⟩
 case round =>
  clear H'
  obtain ⟨x3_1, x4_1, rfl, HA, HK1, HO_3, HB⟩ := hrel
  cases gk with
  | zero => exact absurd HA.out (by simp [lazycref10_Names.l0])
  | succ k1 =>
   have H := HA.out
   clear HA
   simp only [lazycref10_Names.l0] at H
   by_cases c2 : x4_1 < (l0.length : Int)
   · rw [if_pos c2] at H
     have c2b0 : decide (x4_1 < (l0.length : Int)) = true := decide_eq_true c2
     clear c2
     by_cases c3 : 0 ≤ x4_1
     · rw [if_pos c3] at H
       have c3b0 : decide (0 ≤ x4_1) = true := decide_eq_true c3
       clear c3
       replace H := Option.bind_eq_some_iff.mp H
       obtain ⟨t329, A40, H⟩ := H
       replace H : (lazycref10_Names.l0 k1 l0 t329 (wrap64 (x4_1 + 1))) = some r := H
       have A4 := aM A40
       clear A40
       have H' := aM H
       clear H
       have p328 : 0 ≤ (x4_1 : Int) := dt
       have q328 : x4_1 < (l0.length : Int) := dt
       obtain ⟨ad328, A328_2, c328_2, A328_3, c328_3, e328, hx328_0, hx328_1, hx328_2, hx328_3, hx328_4, hl328_2, hi328_2, hl328_3, hi328_3⟩ := at_T42 HR0.out x4_1 p328 q328
       cases e328
       replace hx328_0 := (HB.out.cell (World.block_lt_of_cell? w _ hx328_0)).trans hx328_0
       replace hx328_1 := (HB.out.cell (World.block_lt_of_cell? w _ hx328_1)).trans hx328_1
       replace hx328_2 := (HB.out.cell (World.block_lt_of_cell? w _ hx328_2)).trans hx328_2
       replace hx328_3 := (HB.out.cell (World.block_lt_of_cell? w _ hx328_3)).trans hx328_3
       replace hx328_4 := (HB.out.cell (World.block_lt_of_cell? w _ hx328_4)).trans hx328_4
       have HR328_2 := aM hi328_2
       have HC328_2 := aM hl328_2
       clear hi328_2 hl328_2
       have HR328_3 := aM hi328_3
       have HC328_3 := aM hl328_3
       clear hi328_3 hl328_3
       replace p328 := eq_true p328
       replace q328 := eq_true q328
       obtain ⟨Ao5, co5, eo5⟩ := Kd.R_slice HO_3.out
       subst eo5
       go_wp2_with (first | ((with_reducible refine gate_callee (f := 38) rfl ?_); refine gL (some 17) rfl rfl Try.func38 (by kernel_rfl) rfl #[.slice Ao5 x3_1.length co5, .string ((rd_T42 l0 x4_1).f0)] rfl ?_; (with_reducible refine (lazycref10_Insert.calls k1 _ _ x3_1 ((rd_T42 l0 x4_1).f0) t329 _ ?side1 ?side2 A4.out).mono ?_); (case side1 => exact cr HO_3); (case side2 => exact (Kd.R_reads' HO_3.out).2.1); rintro e w6 ⟨v330, rfl, ho0, hb⟩; refine ⟨_, rfl, ?_⟩; have HO331 := aM (Kd.R_lower (Kd.R_new' ho0 (Kd.R_lt (rk HO_3))) (below_size (hh HB))); replace HO_3 := aM (Kd.R_elder' (rk HO_3) (Kd.R_base ho0) hb); replace HB := bs HB hb; (try clear hb); (try clear hb2); (try clear hk); (try clear hi); (try clear ho0)))
       go_roundg k1
       case measure => have := HK1.out; omega
       case rel => exact ⟨(t329), (wrap64 (x4_1 + 1)), (by first | rfl | (simp; done) | (simp [*]; done)), H', ⟨by have := HK1.out; omega⟩, ⟨by (with_reducible repeat (first | apply Kd.R_alloc | apply Kd.R_drewN | apply Kd.R_drew)); exact Kd.R_mono HO331.out (fun _ hk => trivial)⟩, ⟨hh HB⟩⟩
     · rw [if_neg c3] at H
       exact absurd H (by simp)
   · rw [if_neg c2] at H
     have c2b0 : decide (x4_1 < (l0.length : Int)) = false := decide_eq_false c2
     clear c2
     obtain rfl := Option.some.inj H
     go_wp2
     go_ret
     exact ⟨_, by first | rfl | (simp [errW_none, errW_some] <;> rfl) | (simp [*, errW_none, errW_some] <;> rfl), rk HO_3, hh HB⟩
end Go.Proofs.Ytmadhaccjmakdaa.P
namespace Go.Proofs.Ytmadhaccjmakdaa.P
open Go.RowKit Go.Proofs.YtmadhaccjmakdaaW.PrintWords Go.Proofs.YtmadhaccjmakdaaW.PrintLast Go.Proofs.YtmadhaccjmakdaaW.PrintMore
attribute [local go_sem] str_gtr str_leq str_geq max2_int min2_int max_two min_two max_three min_three max_four min_four
mutual
noncomputable def lazycref10_consistent.l0 : Nat → List (S42) → List ByteArray → Int → Option (Int × ByteArray × Int × Int)
 | 0, _, _, _ => none
 | k + 1, x0, x3, x4 => if x4 < (x0.length : Int) then (if 0 ≤ x4 then ((lazycref01_Has.f k x3 ((rd_T42 x0 x4).f0)).bind fun t334 => (if t334 = true then (some (13, (rd_T42 x0 x4).f0, 0, 0)) else (if x3.length < 8796093022208 then (lazycref10_consistent.l0 k x0 (x3 ++ [(rd_T42 x0 x4).f0]) (wrap64 (x4 + 1))) else (none)))) else (none)) else (lazycref10_consistent.l1 k x0 x3 0)
noncomputable def lazycref10_consistent.l1 : Nat → List (S42) → List ByteArray → Int → Option (Int × ByteArray × Int × Int)
 | 0, _, _, _ => none
 | k + 1, x0, x3, x5 => if x5 < (x0.length : Int) then (lazycref10_consistent.l2 k x0 x3 x5 0) else (some (0, (⟨#[]⟩ : ByteArray), 0, 0))
noncomputable def lazycref10_consistent.l2 : Nat → List (S42) → List ByteArray → Int → Int → Option (Int × ByteArray × Int × Int)
 | 0, _, _, _, _ => none
 | k + 1, x0, x3, x5, x6 => if 0 ≤ x5 then (if x5 < (x0.length : Int) then (if x6 < (((rd_T42 x0 x5).f3).length : Int) then (if 0 ≤ x6 then ((lazycref01_Has.f k x3 ((rd_T66 ((rd_T42 x0 x5).f3) x6).f0)).bind fun t343 => (if t343 = true then (lazycref10_consistent.l2 k x0 x3 x5 (wrap64 (x6 + 1))) else (some (16, (rd_T66 ((rd_T42 x0 x5).f3) x6).f0, 0, 0)))) else (none)) else (lazycref10_consistent.l1 k x0 x3 (wrap64 (x5 + 1)))) else (none)) else (none)
end
noncomputable def lazycref10_consistent.f (k : Nat) (l0 : List (S42)) : Option (Int × ByteArray × Int × Int) := if (l0.length : Int) > 32 then (some (3, (⟨#[]⟩ : ByteArray), 0, 0)) else (lazycref10_consistent.l0 k l0 ([] : List ByteArray) 0)
set_option maxHeartbeats 8000000 in
set_option maxRecDepth 100000 in
theorem lazycref10_consistent.calls (k : Nat) (A0 : Option Addr) (c0 : Nat) (l0 : List (S42)) (r1 : Int) (r2 : ByteArray) (r3 : Int) (r4 : Int) (w : World) (hr0 : Kd.C k42 w A0 l0.length l0) (hc0 : l0.length ≤ c0) (h : lazycref10_consistent.f k l0 = some (r1, r2, r3, r4)) :
 Calls Try.prog 36 #[.slice A0 l0.length c0] w fun e w' => e = .returned (.agg #[.int .i64 r1, .string r2, .int .i64 r3, .int .i64 r4]) ∧ Below w.heap.size w w' := by
 have hu28 := Try.underlying28
 have HR0 := aM hr0
 have HC0 := aM hc0
 clear hr0 hc0
 have HB := aM (Below.refl w.heap.size w)
 have H : (if (l0.length : Int) > 32 then (some (3, (⟨#[]⟩ : ByteArray), 0, 0)) else (lazycref10_consistent.l0 k l0 ([] : List ByteArray) 0)) = some (r1, r2, r3, r4) := h
 clear h
 by_cases c2 : (l0.length : Int) > 32
 · rw [if_pos c2] at H
   have c2b0 : decide (32 < (l0.length : Int)) = true := decide_eq_true c2
   have c2b1 : decide (32 < l0.length) = true := decide_eq_true (by omega)
   clear c2
   simp only [Option.some.injEq, Prod.mk.injEq] at H
   obtain ⟨rfl, rfl, rfl, rfl⟩ := H
   go_enter Try.func36, Try.ntmps36
   go_wp2_with (first | ((with_reducible refine gate_dst (N := 2) rfl ?_); refine box_event ?hg (N := 2) ?hd (cs := #[.int .i64 0, .string (⟨#[]⟩ : ByteArray), .int .i64 0, .int .i64 0]) (t := 28) ?hr ?_; (case hd => rfl); (case hg => rfl); (case hr => first | (go_simp; done) | (go_simp; rfl)); intro gb332 hg w3 hbox hb; have BK332 := aM hbox; have GW332 := gs hg HB; have GE332 := gs hg HB; replace HB := bs HB hb; clear hb hbox hg; obtain ⟨hcz4_0, hcz4_1, hcz4_2, hcz4_3⟩ := cz BK332; obtain ⟨hfz4_0, hfz4_1, hfz4_2, hfz4_3⟩ := fz BK332))
   refine bodyPost_ret (results_cell_row rfl _ _ gb332 28 #[.int .i64 3, .string (⟨#[]⟩ : ByteArray), .int .i64 0, .int .i64 0] (0, 0) _ rfl (kf BK332) Try.underlying28 rfl (by kernel_rfl)) rfl ?_
   exact ⟨by first | rfl | (simp [errW_none, errW_some] <;> rfl) | (simp [*, errW_none, errW_some] <;> rfl), hh HB⟩
 · rw [if_neg c2] at H
   have c2b0 : decide (32 < (l0.length : Int)) = false := decide_eq_false c2
   have c2b1 : decide (32 < l0.length) = false := decide_eq_false (by omega)
   clear c2
   have H' := aM H
   clear H
   go_enter Try.func36, Try.ntmps36
   go_wp2_with (first | ((with_reducible refine gate_dst (N := 2) rfl ?_); refine box_event ?hg (N := 2) ?hd (cs := #[.int .i64 0, .string (⟨#[]⟩ : ByteArray), .int .i64 0, .int .i64 0]) (t := 28) ?hr ?_; (case hd => rfl); (case hg => rfl); (case hr => first | (go_simp; done) | (go_simp; rfl)); intro gb332 hg w5 hbox hb; have BK332 := aM hbox; have GW332 := gs hg HB; have GE332 := gs hg HB; replace HB := bs HB hb; clear hb hbox hg))
   go_loopg [3, 4] k (fun kq v3 v4 w' => ∃ (x3_1 : List ByteArray) (x4_1 : Int) (x333000_1 : Int) (x333001_1 : ByteArray) (x333002_1 : Int) (x333003_1 : Int), v4 = .int .i64 x4_1 ∧ Aside0 (lazycref10_consistent.l0 kq l0 x3_1 x4_1 = some (r1, r2, r3, r4)) ∧ Aside0 (kq ≤ k) ∧ Aside0 (Kd.R Kd.string 9 w' w.heap.size (fun _ => True) v3 x3_1) ∧ Aside0 (w'.heap[gb332]? = some (.cells #[.int .i64 x333000_1, .string x333001_1, .int .i64 x333002_1, .int .i64 x333003_1] 28 (0, 0))) ∧ Aside0 (Below w.heap.size w w'))
   case atStart => exact ⟨(([] : List ByteArray)), (0), (0), ((⟨#[]⟩ : ByteArray)), (0), (0), (by first | rfl | (simp; done) | (simp [*]; done)), H', ⟨Nat.le_refl _⟩, ⟨by first | exact Kd.R_nil _ _ _ _ _ | exact Kd.N_nil _ _ _ _ _ | exact Kd.V_nil _ _ _ _ _ | exact Kd.Q_nil _ _ _ _ _ | exact Kd.S_nil _ _ _ _ _⟩, ⟨kk BK332⟩, ⟨hh HB⟩⟩
   case round =>
    clear H'
    try clear c2
    try clear c2b0
    try clear c2b1
    try clear p2
    try clear c3
    try clear hcz4_0
    try clear hcz4_1
    try clear hcz4_2
    try clear hcz4_3
    try clear hfz4_0
    try clear hfz4_1
    try clear hfz4_2
    try clear hfz4_3
    obtain ⟨x3_1, x4_1, x333000_1, x333001_1, x333002_1, x333003_1, rfl, HA, HK1, HO_3, BK332, HB⟩ := hrel
    cases gk with
    | zero => exact absurd HA.out (by simp [lazycref10_consistent.l0])
    | succ k1 =>
     have H := HA.out
     clear HA
     simp only [lazycref10_consistent.l0] at H
     by_cases c6 : x4_1 < (l0.length : Int)
     · rw [if_pos c6] at H
       have c6b0 : decide (x4_1 < (l0.length : Int)) = true := decide_eq_true c6
       clear c6
       by_cases c7 : 0 ≤ x4_1
       · rw [if_pos c7] at H
         have c7b0 : decide (0 ≤ x4_1) = true := decide_eq_true c7
         clear c7
         replace H := Option.bind_eq_some_iff.mp H
         obtain ⟨t334, A80, H⟩ := H
         replace H : (if t334 = true then (some (13, (rd_T42 l0 x4_1).f0, 0, 0)) else (if x3_1.length < 8796093022208 then (lazycref10_consistent.l0 k1 l0 (x3_1 ++ [(rd_T42 l0 x4_1).f0]) (wrap64 (x4_1 + 1))) else (none))) = some (r1, r2, r3, r4) := H
         have A8 := aM A80
         clear A80
         by_cases c9 : t334 = true
         · subst c9
           have H1 : (some (13, (rd_T42 l0 x4_1).f0, 0, 0)) = some (r1, r2, r3, r4) := by rw [if_pos rfl] at H; exact H
           clear H
           have H := H1
           clear H1
           simp only [Option.some.injEq, Prod.mk.injEq] at H
           obtain ⟨rfl, rfl, rfl, rfl⟩ := H
           have p333 : 0 ≤ (x4_1 : Int) := dt
           have q333 : x4_1 < (l0.length : Int) := dt
           obtain ⟨ad333, A333_2, c333_2, A333_3, c333_3, e333, hx333_0, hx333_1, hx333_2, hx333_3, hx333_4, hl333_2, hi333_2, hl333_3, hi333_3⟩ := at_T42 HR0.out x4_1 p333 q333
           cases e333
           replace hx333_0 := (HB.out.cell (World.block_lt_of_cell? w _ hx333_0)).trans hx333_0
           replace hx333_1 := (HB.out.cell (World.block_lt_of_cell? w _ hx333_1)).trans hx333_1
           have hw_ea333_2 := aM hx333_2; replace hx333_2 := (HB.out.cell (World.block_lt_of_cell? w _ hx333_2)).trans hx333_2
           have hw_ea333_3 := aM hx333_3; replace hx333_3 := (HB.out.cell (World.block_lt_of_cell? w _ hx333_3)).trans hx333_3
           replace hx333_4 := (HB.out.cell (World.block_lt_of_cell? w _ hx333_4)).trans hx333_4
           have HR333_2 := aM hi333_2
           have HC333_2 := aM hl333_2
           clear hi333_2 hl333_2
           have HR333_3 := aM hi333_3
           have HC333_3 := aM hl333_3
           clear hi333_3 hl333_3
           replace p333 := eq_true p333
           replace q333 := eq_true q333
           obtain ⟨Ao10, co10, eo10⟩ := Kd.R_slice HO_3.out
           subst eo10
           go_wp2_with (first | ((with_reducible refine gate_callee (f := 21) rfl ?_); refine gL (some 23) rfl rfl Try.func21 (by kernel_rfl) rfl #[.slice Ao10 x3_1.length co10, .string ((rd_T42 l0 x4_1).f0)] rfl ?_; (with_reducible refine (lazycref01_Has.calls k1 _ _ x3_1 ((rd_T42 l0 x4_1).f0) true _ ?side1 ?side2 A8.out).mono ?_); (case side1 => exact cr HO_3); (case side2 => exact (Kd.R_reads' HO_3.out).2.1); rintro e w' ⟨rfl, ⟨nd, rfl⟩⟩; refine ⟨_, rfl, ?_⟩; (try (rw [drewN_self wr]; generalize hq_ : World.drewN wr _ = wr; have n0_ : Aside0 (Kd.R Kd.string 9 wr w.heap.size (fun _ => True) (.slice Ao10 x3_1.length co10) x3_1) := ⟨by rw [← hq_]; exact (rk HO_3)⟩; have n1_ : Aside0 (wr.heap[gb332]? = some (.cells #[.int .i64 x333000_1, .string x333001_1, .int .i64 x333002_1, .int .i64 x333003_1] 28 (0, 0))) := ⟨by rw [← hq_]; exact (kk BK332)⟩; have n2_ : Aside0 (Below w.heap.size w wr) := ⟨by rw [← hq_]; exact (hh HB)⟩; clear HO_3 BK332 HB hq_; have HO_3 := n0_; have BK332 := n1_; have HB := n2_; clear n0_ n1_ n2_)); have p335 : 0 ≤ (x4_1 : Int) := dt; have q335 : x4_1 < (l0.length : Int) := dt; obtain ⟨ad335, A335_2, c335_2, A335_3, c335_3, e335, hx335_0, hx335_1, hx335_2, hx335_3, hx335_4, hl335_2, hi335_2, hl335_3, hi335_3⟩ := at_T42 HR0.out x4_1 p335 q335; obtain rfl : ad333 = ad335 := (by injection e335); replace hx335_0 := (HB.out.cell (World.block_lt_of_cell? w _ hx335_0)).trans hx335_0; replace hx335_1 := (HB.out.cell (World.block_lt_of_cell? w _ hx335_1)).trans hx335_1; have hw_ea335_2 := aM hx335_2; replace hx335_2 := (HB.out.cell (World.block_lt_of_cell? w _ hx335_2)).trans hx335_2; have hw_ea335_3 := aM hx335_3; replace hx335_3 := (HB.out.cell (World.block_lt_of_cell? w _ hx335_3)).trans hx335_3; replace hx335_4 := (HB.out.cell (World.block_lt_of_cell? w _ hx335_4)).trans hx335_4; have HR335_2 := aM hi335_2; have HC335_2 := aM hl335_2; clear hi335_2 hl335_2; have HR335_3 := aM hi335_3; have HC335_3 := aM hl335_3; clear hi335_3 hl335_3; replace p335 := eq_true p335; replace q335 := eq_true q335; have ea_ := Option.some.inj (by first | exact hx333_2.symm.trans hx335_2 | exact hw_ea333_2.out.symm.trans hw_ea335_2.out); injection ea_ with ea_ en_ ec_; subst ea_; subst ec_; clear en_; have ea_ := Option.some.inj (by first | exact hx333_3.symm.trans hx335_3 | exact hw_ea333_3.out.symm.trans hw_ea335_3.out); injection ea_ with ea_ en_ ec_; subst ea_; subst ec_; clear en_; obtain ⟨hcz11_0, hcz11_1, hcz11_2, hcz11_3⟩ := cz BK332; obtain ⟨hfz11_0, hfz11_1, hfz11_2, hfz11_3⟩ := fz BK332))
           refine bodyPost_ret (results_cell_row rfl _ _ gb332 28 #[.int .i64 13, .string ((rd_T42 l0 x4_1).f0), .int .i64 0, .int .i64 0] (0, 0) _ rfl (kf BK332) Try.underlying28 rfl (by kernel_rfl)) rfl ?_
           exact ⟨by first | rfl | (simp [errW_none, errW_some] <;> rfl) | (simp [*, errW_none, errW_some] <;> rfl), hh HB⟩
         · replace c9 := Bool.eq_false_iff.mpr c9
           subst c9
           have H1 : (if x3_1.length < 8796093022208 then (lazycref10_consistent.l0 k1 l0 (x3_1 ++ [(rd_T42 l0 x4_1).f0]) (wrap64 (x4_1 + 1))) else (none)) = some (r1, r2, r3, r4) := by rw [if_neg (show ¬ (false = true) by decide)] at H; exact H
           clear H
           have H := H1
           clear H1
           by_cases c12 : x3_1.length < 8796093022208
           · rw [if_pos c12] at H
             have LMc12 := aM c12
             clear c12
             obtain ⟨y337, hy337⟩ : ∃ y_ : List ByteArray, y_ = (x3_1 ++ [(rd_T42 l0 x4_1).f0]) := ⟨_, rfl⟩
             replace H : (lazycref10_consistent.l0 k1 l0 y337 (wrap64 (x4_1 + 1))) = some (r1, r2, r3, r4) := by first | (rw [hy337]; with_reducible exact H) | (have H2_ := (Option.bind_some _ _).symm.trans H; rw [hy337]; with_reducible exact H2_) | (have H2_ := (Option.bind_some _ _).symm.trans H; with_reducible exact H2_) | with_reducible exact H | (rw [hy337]; exact H) | exact H
             have Ny337 := aM hy337
             clear hy337
             have H' := aM H
             clear H
             have p333 : 0 ≤ (x4_1 : Int) := dt
             have q333 : x4_1 < (l0.length : Int) := dt
             obtain ⟨ad333, A333_2, c333_2, A333_3, c333_3, e333, hx333_0, hx333_1, hx333_2, hx333_3, hx333_4, hl333_2, hi333_2, hl333_3, hi333_3⟩ := at_T42 HR0.out x4_1 p333 q333
             cases e333
             replace hx333_0 := (HB.out.cell (World.block_lt_of_cell? w _ hx333_0)).trans hx333_0
             replace hx333_1 := (HB.out.cell (World.block_lt_of_cell? w _ hx333_1)).trans hx333_1
             have hw_ea333_2 := aM hx333_2; replace hx333_2 := (HB.out.cell (World.block_lt_of_cell? w _ hx333_2)).trans hx333_2
             have hw_ea333_3 := aM hx333_3; replace hx333_3 := (HB.out.cell (World.block_lt_of_cell? w _ hx333_3)).trans hx333_3
             replace hx333_4 := (HB.out.cell (World.block_lt_of_cell? w _ hx333_4)).trans hx333_4
             have HR333_2 := aM hi333_2
             have HC333_2 := aM hl333_2
             clear hi333_2 hl333_2
             have HR333_3 := aM hi333_3
             have HC333_3 := aM hl333_3
             clear hi333_3 hl333_3
             replace p333 := eq_true p333
             replace q333 := eq_true q333
             obtain ⟨Ao13, co13, eo13⟩ := Kd.R_slice HO_3.out
             subst eo13
             go_wp2_with (first | ((with_reducible refine gate_callee (f := 21) rfl ?_); refine gL (some 23) rfl rfl Try.func21 (by kernel_rfl) rfl #[.slice Ao13 x3_1.length co13, .string ((rd_T42 l0 x4_1).f0)] rfl ?_; (with_reducible refine (lazycref01_Has.calls k1 _ _ x3_1 ((rd_T42 l0 x4_1).f0) false _ ?side1 ?side2 A8.out).mono ?_); (case side1 => exact cr HO_3); (case side2 => exact (Kd.R_reads' HO_3.out).2.1); rintro e w' ⟨rfl, ⟨nd, rfl⟩⟩; refine ⟨_, rfl, ?_⟩; have p336 : 0 ≤ (x4_1 : Int) := dt; have q336 : x4_1 < (l0.length : Int) := dt; obtain ⟨ad336, A336_2, c336_2, A336_3, c336_3, e336, hx336_0, hx336_1, hx336_2, hx336_3, hx336_4, hl336_2, hi336_2, hl336_3, hi336_3⟩ := at_T42 HR0.out x4_1 p336 q336; obtain rfl : ad333 = ad336 := (by injection e336); replace hx336_0 := (HB.out.cell (World.block_lt_of_cell? w _ hx336_0)).trans hx336_0; replace hx336_1 := (HB.out.cell (World.block_lt_of_cell? w _ hx336_1)).trans hx336_1; have hw_ea336_2 := aM hx336_2; replace hx336_2 := (HB.out.cell (World.block_lt_of_cell? w _ hx336_2)).trans hx336_2; have hw_ea336_3 := aM hx336_3; replace hx336_3 := (HB.out.cell (World.block_lt_of_cell? w _ hx336_3)).trans hx336_3; replace hx336_4 := (HB.out.cell (World.block_lt_of_cell? w _ hx336_4)).trans hx336_4; have HR336_2 := aM hi336_2; have HC336_2 := aM hl336_2; clear hi336_2 hl336_2; have HR336_3 := aM hi336_3; have HC336_3 := aM hl336_3; clear hi336_3 hl336_3; replace p336 := eq_true p336; replace q336 := eq_true q336; have ea_ := Option.some.inj (by first | exact hx333_2.symm.trans hx336_2 | exact hw_ea333_2.out.symm.trans hw_ea336_2.out); injection ea_ with ea_ en_ ec_; subst ea_; subst ec_; clear en_; have ea_ := Option.some.inj (by first | exact hx333_3.symm.trans hx336_3 | exact hw_ea333_3.out.symm.trans hw_ea336_3.out); injection ea_ with ea_ en_ ec_; subst ea_; subst ec_; clear en_) | ((with_reducible refine gate_builtin (b := .append) (xs := #[.tmp 30, .tmp 36]) rfl ?_); at_builtin; refine Kd.R_append Kd.string (w0 := w) w.heap.size rfl (.tmp 30) (.tmp 36) 25 9 (.string ⟨#[]⟩) 16 rfl Try.underlying25 info9 rfl (by decide) (by omega) (.slice Ao13 x3_1.length co13) x3_1 ((rd_T42 l0 x4_1).f0) [.string ((rd_T42 l0 x4_1).f0)] (fun _ => True) (fun _ => False) rfl rfl ?aP (fun _ hk => hk.elim) ?aF ?aO ?aB ?aS ?aL ?_; (case aP => exact rfl); (case aB => exact (hh HB)); (case aF => exact (fun _ _ => trivial)); (case aO => exact (rk HO_3)); (case aS => exact (below_size (hh HB))); (case aL => have := LMc12.out; omega); intro v338 w14 ho hb hg hat; rw [← Ny337.out] at ho; have HO339 := aM (ho); replace BK332 := aM (blk_grown (g := gb332) (o := .cells #[.int .i64 x333000_1, .string x333001_1, .int .i64 x333002_1, .int .i64 x333003_1] 28 (0, 0)) (kk BK332) hg (Kd.R_ne HO_3.out BK332.out (by decide))); replace HB := aM (hb); clear HO_3; clear ho hb hg hat))
             go_roundg k1
             case measure => have := HK1.out; omega
             case rel => exact ⟨(y337), (wrap64 (x4_1 + 1)), (x333000_1), (x333001_1), (x333002_1), (x333003_1), (by first | rfl | (simp; done) | (simp [*]; done)), H', ⟨by have := HK1.out; omega⟩, ⟨rk HO339⟩, ⟨kk BK332⟩, ⟨hh HB⟩⟩
           · rw [if_neg c12] at H
             exact absurd H (by simp)
       · rw [if_neg c7] at H
         exact absurd H (by simp)
     · rw [if_neg c6] at H
       have c6b0 : decide (x4_1 < (l0.length : Int)) = false := decide_eq_false c6
       clear c6
       have H' := aM H
       clear H
       go_wp2
       go_loopg [5] k1 (fun kq v5 w' => ∃ (x5_2 : Int) (x333000_2 : Int) (x333001_2 : ByteArray) (x333002_2 : Int) (x333003_2 : Int), v5 = .int .i64 x5_2 ∧ Aside0 (lazycref10_consistent.l1 kq l0 x3_1 x5_2 = some (r1, r2, r3, r4)) ∧ Aside0 (kq ≤ k1) ∧ Aside0 (Kd.R Kd.string 9 w' w.heap.size (fun _ => True) u3 x3_1) ∧ Aside0 (w'.heap[gb332]? = some (.cells #[.int .i64 x333000_2, .string x333001_2, .int .i64 x333002_2, .int .i64 x333003_2] 28 (0, 0))) ∧ Aside0 (Below w.heap.size w w'))
       case atStart => exact ⟨(0), (x333000_1), (x333001_1), (x333002_1), (x333003_1), (by first | rfl | (simp; done) | (simp [*]; done)), H', ⟨Nat.le_refl _⟩, ⟨rk HO_3⟩, ⟨kk BK332⟩, ⟨hh HB⟩⟩
       case round =>
        clear H'
        try clear c1
        try clear c2
        try clear c2b0
        try clear c2b1
        try clear p2
        try clear c3
        try clear p3
        try clear q3
        try clear hx3
        try clear c6
        try clear c6b0
        try clear p6
        try clear c7
        try clear c7b0
        try clear c9
        try clear c12
        try clear hcz11_0
        try clear hcz11_1
        try clear hcz11_2
        try clear hcz11_3
        try clear hcz4_0
        try clear hcz4_1
        try clear hcz4_2
        try clear hcz4_3
        try clear hfz11_0
        try clear hfz11_1
        try clear hfz11_2
        try clear hfz11_3
        try clear hfz4_0
        try clear hfz4_1
        try clear hfz4_2
        try clear hfz4_3
        try clear hx333_0
        try clear hx333_1
        try clear hx333_2
        try clear hx333_3
        try clear hx333_4
        try clear hx335_0
        try clear hx335_1
        try clear hx335_2
        try clear hx335_3
        try clear hx335_4
        try clear hx336_0
        try clear hx336_1
        try clear hx336_2
        try clear hx336_3
        try clear hx336_4
        try clear p2
        try clear p333
        try clear p335
        try clear p336
        try clear q333
        try clear q335
        try clear q336
        obtain ⟨x5_2, x333000_2, x333001_2, x333002_2, x333003_2, rfl, HA, HK2, HO_3, BK332, HB⟩ := hrel
        cases gk with
        | zero => exact absurd HA.out (by simp [lazycref10_consistent.l1])
        | succ k2 =>
         have H := HA.out
         clear HA
         simp only [lazycref10_consistent.l1] at H
         by_cases c15 : x5_2 < (l0.length : Int)
         · rw [if_pos c15] at H
           have c15b0 : decide (x5_2 < (l0.length : Int)) = true := decide_eq_true c15
           clear c15
           have H' := aM H
           clear H
           go_wp2
           go_loopg [6] k2 (fun kq v6 w' => ∃ (x6_3 : Int) (x333000_3 : Int) (x333001_3 : ByteArray) (x333002_3 : Int) (x333003_3 : Int), v6 = .int .i64 x6_3 ∧ Aside0 (lazycref10_consistent.l2 kq l0 x3_1 x5_2 x6_3 = some (r1, r2, r3, r4)) ∧ Aside0 (kq ≤ k2) ∧ Aside0 (Kd.R Kd.string 9 w' w.heap.size (fun _ => True) u3 x3_1) ∧ Aside0 (w'.heap[gb332]? = some (.cells #[.int .i64 x333000_3, .string x333001_3, .int .i64 x333002_3, .int .i64 x333003_3] 28 (0, 0))) ∧ Aside0 (Below w.heap.size w w'))
           case atStart => exact ⟨(0), (x333000_2), (x333001_2), (x333002_2), (x333003_2), (by first | rfl | (simp; done) | (simp [*]; done)), H', ⟨Nat.le_refl _⟩, ⟨rk HO_3⟩, ⟨kk BK332⟩, ⟨hh HB⟩⟩
           case round =>
            clear H'
            try clear c1
            try clear c2
            try clear c2b0
            try clear c2b1
            try clear p2
            try clear c3
            try clear p3
            try clear q3
            try clear hx3
            try clear c6
            try clear c6b0
            try clear p6
            try clear c7
            try clear c7b0
            try clear c9
            try clear c12
            try clear c15
            try clear c15b0
            try clear hcz11_0
            try clear hcz11_1
            try clear hcz11_2
            try clear hcz11_3
            try clear hcz4_0
            try clear hcz4_1
            try clear hcz4_2
            try clear hcz4_3
            try clear hfz11_0
            try clear hfz11_1
            try clear hfz11_2
            try clear hfz11_3
            try clear hfz4_0
            try clear hfz4_1
            try clear hfz4_2
            try clear hfz4_3
            try clear hx333_0
            try clear hx333_1
            try clear hx333_2
            try clear hx333_3
            try clear hx333_4
            try clear hx335_0
            try clear hx335_1
            try clear hx335_2
            try clear hx335_3
            try clear hx335_4
            try clear hx336_0
            try clear hx336_1
            try clear hx336_2
            try clear hx336_3
            try clear hx336_4
            try clear p2
            try clear p3
            try clear p333
            try clear p335
            try clear p336
            try clear p6
            try clear q3
            try clear q333
            try clear q335
            try clear q336
            obtain ⟨x6_3, x333000_3, x333001_3, x333002_3, x333003_3, rfl, HA, HK3, HO_3, BK332, HB⟩ := hrel
            cases gk with
            | zero => exact absurd HA.out (by simp [lazycref10_consistent.l2])
            | succ k3 =>
             have H := HA.out
             clear HA
             simp only [lazycref10_consistent.l2] at H
             by_cases c16 : 0 ≤ x5_2
             · rw [if_pos c16] at H
               have c16b0 : decide (0 ≤ x5_2) = true := decide_eq_true c16
               clear c16
               by_cases c17 : x5_2 < (l0.length : Int)
               · rw [if_pos c17] at H
                 have c17b0 : decide (x5_2 < (l0.length : Int)) = true := decide_eq_true c17
                 clear c17
                 by_cases c18 : x6_3 < (((rd_T42 l0 x5_2).f3).length : Int)
                 · rw [if_pos c18] at H
                   have c18b0 : decide (x6_3 < (((rd_T42 l0 x5_2).f3).length : Int)) = true := decide_eq_true c18
                   clear c18
                   by_cases c19 : 0 ≤ x6_3
                   · rw [if_pos c19] at H
                     have c19b0 : decide (0 ≤ x6_3) = true := decide_eq_true c19
                     clear c19
                     replace H := Option.bind_eq_some_iff.mp H
                     obtain ⟨t343, A200, H⟩ := H
                     replace H : (if t343 = true then (lazycref10_consistent.l2 k3 l0 x3_1 x5_2 (wrap64 (x6_3 + 1))) else (some (16, (rd_T66 ((rd_T42 l0 x5_2).f3) x6_3).f0, 0, 0))) = some (r1, r2, r3, r4) := H
                     have A20 := aM A200
                     clear A200
                     by_cases c21 : t343 = true
                     · subst c21
                       have H1 : (lazycref10_consistent.l2 k3 l0 x3_1 x5_2 (wrap64 (x6_3 + 1))) = some (r1, r2, r3, r4) := by rw [if_pos rfl] at H; exact H
                       clear H
                       have H := H1
                       clear H1
                       have H' := aM H
                       clear H
                       have p340 : 0 ≤ (x5_2 : Int) := dt
                       have q340 : x5_2 < (l0.length : Int) := dt
                       obtain ⟨ad340, A340_2, c340_2, A340_3, c340_3, e340, hx340_0, hx340_1, hx340_2, hx340_3, hx340_4, hl340_2, hi340_2, hl340_3, hi340_3⟩ := at_T42 HR0.out x5_2 p340 q340
                       cases e340
                       replace hx340_0 := (HB.out.cell (World.block_lt_of_cell? w _ hx340_0)).trans hx340_0
                       replace hx340_1 := (HB.out.cell (World.block_lt_of_cell? w _ hx340_1)).trans hx340_1
                       have hw_ea340_2 := aM hx340_2; replace hx340_2 := (HB.out.cell (World.block_lt_of_cell? w _ hx340_2)).trans hx340_2
                       have hw_ea340_3 := aM hx340_3; replace hx340_3 := (HB.out.cell (World.block_lt_of_cell? w _ hx340_3)).trans hx340_3
                       replace hx340_4 := (HB.out.cell (World.block_lt_of_cell? w _ hx340_4)).trans hx340_4
                       have HR340_2 := aM hi340_2
                       have HC340_2 := aM hl340_2
                       clear hi340_2 hl340_2
                       have HR340_3 := aM hi340_3
                       have HC340_3 := aM hl340_3
                       clear hi340_3 hl340_3
                       replace p340 := eq_true p340
                       replace q340 := eq_true q340
                       have p341 : 0 ≤ (x5_2 : Int) := dt
                       have q341 : x5_2 < (l0.length : Int) := dt
                       obtain ⟨ad341, A341_2, c341_2, A341_3, c341_3, e341, hx341_0, hx341_1, hx341_2, hx341_3, hx341_4, hl341_2, hi341_2, hl341_3, hi341_3⟩ := at_T42 HR0.out x5_2 p341 q341
                       obtain rfl : ad340 = ad341 := (by injection e341)
                       replace hx341_0 := (HB.out.cell (World.block_lt_of_cell? w _ hx341_0)).trans hx341_0
                       replace hx341_1 := (HB.out.cell (World.block_lt_of_cell? w _ hx341_1)).trans hx341_1
                       have hw_ea341_2 := aM hx341_2; replace hx341_2 := (HB.out.cell (World.block_lt_of_cell? w _ hx341_2)).trans hx341_2
                       have hw_ea341_3 := aM hx341_3; replace hx341_3 := (HB.out.cell (World.block_lt_of_cell? w _ hx341_3)).trans hx341_3
                       replace hx341_4 := (HB.out.cell (World.block_lt_of_cell? w _ hx341_4)).trans hx341_4
                       have HR341_2 := aM hi341_2
                       have HC341_2 := aM hl341_2
                       clear hi341_2 hl341_2
                       have HR341_3 := aM hi341_3
                       have HC341_3 := aM hl341_3
                       clear hi341_3 hl341_3
                       replace p341 := eq_true p341
                       replace q341 := eq_true q341
                       have ea_ := Option.some.inj (by first | exact hx340_2.symm.trans hx341_2 | exact hw_ea340_2.out.symm.trans hw_ea341_2.out)
                       injection ea_ with ea_ en_ ec_
                       subst ea_
                       subst ec_
                       clear en_
                       have ea_ := Option.some.inj (by first | exact hx340_3.symm.trans hx341_3 | exact hw_ea340_3.out.symm.trans hw_ea341_3.out)
                       injection ea_ with ea_ en_ ec_
                       subst ea_
                       subst ec_
                       clear en_
                       have p342 : 0 ≤ (x6_3 : Int) := dt
                       have q342 : x6_3 < (((rd_T42 l0 x5_2).f3).length : Int) := dt
                       obtain ⟨ad342, A342_5, c342_5, e342, hx342_0, hx342_1, hx342_2, hx342_3, hx342_4, hx342_5, hl342_5, hi342_5⟩ := at_T66 HR341_3.out x6_3 p342 q342
                       cases e342
                       replace hx342_0 := (HB.out.cell (World.block_lt_of_cell? w _ hx342_0)).trans hx342_0
                       replace hx342_1 := (HB.out.cell (World.block_lt_of_cell? w _ hx342_1)).trans hx342_1
                       replace hx342_2 := (HB.out.cell (World.block_lt_of_cell? w _ hx342_2)).trans hx342_2
                       replace hx342_3 := (HB.out.cell (World.block_lt_of_cell? w _ hx342_3)).trans hx342_3
                       replace hx342_4 := (HB.out.cell (World.block_lt_of_cell? w _ hx342_4)).trans hx342_4
                       replace hx342_5 := (HB.out.cell (World.block_lt_of_cell? w _ hx342_5)).trans hx342_5
                       have HR342_5 := aM hi342_5
                       have HC342_5 := aM hl342_5
                       clear hi342_5 hl342_5
                       replace p342 := eq_true p342
                       replace q342 := eq_true q342
                       obtain ⟨Ao22, co22, eo22⟩ := Kd.R_slice HO_3.out
                       subst eo22
                       go_wp2_with (first | ((with_reducible refine gate_callee (f := 21) rfl ?_); refine gL (some 64) rfl rfl Try.func21 (by kernel_rfl) rfl #[.slice Ao22 x3_1.length co22, .string ((rd_T66 ((rd_T42 l0 x5_2).f3) x6_3).f0)] rfl ?_; (with_reducible refine (lazycref01_Has.calls k3 _ _ x3_1 ((rd_T66 ((rd_T42 l0 x5_2).f3) x6_3).f0) true _ ?side1 ?side2 A20.out).mono ?_); (case side1 => exact cr HO_3); (case side2 => exact (Kd.R_reads' HO_3.out).2.1); rintro e w' ⟨rfl, ⟨nd, rfl⟩⟩; refine ⟨_, rfl, ?_⟩))
                       go_roundg k3
                       case measure => have := HK1.out; have := HK2.out; have := HK3.out; omega
                       case rel => exact ⟨(wrap64 (x6_3 + 1)), (x333000_3), (x333001_3), (x333002_3), (x333003_3), (by first | rfl | (simp; done) | (simp [*]; done)), H', ⟨by have := HK1.out; have := HK2.out; have := HK3.out; omega⟩, ⟨rk HO_3⟩, ⟨kk BK332⟩, ⟨hh HB⟩⟩
                     · replace c21 := Bool.eq_false_iff.mpr c21
                       subst c21
                       have H1 : (some (16, (rd_T66 ((rd_T42 l0 x5_2).f3) x6_3).f0, 0, 0)) = some (r1, r2, r3, r4) := by rw [if_neg (show ¬ (false = true) by decide)] at H; exact H
                       clear H
                       have H := H1
                       clear H1
                       simp only [Option.some.injEq, Prod.mk.injEq] at H
                       obtain ⟨rfl, rfl, rfl, rfl⟩ := H
                       have p340 : 0 ≤ (x5_2 : Int) := dt
                       have q340 : x5_2 < (l0.length : Int) := dt
                       obtain ⟨ad340, A340_2, c340_2, A340_3, c340_3, e340, hx340_0, hx340_1, hx340_2, hx340_3, hx340_4, hl340_2, hi340_2, hl340_3, hi340_3⟩ := at_T42 HR0.out x5_2 p340 q340
                       cases e340
                       replace hx340_0 := (HB.out.cell (World.block_lt_of_cell? w _ hx340_0)).trans hx340_0
                       replace hx340_1 := (HB.out.cell (World.block_lt_of_cell? w _ hx340_1)).trans hx340_1
                       have hw_ea340_2 := aM hx340_2; replace hx340_2 := (HB.out.cell (World.block_lt_of_cell? w _ hx340_2)).trans hx340_2
                       have hw_ea340_3 := aM hx340_3; replace hx340_3 := (HB.out.cell (World.block_lt_of_cell? w _ hx340_3)).trans hx340_3
                       replace hx340_4 := (HB.out.cell (World.block_lt_of_cell? w _ hx340_4)).trans hx340_4
                       have HR340_2 := aM hi340_2
                       have HC340_2 := aM hl340_2
                       clear hi340_2 hl340_2
                       have HR340_3 := aM hi340_3
                       have HC340_3 := aM hl340_3
                       clear hi340_3 hl340_3
                       replace p340 := eq_true p340
                       replace q340 := eq_true q340
                       have p341 : 0 ≤ (x5_2 : Int) := dt
                       have q341 : x5_2 < (l0.length : Int) := dt
                       obtain ⟨ad341, A341_2, c341_2, A341_3, c341_3, e341, hx341_0, hx341_1, hx341_2, hx341_3, hx341_4, hl341_2, hi341_2, hl341_3, hi341_3⟩ := at_T42 HR0.out x5_2 p341 q341
                       obtain rfl : ad340 = ad341 := (by injection e341)
                       replace hx341_0 := (HB.out.cell (World.block_lt_of_cell? w _ hx341_0)).trans hx341_0
                       replace hx341_1 := (HB.out.cell (World.block_lt_of_cell? w _ hx341_1)).trans hx341_1
                       have hw_ea341_2 := aM hx341_2; replace hx341_2 := (HB.out.cell (World.block_lt_of_cell? w _ hx341_2)).trans hx341_2
                       have hw_ea341_3 := aM hx341_3; replace hx341_3 := (HB.out.cell (World.block_lt_of_cell? w _ hx341_3)).trans hx341_3
                       replace hx341_4 := (HB.out.cell (World.block_lt_of_cell? w _ hx341_4)).trans hx341_4
                       have HR341_2 := aM hi341_2
                       have HC341_2 := aM hl341_2
                       clear hi341_2 hl341_2
                       have HR341_3 := aM hi341_3
                       have HC341_3 := aM hl341_3
                       clear hi341_3 hl341_3
                       replace p341 := eq_true p341
                       replace q341 := eq_true q341
                       have ea_ := Option.some.inj (by first | exact hx340_2.symm.trans hx341_2 | exact hw_ea340_2.out.symm.trans hw_ea341_2.out)
                       injection ea_ with ea_ en_ ec_
                       subst ea_
                       subst ec_
                       clear en_
                       have ea_ := Option.some.inj (by first | exact hx340_3.symm.trans hx341_3 | exact hw_ea340_3.out.symm.trans hw_ea341_3.out)
                       injection ea_ with ea_ en_ ec_
                       subst ea_
                       subst ec_
                       clear en_
                       have p342 : 0 ≤ (x6_3 : Int) := dt
                       have q342 : x6_3 < (((rd_T42 l0 x5_2).f3).length : Int) := dt
                       obtain ⟨ad342, A342_5, c342_5, e342, hx342_0, hx342_1, hx342_2, hx342_3, hx342_4, hx342_5, hl342_5, hi342_5⟩ := at_T66 HR341_3.out x6_3 p342 q342
                       cases e342
                       replace hx342_0 := (HB.out.cell (World.block_lt_of_cell? w _ hx342_0)).trans hx342_0
                       replace hx342_1 := (HB.out.cell (World.block_lt_of_cell? w _ hx342_1)).trans hx342_1
                       replace hx342_2 := (HB.out.cell (World.block_lt_of_cell? w _ hx342_2)).trans hx342_2
                       replace hx342_3 := (HB.out.cell (World.block_lt_of_cell? w _ hx342_3)).trans hx342_3
                       replace hx342_4 := (HB.out.cell (World.block_lt_of_cell? w _ hx342_4)).trans hx342_4
                       replace hx342_5 := (HB.out.cell (World.block_lt_of_cell? w _ hx342_5)).trans hx342_5
                       have HR342_5 := aM hi342_5
                       have HC342_5 := aM hl342_5
                       clear hi342_5 hl342_5
                       replace p342 := eq_true p342
                       replace q342 := eq_true q342
                       obtain ⟨Ao23, co23, eo23⟩ := Kd.R_slice HO_3.out
                       subst eo23
                       go_wp2_with (first | ((with_reducible refine gate_callee (f := 21) rfl ?_); refine gL (some 64) rfl rfl Try.func21 (by kernel_rfl) rfl #[.slice Ao23 x3_1.length co23, .string ((rd_T66 ((rd_T42 l0 x5_2).f3) x6_3).f0)] rfl ?_; (with_reducible refine (lazycref01_Has.calls k3 _ _ x3_1 ((rd_T66 ((rd_T42 l0 x5_2).f3) x6_3).f0) false _ ?side1 ?side2 A20.out).mono ?_); (case side1 => exact cr HO_3); (case side2 => exact (Kd.R_reads' HO_3.out).2.1); rintro e w' ⟨rfl, ⟨nd, rfl⟩⟩; refine ⟨_, rfl, ?_⟩; (try (rw [drewN_self wr]; generalize hq_ : World.drewN wr _ = wr; have n0_ : Aside0 (Kd.R Kd.string 9 wr w.heap.size (fun _ => True) (.slice Ao23 x3_1.length co23) x3_1) := ⟨by rw [← hq_]; exact (rk HO_3)⟩; have n1_ : Aside0 (wr.heap[gb332]? = some (.cells #[.int .i64 x333000_3, .string x333001_3, .int .i64 x333002_3, .int .i64 x333003_3] 28 (0, 0))) := ⟨by rw [← hq_]; exact (kk BK332)⟩; have n2_ : Aside0 (Below w.heap.size w wr) := ⟨by rw [← hq_]; exact (hh HB)⟩; clear HO_3 BK332 HB hq_; have HO_3 := n0_; have BK332 := n1_; have HB := n2_; clear n0_ n1_ n2_)); have p344 : 0 ≤ (x5_2 : Int) := dt; have q344 : x5_2 < (l0.length : Int) := dt; obtain ⟨ad344, A344_2, c344_2, A344_3, c344_3, e344, hx344_0, hx344_1, hx344_2, hx344_3, hx344_4, hl344_2, hi344_2, hl344_3, hi344_3⟩ := at_T42 HR0.out x5_2 p344 q344; obtain rfl : ad340 = ad344 := (by injection e344); replace hx344_0 := (HB.out.cell (World.block_lt_of_cell? w _ hx344_0)).trans hx344_0; replace hx344_1 := (HB.out.cell (World.block_lt_of_cell? w _ hx344_1)).trans hx344_1; have hw_ea344_2 := aM hx344_2; replace hx344_2 := (HB.out.cell (World.block_lt_of_cell? w _ hx344_2)).trans hx344_2; have hw_ea344_3 := aM hx344_3; replace hx344_3 := (HB.out.cell (World.block_lt_of_cell? w _ hx344_3)).trans hx344_3; replace hx344_4 := (HB.out.cell (World.block_lt_of_cell? w _ hx344_4)).trans hx344_4; have HR344_2 := aM hi344_2; have HC344_2 := aM hl344_2; clear hi344_2 hl344_2; have HR344_3 := aM hi344_3; have HC344_3 := aM hl344_3; clear hi344_3 hl344_3; replace p344 := eq_true p344; replace q344 := eq_true q344; have ea_ := Option.some.inj (by first | exact hx340_2.symm.trans hx344_2 | exact hw_ea340_2.out.symm.trans hw_ea344_2.out); injection ea_ with ea_ en_ ec_; subst ea_; subst ec_; clear en_; have ea_ := Option.some.inj (by first | exact hx340_3.symm.trans hx344_3 | exact hw_ea340_3.out.symm.trans hw_ea344_3.out); injection ea_ with ea_ en_ ec_; subst ea_; subst ec_; clear en_; have p345 : 0 ≤ (x6_3 : Int) := dt; have q345 : x6_3 < (((rd_T42 l0 x5_2).f3).length : Int) := dt; obtain ⟨ad345, A345_5, c345_5, e345, hx345_0, hx345_1, hx345_2, hx345_3, hx345_4, hx345_5, hl345_5, hi345_5⟩ := at_T66 HR344_3.out x6_3 p345 q345; cases e345; replace hx345_0 := (HB.out.cell (World.block_lt_of_cell? w _ hx345_0)).trans hx345_0; replace hx345_1 := (HB.out.cell (World.block_lt_of_cell? w _ hx345_1)).trans hx345_1; replace hx345_2 := (HB.out.cell (World.block_lt_of_cell? w _ hx345_2)).trans hx345_2; replace hx345_3 := (HB.out.cell (World.block_lt_of_cell? w _ hx345_3)).trans hx345_3; replace hx345_4 := (HB.out.cell (World.block_lt_of_cell? w _ hx345_4)).trans hx345_4; replace hx345_5 := (HB.out.cell (World.block_lt_of_cell? w _ hx345_5)).trans hx345_5; have HR345_5 := aM hi345_5; have HC345_5 := aM hl345_5; clear hi345_5 hl345_5; replace p345 := eq_true p345; replace q345 := eq_true q345; obtain ⟨hcz24_0, hcz24_1, hcz24_2, hcz24_3⟩ := cz BK332; obtain ⟨hfz24_0, hfz24_1, hfz24_2, hfz24_3⟩ := fz BK332))
                       refine bodyPost_ret (results_cell_row rfl _ _ gb332 28 #[.int .i64 16, .string ((rd_T66 ((rd_T42 l0 x5_2).f3) x6_3).f0), .int .i64 0, .int .i64 0] (0, 0) _ rfl (kf BK332) Try.underlying28 rfl (by kernel_rfl)) rfl ?_
                       exact ⟨by first | rfl | (simp [errW_none, errW_some] <;> rfl) | (simp [*, errW_none, errW_some] <;> rfl), hh HB⟩
                   · rw [if_neg c19] at H
                     exact absurd H (by simp)
                 · rw [if_neg c18] at H
                   have c18b0 : decide (x6_3 < (((rd_T42 l0 x5_2).f3).length : Int)) = false := decide_eq_false c18
                   clear c18
                   have H' := aM H
                   clear H
                   have p340 : 0 ≤ (x5_2 : Int) := dt
                   have q340 : x5_2 < (l0.length : Int) := dt
                   obtain ⟨ad340, A340_2, c340_2, A340_3, c340_3, e340, hx340_0, hx340_1, hx340_2, hx340_3, hx340_4, hl340_2, hi340_2, hl340_3, hi340_3⟩ := at_T42 HR0.out x5_2 p340 q340
                   cases e340
                   replace hx340_0 := (HB.out.cell (World.block_lt_of_cell? w _ hx340_0)).trans hx340_0
                   replace hx340_1 := (HB.out.cell (World.block_lt_of_cell? w _ hx340_1)).trans hx340_1
                   have hw_ea340_2 := aM hx340_2; replace hx340_2 := (HB.out.cell (World.block_lt_of_cell? w _ hx340_2)).trans hx340_2
                   have hw_ea340_3 := aM hx340_3; replace hx340_3 := (HB.out.cell (World.block_lt_of_cell? w _ hx340_3)).trans hx340_3
                   replace hx340_4 := (HB.out.cell (World.block_lt_of_cell? w _ hx340_4)).trans hx340_4
                   have HR340_2 := aM hi340_2
                   have HC340_2 := aM hl340_2
                   clear hi340_2 hl340_2
                   have HR340_3 := aM hi340_3
                   have HC340_3 := aM hl340_3
                   clear hi340_3 hl340_3
                   replace p340 := eq_true p340
                   replace q340 := eq_true q340
                   go_wp2
                   go_roundg k3
                   case measure => have := HK1.out; have := HK2.out; have := HK3.out; omega
                   case rel => exact ⟨(wrap64 (x5_2 + 1)), (x333000_3), (x333001_3), (x333002_3), (x333003_3), (by first | rfl | (simp; done) | (simp [*]; done)), H', ⟨by have := HK1.out; have := HK2.out; have := HK3.out; omega⟩, ⟨rk HO_3⟩, ⟨kk BK332⟩, ⟨hh HB⟩⟩
               · rw [if_neg c17] at H
                 exact absurd H (by simp)
             · rw [if_neg c16] at H
               exact absurd H (by simp)
         · rw [if_neg c15] at H
           have c15b0 : decide (x5_2 < (l0.length : Int)) = false := decide_eq_false c15
           clear c15
           simp only [Option.some.injEq, Prod.mk.injEq] at H
           obtain ⟨rfl, rfl, rfl, rfl⟩ := H
           obtain ⟨hcz25_0, hcz25_1, hcz25_2, hcz25_3⟩ := cz BK332
           obtain ⟨hfz25_0, hfz25_1, hfz25_2, hfz25_3⟩ := fz BK332
           go_wp2
           refine bodyPost_ret (results_cell_row rfl _ _ gb332 28 #[.int .i64 0, .string (⟨#[]⟩ : ByteArray), .int .i64 0, .int .i64 0] (0, 0) _ rfl (kf BK332) Try.underlying28 rfl (by kernel_rfl)) rfl ?_
           exact ⟨by first | rfl | (simp [errW_none, errW_some] <;> rfl) | (simp [*, errW_none, errW_some] <;> rfl), hh HB⟩
mutual
noncomputable def lazycref10_back.l0 : Nat → List (S42) → ByteArray → Int → List ByteArray → Int → Option (Bool)
 | 0, _, _, _, _, _ => none
 | k + 1, x0, x2, x3, x9, x10 => if x10 ≤ x3 then (lazycref10_back.l1 k x0 x2 x3 x9 x10 ([] : List ByteArray) 0) else (some false)
noncomputable def lazycref10_back.l1 : Nat → List (S42) → ByteArray → Int → List ByteArray → Int → List ByteArray → Int → Option (Bool)
 | 0, _, _, _, _, _, _, _ => none
 | k + 1, x0, x2, x3, x9, x10, x11, x12 => if x12 < (x9.length : Int) then (if 0 ≤ x12 then ((lazycref10_Insert.f k x11 (rdOf ByteArray.empty x9 x12)).bind fun t350 => ((lazycref10_Imports.f k x0 (rdOf ByteArray.empty x9 x12)).bind fun t354 => (lazycref10_back.l2 k x0 x2 x3 x9 x10 t350 x12 t354 0))) else (none)) else (lazycref10_back.l0 k x0 x2 x3 x11 (wrap64 (x10 + 1)))
noncomputable def lazycref10_back.l2 : Nat → List (S42) → ByteArray → Int → List ByteArray → Int → List ByteArray → Int → List ByteArray → Int → Option (Bool)
 | 0, _, _, _, _, _, _, _, _, _ => none
 | k + 1, x0, x2, x3, x9, x10, x11, x12, x13, x14 => if x14 < (x13.length : Int) then (if 0 ≤ x14 then (if (rdOf ByteArray.empty x13 x14).toList = x2.toList then (some true) else ((lazycref10_Insert.f k x11 (rdOf ByteArray.empty x13 x14)).bind fun t359 => (lazycref10_back.l2 k x0 x2 x3 x9 x10 t359 x12 x13 (wrap64 (x14 + 1))))) else (none)) else (lazycref10_back.l1 k x0 x2 x3 x9 x10 x11 (wrap64 (x12 + 1)))
end
noncomputable def lazycref10_back.f (k : Nat) (l0 : List (S42)) (a1 : ByteArray) (a2 : ByteArray) (a3 : Int) : Option (Bool) := lazycref10_back.l0 k l0 a2 a3 (([a1] : List ByteArray)) 0
set_option maxHeartbeats 8000000 in
set_option maxRecDepth 100000 in
theorem lazycref10_back.calls (k : Nat) (A0 : Option Addr) (c0 : Nat) (l0 : List (S42)) (a1 : ByteArray) (a2 : ByteArray) (a3 : Int) (r : Bool) (w : World) (hr0 : Kd.C k42 w A0 l0.length l0) (hc0 : l0.length ≤ c0) (h : lazycref10_back.f k l0 a1 a2 a3 = some r) :
 Calls Try.prog 49 #[.slice A0 l0.length c0, .string a1, .string a2, .int .i64 a3] w fun e w' => e = .returned (.bool r) ∧ Below w.heap.size w w' := by
 have HR0 := aM hr0
 have HC0 := aM hc0
 clear hr0 hc0
 have HB := aM (Below.refl w.heap.size w)
 have H : (lazycref10_back.l0 k l0 a2 a3 (([a1] : List ByteArray)) 0) = some r := h
 clear h
 obtain ⟨y346, hy346⟩ : ∃ y_ : List ByteArray, y_ = (([a1] : List ByteArray)) := ⟨_, rfl⟩
 replace H : (lazycref10_back.l0 k l0 a2 a3 y346 0) = some r := by first | (rw [hy346]; with_reducible exact H) | (have H2_ := (Option.bind_some _ _).symm.trans H; rw [hy346]; with_reducible exact H2_) | (have H2_ := (Option.bind_some _ _).symm.trans H; with_reducible exact H2_) | with_reducible exact H | (rw [hy346]; exact H) | exact H
 have Ny346 := aM hy346
 clear hy346
 have H' := aM H
 clear H
 go_enter Try.func49, Try.ntmps49
 go_wp2_with (first | ((with_reducible refine gate_dst (N := 16) rfl ?_); refine Kd.R_lit Kd.string _ 9 ?hg (N := 16) ?hd (xs := ([a1] : List ByteArray)) (inner := [.string a1]) (ok := fun _ => True) (okp := fun _ => True) ?hr ?hp (fun _ hk => hk) trivial (Below.refl _ _) (Nat.le_refl _) (by simp) ?_; (case hd => rfl); (case hg => rfl); (case hr => first | (go_simp; done) | (go_simp; rfl)); (case hp => exact (Reps.one (show Kd.M Kd.string _ _ _ a1 [.string a1] from rfl) (Reps.none _ _))); intro v347 w5 ho6 hb hg_ hnew_; clear hg_ hnew_; (first | rw [← Ny346.out] at ho6 | (simp only [Int.reduceToNat] at ho6; rw [← Ny346.out] at ho6)); have HO348 := aM (Kd.R_lower ho6 (below_size (hh HB))); replace HB := bs HB hb; clear hb ho6))
 go_loopg [9, 10] k (fun kq v9 v10 w' => ∃ (x9_1 : List ByteArray) (x10_1 : Int), v10 = .int .i64 x10_1 ∧ Aside0 (lazycref10_back.l0 kq l0 a2 a3 x9_1 x10_1 = some r) ∧ Aside0 (kq ≤ k) ∧ Aside0 (Kd.R Kd.string 9 w' w.heap.size (fun _ => True) v9 x9_1) ∧ Aside0 (Below w.heap.size w w'))
 case atStart => exact ⟨(y346), (0), (by first | rfl | (simp; done) | (simp [*]; done)), H', ⟨Nat.le_refl _⟩, ⟨rk HO348⟩, ⟨hh HB⟩⟩
 case round =>
  clear H'
  try clear p2
  try clear c4
  obtain ⟨x9_1, x10_1, rfl, HA, HK1, HO_9, HB⟩ := hrel
  cases gk with
  | zero => exact absurd HA.out (by simp [lazycref10_back.l0])
  | succ k1 =>
   have H := HA.out
   clear HA
   simp only [lazycref10_back.l0] at H
   by_cases c7 : x10_1 ≤ a3
   · rw [if_pos c7] at H
     have c7b0 : decide (x10_1 ≤ a3) = true := decide_eq_true c7
     clear c7
     have H' := aM H
     clear H
     go_wp2
     go_loopg [11, 12] k1 (fun kq v11 v12 w' => ∃ (x11_2 : List ByteArray) (x12_2 : Int), v12 = .int .i64 x12_2 ∧ Aside0 (lazycref10_back.l1 kq l0 a2 a3 x9_1 x10_1 x11_2 x12_2 = some r) ∧ Aside0 (kq ≤ k1) ∧ Aside0 (Kd.R Kd.string 9 w' w.heap.size (fun k_ => some k_ ≠ (v11 : Value).ownBlock) u9 x9_1) ∧ Aside0 (Kd.R Kd.string 9 w' w.heap.size (fun k_ => some k_ ≠ (u9 : Value).ownBlock) v11 x11_2) ∧ Aside0 (Below w.heap.size w w'))
     case atStart => exact ⟨(([] : List ByteArray)), (0), (by first | rfl | (simp; done) | (simp [*]; done)), H', ⟨Nat.le_refl _⟩, ⟨by (with_reducible repeat (first | apply Kd.R_alloc | apply Kd.R_drewN | apply Kd.R_drew)); exact Kd.R_mono HO_9.out (fun _ hk => (by simp [Value.ownBlock]))⟩, ⟨by first | exact Kd.R_nil _ _ _ _ _ | exact Kd.N_nil _ _ _ _ _ | exact Kd.V_nil _ _ _ _ _ | exact Kd.Q_nil _ _ _ _ _ | exact Kd.S_nil _ _ _ _ _⟩, ⟨hh HB⟩⟩
     case round =>
      clear H'
      try clear p2
      try clear c4
      try clear c7
      try clear c7b0
      try clear p2
      obtain ⟨x11_2, x12_2, rfl, HA, HK2, HO_9, HO_11, HB⟩ := hrel
      cases gk with
      | zero => exact absurd HA.out (by simp [lazycref10_back.l1])
      | succ k2 =>
       have H := HA.out
       clear HA
       simp only [lazycref10_back.l1] at H
       by_cases c8 : x12_2 < (x9_1.length : Int)
       · rw [if_pos c8] at H
         have c8b0 : decide (x12_2 < (x9_1.length : Int)) = true := decide_eq_true c8
         clear c8
         by_cases c9 : 0 ≤ x12_2
         · rw [if_pos c9] at H
           have c9b0 : decide (0 ≤ x12_2) = true := decide_eq_true c9
           clear c9
           replace H := Option.bind_eq_some_iff.mp H
           obtain ⟨t350, A100, H⟩ := H
           replace H : ((lazycref10_Imports.f k2 l0 (rdOf ByteArray.empty x9_1 x12_2)).bind fun t354 => (lazycref10_back.l2 k2 l0 a2 a3 x9_1 x10_1 t350 x12_2 t354 0)) = some r := H
           have A10 := aM A100
           clear A100
           replace H := Option.bind_eq_some_iff.mp H
           obtain ⟨t354, A110, H⟩ := H
           replace H : (lazycref10_back.l2 k2 l0 a2 a3 x9_1 x10_1 t350 x12_2 t354 0) = some r := H
           have A11 := aM A110
           clear A110
           have H' := aM H
           clear H
           obtain ⟨Ao12, co12, eo12⟩ := Kd.R_slice HO_9.out
           subst eo12
           have p349 : 0 ≤ (x12_2 : Int) := dt
           have q349 : x12_2 < (x9_1.length : Int) := dt
           obtain ⟨ad349, e349, hx349_0⟩ := Kd.at_string (Kd.R_reads' HO_9.out).2.2 x12_2 p349 q349
           cases e349
           replace p349 := eq_true p349
           replace q349 := eq_true q349
           obtain ⟨Ao13, co13, eo13⟩ := Kd.R_slice HO_11.out
           subst eo13
           go_wp2_with (first | ((with_reducible refine gate_callee (f := 38) rfl ?_); refine gL (some 33) rfl rfl Try.func38 (by kernel_rfl) rfl #[.slice Ao13 x11_2.length co13, .string (rdOf ByteArray.empty x9_1 x12_2)] rfl ?_; (with_reducible refine (lazycref10_Insert.calls k2 _ _ x11_2 (rdOf ByteArray.empty x9_1 x12_2) t350 _ ?side1 ?side2 A10.out).mono ?_); (case side1 => exact cr HO_11); (case side2 => exact (Kd.R_reads' HO_11.out).2.1); rintro e w14 ⟨v351, rfl, ho0, hb⟩; refine ⟨_, rfl, ?_⟩; have HO352 := aM (Kd.R_lower (Kd.R_new' (Kd.R_new' ho0 (Kd.R_lt (rk HO_9))) (Kd.R_lt (rk HO_11))) (below_size (hh HB))); replace HO_9 := aM (Kd.R_elder' (rk HO_9) (Kd.R_base ho0) hb); replace HO_11 := aM (Kd.R_elder' (rk HO_11) (Kd.R_base ho0) hb); replace HB := bs HB hb; (try clear hb); (try clear hb2); (try clear hk); (try clear hi); (try clear ho0); have p353 : 0 ≤ (x12_2 : Int) := dt; have q353 : x12_2 < (x9_1.length : Int) := dt; obtain ⟨ad353, e353, hx353_0⟩ := Kd.at_string (Kd.R_reads' HO_9.out).2.2 x12_2 p353 q353; obtain rfl : ad349 = ad353 := (by injection e353); replace p353 := eq_true p353; replace q353 := eq_true q353) | ((with_reducible refine gate_callee (f := 22) rfl ?_); refine gL (some 39) rfl rfl Try.func22 (by kernel_rfl) rfl #[.slice A0 l0.length c0, .string (rdOf ByteArray.empty x9_1 x12_2)] rfl ?_; (with_reducible refine (lazycref10_Imports.calls k2 _ _ l0 (rdOf ByteArray.empty x9_1 x12_2) t354 _ ?side1 ?side2 A11.out).mono ?_); (case side1 => exact cb HR0 HB); (case side2 => exact HC0.out); rintro e w15 ⟨v355, rfl, ho0, hb⟩; refine ⟨_, rfl, ?_⟩; have HO356 := aM (Kd.R_lower (Kd.R_new' (Kd.R_new' (Kd.R_new' ho0 (Kd.R_lt (rk HO_9))) (Kd.R_lt (rk HO_11))) (Kd.R_lt (rk HO352))) (below_size (hh HB))); replace HO_9 := aM (Kd.R_elder' (rk HO_9) (Kd.R_base ho0) hb); replace HO_11 := aM (Kd.R_elder' (rk HO_11) (Kd.R_base ho0) hb); replace HO352 := aM (Kd.R_elder' (rk HO352) (Kd.R_base ho0) hb); replace HB := bs HB hb; (try clear hb); (try clear hb2); (try clear hk); (try clear hi); (try clear ho0)))
           go_loopg [11, 14] k2 (fun kq v11 v14 w' => ∃ (x11_3 : List ByteArray) (x14_3 : Int), v14 = .int .i64 x14_3 ∧ Aside0 (lazycref10_back.l2 kq l0 a2 a3 x9_1 x10_1 x11_3 x12_2 t354 x14_3 = some r) ∧ Aside0 (kq ≤ k2) ∧ Aside0 (Kd.R Kd.string 9 w' w.heap.size (fun k_ => some k_ ≠ (v11 : Value).ownBlock ∧ some k_ ≠ (v355 : Value).ownBlock) (.slice (some ad349) x9_1.length co12) x9_1) ∧ Aside0 (Kd.R Kd.string 9 w' w.heap.size (fun k_ => some k_ ≠ ((.slice (some ad349) x9_1.length co12) : Value).ownBlock ∧ some k_ ≠ (v355 : Value).ownBlock) v11 x11_3) ∧ Aside0 (Kd.R Kd.string 9 w' w.heap.size (fun k_ => some k_ ≠ ((.slice (some ad349) x9_1.length co12) : Value).ownBlock ∧ some k_ ≠ (v11 : Value).ownBlock) v355 t354) ∧ Aside0 (Below w.heap.size w w'))
           case atStart => exact ⟨(t350), (0), (by first | rfl | (simp; done) | (simp [*]; done)), H', ⟨Nat.le_refl _⟩, ⟨by (with_reducible repeat (first | apply Kd.R_alloc | apply Kd.R_drewN | apply Kd.R_drew)); exact Kd.R_mono HO_9.out (fun _ hk => ⟨hk.1.2, hk.2⟩)⟩, ⟨by (with_reducible repeat (first | apply Kd.R_alloc | apply Kd.R_drewN | apply Kd.R_drew)); exact Kd.R_mono HO352.out (fun _ hk => ⟨hk.1.1.2, hk.2⟩)⟩, ⟨by (with_reducible repeat (first | apply Kd.R_alloc | apply Kd.R_drewN | apply Kd.R_drew)); exact Kd.R_mono HO356.out (fun _ hk => ⟨hk.1.1.2, hk.2⟩)⟩, ⟨hh HB⟩⟩
           case round =>
            clear H'
            try clear c2
            try clear p2
            try clear c3
            try clear p3
            try clear q3
            try clear hx3
            try clear c4
            try clear c7
            try clear c7b0
            try clear c8
            try clear c8b0
            try clear c9
            try clear c9b0
            try clear hx349_0
            try clear hx353_0
            try clear p2
            try clear p349
            try clear p353
            try clear q349
            try clear q353
            obtain ⟨x11_3, x14_3, rfl, HA, HK3, HO_9, HO_11, HO_13, HB⟩ := hrel
            cases gk with
            | zero => exact absurd HA.out (by simp [lazycref10_back.l2])
            | succ k3 =>
             have H := HA.out
             clear HA
             simp only [lazycref10_back.l2] at H
             by_cases c16 : x14_3 < (t354.length : Int)
             · rw [if_pos c16] at H
               have c16b0 : decide (x14_3 < (t354.length : Int)) = true := decide_eq_true c16
               clear c16
               by_cases c17 : 0 ≤ x14_3
               · rw [if_pos c17] at H
                 have c17b0 : decide (0 ≤ x14_3) = true := decide_eq_true c17
                 clear c17
                 by_cases c18 : (rdOf ByteArray.empty t354 x14_3).toList = a2.toList
                 · rw [if_pos c18] at H
                   have c18b0 : ((rdOf ByteArray.empty t354 x14_3).toList == a2.toList) = true := beq_iff_eq.mpr c18
                   have c18b1 : ((rdOf ByteArray.empty t354 x14_3).toList != a2.toList) = false := bne_eq_false_iff_eq.mpr c18
                   clear c18
                   obtain rfl := Option.some.inj H
                   obtain ⟨Ao19, co19, eo19⟩ := Kd.R_slice HO_13.out
                   subst eo19
                   have p357 : 0 ≤ (x14_3 : Int) := dt
                   have q357 : x14_3 < (t354.length : Int) := dt
                   obtain ⟨ad357, e357, hx357_0⟩ := Kd.at_string (Kd.R_reads' HO_13.out).2.2 x14_3 p357 q357
                   cases e357
                   replace p357 := eq_true p357
                   replace q357 := eq_true q357
                   go_wp2
                   go_ret
                   exact ⟨by first | rfl | (simp [errW_none, errW_some] <;> rfl) | (simp [*, errW_none, errW_some] <;> rfl), hh HB⟩
                 · rw [if_neg c18] at H
                   have c18b0 : ((rdOf ByteArray.empty t354 x14_3).toList == a2.toList) = false := beq_eq_false_iff_ne.mpr c18
                   have c18b1 : ((rdOf ByteArray.empty t354 x14_3).toList != a2.toList) = true := bne_iff_ne.mpr c18
                   replace H := Option.bind_eq_some_iff.mp H
                   obtain ⟨t359, A200, H⟩ := H
                   replace H : (lazycref10_back.l2 k3 l0 a2 a3 x9_1 x10_1 t359 x12_2 t354 (wrap64 (x14_3 + 1))) = some r := H
                   have A20 := aM A200
                   clear A200
                   have H' := aM H
                   clear H
                   obtain ⟨Ao21, co21, eo21⟩ := Kd.R_slice HO_13.out
                   subst eo21
                   have p357 : 0 ≤ (x14_3 : Int) := dt
                   have q357 : x14_3 < (t354.length : Int) := dt
                   obtain ⟨ad357, e357, hx357_0⟩ := Kd.at_string (Kd.R_reads' HO_13.out).2.2 x14_3 p357 q357
                   cases e357
                   replace p357 := eq_true p357
                   replace q357 := eq_true q357
                   have p358 : 0 ≤ (x14_3 : Int) := dt
                   have q358 : x14_3 < (t354.length : Int) := dt
                   obtain ⟨ad358, e358, hx358_0⟩ := Kd.at_string (Kd.R_reads' HO_13.out).2.2 x14_3 p358 q358
                   obtain rfl : ad357 = ad358 := (by injection e358)
                   replace p358 := eq_true p358
                   replace q358 := eq_true q358
                   obtain ⟨Ao22, co22, eo22⟩ := Kd.R_slice HO_11.out
                   subst eo22
                   go_wp2_with (first | ((with_reducible refine gate_callee (f := 38) rfl ?_); refine gL (some 57) rfl rfl Try.func38 (by kernel_rfl) rfl #[.slice Ao22 x11_3.length co22, .string (rdOf ByteArray.empty t354 x14_3)] rfl ?_; (with_reducible refine (lazycref10_Insert.calls k3 _ _ x11_3 (rdOf ByteArray.empty t354 x14_3) t359 _ ?side1 ?side2 A20.out).mono ?_); (case side1 => exact cr HO_11); (case side2 => exact (Kd.R_reads' HO_11.out).2.1); rintro e w23 ⟨v360, rfl, ho0, hb⟩; refine ⟨_, rfl, ?_⟩; have HO361 := aM (Kd.R_lower (Kd.R_new' (Kd.R_new' (Kd.R_new' ho0 (Kd.R_lt (rk HO_9))) (Kd.R_lt (rk HO_11))) (Kd.R_lt (rk HO_13))) (below_size (hh HB))); replace HO_9 := aM (Kd.R_elder' (rk HO_9) (Kd.R_base ho0) hb); replace HO_11 := aM (Kd.R_elder' (rk HO_11) (Kd.R_base ho0) hb); replace HO_13 := aM (Kd.R_elder' (rk HO_13) (Kd.R_base ho0) hb); replace HB := bs HB hb; (try clear hb); (try clear hb2); (try clear hk); (try clear hi); (try clear ho0)))
                   go_roundg k3
                   case measure => have := HK1.out; have := HK2.out; have := HK3.out; omega
                   case rel => exact ⟨(t359), (wrap64 (x14_3 + 1)), (by first | rfl | (simp; done) | (simp [*]; done)), H', ⟨by have := HK1.out; have := HK2.out; have := HK3.out; omega⟩, ⟨by (with_reducible repeat (first | apply Kd.R_alloc | apply Kd.R_drewN | apply Kd.R_drew)); exact Kd.R_mono HO_9.out (fun _ hk => ⟨hk.2, hk.1.2⟩)⟩, ⟨by (with_reducible repeat (first | apply Kd.R_alloc | apply Kd.R_drewN | apply Kd.R_drew)); exact Kd.R_mono HO361.out (fun _ hk => ⟨hk.1.1.2, hk.2⟩)⟩, ⟨by (with_reducible repeat (first | apply Kd.R_alloc | apply Kd.R_drewN | apply Kd.R_drew)); exact Kd.R_mono HO_13.out (fun _ hk => ⟨hk.1.1, hk.2⟩)⟩, ⟨hh HB⟩⟩
               · rw [if_neg c17] at H
                 exact absurd H (by simp)
             · rw [if_neg c16] at H
               have c16b0 : decide (x14_3 < (t354.length : Int)) = false := decide_eq_false c16
               clear c16
               have H' := aM H
               clear H
               obtain ⟨Ao24, co24, eo24⟩ := Kd.R_slice HO_13.out
               subst eo24
               go_wp2
               go_roundg k3
               case measure => have := HK1.out; have := HK2.out; have := HK3.out; omega
               case rel => exact ⟨(x11_3), (wrap64 (x12_2 + 1)), (by first | rfl | (simp; done) | (simp [*]; done)), H', ⟨by have := HK1.out; have := HK2.out; have := HK3.out; omega⟩, ⟨by (with_reducible repeat (first | apply Kd.R_alloc | apply Kd.R_drewN | apply Kd.R_drew)); exact Kd.R_mono HO_9.out (fun _ hk => hk.1)⟩, ⟨by (with_reducible repeat (first | apply Kd.R_alloc | apply Kd.R_drewN | apply Kd.R_drew)); exact Kd.R_mono HO_11.out (fun _ hk => hk.1)⟩, ⟨hh HB⟩⟩
         · rw [if_neg c9] at H
           exact absurd H (by simp)
       · rw [if_neg c8] at H
         have c8b0 : decide (x12_2 < (x9_1.length : Int)) = false := decide_eq_false c8
         clear c8
         have H' := aM H
         clear H
         obtain ⟨Ao25, co25, eo25⟩ := Kd.R_slice HO_9.out
         subst eo25
         go_wp2
         go_roundg k2
         case measure => have := HK1.out; have := HK2.out; omega
         case rel => exact ⟨(x11_2), (wrap64 (x10_1 + 1)), (by first | rfl | (simp; done) | (simp [*]; done)), H', ⟨by have := HK1.out; have := HK2.out; omega⟩, ⟨by (with_reducible repeat (first | apply Kd.R_alloc | apply Kd.R_drewN | apply Kd.R_drew)); exact Kd.R_mono HO_11.out (fun _ hk => trivial)⟩, ⟨hh HB⟩⟩
   · rw [if_neg c7] at H
     have c7b0 : decide (x10_1 ≤ a3) = false := decide_eq_false c7
     clear c7
     obtain rfl := Option.some.inj H
     go_wp2
     go_ret
     exact ⟨by first | rfl | (simp [errW_none, errW_some] <;> rfl) | (simp [*, errW_none, errW_some] <;> rfl), hh HB⟩
end Go.Proofs.Ytmadhaccjmakdaa.P
namespace Go.Proofs.Ytmadhaccjmakdaa.P
open Go.RowKit Go.Proofs.YtmadhaccjmakdaaW.PrintWords Go.Proofs.YtmadhaccjmakdaaW.PrintLast Go.Proofs.YtmadhaccjmakdaaW.PrintMore
attribute [local go_sem] str_gtr str_leq str_geq max2_int min2_int max_two min_two max_three min_three max_four min_four
mutual
noncomputable def lazycref10_paths.l0 : Nat → List (S42) → List ByteArray → Int → List ByteArray → Int → Option (List ByteArray)
 | 0, _, _, _, _, _ => none
 | k + 1, x0, x1, x2, x7, x8 => if x8 < (x7.length : Int) then (lazycref10_paths.j1 k x0 x1 x2 x7 x8 (decide ((x1.length : Int) < x2))) else (lazycref10_paths.j1 k x0 x1 x2 x7 x8 false)
noncomputable def lazycref10_paths.j1 : Nat → List (S42) → List ByteArray → Int → List ByteArray → Int → Bool → Option (List ByteArray)
 | 0, _, _, _, _, _, _ => none
 | k + 1, x0, x1, x2, x7, x8, x34 => if x34 = true then (if 0 ≤ x8 then (if x8 < (x7.length : Int) then ((lazycref01_Has.f k x1 (rdOf ByteArray.empty x7 x8)).bind fun t369 => (if t369 = true then (lazycref10_paths.j2 k x0 x1 x2 x7 x8 true) else (if 0 < (x1.length : Int) then ((lazycref10_back.f k x0 (rdOf ByteArray.empty x7 x8) (rdOf ByteArray.empty x1 0) (wrap64 ((wrap64 (x2 - (x1.length : Int))) - 1))).bind fun t372 => (lazycref10_paths.j2 k x0 x1 x2 x7 x8 (!t372))) else (none)))) else (none)) else (none)) else (some ([] : List ByteArray))
noncomputable def lazycref10_paths.j2 : Nat → List (S42) → List ByteArray → Int → List ByteArray → Int → Bool → Option (List ByteArray)
 | 0, _, _, _, _, _, _ => none
 | k + 1, x0, x1, x2, x7, x8, x59 => if x59 = true then (lazycref10_paths.l0 k x0 x1 x2 x7 (wrap64 (x8 + 1))) else (if ([] : List ByteArray).length + x1.length < 8796093022208 then ((some (([] : List ByteArray) ++ x1 : List ByteArray)).bind fun y373 => (if 0 ≤ x8 then (if x8 < (x7.length : Int) then (if y373.length < 8796093022208 then ((lazycref10_paths.f k x0 (y373 ++ [rdOf ByteArray.empty x7 x8]) x2).bind fun t380 => (if (t380.length : Int) > 0 then (some t380) else (lazycref10_paths.l0 k x0 x1 x2 x7 (wrap64 (x8 + 1))))) else (none)) else (none)) else (none))) else (none))
noncomputable def lazycref10_paths.f : Nat → List (S42) → List ByteArray → Int → Option (List ByteArray)
 | 0, _, _, _ => none
 | k + 1, l0, l1, a2 => if 0 ≤ (wrap64 ((l1.length : Int) - 1)) then (if (wrap64 ((l1.length : Int) - 1)) < (l1.length : Int) then ((lazycref10_Imports.f k l0 (rdOf ByteArray.empty l1 (wrap64 ((l1.length : Int) - 1)))).bind fun t363 => (if 0 < (l1.length : Int) then ((lazycref01_Has.f k t363 (rdOf ByteArray.empty l1 0)).bind fun t367 => (if t367 = true then (some l1) else (lazycref10_paths.l0 k l0 l1 a2 t363 0))) else (none))) else (none)) else (none)
end
noncomputable def lazycref10_paths.T7 : Bool × List (List Nat × List Nat) := (true, [([], []), ([], []), ([], []), ([1, 2], [1, 2]), ([3], [3]), ([0, 4], [0, 4]), ([5, 5], [5]), ([6], [6]), ([6], [6]), ([6], [6]), ([8, 9, 6], [6, 8, 9]), ([10, 6], [6, 10]), ([6], [6]), ([12, 6], [6, 12]), ([13, 6], [6, 13]), ([6], [6]), ([6], [6]), ([16, 6], [6, 16]), ([15, 17, 6], [6, 15, 17]), ([18, 6], [6, 18]), ([7, 11, 14, 19, 6, 6], [6, 7, 11, 14, 19]), ([20, 6], [6, 20]), ([6, 21], [6, 21])])
noncomputable def lazycref10_paths.B7 : List Nat := [0, 0, 0, 6, 14, 31, 63, 127, 127, 127, 895, 1919, 127, 4223, 12415, 127, 127, 65663, 229503, 491647, 1048575, 2097151, 4194303]
theorem lazycref10_paths.tab7 : rtab .any (opsOf Try.f37 7) = lazycref10_paths.T7 := by kernel_rfl
theorem lazycref10_paths.bits7 : waitsOk lazycref10_paths.T7.2 lazycref10_paths.B7 = true := by kernel_rfl
set_option maxHeartbeats 8000000 in
set_option maxRecDepth 100000 in
theorem lazycref10_paths.calls (k : Nat) : ∀ (A0 : Option Addr) (c0 : Nat) (l0 : List (S42)) (P1_ : Nat → Prop) (u9000_ : Value) (l1 : List ByteArray) (a2 : Int) (r : List ByteArray) (w0 w : World) (hB : Below w0.heap.size w0 w) (hr0 : ∀ W_, Kept w W_ (fun k_ => P1_ k_) → Kd.C k42 W_ A0 l0.length l0) (hc0 : l0.length ≤ c0) (ho1 : Kd.R Kd.string 9 w w0.heap.size P1_ u9000_ l1) (h : lazycref10_paths.f k l0 l1 a2 = some r),
 Calls Try.prog 37 #[.slice A0 l0.length c0, u9000_, .int .i64 a2] w fun e w' => ∃ v0_ : Value, e = .returned (v0_) ∧ Kd.R Kd.string 9 w' w0.heap.size (fun k_ => (P1_ k_ ∨ w.heap.size ≤ k_)) v0_ r ∧ Below w0.heap.size w0 w' ∧ Kept w w' (fun k_ => P1_ k_) := by
 induction k using Nat.strongRecOn with
 | _ k ih =>
 intro A0 c0 l0 P1_ u9000_ l1 a2 r w0 w hB hr0 hc0 ho1 h
 cases k with
 | zero => exact absurd h (by simp [lazycref10_paths.f])
 | succ k =>
 simp only [lazycref10_paths.f] at h
 have HR0 := aM hr0
 have HC0 := aM hc0
 clear hr0 hc0
 have HO1 := aM (show Kd.R Kd.string 9 w w0.heap.size (fun k_ => (P1_ k_ ∨ w.heap.size ≤ k_)) u9000_ l1 from Kd.R_mono ho1 (fun k_ hk => (.inl hk)))
 have HK := aM (Kept.refl w (fun k_ => P1_ k_))
 have HW0 := aM hB.size
 have HB := aM hB
 clear hB
 have H : (if 0 ≤ (wrap64 ((l1.length : Int) - 1)) then (if (wrap64 ((l1.length : Int) - 1)) < (l1.length : Int) then ((lazycref10_Imports.f k l0 (rdOf ByteArray.empty l1 (wrap64 ((l1.length : Int) - 1)))).bind fun t363 => (if 0 < (l1.length : Int) then ((lazycref01_Has.f k t363 (rdOf ByteArray.empty l1 0)).bind fun t367 => (if t367 = true then (some l1) else (lazycref10_paths.l0 k l0 l1 a2 t363 0))) else (none))) else (none)) else (none)) = some r := h
 clear h
 obtain ⟨ji4, hji4⟩ : ∃ j_ : Int, (wrap64 ((l1.length : Int) - 1)) = j_ := ⟨_, rfl⟩
 replace H : (if 0 ≤ (ji4) then (if (ji4) < (l1.length : Int) then ((lazycref10_Imports.f k l0 (rdOf ByteArray.empty l1 (ji4))).bind fun t363 => (if 0 < (l1.length : Int) then ((lazycref01_Has.f k t363 (rdOf ByteArray.empty l1 0)).bind fun t367 => (if t367 = true then (some l1) else (lazycref10_paths.l0 k l0 l1 a2 t363 0))) else (none))) else (none)) else (none)) = some r := by first | (rw [hji4] at H; exact H) | (simp only [hji4] at H ⊢; exact H)
 have hji4w : (IntKind.i64.wrap ((l1.length : Int) - 1)) = ji4 := (i64_w _).trans hji4
 by_cases c5 : 0 ≤ (ji4)
 · rw [if_pos c5] at H
   have c5b0 : decide (0 ≤ (ji4)) = true := decide_eq_true c5
   clear c5
   by_cases c6 : (ji4) < (l1.length : Int)
   · rw [if_pos c6] at H
     have c6b0 : decide ((ji4) < (l1.length : Int)) = true := decide_eq_true c6
     clear c6
     replace H := Option.bind_eq_some_iff.mp H
     obtain ⟨t363, A70, H⟩ := H
     replace H : (if 0 < (l1.length : Int) then ((lazycref01_Has.f k t363 (rdOf ByteArray.empty l1 0)).bind fun t367 => (if t367 = true then (some l1) else (lazycref10_paths.l0 k l0 l1 a2 t363 0))) else (none)) = some r := H
     have A7 := aM A70
     clear A70
     by_cases c8 : 0 < (l1.length : Int)
     · rw [if_pos c8] at H
       have c8b0 : decide (0 < (l1.length : Int)) = true := decide_eq_true c8
       have c8b1 : decide (0 < l1.length) = true := decide_eq_true (by omega)
       clear c8
       replace H := Option.bind_eq_some_iff.mp H
       obtain ⟨t367, A90, H⟩ := H
       replace H : (if t367 = true then (some l1) else (lazycref10_paths.l0 k l0 l1 a2 t363 0)) = some r := H
       have A9 := aM A90
       clear A90
       by_cases c10 : t367 = true
       · subst c10
         have H1 : (some l1) = some r := by rw [if_pos rfl] at H; exact H
         clear H
         have H := H1
         clear H1
         obtain rfl := Option.some.inj H
         obtain ⟨Ao11, co11, eo11⟩ := Kd.R_slice HO1.out
         subst eo11
         have p362 : 0 ≤ ((ji4) : Int) := dt
         have q362 : (ji4) < (l1.length : Int) := dt
         obtain ⟨ad362, e362, hx362_0⟩ := Kd.at_string (Kd.R_reads' HO1.out).2.2 (ji4) p362 q362
         cases e362
         replace p362 := eq_true p362
         replace q362 := eq_true q362
         go_enter Try.func37, Try.ntmps37
         go_wp2_with (first | ((with_reducible refine gate_callee (f := 22) rfl ?_); refine goesL_ (some 18) rfl rfl Try.func22 (by kernel_rfl) rfl #[.slice A0 l0.length c0, .string (rdOf ByteArray.empty l1 (ji4))] rfl (by (try simp only [List.map_toArray, List.map_cons, List.map_nil]); first | done | (simp only [hji4]; rfl) | rfl | (simp only [List.length_drop, List.length_take]; rfl)) ?_; (with_reducible refine (lazycref10_Imports.calls k _ _ l0 (rdOf ByteArray.empty l1 (ji4)) t363 _ ?side1 ?side2 A7.out).mono ?_); (case side1 => exact Kd.C_kept_now HR0.out (by repeat (first | (with_reducible first | exact HK.out | apply Kept.alloc | apply Kept.drewN | apply Kept.drew) | exact HK.out))); (case side2 => exact HC0.out); rintro e w12 ⟨v364, rfl, ho0, hb⟩; refine ⟨_, rfl, ?_⟩; have HO365 := aM (Kd.R_lower (Kd.R_new' (Kd.R_newM (M := fun k_ => (P1_ k_ ∨ w.heap.size ≤ k_)) ho0 (by first | exact HK.out.1 | exact (show Kept w _ (fun k_ => P1_ k_) from by repeat (first | (with_reducible first | exact HK.out | apply Kept.alloc | apply Kept.drewN | apply Kept.drew) | exact HK.out)).1) (fun k_ h_ => .inr h_)) (Kd.R_lt (rk HO1))) (below_size (hh HB))); replace HO1 := aM (Kd.R_elder' (rk HO1) (Kd.R_base ho0) hb); replace HK := aM (Kept.below (S := (fun k_ => P1_ k_)) (by repeat (first | (with_reducible first | exact HK.out | apply Kept.alloc | apply Kept.drewN | apply Kept.drew) | exact HK.out)) hb); replace HB := bs HB hb; (try clear hb); (try clear hb2); (try clear hk); (try clear hi); (try clear ho0); have p366 : 0 ≤ (0 : Int) := (by omega); have q366 : 0 < (l1.length : Int) := dt; obtain ⟨ad366, e366, hx366_0⟩ := Kd.at_string (Kd.R_reads' HO1.out).2.2 0 p366 q366; obtain rfl : ad362 = ad366 := (by injection e366); have qi366 : (0 < l1.length) = True := eq_true (by omega); (try rw [show ((0 : Int)).toNat = 0 from rfl] at hx366_0); (try rw [Addr.add_zero'] at hx366_0); replace p366 := eq_true p366; replace q366 := eq_true q366; obtain ⟨Ao13, co13, eo13⟩ := Kd.R_slice HO365.out; subst eo13) | ((with_reducible refine gate_callee (f := 21) rfl ?_); refine gL (some 23) rfl rfl Try.func21 (by kernel_rfl) rfl #[.slice Ao13 t363.length co13, .string (rdOf ByteArray.empty l1 0)] rfl ?_; (with_reducible refine (lazycref01_Has.calls k _ _ t363 (rdOf ByteArray.empty l1 0) true _ ?side1 ?side2 A9.out).mono ?_); (case side1 => exact cr HO365); (case side2 => exact (Kd.R_reads' HO365.out).2.1); rintro e w' ⟨rfl, ⟨nd, rfl⟩⟩; refine ⟨_, rfl, ?_⟩))
         go_ret
         exact ⟨_, by first | rfl | (simp [errW_none, errW_some] <;> rfl) | (simp only [← hji4]; first | rfl | (simp [errW_none, errW_some] <;> rfl)) | (simp [*, errW_none, errW_some] <;> rfl), by (with_reducible repeat (first | apply Kd.R_alloc | apply Kd.R_drewN | apply Kd.R_drew)); exact Kd.R_mono HO1.out (fun _ hk => hk.1), hh HB, by repeat (first | (with_reducible first | exact HK.out | apply Kept.alloc | apply Kept.drewN | apply Kept.drew) | exact HK.out)⟩
       · replace c10 := Bool.eq_false_iff.mpr c10
         subst c10
         have H1 : (lazycref10_paths.l0 k l0 l1 a2 t363 0) = some r := by rw [if_neg (show ¬ (false = true) by decide)] at H; exact H
         clear H
         have H := H1
         clear H1
         have H' := aM H
         clear H
         obtain ⟨Ao14, co14, eo14⟩ := Kd.R_slice HO1.out
         subst eo14
         have p362 : 0 ≤ ((ji4) : Int) := dt
         have q362 : (ji4) < (l1.length : Int) := dt
         obtain ⟨ad362, e362, hx362_0⟩ := Kd.at_string (Kd.R_reads' HO1.out).2.2 (ji4) p362 q362
         cases e362
         replace p362 := eq_true p362
         replace q362 := eq_true q362
         go_enter Try.func37, Try.ntmps37
         go_wp2_with (first | ((with_reducible refine gate_callee (f := 22) rfl ?_); refine goesL_ (some 18) rfl rfl Try.func22 (by kernel_rfl) rfl #[.slice A0 l0.length c0, .string (rdOf ByteArray.empty l1 (ji4))] rfl (by (try simp only [List.map_toArray, List.map_cons, List.map_nil]); first | done | (simp only [hji4]; rfl) | rfl | (simp only [List.length_drop, List.length_take]; rfl)) ?_; (with_reducible refine (lazycref10_Imports.calls k _ _ l0 (rdOf ByteArray.empty l1 (ji4)) t363 _ ?side1 ?side2 A7.out).mono ?_); (case side1 => exact Kd.C_kept_now HR0.out (by repeat (first | (with_reducible first | exact HK.out | apply Kept.alloc | apply Kept.drewN | apply Kept.drew) | exact HK.out))); (case side2 => exact HC0.out); rintro e w15 ⟨v364, rfl, ho0, hb⟩; refine ⟨_, rfl, ?_⟩; have HO365 := aM (Kd.R_lower (Kd.R_new' (Kd.R_newM (M := fun k_ => (P1_ k_ ∨ w.heap.size ≤ k_)) ho0 (by first | exact HK.out.1 | exact (show Kept w _ (fun k_ => P1_ k_) from by repeat (first | (with_reducible first | exact HK.out | apply Kept.alloc | apply Kept.drewN | apply Kept.drew) | exact HK.out)).1) (fun k_ h_ => .inr h_)) (Kd.R_lt (rk HO1))) (below_size (hh HB))); replace HO1 := aM (Kd.R_elder' (rk HO1) (Kd.R_base ho0) hb); replace HK := aM (Kept.below (S := (fun k_ => P1_ k_)) (by repeat (first | (with_reducible first | exact HK.out | apply Kept.alloc | apply Kept.drewN | apply Kept.drew) | exact HK.out)) hb); replace HB := bs HB hb; (try clear hb); (try clear hb2); (try clear hk); (try clear hi); (try clear ho0); have p366 : 0 ≤ (0 : Int) := (by omega); have q366 : 0 < (l1.length : Int) := dt; obtain ⟨ad366, e366, hx366_0⟩ := Kd.at_string (Kd.R_reads' HO1.out).2.2 0 p366 q366; obtain rfl : ad362 = ad366 := (by injection e366); have qi366 : (0 < l1.length) = True := eq_true (by omega); (try rw [show ((0 : Int)).toNat = 0 from rfl] at hx366_0); (try rw [Addr.add_zero'] at hx366_0); replace p366 := eq_true p366; replace q366 := eq_true q366; obtain ⟨Ao16, co16, eo16⟩ := Kd.R_slice HO365.out; subst eo16) | ((with_reducible refine gate_callee (f := 21) rfl ?_); refine gL (some 23) rfl rfl Try.func21 (by kernel_rfl) rfl #[.slice Ao16 t363.length co16, .string (rdOf ByteArray.empty l1 0)] rfl ?_; (with_reducible refine (lazycref01_Has.calls k _ _ t363 (rdOf ByteArray.empty l1 0) false _ ?side1 ?side2 A9.out).mono ?_); (case side1 => exact cr HO365); (case side2 => exact (Kd.R_reads' HO365.out).2.1); rintro e w' ⟨rfl, ⟨nd, rfl⟩⟩; refine ⟨_, rfl, ?_⟩))
         go_loopg [8] k (fun kq v8 w' => ∃ (x8_1 : Int), v8 = .int .i64 x8_1 ∧ Aside0 (lazycref10_paths.l0 kq l0 l1 a2 t363 x8_1 = some r) ∧ Aside0 (kq ≤ k) ∧ Aside0 (Kd.R Kd.string 9 w' w0.heap.size (fun k_ => (P1_ k_ ∨ w.heap.size ≤ k_) ∧ some k_ ≠ ((.slice Ao16 t363.length co16) : Value).ownBlock) (.slice (some ad362) l1.length co14) l1) ∧ Aside0 (Kd.R Kd.string 9 w' w0.heap.size (fun k_ => (P1_ k_ ∨ w.heap.size ≤ k_) ∧ some k_ ≠ ((.slice (some ad362) l1.length co14) : Value).ownBlock) (.slice Ao16 t363.length co16) t363) ∧ Aside0 (Kept w w' (fun k_ => P1_ k_)) ∧ Aside0 (Below w0.heap.size w0 w'))
         case atStart => exact ⟨(0), (by first | rfl | (simp; done) | (simp [*]; done)), H', ⟨Nat.le_refl _⟩, ⟨rk HO1⟩, ⟨by (with_reducible repeat (first | apply Kd.R_alloc | apply Kd.R_drewN | apply Kd.R_drew)); exact Kd.R_mono HO365.out (fun _ hk => ⟨hk.1.1, hk.2⟩)⟩, ⟨by repeat (first | (with_reducible first | exact HK.out | apply Kept.alloc | apply Kept.drewN | apply Kept.drew) | exact HK.out)⟩, ⟨hh HB⟩⟩
         case round =>
          clear H'
          try clear c1
          try clear c2
          try clear p2
          try clear c3
          try clear p3
          try clear q3
          try clear hx3
          try clear qi3
          try clear c5
          try clear c5b0
          try clear c6
          try clear c6b0
          try clear p6
          try clear c8
          try clear c8b0
          try clear c8b1
          try clear c10
          try clear hx362_0
          try clear hx366_0
          try clear p362
          try clear p366
          try clear q362
          try clear q366
          obtain ⟨x8_1, rfl, HA, HK1, HO_1, HO_7, HK, HB⟩ := hrel
          cases gk with
          | zero => exact absurd HA.out (by simp [lazycref10_paths.l0])
          | succ k1 =>
           have H := HA.out
           clear HA
           simp only [lazycref10_paths.l0] at H
           have HC17 := aM H
           clear H
           go_upto_region 5 with (fail)
           go_cut [34] (fun v34 wc => ∃ (kq : Nat) (x34_16 : Bool), v34 = .bool x34_16 ∧ Aside0 (lazycref10_paths.j1 kq l0 l1 a2 t363 x8_1 x34_16 = some r) ∧ Aside0 (kq ≤ k1) ∧ Aside0 (Kd.R Kd.string 9 wc w0.heap.size (fun k_ => (P1_ k_ ∨ w.heap.size ≤ k_) ∧ some k_ ≠ ((.slice Ao16 t363.length co16) : Value).ownBlock) (.slice (some ad362) l1.length co14) l1) ∧ Aside0 (Kd.R Kd.string 9 wc w0.heap.size (fun k_ => (P1_ k_ ∨ w.heap.size ≤ k_) ∧ some k_ ≠ ((.slice (some ad362) l1.length co14) : Value).ownBlock) (.slice Ao16 t363.length co16) t363) ∧ Aside0 (Kept w wc (fun k_ => P1_ k_)) ∧ Aside0 (Below w0.heap.size w0 wc))
           case first =>
            have H := HC17.out
            clear HC17
            by_cases c18 : x8_1 < (t363.length : Int)
            · rw [if_pos c18] at H
              have c18b0 : decide (x8_1 < (t363.length : Int)) = true := decide_eq_true c18
              clear c18
              (first | rw [c18b0] | (simp only [i64_w, i32_w]; rw [c18b0]) | skip)
              have H' := aM H
              clear H
              go_wp2
              go_meet
              case rel => exact ⟨_, (decide ((l1.length : Int) < a2)), (by first | rfl | (simp; done) | (simp [*]; done)), H', ⟨by have := HK1.out; first | omega | exact Nat.le_refl _⟩, ⟨rk HO_1⟩, ⟨rk HO_7⟩, ⟨by repeat (first | (with_reducible first | exact HK.out | apply Kept.alloc | apply Kept.drewN | apply Kept.drew) | exact HK.out)⟩, ⟨hh HB⟩⟩
            · rw [if_neg c18] at H
              have c18b0 : decide (x8_1 < (t363.length : Int)) = false := decide_eq_false c18
              clear c18
              (first | rw [c18b0] | (simp only [i64_w, i32_w]; rw [c18b0]) | skip)
              have H' := aM H
              clear H
              go_wp2
              go_meet
              case rel => exact ⟨_, (false), (by first | rfl | (simp; done) | (simp [*]; done)), H', ⟨by have := HK1.out; first | omega | exact Nat.le_refl _⟩, ⟨rk HO_1⟩, ⟨rk HO_7⟩, ⟨by repeat (first | (with_reducible first | exact HK.out | apply Kept.alloc | apply Kept.drewN | apply Kept.drew) | exact HK.out)⟩, ⟨hh HB⟩⟩
           case rest =>
            clear HC17
            try clear c1
            try clear c2
            try clear p2
            try clear c3
            try clear p3
            try clear q3
            try clear hx3
            try clear qi3
            try clear c5
            try clear c5b0
            try clear c6
            try clear c6b0
            try clear p6
            try clear c8
            try clear c8b0
            try clear c8b1
            try clear c10
            try clear c18
            try clear c18b0
            try clear hx362_0
            try clear hx366_0
            try clear p2
            try clear p3
            try clear p362
            try clear p366
            try clear p6
            try clear q3
            try clear q362
            try clear q366
            obtain ⟨kq, x34_16, rfl, HA, HJ16, HO_1, HO_7, HK, HB⟩ := hcut
            cases kq with
            | zero => exact absurd HA.out (by simp [lazycref10_paths.j1])
            | succ kj16 =>
             have H := HA.out
             clear HA
             simp only [lazycref10_paths.j1] at H
             by_cases c19 : x34_16 = true
             · subst c19
               have H1 : (if 0 ≤ x8_1 then (if x8_1 < (t363.length : Int) then ((lazycref01_Has.f kj16 l1 (rdOf ByteArray.empty t363 x8_1)).bind fun t369 => (if t369 = true then (lazycref10_paths.j2 kj16 l0 l1 a2 t363 x8_1 true) else (if 0 < (l1.length : Int) then ((lazycref10_back.f kj16 l0 (rdOf ByteArray.empty t363 x8_1) (rdOf ByteArray.empty l1 0) (wrap64 ((wrap64 (a2 - (l1.length : Int))) - 1))).bind fun t372 => (lazycref10_paths.j2 kj16 l0 l1 a2 t363 x8_1 (!t372))) else (none)))) else (none)) else (none)) = some r := by rw [if_pos rfl] at H; exact H
               clear H
               have H := H1
               clear H1
               have HC20 := aM H
               clear H
               go_upto_region 7 with (fail)
               go_cut [59] (fun v59 wc => ∃ (kq : Nat) (x59_19 : Bool), v59 = .bool x59_19 ∧ Aside0 (lazycref10_paths.j2 kq l0 l1 a2 t363 x8_1 x59_19 = some r) ∧ Aside0 (kq ≤ kj16) ∧ Aside0 (Kd.R Kd.string 9 wc w0.heap.size (fun k_ => (P1_ k_ ∨ w.heap.size ≤ k_) ∧ some k_ ≠ ((.slice Ao16 t363.length co16) : Value).ownBlock) (.slice (some ad362) l1.length co14) l1) ∧ Aside0 (Kd.R Kd.string 9 wc w0.heap.size (fun k_ => (P1_ k_ ∨ w.heap.size ≤ k_) ∧ some k_ ≠ ((.slice (some ad362) l1.length co14) : Value).ownBlock) (.slice Ao16 t363.length co16) t363) ∧ Aside0 (Kept w wc (fun k_ => P1_ k_)) ∧ Aside0 (Below w0.heap.size w0 wc))
               case first =>
                have H := HC20.out
                clear HC20
                by_cases c21 : 0 ≤ x8_1
                · rw [if_pos c21] at H
                  have c21b0 : decide (0 ≤ x8_1) = true := decide_eq_true c21
                  clear c21
                  (first | rw [c21b0] | (simp only [i64_w, i32_w]; rw [c21b0]) | skip)
                  by_cases c22 : x8_1 < (t363.length : Int)
                  · rw [if_pos c22] at H
                    have c22b0 : decide (x8_1 < (t363.length : Int)) = true := decide_eq_true c22
                    clear c22
                    replace H := Option.bind_eq_some_iff.mp H
                    obtain ⟨t369, A230, H⟩ := H
                    replace H : (if t369 = true then (lazycref10_paths.j2 kj16 l0 l1 a2 t363 x8_1 true) else (if 0 < (l1.length : Int) then ((lazycref10_back.f kj16 l0 (rdOf ByteArray.empty t363 x8_1) (rdOf ByteArray.empty l1 0) (wrap64 ((wrap64 (a2 - (l1.length : Int))) - 1))).bind fun t372 => (lazycref10_paths.j2 kj16 l0 l1 a2 t363 x8_1 (!t372))) else (none))) = some r := H
                    have A23 := aM A230
                    clear A230
                    by_cases c24 : t369 = true
                    · subst c24
                      have H1 : (lazycref10_paths.j2 kj16 l0 l1 a2 t363 x8_1 true) = some r := by rw [if_pos rfl] at H; exact H
                      clear H
                      have H := H1
                      clear H1
                      have H' := aM H
                      clear H
                      try go_wp2
                      replace HO_1 := aM (Kd.R_drew HO_1.out)
                      replace HO_7 := aM (Kd.R_drew HO_7.out)
                      replace HK := aM (Kept.drew HK.out)
                      replace HB := aM (below_drew1 HB.out)
                      have p368 : 0 ≤ (x8_1 : Int) := dt
                      have q368 : x8_1 < (t363.length : Int) := dt
                      obtain ⟨ad368, e368, hx368_0⟩ := Kd.at_string (Kd.R_reads' HO_7.out).2.2 x8_1 p368 q368
                      cases e368
                      replace p368 := eq_true p368
                      replace q368 := eq_true q368
                      refine start_ (n := 23) (S := fun w' => w'.cell? (ad368.add (x8_1).toNat) = some (.string (rdOf ByteArray.empty t363 x8_1))) (ds := []) #[false, false, false, false, false, false, false, false, false, false, false, false, false, false, false, false, false, false, false, false, false, false, false] (by kernel_rfl) rfl rfl (hx368_0) (fun hHeld => ?_); refine with_tabW lazycref10_paths.tab7 lazycref10_paths.bits7 (fun HT_ HW_ => ?_)
                      generalize wc.drew = w25 at HO_1 HO_7 HK HB hx368_0 hHeld ⊢
                      refine pure_ (i := 0) (N := some 37) (v := ?_) (a' := ?_) #[true, false, false, false, false, false, false, false, false, false, false, false, false, false, false, false, false, false, false, false, false, false, false] rfl rfl (any_of HT_.out (by kernel_rfl)) (fun _ _ _ h => h) (Or.inl ⟨by rfl, ?_⟩) ?_ ?_
                      rotate_left
                      · intro w'
                        go_simp
                        with_reducible rfl
                      rotate_left
                      · simp only [Act.put, sA, sZ, sS, i64_w, i32_w]
                        rfl
                      refine pure_ (i := 1) (N := some 38) (v := ?_) (a' := ?_) #[true, true, false, false, false, false, false, false, false, false, false, false, false, false, false, false, false, false, false, false, false, false, false] rfl rfl (any_of HT_.out (by kernel_rfl)) (fun _ _ _ h => h) (Or.inl ⟨by rfl, ?_⟩) ?_ ?_
                      rotate_left
                      · intro w'
                        go_simp
                        with_reducible rfl
                      rotate_left
                      · simp only [Act.put, sA, sZ, sS, i64_w, i32_w]
                        rfl
                      refine pure_ (i := 2) (N := some 39) (v := ?_) (a' := ?_) #[true, true, true, false, false, false, false, false, false, false, false, false, false, false, false, false, false, false, false, false, false, false, false] rfl rfl (any_of HT_.out (by kernel_rfl)) (fun _ _ _ h => h) (Or.inl ⟨by rfl, ?_⟩) ?_ ?_
                      rotate_left
                      · intro w'
                        go_simp
                        with_reducible rfl
                      rotate_left
                      · simp only [Act.put, sA, sZ, sS, i64_w, i32_w]
                        rfl
                      refine pure_ (i := 3) (N := some 40) (v := ?_) (a' := ?_) #[true, true, true, true, false, false, false, false, false, false, false, false, false, false, false, false, false, false, false, false, false, false, false] rfl rfl (any_of HT_.out (by kernel_rfl)) (fun _ _ _ h => h) (Or.inl ⟨by rfl, ?_⟩) ?_ ?_
                      rotate_left
                      · intro w'
                        go_simp
                        with_reducible rfl
                      rotate_left
                      · simp only [Act.put, sA, sZ, sS, i64_w, i32_w]
                        rfl
                      refine take_ (i := 4) (N := some 41) (v := ?_) (a' := ?_) #[true, true, true, true, true, false, false, false, false, false, false, false, false, false, false, false, false, false, false, false, false, false, false] rfl rfl (take_ofW HT_.out HW_.out (by kernel_rfl)) (fun _ _ _ h => h) (Or.inl ⟨by rfl, ?_⟩) hHeld ?_ ?_
                      rotate_left
                      · intro w' s0
                        go_simp
                        with_reducible rfl
                      rotate_left
                      · simp only [Act.put, sA, sZ, sS, i64_w, i32_w]
                        rfl
                      refine one_ (i := 5) (N := some 42) #[true, true, true, true, true, true, false, false, false, false, false, false, false, false, false, false, false, false, false, false, false, false, false] rfl rfl (one_of HT_.out (by kernel_rfl)) (by decide) (fun K hK => ?_)
                      refine goes_ Try.func21 (by kernel_rfl) rfl #[.slice (some ad362) l1.length co14, .string (rdOf ByteArray.empty t363 x8_1)] (by rfl) rfl rfl (by (try simp only [List.map_toArray, List.map_cons, List.map_nil]); first | done | rfl | (simp only [List.length_drop, List.length_take]; rfl)) ?_
                      with_reducible refine (lazycref01_Has.calls kj16 _ _ l1 (rdOf ByteArray.empty t363 x8_1) true _ ?side1 ?side2 A23.out).mono ?_
                      (case side1 => exact cr HO_1)
                      (case side2 => exact (Kd.R_reads' HO_1.out).2.1)
                      rintro e w' ⟨rfl, ⟨nd, rfl⟩⟩
                      refine ⟨_, rfl, ?_⟩
                      refine hK.out _ _ (hHeld) (fun hHeld => ?_)
                      clear hK K
                      refine norm_ (a' := ?_) ?_ ?_
                      rotate_left
                      · show Act.put _ (some 42) _ = _
                        simp only [Act.put, sA, sZ, sS, i64_w, i32_w]
                        rfl
                      refine pure_ (i := 6) (N := some 43) (v := ?_) (a' := ?_) #[true, true, true, true, true, true, true, false, false, false, false, false, false, false, false, false, false, false, false, false, false, false, false] rfl rfl (any_of HT_.out (by kernel_rfl)) (fun _ _ _ h => h) (Or.inl ⟨by rfl, ?_⟩) ?_ ?_
                      rotate_left
                      · intro w'
                        go_simp
                        with_reducible rfl
                      rotate_left
                      · simp only [Act.put, sA, sZ, sS, i64_w, i32_w]
                        rfl
                      refine pure_ (i := 7) (N := some 44) (v := undef) (a' := ?_) #[true, true, true, true, true, true, true, true, false, false, false, false, false, false, false, false, false, false, false, false, false, false, false] rfl rfl (any_of HT_.out (by kernel_rfl)) (fun _ _ _ h => h) (Or.inr ⟨by rfl, rfl⟩) ?_ ?_
                      rotate_left
                      · simp only [Act.put, sA, sZ, sS, i64_w, i32_w]
                        rfl
                      refine pure_ (i := 8) (N := some 45) (v := undef) (a' := ?_) #[true, true, true, true, true, true, true, true, true, false, false, false, false, false, false, false, false, false, false, false, false, false, false] rfl rfl (any_of HT_.out (by kernel_rfl)) (fun _ _ _ h => h) (Or.inr ⟨by rfl, rfl⟩) ?_ ?_
                      rotate_left
                      · simp only [Act.put, sA, sZ, sS, i64_w, i32_w]
                        rfl
                      refine pure_ (i := 9) (N := some 46) (v := undef) (a' := ?_) #[true, true, true, true, true, true, true, true, true, true, false, false, false, false, false, false, false, false, false, false, false, false, false] rfl rfl (any_of HT_.out (by kernel_rfl)) (fun _ _ _ h => h) (Or.inr ⟨by rfl, rfl⟩) ?_ ?_
                      rotate_left
                      · simp only [Act.put, sA, sZ, sS, i64_w, i32_w]
                        rfl
                      refine pure_ (i := 10) (N := some 47) (v := undef) (a' := ?_) #[true, true, true, true, true, true, true, true, true, true, true, false, false, false, false, false, false, false, false, false, false, false, false] rfl rfl (any_of HT_.out (by kernel_rfl)) (fun _ _ _ h => h) (Or.inr ⟨by rfl, rfl⟩) ?_ ?_
                      rotate_left
                      · simp only [Act.put, sA, sZ, sS, i64_w, i32_w]
                        rfl
                      refine pure_ (i := 11) (N := some 48) (v := undef) (a' := ?_) #[true, true, true, true, true, true, true, true, true, true, true, true, false, false, false, false, false, false, false, false, false, false, false] rfl rfl (any_of HT_.out (by kernel_rfl)) (fun _ _ _ h => h) (Or.inr ⟨by rfl, rfl⟩) ?_ ?_
                      rotate_left
                      · simp only [Act.put, sA, sZ, sS, i64_w, i32_w]
                        rfl
                      refine pure_ (i := 12) (N := some 49) (v := undef) (a' := ?_) #[true, true, true, true, true, true, true, true, true, true, true, true, true, false, false, false, false, false, false, false, false, false, false] rfl rfl (any_of HT_.out (by kernel_rfl)) (fun _ _ _ h => h) (Or.inr ⟨by rfl, rfl⟩) ?_ ?_
                      rotate_left
                      · simp only [Act.put, sA, sZ, sS, i64_w, i32_w]
                        rfl
                      refine pure_ (i := 13) (N := some 50) (v := undef) (a' := ?_) #[true, true, true, true, true, true, true, true, true, true, true, true, true, true, false, false, false, false, false, false, false, false, false] rfl rfl (any_of HT_.out (by kernel_rfl)) (fun _ _ _ h => h) (Or.inr ⟨by rfl, rfl⟩) ?_ ?_
                      rotate_left
                      · simp only [Act.put, sA, sZ, sS, i64_w, i32_w]
                        rfl
                      refine pure_ (i := 14) (N := some 51) (v := undef) (a' := ?_) #[true, true, true, true, true, true, true, true, true, true, true, true, true, true, true, false, false, false, false, false, false, false, false] rfl rfl (any_of HT_.out (by kernel_rfl)) (fun _ _ _ h => h) (Or.inr ⟨by rfl, rfl⟩) ?_ ?_
                      rotate_left
                      · simp only [Act.put, sA, sZ, sS, i64_w, i32_w]
                        rfl
                      refine pure_ (i := 15) (N := some 52) (v := undef) (a' := ?_) #[true, true, true, true, true, true, true, true, true, true, true, true, true, true, true, true, false, false, false, false, false, false, false] rfl rfl (any_of HT_.out (by kernel_rfl)) (fun _ _ _ h => h) (Or.inr ⟨by rfl, rfl⟩) ?_ ?_
                      rotate_left
                      · simp only [Act.put, sA, sZ, sS, i64_w, i32_w]
                        rfl
                      refine pure_ (i := 16) (N := some 53) (v := undef) (a' := ?_) #[true, true, true, true, true, true, true, true, true, true, true, true, true, true, true, true, true, false, false, false, false, false, false] rfl rfl (any_of HT_.out (by kernel_rfl)) (fun _ _ _ h => h) (Or.inr ⟨by rfl, rfl⟩) ?_ ?_
                      rotate_left
                      · simp only [Act.put, sA, sZ, sS, i64_w, i32_w]
                        rfl
                      refine pure_ (i := 17) (N := some 54) (v := undef) (a' := ?_) #[true, true, true, true, true, true, true, true, true, true, true, true, true, true, true, true, true, true, false, false, false, false, false] rfl rfl (any_of HT_.out (by kernel_rfl)) (fun _ _ _ h => h) (Or.inr ⟨by rfl, rfl⟩) ?_ ?_
                      rotate_left
                      · simp only [Act.put, sA, sZ, sS, i64_w, i32_w]
                        rfl
                      refine pure_ (i := 18) (N := some 55) (v := undef) (a' := ?_) #[true, true, true, true, true, true, true, true, true, true, true, true, true, true, true, true, true, true, true, false, false, false, false] rfl rfl (any_of HT_.out (by kernel_rfl)) (fun _ _ _ h => h) (Or.inr ⟨by rfl, rfl⟩) ?_ ?_
                      rotate_left
                      · simp only [Act.put, sA, sZ, sS, i64_w, i32_w]
                        rfl
                      refine pure_ (i := 19) (N := some 56) (v := undef) (a' := ?_) #[true, true, true, true, true, true, true, true, true, true, true, true, true, true, true, true, true, true, true, true, false, false, false] rfl rfl (any_of HT_.out (by kernel_rfl)) (fun _ _ _ h => h) (Or.inr ⟨by rfl, rfl⟩) ?_ ?_
                      rotate_left
                      · simp only [Act.put, sA, sZ, sS, i64_w, i32_w]
                        rfl
                      refine pure_ (i := 20) (N := some 57) (v := undef) (a' := ?_) #[true, true, true, true, true, true, true, true, true, true, true, true, true, true, true, true, true, true, true, true, true, false, false] rfl rfl (any_of HT_.out (by kernel_rfl)) (fun _ _ _ h => h) (Or.inr ⟨by rfl, rfl⟩) ?_ ?_
                      rotate_left
                      · simp only [Act.put, sA, sZ, sS, i64_w, i32_w]
                        rfl
                      refine pure_ (i := 21) (N := some 58) (v := undef) (a' := ?_) #[true, true, true, true, true, true, true, true, true, true, true, true, true, true, true, true, true, true, true, true, true, true, false] rfl rfl (any_of HT_.out (by kernel_rfl)) (fun _ _ _ h => h) (Or.inr ⟨by rfl, rfl⟩) ?_ ?_
                      rotate_left
                      · simp only [Act.put, sA, sZ, sS, i64_w, i32_w]
                        rfl
                      refine pure_ (i := 22) (N := some 59) (v := ?_) (a' := ?_) #[true, true, true, true, true, true, true, true, true, true, true, true, true, true, true, true, true, true, true, true, true, true, true] rfl rfl (any_of HT_.out (by kernel_rfl)) (fun _ _ _ h => h) (Or.inl ⟨by rfl, ?_⟩) ?_ ?_
                      rotate_left
                      · intro w'
                        go_simp
                        with_reducible rfl
                      rotate_left
                      · simp only [Act.put, sA, sZ, sS, i64_w, i32_w]
                        rfl
                      refine done_ (done_of HT_.out (by kernel_rfl)) ?_
                      try go_wp2
                      go_meet
                      case rel => exact ⟨_, (true), (by first | rfl | (simp; done) | (simp [*]; done)), H', ⟨by have := HK1.out; have := HJ16.out; first | omega | exact Nat.le_refl _⟩, ⟨rk HO_1⟩, ⟨rk HO_7⟩, ⟨by repeat (first | (with_reducible first | exact HK.out | apply Kept.alloc | apply Kept.drewN | apply Kept.drew) | exact HK.out)⟩, ⟨hh HB⟩⟩
                    · replace c24 := Bool.eq_false_iff.mpr c24
                      subst c24
                      have H1 : (if 0 < (l1.length : Int) then ((lazycref10_back.f kj16 l0 (rdOf ByteArray.empty t363 x8_1) (rdOf ByteArray.empty l1 0) (wrap64 ((wrap64 (a2 - (l1.length : Int))) - 1))).bind fun t372 => (lazycref10_paths.j2 kj16 l0 l1 a2 t363 x8_1 (!t372))) else (none)) = some r := by rw [if_neg (show ¬ (false = true) by decide)] at H; exact H
                      clear H
                      have H := H1
                      clear H1
                      by_cases c26 : 0 < (l1.length : Int)
                      · rw [if_pos c26] at H
                        have c26b0 : decide (0 < (l1.length : Int)) = true := decide_eq_true c26
                        have c26b1 : decide (0 < l1.length) = true := decide_eq_true (by omega)
                        clear c26
                        replace H := Option.bind_eq_some_iff.mp H
                        obtain ⟨t372, A270, H⟩ := H
                        replace H : (lazycref10_paths.j2 kj16 l0 l1 a2 t363 x8_1 (!t372)) = some r := H
                        have A27 := aM A270
                        clear A270
                        have H' := aM H
                        clear H
                        try go_wp2
                        replace HO_1 := aM (Kd.R_drew HO_1.out)
                        replace HO_7 := aM (Kd.R_drew HO_7.out)
                        replace HK := aM (Kept.drew HK.out)
                        replace HB := aM (below_drew1 HB.out)
                        have p368 : 0 ≤ (x8_1 : Int) := dt
                        have q368 : x8_1 < (t363.length : Int) := dt
                        obtain ⟨ad368, e368, hx368_0⟩ := Kd.at_string (Kd.R_reads' HO_7.out).2.2 x8_1 p368 q368
                        cases e368
                        replace p368 := eq_true p368
                        replace q368 := eq_true q368
                        have p370 : 0 ≤ (x8_1 : Int) := dt
                        have q370 : x8_1 < (t363.length : Int) := dt
                        obtain ⟨ad370, e370, hx370_0⟩ := Kd.at_string (Kd.R_reads' HO_7.out).2.2 x8_1 p370 q370
                        obtain rfl : ad368 = ad370 := (by injection e370)
                        replace p370 := eq_true p370
                        replace q370 := eq_true q370
                        have p371 : 0 ≤ (0 : Int) := (by omega)
                        have q371 : 0 < (l1.length : Int) := dt
                        obtain ⟨ad371, e371, hx371_0⟩ := Kd.at_string (Kd.R_reads' HO_1.out).2.2 0 p371 q371
                        obtain rfl : ad362 = ad371 := (by injection e371)
                        have qi371 : (0 < l1.length) = True := eq_true (by omega)
                        (try rw [show ((0 : Int)).toNat = 0 from rfl] at hx371_0)
                        (try rw [Addr.add_zero'] at hx371_0)
                        replace p371 := eq_true p371
                        replace q371 := eq_true q371
                        refine start_ (n := 23) (S := fun w' => w'.cell? (ad368.add (x8_1).toNat) = some (.string (rdOf ByteArray.empty t363 x8_1)) ∧ w'.cell? (ad368.add (x8_1).toNat) = some (.string (rdOf ByteArray.empty t363 x8_1)) ∧ w'.cell? ad362 = some (.string (rdOf ByteArray.empty l1 0))) (ds := []) #[false, false, false, false, false, false, false, false, false, false, false, false, false, false, false, false, false, false, false, false, false, false, false] (by kernel_rfl) rfl rfl ⟨hx368_0, hx370_0, hx371_0⟩ (fun hHeld => ?_); refine with_tabW lazycref10_paths.tab7 lazycref10_paths.bits7 (fun HT_ HW_ => ?_)
                        generalize wc.drew = w28 at HO_1 HO_7 HK HB hx368_0 hx370_0 hx371_0 hHeld ⊢
                        refine pure_ (i := 0) (N := some 37) (v := ?_) (a' := ?_) #[true, false, false, false, false, false, false, false, false, false, false, false, false, false, false, false, false, false, false, false, false, false, false] rfl rfl (any_of HT_.out (by kernel_rfl)) (fun _ _ _ h => h) (Or.inl ⟨by rfl, ?_⟩) ?_ ?_
                        rotate_left
                        · intro w'
                          go_simp
                          with_reducible rfl
                        rotate_left
                        · simp only [Act.put, sA, sZ, sS, i64_w, i32_w]
                          rfl
                        refine pure_ (i := 1) (N := some 38) (v := ?_) (a' := ?_) #[true, true, false, false, false, false, false, false, false, false, false, false, false, false, false, false, false, false, false, false, false, false, false] rfl rfl (any_of HT_.out (by kernel_rfl)) (fun _ _ _ h => h) (Or.inl ⟨by rfl, ?_⟩) ?_ ?_
                        rotate_left
                        · intro w'
                          go_simp
                          with_reducible rfl
                        rotate_left
                        · simp only [Act.put, sA, sZ, sS, i64_w, i32_w]
                          rfl
                        refine pure_ (i := 2) (N := some 39) (v := ?_) (a' := ?_) #[true, true, true, false, false, false, false, false, false, false, false, false, false, false, false, false, false, false, false, false, false, false, false] rfl rfl (any_of HT_.out (by kernel_rfl)) (fun _ _ _ h => h) (Or.inl ⟨by rfl, ?_⟩) ?_ ?_
                        rotate_left
                        · intro w'
                          go_simp
                          with_reducible rfl
                        rotate_left
                        · simp only [Act.put, sA, sZ, sS, i64_w, i32_w]
                          rfl
                        refine pure_ (i := 3) (N := some 40) (v := ?_) (a' := ?_) #[true, true, true, true, false, false, false, false, false, false, false, false, false, false, false, false, false, false, false, false, false, false, false] rfl rfl (any_of HT_.out (by kernel_rfl)) (fun _ _ _ h => h) (Or.inl ⟨by rfl, ?_⟩) ?_ ?_
                        rotate_left
                        · intro w'
                          go_simp
                          with_reducible rfl
                        rotate_left
                        · simp only [Act.put, sA, sZ, sS, i64_w, i32_w]
                          rfl
                        refine take_ (i := 4) (N := some 41) (v := ?_) (a' := ?_) #[true, true, true, true, true, false, false, false, false, false, false, false, false, false, false, false, false, false, false, false, false, false, false] rfl rfl (take_ofW HT_.out HW_.out (by kernel_rfl)) (fun _ _ _ h => h) (Or.inl ⟨by rfl, ?_⟩) hHeld ?_ ?_
                        rotate_left
                        · rintro w' ⟨s0, s1, s2⟩
                          go_simp
                          with_reducible rfl
                        rotate_left
                        · simp only [Act.put, sA, sZ, sS, i64_w, i32_w]
                          rfl
                        refine one_ (i := 5) (N := some 42) #[true, true, true, true, true, true, false, false, false, false, false, false, false, false, false, false, false, false, false, false, false, false, false] rfl rfl (one_of HT_.out (by kernel_rfl)) (by decide) (fun K hK => ?_)
                        refine goes_ Try.func21 (by kernel_rfl) rfl #[.slice (some ad362) l1.length co14, .string (rdOf ByteArray.empty t363 x8_1)] (by rfl) rfl rfl (by (try simp only [List.map_toArray, List.map_cons, List.map_nil]); first | done | rfl | (simp only [List.length_drop, List.length_take]; rfl)) ?_
                        with_reducible refine (lazycref01_Has.calls kj16 _ _ l1 (rdOf ByteArray.empty t363 x8_1) false _ ?side1 ?side2 A23.out).mono ?_
                        (case side1 => exact cr HO_1)
                        (case side2 => exact (Kd.R_reads' HO_1.out).2.1)
                        rintro e w' ⟨rfl, ⟨nd, rfl⟩⟩
                        refine ⟨_, rfl, ?_⟩
                        refine hK.out _ _ ⟨hHeld.1, hHeld.2.1, hHeld.2.2⟩ (fun hHeld => ?_)
                        clear hK K
                        refine norm_ (a' := ?_) ?_ ?_
                        rotate_left
                        · show Act.put _ (some 42) _ = _
                          simp only [Act.put, sA, sZ, sS, i64_w, i32_w]
                          rfl
                        refine pure_ (i := 6) (N := some 43) (v := ?_) (a' := ?_) #[true, true, true, true, true, true, true, false, false, false, false, false, false, false, false, false, false, false, false, false, false, false, false] rfl rfl (any_of HT_.out (by kernel_rfl)) (fun _ _ _ h => h) (Or.inl ⟨by rfl, ?_⟩) ?_ ?_
                        rotate_left
                        · intro w'
                          go_simp
                          with_reducible rfl
                        rotate_left
                        · simp only [Act.put, sA, sZ, sS, i64_w, i32_w]
                          rfl
                        refine pure_ (i := 7) (N := some 44) (v := ?_) (a' := ?_) #[true, true, true, true, true, true, true, true, false, false, false, false, false, false, false, false, false, false, false, false, false, false, false] rfl rfl (any_of HT_.out (by kernel_rfl)) (fun _ _ _ h => h) (Or.inl ⟨by rfl, ?_⟩) ?_ ?_
                        rotate_left
                        · intro w'
                          go_simp
                          with_reducible rfl
                        rotate_left
                        · simp only [Act.put, sA, sZ, sS, i64_w, i32_w]
                          rfl
                        refine pure_ (i := 8) (N := some 45) (v := ?_) (a' := ?_) #[true, true, true, true, true, true, true, true, true, false, false, false, false, false, false, false, false, false, false, false, false, false, false] rfl rfl (any_of HT_.out (by kernel_rfl)) (fun _ _ _ h => h) (Or.inl ⟨by rfl, ?_⟩) ?_ ?_
                        rotate_left
                        · intro w'
                          go_simp
                          with_reducible rfl
                        rotate_left
                        · simp only [Act.put, sA, sZ, sS, i64_w, i32_w]
                          rfl
                        refine pure_ (i := 9) (N := some 46) (v := ?_) (a' := ?_) #[true, true, true, true, true, true, true, true, true, true, false, false, false, false, false, false, false, false, false, false, false, false, false] rfl rfl (any_of HT_.out (by kernel_rfl)) (fun _ _ _ h => h) (Or.inl ⟨by rfl, ?_⟩) ?_ ?_
                        rotate_left
                        · intro w'
                          go_simp
                          with_reducible rfl
                        rotate_left
                        · simp only [Act.put, sA, sZ, sS, i64_w, i32_w]
                          rfl
                        refine pure_ (i := 10) (N := some 47) (v := ?_) (a' := ?_) #[true, true, true, true, true, true, true, true, true, true, true, false, false, false, false, false, false, false, false, false, false, false, false] rfl rfl (any_of HT_.out (by kernel_rfl)) (fun _ _ _ h => h) (Or.inl ⟨by rfl, ?_⟩) ?_ ?_
                        rotate_left
                        · intro w'
                          go_simp
                          with_reducible rfl
                        rotate_left
                        · simp only [Act.put, sA, sZ, sS, i64_w, i32_w]
                          rfl
                        refine pure_ (i := 12) (N := some 49) (v := ?_) (a' := ?_) #[true, true, true, true, true, true, true, true, true, true, true, false, true, false, false, false, false, false, false, false, false, false, false] rfl rfl (any_of HT_.out (by kernel_rfl)) (fun _ _ _ h => h) (Or.inl ⟨by rfl, ?_⟩) ?_ ?_
                        rotate_left
                        · intro w'
                          go_simp
                          with_reducible rfl
                        rotate_left
                        · simp only [Act.put, sA, sZ, sS, i64_w, i32_w]
                          rfl
                        refine pure_ (i := 13) (N := some 50) (v := ?_) (a' := ?_) #[true, true, true, true, true, true, true, true, true, true, true, false, true, true, false, false, false, false, false, false, false, false, false] rfl rfl (any_of HT_.out (by kernel_rfl)) (fun _ _ _ h => h) (Or.inl ⟨by rfl, ?_⟩) ?_ ?_
                        rotate_left
                        · intro w'
                          go_simp
                          with_reducible rfl
                        rotate_left
                        · simp only [Act.put, sA, sZ, sS, i64_w, i32_w]
                          rfl
                        refine pure_ (i := 15) (N := some 52) (v := ?_) (a' := ?_) #[true, true, true, true, true, true, true, true, true, true, true, false, true, true, false, true, false, false, false, false, false, false, false] rfl rfl (any_of HT_.out (by kernel_rfl)) (fun _ _ _ h => h) (Or.inl ⟨by rfl, ?_⟩) ?_ ?_
                        rotate_left
                        · intro w'
                          go_simp
                          with_reducible rfl
                        rotate_left
                        · simp only [Act.put, sA, sZ, sS, i64_w, i32_w]
                          rfl
                        refine pure_ (i := 16) (N := some 53) (v := ?_) (a' := ?_) #[true, true, true, true, true, true, true, true, true, true, true, false, true, true, false, true, true, false, false, false, false, false, false] rfl rfl (any_of HT_.out (by kernel_rfl)) (fun _ _ _ h => h) (Or.inl ⟨by rfl, ?_⟩) ?_ ?_
                        rotate_left
                        · intro w'
                          go_simp
                          with_reducible rfl
                        rotate_left
                        · simp only [Act.put, sA, sZ, sS, i64_w, i32_w]
                          rfl
                        refine pure_ (i := 17) (N := some 54) (v := ?_) (a' := ?_) #[true, true, true, true, true, true, true, true, true, true, true, false, true, true, false, true, true, true, false, false, false, false, false] rfl rfl (any_of HT_.out (by kernel_rfl)) (fun _ _ _ h => h) (Or.inl ⟨by rfl, ?_⟩) ?_ ?_
                        rotate_left
                        · intro w'
                          go_simp
                          with_reducible rfl
                        rotate_left
                        · simp only [Act.put, sA, sZ, sS, i64_w, i32_w]
                          rfl
                        refine pure_ (i := 18) (N := some 55) (v := ?_) (a' := ?_) #[true, true, true, true, true, true, true, true, true, true, true, false, true, true, false, true, true, true, true, false, false, false, false] rfl rfl (any_of HT_.out (by kernel_rfl)) (fun _ _ _ h => h) (Or.inl ⟨by rfl, ?_⟩) ?_ ?_
                        rotate_left
                        · intro w'
                          go_simp
                          with_reducible rfl
                        rotate_left
                        · simp only [Act.put, sA, sZ, sS, i64_w, i32_w]
                          rfl
                        refine pure_ (i := 19) (N := some 56) (v := ?_) (a' := ?_) #[true, true, true, true, true, true, true, true, true, true, true, false, true, true, false, true, true, true, true, true, false, false, false] rfl rfl (any_of HT_.out (by kernel_rfl)) (fun _ _ _ h => h) (Or.inl ⟨by rfl, ?_⟩) ?_ ?_
                        rotate_left
                        · intro w'
                          go_simp
                          with_reducible rfl
                        rotate_left
                        · simp only [Act.put, sA, sZ, sS, i64_w, i32_w]
                          rfl
                        refine take_ (i := 11) (N := some 48) (v := ?_) (a' := ?_) #[true, true, true, true, true, true, true, true, true, true, true, true, true, true, false, true, true, true, true, true, false, false, false] rfl rfl (take_ofW HT_.out HW_.out (by kernel_rfl)) (fun _ _ _ h => h) (Or.inl ⟨by rfl, ?_⟩) hHeld ?_ ?_
                        rotate_left
                        · rintro w' ⟨s0, s1, s2⟩
                          go_simp
                          with_reducible rfl
                        rotate_left
                        · simp only [Act.put, sA, sZ, sS, i64_w, i32_w]
                          rfl
                        refine take_ (i := 14) (N := some 51) (v := ?_) (a' := ?_) #[true, true, true, true, true, true, true, true, true, true, true, true, true, true, true, true, true, true, true, true, false, false, false] rfl rfl (take_ofW HT_.out HW_.out (by kernel_rfl)) (fun _ _ _ h => h) (Or.inl ⟨by rfl, ?_⟩) hHeld ?_ ?_
                        rotate_left
                        · rintro w' ⟨s0, s1, s2⟩
                          go_simp
                          with_reducible rfl
                        rotate_left
                        · simp only [Act.put, sA, sZ, sS, i64_w, i32_w]
                          rfl
                        refine one_ (i := 20) (N := some 57) #[true, true, true, true, true, true, true, true, true, true, true, true, true, true, true, true, true, true, true, true, true, false, false] rfl rfl (one_of HT_.out (by kernel_rfl)) (by decide) (fun K hK => ?_)
                        refine goes_ Try.func49 (by kernel_rfl) rfl #[.slice A0 l0.length c0, .string (rdOf ByteArray.empty t363 x8_1), .string (rdOf ByteArray.empty l1 0), .int .i64 (wrap64 ((wrap64 (a2 - (l1.length : Int))) - 1))] (by rfl) rfl rfl (by (try simp only [List.map_toArray, List.map_cons, List.map_nil]); first | done | rfl | (simp only [List.length_drop, List.length_take]; rfl)) ?_
                        with_reducible refine (lazycref10_back.calls kj16 _ _ l0 (rdOf ByteArray.empty t363 x8_1) (rdOf ByteArray.empty l1 0) (wrap64 ((wrap64 (a2 - (l1.length : Int))) - 1)) t372 _ ?side1 ?side2 A27.out).mono ?_
                        (case side1 => exact Kd.C_kept_now HR0.out (by repeat (first | (with_reducible first | exact HK.out | apply Kept.alloc | apply Kept.drewN | apply Kept.drew) | exact HK.out)))
                        (case side2 => exact HC0.out)
                        rintro e w29 ⟨rfl, hb⟩
                        have HS0_ := (hb.cell (World.block_lt_of_cell? _ _ (hHeld.1))).trans (hHeld.1)
                        have HS1_ := (hb.cell (World.block_lt_of_cell? _ _ (hHeld.2.1))).trans (hHeld.2.1)
                        have HS2_ := (hb.cell (World.block_lt_of_cell? _ _ (hHeld.2.2))).trans (hHeld.2.2)
                        refine ⟨_, rfl, ?_⟩
                        replace HO_1 := rb HO_1 hb
                        replace HO_7 := rb HO_7 hb
                        replace HK := aM (Kept.below (S := (fun k_ => P1_ k_)) (by repeat (first | (with_reducible first | exact HK.out | apply Kept.alloc | apply Kept.drewN | apply Kept.drew) | exact HK.out)) hb)
                        replace HB := bs HB hb
                        (try clear hb)
                        (try clear hb2)
                        (try clear hk)
                        (try clear hi)
                        refine hK.out _ _ ⟨HS0_, HS1_, HS2_⟩ (fun hHeld => ?_)
                        clear hK K
                        refine norm_ (a' := ?_) ?_ ?_
                        rotate_left
                        · show Act.put _ (some 57) _ = _
                          simp only [Act.put, sA, sZ, sS, i64_w, i32_w]
                          rfl
                        refine pure_ (i := 21) (N := some 58) (v := ?_) (a' := ?_) #[true, true, true, true, true, true, true, true, true, true, true, true, true, true, true, true, true, true, true, true, true, true, false] rfl rfl (any_of HT_.out (by kernel_rfl)) (fun _ _ _ h => h) (Or.inl ⟨by rfl, ?_⟩) ?_ ?_
                        rotate_left
                        · intro w'
                          go_simp
                          with_reducible rfl
                        rotate_left
                        · simp only [Act.put, sA, sZ, sS, i64_w, i32_w]
                          rfl
                        refine pure_ (i := 22) (N := some 59) (v := ?_) (a' := ?_) #[true, true, true, true, true, true, true, true, true, true, true, true, true, true, true, true, true, true, true, true, true, true, true] rfl rfl (any_of HT_.out (by kernel_rfl)) (fun _ _ _ h => h) (Or.inl ⟨by rfl, ?_⟩) ?_ ?_
                        rotate_left
                        · intro w'
                          go_simp
                          with_reducible rfl
                        rotate_left
                        · simp only [Act.put, sA, sZ, sS, i64_w, i32_w]
                          rfl
                        refine done_ (done_of HT_.out (by kernel_rfl)) ?_
                        try go_wp2
                        go_meet
                        case rel => exact ⟨_, (!t372), (by first | rfl | (simp; done) | (simp [*]; done)), H', ⟨by have := HK1.out; have := HJ16.out; first | omega | exact Nat.le_refl _⟩, ⟨rk HO_1⟩, ⟨rk HO_7⟩, ⟨by repeat (first | (with_reducible first | exact HK.out | apply Kept.alloc | apply Kept.drewN | apply Kept.drew) | exact HK.out)⟩, ⟨hh HB⟩⟩
                      · rw [if_neg c26] at H
                        exact absurd H (by simp)
                  · rw [if_neg c22] at H
                    exact absurd H (by simp)
                · rw [if_neg c21] at H
                  exact absurd H (by simp)
               case rest =>
                clear HC20
                try clear c1
                try clear c2
                try clear p2
                try clear c3
                try clear p3
                try clear q3
                try clear hx3
                try clear qi3
                try clear c4
                try clear c5
                try clear c5b0
                try clear c6
                try clear c6b0
                try clear p6
                try clear c8
                try clear c8b0
                try clear c8b1
                try clear c10
                try clear c18
                try clear c18b0
                try clear c19
                try clear c21
                try clear c21b0
                try clear c22
                try clear c22b0
                try clear c24
                try clear c26
                try clear c26b0
                try clear c26b1
                try clear hx362_0
                try clear hx366_0
                try clear hx368_0
                try clear hx370_0
                try clear hx371_0
                try clear p2
                try clear p3
                try clear p362
                try clear p366
                try clear p368
                try clear p370
                try clear p371
                try clear p6
                try clear q3
                try clear q362
                try clear q366
                try clear q368
                try clear q370
                try clear q371
                obtain ⟨kq, x59_19, rfl, HA, HJ19, HO_1, HO_7, HK, HB⟩ := hcut
                cases kq with
                | zero => exact absurd HA.out (by simp [lazycref10_paths.j2])
                | succ kj19 =>
                 have H := HA.out
                 clear HA
                 simp only [lazycref10_paths.j2] at H
                 by_cases c30 : x59_19 = true
                 · subst c30
                   have H1 : (lazycref10_paths.l0 kj19 l0 l1 a2 t363 (wrap64 (x8_1 + 1))) = some r := by rw [if_pos rfl] at H; exact H
                   clear H
                   have H := H1
                   clear H1
                   have H' := aM H
                   clear H
                   go_wp2
                   go_roundg kj19
                   case measure => have := HK1.out; have := HJ16.out; have := HJ19.out; omega
                   case rel => exact ⟨(wrap64 (x8_1 + 1)), (by first | rfl | (simp; done) | (simp [*]; done)), H', ⟨by have := HK1.out; have := HJ16.out; have := HJ19.out; omega⟩, ⟨rk HO_1⟩, ⟨rk HO_7⟩, ⟨by repeat (first | (with_reducible first | exact HK.out | apply Kept.alloc | apply Kept.drewN | apply Kept.drew) | exact HK.out)⟩, ⟨hh HB⟩⟩
                 · replace c30 := Bool.eq_false_iff.mpr c30
                   subst c30
                   have H1 : (if ([] : List ByteArray).length + l1.length < 8796093022208 then ((some (([] : List ByteArray) ++ l1 : List ByteArray)).bind fun y373 => (if 0 ≤ x8_1 then (if x8_1 < (t363.length : Int) then (if y373.length < 8796093022208 then ((lazycref10_paths.f kj19 l0 (y373 ++ [rdOf ByteArray.empty t363 x8_1]) a2).bind fun t380 => (if (t380.length : Int) > 0 then (some t380) else (lazycref10_paths.l0 kj19 l0 l1 a2 t363 (wrap64 (x8_1 + 1))))) else (none)) else (none)) else (none))) else (none)) = some r := by rw [if_neg (show ¬ (false = true) by decide)] at H; exact H
                   clear H
                   have H := H1
                   clear H1
                   by_cases c31 : ([] : List ByteArray).length + l1.length < 8796093022208
                   · rw [if_pos c31] at H
                     have LMc31 := aM c31
                     clear c31
                     obtain ⟨y373, hy373⟩ : ∃ y_ : List ByteArray, y_ = (([] : List ByteArray) ++ l1) := ⟨_, rfl⟩
                     replace H : (if 0 ≤ x8_1 then (if x8_1 < (t363.length : Int) then (if y373.length < 8796093022208 then ((lazycref10_paths.f kj19 l0 (y373 ++ [rdOf ByteArray.empty t363 x8_1]) a2).bind fun t380 => (if (t380.length : Int) > 0 then (some t380) else (lazycref10_paths.l0 kj19 l0 l1 a2 t363 (wrap64 (x8_1 + 1))))) else (none)) else (none)) else (none)) = some r := by first | (rw [hy373]; with_reducible exact H) | (have H2_ := (Option.bind_some _ _).symm.trans H; rw [hy373]; with_reducible exact H2_) | (have H2_ := (Option.bind_some _ _).symm.trans H; with_reducible exact H2_) | with_reducible exact H | (rw [hy373]; exact H) | exact H
                     have Ny373 := aM hy373
                     clear hy373
                     by_cases c32 : 0 ≤ x8_1
                     · rw [if_pos c32] at H
                       have c32b0 : decide (0 ≤ x8_1) = true := decide_eq_true c32
                       clear c32
                       by_cases c33 : x8_1 < (t363.length : Int)
                       · rw [if_pos c33] at H
                         have c33b0 : decide (x8_1 < (t363.length : Int)) = true := decide_eq_true c33
                         clear c33
                         by_cases c34 : y373.length < 8796093022208
                         · rw [if_pos c34] at H
                           have LMc34 := aM c34
                           clear c34
                           obtain ⟨y377, hy377⟩ : ∃ y_ : List ByteArray, y_ = (y373 ++ [rdOf ByteArray.empty t363 x8_1]) := ⟨_, rfl⟩
                           replace H : ((lazycref10_paths.f kj19 l0 y377 a2).bind fun t380 => (if (t380.length : Int) > 0 then (some t380) else (lazycref10_paths.l0 kj19 l0 l1 a2 t363 (wrap64 (x8_1 + 1))))) = some r := by first | (rw [hy377]; with_reducible exact H) | (have H2_ := (Option.bind_some _ _).symm.trans H; rw [hy377]; with_reducible exact H2_) | (have H2_ := (Option.bind_some _ _).symm.trans H; with_reducible exact H2_) | with_reducible exact H | (rw [hy377]; exact H) | exact H
                           have Ny377 := aM hy377
                           clear hy377
                           replace H := Option.bind_eq_some_iff.mp H
                           obtain ⟨t380, A350, H⟩ := H
                           replace H : (if (t380.length : Int) > 0 then (some t380) else (lazycref10_paths.l0 kj19 l0 l1 a2 t363 (wrap64 (x8_1 + 1)))) = some r := H
                           have A35 := aM A350
                           clear A350
                           by_cases c36 : (t380.length : Int) > 0
                           · rw [if_pos c36] at H
                             have c36b0 : decide (0 < (t380.length : Int)) = true := decide_eq_true c36
                             have c36b1 : decide (0 < t380.length) = true := decide_eq_true (by omega)
                             clear c36
                             obtain rfl := Option.some.inj H
                             go_wp2_with (first | ((with_reducible refine gate_builtin (b := .append) (xs := #[.tmp 60, .tmp 61]) rfl ?_); (try (refine gate_guard (by rfl) ?_; dsimp only)); at_builtin; refine Kd.R_append_rows Kd.string (w0 := w0) w0.heap.size rfl (.tmp 60) (.tmp 61) 25 9 (.string ⟨#[]⟩) 16 rfl Try.underlying25 info9 rfl (by decide) (by omega) (.slice none 0 0) ([] : List ByteArray) l1 _ _ _ (fun k_ => (P1_ k_ ∨ w.heap.size ≤ k_) ∧ some k_ ≠ (.slice (some ad362) l1.length co14 : Value).ownBlock ∧ some k_ ≠ (.slice Ao16 t363.length co16 : Value).ownBlock) (fun _ => False) rfl rfl ?aO ?aR (fun _ _ h => h) (fun _ h => h.elim) ?aF ?aB ?aS ?aL ?_; (case aR => exact cr HO_1); (case aB => exact (hh HB)); (case aF => exact (fun k_ hk => ⟨(.inr (Nat.le_trans (by first | exact HK.out.1 | exact (show Kept w _ (fun k_ => P1_ k_) from by repeat (first | (with_reducible first | exact HK.out | apply Kept.alloc | apply Kept.drewN | apply Kept.drew) | exact HK.out)).1) hk)), Kd.fresh' (Kd.R_lt (rk HO_1)) k_ hk, Kd.fresh' (Kd.R_lt (rk HO_7)) k_ hk⟩)); (case aO => exact ((Kd.R_nil _ _ _ _ (fun k_ => (P1_ k_ ∨ w.heap.size ≤ k_) ∧ some k_ ≠ (.slice (some ad362) l1.length co14 : Value).ownBlock ∧ some k_ ≠ (.slice Ao16 t363.length co16 : Value).ownBlock)))); (case aS => exact (below_size (hh HB))); (case aL => have := LMc31.out; omega); intro v374 w37 ho hb hg hat; rw [← Ny373.out] at ho; have HO375 := aM (ho); replace HO_1 := aM (Kd.R_after (Kd.R_apart_nil (rk HO_1)) hg hat); replace HO_7 := aM (Kd.R_after (Kd.R_apart_nil (rk HO_7)) hg hat); replace HB := aM (hb); replace HK := aM (Kept.of_grown (S := (fun k_ => P1_ k_)) hg (by repeat (first | (with_reducible first | exact HK.out | apply Kept.alloc | apply Kept.drewN | apply Kept.drew) | exact HK.out)) (fun k_ e_ => by simp [Value.ownBlock] at e_)); clear ho hb hg hat; have p376 : 0 ≤ (x8_1 : Int) := dt; have q376 : x8_1 < (t363.length : Int) := dt; obtain ⟨ad376, e376, hx376_0⟩ := Kd.at_string (Kd.R_reads' HO_7.out).2.2 x8_1 p376 q376; cases e376; replace p376 := eq_true p376; replace q376 := eq_true q376) | ((with_reducible refine gate_builtin (b := .append) (xs := #[.tmp 63, .tmp 68]) rfl ?_); (try (refine gate_guard (by rfl) ?_; dsimp only)); at_builtin; refine Kd.R_append Kd.string (w0 := w0) w0.heap.size rfl (.tmp 63) (.tmp 68) 25 9 (.string ⟨#[]⟩) 16 rfl Try.underlying25 info9 rfl (by decide) (by omega) v374 y373 (rdOf ByteArray.empty t363 x8_1) [.string (rdOf ByteArray.empty t363 x8_1)] (fun k_ => (P1_ k_ ∨ w.heap.size ≤ k_) ∧ some k_ ≠ (.slice (some ad362) l1.length co14 : Value).ownBlock ∧ some k_ ≠ (.slice (some ad376) t363.length co16 : Value).ownBlock) (fun _ => False) rfl rfl ?aP (fun _ hk => hk.elim) ?aF ?aO ?aB ?aS ?aL ?_; (case aP => exact rfl); (case aB => exact (hh HB)); (case aF => exact (fun k_ hk => ⟨(.inr (Nat.le_trans (by first | exact HK.out.1 | exact (show Kept w _ (fun k_ => P1_ k_) from by repeat (first | (with_reducible first | exact HK.out | apply Kept.alloc | apply Kept.drewN | apply Kept.drew) | exact HK.out)).1) hk)), Kd.fresh' (Kd.R_lt (rk HO_1)) k_ hk, Kd.fresh' (Kd.R_lt (rk HO_7)) k_ hk⟩)); (case aO => exact (rk HO375)); (case aS => exact (below_size (hh HB))); (case aL => have := LMc34.out; omega); intro v378 w38 ho hb hg hat; rw [← Ny377.out] at ho; have HO379 := aM (ho); replace HO_1 := aM (Kd.R_after (ok := (fun k_ => (P1_ k_ ∨ w.heap.size ≤ k_) ∧ some k_ ≠ (.slice (some ad376) t363.length co16 : Value).ownBlock)) (rk HO_1) hg hat); replace HO_7 := aM (Kd.R_after (ok := (fun k_ => (P1_ k_ ∨ w.heap.size ≤ k_) ∧ some k_ ≠ (.slice (some ad362) l1.length co14 : Value).ownBlock)) (rk HO_7) hg hat); replace HB := aM (hb); replace HK := aM (Kept.of_grown (S := (fun k_ => P1_ k_)) hg (by repeat (first | (with_reducible first | exact HK.out | apply Kept.alloc | apply Kept.drewN | apply Kept.drew) | exact HK.out)) (fun k_ e_ => (HO375.out.1 k_ e_).1)); clear HO375; clear ho hb hg hat; obtain ⟨Ao39, co39, eo39⟩ := Kd.R_slice HO379.out; subst eo39) | ((with_reducible refine gate_callee (f := 37) rfl ?_); refine gL (some 73) rfl rfl Try.func37 (by kernel_rfl) rfl #[.slice A0 l0.length c0, .slice Ao39 y377.length co39, .int .i64 a2] rfl ?_; (with_reducible refine (ih kj19 (by have := HK1.out; have := HJ16.out; have := HJ19.out; omega) _ _ l0 (fun k_ => some k_ = (.slice Ao39 y377.length co39 : Value).ownBlock) (.slice Ao39 y377.length co39) y377 a2 t380 w0 _ ?side1 ?side2 ?side3 ?side4 A35.out).mono ?_); (case side1 => repeat (first | (with_reducible first | exact HB.out | apply bA | apply bN | apply bD) | exact HB.out)); (case side2 => exact Kd.C_kept_call HR0.out (by repeat (first | (with_reducible first | exact HK.out | apply Kept.alloc | apply Kept.drewN | apply Kept.drew) | exact HK.out)) (fun k_ hs_ => (fun e_ => (HO379.out.1 k_ e_.symm).1) hs_)); (case side3 => exact HC0.out); (case side4 => exact Kd.R_tight rfl HO379.out); rintro e w40 ⟨v381, rfl, ho0, hb, hkp⟩; refine ⟨_, rfl, ?_⟩; have HO382 := aM (Kd.R_mono (ok' := fun k_ => (P1_ k_ ∨ w.heap.size ≤ k_) ∧ some k_ ≠ (.slice (some ad362) l1.length co14 : Value).ownBlock ∧ some k_ ≠ (.slice (some ad376) t363.length co16 : Value).ownBlock) ho0 (fun k_ hk_ => ⟨Or.elim hk_ (fun hs_ => (HO379.out.1 k_ (hs_).symm).1) (fun hn_ => (.inr (Nat.le_trans (by first | exact HK.out.1 | exact (show Kept w _ (fun k_ => P1_ k_) from by repeat (first | (with_reducible first | exact HK.out | apply Kept.alloc | apply Kept.drewN | apply Kept.drew) | exact HK.out)).1) hn_))), Or.elim hk_ (fun hs_ => fun e_ => (((HO_1.out).1 k_ e_.symm).2) hs_) (fun hn_ => (Kd.fresh' (Kd.R_lt (rk HO_1)) k_ hn_)), Or.elim hk_ (fun hs_ => fun e_ => (((HO_7.out).1 k_ e_.symm).2) hs_) (fun hn_ => (Kd.fresh' (Kd.R_lt (rk HO_7)) k_ hn_))⟩)); replace HO_1 := aM (Kd.R_mono (ok' := fun k_ => (P1_ k_ ∨ w.heap.size ≤ k_) ∧ some k_ ≠ (.slice (some ad376) t363.length co16 : Value).ownBlock ∧ some k_ ≠ (v381 : Value).ownBlock) (Kd.R_keptB (HO_1.out) hkp (fun k_ hk_ hs_ => (hk_.2) hs_)) (fun k_ hk_ => ⟨hk_.1.1.1, hk_.1.1.2, fun e_ => Or.elim (ho0.1 k_ e_.symm) (fun hs_ => hk_.2.1 hs_) (fun hn_ => Nat.not_le.2 hk_.2.2 hn_)⟩)); replace HO_7 := aM (Kd.R_mono (ok' := fun k_ => (P1_ k_ ∨ w.heap.size ≤ k_) ∧ some k_ ≠ (.slice (some ad362) l1.length co14 : Value).ownBlock ∧ some k_ ≠ (v381 : Value).ownBlock) (Kd.R_keptB (HO_7.out) hkp (fun k_ hk_ hs_ => (hk_.2) hs_)) (fun k_ hk_ => ⟨hk_.1.1.1, hk_.1.1.2, fun e_ => Or.elim (ho0.1 k_ e_.symm) (fun hs_ => hk_.2.1 hs_) (fun hn_ => Nat.not_le.2 hk_.2.2 hn_)⟩)); replace HK := aM (Kept.then_ (S := (fun k_ => P1_ k_)) (by repeat (first | (with_reducible first | exact HK.out | apply Kept.alloc | apply Kept.drewN | apply Kept.drew) | exact HK.out)) hkp (fun k_ hs_ => (fun e_ => (HO379.out.1 k_ e_.symm).1) hs_)); replace HB := aM (hb); clear HO379; (try clear hb); (try clear hkp); (try clear ho0); obtain ⟨Ao41, co41, eo41⟩ := Kd.R_slice HO382.out; subst eo41))
                             go_ret
                             exact ⟨_, by first | rfl | (simp [errW_none, errW_some] <;> rfl) | (simp only [← hji4]; first | rfl | (simp [errW_none, errW_some] <;> rfl)) | (simp [*, errW_none, errW_some] <;> rfl), by (with_reducible repeat (first | apply Kd.R_alloc | apply Kd.R_drewN | apply Kd.R_drew)); exact Kd.R_mono HO382.out (fun _ hk => hk.1), hh HB, by repeat (first | (with_reducible first | exact HK.out | apply Kept.alloc | apply Kept.drewN | apply Kept.drew) | exact HK.out)⟩
                           · rw [if_neg c36] at H
                             have c36b0 : decide (0 < (t380.length : Int)) = false := decide_eq_false c36
                             have c36b1 : decide (0 < t380.length) = false := decide_eq_false (by omega)
                             clear c36
                             have H' := aM H
                             clear H
                             go_wp2_with (first | ((with_reducible refine gate_builtin (b := .append) (xs := #[.tmp 60, .tmp 61]) rfl ?_); (try (refine gate_guard (by rfl) ?_; dsimp only)); at_builtin; refine Kd.R_append_rows Kd.string (w0 := w0) w0.heap.size rfl (.tmp 60) (.tmp 61) 25 9 (.string ⟨#[]⟩) 16 rfl Try.underlying25 info9 rfl (by decide) (by omega) (.slice none 0 0) ([] : List ByteArray) l1 _ _ _ (fun k_ => (P1_ k_ ∨ w.heap.size ≤ k_) ∧ some k_ ≠ (.slice (some ad362) l1.length co14 : Value).ownBlock ∧ some k_ ≠ (.slice Ao16 t363.length co16 : Value).ownBlock) (fun _ => False) rfl rfl ?aO ?aR (fun _ _ h => h) (fun _ h => h.elim) ?aF ?aB ?aS ?aL ?_; (case aR => exact cr HO_1); (case aB => exact (hh HB)); (case aF => exact (fun k_ hk => ⟨(.inr (Nat.le_trans (by first | exact HK.out.1 | exact (show Kept w _ (fun k_ => P1_ k_) from by repeat (first | (with_reducible first | exact HK.out | apply Kept.alloc | apply Kept.drewN | apply Kept.drew) | exact HK.out)).1) hk)), Kd.fresh' (Kd.R_lt (rk HO_1)) k_ hk, Kd.fresh' (Kd.R_lt (rk HO_7)) k_ hk⟩)); (case aO => exact ((Kd.R_nil _ _ _ _ (fun k_ => (P1_ k_ ∨ w.heap.size ≤ k_) ∧ some k_ ≠ (.slice (some ad362) l1.length co14 : Value).ownBlock ∧ some k_ ≠ (.slice Ao16 t363.length co16 : Value).ownBlock)))); (case aS => exact (below_size (hh HB))); (case aL => have := LMc31.out; omega); intro v374 w42 ho hb hg hat; rw [← Ny373.out] at ho; have HO375 := aM (ho); replace HO_1 := aM (Kd.R_after (Kd.R_apart_nil (rk HO_1)) hg hat); replace HO_7 := aM (Kd.R_after (Kd.R_apart_nil (rk HO_7)) hg hat); replace HB := aM (hb); replace HK := aM (Kept.of_grown (S := (fun k_ => P1_ k_)) hg (by repeat (first | (with_reducible first | exact HK.out | apply Kept.alloc | apply Kept.drewN | apply Kept.drew) | exact HK.out)) (fun k_ e_ => by simp [Value.ownBlock] at e_)); clear ho hb hg hat; have p376 : 0 ≤ (x8_1 : Int) := dt; have q376 : x8_1 < (t363.length : Int) := dt; obtain ⟨ad376, e376, hx376_0⟩ := Kd.at_string (Kd.R_reads' HO_7.out).2.2 x8_1 p376 q376; cases e376; replace p376 := eq_true p376; replace q376 := eq_true q376) | ((with_reducible refine gate_builtin (b := .append) (xs := #[.tmp 63, .tmp 68]) rfl ?_); (try (refine gate_guard (by rfl) ?_; dsimp only)); at_builtin; refine Kd.R_append Kd.string (w0 := w0) w0.heap.size rfl (.tmp 63) (.tmp 68) 25 9 (.string ⟨#[]⟩) 16 rfl Try.underlying25 info9 rfl (by decide) (by omega) v374 y373 (rdOf ByteArray.empty t363 x8_1) [.string (rdOf ByteArray.empty t363 x8_1)] (fun k_ => (P1_ k_ ∨ w.heap.size ≤ k_) ∧ some k_ ≠ (.slice (some ad362) l1.length co14 : Value).ownBlock ∧ some k_ ≠ (.slice (some ad376) t363.length co16 : Value).ownBlock) (fun _ => False) rfl rfl ?aP (fun _ hk => hk.elim) ?aF ?aO ?aB ?aS ?aL ?_; (case aP => exact rfl); (case aB => exact (hh HB)); (case aF => exact (fun k_ hk => ⟨(.inr (Nat.le_trans (by first | exact HK.out.1 | exact (show Kept w _ (fun k_ => P1_ k_) from by repeat (first | (with_reducible first | exact HK.out | apply Kept.alloc | apply Kept.drewN | apply Kept.drew) | exact HK.out)).1) hk)), Kd.fresh' (Kd.R_lt (rk HO_1)) k_ hk, Kd.fresh' (Kd.R_lt (rk HO_7)) k_ hk⟩)); (case aO => exact (rk HO375)); (case aS => exact (below_size (hh HB))); (case aL => have := LMc34.out; omega); intro v378 w43 ho hb hg hat; rw [← Ny377.out] at ho; have HO379 := aM (ho); replace HO_1 := aM (Kd.R_after (ok := (fun k_ => (P1_ k_ ∨ w.heap.size ≤ k_) ∧ some k_ ≠ (.slice (some ad376) t363.length co16 : Value).ownBlock)) (rk HO_1) hg hat); replace HO_7 := aM (Kd.R_after (ok := (fun k_ => (P1_ k_ ∨ w.heap.size ≤ k_) ∧ some k_ ≠ (.slice (some ad362) l1.length co14 : Value).ownBlock)) (rk HO_7) hg hat); replace HB := aM (hb); replace HK := aM (Kept.of_grown (S := (fun k_ => P1_ k_)) hg (by repeat (first | (with_reducible first | exact HK.out | apply Kept.alloc | apply Kept.drewN | apply Kept.drew) | exact HK.out)) (fun k_ e_ => (HO375.out.1 k_ e_).1)); clear HO375; clear ho hb hg hat; obtain ⟨Ao44, co44, eo44⟩ := Kd.R_slice HO379.out; subst eo44) | ((with_reducible refine gate_callee (f := 37) rfl ?_); refine gL (some 73) rfl rfl Try.func37 (by kernel_rfl) rfl #[.slice A0 l0.length c0, .slice Ao44 y377.length co44, .int .i64 a2] rfl ?_; (with_reducible refine (ih kj19 (by have := HK1.out; have := HJ16.out; have := HJ19.out; omega) _ _ l0 (fun k_ => some k_ = (.slice Ao44 y377.length co44 : Value).ownBlock) (.slice Ao44 y377.length co44) y377 a2 t380 w0 _ ?side1 ?side2 ?side3 ?side4 A35.out).mono ?_); (case side1 => repeat (first | (with_reducible first | exact HB.out | apply bA | apply bN | apply bD) | exact HB.out)); (case side2 => exact Kd.C_kept_call HR0.out (by repeat (first | (with_reducible first | exact HK.out | apply Kept.alloc | apply Kept.drewN | apply Kept.drew) | exact HK.out)) (fun k_ hs_ => (fun e_ => (HO379.out.1 k_ e_.symm).1) hs_)); (case side3 => exact HC0.out); (case side4 => exact Kd.R_tight rfl HO379.out); rintro e w45 ⟨v381, rfl, ho0, hb, hkp⟩; refine ⟨_, rfl, ?_⟩; have HO382 := aM (Kd.R_mono (ok' := fun k_ => (P1_ k_ ∨ w.heap.size ≤ k_) ∧ some k_ ≠ (.slice (some ad362) l1.length co14 : Value).ownBlock ∧ some k_ ≠ (.slice (some ad376) t363.length co16 : Value).ownBlock) ho0 (fun k_ hk_ => ⟨Or.elim hk_ (fun hs_ => (HO379.out.1 k_ (hs_).symm).1) (fun hn_ => (.inr (Nat.le_trans (by first | exact HK.out.1 | exact (show Kept w _ (fun k_ => P1_ k_) from by repeat (first | (with_reducible first | exact HK.out | apply Kept.alloc | apply Kept.drewN | apply Kept.drew) | exact HK.out)).1) hn_))), Or.elim hk_ (fun hs_ => fun e_ => (((HO_1.out).1 k_ e_.symm).2) hs_) (fun hn_ => (Kd.fresh' (Kd.R_lt (rk HO_1)) k_ hn_)), Or.elim hk_ (fun hs_ => fun e_ => (((HO_7.out).1 k_ e_.symm).2) hs_) (fun hn_ => (Kd.fresh' (Kd.R_lt (rk HO_7)) k_ hn_))⟩)); replace HO_1 := aM (Kd.R_mono (ok' := fun k_ => (P1_ k_ ∨ w.heap.size ≤ k_) ∧ some k_ ≠ (.slice (some ad376) t363.length co16 : Value).ownBlock ∧ some k_ ≠ (v381 : Value).ownBlock) (Kd.R_keptB (HO_1.out) hkp (fun k_ hk_ hs_ => (hk_.2) hs_)) (fun k_ hk_ => ⟨hk_.1.1.1, hk_.1.1.2, fun e_ => Or.elim (ho0.1 k_ e_.symm) (fun hs_ => hk_.2.1 hs_) (fun hn_ => Nat.not_le.2 hk_.2.2 hn_)⟩)); replace HO_7 := aM (Kd.R_mono (ok' := fun k_ => (P1_ k_ ∨ w.heap.size ≤ k_) ∧ some k_ ≠ (.slice (some ad362) l1.length co14 : Value).ownBlock ∧ some k_ ≠ (v381 : Value).ownBlock) (Kd.R_keptB (HO_7.out) hkp (fun k_ hk_ hs_ => (hk_.2) hs_)) (fun k_ hk_ => ⟨hk_.1.1.1, hk_.1.1.2, fun e_ => Or.elim (ho0.1 k_ e_.symm) (fun hs_ => hk_.2.1 hs_) (fun hn_ => Nat.not_le.2 hk_.2.2 hn_)⟩)); replace HK := aM (Kept.then_ (S := (fun k_ => P1_ k_)) (by repeat (first | (with_reducible first | exact HK.out | apply Kept.alloc | apply Kept.drewN | apply Kept.drew) | exact HK.out)) hkp (fun k_ hs_ => (fun e_ => (HO379.out.1 k_ e_.symm).1) hs_)); replace HB := aM (hb); clear HO379; (try clear hb); (try clear hkp); (try clear ho0); obtain ⟨Ao46, co46, eo46⟩ := Kd.R_slice HO382.out; subst eo46))
                             go_roundg kj19
                             case measure => have := HK1.out; have := HJ16.out; have := HJ19.out; omega
                             case rel => exact ⟨(wrap64 (x8_1 + 1)), (by first | rfl | (simp; done) | (simp [*]; done)), H', ⟨by have := HK1.out; have := HJ16.out; have := HJ19.out; omega⟩, ⟨by (with_reducible repeat (first | apply Kd.R_alloc | apply Kd.R_drewN | apply Kd.R_drew)); exact Kd.R_mono HO_1.out (fun _ hk => ⟨hk.1, hk.2.1⟩)⟩, ⟨by (with_reducible repeat (first | apply Kd.R_alloc | apply Kd.R_drewN | apply Kd.R_drew)); exact Kd.R_mono HO_7.out (fun _ hk => ⟨hk.1, hk.2.1⟩)⟩, ⟨by repeat (first | (with_reducible first | exact HK.out | apply Kept.alloc | apply Kept.drewN | apply Kept.drew) | exact HK.out)⟩, ⟨hh HB⟩⟩
                         · rw [if_neg c34] at H
                           exact absurd H (by simp)
                       · rw [if_neg c33] at H
                         exact absurd H (by simp)
                     · rw [if_neg c32] at H
                       exact absurd H (by simp)
                   · rw [if_neg c31] at H
                     exact absurd H (by simp)
             · replace c19 := Bool.eq_false_iff.mpr c19
               subst c19
               have H1 : (some ([] : List ByteArray)) = some r := by rw [if_neg (show ¬ (false = true) by decide)] at H; exact H
               clear H
               have H := H1
               clear H1
               obtain rfl := Option.some.inj H
               go_wp2
               go_ret
               exact ⟨_, by first | rfl | (simp [errW_none, errW_some] <;> rfl) | (simp only [← hji4]; first | rfl | (simp [errW_none, errW_some] <;> rfl)) | (simp [*, errW_none, errW_some] <;> rfl), by first | exact Kd.R_nil _ _ _ _ _ | exact Kd.N_nil _ _ _ _ _ | exact Kd.V_nil _ _ _ _ _ | exact Kd.Q_nil _ _ _ _ _ | exact Kd.S_nil _ _ _ _ _, hh HB, by repeat (first | (with_reducible first | exact HK.out | apply Kept.alloc | apply Kept.drewN | apply Kept.drew) | exact HK.out)⟩
     · rw [if_neg c8] at H
       exact absurd H (by simp)
   · rw [if_neg c6] at H
     exact absurd H (by simp)
 · rw [if_neg c5] at H
   exact absurd H (by simp)
end Go.Proofs.Ytmadhaccjmakdaa.P
namespace Go.Proofs.Ytmadhaccjmakdaa.P
open Go.RowKit Go.Proofs.YtmadhaccjmakdaaW.PrintWords Go.Proofs.YtmadhaccjmakdaaW.PrintLast Go.Proofs.YtmadhaccjmakdaaW.PrintMore
attribute [local go_sem] str_gtr str_leq str_geq max2_int min2_int max_two min_two max_three min_three max_four min_four
mutual
noncomputable def lazycref10_Cycle.l0 : Nat → List (S42) → List ByteArray → Int → Option (List ByteArray)
 | 0, _, _, _ => none
 | k + 1, x0, x3, x4 => if x4 ≤ (x3.length : Int) then (lazycref10_Cycle.l1 k x0 x3 x4 0) else (some ([] : List ByteArray))
noncomputable def lazycref10_Cycle.l1 : Nat → List (S42) → List ByteArray → Int → Int → Option (List ByteArray)
 | 0, _, _, _, _ => none
 | k + 1, x0, x3, x4, x5 => if x5 < (x3.length : Int) then (if 0 ≤ x5 then ((lazycref10_paths.f k x0 (([rdOf ByteArray.empty x3 x5] : List ByteArray)) x4).bind fun t394 => (if (t394.length : Int) > 0 then (some t394) else (lazycref10_Cycle.l1 k x0 x3 x4 (wrap64 (x5 + 1))))) else (none)) else (lazycref10_Cycle.l0 k x0 x3 (wrap64 (x4 + 1)))
end
noncomputable def lazycref10_Cycle.f (k : Nat) (l0 : List (S42)) : Option (List ByteArray) := (lazycref10_consistent.f k l0).bind fun bt383 => (if bt383.1 = 0 then ((lazycref10_Names.f k l0).bind fun t387 => (lazycref10_Cycle.l0 k l0 t387 1)) else (some ([] : List ByteArray)))
set_option maxHeartbeats 8000000 in
set_option maxRecDepth 100000 in
theorem lazycref10_Cycle.calls (k : Nat) (A0 : Option Addr) (c0 : Nat) (l0 : List (S42)) (r : List ByteArray) (w : World) (hr0 : Kd.C k42 w A0 l0.length l0) (hc0 : l0.length ≤ c0) (h : lazycref10_Cycle.f k l0 = some r) :
 Calls Try.prog 20 #[.slice A0 l0.length c0] w fun e w' => ∃ v0_ : Value, e = .returned (v0_) ∧ Kd.R Kd.string 9 w' w.heap.size (fun _ => True) v0_ r ∧ Below w.heap.size w w' := by
 have hu28 := Try.underlying28
 have HR0 := aM hr0
 have HC0 := aM hc0
 clear hr0 hc0
 have HB := aM (Below.refl w.heap.size w)
 have H : ((lazycref10_consistent.f k l0).bind fun bt383 => (if bt383.1 = 0 then ((lazycref10_Names.f k l0).bind fun t387 => (lazycref10_Cycle.l0 k l0 t387 1)) else (some ([] : List ByteArray)))) = some r := h
 clear h
 replace H := Option.bind_eq_some_iff.mp H
 obtain ⟨⟨t383, t384, t385, t386⟩, A20, H⟩ := H
 replace H : (if t383 = 0 then ((lazycref10_Names.f k l0).bind fun t387 => (lazycref10_Cycle.l0 k l0 t387 1)) else (some ([] : List ByteArray))) = some r := H
 have A2 := aM A20
 clear A20
 by_cases c3 : t383 = 0
 · rw [if_pos c3] at H
   have c3b0 : (t383 == 0) = true := beq_iff_eq.mpr c3
   have c3b1 : (t383 != 0) = false := bne_eq_false_iff_eq.mpr c3
   clear c3
   replace H := Option.bind_eq_some_iff.mp H
   obtain ⟨t387, A40, H⟩ := H
   replace H : (lazycref10_Cycle.l0 k l0 t387 1) = some r := H
   have A4 := aM A40
   clear A40
   have H' := aM H
   clear H
   go_enter Try.func20, Try.ntmps20
   go_wp2_with (first | ((with_reducible refine gate_callee (f := 36) rfl ?_); refine gL (some 8) rfl rfl Try.func36 (by kernel_rfl) rfl #[.slice A0 l0.length c0] rfl ?_; (with_reducible refine (lazycref10_consistent.calls k _ _ l0 t383 t384 t385 t386 _ ?side1 ?side2 A2.out).mono ?_); (case side1 => exact ck HR0); (case side2 => exact HC0.out); rintro e w5 ⟨rfl, hb⟩; refine ⟨_, rfl, ?_⟩; replace HB := bs HB hb; (try clear hb); (try clear hb2); (try clear hk); (try clear hi)) | ((with_reducible refine gate_callee (f := 28) rfl ?_); refine gL (some 12) rfl rfl Try.func28 (by kernel_rfl) rfl #[.slice A0 l0.length c0] rfl ?_; (with_reducible refine (lazycref10_Names.calls k _ _ l0 t387 _ ?side1 ?side2 A4.out).mono ?_); (case side1 => exact cb HR0 HB); (case side2 => exact HC0.out); rintro e w6 ⟨v388, rfl, ho0, hb⟩; refine ⟨_, rfl, ?_⟩; have HO389 := aM (Kd.R_lower ho0 (below_size (hh HB))); replace HB := bs HB hb; (try clear hb); (try clear hb2); (try clear hk); (try clear hi); (try clear ho0)))
   go_loopg [4] k (fun kq v4 w' => ∃ (x4_1 : Int), v4 = .int .i64 x4_1 ∧ Aside0 (lazycref10_Cycle.l0 kq l0 t387 x4_1 = some r) ∧ Aside0 (kq ≤ k) ∧ Aside0 (Kd.R Kd.string 9 w' w.heap.size (fun _ => True) v388 t387) ∧ Aside0 (Below w.heap.size w w'))
   case atStart => exact ⟨(1), (by first | rfl | (simp; done) | (simp [*]; done)), H', ⟨Nat.le_refl _⟩, ⟨rk HO389⟩, ⟨hh HB⟩⟩
   case round =>
    clear H'
    try clear c2
    try clear p2
    try clear c3
    try clear c3b0
    try clear c3b1
    obtain ⟨x4_1, rfl, HA, HK1, HO_3, HB⟩ := hrel
    cases gk with
    | zero => exact absurd HA.out (by simp [lazycref10_Cycle.l0])
    | succ k1 =>
     have H := HA.out
     clear HA
     simp only [lazycref10_Cycle.l0] at H
     by_cases c7 : x4_1 ≤ (t387.length : Int)
     · rw [if_pos c7] at H
       have c7b0 : decide (x4_1 ≤ (t387.length : Int)) = true := decide_eq_true c7
       clear c7
       have H' := aM H
       clear H
       obtain ⟨Ao8, co8, eo8⟩ := Kd.R_slice HO_3.out
       subst eo8
       go_wp2
       go_loopg [5] k1 (fun kq v5 w' => ∃ (x5_2 : Int), v5 = .int .i64 x5_2 ∧ Aside0 (lazycref10_Cycle.l1 kq l0 t387 x4_1 x5_2 = some r) ∧ Aside0 (kq ≤ k1) ∧ Aside0 (Kd.R Kd.string 9 w' w.heap.size (fun _ => True) (.slice Ao8 t387.length co8) t387) ∧ Aside0 (Below w.heap.size w w'))
       case atStart => exact ⟨(0), (by first | rfl | (simp; done) | (simp [*]; done)), H', ⟨Nat.le_refl _⟩, ⟨rk HO_3⟩, ⟨hh HB⟩⟩
       case round =>
        clear H'
        try clear c2
        try clear p2
        try clear c3
        try clear c3b0
        try clear c3b1
        try clear c7
        try clear c7b0
        try clear p2
        obtain ⟨x5_2, rfl, HA, HK2, HO_3, HB⟩ := hrel
        cases gk with
        | zero => exact absurd HA.out (by simp [lazycref10_Cycle.l1])
        | succ k2 =>
         have H := HA.out
         clear HA
         simp only [lazycref10_Cycle.l1] at H
         by_cases c9 : x5_2 < (t387.length : Int)
         · rw [if_pos c9] at H
           have c9b0 : decide (x5_2 < (t387.length : Int)) = true := decide_eq_true c9
           clear c9
           by_cases c10 : 0 ≤ x5_2
           · rw [if_pos c10] at H
             have c10b0 : decide (0 ≤ x5_2) = true := decide_eq_true c10
             clear c10
             obtain ⟨y391, hy391⟩ : ∃ y_ : List ByteArray, y_ = (([rdOf ByteArray.empty t387 x5_2] : List ByteArray)) := ⟨_, rfl⟩
             replace H : ((lazycref10_paths.f k2 l0 y391 x4_1).bind fun t394 => (if (t394.length : Int) > 0 then (some t394) else (lazycref10_Cycle.l1 k2 l0 t387 x4_1 (wrap64 (x5_2 + 1))))) = some r := by first | (rw [hy391]; with_reducible exact H) | (have H2_ := (Option.bind_some _ _).symm.trans H; rw [hy391]; with_reducible exact H2_) | (have H2_ := (Option.bind_some _ _).symm.trans H; with_reducible exact H2_) | with_reducible exact H | (rw [hy391]; exact H) | exact H
             have Ny391 := aM hy391
             clear hy391
             replace H := Option.bind_eq_some_iff.mp H
             obtain ⟨t394, A110, H⟩ := H
             replace H : (if (t394.length : Int) > 0 then (some t394) else (lazycref10_Cycle.l1 k2 l0 t387 x4_1 (wrap64 (x5_2 + 1)))) = some r := H
             have A11 := aM A110
             clear A110
             by_cases c12 : (t394.length : Int) > 0
             · rw [if_pos c12] at H
               have c12b0 : decide (0 < (t394.length : Int)) = true := decide_eq_true c12
               have c12b1 : decide (0 < t394.length) = true := decide_eq_true (by omega)
               clear c12
               obtain rfl := Option.some.inj H
               have p390 : 0 ≤ (x5_2 : Int) := dt
               have q390 : x5_2 < (t387.length : Int) := dt
               obtain ⟨ad390, e390, hx390_0⟩ := Kd.at_string (Kd.R_reads' HO_3.out).2.2 x5_2 p390 q390
               cases e390
               replace p390 := eq_true p390
               replace q390 := eq_true q390
               go_wp2_with (first | ((with_reducible refine gate_dst (N := 30) rfl ?_); refine Kd.R_lit Kd.string _ 9 ?hg (N := 30) ?hd (xs := ([rdOf ByteArray.empty t387 x5_2] : List ByteArray)) (inner := [.string (rdOf ByteArray.empty t387 x5_2)]) (ok := fun _ => True) (okp := fun _ => True) ?hr ?hp (fun _ hk => hk) trivial (Below.refl _ _) (Nat.le_refl _) (by simp) ?_; (case hd => rfl); (case hg => rfl); (case hr => first | (go_simp; done) | (go_simp; rfl)); (case hp => exact (Reps.one (show Kd.M Kd.string _ _ _ (rdOf ByteArray.empty t387 x5_2) [.string (rdOf ByteArray.empty t387 x5_2)] from rfl) (Reps.none _ _))); intro v392 w13 ho14 hb hg_ hnew_; clear hg_ hnew_; (first | rw [← Ny391.out] at ho14 | (simp only [Int.reduceToNat] at ho14; rw [← Ny391.out] at ho14)); have HO393 := aM (Kd.R_lower (Kd.R_new' ho14 (Kd.R_lt (rk HO_3))) (below_size (hh HB))); replace HO_3 := aM (Kd.R_elder' (rk HO_3) (Kd.R_base ho14) hb); replace HB := bs HB hb; clear hb ho14; obtain ⟨Ao15, co15, eo15⟩ := Kd.R_slice HO393.out; subst eo15) | ((with_reducible refine gate_callee (f := 37) rfl ?_); refine gL (some 32) rfl rfl Try.func37 (by kernel_rfl) rfl #[.slice A0 l0.length c0, .slice Ao15 y391.length co15, .int .i64 x4_1] rfl ?_; (with_reducible refine (lazycref10_paths.calls k2 _ _ l0 (fun k_ => some k_ = (.slice Ao15 y391.length co15 : Value).ownBlock) (.slice Ao15 y391.length co15) y391 x4_1 t394 w _ ?side1 ?side2 ?side3 ?side4 A11.out).mono ?_); (case side1 => repeat (first | (with_reducible first | exact HB.out | apply bA | apply bN | apply bD) | exact HB.out)); (case side2 => exact Kd.C_kept_came k42_heap HR0.out (hh HB) (fun k_ hs_ => (fun e_ => Kd.R_base HO393.out k_ e_.symm) hs_)); (case side3 => exact HC0.out); (case side4 => exact Kd.R_tight rfl HO393.out); rintro e w16 ⟨v395, rfl, ho0, hb, hkp⟩; refine ⟨_, rfl, ?_⟩; have HO396 := aM (Kd.R_mono (ok' := fun k_ => some k_ ≠ (.slice (some ad390) t387.length co8 : Value).ownBlock) ho0 (fun k_ hk_ => Or.elim hk_ (fun hs_ => fun e_ => (((HO_3.out).1 k_ e_.symm).2) hs_) (fun hn_ => (Kd.fresh' (Kd.R_lt (rk HO_3)) k_ hn_)))); replace HO_3 := aM (Kd.R_mono (ok' := fun k_ => some k_ ≠ (v395 : Value).ownBlock) (Kd.R_keptB (HO_3.out) hkp (fun k_ hk_ hs_ => (hk_.2) hs_)) (fun k_ hk_ => fun e_ => Or.elim (ho0.1 k_ e_.symm) (fun hs_ => hk_.2.1 hs_) (fun hn_ => Nat.not_le.2 hk_.2.2 hn_))); replace HB := aM (hb); clear HO393; (try clear hb); (try clear hkp); (try clear ho0); obtain ⟨Ao17, co17, eo17⟩ := Kd.R_slice HO396.out; subst eo17))
               go_ret
               exact ⟨_, by first | rfl | (simp [errW_none, errW_some] <;> rfl) | (simp [*, errW_none, errW_some] <;> rfl), by (with_reducible repeat (first | apply Kd.R_alloc | apply Kd.R_drewN | apply Kd.R_drew)); exact Kd.R_mono HO396.out (fun _ hk => trivial), hh HB⟩
             · rw [if_neg c12] at H
               have c12b0 : decide (0 < (t394.length : Int)) = false := decide_eq_false c12
               have c12b1 : decide (0 < t394.length) = false := decide_eq_false (by omega)
               clear c12
               have H' := aM H
               clear H
               have p390 : 0 ≤ (x5_2 : Int) := dt
               have q390 : x5_2 < (t387.length : Int) := dt
               obtain ⟨ad390, e390, hx390_0⟩ := Kd.at_string (Kd.R_reads' HO_3.out).2.2 x5_2 p390 q390
               cases e390
               replace p390 := eq_true p390
               replace q390 := eq_true q390
               go_wp2_with (first | ((with_reducible refine gate_dst (N := 30) rfl ?_); refine Kd.R_lit Kd.string _ 9 ?hg (N := 30) ?hd (xs := ([rdOf ByteArray.empty t387 x5_2] : List ByteArray)) (inner := [.string (rdOf ByteArray.empty t387 x5_2)]) (ok := fun _ => True) (okp := fun _ => True) ?hr ?hp (fun _ hk => hk) trivial (Below.refl _ _) (Nat.le_refl _) (by simp) ?_; (case hd => rfl); (case hg => rfl); (case hr => first | (go_simp; done) | (go_simp; rfl)); (case hp => exact (Reps.one (show Kd.M Kd.string _ _ _ (rdOf ByteArray.empty t387 x5_2) [.string (rdOf ByteArray.empty t387 x5_2)] from rfl) (Reps.none _ _))); intro v392 w18 ho19 hb hg_ hnew_; clear hg_ hnew_; (first | rw [← Ny391.out] at ho19 | (simp only [Int.reduceToNat] at ho19; rw [← Ny391.out] at ho19)); have HO393 := aM (Kd.R_lower (Kd.R_new' ho19 (Kd.R_lt (rk HO_3))) (below_size (hh HB))); replace HO_3 := aM (Kd.R_elder' (rk HO_3) (Kd.R_base ho19) hb); replace HB := bs HB hb; clear hb ho19; obtain ⟨Ao20, co20, eo20⟩ := Kd.R_slice HO393.out; subst eo20) | ((with_reducible refine gate_callee (f := 37) rfl ?_); refine gL (some 32) rfl rfl Try.func37 (by kernel_rfl) rfl #[.slice A0 l0.length c0, .slice Ao20 y391.length co20, .int .i64 x4_1] rfl ?_; (with_reducible refine (lazycref10_paths.calls k2 _ _ l0 (fun k_ => some k_ = (.slice Ao20 y391.length co20 : Value).ownBlock) (.slice Ao20 y391.length co20) y391 x4_1 t394 w _ ?side1 ?side2 ?side3 ?side4 A11.out).mono ?_); (case side1 => repeat (first | (with_reducible first | exact HB.out | apply bA | apply bN | apply bD) | exact HB.out)); (case side2 => exact Kd.C_kept_came k42_heap HR0.out (hh HB) (fun k_ hs_ => (fun e_ => Kd.R_base HO393.out k_ e_.symm) hs_)); (case side3 => exact HC0.out); (case side4 => exact Kd.R_tight rfl HO393.out); rintro e w21 ⟨v395, rfl, ho0, hb, hkp⟩; refine ⟨_, rfl, ?_⟩; have HO396 := aM (Kd.R_mono (ok' := fun k_ => some k_ ≠ (.slice (some ad390) t387.length co8 : Value).ownBlock) ho0 (fun k_ hk_ => Or.elim hk_ (fun hs_ => fun e_ => (((HO_3.out).1 k_ e_.symm).2) hs_) (fun hn_ => (Kd.fresh' (Kd.R_lt (rk HO_3)) k_ hn_)))); replace HO_3 := aM (Kd.R_mono (ok' := fun k_ => some k_ ≠ (v395 : Value).ownBlock) (Kd.R_keptB (HO_3.out) hkp (fun k_ hk_ hs_ => (hk_.2) hs_)) (fun k_ hk_ => fun e_ => Or.elim (ho0.1 k_ e_.symm) (fun hs_ => hk_.2.1 hs_) (fun hn_ => Nat.not_le.2 hk_.2.2 hn_))); replace HB := aM (hb); clear HO393; (try clear hb); (try clear hkp); (try clear ho0); obtain ⟨Ao22, co22, eo22⟩ := Kd.R_slice HO396.out; subst eo22))
               go_roundg k2
               case measure => have := HK1.out; have := HK2.out; omega
               case rel => exact ⟨(wrap64 (x5_2 + 1)), (by first | rfl | (simp; done) | (simp [*]; done)), H', ⟨by have := HK1.out; have := HK2.out; omega⟩, ⟨by (with_reducible repeat (first | apply Kd.R_alloc | apply Kd.R_drewN | apply Kd.R_drew)); exact Kd.R_mono HO_3.out (fun _ hk => trivial)⟩, ⟨hh HB⟩⟩
           · rw [if_neg c10] at H
             exact absurd H (by simp)
         · rw [if_neg c9] at H
           have c9b0 : decide (x5_2 < (t387.length : Int)) = false := decide_eq_false c9
           clear c9
           have H' := aM H
           clear H
           go_wp2
           go_roundg k2
           case measure => have := HK1.out; have := HK2.out; omega
           case rel => exact ⟨(wrap64 (x4_1 + 1)), (by first | rfl | (simp; done) | (simp [*]; done)), H', ⟨by have := HK1.out; have := HK2.out; omega⟩, ⟨rk HO_3⟩, ⟨hh HB⟩⟩
     · rw [if_neg c7] at H
       have c7b0 : decide (x4_1 ≤ (t387.length : Int)) = false := decide_eq_false c7
       clear c7
       obtain rfl := Option.some.inj H
       obtain ⟨Ao23, co23, eo23⟩ := Kd.R_slice HO_3.out
       subst eo23
       go_wp2
       go_ret
       exact ⟨_, by first | rfl | (simp [errW_none, errW_some] <;> rfl) | (simp [*, errW_none, errW_some] <;> rfl), by first | exact Kd.R_nil _ _ _ _ _ | exact Kd.N_nil _ _ _ _ _ | exact Kd.V_nil _ _ _ _ _ | exact Kd.Q_nil _ _ _ _ _ | exact Kd.S_nil _ _ _ _ _, hh HB⟩
 · rw [if_neg c3] at H
   have c3b0 : (t383 == 0) = false := beq_eq_false_iff_ne.mpr c3
   have c3b1 : (t383 != 0) = true := bne_iff_ne.mpr c3
   obtain rfl := Option.some.inj H
   go_enter Try.func20, Try.ntmps20
   go_wp2_with (first | ((with_reducible refine gate_callee (f := 36) rfl ?_); refine gL (some 8) rfl rfl Try.func36 (by kernel_rfl) rfl #[.slice A0 l0.length c0] rfl ?_; (with_reducible refine (lazycref10_consistent.calls k _ _ l0 t383 t384 t385 t386 _ ?side1 ?side2 A2.out).mono ?_); (case side1 => exact ck HR0); (case side2 => exact HC0.out); rintro e w24 ⟨rfl, hb⟩; refine ⟨_, rfl, ?_⟩; replace HB := bs HB hb; (try clear hb); (try clear hb2); (try clear hk); (try clear hi)))
   go_ret
   exact ⟨_, by first | rfl | (simp [errW_none, errW_some] <;> rfl) | (simp [*, errW_none, errW_some] <;> rfl), by first | exact Kd.R_nil _ _ _ _ _ | exact Kd.N_nil _ _ _ _ _ | exact Kd.V_nil _ _ _ _ _ | exact Kd.Q_nil _ _ _ _ _ | exact Kd.S_nil _ _ _ _ _, hh HB⟩
end Go.Proofs.Ytmadhaccjmakdaa.P
/- modgraph.made as a plain function: what it answers for consistent lists. -/
namespace Go.Proofs.Ytmadhaccjmakdaa
open Go.RowKit Go.Maps Go.Sort Go.Proofs.YtmadhaccjmakdaaW.PrintWords Go.Proofs.YtmadhaccjmakdaaW.PrintLast Go.Proofs.YtmadhaccjmakdaaW.PrintMore
open P
namespace Mg
theorem asc_of {S ss : List (List UInt8)} (h : Elems S ss) (h1 : ss.Pairwise (fun a b => leB a b = true)) : asc S = ss := by
 rw [← Elems.asc h]
 exact List.mergeSort_of_pairwise h1
theorem asc_self {S : List (List UInt8)} (hn : S.Nodup) (h1 : S.Pairwise (fun a b => leB a b = true)) : asc S = S :=
 asc_of ⟨hn, fun x => by simp⟩ h1
theorem asc_elems (S : List (List UInt8)) : Elems S (asc S) := by
 have h := dd_elems S
 have hp := List.mergeSort_perm (dd S) leB
 exact ⟨hp.symm.nodup h.nodup, fun x => (hp.mem_iff).trans (h.mem x)⟩
theorem mem_asc {S : List (List UInt8)} {x : List UInt8} : x ∈ asc S ↔ x ∈ S := by
 rw [(asc_elems S).mem x]; simp
theorem asc_pair (S : List (List UInt8)) : (asc S).Pairwise (fun a b => a ≤ b) := leB_pair (dd S)
theorem twice_of : ∀ (l : List S42) (seen : List (List UInt8)), (seen ++ l.map nm).Nodup → twice l seen = none := by
 intro l
 induction l with
 | nil => intro _ _; rfl
 | cons m l ih =>
  intro seen h
  unfold twice
  have hm : ¬ seen.contains (nm m) = true := by
   intro hc
   have hc2 := List.contains_iff_mem.1 hc
   rw [List.nodup_append] at h
   exact h.2.2 _ hc2 _ (by simp) rfl
  rw [if_neg hm]
  exact ih _ (by simpa using h)
theorem missI_of (K : List (List UInt8)) : ∀ l : List S66, (∀ i ∈ l, im i ∈ K) → missI K l = none := by
 intro l
 induction l with
 | nil => intro _; rfl
 | cons i l ih =>
  intro h
  unfold missI
  rw [if_pos (List.contains_iff_mem.2 (h i List.mem_cons_self))]
  exact ih (fun j hj => h j (List.mem_cons_of_mem _ hj))
theorem miss_of (K : List (List UInt8)) : ∀ l : List S42, (∀ m ∈ l, ∀ i ∈ m.f3, im i ∈ K) → miss K l = none := by
 intro l
 induction l with
 | nil => intro _; rfl
 | cons m l ih =>
  intro h
  unfold miss
  rw [missI_of K m.f3 (h m List.mem_cons_self)]
  exact ih (fun j hj => h j (List.mem_cons_of_mem _ hj))
def key (m : S42) : List UInt8 × List (List UInt8) := (nm m, m.f3.map im)
theorem impsL_key (l : List S42) (n : List UInt8) : impsL l n = (((l.map key).find? (fun p => p.1 == n)).map (·.2)).getD [] := by
 unfold impsL
 induction l with
 | nil => rfl
 | cons m l ih =>
  by_cases hm : (nm m == n) = true
  · rw [List.map_cons, List.find?_cons_of_pos (by exact hm), List.find?_cons_of_pos (by exact hm)]
    rfl
  · rw [List.map_cons, List.find?_cons_of_neg (by exact hm), List.find?_cons_of_neg (by exact hm)]
    exact ih
theorem nm_key (l : List S42) : l.map nm = (l.map key).map (·.1) := by rw [List.map_map]; rfl
theorem size_dat (x : ByteArray) : x.size = x.data.toList.length := by cases x; rfl
theorem okSizes_key {l : List S42} (h : ∀ p ∈ l.map key, p.1.length ≤ 1000 ∧ p.2.length ≤ 100000 ∧ ∀ x ∈ p.2, x.length ≤ 1000) : okSizes l := by
 intro m hm
 obtain ⟨h1, h2, h3⟩ := h _ (List.mem_map.2 ⟨m, hm, rfl⟩)
 have h1' : m.f0.data.toList.length ≤ 1000 := h1
 have h2' : (m.f3.map im).length ≤ 100000 := h2
 rw [List.length_map] at h2'
 refine ⟨by rw [size_dat]; unfold maxLen; omega, h2', fun i hi => ?_⟩
 have h4 : i.f0.data.toList.length ≤ 1000 := h3 (im i) (List.mem_map.2 ⟨i, hi, rfl⟩)
 rw [size_dat]; unfold maxLen; omega
theorem made_good {l : List S42} (hl : ¬ (l.length : Int) > 32) (hs : okSizes l) (hn : (l.map nm).Nodup) (hi : ∀ m ∈ l, ∀ i ∈ m.f3, im i ∈ l.map nm) : modgraph_made.f l = some (namesOf l, edgesOf l, 0, ⟨#[]⟩, 0, 0) := by
 unfold modgraph_made.f
 rw [if_neg hl, if_pos hs, twice_of l [] (by simpa using hn)]
 simp only []
 rw [miss_of _ l hi]
def namesK (P : List (List UInt8 × List (List UInt8))) : List ByteArray := (asc (P.map (·.1))).map bz
def edgesK (P : List (List UInt8 × List (List UInt8))) : List (List Int) := (asc (P.map (·.1))).map (fun n => (asc (((P.find? (fun p => p.1 == n)).map (·.2)).getD [])).map (fun y => (rank (asc (P.map (·.1))) y : Int)))
theorem namesOf_key (l : List S42) : namesOf l = namesK (l.map key) := by unfold namesOf namesK; rw [nm_key]
theorem edgesOf_key (l : List S42) : edgesOf l = edgesK (l.map key) := by
 unfold edgesOf edgesK edgeOf
 rw [nm_key]
 simp only [impsL_key]
theorem made_key {l : List S42} (hl : (l.map key).length ≤ 32) (hs : ∀ p ∈ l.map key, p.1.length ≤ 1000 ∧ p.2.length ≤ 100000 ∧ ∀ x ∈ p.2, x.length ≤ 1000) (hn : ((l.map key).map (·.1)).Nodup) (hi : ∀ p ∈ l.map key, ∀ x ∈ p.2, x ∈ (l.map key).map (·.1)) :
 modgraph_made.f l = some (namesK (l.map key), edgesK (l.map key), 0, ⟨#[]⟩, 0, 0) := by
 rw [← namesOf_key, ← edgesOf_key]
 rw [List.length_map] at hl
 refine made_good (by omega) (okSizes_key hs) (by rw [nm_key]; exact hn) (fun m hm i hm2 => ?_)
 rw [nm_key]
 exact hi (key m) (List.mem_map.2 ⟨m, hm, rfl⟩) (im i) (List.mem_map.2 ⟨i, hm2, rfl⟩)
theorem made_abc {l : List S42} (h : l.map key = [([65], [[66]]), ([66], []), ([67], [])]) : modgraph_made.f l = some ([bz [65], bz [66], bz [67]], [[1], [], []], 0, ⟨#[]⟩, 0, 0) := by
 have e := made_key (l := l) (by rw [h]; decide) (by rw [h]; decide) (by rw [h]; decide) (by rw [h]; decide)
 rw [e, h]
 have a1 : asc [[65], [66], [67]] = [[65], [66], [67]] := asc_self (by decide) (by decide)
 have a2 : asc [[66]] = [[66]] := asc_self (by decide) (by decide)
 have a3 : asc ([] : List (List UInt8)) = [] := asc_self (by decide) (by decide)
 unfold namesK edgesK
 simp only [List.map_cons, List.map_nil]
 rw [a1]
 simp [List.find?, a2, a3, rank]
 decide
theorem made_cyc {l : List S42} (h : l.map key = [([65], [[66]]), ([66], [[65], [67]]), ([67], [[66]])]) : modgraph_made.f l = some ([bz [65], bz [66], bz [67]], [[1], [0, 2], [1]], 0, ⟨#[]⟩, 0, 0) := by
 have e := made_key (l := l) (by rw [h]; decide) (by rw [h]; decide) (by rw [h]; decide) (by rw [h]; decide)
 rw [e, h]
 have a1 : asc [[65], [66], [67]] = [[65], [66], [67]] := asc_self (by decide) (by decide)
 have a2 : asc [[66]] = [[66]] := asc_self (by decide) (by decide)
 have a3 : asc [[65], [67]] = [[65], [67]] := asc_self (by decide) (by decide)
 unfold namesK edgesK
 simp only [List.map_cons, List.map_nil]
 rw [a1]
 simp [List.find?, a2, a3, rank]
 decide
end Mg
end Go.Proofs.Ytmadhaccjmakdaa
/- The functions by which graph.strong and its inner function are told: Tarjan's search as a Lean function on lists, with a number of rounds. -/
namespace Go.Proofs.Ytmadhaccjmakdaa
open Go.RowKit Go.Proofs.YtmadhaccjmakdaaW.PrintWords Go.Proofs.YtmadhaccjmakdaaW.PrintLast Go.Proofs.YtmadhaccjmakdaaW.PrintMore
namespace Tj
structure TS where
 count : Int
 index : List Int
 low : List Int
 stack : List Int
 comp : List Int
 comps : Int
def row (es : List (List Int)) (v : Int) : List Int := es.getD v.toNat []
def pop : Nat → Int → TS → Option TS
 | 0, _, _ => none
 | k + 1, v, st =>
  if 0 < st.stack.length then
   let x := rd st.stack ((st.stack.length : Int) - 1)
   if 0 ≤ x ∧ x < st.comp.length then
    let st1 : TS := { st with stack := st.stack.take (st.stack.length - 1), comp := st.comp.set x.toNat st.comps }
    if x = v then some { st1 with comps := wrap64 (st.comps + 1) } else pop k v st1
   else none
  else none
def enter (v : Int) (st : TS) : TS :=
 { st with count := wrap64 (st.count + 1), index := st.index.set v.toNat (wrap64 (st.count + 1)), low := st.low.set v.toNat (wrap64 (st.count + 1)), stack := st.stack ++ [v] }
def lower (v x : Int) (st : TS) : TS := { st with low := st.low.set v.toNat (mn (rd st.low v) x) }
mutual
def visit : Nat → List (List Int) → Int → TS → Option TS
 | 0, _, _, _ => none
 | k + 1, es, v, st =>
  if 0 ≤ v ∧ v < es.length ∧ st.stack.length < 17592186044415 then each k es v (row es v) 0 (enter v st) else none
def each : Nat → List (List Int) → Int → List Int → Int → TS → Option TS
 | 0, _, _, _, _, _ => none
 | k + 1, es, v, l, i, st =>
  if i < l.length then
   if 0 ≤ rd l i ∧ rd l i < es.length then
    if rd st.index (rd l i) = 0 then (visit k es (rd l i) st).bind fun st1 => each k es v l (i + 1) (lower v (rd st1.low (rd l i)) st1)
    else if rd st.comp (rd l i) < 0 then each k es v l (i + 1) (lower v (rd st.index (rd l i)) st)
    else each k es v l (i + 1) st
   else none
  else if rd st.low v = rd st.index v then pop k v st
  else some st
end
def outer : Nat → List (List Int) → Int → TS → Option TS
 | 0, _, _, _ => none
 | k + 1, es, v, st =>
  if v < es.length then
   if rd st.index v = 0 then (visit k es v st).bind fun st1 => outer k es (v + 1) st1 else outer k es (v + 1) st
  else some st
def init (n : Nat) : TS := { count := 0, index := List.replicate n 0, low := List.replicate n 0, stack := [], comp := List.replicate n (-1), comps := 0 }
def strongF (k : Nat) (es : List (List Int)) : Option (List Int × Int) :=
 if es.length < 17592186044416 then (outer k es 0 (init es.length)).map fun st => (st.comp, st.comps) else none
end Tj
namespace P
theorem info55 : (Try.prog.info? 55).map (fun i => (i.zero, i.size, i.bytes)) = some (some (.slice none 0 0), 1, 24) := by kernel_rfl
end P
end Go.Proofs.Ytmadhaccjmakdaa
/- The memory in which graph.strong's inner function works, and what each of its stores does to it. -/
namespace Go.Proofs.Ytmadhaccjmakdaa
open Go.RowKit Go.Proofs.YtmadhaccjmakdaaW.PrintWords Go.Proofs.YtmadhaccjmakdaaW.PrintLast Go.Proofs.YtmadhaccjmakdaaW.PrintMore
namespace Tj
structure Cx where
 (bc bi bl bs be bv bp bm ai al ap : Nat)
 A : Option Addr
 c : Nat
 w0 : World
 es : List (List Int)
def Cx.ok (X : Cx) (k : Nat) : Prop := k ≠ X.bc ∧ k ≠ X.bm ∧ k ≠ X.ai ∧ k ≠ X.al ∧ k ≠ X.ap
structure Cx.Ok (X : Cx) : Prop where
 t1 : X.bc ≠ X.bm ∧ X.bc ≠ X.ai ∧ X.bc ≠ X.al ∧ X.bc ≠ X.ap ∧ X.bm ≠ X.ai ∧ X.bm ≠ X.al ∧ X.bm ≠ X.ap ∧ X.ai ≠ X.al ∧ X.ai ≠ X.ap ∧ X.al ≠ X.ap
 t2 : X.bs ≠ X.bi ∧ X.bs ≠ X.bl ∧ X.bs ≠ X.bp
 b : X.w0.heap.size ≤ X.bc ∧ X.w0.heap.size ≤ X.bs ∧ X.w0.heap.size ≤ X.bm ∧ X.w0.heap.size ≤ X.ai ∧ X.w0.heap.size ≤ X.al ∧ X.w0.heap.size ≤ X.ap
abbrev P1 (b : Nat) : Value := .pointer (some ⟨b, 0, none⟩)
abbrev Cx.clo (X : Cx) : Value := .func (.func 61) #[] #[P1 X.bc, P1 X.bi, P1 X.bl, P1 X.bs, P1 X.be, P1 X.bv, P1 X.bp, P1 X.bm]
def arr (xs : List Int) : Obj := .cells (nums .i64 xs).toArray 3 (0, 0)
structure Inv (X : Cx) (st : TS) (w : World) : Prop where
 hB : Below X.w0.heap.size X.w0 w
 hE : Kd.C (Kd.slice 3 (Kd.int .i64)) X.w0 X.A X.es.length X.es
 kc : w.heap[X.bc]? = some (.cells #[.int .i64 st.count] 3 (0, 0))
 ki : w.heap[X.bi]? = some (.cells #[.slice (some ⟨X.ai, 0, none⟩) X.es.length X.es.length] 55 (0, 0))
 kl : w.heap[X.bl]? = some (.cells #[.slice (some ⟨X.al, 0, none⟩) X.es.length X.es.length] 55 (0, 0))
 ks : ∃ v, w.heap[X.bs]? = some (.cells #[v] 55 (0, 0)) ∧ Kd.R (Kd.int .i64) 3 w X.w0.heap.size X.ok v st.stack
 ke : w.heap[X.be]? = some (.cells #[.slice X.A X.es.length X.c] 47 (0, 0))
 kv : w.heap[X.bv]? = some (.cells #[X.clo] 88 (0, 0))
 kp : w.heap[X.bp]? = some (.cells #[.slice (some ⟨X.ap, 0, none⟩) X.es.length X.es.length] 55 (0, 0))
 km : w.heap[X.bm]? = some (.cells #[.int .i64 st.comps] 3 (0, 0))
 ai : w.heap[X.ai]? = some (arr st.index)
 al : w.heap[X.al]? = some (arr st.low)
 ap : w.heap[X.ap]? = some (arr st.comp)
 li : st.index.length = X.es.length
 ll : st.low.length = X.es.length
 lp : st.comp.length = X.es.length
set_option maxRecDepth 100000 in
theorem nums_set (k : IntKind) (xs : List Int) (j : Nat) (x : Int) : (nums k xs).toArray.setIfInBounds j (.int k x) = (nums k (xs.set j x)).toArray := by
 simp [nums, List.map_set]
set_option maxRecDepth 100000 in
theorem Inv.drew {X : Cx} {st : TS} {w : World} (h : Inv X st w) : Inv X st w.drew where
 hB := below_drew h.hB
 hE := h.hE
 kc := h.kc
 ki := h.ki
 kl := h.kl
 ks := by obtain ⟨v, h1, h2⟩ := h.ks; exact ⟨v, h1, Kd.R_drew h2⟩
 ke := h.ke
 kv := h.kv
 kp := h.kp
 km := h.km
 ai := h.ai
 al := h.al
 ap := h.ap
 li := h.li
 ll := h.ll
 lp := h.lp
set_option maxRecDepth 100000 in
theorem Inv.setCount {X : Cx} {st : TS} {w : World} (h : Inv X st w) (o : X.Ok) (x : Int) : Inv X { st with count := x } (w.setCell ⟨X.bc, 0, none⟩ (.int .i64 x)) where
 hB := h.hB.setCell o.b.1 _
 hE := h.hE
 kc := one_setCell h.kc
 ki := blk_far h.ki (blk_ne h.ki h.kc (by decide)) _
 kl := blk_far h.kl (blk_ne h.kl h.kc (by decide)) _
 ks := by
  obtain ⟨v, h1, h2⟩ := h.ks
  exact ⟨v, blk_far h1 (blk_ne h1 h.kc (by decide)) _, Kd.R_far (p := ⟨X.bc, 0, none⟩) h2 (fun k hk => hk.1) _⟩
 ke := blk_far h.ke (blk_ne h.ke h.kc (by decide)) _
 kv := blk_far h.kv (blk_ne h.kv h.kc (by decide)) _
 kp := blk_far h.kp (blk_ne h.kp h.kc (by decide)) _
 km := blk_far h.km o.t1.1.symm _
 ai := blk_far h.ai o.t1.2.1.symm _
 al := blk_far h.al o.t1.2.2.1.symm _
 ap := blk_far h.ap o.t1.2.2.2.1.symm _
 li := h.li
 ll := h.ll
 lp := h.lp
set_option maxRecDepth 100000 in
theorem Inv.setComps {X : Cx} {st : TS} {w : World} (h : Inv X st w) (o : X.Ok) (x : Int) : Inv X { st with comps := x } (w.setCell ⟨X.bm, 0, none⟩ (.int .i64 x)) where
 hB := h.hB.setCell o.b.2.2.1 _
 hE := h.hE
 km := one_setCell h.km
 ki := blk_far h.ki (blk_ne h.ki h.km (by decide)) _
 kl := blk_far h.kl (blk_ne h.kl h.km (by decide)) _
 ks := by
  obtain ⟨v, h1, h2⟩ := h.ks
  exact ⟨v, blk_far h1 (blk_ne h1 h.km (by decide)) _, Kd.R_far (p := ⟨X.bm, 0, none⟩) h2 (fun k hk => hk.2.1) _⟩
 ke := blk_far h.ke (blk_ne h.ke h.km (by decide)) _
 kv := blk_far h.kv (blk_ne h.kv h.km (by decide)) _
 kp := blk_far h.kp (blk_ne h.kp h.km (by decide)) _
 kc := blk_far h.kc o.t1.1 _
 ai := blk_far h.ai o.t1.2.2.2.2.1.symm _
 al := blk_far h.al o.t1.2.2.2.2.2.1.symm _
 ap := blk_far h.ap o.t1.2.2.2.2.2.2.1.symm _
 li := h.li
 ll := h.ll
 lp := h.lp
set_option maxRecDepth 100000 in
theorem Inv.setIndex {X : Cx} {st : TS} {w : World} (h : Inv X st w) (o : X.Ok) (j : Nat) (x : Int) : Inv X { st with index := st.index.set j x } (w.setCell ⟨X.ai, j, none⟩ (.int .i64 x)) where
 hB := h.hB.setCell o.b.2.2.2.1 _
 hE := h.hE
 ai := by unfold arr; rw [← nums_set]; exact blk_set h.ai j _
 ki := blk_far h.ki (blk_ne h.ki h.ai (by decide)) _
 kl := blk_far h.kl (blk_ne h.kl h.ai (by decide)) _
 ks := by
  obtain ⟨v, h1, h2⟩ := h.ks
  exact ⟨v, blk_far h1 (blk_ne h1 h.ai (by decide)) _, Kd.R_far (p := ⟨X.ai, j, none⟩) h2 (fun k hk => hk.2.2.1) _⟩
 ke := blk_far h.ke (blk_ne h.ke h.ai (by decide)) _
 kv := blk_far h.kv (blk_ne h.kv h.ai (by decide)) _
 kp := blk_far h.kp (blk_ne h.kp h.ai (by decide)) _
 kc := blk_far h.kc o.t1.2.1 _
 km := blk_far h.km o.t1.2.2.2.2.1 _
 al := blk_far h.al o.t1.2.2.2.2.2.2.2.1.symm _
 ap := blk_far h.ap o.t1.2.2.2.2.2.2.2.2.1.symm _
 li := by simpa using h.li
 ll := h.ll
 lp := h.lp
set_option maxRecDepth 100000 in
theorem Inv.setLow {X : Cx} {st : TS} {w : World} (h : Inv X st w) (o : X.Ok) (j : Nat) (x : Int) : Inv X { st with low := st.low.set j x } (w.setCell ⟨X.al, j, none⟩ (.int .i64 x)) where
 hB := h.hB.setCell o.b.2.2.2.2.1 _
 hE := h.hE
 al := by unfold arr; rw [← nums_set]; exact blk_set h.al j _
 ki := blk_far h.ki (blk_ne h.ki h.al (by decide)) _
 kl := blk_far h.kl (blk_ne h.kl h.al (by decide)) _
 ks := by
  obtain ⟨v, h1, h2⟩ := h.ks
  exact ⟨v, blk_far h1 (blk_ne h1 h.al (by decide)) _, Kd.R_far (p := ⟨X.al, j, none⟩) h2 (fun k hk => hk.2.2.2.1) _⟩
 ke := blk_far h.ke (blk_ne h.ke h.al (by decide)) _
 kv := blk_far h.kv (blk_ne h.kv h.al (by decide)) _
 kp := blk_far h.kp (blk_ne h.kp h.al (by decide)) _
 kc := blk_far h.kc o.t1.2.2.1 _
 km := blk_far h.km o.t1.2.2.2.2.2.1 _
 ai := blk_far h.ai o.t1.2.2.2.2.2.2.2.1 _
 ap := blk_far h.ap o.t1.2.2.2.2.2.2.2.2.2.symm _
 li := h.li
 ll := by simpa using h.ll
 lp := h.lp
set_option maxRecDepth 100000 in
theorem Inv.setComp {X : Cx} {st : TS} {w : World} (h : Inv X st w) (o : X.Ok) (j : Nat) (x : Int) : Inv X { st with comp := st.comp.set j x } (w.setCell ⟨X.ap, j, none⟩ (.int .i64 x)) where
 hB := h.hB.setCell o.b.2.2.2.2.2 _
 hE := h.hE
 ap := by unfold arr; rw [← nums_set]; exact blk_set h.ap j _
 ki := blk_far h.ki (blk_ne h.ki h.ap (by decide)) _
 kl := blk_far h.kl (blk_ne h.kl h.ap (by decide)) _
 ks := by
  obtain ⟨v, h1, h2⟩ := h.ks
  exact ⟨v, blk_far h1 (blk_ne h1 h.ap (by decide)) _, Kd.R_far (p := ⟨X.ap, j, none⟩) h2 (fun k hk => hk.2.2.2.2) _⟩
 ke := blk_far h.ke (blk_ne h.ke h.ap (by decide)) _
 kv := blk_far h.kv (blk_ne h.kv h.ap (by decide)) _
 kp := blk_far h.kp (blk_ne h.kp h.ap (by decide)) _
 kc := blk_far h.kc o.t1.2.2.2.1 _
 km := blk_far h.km o.t1.2.2.2.2.2.2.1 _
 ai := blk_far h.ai o.t1.2.2.2.2.2.2.2.2.1 _
 al := blk_far h.al o.t1.2.2.2.2.2.2.2.2.2 _
 li := h.li
 ll := h.ll
 lp := by simpa using h.lp
set_option maxRecDepth 100000 in
theorem Inv.setStack {X : Cx} {st : TS} {w w1 : World} (h : Inv X st w) (o : X.Ok) {v : Value} {row : Option Nat} (hg : w.grownBy w1 row) (hb : Below X.w0.heap.size X.w0 w1)
 (hr : ∀ g, row = some g → X.ok g ∧ ∃ cs, w.heap[g]? = some (.cells cs 3 (0, 0))) {xs : List Int} (ho : Kd.R (Kd.int .i64) 3 w1 X.w0.heap.size X.ok v xs) :
 Inv X { st with stack := xs } (w1.setCell ⟨X.bs, 0, none⟩ v) := by
 have k3 : ∀ {g : Nat} {o1 : Obj}, w.heap[g]? = some o1 → (∀ cs, o1 ≠ .cells cs 3 (0, 0)) → w1.heap[g]? = some o1 := fun {g o1} hh hn => blk_grown hh hg (fun e => by
  obtain ⟨_, cs, hc⟩ := hr g e.symm
  rw [hh] at hc
  exact hn cs (Option.some.inj hc))
 have k1 : ∀ {g : Nat} {o1 : Obj}, w.heap[g]? = some o1 → ¬ X.ok g → w1.heap[g]? = some o1 := fun {g o1} hh hn => blk_grown hh hg (fun e => hn (hr g e.symm).1)
 obtain ⟨v0, s1, s2⟩ := h.ks
 have nx : ∀ {t : TypeId} {cs : Array Value}, Obj.cells cs t (0, 0) ≠ .cells cs t (0, 0) → False := fun hh => hh rfl
 have g1 := k3 s1 (by intro cs hh; injection hh with _ hh; exact absurd hh (by decide))
 have gi := k3 h.ki (by intro cs hh; injection hh with _ hh; exact absurd hh (by decide))
 have gl := k3 h.kl (by intro cs hh; injection hh with _ hh; exact absurd hh (by decide))
 have ge := k3 h.ke (by intro cs hh; injection hh with _ hh; exact absurd hh (by decide))
 have gv := k3 h.kv (by intro cs hh; injection hh with _ hh; exact absurd hh (by decide))
 have gp := k3 h.kp (by intro cs hh; injection hh with _ hh; exact absurd hh (by decide))
 have gc := k1 h.kc (fun hh => hh.1 rfl)
 have gm := k1 h.km (fun hh => hh.2.1 rfl)
 have ga := k1 h.ai (fun hh => hh.2.2.1 rfl)
 have gb := k1 h.al (fun hh => hh.2.2.2.1 rfl)
 have gd := k1 h.ap (fun hh => hh.2.2.2.2 rfl)
 exact {
  hB := hb.setCell o.b.2.1 _
  hE := h.hE
  kc := blk_far gc (blk_ne gc g1 (by decide)) _
  ki := blk_far gi o.t2.1.symm _
  kl := blk_far gl o.t2.2.1.symm _
  ks := ⟨v, one_setCell g1, Kd.R_set ho g1 (by intro q hq; simp [Kd.int, Kd.scalar] at hq; subst hq; decide) 0 _⟩
  ke := blk_far ge (blk_ne ge g1 (by decide)) _
  kv := blk_far gv (blk_ne gv g1 (by decide)) _
  kp := blk_far gp o.t2.2.2.symm _
  km := blk_far gm (blk_ne gm g1 (by decide)) _
  ai := blk_far ga (blk_ne ga g1 (by decide)) _
  al := blk_far gb (blk_ne gb g1 (by decide)) _
  ap := blk_far gd (blk_ne gd g1 (by decide)) _
  li := h.li
  ll := h.ll
  lp := h.lp }
set_option maxRecDepth 100000 in
theorem arr_cell {w : World} {g : Nat} {xs : List Int} (h : w.heap[g]? = some (arr xs)) (i : Int) (h0 : 0 ≤ i) (h1 : i < xs.length) : w.cell? ⟨g, i.toNat, none⟩ = some (.int .i64 (rd xs i)) := by
 rw [blk_cell h]
 have hl : i.toNat < xs.length := by omega
 simp [nums, rd, List.getElem?_eq_getElem hl]
set_option maxRecDepth 100000 in
theorem arr_free {w : World} {g : Nat} {xs : List Int} (h : w.heap[g]? = some (arr xs)) (i : Nat) : w.frozen? ⟨g, i, none⟩ = false := blk_frozen h i
end Tj
end Go.Proofs.Ytmadhaccjmakdaa
/- slices.Insert at []int, of one number: told by a row that may begin inside its block. -/
namespace Go.Proofs.Ytmadhaccjmakdaa
open Go.RowKit Go.Proofs.YtmadhaccjmakdaaW.PrintWords Go.Proofs.YtmadhaccjmakdaaW.PrintLast Go.Proofs.YtmadhaccjmakdaaW.PrintMore Go.Proofs.Ytmadhaccjmakdaa.P
namespace Rw
def RowAt (w : World) (base : Nat) (v : Value) (xs : List Int) : Prop :=
 (v = .slice none 0 0 ∧ xs = []) ∨ ∃ g off cap cur, v = .slice (some ⟨g, off, none⟩) xs.length cap ∧ base ≤ g ∧ w.heap[g]? = some (.cells cur 3 (0, 0)) ∧ xs.length ≤ cap ∧ off + cap ≤ cur.size ∧ cap ≤ maxLen ∧
  ∀ (j : Nat) (x : Int), xs[j]? = some x → cur[off + j]? = some (.int .i64 x)
set_option maxRecDepth 100000 in
theorem heap_setCells (g : Nat) (t : TypeId) : ∀ (vs : List Value) (o : Nat) (w : World) (cur : Array Value), w.heap[g]? = some (.cells cur t (0, 0)) →
 ∃ cur' : Array Value, (w.setCells g o vs).heap[g]? = some (.cells cur' t (0, 0)) ∧ cur'.size = cur.size ∧ (∀ j, j < vs.length → o + j < cur.size → cur'[o + j]? = vs[j]?) ∧ (∀ j, j < o ∨ o + vs.length ≤ j → cur'[j]? = cur[j]?)
 | [], o, w, cur, h => ⟨cur, h, rfl, fun j hj => by simp at hj, fun _ _ => rfl⟩
 | v :: r, o, w, cur, h => by
  obtain ⟨c1, h1, h2, h3, h4⟩ := heap_setCells g t r (o + 1) (w.setCell ⟨g, o, none⟩ v) _ (blk_set h o v)
  rw [Array.size_setIfInBounds] at h2
  refine ⟨c1, h1, h2, fun j hj ho => ?_, fun j hj => ?_⟩
  · cases j with
    | zero =>
     rw [h4 (o + 0) (by omega), Nat.add_zero, Array.getElem?_setIfInBounds_self_of_lt (by omega)]
     rfl
    | succ j =>
     have := h3 j (by simpa using hj) (by rw [Array.size_setIfInBounds]; omega)
     rw [show o + (j + 1) = o + 1 + j by omega, this]
     rfl
  · have hl : (v :: r).length = r.length + 1 := rfl
    rw [h4 j (by omega)]
    exact Array.getElem?_setIfInBounds_ne (by omega)
set_option maxRecDepth 100000 in
theorem grown_setCells (g : Nat) : ∀ (vs : List Value) (o : Nat) (w : World), w.grownBy (w.setCells g o vs) (some g)
 | [], _, _ => World.grownBy.refl _ _
 | v :: r, o, w => World.grownBy.trans (b := w.setCell ⟨g, o, none⟩ v) ⟨rfl, rfl, rfl, by simp, fun i hi hne => Below.heap_setCell w ⟨g, o, none⟩ v i (fun e => hne (by rw [e]))⟩ (grown_setCells g r (o + 1) _)
set_option maxRecDepth 100000 in
theorem below_cells {B b : Nat} {a : World} (hb : B ≤ b) : ∀ (vs : List Value) (o : Nat) (w : World), Below B a w → Below B a (w.setCells b o vs)
 | [], _, _, h => h
 | v :: r, o, w, h => below_cells hb r (o + 1) _ (h.setCell hb v)
set_option maxRecDepth 100000 in
theorem RowAt.kept {w w1 : World} {base : Nat} {v : Value} {xs : List Int} (h : RowAt w base v xs) (hk : ∀ k, v.ownBlock = some k → w1.heap[k]? = w.heap[k]?) : RowAt w1 base v xs := by
 rcases h with h | ⟨g, off, cap, cur, rfl, hb, hh, r⟩
 · exact .inl h
 · exact .inr ⟨g, off, cap, cur, rfl, hb, by rw [hk g (by simp [Value.ownBlock])]; exact hh, r⟩
set_option maxRecDepth 100000 in
theorem RowAt.lt {w : World} {base : Nat} {v : Value} {xs : List Int} (h : RowAt w base v xs) : ∀ k, v.ownBlock = some k → base ≤ k ∧ k < w.heap.size ∧ ∃ cur, w.heap[k]? = some (.cells cur 3 (0, 0)) := by
 intro k hk
 rcases h with ⟨rfl, _⟩ | ⟨g, off, cap, cur, rfl, hb, hh, r⟩
 · simp [Value.ownBlock] at hk
 · obtain rfl : g = k := by simpa [Value.ownBlock] using hk
   exact ⟨hb, blk_lt hh, cur, hh⟩
set_option maxRecDepth 100000 in
theorem RowAt.slice {w : World} {base : Nat} {v : Value} {xs : List Int} (h : RowAt w base v xs) : ∃ A c, v = .slice A xs.length c ∧ xs.length ≤ c ∧ c ≤ maxLen := by
 rcases h with ⟨rfl, rfl⟩ | ⟨g, off, cap, cur, rfl, hb, hh, hl, _, hm, _⟩
 · exact ⟨none, 0, rfl, Nat.le_refl _, Nat.zero_le _⟩
 · exact ⟨_, cap, rfl, hl, hm⟩
def ins (xs : List Int) (i : Nat) (x : Int) : List Int := xs.take i ++ x :: xs.drop i
set_option maxRecDepth 100000 in
theorem ins_length (xs : List Int) (i : Nat) (x : Int) (hi : i ≤ xs.length) : (ins xs i x).length = xs.length + 1 := by
 simp [ins]
 omega
set_option maxRecDepth 100000 in
theorem ins_at (xs : List Int) (i : Nat) (x : Int) (hi : i ≤ xs.length) (j : Nat) : (ins xs i x)[j]? = if j < i then xs[j]? else if j = i then some x else xs[j - 1]? := by
 unfold ins
 have hl : (xs.take i).length = i := by simp; omega
 by_cases h1 : j < i
 · rw [if_pos h1, List.getElem?_append_left (by omega), List.getElem?_take_of_lt h1]
 · rw [if_neg h1, List.getElem?_append_right (by omega), hl]
   by_cases h2 : j = i
   · subst h2
     rw [if_pos rfl, Nat.sub_self]
     rfl
   · rw [if_neg h2]
     obtain ⟨m, rfl⟩ : ∃ m, j = i + 1 + m := ⟨j - i - 1, by omega⟩
     rw [show i + 1 + m - i = m + 1 by omega, List.getElem?_cons_succ, List.getElem?_drop]
     congr 1
     omega
set_option maxRecDepth 100000 in
theorem zero_size (n : Nat) : (Builtin.zeroCells (Value.int .i64 0).cells n).size = n := by simp [Builtin.zeroCells, Value.cells]
set_option maxRecDepth 100000 in
theorem new_row {w1 : World} {base g G : Nat} {cur : Array Value} {ys : List Int} (hh : w1.heap[g]? = some (.cells cur 3 (0, 0))) (hb : base ≤ g) (hs : cur.size = G) (hG : G ≤ maxLen) (hl : ys.length ≤ G) (hc : ∀ (j : Nat) (y : Int), ys[j]? = some y → cur[j]? = some (.int .i64 y)) :
 RowAt w1 base (.slice (some ⟨g, 0, none⟩) ys.length G) ys :=
 .inr ⟨g, 0, G, cur, rfl, hb, hh, hl, by omega, hG, fun j y hj => by rw [Nat.zero_add]; exact hc j y hj⟩
set_option maxRecDepth 100000 in
theorem insert_calls (w : World) (base : Nat) (v : Value) (xs : List Int) (i : Nat) (x : Int) (vb : Nat) (h : RowAt w base v xs) (hi : i ≤ xs.length) (hbig : (xs.length + 1) * 8 ≤ 140737488355328)
 (hv : w.heap[vb]? = some (.cells #[.int .i64 x] 3 (0, 0))) (hne : v.ownBlock ≠ some vb) (hbase : base ≤ w.heap.size) :
 Calls Try.prog 54 #[v, .int .i64 i, .slice (some ⟨vb, 0, none⟩) 1 1] w fun e w' => ∃ v', e = .returned v' ∧ RowAt w' base v' (ins xs i x) ∧ w.grownBy w' v.ownBlock ∧ (v'.ownBlock = v.ownBlock ∨ ∃ b, v'.ownBlock = some b ∧ w.heap.size ≤ b) := by
 have hvs : ∀ j u, [Value.int .i64 x][j]? = some u → w.cell? ⟨vb, 0 + j, none⟩ = some u := by
  intro j u hu
  rw [Nat.zero_add, blk_cell hv]
  simpa using hu
 have h1v : ∀ u ∈ [Value.int .i64 x], u.oneCell' = true := by intro u hu; rw [List.mem_singleton.1 hu]; rfl
 have h1c : ∀ u ∈ xs.map (Value.int .i64), u.oneCell' = true := by
  intro u hu
  obtain ⟨y, _, rfl⟩ := List.mem_map.1 hu
  rfl
 have hlen := ins_length xs i x hi
 have T3 : Try.lays21_ren.t 3 = 3 := rfl
 have fin : ∀ (c : Nat) (w1 : World) (cur : Array Value), w1.heap[w.heap.size]? = some (.cells cur 3 (0, 0)) → cur.size = grownCap w (xs.length + 1) c 3 → (∀ (j : Nat) (y : Int), (ins xs i x)[j]? = some y → cur[j]? = some (.int .i64 y)) → w.grownBy w1 v.ownBlock →
  ∃ v', (Ending.returned (.slice (some ⟨w.heap.size, 0, none⟩) (xs.length + 1) (grownCap w (xs.length + 1) c 3))) = .returned v' ∧ RowAt w1 base v' (ins xs i x) ∧ w.grownBy w1 v.ownBlock ∧ (v'.ownBlock = v.ownBlock ∨ ∃ b, v'.ownBlock = some b ∧ w.heap.size ≤ b) := by
  intro c w1 cur hh hs hc hg
  refine ⟨_, rfl, ?_, hg, .inr ⟨w.heap.size, by simp [Value.ownBlock], Nat.le_refl _⟩⟩
  rw [← hlen]
  refine new_row hh hbase (by rw [hs, hlen]) (by rw [hlen]; exact grownCap_le_maxLen _ _ _ _ (by unfold maxLen; omega)) (by rw [hlen]; exact grownCap_ge _ _ _ _) hc
 have grownAlloc : ∀ (o : Obj), w.grownBy (w.drew.alloc o) v.ownBlock := fun o => grown_of_below (below_alloc (below_drew (Below.refl _ _)) o) _
 rcases h with ⟨rfl, rfl⟩ | ⟨g, off, cap, cur, rfl, hb, hh, hl, hsz, hm, hc⟩
 · obtain rfl : i = 0 := by simpa using hi
   refine (Any2.slices_Insert_int_end_grow Try.lays21 none 0 0 vb 0 1 1 [] [.int .i64 x] w (by decide) (by decide) (by decide) (by decide) rfl rfl (fun _ => rfl) (fun a ha => by cases ha) hvs h1v).mono ?_
   rintro e w1 ⟨he, hw⟩
   rw [T3] at he hw
   subst he hw
   refine fin 0 _ _ (blk_new _ _) ?_ ?_ (grownAlloc _)
   · rw [Array.size_append, zero_size]
     have := grownCap_ge w (0 + 1) 0 3
     show 1 + (grownCap w (0 + 1) 0 3 - (0 + 1)) = grownCap w (0 + 1) 0 3
     omega
   · intro j y hj
     have hj0 : j = 0 := by
      have := (List.getElem?_eq_some_iff.1 hj).1
      rw [hlen] at this
      simpa using this
     subst hj0
     rw [Array.getElem?_append_left (by simp)]
     simp [ins] at hj ⊢
     exact hj
 · have hcs : ∀ j u, (xs.map (Value.int .i64))[j]? = some u → w.cell? ⟨g, off + j, none⟩ = some u := by
    intro j u hu
    rw [List.getElem?_map] at hu
    obtain ⟨y, hy, rfl⟩ := Option.map_eq_some_iff.1 hu
    rw [blk_cell hh]
    exact hc j y hy
   have hsp : ∀ j, j < cap → (w.cell? ⟨g, off + j, none⟩).isSome = true := by
    intro j hj
    rw [blk_cell hh]
    simp
    omega
   have hfz : ∀ j, w.frozen? ⟨g, j, none⟩ = false := fun j => blk_frozen hh j
   have hvg : vb ≠ g := fun e => hne (by rw [e]; simp [Value.ownBlock])
   have hown : (Value.slice (some ⟨g, off, none⟩) xs.length cap).ownBlock = some g := by simp [Value.ownBlock]
   by_cases hroom : xs.length + 1 ≤ cap
   · by_cases hin : i < xs.length
     · have hsa : w.shape? vb = some (3, 1) := by simp [World.shape?, hv]
       have hsb : w.shape? g = some (3, cur.size) := by simp [World.shape?, hh]
       refine (Any2.slices_Insert_int_shift Try.lays21 g off xs.length cap i vb 0 1 1 (xs.map (Value.int .i64)) [.int .i64 x] w hin (by decide) hroom (by unfold maxLen at hm; omega) hvg (by simp) rfl hcs (fun j hj => hsp j (by omega)) (fun j _ => hfz _) hvs h1c h1v 3 3 1 cur.size hsa hsb (by omega) (blk_frozen hv _) (blk_frozen hv _)).mono ?_
       rintro e w1 ⟨rfl, rfl⟩
       obtain ⟨c1, k1, k2, k3, k4⟩ := heap_setCells g 3 ((xs.map (Value.int .i64)).drop i) (off + (i + 1)) w.drew cur hh
       obtain ⟨c2, m1, m2, m3, m4⟩ := heap_setCells g 3 [.int .i64 x] (off + i) _ c1 k1
       refine ⟨_, rfl, ?_, (World.grownBy.trans (grown_of_below (below_drew (Below.refl _ _)) _) (World.grownBy.trans (grown_setCells g _ _ _) (grown_setCells g _ _ _))), .inl (by simp [Value.ownBlock])⟩
       rw [← hlen]
       refine .inr ⟨g, off, cap, c2, rfl, hb, m1, by omega, by omega, hm, fun j y hj => ?_⟩
       have hjl := (List.getElem?_eq_some_iff.1 hj).1
       rw [hlen] at hjl
       rw [ins_at _ _ _ hi] at hj
       by_cases h1 : j < i
       · rw [if_pos h1] at hj
         rw [m4 (off + j) (by omega), k4 (off + j) (by omega)]
         exact hc j y hj
       · rw [if_neg h1] at hj
         by_cases h2 : j = i
         · subst h2
           rw [if_pos rfl] at hj
           have := m3 0 (by simp) (by omega)
           rw [Nat.add_zero] at this
           rw [this]
           simpa using hj
         · rw [if_neg h2] at hj
           have hd : (xs.map (Value.int .i64)).drop i = ((xs.drop i).map (Value.int .i64)) := List.map_drop.symm
           have := k3 (j - (i + 1)) (by rw [hd, List.length_map, List.length_drop]; omega) (by omega)
           rw [m4 (off + j) (by simp; omega), show off + j = off + (i + 1) + (j - (i + 1)) by omega, this, hd, List.getElem?_map, List.getElem?_drop, show i + (j - (i + 1)) = j - 1 by omega, hj]
           rfl
     · obtain rfl : i = xs.length := by omega
       refine (Any2.slices_Insert_int_end_room Try.lays21 g off xs.length cap vb 0 1 1 [.int .i64 x] w (by decide) hroom (by unfold maxLen at hm; omega) rfl (fun j hj => by rw [Nat.add_assoc]; exact hsp _ (by omega)) (fun j _ => by rw [Nat.add_assoc]; exact hfz _) hvs h1v).mono ?_
       rintro e w1 ⟨rfl, rfl⟩
       obtain ⟨c2, m1, m2, m3, m4⟩ := heap_setCells g 3 [.int .i64 x] (off + xs.length) w cur hh
       refine ⟨_, rfl, ?_, grown_setCells g _ _ _, .inl (by simp [Value.ownBlock])⟩
       rw [← hlen]
       refine .inr ⟨g, off, cap, c2, rfl, hb, m1, by omega, by omega, hm, fun j y hj => ?_⟩
       have hjl := (List.getElem?_eq_some_iff.1 hj).1
       rw [hlen] at hjl
       rw [ins_at _ _ _ hi] at hj
       by_cases h1 : j < xs.length
       · rw [if_pos h1] at hj
         rw [m4 (off + j) (by omega)]
         exact hc j y hj
       · obtain rfl : j = xs.length := by omega
         rw [if_neg h1, if_pos rfl] at hj
         have := m3 0 (by simp) (by omega)
         rw [Nat.add_zero] at this
         rw [this]
         simpa using hj
   · by_cases hin : i < xs.length
     · refine (Any2.slices_Insert_int_grow Try.lays21 g off xs.length cap i vb 0 1 1 (xs.map (Value.int .i64)) [.int .i64 x] w hin (by decide) hl (by omega) hbig (by simp) rfl hcs hvs h1c h1v).mono ?_
       rintro e w1 ⟨he, hw⟩
       rw [T3] at he hw
       subst he hw
       have hG := grownCap_ge w (xs.length + 1) cap 3
       obtain ⟨c1, k1, k2, k3, k4⟩ := heap_setCells w.heap.size 3 [.int .i64 x] i (w.alloc (.cells (((xs.map (Value.int .i64)).take i).toArray ++ Builtin.zeroCells (Value.int .i64 0).cells (xs.length + 1 - i) ++ Builtin.zeroCells (Value.int .i64 0).cells (grownCap w (xs.length + 1) cap 3 - (xs.length + 1))) 3)).drew _ (blk_new w _)
       obtain ⟨c2, m1, m2, m3, m4⟩ := heap_setCells w.heap.size 3 ((xs.map (Value.int .i64)).drop i) (i + 1) _ c1 (blk_drew k1)
       have hsz1 : c1.size = grownCap w (xs.length + 1) cap 3 := by
        rw [k2, Array.size_append, Array.size_append, zero_size, zero_size]
        simp
        omega
       refine fin cap _ c2 m1 (by rw [m2, hsz1]) (fun j y hj => ?_) ?_
       · have hjl := (List.getElem?_eq_some_iff.1 hj).1
         rw [hlen] at hjl
         rw [ins_at _ _ _ hi] at hj
         by_cases h1 : j < i
         · rw [if_pos h1] at hj
           rw [m4 j (by omega), k4 j (by omega), Array.append_assoc, Array.getElem?_append_left (by simp; omega)]
           simp [h1, hj]
         · rw [if_neg h1] at hj
           by_cases h2 : j = i
           · subst h2
             rw [if_pos rfl] at hj
             have := k3 0 (by simp) (by rw [← k2, hsz1]; omega)
             rw [Nat.add_zero] at this
             rw [m4 j (by omega), this]
             simpa using hj
           · rw [if_neg h2] at hj
             have hd : (xs.map (Value.int .i64)).drop i = ((xs.drop i).map (Value.int .i64)) := List.map_drop.symm
             have := m3 (j - (i + 1)) (by rw [hd, List.length_map, List.length_drop]; omega) (by rw [hsz1]; omega)
             rw [show j = i + 1 + (j - (i + 1)) by omega, this, hd, List.getElem?_map, List.getElem?_drop, show i + (j - (i + 1)) = j - 1 by omega, hj]
             rfl
       · exact grown_of_below (below_cells (Nat.le_refl _) _ _ _ (below_drew (below_cells (Nat.le_refl _) _ _ _ (below_drew (below_alloc (Below.refl _ _) _))))) _
     · obtain rfl : i = xs.length := by omega
       refine (Any2.slices_Insert_int_end_grow Try.lays21 (some ⟨g, off, none⟩) xs.length cap vb 0 1 1 (xs.map (Value.int .i64)) [.int .i64 x] w (by decide) hl (by omega) hbig (by simp) rfl (fun h => by cases h) (fun a ha j u hu => by cases ha; rw [Addr.add_lit]; exact hcs j u hu) hvs h1v).mono ?_
       rintro e w1 ⟨he, hw⟩
       rw [T3] at he hw
       subst he hw
       have hG := grownCap_ge w (xs.length + 1) cap 3
       refine fin cap _ _ (blk_new _ _) ?_ ?_ (grownAlloc _)
       · rw [Array.size_append, zero_size]
         simp
         omega
       · intro j y hj
         have hjl := (List.getElem?_eq_some_iff.1 hj).1
         rw [hlen] at hjl
         rw [Array.getElem?_append_left (by simp; omega)]
         rw [ins_at _ _ _ hi] at hj
         by_cases h1 : j < xs.length
         · rw [if_pos h1] at hj
           have hj' := (List.getElem?_eq_some_iff.1 hj).2
           simp [List.getElem?_append_left, h1, hj']
         · obtain rfl : j = xs.length := by omega
           rw [if_neg h1, if_pos rfl] at hj
           simp at hj ⊢
           exact hj
end Rw
end Go.Proofs.Ytmadhaccjmakdaa
/- The search for a place among the waiting components: the comparing function and slices.BinarySearchFunc with it. -/
namespace Go.Proofs.Ytmadhaccjmakdaa
open Go.RowKit Go.Proofs.YtmadhaccjmakdaaW.PrintWords Go.Proofs.YtmadhaccjmakdaaW.PrintLast Go.Proofs.YtmadhaccjmakdaaW.PrintMore Go.Proofs.Ytmadhaccjmakdaa.P
namespace Od
open Tj Rw
def first (ms : List (List Int)) (d : Int) : Int := rd (row ms d) 0
abbrev Fine (ms : List (List Int)) (d : Int) : Prop := 0 ≤ d ∧ d < ms.length ∧ 0 < (row ms d).length ∧ 0 ≤ first ms d ∧ first ms d < 4611686018427387904
structure MsAt (W1 : World) (bm : Nat) (ms : List (List Int)) : Prop where
 cell : ∃ A c, W1.heap[bm]? = some (.cells #[.slice A ms.length c] 47 (0, 0)) ∧ Kd.C (Kd.slice 3 (Kd.int .i64)) W1 A ms.length ms
set_option maxRecDepth 100000 in
set_option maxHeartbeats 4000000 in
theorem cmp_calls (W1 w : World) (bm : Nat) (ms : List (List Int)) (d t : Int) (M : MsAt W1 bm ms) (hb : Below W1.heap.size W1 w) (hd : Fine ms d) (ht0 : 0 ≤ t) (ht1 : t < 4611686018427387904) :
 Calls Try.prog 53 #[.int .i64 d, .int .i64 t, P1 bm] w fun e w' => e = .returned (.int .i64 (first ms d - t)) ∧ w = w' := by
 obtain ⟨h0, h1, h2, h3, h4⟩ := hd
 obtain ⟨A, c, k1, k2⟩ := M.cell
 clear M
 have c1 := cell_of_one (blk_below k1 hb)
 obtain ⟨ad, A0, c0, rfl, hx, hl0, hi0⟩ := at_L11 k2 d h0 h1
 have hx1 := (hb.cell (World.block_lt_of_cell? _ _ hx)).trans hx
 have el : rd_L11 ms d = row ms d := rfl
 rw [el] at hx1 hi0
 obtain ⟨ad2, rfl, hy⟩ := Kd.at_int hi0 0 (by omega) (by omega)
 have hy1 := (hb.cell (World.block_lt_of_cell? _ _ hy)).trans hy
 rw [show ((0 : Int)).toNat = 0 from rfl] at hy1
 have hz : (0 < (row ms d).length) = True := eq_true h2
 have q1 := eq_true h0
 have q2 := eq_true h1
 clear k1 k2 hx hy hl0 hi0 el hb
 have ef : rd (row ms d) 0 = first ms d := rfl
 rw [ef] at hy1
 clear ef h0 h1
 rw [Addr.add_zero'] at hy1
 go_enter Try.func53, Try.ntmps53
 go_wp2
 go_ret
 exact ⟨rfl, rfl⟩
def pos (ms : List (List Int)) (t : Int) (xs : List Int) : Nat := xs.countP fun d => decide (first ms d < t)
set_option maxRecDepth 100000 in
theorem pos_of {ms : List (List Int)} {t : Int} {xs : List Int} {i : Nat} (hi : i ≤ xs.length) (h1 : ∀ j x, xs[j]? = some x → j < i → first ms x < t) (h2 : ∀ j x, xs[j]? = some x → i ≤ j → ¬ first ms x < t) : pos ms t xs = i := by
 unfold pos
 have e : xs = xs.take i ++ xs.drop i := (List.take_append_drop i xs).symm
 rw [e, List.countP_append]
 have a1 : (xs.take i).countP (fun d => decide (first ms d < t)) = (xs.take i).length := by
  rw [List.countP_eq_length]
  intro x hx
  obtain ⟨j, hj, hjx⟩ := List.mem_iff_getElem.1 hx
  have hjl : j < i := by simp at hj; omega
  refine decide_eq_true (h1 j x ?_ hjl)
  rw [← List.getElem?_take_of_lt hjl, List.getElem?_eq_getElem hj, hjx]
 have a2 : (xs.drop i).countP (fun d => decide (first ms d < t)) = 0 := by
  rw [List.countP_eq_zero]
  intro x hx
  obtain ⟨j, hj, hjx⟩ := List.mem_iff_getElem.1 hx
  have := h2 (i + j) x (by rw [← List.getElem?_drop, List.getElem?_eq_getElem hj, hjx]) (by omega)
  simpa using this
 rw [a1, a2]
 simp
 omega
def fnd (ms : List (List Int)) (t : Int) (xs : List Int) : Bool := match xs[pos ms t xs]? with | some x => first ms x - t == 0 | none => false
set_option maxRecDepth 100000 in
theorem fnd_some {ms : List (List Int)} {t : Int} {xs : List Int} {i : Nat} {x : Int} (h : pos ms t xs = i) (hx : xs[i]? = some x) : fnd ms t xs = (first ms x - t == 0) := by
 unfold fnd
 rw [h, hx]
set_option maxRecDepth 100000 in
theorem fnd_none {ms : List (List Int)} {t : Int} {xs : List Int} {i : Nat} (h : pos ms t xs = i) (hx : xs.length ≤ i) : fnd ms t xs = false := by
 unfold fnd
 rw [h, List.getElem?_eq_none hx]
set_option maxRecDepth 100000 in
theorem ret_two {n m : Int} {b c : Bool} (h : n = m) (hb : b = c) : Ending.returned (.tuple #[.int .i64 n, .bool b]) = .returned (.tuple #[.int .i64 m, .bool c]) := by rw [h, hb]
abbrev FoundAt (n : Nat) (b : Bool) (w : World) (e : Ending) (w' : World) : Prop := e = .returned (.tuple #[.int .i64 (n : Int), .bool b]) ∧ w' = w
set_option maxRecDepth 100000 in
set_option maxHeartbeats 4000000 in
theorem bsf_calls (W1 w : World) (bm : Nat) (ms : List (List Int)) (t : Int) (base : Nat) (v : Value) (xs : List Int) (M : MsAt W1 bm ms) (hb : Below W1.heap.size W1 w) (hR : RowAt w base v xs) (hd : ∀ d ∈ xs, Fine ms d) (ht0 : 0 ≤ t) (ht1 : t < 4611686018427387904)
 (hs : xs.Pairwise (fun a b => first ms a ≤ first ms b)) (hlen : xs.length < 17592186044416) :
 Calls Try.prog 52 #[v, .int .i64 t, .func (.func 53) #[] #[P1 bm]] w (FoundAt (pos ms t xs) (fnd ms t xs) w) := by
 have HM := Aside0.mk M
 have HB := Aside0.mk hb
 have HR := Aside0.mk hR
 have HD := Aside0.mk hd
 have HS := Aside0.mk hs
 obtain ⟨A, c, rfl, hlc, hcm⟩ := hR.slice
 have CMP := Aside0.mk (fun (d : Int) (hd : d ∈ xs) => cmp_calls W1 w bm ms d t M hb (HD.out d hd) ht0 ht1)
 have CELL := Aside0.mk (show ∀ (j : Nat) (d : Int), xs[j]? = some d → ∃ g off, A = some ⟨g, off, none⟩ ∧ w.cell? ⟨g, off + j, none⟩ = some (.int .i64 d) from by
  intro j d hj
  rcases HR.out with ⟨h1, h2⟩ | ⟨g, off, cap, cur, h1, -, hh, -, -, -, hc⟩
  · subst h2; simp at hj
  · injection h1 with h1
    exact ⟨g, off, h1, by rw [blk_cell hh]; exact hc j d hj⟩)
 clear M hb hR hd hs
 go_enter Try.func52, Try.ntmps52
 go_wp2_with fail
 go_loopg [9, 10] xs.length (fun kq v9 v10 w' => ∃ (i j : Nat), v9 = .int .i64 i ∧ v10 = .int .i64 j ∧ Aside0 (i ≤ j ∧ j ≤ xs.length ∧ j - i ≤ kq) ∧ Aside0 (w' = w) ∧ Aside0 (∀ m x, xs[m]? = some x → m < i → first ms x < t) ∧ Aside0 (∀ m x, xs[m]? = some x → j ≤ m → ¬ first ms x < t))
 case atStart => exact ⟨0, xs.length, rfl, rfl, ⟨Nat.zero_le _, Nat.le_refl _, by omega⟩, ⟨rfl⟩, ⟨fun m x _ h => by omega⟩, ⟨fun m x h1 h2 => by have := (List.getElem?_eq_some_iff.1 h1).1; omega⟩⟩
 case round => as_aux_lemma =>
  obtain ⟨i, j, rfl, rfl, HI, HW, H1, H2⟩ := hrel
  obtain ⟨b1, b2, b3⟩ := HI.out
  have hw := HW.out
  subst hw
  by_cases hij : i < j
  · as_aux_lemma =>
    obtain ⟨k1, rfl⟩ : ∃ m, gk = m + 1 := ⟨gk - 1, by omega⟩
    obtain ⟨h, hh⟩ : ∃ h : Nat, h = (i + j) / 2 := ⟨_, rfl⟩
    have hi1 : i ≤ h := by omega
    have hj1 : h < j := by omega
    have HH := Aside0.mk hh
    clear hh
    go_upto_region 5 with fail
    have hq : ((i : Int) + (j : Int)) / 2 = (h : Int) := by have := HH.out; omega
    rw [hq]
    clear hq
    obtain ⟨x, hx⟩ : ∃ x, xs[h]? = some x := ⟨xs[h]'(by omega), List.getElem?_eq_getElem _⟩
    have HX := Aside0.mk hx
    have hmem := Aside0.mk (List.mem_of_getElem? hx)
    obtain ⟨g, off, rfl, hcell⟩ := CELL.out h x hx
    clear hx
    have hsort : ∀ (a b : Nat) (x y : Int), a < b → xs[a]? = some x → xs[b]? = some y → first ms x ≤ first ms y := by
     intro a b x y hab ha hb
     obtain ⟨ha1, ha2⟩ := List.getElem?_eq_some_iff.1 ha
     obtain ⟨hb1, hb2⟩ := List.getElem?_eq_some_iff.1 hb
     have := List.pairwise_iff_getElem.1 HS.out a b ha1 hb1 hab
     rw [ha2, hb2] at this
     exact this
    have HSO := Aside0.mk hsort
    clear hsort
    have hlh : h < xs.length := by omega
    by_cases hlt : first ms x < t
    · as_aux_lemma =>
      have t1 : decide (first ms x - t < 0) = true := decide_eq_true (by omega)
      have t2 : decide (first ms x < t) = true := decide_eq_true hlt
      have HLT := Aside0.mk hlt
      clear hlt
      go_wp2_with (go_at_call 53; refine (CMP.out x hmem.out).mono ?_; rintro e w' ⟨rfl, rfl⟩)
      go_roundg k1
      case measure => omega
      case rel =>
       refine ⟨h + 1, j, by go_num, rfl, ⟨by omega, b2, by have := HH.out; omega⟩, ⟨rfl⟩, ⟨fun m y hy hm => ?_⟩, H2⟩
       have := HLT.out
       rcases Nat.lt_or_ge m h with h1 | h1
       · have := HSO.out m h y x h1 hy HX.out
         omega
       · obtain rfl : m = h := by omega
         rw [HX.out] at hy
         cases hy
         exact this
    · as_aux_lemma =>
      have t1 : decide (first ms x - t < 0) = false := decide_eq_false (by omega)
      have t2 : decide (first ms x < t) = false := decide_eq_false hlt
      have HLT := Aside0.mk hlt
      clear hlt
      go_wp2_with (go_at_call 53; refine (CMP.out x hmem.out).mono ?_; rintro e w' ⟨rfl, rfl⟩)
      go_roundg k1
      case measure => omega
      case rel =>
       refine ⟨i, h, rfl, rfl, ⟨by omega, by omega, by have := HH.out; omega⟩, ⟨rfl⟩, H1, ⟨fun m y hy hm => ?_⟩⟩
       have := HLT.out
       rcases Nat.lt_or_ge h m with h1 | h1
       · have := HSO.out h m x y h1 HX.out hy
         omega
       · obtain rfl : m = h := by omega
         rw [HX.out] at hy
         cases hy
         exact this
  · as_aux_lemma =>
    obtain rfl : i = j := by omega
    have HP := Aside0.mk (pos_of b2 H1.out H2.out)
    by_cases hin : i < xs.length
    · as_aux_lemma =>
      obtain ⟨x, hx⟩ : ∃ x, xs[i]? = some x := ⟨xs[i]'hin, List.getElem?_eq_getElem _⟩
      have hmem := Aside0.mk (List.mem_of_getElem? hx)
      obtain ⟨g, off, rfl, hcell⟩ := CELL.out i x hx
      have HF := Aside0.mk (fnd_some HP.out hx)
      clear hx
      have t3 : decide (i < xs.length) = true := decide_eq_true hin
      go_wp2_with (go_at_call 53; refine (CMP.out x hmem.out).mono ?_; rintro e w' ⟨rfl, rfl⟩)
      go_ret2
      exact ⟨ret_two (by rw [HP.out]) (by rw [HF.out]), rfl⟩
    · as_aux_lemma =>
      have t3 : decide (i < xs.length) = false := decide_eq_false hin
      go_wp2_with fail
      go_ret2
      exact ⟨ret_two (by rw [HP.out]) (by rw [fnd_none HP.out (by omega)]), rfl⟩
end Od
end Go.Proofs.Ytmadhaccjmakdaa
