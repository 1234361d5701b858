/- Part 4 of 6 of one proof: The examples' function returns true -/
import Derived.Lib.SliceRun
import Derived.WalkSpells
import Derived.Test.YtmadhaccjmakdaaMSorted1
import Derived.Test.YtmadhaccjmakdaaMSorted2
import Derived.Test.YtmadhaccjmakdaaMSorted3
set_option linter.unusedVariables false
set_option linter.unusedSimpArgs false
set_option maxHeartbeats 8000000
set_option maxRecDepth 100000
namespace Go.Proofs.Ytmadhaccjmakdaa.P
open Go.RowKit Go.Proofs.Yw.A Go.Proofs.Yw.A.Kd Go.Proofs.Yw.B Go.Proofs.Yw.C
attribute [local go_sem] str_gtr str_leq str_geq max2_int min2_int max_two min_two max_three min_three max_four min_four
noncomputable def m_Levels.l0 : Nat -> List (List ByteArray) -> List (List Int) -> Int -> Int -> List ByteArray -> List (List Int) -> Option ((List (List ByteArray)) × Int × ByteArray × Int × Int)
 | 0, _, _, _, _, _, _ => none
 | k + 1, x8, x26, x27, x28, x214000, x214001 => if x28 < x27 then (if 0 <= x28 then (if x28 < (x26.length : Int) then ((p_named.f k x214000 x214001 (rd_L11 x26 x28)).bind fun t220 => (if x8.length < 5864062014805 then (m_Levels.l0 k (x8 ++ [t220]) x26 x27 (wrap64 (x28 + 1)) x214000 x214001) else (none))) else (none)) else (none)) else (some (x8, 0, (⟨#[]⟩ : ByteArray), 0, 0))
noncomputable def m_Levels.f (k : Nat) (l0 : List (S42)) : Option ((List (List ByteArray)) × Int × ByteArray × Int × Int) := (m_acyclic.f k l0).bind fun bt203 => (if bt203.2.2.1 = 0 then ((g_Levels.f bt203.2.1).bind fun bt215 => (m_Levels.l0 k ([] : List (List ByteArray)) bt215.1 (bt215.1.length : Int) 0 bt203.1 bt203.2.1)) else (some (([] : List (List ByteArray)), bt203.2.2.1, bt203.2.2.2.1, bt203.2.2.2.2.1, bt203.2.2.2.2.2)))
theorem m_Levels.calls (k : Nat) (A0 : Option Addr) (c0 : Nat) (l0 : List (S42)) (r1 : List (List ByteArray)) (r2 : Int) (r3 : ByteArray) (r4 : Int) (r5 : Int) (w : World) (hr0 : Kd.C k42 w A0 l0.length l0) (hc0 : l0.length <= c0) (h : m_Levels.f k l0 = some (r1, r2, r3, r4, r5)) :
 Calls Try.prog 12 #[.slice A0 l0.length c0] w fun e w' => ∃ v0_ : Value, e = .returned (.tuple #[v0_, .agg #[.int .i64 r2, .string r3, .int .i64 r4, .int .i64 r5]]) /\ Kd.S (Kd.slice 9 Kd.string) 25 w' w.heap.size (fun _ => True) v0_ r1 /\ Below w.heap.size w w' := by
 have hu28 := Try.underlying28
 have hu51 := Try.underlying51
 have hu49 := Try.underlying49
 have HR0 := aM hr0
 have HC0 := aM hc0
 clear hr0 hc0
 have HB := aM (Below.refl w.heap.size w)
 have H : ((m_acyclic.f k l0).bind fun bt203 => (if bt203.2.2.1 = 0 then ((g_Levels.f bt203.2.1).bind fun bt215 => (m_Levels.l0 k ([] : List (List ByteArray)) bt215.1 (bt215.1.length : Int) 0 bt203.1 bt203.2.1)) else (some (([] : List (List ByteArray)), bt203.2.2.1, bt203.2.2.2.1, bt203.2.2.2.2.1, bt203.2.2.2.2.2)))) = some (r1, r2, r3, r4, r5) := h
 clear h
 replace H := Option.bind_eq_some_iff.mp H
 obtain ⟨⟨t203, t206, t209, t210, t211, t212⟩, A20, H⟩ := H
 replace H : (if t209 = 0 then ((g_Levels.f t206).bind fun bt215 => (m_Levels.l0 k ([] : List (List ByteArray)) bt215.1 (bt215.1.length : Int) 0 t203 t206)) else (some (([] : List (List ByteArray)), t209, t210, t211, t212))) = some (r1, r2, r3, r4, r5) := H
 have A2 := aM A20
 clear A20
 by_cases c3 : t209 = 0
 rotate_left
 · rw [if_neg c3] at H
   have c3b0 : (t209 == 0) = false := beq_eq_false_iff_ne.mpr c3
   have c3b1 : (t209 != 0) = true := bne_iff_ne.mpr c3
   simp only [Option.some.injEq, Prod.mk.injEq] at H
   obtain ⟨rfl, rfl, rfl, rfl, rfl⟩ := H
   go_enter Try.func12, Try.ntmps12
   try go_wp2_with (first | ((with_reducible refine gate_dst (N := 3) rfl ?_); refine be 3 rfl rfl #[.int .i64 0, .string (⟨#[]⟩ : ByteArray), .int .i64 0, .int .i64 0] 28 ?_; intro gb202 hg w32 hbox hb; have BK202 := aM hbox; have GE202 := gs hg HB; replace HB := bs HB hb; clear hb hbox hg) | ((with_reducible refine gate_callee (f := 24) rfl ?_); refine gL (some 13) rfl rfl Try.func24 (by kernel_rfl) rfl #[.slice A0 l0.length c0] rfl ?_; (with_reducible refine (m_acyclic.calls k _ _ l0 t203 t206 t209 t210 t211 t212 _ ?side1 ?side2 A2.1).mono ?_); (case side1 => exact cb HR0 HB); (case side2 => exact HC0.1); rintro e w33 ⟨v204, v207, rfl, ho0, ho1, hb⟩; refine ⟨_, rfl, ?_⟩; have HO205 := aM (R_lower ho0 (below_size (hh HB))); have HO208 := aM (S_lower ho1 (below_size (hh HB))); replace BK202 := kb BK202 hb; replace HB := bs HB hb; clear hb ho0 ho1) | ((with_reducible refine gate_dst (N := 4) rfl ?_); refine be 4 rfl rfl #[.slice none 0 0, .slice none 0 0] 51 ?_; intro gb213 hg w34 hbox hb; have BK213 := aM hbox; have GE213 := gs hg HB; have NB202_213 := nl hg BK202; have NB213_202 := nr hg BK202; replace HO205 := rb HO205 hb; replace HO208 := sb HO208 hb; replace BK202 := kb BK202 hb; replace HB := bs HB hb; clear hb hbox hg) | ((with_reducible refine gate_dst (N := 5) rfl ?_); refine be 5 rfl rfl #[.int .i64 0, .string (⟨#[]⟩ : ByteArray), .int .i64 0, .int .i64 0] 28 ?_; intro gb214 hg w35 hbox hb; have BK214 := aM hbox; have GE214 := gs hg HB; have NB202_214 := nl hg BK202; have NB214_202 := nr hg BK202; have NB213_214 := nl hg BK213; have NB214_213 := nr hg BK213; replace HO205 := rb HO205 hb; replace HO208 := sb HO208 hb; replace BK202 := kb BK202 hb; replace BK213 := kb BK213 hb; replace HB := bs HB hb; clear hb hbox hg; obtain ⟨Ao36, co36, eo36⟩ := R_slice HO205.1; subst eo36; have hnb37 := NB213_202.1; have hnc37 := NB202_213.1; have hnb38 := NB213_214.1; have hnc38 := NB214_213.1; obtain ⟨hcz39_0, hcz39_1⟩ := cz2 BK213; obtain ⟨hfz39_0, hfz39_1⟩ := fz2 BK213; obtain ⟨Ao40, co40, eo40⟩ := S_slice HO208.1; subst eo40; have hnb41 := NB214_202.1; have hnc41 := NB202_214.1; obtain ⟨hcz42_0, hcz42_1, hcz42_2, hcz42_3⟩ := cz BK214; obtain ⟨hfz42_0, hfz42_1, hfz42_2, hfz42_3⟩ := fz BK214))
   have n0_ : Az (Kd.R Kd.string 9 ((((((w35.setCell ⟨gb213, 0, none⟩ (.slice Ao36 t203.length co36)).setCell ⟨gb213, 1, none⟩ (.slice Ao40 t206.length co40)).setCell ⟨gb214, 0, none⟩ (.int .i64 t209)).setCell ⟨gb214, 1, none⟩ (.string t210)).setCell ⟨gb214, 2, none⟩ (.int .i64 t211)).setCell ⟨gb214, 3, none⟩ (.int .i64 t212)) w.heap.size (fun _ => True) (.slice Ao36 t203.length co36) t203) := ⟨rz (R_mono (R_far (p := ⟨gb214, 3, none⟩) (R_far (p := ⟨gb214, 2, none⟩) (R_far (p := ⟨gb214, 1, none⟩) (R_far (p := ⟨gb214, 0, none⟩) (R_far (p := ⟨gb213, 1, none⟩) (R_far (p := ⟨gb213, 0, none⟩) (R_types (R_types HO205.1 BK213.1 (by decide)) BK214.1 (by decide)) (fun _ hk => hk.1.2) (.slice Ao36 t203.length co36)) (fun _ hk => hk.1.2) (.slice Ao40 t206.length co40)) (fun _ hk => hk.2) (.int .i64 t209)) (fun _ hk => hk.2) (.string t210)) (fun _ hk => hk.2) (.int .i64 t211)) (fun _ hk => hk.2) (.int .i64 t212)) (fun _ hk => trivial))⟩
   have n1_ : Az (Kd.S (Kd.slice 3 (Kd.int .i64)) 55 ((((((w35.setCell ⟨gb213, 0, none⟩ (.slice Ao36 t203.length co36)).setCell ⟨gb213, 1, none⟩ (.slice Ao40 t206.length co40)).setCell ⟨gb214, 0, none⟩ (.int .i64 t209)).setCell ⟨gb214, 1, none⟩ (.string t210)).setCell ⟨gb214, 2, none⟩ (.int .i64 t211)).setCell ⟨gb214, 3, none⟩ (.int .i64 t212)) w.heap.size (fun _ => True) (.slice Ao40 t206.length co40) t206) := ⟨sz (S_mono (S_far (p := ⟨gb214, 3, none⟩) (S_far (p := ⟨gb214, 2, none⟩) (S_far (p := ⟨gb214, 1, none⟩) (S_far (p := ⟨gb214, 0, none⟩) (S_far (p := ⟨gb213, 1, none⟩) (S_far (p := ⟨gb213, 0, none⟩) (S_types (S_types HO208.1 BK213.1 (by decide)) BK214.1 (by decide)) (fun _ hk => hk.1.2) (.slice Ao36 t203.length co36)) (fun _ hk => hk.1.2) (.slice Ao40 t206.length co40)) (fun _ hk => hk.2) (.int .i64 t209)) (fun _ hk => hk.2) (.string t210)) (fun _ hk => hk.2) (.int .i64 t211)) (fun _ hk => hk.2) (.int .i64 t212)) (fun _ hk => trivial))⟩
   have n2_ : Az (((((((w35.setCell ⟨gb213, 0, none⟩ (.slice Ao36 t203.length co36)).setCell ⟨gb213, 1, none⟩ (.slice Ao40 t206.length co40)).setCell ⟨gb214, 0, none⟩ (.int .i64 t209)).setCell ⟨gb214, 1, none⟩ (.string t210)).setCell ⟨gb214, 2, none⟩ (.int .i64 t211)).setCell ⟨gb214, 3, none⟩ (.int .i64 t212)).heap[gb202]? = some (.cells #[.int .i64 0, .string (⟨#[]⟩ : ByteArray), .int .i64 0, .int .i64 0] 28 (0, 0))) := ⟨kf BK202⟩
   have n3_ : Az (((((((w35.setCell ⟨gb213, 0, none⟩ (.slice Ao36 t203.length co36)).setCell ⟨gb213, 1, none⟩ (.slice Ao40 t206.length co40)).setCell ⟨gb214, 0, none⟩ (.int .i64 t209)).setCell ⟨gb214, 1, none⟩ (.string t210)).setCell ⟨gb214, 2, none⟩ (.int .i64 t211)).setCell ⟨gb214, 3, none⟩ (.int .i64 t212)).heap[gb213]? = some (.cells #[.slice Ao36 t203.length co36, .slice Ao40 t206.length co40] 51 (0, 0))) := ⟨kf BK213⟩
   have n4_ : Az (((((((w35.setCell ⟨gb213, 0, none⟩ (.slice Ao36 t203.length co36)).setCell ⟨gb213, 1, none⟩ (.slice Ao40 t206.length co40)).setCell ⟨gb214, 0, none⟩ (.int .i64 t209)).setCell ⟨gb214, 1, none⟩ (.string t210)).setCell ⟨gb214, 2, none⟩ (.int .i64 t211)).setCell ⟨gb214, 3, none⟩ (.int .i64 t212)).heap[gb214]? = some (.cells #[.int .i64 t209, .string t210, .int .i64 t211, .int .i64 t212] 28 (0, 0))) := ⟨kf BK214⟩
   have n5_ : Az (Below w.heap.size w ((((((w35.setCell ⟨gb213, 0, none⟩ (.slice Ao36 t203.length co36)).setCell ⟨gb213, 1, none⟩ (.slice Ao40 t206.length co40)).setCell ⟨gb214, 0, none⟩ (.int .i64 t209)).setCell ⟨gb214, 1, none⟩ (.string t210)).setCell ⟨gb214, 2, none⟩ (.int .i64 t211)).setCell ⟨gb214, 3, none⟩ (.int .i64 t212))) := ⟨hh HB⟩
   (clear HO205)
   (clear HO208)
   (clear BK202)
   (clear BK213)
   (clear BK214)
   (clear HB)
   generalize ((((((w35.setCell ⟨gb213, 0, none⟩ (.slice Ao36 t203.length co36)).setCell ⟨gb213, 1, none⟩ (.slice Ao40 t206.length co40)).setCell ⟨gb214, 0, none⟩ (.int .i64 t209)).setCell ⟨gb214, 1, none⟩ (.string t210)).setCell ⟨gb214, 2, none⟩ (.int .i64 t211)).setCell ⟨gb214, 3, none⟩ (.int .i64 t212)) = w43 at n0_ n1_ n2_ n3_ n4_ n5_ ⊢
   have HO205 := n0_
   have HO208 := n1_
   have BK202 := n2_
   have BK213 := n3_
   have BK214 := n4_
   have HB := n5_
   clear n0_ n1_ n2_ n3_ n4_ n5_
   replace HO205 := aM (R_drew HO205.1)
   replace HO208 := aM (S_drew HO208.1)
   replace BK202 := aM (blk_drew BK202.1)
   replace BK213 := aM (blk_drew BK213.1)
   replace BK214 := aM (blk_drew BK214.1)
   replace HB := aM (below_drew1 HB.1)
   refine start_ (n := 3) (S := fun w' => w'.cell? ⟨gb214, 0, none⟩ = some (.int .i64 t209) /\ w'.cell? ⟨gb214, 1, none⟩ = some (.string t210) /\ w'.cell? ⟨gb214, 2, none⟩ = some (.int .i64 t211) /\ w'.cell? ⟨gb214, 3, none⟩ = some (.int .i64 t212)) (ds := []) #[F_, F_, F_] (by kernel_rfl) rfl rfl ⟨(blk_cell BK214.1 0).trans rfl, (blk_cell BK214.1 1).trans rfl, (blk_cell BK214.1 2).trans rfl, (blk_cell BK214.1 3).trans rfl⟩ (fun hHeld => ?_)
   generalize w43.drew = w44 at HO205 HO208 BK202 BK213 BK214 HB hHeld ⊢
   refine pure_ (i := 1) (N := some 2) (v := ?_) (a' := ?_) #[F_, T_, F_] rfl rfl (by kernel_rfl) (fun _ _ _ h => h) (Or.inl ⟨by rfl, ?_⟩) ?_ ?_
   rotate_left
   · intro w'
     go_simp
     with_reducible rfl
   rotate_left
   · simp only [Act.put, sA, sZ, sS, i64_w, i32_w]
     rfl
   refine take_ (i := 0) (N := some 19) (v := ?_) (a' := ?_) #[T_, T_, F_] rfl rfl (by kernel_rfl) (fun _ _ _ h => h) (Or.inl ⟨by rfl, ?_⟩) hHeld ?_ ?_
   rotate_left
   · rintro w' ⟨s0, s1, s2, s3⟩
     go_simp
     with_reducible rfl
   rotate_left
   · simp only [Act.put, sA, sZ, sS, i64_w, i32_w]
     rfl
   refine one_ (i := 2) (N := none) #[T_, T_, T_] rfl rfl (by kernel_rfl) (by decide) (fun K hK => ?_)
   have hs45 : w44.cell? ⟨gb202, 0, none⟩ = some (.int .i64 0) := (blk_cell BK202.1 0).trans rfl
   have hfs45 := blk_frozen BK202.1 0
   have hns45_1 := NB213_202.1
   have hns45_2 := NB214_202.1
   have hms45_1 := NB202_213.1
   have hms45_2 := NB202_214.1
   have hs46 : w44.cell? ⟨gb202, 1, none⟩ = some (.string (⟨#[]⟩ : ByteArray)) := (blk_cell BK202.1 1).trans rfl
   have hfs46 := blk_frozen BK202.1 1
   have hns46_1 := NB213_202.1
   have hns46_2 := NB214_202.1
   have hms46_1 := NB202_213.1
   have hms46_2 := NB202_214.1
   have hs47 : w44.cell? ⟨gb202, 2, none⟩ = some (.int .i64 0) := (blk_cell BK202.1 2).trans rfl
   have hfs47 := blk_frozen BK202.1 2
   have hns47_1 := NB213_202.1
   have hns47_2 := NB214_202.1
   have hms47_1 := NB202_213.1
   have hms47_2 := NB202_214.1
   have hs48 : w44.cell? ⟨gb202, 3, none⟩ = some (.int .i64 0) := (blk_cell BK202.1 3).trans rfl
   have hfs48 := blk_frozen BK202.1 3
   have hns48_1 := NB213_202.1
   have hns48_2 := NB214_202.1
   have hms48_1 := NB202_213.1
   have hms48_2 := NB202_214.1
   refine skip_ (w1 := ?_) (by rfl) rfl ?_ ?_
   rotate_left
   · go_simp
     rfl
   refine hK.out _ _ ⟨((cell_far (p := ⟨gb202, _, none⟩) NB214_202.1 _).trans (((cell_far (p := ⟨gb202, _, none⟩) NB214_202.1 _).trans (((cell_far (p := ⟨gb202, _, none⟩) NB214_202.1 _).trans (((cell_far (p := ⟨gb202, _, none⟩) NB214_202.1 _).trans (hHeld.1)))))))), ((cell_far (p := ⟨gb202, _, none⟩) NB214_202.1 _).trans (((cell_far (p := ⟨gb202, _, none⟩) NB214_202.1 _).trans (((cell_far (p := ⟨gb202, _, none⟩) NB214_202.1 _).trans (((cell_far (p := ⟨gb202, _, none⟩) NB214_202.1 _).trans (hHeld.2.1)))))))), ((cell_far (p := ⟨gb202, _, none⟩) NB214_202.1 _).trans (((cell_far (p := ⟨gb202, _, none⟩) NB214_202.1 _).trans (((cell_far (p := ⟨gb202, _, none⟩) NB214_202.1 _).trans (((cell_far (p := ⟨gb202, _, none⟩) NB214_202.1 _).trans (hHeld.2.2.1)))))))), ((cell_far (p := ⟨gb202, _, none⟩) NB214_202.1 _).trans (((cell_far (p := ⟨gb202, _, none⟩) NB214_202.1 _).trans (((cell_far (p := ⟨gb202, _, none⟩) NB214_202.1 _).trans (((cell_far (p := ⟨gb202, _, none⟩) NB214_202.1 _).trans (hHeld.2.2.2))))))))⟩ (fun hHeld => ?_)
   clear hK K
   refine done_ (by kernel_rfl) ?_
   try go_wp2
   refine bodyPost_ret (results_tc rfl _ _ gb202 28 #[.int .i64 t209, .string t210, .int .i64 t211, .int .i64 t212] (0, 0) _ rfl (kf BK202) Try.underlying28 rfl (by kernel_rfl)) rfl ?_
   exact ⟨_, by first | rfl | (simp [errW_none, errW_some] <;> rfl) | (simp [*, errW_none, errW_some] <;> rfl), by first | exact S_nil _ _ _ _ _ | exact N_nil _ _ _ _ _ | exact V_nil _ _ _ _ _ | exact Q_nil _ _ _ _ _ | exact R_nil _ _ _ _ _, hh HB⟩
 rw [if_pos c3] at H
 have c3b0 : (t209 == 0) = true := beq_iff_eq.mpr c3
 have c3b1 : (t209 != 0) = false := bne_eq_false_iff_eq.mpr c3
 clear c3
 replace H := Option.bind_eq_some_iff.mp H
 obtain ⟨⟨t215, t218⟩, A40, H⟩ := H
 replace H : (m_Levels.l0 k ([] : List (List ByteArray)) t215 (t215.length : Int) 0 t203 t206) = some (r1, r2, r3, r4, r5) := H
 have A4 := aM A40
 clear A40
 have H' := aM H
 clear H
 go_enter Try.func12, Try.ntmps12
 go_wp2_with (first | ((with_reducible refine gate_dst (N := 3) rfl ?_); refine be 3 rfl rfl #[.int .i64 0, .string (⟨#[]⟩ : ByteArray), .int .i64 0, .int .i64 0] 28 ?_; intro gb202 hg w5 hbox hb; have BK202 := aM hbox; have GE202 := gs hg HB; replace HB := bs HB hb; clear hb hbox hg) | ((with_reducible refine gate_callee (f := 24) rfl ?_); refine gL (some 13) rfl rfl Try.func24 (by kernel_rfl) rfl #[.slice A0 l0.length c0] rfl ?_; (with_reducible refine (m_acyclic.calls k _ _ l0 t203 t206 t209 t210 t211 t212 _ ?side1 ?side2 A2.1).mono ?_); (case side1 => exact cb HR0 HB); (case side2 => exact HC0.1); rintro e w6 ⟨v204, v207, rfl, ho0, ho1, hb⟩; refine ⟨_, rfl, ?_⟩; have HO205 := aM (R_lower ho0 (below_size (hh HB))); have HO208 := aM (S_lower ho1 (below_size (hh HB))); replace BK202 := kb BK202 hb; replace HB := bs HB hb; clear hb ho0 ho1) | ((with_reducible refine gate_dst (N := 4) rfl ?_); refine be 4 rfl rfl #[.slice none 0 0, .slice none 0 0] 51 ?_; intro gb213 hg w7 hbox hb; have BK213 := aM hbox; have GE213 := gs hg HB; have NB202_213 := nl hg BK202; have NB213_202 := nr hg BK202; replace HO205 := rb HO205 hb; replace HO208 := sb HO208 hb; replace BK202 := kb BK202 hb; replace HB := bs HB hb; clear hb hbox hg) | ((with_reducible refine gate_dst (N := 5) rfl ?_); refine be 5 rfl rfl #[.int .i64 0, .string (⟨#[]⟩ : ByteArray), .int .i64 0, .int .i64 0] 28 ?_; intro gb214 hg w8 hbox hb; have BK214 := aM hbox; have GE214 := gs hg HB; have NB202_214 := nl hg BK202; have NB214_202 := nr hg BK202; have NB213_214 := nl hg BK213; have NB214_213 := nr hg BK213; replace HO205 := rb HO205 hb; replace HO208 := sb HO208 hb; replace BK202 := kb BK202 hb; replace BK213 := kb BK213 hb; replace HB := bs HB hb; clear hb hbox hg; obtain ⟨Ao9, co9, eo9⟩ := R_slice HO205.1; subst eo9; have hnb10 := NB213_202.1; have hnc10 := NB202_213.1; have hnb11 := NB213_214.1; have hnc11 := NB214_213.1; obtain ⟨hcz12_0, hcz12_1⟩ := cz2 BK213; obtain ⟨hfz12_0, hfz12_1⟩ := fz2 BK213; obtain ⟨Ao13, co13, eo13⟩ := S_slice HO208.1; subst eo13; have hnb14 := NB214_202.1; have hnc14 := NB202_214.1; obtain ⟨hcz15_0, hcz15_1, hcz15_2, hcz15_3⟩ := cz BK214; obtain ⟨hfz15_0, hfz15_1, hfz15_2, hfz15_3⟩ := fz BK214) | ((with_reducible refine gate_callee (f := 30) rfl ?_); refine gL (some 23) rfl rfl Try.func30 (by kernel_rfl) rfl #[.agg #[.slice Ao13 t206.length co13]] rfl ?_; (with_reducible refine (g_Levels.calls _ _ t206 t215 t218 _ ?side1 ?side2 A4.1).mono ?_); (case side1 => exact c3 (sf24 HO208 BK213 (by decide) BK214 (by decide))); (case side2 => exact (S_reads' HO208.1).2.1); rintro e w16 ⟨v216, rfl, ho0, hb⟩; refine ⟨_, rfl, ?_⟩; have HO217 := aM (S_lower (S_new' ho0 (S_lt (sz (sf24 HO208 BK213 (by decide) BK214 (by decide))))) (below_size (hh HB))); replace HO205 := aM (R_below (rz (rf24 HO205 BK213 (by decide) BK214 (by decide))) hb); replace HO208 := aM (S_elder' (sz (sf24 HO208 BK213 (by decide) BK214 (by decide))) (S_base ho0) hb); replace BK202 := kg (o' := .cells #[.int .i64 0, .string (⟨#[]⟩ : ByteArray), .int .i64 0, .int .i64 0] 28 (0, 0)) BK202 hb; replace BK213 := kg (o' := .cells #[.slice Ao9 t203.length co9, .slice Ao13 t206.length co13] 51 (0, 0)) BK213 hb; replace BK214 := kg (o' := .cells #[.int .i64 t209, .string t210, .int .i64 t211, .int .i64 t212] 28 (0, 0)) BK214 hb; replace HB := bs HB hb; clear hb ho0; obtain ⟨Ao17, co17, eo17⟩ := S_slice HO217.1; subst eo17))
 go_loopg [8, 28] k (fun kq v8 v28 w' => ∃ (x8_1 : List (List ByteArray)) (x28_1 : Int), v28 = .int .i64 x28_1 /\ Az (m_Levels.l0 kq x8_1 t215 (t215.length : Int) x28_1 t203 t206 = some (r1, r2, r3, r4, r5)) /\ Az (kq <= k) /\ Az (Kd.S (Kd.slice 9 Kd.string) 25 w' w.heap.size (fun k_ => some k_ ≠ ((.slice Ao9 t203.length co9) : Value).ownBlock) v8 x8_1) /\ Az (Kd.S (Kd.slice 3 (Kd.int .i64)) 55 w' w.heap.size (fun k_ => some k_ ≠ ((.slice Ao13 t206.length co13) : Value).ownBlock) (.slice Ao17 t215.length co17) t215) /\ Az (Kd.R Kd.string 9 w' w.heap.size (fun _ => True) (.slice Ao9 t203.length co9) t203) /\ Az (Kd.S (Kd.slice 3 (Kd.int .i64)) 55 w' w.heap.size (fun k_ => some k_ ≠ ((.slice Ao17 t215.length co17) : Value).ownBlock) (.slice Ao13 t206.length co13) t206) /\ Az (w'.heap[gb202]? = some (.cells #[.int .i64 0, .string (⟨#[]⟩ : ByteArray), .int .i64 0, .int .i64 0] 28 (0, 0))) /\ Az (w'.heap[gb213]? = some (.cells #[(.slice Ao9 t203.length co9), (.slice Ao13 t206.length co13)] 51 (0, 0))) /\ Az (w'.heap[gb214]? = some (.cells #[.int .i64 t209, .string t210, .int .i64 t211, .int .i64 t212] 28 (0, 0))) /\ Az (Below w.heap.size w w'))
 case atStart => exact ⟨(([] : List (List ByteArray))), (0), rr, H', ⟨Nat.le_refl _⟩, ⟨by first | exact S_nil _ _ _ _ _ | exact N_nil _ _ _ _ _ | exact V_nil _ _ _ _ _ | exact Q_nil _ _ _ _ _ | exact R_nil _ _ _ _ _⟩, ⟨sz (S_mono HO217.1 (fun _ hk => hk.2))⟩, ⟨rk HO205⟩, ⟨sz (S_mono HO208.1 (fun _ hk => hk.2))⟩, ⟨kk BK202⟩, ⟨kk BK213⟩, ⟨kk BK214⟩, ⟨hh HB⟩⟩
 case round =>
  clear H'
  clear c3b0 c3b1 hcz12_0 hcz12_1 hcz15_0 hcz15_1 hcz15_2 hcz15_3 hfz12_0 hfz12_1 hfz15_0 hfz15_1 hfz15_2 hfz15_3
  obtain ⟨x8_1, x28_1, rfl, HA, HK1, HO_8, HO_26, HO_214000, HO_214001, BK202, BK213, BK214, HB⟩ := hrel
  cases gk with
  | zero => exact absurd HA.1 (by simp [m_Levels.l0])
  | succ k1 =>
   have H := HA.1
   clear HA
   simp only [m_Levels.l0] at H
   by_cases c18 : x28_1 < (t215.length : Int)
   rotate_left
   · rw [if_neg c18] at H
     have c18b0 : decide (x28_1 < (t215.length : Int)) = false := decide_eq_false c18
     clear c18
     simp only [Option.some.injEq, Prod.mk.injEq] at H
     obtain ⟨rfl, rfl, rfl, rfl, rfl⟩ := H
     have hnb29 := NB202_213.1
     have hnc29 := NB213_202.1
     have hnb30 := NB202_214.1
     have hnc30 := NB214_202.1
     obtain ⟨hcz31_0, hcz31_1, hcz31_2, hcz31_3⟩ := cz BK202
     obtain ⟨hfz31_0, hfz31_1, hfz31_2, hfz31_3⟩ := fz BK202
     go_wp2
     refine bodyPost_ret (results_tc rfl _ _ gb202 28 #[.int .i64 0, .string (⟨#[]⟩ : ByteArray), .int .i64 0, .int .i64 0] (0, 0) _ rfl (kf BK202) Try.underlying28 rfl (by kernel_rfl)) rfl ?_
     exact ⟨_, by first | rfl | (simp [errW_none, errW_some] <;> rfl) | (simp [*, errW_none, errW_some] <;> rfl), sz (S_mono (S_far (p := ⟨gb202, 3, none⟩) (S_far (p := ⟨gb202, 2, none⟩) (S_far (p := ⟨gb202, 1, none⟩) (S_far (p := ⟨gb202, 0, none⟩) (S_types HO_8.1 BK202.1 (by decide)) (fun _ hk => hk.2) (.int .i64 0)) (fun _ hk => hk.2) (.string (⟨#[]⟩ : ByteArray))) (fun _ hk => hk.2) (.int .i64 0)) (fun _ hk => hk.2) (.int .i64 0)) (fun _ hk => trivial)), hh HB⟩
   rw [if_pos c18] at H
   have c18b0 : decide (x28_1 < (t215.length : Int)) = true := decide_eq_true c18
   clear c18
   by_cases c19 : 0 <= x28_1
   rotate_left
   · rw [if_neg c19] at H
     exact absurd H (by simp)
   rw [if_pos c19] at H
   have c19b0 : decide (0 <= x28_1) = true := decide_eq_true c19
   clear c19
   by_cases c20 : x28_1 < (t215.length : Int)
   rotate_left
   · rw [if_neg c20] at H
     exact absurd H (by simp)
   rw [if_pos c20] at H
   have c20b0 : decide (x28_1 < (t215.length : Int)) = true := decide_eq_true c20
   clear c20
   replace H := Option.bind_eq_some_iff.mp H
   obtain ⟨t220, A210, H⟩ := H
   replace H : (if x8_1.length < 5864062014805 then (m_Levels.l0 k1 (x8_1 ++ [t220]) t215 (t215.length : Int) (wrap64 (x28_1 + 1)) t203 t206) else (none)) = some (r1, r2, r3, r4, r5) := H
   have A21 := aM A210
   clear A210
   by_cases c22 : x8_1.length < 5864062014805
   rotate_left
   · rw [if_neg c22] at H
     exact absurd H (by simp)
   rw [if_pos c22] at H
   have LMc22 := aM c22
   clear c22
   obtain ⟨y223, hy223⟩ : ∃ y_ : List (List ByteArray), y_ = (x8_1 ++ [t220]) := ⟨_, rfl⟩
   replace H : (m_Levels.l0 k1 y223 t215 (t215.length : Int) (wrap64 (x28_1 + 1)) t203 t206) = some (r1, r2, r3, r4, r5) := by first | (rw [hy223]; with_reducible exact H) | (have H2_ := (Option.bind_some _ _).symm.trans H; rw [hy223]; with_reducible exact H2_) | (have H2_ := (Option.bind_some _ _).symm.trans H; with_reducible exact H2_) | with_reducible exact H | (rw [hy223]; exact H) | exact H
   have Ny223 := aM hy223
   clear hy223
   have H' := aM H
   clear H
   have p219 : 0 <= (x28_1 : Int) := dt
   have q219 : x28_1 < (t215.length : Int) := dt
   obtain ⟨ad219, A219_0, c219_0, e219, hx219_0, hl219_0, hi219_0⟩ := at_L11 (S_reads' HO_26.1).2.2 x28_1 p219 q219
   cases e219
   obtain ⟨ce219, hce219, hMe219, hcc219⟩ := S_get HO_26.1 [] x28_1 p219 (by first | exact q219 | exact dt | (have e_ := (S_reads' HO_26.1).1; omega))
   obtain ⟨ve219_0, rfl, ge219_0⟩ := hMe219
   have hv219_0 := hcc219 0 _ rfl
   rw [Nat.add_zero, show ((Kd.slice 3 (Kd.int .i64))).sz = 1 from rfl, Nat.mul_one] at hv219_0
   replace hv219_0 := Option.some.inj (hv219_0.symm.trans hx219_0)
   rw [hv219_0] at ge219_0
   have HL219_0 := aM (show Kd.R (Kd.int .i64) 3 _ _ _ _ (rd_L11 t215 x28_1) from ge219_0)
   clear hv219_0 ge219_0
   clear hcc219 hce219
   have HR219_0 := aM hi219_0
   have HC219_0 := aM hl219_0
   clear hi219_0 hl219_0
   replace p219 := eq_true p219
   replace q219 := eq_true q219
   have hnb23 := NB213_202.1
   have hnc23 := NB202_213.1
   have hnb24 := NB213_214.1
   have hnc24 := NB214_213.1
   obtain ⟨hcz25_0, hcz25_1⟩ := cz2 BK213
   obtain ⟨hfz25_0, hfz25_1⟩ := fz2 BK213
   go_wp2_with (first | ((with_reducible refine gate_callee (f := 26) rfl ?_); refine gL (some 35) rfl rfl Try.func26 (by kernel_rfl) rfl #[.agg #[.slice Ao9 t203.length co9, .slice Ao13 t206.length co13], .slice A219_0 (rd_L11 t215 x28_1).length c219_0] rfl ?_; (with_reducible refine (p_named.calls k1 _ _ t203 _ _ t206 _ _ (rd_L11 t215 x28_1) t220 _ ?side1 ?side2 ?side3 ?side4 ?side5 ?side6 A21.1).mono ?_); (case side1 => exact cr HO_214000); (case side2 => exact (R_reads' HO_214000.1).2.1); (case side3 => repeat (first | exact (S_reads' HO_214001.1).2.2 | (with_reducible refine C_alloc ?_ _) | (with_reducible refine C_drewN ?_ _) | (with_reducible refine C_drew ?_))); (case side4 => exact (S_reads' HO_214001.1).2.1); (case side5 => repeat (first | exact (by repeat (first | (with_reducible exact HR219_0.1) | (with_reducible refine C_alloc ?_ _) | (with_reducible refine C_drewN ?_ _) | (with_reducible refine C_drew ?_) | exact HR219_0.1)) | (with_reducible refine C_alloc ?_ _) | (with_reducible refine C_drewN ?_ _) | (with_reducible refine C_drew ?_))); (case side6 => exact HC219_0.1); rintro e w26 ⟨v221, rfl, ho0, hb⟩; refine ⟨_, rfl, ?_⟩; have HO222 := aM (R_lower (R_new' ho0 (R_lt (rk HO_214000))) (below_size (hh HB))); replace HO_8 := aM (S_elder' (sk HO_8) (R_base ho0) hb); replace HO_26 := sb HO_26 hb; replace HO_214000 := aM (R_elder' (rk HO_214000) (R_base ho0) hb); replace HO_214001 := sb HO_214001 hb; replace HL219_0 := rb HL219_0 hb; replace BK202 := kb BK202 hb; replace BK213 := kb BK213 hb; replace BK214 := kb BK214 hb; replace HR219_0 := aM (C_below (by repeat (first | (with_reducible exact HR219_0.1) | (with_reducible refine C_alloc ?_ _) | (with_reducible refine C_drewN ?_ _) | (with_reducible refine C_drew ?_) | exact HR219_0.1)) hb); replace HB := bs HB hb; clear hb ho0; obtain ⟨Ao28, co28, eo28⟩ := R_slice HO222.1; subst eo28) | ((with_reducible refine gate_builtin (b := .append) (xs := #[.tmp 32, .tmp 36]) rfl ?_); at_builtin; refine S_append (Kd.slice 9 Kd.string) (w0 := w) w.heap.size rfl (.tmp 32) (.tmp 36) 31 25 (.slice none 0 0) 24 rfl Try.underlying31 info25 rfl (by decide) (by omega) u8 x8_1 t220 [.slice Ao28 t220.length co28] (fun k_ => some k_ ≠ (.slice Ao9 t203.length co9 : Value).ownBlock) (fun k_ => some k_ = (.slice Ao28 t220.length co28 : Value).ownBlock) rfl rfl ?aP (fun k_ hk_ => ((R_mono (ok' := fun k_ => ((fun k_ => some k_ ≠ (.slice Ao9 t203.length co9 : Value).ownBlock)) k_ /\ some k_ ≠ (u8 : Value).ownBlock) (R_apart' (HO222.1) (S_typed HO_8.1) (by decide)) (fun k_ hk => ⟨hk.1.2, hk.2⟩))).1 k_ hk_.symm) ?aF ?aO ?aB ?aS ?aL ?_; (case aP => exact M_row (R_mono (R_tight rfl (R_mono (ok' := fun k_ => ((fun k_ => some k_ ≠ (.slice Ao9 t203.length co9 : Value).ownBlock)) k_ /\ some k_ ≠ (u8 : Value).ownBlock) (R_apart' (HO222.1) (S_typed HO_8.1) (by decide)) (fun k_ hk => ⟨hk.1.2, hk.2⟩))) (fun _ h_ => h_))); (case aB => exact (hh HB)); (case aF => exact (fun k_ hk => Kd.fresh' (R_lt (rk HO_214000)) k_ hk)); (case aO => exact (sz (S_mono HO_8.1 (fun k_ hk => ⟨hk.1, fun e_ => hk.2 e_⟩)))); (case aS => exact (below_size (hh HB))); (case aL => have := LMc22.1; omega); intro v224 w27 ho hb hg hat; rw [<- Ny223.1] at ho; have HO225 := aM (ho); replace HO_26 := aM (S_over' (sk HO_26) (S_typed (sk HO_8)) (by decide) hg); replace HO_214000 := aM (R_over' (rk HO_214000) (S_typed (sk HO_8)) (by decide) hg); replace HO_214001 := aM (S_over' (sk HO_214001) (S_typed (sk HO_8)) (by decide) hg); replace BK202 := aM (blk_grown (g := gb202) (o := .cells #[.int .i64 0, .string (⟨#[]⟩ : ByteArray), .int .i64 0, .int .i64 0] 28 (0, 0)) (kk BK202) hg (S_ne HO_8.1 BK202.1 (by decide))); replace BK213 := aM (blk_grown (g := gb213) (o := .cells #[.slice Ao9 t203.length co9, .slice Ao13 t206.length co13] 51 (0, 0)) (kk BK213) hg (S_ne HO_8.1 BK213.1 (by decide))); replace BK214 := aM (blk_grown (g := gb214) (o := .cells #[.int .i64 t209, .string t210, .int .i64 t211, .int .i64 t212] 28 (0, 0)) (kk BK214) hg (S_ne HO_8.1 BK214.1 (by decide))); replace HL219_0 := aM (R_over' (rk HL219_0) (S_typed (sk HO_8)) (by decide) hg); replace HB := aM (hb); clear HO_8 HO222; clear ho hb hg hat))
   go_roundg k1
   case measure => have := HK1.1; omega
   case rel => exact ⟨(y223), (wrap64 (x28_1 + 1)), rr, H', ⟨by have := HK1.1; omega⟩, ⟨sk HO225⟩, ⟨sk HO_26⟩, ⟨rz (R_mono HO_214000.1 (fun _ hk => trivial))⟩, ⟨sk HO_214001⟩, ⟨kk BK202⟩, ⟨kk BK213⟩, ⟨kk BK214⟩, ⟨hh HB⟩⟩
end Go.Proofs.Ytmadhaccjmakdaa.P
namespace Go.Proofs.Ytmadhaccjmakdaa
open Go.Shelf Go.Lib Go.RowKit Go.Maps Go.Sort Go.Proofs.Yw.A Go.Proofs.Yw.B Go.Proofs.Yw.C
attribute [local go_sem] max2_int min2_int max_two min_two max_three min_three max_four min_four
open P
namespace Mg
def but (s : ByteArray) (x : ByteArray) : Bool := x.toList == s.toList
theorem gives45 (s x : ByteArray) (B : Nat) (W : World) (hc : W.cell? ⟨B, 0, none⟩ = some (.string s)) :
 FnGives Try.prog 45 #[.pointer (some ⟨B, 0, none⟩)] #[.string x] (.bool (but s x)) W := by
 show Calls Try.prog 45 #[.string x, .pointer (some ⟨B, 0, none⟩)] W _
 go_enter Try.func45, Try.ntmps45
 go_wp2
 all_goals (go_ret; exact ⟨by first | rfl | (simp [but]; done) | (unfold but; simp_all) | (unfold but; rfl), 0, rfl⟩)
theorem pred45 (s : ByteArray) (B : Nat) (w : World) (hB : B < w.heap.size) (hcell : w.cell? ⟨B, 0, none⟩ = some (.string s)) :
 PredAt Try.prog 45 #[.pointer (some ⟨B, 0, none⟩)] Value.string (but s) w :=
 fun W x hb => gives45 s x B W ((hb.cell (p := ⟨B, 0, none⟩) hB).trans hcell)
theorem over45 (s : ByteArray) (B blk off size : Nat) (w : World) (hB : B < w.heap.size) (hne : B ≠ blk) (hcell : w.cell? ⟨B, 0, none⟩ = some (.string s)) :
 PredOver Try.prog 45 #[.pointer (some ⟨B, 0, none⟩)] Value.string (but s) blk off size w :=
 fun n os dk x _ => gives45 s x B _ (by
  unfold sortWorld
  rw [cell?_grow _ _ _ (by show B < (putRow _ _ _ _ _).heap.size; rw [size_putRow]; exact hB), cell?_putRow_other _ _ blk off _ _ (Or.inl hne)]
  exact hcell)
theorem putRow_heap (w : World) (q g : Nat) (d : Array ByteArray) {cur : Array Value} (h : w.heap[g]? = some (.cells cur 9 (0, 0))) : (putRow Value.string (Sort.ahead w q) g 0 d).heap[g]? = some (.cells (putCells Value.string 0 d cur) 9 (0, 0)) := by
 simp [putRow, mapBlock, Array.getElem?_modify, h, onCells]
theorem putRow_far (w : World) (q g : Nat) (d : Array ByteArray) (k : Nat) (hk : k ≠ g) : (putRow Value.string (Sort.ahead w q) g 0 d).heap[k]? = w.heap[k]? := by
 have hk2 : ¬ g = k := fun e => hk e.symm
 simp [putRow, mapBlock, Array.getElem?_modify, hk2]
theorem take_put (F fil : List ByteArray) (cur : Array Value) (m : Nat) (hF : F = fil ++ List.replicate m ⟨#[]⟩) (hc : F.length <= cur.size) : (putCells Value.string 0 F.toArray cur).toList.take (fil.length * 1) = encs Value.string fil := by
 apply List.ext_getElem?
 intro i
 unfold encs putCells
 rw [List.getElem?_take, List.getElem?_map]
 by_cases hi : i < fil.length
 rotate_left
 · rw [if_neg (by omega), List.getElem?_eq_none (by omega)]
   rfl
 have hl : F.length = fil.length + m := by rw [hF]; simp
 have hic : i < cur.size := by omega
 rw [if_pos (by omega), Array.getElem?_toList, Array.getElem?_mapIdx, Array.getElem?_eq_getElem hic, List.getElem?_eq_getElem hi]
 simp only [Option.map_some]
 rw [if_pos ⟨Nat.zero_le _, by simp; omega⟩]
 congr 2
 rw [Nat.sub_zero, getElem!_pos F.toArray i (by simp; omega)]
 simp only [List.getElem_toArray]
 subst hF
 rw [List.getElem_append_left hi]
theorem del_calls (w : World) (g c base B : Nat) (out : List ByteArray) (s : ByteArray) (ok : Nat -> Prop) (hR : Kd.R Kd.string 9 w base ok (.slice (some ⟨g, 0, none⟩) out.length c) out) (hB : B < w.heap.size) (hne : B ≠ g) (hcell : w.cell? ⟨B, 0, none⟩ = some (.string s)) :
 Calls Try.prog 44 #[.slice (some ⟨g, 0, none⟩) out.length c, .func (.func 45) #[] #[.pointer (some ⟨B, 0, none⟩)]] w fun e w' => ∃ v', e = .returned v' /\ Kd.R Kd.string 9 w' base ok v' (out.filter (fun x => !but s x)) /\ (∀ k, k ≠ g -> w'.heap[k]? = w.heap[k]?) /\ Below base w w' := by
 have eg : ∀ args w, (callFunc 45 args).run Try.prog w = .ok (.enter 45 args) w := enters_of Try.func45 (by kernel_rfl) rfl
 have hown := Kd.own_of_R hR
 obtain ⟨hlen, ⟨hv, _⟩ | ⟨g2, c2, cur, hv, hb, hg, hnc, hcm, hcs, htk⟩⟩ := hown
 · cases hv
 injection hv with hv1 hv2 hv3
 injection hv1 with hv1
 injection hv1 with hv1
 subst hv1
 subst hv3
 have hown := Kd.own_of_R hR
 have hml : c <= 9223372036854775807 := by unfold maxLen at hcm; omega
 have hH : Holds Value.string w g 0 out.toArray := fun j hj => by
  have hj2 : j < out.length := by simpa using hj
  have h := own_at_of (d := (⟨#[]⟩ : ByteArray)) hown (j : Int) (by omega) (by omega)
  have e : out.toArray[j]! = rdOf ⟨#[]⟩ out (j : Int) := by
   rw [getElem!_pos out.toArray j hj]
   simp [rdOf, List.getD_eq_getElem?_getD, List.getElem?_eq_getElem hj2]
  rw [e, Nat.zero_add]
  exact h
 have hcon := AnyE.slices_DeleteFunc Try.delS Value.string (fun _ => rfl) (but s) 45 #[.pointer (some ⟨B, 0, none⟩)] eg ⟨#[]⟩ Try.zeroValue9 g 0 c out.toArray w (pred45 s B w hB hcell) (over45 s B g 0 out.toArray.size w hB hne hcell) hH (by simp; omega) (by simpa using hnc)
 change Calls Try.prog 44 _ _ _ at hcon
 have es : out.toArray.size = out.length := by simp
 rw [es] at hcon
 refine hcon.mono ?_
 rintro e w' ⟨rfl, q, rfl⟩
 have hfl : (out.filter (fun x => !but s x)).length <= out.length := List.length_filter_le _ _
 have hto : out.toArray.toList = out := by simp
 rw [hto]
 have hz : out.length <= cur.size := by omega
 generalize hfil : out.filter (fun x => !but s x) = fil at *
 have hbelow : ∀ k, k ≠ g -> (putRow Value.string (Sort.ahead w q) g 0 (fil ++ List.replicate (out.length - fil.length) (⟨#[]⟩ : ByteArray)).toArray).heap[k]? = w.heap[k]? := fun k hk => putRow_far w q g _ k hk
 refine ⟨_, rfl, ?_, hbelow, ⟨rfl, rfl, rfl, by simp, fun k hk => hbelow k (by omega)⟩⟩
 refine Kd.R_of_own ⟨by simp [encs], .inr ⟨g, c, _, rfl, hb, putRow_heap w q g _ hg, by omega, hcm, ?_, ?_⟩⟩ (fun k hk => hR.1 k hk)
 · unfold putCells
   simpa using hcs
 · exact take_put _ fil cur _ rfl (by simp; omega)
abbrev dat (x : ByteArray) : List UInt8 := x.data.toList
theorem dat_inj {x y : ByteArray} (h : dat x = dat y) : x = y := by
 cases x with | mk a => cases y with | mk b =>
 have : a = b := Array.toList_inj.1 h
 rw [this]
def PlainA (A : Option Addr) : Prop := ∀ ad, A = some ad -> ∃ g, ad = ⟨g, 0, none⟩
theorem plainR {e n c base : Nat} {w : World} {A : Option Addr} {ok : Nat -> Prop} {xs : List ByteArray} (h : Kd.R Kd.string e w base ok (.slice A n c) xs) : n = xs.length /\ n <= c /\ (Kd.C Kd.string w A xs.length xs /\ PlainA A) := by
 obtain ⟨h1, h2, h3⟩ := Kd.R_reads' h
 refine ⟨h1, h2, h3, fun ad e => ?_⟩
 subst e
 exact Kd.R_head h
theorem search2 (w : World) (A : Option Addr) (c : Nat) (names : List ByteArray) (s : ByteArray) (hC : Kd.C Kd.string w A names.length names) (hA : PlainA A) (hp : (names.map dat).Pairwise (fun a b => a <= b)) (hl : names.length <= 100) :
 Calls Try.prog 42 #[.slice A names.length c, .string s] w fun e w' => e = .returned (.tuple #[.int .i64 (rank (names.map dat) (dat s) : Nat), .bool (decide (dat s ∈ names.map dat))]) /\ Drawn0 w w' := by
 by_cases hn : names = []
 · subst hn
   refine (Any2.slices_BinarySearch_string_empty Try.lays26 A c s w).mono ?_
   rintro e w' ⟨rfl, rfl⟩
   exact ⟨by simp [rank], Drawn0.refl _⟩
 have hpos : 0 < names.length := List.length_pos_iff.2 hn
 obtain ⟨ad, eA, _⟩ := hC.2.2 hpos
 obtain ⟨g, rfl⟩ := hA ad eA
 subst eA
 have hcell : ∀ j, j < names.length -> w.cell? ⟨g, 0 + j, none⟩ = some (.string (names.getD j s)) := by
  intro j hj
  obtain ⟨ad, he, hc⟩ := Kd.at_string hC (j : Int) (by omega) (by omega)
  injection he with he
  subst he
  have e : names.getD j s = rdOf ByteArray.empty names (j : Int) := by
   simp [rdOf, List.getD_eq_getElem?_getD, List.getElem?_eq_getElem hj]
  rw [e, Nat.zero_add]
  rw [add_plain] at hc
  simpa using hc
 have h := Any2.slices_BinarySearch_string Try.lays26 g 0 names.length c (fun j => names.getD j s) s w (by omega) hcell
 have hk : Lib.bsGo (fun t => Op.bytesLess (names.getD t s).toList s.toList) names.length 0 names.length = rank (names.map dat) (dat s) := by
  refine Lib.bsGo_spec _ (rank (names.map dat) (dat s)) (fun t ht => ?_) (fun t ht => ?_) names.length 0 names.length (by omega) (Nat.zero_le _) (by have := rank_le (names.map dat) (dat s); simpa using this)
  · obtain ⟨h1, h2⟩ := rank_lt (names.map dat) (dat s) t ht
    have h3 : t < names.length := by simpa using h1
    rw [toL, toL, bytesLess_eq]
    have e : (names.getD t s).data.toList = (names.map dat)[t] := by simp [List.getD_eq_getElem?_getD, List.getElem?_eq_getElem h3]
    rw [e]
    simpa using h2
  · rw [toL, toL, bytesLess_eq]
    by_cases h1 : t < names.length
    rotate_left
    · have e : names.getD t s = s := by simp [List.getD_eq_getElem?_getD, List.getElem?_eq_none (show names.length <= t by omega)]
      rw [e]
      simp [List.lt_irrefl]
    have h2 : t < (names.map dat).length := by simpa using h1
    have e : (names.getD t s).data.toList = (names.map dat)[t] := by simp [List.getD_eq_getElem?_getD, List.getElem?_eq_getElem h1]
    rw [e]
    simpa using rank_ge (names.map dat) (dat s) hp t h2 ht
 have hb : (rank (names.map dat) (dat s) < names.length /\ names.getD (rank (names.map dat) (dat s)) s = s) ↔ dat s ∈ names.map dat := by
  have hm : dat s ∈ names.map dat ↔ s ∈ names := ⟨fun h => by obtain ⟨y, hy, e⟩ := List.mem_map.1 h; exact dat_inj e ▸ hy, fun h => List.mem_map.2 ⟨s, h, rfl⟩⟩
  rw [hm]
  constructor
  · rintro ⟨h1, h2⟩
    rw [List.getD_eq_getElem?_getD, List.getElem?_eq_getElem h1] at h2
    rw [<- h2]
    exact List.getElem_mem h1
  · intro hs
    obtain ⟨t, ht, hts⟩ := List.getElem_of_mem hs
    have htm : t < (names.map dat).length := by simpa using ht
    have e2 : (names.map dat)[t] = dat s := by simp [hts]
    have hrt : rank (names.map dat) (dat s) <= t := by
     apply Nat.le_of_not_lt
     intro hlt
     obtain ⟨h1, h2⟩ := rank_lt (names.map dat) (dat s) t hlt
     rw [e2] at h2
     exact List.lt_irrefl _ h2
    have hr : rank (names.map dat) (dat s) < names.length := by omega
    have hrm : rank (names.map dat) (dat s) < (names.map dat).length := by simpa using hr
    have h3 := rank_ge (names.map dat) (dat s) hp _ hrm (Nat.le_refl _)
    have h4 : (names.map dat)[rank (names.map dat) (dat s)] <= dat s := by
     by_cases heq : rank (names.map dat) (dat s) = t
     rotate_left
     · have := (List.pairwise_iff_getElem.1 hp) _ _ hrm htm (by omega)
       rw [e2] at this
       exact this
     have : (names.map dat)[rank (names.map dat) (dat s)] = dat s := by simp only [heq]; exact e2
     rw [this]; exact List.le_refl _
    have h5 : (names.map dat)[rank (names.map dat) (dat s)] = dat s := List.le_antisymm h4 (List.not_lt.1 h3)
    refine ⟨hr, ?_⟩
    rw [List.getD_eq_getElem?_getD, List.getElem?_eq_getElem hr]
    exact dat_inj (by simpa using h5)
 refine h.mono fun e w' ⟨he, hd⟩ => ?_
 rw [hk] at he
 rw [he]
 exact ⟨by rw [decide_eq_decide.2 hb], ⟨hd⟩⟩
theorem idx_nil (w : World) (lb : Array Value) : Calls Try.prog 59 #[.slice none 0 0, .func (.func 45) #[] lb] w fun e w' => e = .returned (.int .i64 (-1)) /\ w' = w := by
 go_enter Try.func59, Try.ntmps59
 go_wp2
 go_loopg [8] 0 (fun kq v8 w' => v8 = .int .i64 0 /\ w' = w)
 case atStart => exact ⟨rfl, rfl⟩
 case round =>
  obtain ⟨rfl, rfl⟩ := hrel
  go_wp2
  go_ret
  exact ⟨rfl, rfl⟩
theorem del_nil (w : World) (lb : Array Value) : Calls Try.prog 44 #[.slice none 0 0, .func (.func 45) #[] lb] w fun e w' => e = .returned (.slice none 0 0) /\ w' = w := by
 go_enter Try.func44, Try.ntmps44
 go_wp2_with (go_at_call 59; (refine (idx_nil _ _).mono ?_); rintro e w' ⟨rfl, rfl⟩)
 go_ret
 exact ⟨rfl, rfl⟩
theorem del_any (w : World) (base B : Nat) (out : List ByteArray) (s : ByteArray) (v : Value) (hR : Kd.R Kd.string 9 w base (fun _ => True) v out) (hB : B < base) (hbw : base <= w.heap.size) (hcell : w.cell? ⟨B, 0, none⟩ = some (.string s)) :
 Calls Try.prog 44 #[v, .func (.func 45) #[] #[.pointer (some ⟨B, 0, none⟩)]] w fun e w' => ∃ v', e = .returned v' /\ Kd.R Kd.string 9 w' base (fun _ => True) v' (out.filter (fun x => !but s x)) /\ Below base w w' := by
 have hown := Kd.own_of_R hR
 obtain ⟨hlen, ⟨rfl, hn⟩ | ⟨g, c, cur, rfl, hb, hg, hnc, hcm, hcs, htk⟩⟩ := hown
 · have : out = [] := List.eq_nil_of_length_eq_zero hn
   subst this
   refine (del_nil w _).mono ?_
   rintro e w' ⟨rfl, rfl⟩
   exact ⟨_, rfl, Kd.R_nil _ _ _ _ _, Below.refl _ _⟩
 · refine (del_calls w g c base B out s _ hR (by omega) (by omega) hcell).mono ?_
   rintro e w' ⟨v', rfl, h1, _, h2⟩
   exact ⟨v', rfl, h1, h2⟩
end Mg
end Go.Proofs.Ytmadhaccjmakdaa
namespace Go.Proofs.Ytmadhaccjmakdaa
namespace P
open Go.RowKit Go.Proofs.Yw.A Go.Proofs.Yw.B Go.Proofs.Yw.C
def slices_Clone_int.f (l : List Int) : Option (List Int) := if l.length < 17592186044416 then some l else none
theorem slices_Clone_int.calls (A0 : Option Addr) (c0 : Nat) (l0 : List Int) (r : List Int) (w : World) (hr0 : Kd.C (Kd.int .i64) w A0 l0.length l0) (hc0 : l0.length <= c0) (h : slices_Clone_int.f l0 = some r) :
 Calls Try.prog 65 #[.slice A0 l0.length c0] w fun e w' => ∃ v0_ : Value, e = .returned (v0_) /\ Kd.R (Kd.int .i64) 3 w' w.heap.size (fun _ => True) v0_ r /\ Below w.heap.size w w' := by
 unfold slices_Clone_int.f at h
 by_cases hn : l0.length < 17592186044416
 case neg => rw [if_neg hn] at h; cases h
 rw [if_pos hn] at h
 obtain rfl := Option.some.inj h
 have HR := Az.mk hr0
 clear h hr0
 cases A0 with
 | none =>
  have hl0 : l0 = [] := by
   cases l0 with
   | nil => rfl
   | cons a l => obtain ⟨_, _, h3⟩ := HR.1; obtain ⟨ad, e, _⟩ := h3 (by simp); cases e
  subst hl0
  have hq := Lib.run_eql_slice_nil (P := Try.prog) w 55 3 none 0 c0 0 0 Try.underlying55
  go_enter Try.func65, Try.ntmps65
  go_wp2
  go_ret
  exact ⟨_, rfl, Kd.R_nil _ _ _ _ _, Below.refl _ _⟩
 | some ad =>
  have OW := Az.mk (Kd.R_of_own (h1 := fun _ => rfl) (enc := Value.int .i64) (xs := []) (base := w.heap.size) (ok := fun _ => True) (e := 3) (w := w.alloc (.cells #[] 3)) (v := .slice (some ⟨w.heap.size, 0, none⟩) 0 0) ⟨by simp [encs], .inr ⟨w.heap.size, 0, #[], rfl, Nat.le_refl _, blk_new w _, Nat.le_refl _, Nat.zero_le _, by simp, by simp [encs]⟩⟩ (fun _ _ => trivial))
  have HC := Az.mk (Kd.C_below HR.1 (below_alloc (Below.refl w.heap.size w) (.cells #[] 3)))
  have hq := Lib.run_eql_slice_nil (P := Try.prog) w 55 3 (some ad) l0.length c0 0 0 Try.underlying55
  go_enter Try.func65, Try.ntmps65
  go_wp2_with ((with_reducible refine gate_builtin (b := .append) (xs := #[.tmp 5, .tmp 6]) rfl ?_); at_builtin; refine Kd.R_append_row (Value.int .i64) (0 : Int) (w0 := w) w.heap.size rfl (.tmp 5) (.tmp 6) 55 3 (.int .i64 0) 8 rfl Try.underlying55 info3 rfl (by decide) (.slice (some ⟨w.heap.size, 0, none⟩) 0 0) [] l0 (some ad) l0.length c0 (fun _ => True) rfl rfl (fun _ _ => trivial) OW.1 HC.1 (below_alloc (Below.refl w.heap.size w) _) (by simp) (by simp; omega) ?_)
  intro v1 w1 ho hb _ _
  have Ho := Az.mk ho
  have Hb := Az.mk hb
  clear ho hb
  obtain ⟨A1, q1, rfl⟩ := Kd.R_slice Ho.1
  go_wp2_with fail
  go_ret
  exact ⟨_, rfl, Ho.1, Hb.1⟩
end P
end Go.Proofs.Ytmadhaccjmakdaa
namespace Go.Proofs.Ytmadhaccjmakdaa.P
open Go.RowKit Go.Proofs.Yw.A Go.Proofs.Yw.A.Kd Go.Proofs.Yw.B Go.Proofs.Yw.C
attribute [local go_sem] str_gtr str_leq str_geq max2_int min2_int max_two min_two max_three min_three max_four min_four
noncomputable def g_reached.l0 : Nat -> List (List Int) -> List Bool -> List Int -> Option (List Bool)
 | 0, _, _, _ => none
 | k + 1, x0, x5, x6 => if (x6.length : Int) > 0 then (if 0 <= (wrap64 ((x6.length : Int) - 1)) then (if (wrap64 ((x6.length : Int) - 1)) < (x6.length : Int) then (if (wrap64 ((x6.length : Int) - 1)) <= (x6.length : Int) then ((some (x6.take ((wrap64 ((x6.length : Int) - 1)) : Int).toNat : List Int)).bind fun y235 => (if 0 <= (rd x6 (wrap64 ((x6.length : Int) - 1))) then (if (rd x6 (wrap64 ((x6.length : Int) - 1))) < (x5.length : Int) then (if (rdOf false x5 (rd x6 (wrap64 ((x6.length : Int) - 1))) = true) then (g_reached.l0 k x0 x5 y235) else (if (rd x6 (wrap64 ((x6.length : Int) - 1))) < (x0.length : Int) then (if y235.length + (rd_L11 x0 (rd x6 (wrap64 ((x6.length : Int) - 1)))).length < 17592186044416 then (g_reached.l0 k x0 (x5.set ((rd x6 (wrap64 ((x6.length : Int) - 1))) : Int).toNat true) (y235 ++ (rd_L11 x0 (rd x6 (wrap64 ((x6.length : Int) - 1)))))) else (none)) else (none))) else (none)) else (none))) else (none)) else (none)) else (none)) else (some x5)
noncomputable def g_reached.f (k : Nat) (l0 : List (List Int)) (l1 : List Int) : Option (List Bool) := if 0 <= (l0.length : Int) then (if ((l0.length : Int) : Int).toNat <= 281474976710656 then ((slices_Clone_int.f l1).bind fun t231 => (g_reached.l0 k l0 (List.replicate ((l0.length : Int) : Int).toNat false) t231)) else (none)) else (none)
theorem g_reached.calls (k : Nat) (A0 : Option Addr) (c0 : Nat) (l0 : List (List Int)) (A1 : Option Addr) (c1 : Nat) (l1 : List Int) (r : List Bool) (w : World) (hr0 : Kd.C (Kd.slice 3 (Kd.int .i64)) w A0 l0.length l0) (hc0 : l0.length <= c0) (hr1 : Kd.C (Kd.int .i64) w A1 l1.length l1) (hc1 : l1.length <= c1) (h : g_reached.f k l0 l1 = some r) :
 Calls Try.prog 58 #[.slice A0 l0.length c0, .slice A1 l1.length c1] w fun e w' => ∃ v0_ : Value, e = .returned (v0_) /\ Kd.R Kd.bool 4 w' w.heap.size (fun _ => True) v0_ r /\ Below w.heap.size w w' := by
 have HR0 := aM hr0
 have HC0 := aM hc0
 clear hr0 hc0
 have HR1 := aM hr1
 have HC1 := aM hc1
 clear hr1 hc1
 have HB := aM (Below.refl w.heap.size w)
 have H : (if 0 <= (l0.length : Int) then (if ((l0.length : Int) : Int).toNat <= 281474976710656 then ((slices_Clone_int.f l1).bind fun t231 => (g_reached.l0 k l0 (List.replicate ((l0.length : Int) : Int).toNat false) t231)) else (none)) else (none)) = some r := h
 clear h
 by_cases c3 : 0 <= (l0.length : Int)
 rotate_left
 · rw [if_neg c3] at H
   exact absurd H (by simp)
 rw [if_pos c3] at H
 have c3b0 := eq_true c3
 have c3b1 : decide (0 <= (l0.length : Int)) = true := decide_eq_true c3
 clear c3
 by_cases c4 : ((l0.length : Int) : Int).toNat <= 281474976710656
 rotate_left
 · rw [if_neg c4] at H
   exact absurd H (by simp)
 rw [if_pos c4] at H
 have c4b0 := eq_true c4
 have c4b1 : decide (((l0.length : Int) : Int).toNat <= 281474976710656) = true := decide_eq_true c4
 clear c4
 obtain ⟨y228, hy228⟩ : ∃ y_ : List Bool, y_ = (List.replicate ((l0.length : Int) : Int).toNat false) := ⟨_, rfl⟩
 replace H : ((slices_Clone_int.f l1).bind fun t231 => (g_reached.l0 k l0 y228 t231)) = some r := by first | (rw [hy228]; with_reducible exact H) | (have H2_ := (Option.bind_some _ _).symm.trans H; rw [hy228]; with_reducible exact H2_) | (have H2_ := (Option.bind_some _ _).symm.trans H; with_reducible exact H2_) | with_reducible exact H | (rw [hy228]; exact H) | exact H
 have Ny228 := aM hy228
 clear hy228
 replace H := Option.bind_eq_some_iff.mp H
 obtain ⟨t231, A50, H⟩ := H
 try dsimp only at H
 have A5 := aM A50
 clear A50
 have H' := aM H
 clear H
 go_enter Try.func58, Try.ntmps58
 go_wp2_with (first | ((with_reducible refine gate_dst (N := 10) rfl ?_); refine R_make Kd.bool _ 4 rfl (N := 10) rfl 92 _ _ rfl (l0.length : Int) rfl rfl Try.underlying92 (.bool false) 1 info4 rfl (by decide) (by omega) false (ok := fun _ => True) (okp := fun _ => True) rfl (fun _ hk => hk) trivial (dt) (Nat.le_trans (Nat.mul_le_mul_right _ (dt : (l0.length : Int).toNat <= 281474976710656)) (by omega)) (Below.refl _ _) (Nat.le_refl _) ?_; intro v229 w6 ho7 hb hg_ hnew_; clear hg_ hnew_; (first | rw [<- Ny228.1] at ho7 | (simp only [Int.reduceToNat] at ho7; rw [<- Ny228.1] at ho7)); have HO230 := aM (R_lower ho7 (below_size (hh HB))); replace HB := bs HB hb; clear hb ho7) | ((with_reducible refine gate_callee (f := 65) rfl ?_); refine gL (some 12) rfl rfl Try.func65 (by kernel_rfl) rfl #[.slice A1 l1.length c1] rfl ?_; (with_reducible refine (slices_Clone_int.calls _ _ l1 t231 _ ?side1 ?side2 A5.1).mono ?_); (case side1 => exact cb HR1 HB); (case side2 => exact HC1.1); rintro e w8 ⟨v232, rfl, ho0, hb⟩; refine ⟨_, rfl, ?_⟩; have HO233 := aM (R_lower ho0 (below_size (hh HB))); replace HO230 := rb HO230 hb; replace HB := bs HB hb; clear hb ho0))
 go_loopg [6] k (fun kq v6 w' => ∃ (x5_1 : List Bool) (x6_1 : List Int), Az (g_reached.l0 kq l0 x5_1 x6_1 = some r) /\ Az (kq <= k) /\ Az (Kd.R Kd.bool 4 w' w.heap.size (fun _ => True) v229 x5_1) /\ Az (Kd.R (Kd.int .i64) 3 w' w.heap.size (fun _ => True) v6 x6_1) /\ Az (Below w.heap.size w w'))
 case atStart => exact ⟨(y228), (t231), H', ⟨Nat.le_refl _⟩, ⟨rk HO230⟩, ⟨rk HO233⟩, ⟨hh HB⟩⟩
 case round =>
  clear H'
  clear c3b0 c3b1 c4b0 c4b1
  obtain ⟨x5_1, x6_1, HA, HK1, HO_5, HO_6, HB⟩ := hrel
  cases gk with
  | zero => exact absurd HA.1 (by simp [g_reached.l0])
  | succ k1 =>
   have H := HA.1
   clear HA
   simp only [g_reached.l0] at H
   by_cases c9 : (x6_1.length : Int) > 0
   rotate_left
   · rw [if_neg c9] at H
     have c9b0 : decide (0 < (x6_1.length : Int)) = false := decide_eq_false c9
     have c9b1 : decide (0 < x6_1.length) = false := decide_eq_false (by omega)
     clear c9
     obtain rfl := Option.some.inj H
     obtain ⟨Ao30, co30, eo30⟩ := R_slice HO_6.1
     subst eo30
     go_wp2
     go_ret
     exact ⟨_, by first | rfl | (simp [errW_none, errW_some] <;> rfl) | (simp [*, errW_none, errW_some] <;> rfl), rk HO_5, hh HB⟩
   rw [if_pos c9] at H
   have c9b0 : decide (0 < (x6_1.length : Int)) = true := decide_eq_true c9
   have c9b1 : decide (0 < x6_1.length) = true := decide_eq_true (by omega)
   clear c9
   obtain ⟨ji10, hji10⟩ : ∃ j_ : Int, (wrap64 ((x6_1.length : Int) - 1)) = j_ := ⟨_, rfl⟩
   replace H : (if 0 <= (ji10) then (if (ji10) < (x6_1.length : Int) then (if (ji10) <= (x6_1.length : Int) then ((some (x6_1.take ((ji10) : Int).toNat : List Int)).bind fun y235 => (if 0 <= (rd x6_1 (ji10)) then (if (rd x6_1 (ji10)) < (x5_1.length : Int) then (if (rdOf false x5_1 (rd x6_1 (ji10)) = true) then (g_reached.l0 k1 l0 x5_1 y235) else (if (rd x6_1 (ji10)) < (l0.length : Int) then (if y235.length + (rd_L11 l0 (rd x6_1 (ji10))).length < 17592186044416 then (g_reached.l0 k1 l0 (x5_1.set ((rd x6_1 (ji10)) : Int).toNat true) (y235 ++ (rd_L11 l0 (rd x6_1 (ji10))))) else (none)) else (none))) else (none)) else (none))) else (none)) else (none)) else (none)) = some r := by first | (rw [hji10] at H; exact H) | (simp only [hji10] at H ⊢; exact H)
   have hji10w : (IntKind.i64.wrap ((x6_1.length : Int) - 1)) = ji10 := (i64_w _).trans hji10
   by_cases c11 : 0 <= (ji10)
   rotate_left
   · rw [if_neg c11] at H
     exact absurd H (by simp)
   rw [if_pos c11] at H
   have c11b0 : decide (0 <= (ji10)) = true := decide_eq_true c11
   clear c11
   by_cases c12 : (ji10) < (x6_1.length : Int)
   rotate_left
   · rw [if_neg c12] at H
     exact absurd H (by simp)
   rw [if_pos c12] at H
   have c12b0 : decide ((ji10) < (x6_1.length : Int)) = true := decide_eq_true c12
   clear c12
   by_cases c13 : (ji10) <= (x6_1.length : Int)
   rotate_left
   · rw [if_neg c13] at H
     exact absurd H (by simp)
   rw [if_pos c13] at H
   have c13b0 := eq_true c13
   have c13b1 : decide ((ji10) <= (x6_1.length : Int)) = true := decide_eq_true c13
   clear c13
   obtain ⟨y235, hy235⟩ : ∃ y_ : List Int, y_ = (x6_1.take ((ji10) : Int).toNat) := ⟨_, rfl⟩
   replace H : (if 0 <= (rd x6_1 (ji10)) then (if (rd x6_1 (ji10)) < (x5_1.length : Int) then (if (rdOf false x5_1 (rd x6_1 (ji10)) = true) then (g_reached.l0 k1 l0 x5_1 y235) else (if (rd x6_1 (ji10)) < (l0.length : Int) then (if y235.length + (rd_L11 l0 (rd x6_1 (ji10))).length < 17592186044416 then (g_reached.l0 k1 l0 (x5_1.set ((rd x6_1 (ji10)) : Int).toNat true) (y235 ++ (rd_L11 l0 (rd x6_1 (ji10))))) else (none)) else (none))) else (none)) else (none)) = some r := by first | (rw [hy235]; with_reducible exact H) | (have H2_ := (Option.bind_some _ _).symm.trans H; rw [hy235]; with_reducible exact H2_) | (have H2_ := (Option.bind_some _ _).symm.trans H; with_reducible exact H2_) | with_reducible exact H | (rw [hy235]; exact H) | exact H
   have Ny235 := aM hy235
   clear hy235
   by_cases c14 : 0 <= (rd x6_1 (ji10))
   rotate_left
   · rw [if_neg c14] at H
     exact absurd H (by simp)
   rw [if_pos c14] at H
   have c14b0 : decide (0 <= (rd x6_1 (ji10))) = true := decide_eq_true c14
   clear c14
   by_cases c15 : (rd x6_1 (ji10)) < (x5_1.length : Int)
   rotate_left
   · rw [if_neg c15] at H
     exact absurd H (by simp)
   rw [if_pos c15] at H
   have c15b0 : decide ((rd x6_1 (ji10)) < (x5_1.length : Int)) = true := decide_eq_true c15
   clear c15
   obtain ⟨bq16, hbq16⟩ : ∃ b_ : Bool, b_ = (rdOf false x5_1 (rd x6_1 (ji10))) := ⟨_, rfl⟩
   replace H : (if (bq16 = true) then (g_reached.l0 k1 l0 x5_1 y235) else (if (rd x6_1 (ji10)) < (l0.length : Int) then (if y235.length + (rd_L11 l0 (rd x6_1 (ji10))).length < 17592186044416 then (g_reached.l0 k1 l0 (x5_1.set ((rd x6_1 (ji10)) : Int).toNat true) (y235 ++ (rd_L11 l0 (rd x6_1 (ji10))))) else (none)) else (none))) = some r := by rw [<- hbq16] at H; exact H
   have Nbq16 := aM hbq16
   clear hbq16
   by_cases c17 : (bq16 = true)
   · subst c17
     rw [if_pos rfl] at H
     have H' := aM H
     clear H
     obtain ⟨Ao18, co18, eo18⟩ := R_slice HO_6.1
     subst eo18
     have p234 : 0 <= ((ji10) : Int) := dt
     have q234 : (ji10) < (x6_1.length : Int) := dt
     obtain ⟨ad234, e234, hx234_0⟩ := Kd.at_int (R_reads' HO_6.1).2.2 (ji10) p234 q234
     cases e234
     replace p234 := eq_true p234
     replace q234 := eq_true q234
     have q19 : ((ji10) : Int) <= ((x6_1.length : Int) : Int) := dt
     obtain ⟨i019, hi019, _, hsz19, _⟩ := info_parts info3
     have hcut19 := cut_to (P := Try.prog) 55 3 .i64 Try.underlying55 hi019 (some ad234) x6_1.length co18 (ji10) (dt) q19 (R_reads' HO_6.1).2.1
     have hr19 := R_take (m := ((ji10) : Int).toNat) HO_6.1 (by omega)
     have hy19 : y235.length = ((ji10) : Int).toNat := (by rw [Ny235.1, List.length_take]; omega)
     rw [<- Ny235.1] at hr19
     rw [<- hy19] at hr19 hcut19
     clear hy19 hi019 hsz19 HO_6
     have HO237 := aM hr19
     clear hr19
     replace q19 := eq_true q19
     obtain ⟨Ao20, co20, eo20⟩ := R_slice HO_5.1
     subst eo20
     have p238 : 0 <= ((rd x6_1 (ji10)) : Int) := dt
     have q238 : (rd x6_1 (ji10)) < (x5_1.length : Int) := dt
     obtain ⟨ad238, e238, hx238_0⟩ := Kd.at_bool (R_reads' HO_5.1).2.2 (rd x6_1 (ji10)) p238 q238
     (try rw [<- Nbq16.1] at hx238_0)
     cases e238
     replace p238 := eq_true p238
     replace q238 := eq_true q238
     go_wp2
     go_roundg k1
     case measure => have := HK1.1; omega
     case rel => exact ⟨(x5_1), (y235), H', ⟨by have := HK1.1; omega⟩, ⟨rk HO_5⟩, ⟨rk HO237⟩, ⟨hh HB⟩⟩
   replace c17 := Bool.eq_false_iff.mpr c17
   subst c17
   rw [if_neg (show ¬ (false = true) by decide)] at H
   obtain ⟨y239, hy239⟩ : ∃ y_ : List Bool, y_ = (x5_1.set ((rd x6_1 (ji10)) : Int).toNat true) := ⟨_, rfl⟩
   replace H : (if (rd x6_1 (ji10)) < (l0.length : Int) then (if y235.length + (rd_L11 l0 (rd x6_1 (ji10))).length < 17592186044416 then (g_reached.l0 k1 l0 y239 (y235 ++ (rd_L11 l0 (rd x6_1 (ji10))))) else (none)) else (none)) = some r := by first | (rw [hy239]; with_reducible exact H) | (have H2_ := (Option.bind_some _ _).symm.trans H; rw [hy239]; with_reducible exact H2_) | (have H2_ := (Option.bind_some _ _).symm.trans H; with_reducible exact H2_) | with_reducible exact H | (rw [hy239]; exact H) | exact H
   have Ny239 := aM hy239
   clear hy239
   by_cases c22 : (rd x6_1 (ji10)) < (l0.length : Int)
   rotate_left
   · rw [if_neg c22] at H
     exact absurd H (by simp)
   rw [if_pos c22] at H
   have c22b0 : decide ((rd x6_1 (ji10)) < (l0.length : Int)) = true := decide_eq_true c22
   clear c22
   by_cases c23 : y235.length + (rd_L11 l0 (rd x6_1 (ji10))).length < 17592186044416
   rotate_left
   · rw [if_neg c23] at H
     exact absurd H (by simp)
   rw [if_pos c23] at H
   have LMc23 := aM c23
   clear c23
   obtain ⟨y241, hy241⟩ : ∃ y_ : List Int, y_ = (y235 ++ (rd_L11 l0 (rd x6_1 (ji10)))) := ⟨_, rfl⟩
   replace H : (g_reached.l0 k1 l0 y239 y241) = some r := by first | (rw [hy241]; with_reducible exact H) | (have H2_ := (Option.bind_some _ _).symm.trans H; rw [hy241]; with_reducible exact H2_) | (have H2_ := (Option.bind_some _ _).symm.trans H; with_reducible exact H2_) | with_reducible exact H | (rw [hy241]; exact H) | exact H
   have Ny241 := aM hy241
   clear hy241
   have H' := aM H
   clear H
   obtain ⟨Ao24, co24, eo24⟩ := R_slice HO_6.1
   subst eo24
   have p234 : 0 <= ((ji10) : Int) := dt
   have q234 : (ji10) < (x6_1.length : Int) := dt
   obtain ⟨ad234, e234, hx234_0⟩ := Kd.at_int (R_reads' HO_6.1).2.2 (ji10) p234 q234
   cases e234
   replace p234 := eq_true p234
   replace q234 := eq_true q234
   have q25 : ((ji10) : Int) <= ((x6_1.length : Int) : Int) := dt
   obtain ⟨i025, hi025, _, hsz25, _⟩ := info_parts info3
   have hcut25 := cut_to (P := Try.prog) 55 3 .i64 Try.underlying55 hi025 (some ad234) x6_1.length co24 (ji10) (dt) q25 (R_reads' HO_6.1).2.1
   have hr25 := R_take (m := ((ji10) : Int).toNat) HO_6.1 (by omega)
   have hy25 : y235.length = ((ji10) : Int).toNat := (by rw [Ny235.1, List.length_take]; omega)
   rw [<- Ny235.1] at hr25
   rw [<- hy25] at hr25 hcut25
   clear hy25 hi025 hsz25 HO_6
   have HO237 := aM hr25
   clear hr25
   replace q25 := eq_true q25
   obtain ⟨Ao26, co26, eo26⟩ := R_slice HO_5.1
   subst eo26
   have p238 : 0 <= ((rd x6_1 (ji10)) : Int) := dt
   have q238 : (rd x6_1 (ji10)) < (x5_1.length : Int) := dt
   obtain ⟨ad238, e238, hx238_0⟩ := Kd.at_bool (R_reads' HO_5.1).2.2 (rd x6_1 (ji10)) p238 q238
   (try rw [<- Nbq16.1] at hx238_0)
   cases e238
   replace p238 := eq_true p238
   replace q238 := eq_true q238
   have p21 : 0 <= ((rd x6_1 (ji10)) : Int) := dt
   have q21 : ((rd x6_1 (ji10)) : Int) < ((x5_1.length : Int) : Int) := dt
   obtain ⟨go21, co21, eo21, gb21, gl21, cl21, HG21⟩ := R_form HO_5.1 (by omega)
   (first | cases eo21 | (injection eo21 with ea_ en_ ec_; (first | subst ea_ | (injection ea_ with ea_; subst ea_)); subst ec_; clear en_))
   have GB21 := aM gb21
   have GG21 := aM HG21
   clear gb21 gl21 HG21
   (first | simp only [add_plain] at hx238_0 | skip)
   obtain ⟨hx21_0, hf21_0⟩ := R_celln false HO_5.1 ((rd x6_1 (ji10)) : Int) p21 q21
   replace p21 := eq_true p21
   replace q21 := eq_true q21
   have HP27 := R_putg HO_5.1 ((rd x6_1 (ji10)) : Int) true
   go_wp2_with (first | ((with_reducible refine gate_store (t := 4) (p := 34) rfl ?_); refine store_event (t := 4) (p := 34) (v := ?vo_w28) (w1 := (wr.setCell ⟨go21, ((rd x6_1 (ji10)) : Int).toNat, none⟩ (.bool true))) ?hg ?ho ?hn ?hr ?_; (case ho => rfl); (case hg => rfl); (case hn => rfl); (case hr => first | (go_simp; done) | (go_simp; rfl)); intro w28 hw; have hg : wr.grownBy w28 (some go21) := (by rw [hw]; exact HP27.2); have hp_ : Kd.R Kd.bool 4 w28 w.heap.size (fun _ => True) (.slice (some ⟨go21, 0, none⟩) x5_1.length co26) y239 := (by rw [hw, Ny239.1]; exact HP27.1); clear HP27; replace HO237 := aM (R_over' (v := (.slice (some ⟨go21, 0, none⟩) x5_1.length co26)) (rk HO237) (R_typed HO_5.1) (by decide) hg); replace HO_5 := aM (hp_); replace HB := aM ((by rw [hw]; exact below_set (HB.1) GB21.1 : Below w.heap.size w w28)); clear hg hw hp_; have p240 : 0 <= ((rd x6_1 (ji10)) : Int) := dt; have q240 : (rd x6_1 (ji10)) < (l0.length : Int) := dt; obtain ⟨ad240, A240_0, c240_0, e240, hx240_0, hl240_0, hi240_0⟩ := at_L11 HR0.1 (rd x6_1 (ji10)) p240 q240; cases e240; replace hx240_0 := hx HB hx240_0; have HR240_0 := aM hi240_0; have HC240_0 := aM hl240_0; clear hi240_0 hl240_0; replace p240 := eq_true p240; replace q240 := eq_true q240) | ((with_reducible refine gate_builtin (b := .append) (xs := #[.tmp 35, .tmp 39]) rfl ?_); at_builtin; refine R_append_rows (Kd.int .i64) (w0 := w) w.heap.size rfl (.tmp 35) (.tmp 39) 55 3 (.int .i64 0) 8 rfl Try.underlying55 info3 rfl (by decide) (by omega) (.slice (some ad234) y235.length co24) y235 (rd_L11 l0 (rd x6_1 (ji10))) _ _ _ (fun _ => True) (fun _ => False) rfl rfl ?aO ?aR (fun _ _ h => h) (fun _ h => h.elim) ?aF ?aB ?aS ?aL ?_; (case aR => exact cb HR240_0 HB); (case aB => exact (hh HB)); (case aF => exact (fun _ _ => trivial)); (case aO => exact (rk HO237)); (case aS => exact (below_size (hh HB))); (case aL => have := LMc23.1; omega); intro v242 w29 ho hb hg hat; rw [<- Ny241.1] at ho; have HO243 := aM (ho); replace HO_5 := aM (R_over' (rk HO_5) (R_typed (rk HO237)) (by decide) hg); replace HB := aM (hb); clear HO237; clear ho hb hg hat))
   go_roundg k1
   case measure => have := HK1.1; omega
   case rel => exact ⟨(y239), (y241), H', ⟨by have := HK1.1; omega⟩, ⟨rk HO_5⟩, ⟨rk HO243⟩, ⟨hh HB⟩⟩
mutual
noncomputable def g_Reach.j0 : Nat -> Int -> Bool -> List (List Int) -> Option (List Int)
 | 0, _, _, _ => none
 | k + 1, x1, x21, x245000 => if x21 = true then (some ([] : List Int)) else ((g_reached.f k x245000 (([x1] : List Int))).bind fun t249 => (g_Reach.l0 k ([] : List Int) t249 (t249.length : Int) 0))
noncomputable def g_Reach.l0 : Nat -> List Int -> List Bool -> Int -> Int -> Option (List Int)
 | 0, _, _, _, _ => none
 | k + 1, x5, x26, x27, x28 => if x28 < x27 then (if 0 <= x28 then (if x28 < (x26.length : Int) then (if rdOf false x26 x28 = true then (if x5.length < 17592186044416 then (g_Reach.l0 k (x5 ++ [x28]) x26 x27 (wrap64 (x28 + 1))) else (none)) else (g_Reach.l0 k x5 x26 x27 (wrap64 (x28 + 1)))) else (none)) else (none)) else (some x5)
end
noncomputable def g_Reach.f (k : Nat) (l0_0 : List (List Int)) (a1 : Int) : Option (List Int) := (g_valid.f k l0_0).bind fun t245 => (if t245 = true then (if a1 < 0 then (g_Reach.j0 k a1 true l0_0) else (g_Reach.j0 k a1 (decide (a1 >= (l0_0.length : Int))) l0_0)) else (g_Reach.j0 k a1 true l0_0))
theorem g_Reach.calls (k : Nat) (A0_0 : Option Addr) (c0_0 : Nat) (l0_0 : List (List Int)) (a1 : Int) (r : List Int) (w : World) (hr0_0 : Kd.C (Kd.slice 3 (Kd.int .i64)) w A0_0 l0_0.length l0_0) (hc0_0 : l0_0.length <= c0_0) (h : g_Reach.f k l0_0 a1 = some r) :
 Calls Try.prog 43 #[.agg #[.slice A0_0 l0_0.length c0_0], .int .i64 a1] w fun e w' => ∃ v0_ : Value, e = .returned (v0_) /\ Kd.R (Kd.int .i64) 3 w' w.heap.size (fun _ => True) v0_ r /\ Below w.heap.size w w' := by
 have hu49 := Try.underlying49
 have HR0_0 := aM hr0_0
 have HC0_0 := aM hc0_0
 clear hr0_0 hc0_0
 have HB := aM (Below.refl w.heap.size w)
 have H : ((g_valid.f k l0_0).bind fun t245 => (if t245 = true then (if a1 < 0 then (g_Reach.j0 k a1 true l0_0) else (g_Reach.j0 k a1 (decide (a1 >= (l0_0.length : Int))) l0_0)) else (g_Reach.j0 k a1 true l0_0))) = some r := h
 clear h
 have HC3 := aM H
 clear H
 go_enter Try.func43, Try.ntmps43
 go_upto_region 1 with (first | ((with_reducible refine gate_dst (N := 2) rfl ?_); (try (refine gate_guard (by rfl) ?_; dsimp only)); refine be 2 rfl rfl #[.slice A0_0 l0_0.length c0_0] 49 ?_; intro gb244 hg w4 hbox hb; have BK244 := aM hbox; have GE244 := gs hg HB; replace HB := bs HB hb; clear hb hbox hg))
 (try simp only [Act.put, sA, sZ, sS])
 go_cut [21] (fun v21 wc => ∃ (kq : Nat) (x21_2 : Bool), v21 = .bool x21_2 /\ Az (g_Reach.j0 kq a1 x21_2 l0_0 = some r) /\ Az (kq <= k) /\ Az (wc.heap[gb244]? = some (.cells #[(.slice A0_0 l0_0.length c0_0)] 49 (0, 0))) /\ Az (Below w.heap.size w wc))
 case first =>
  have H := HC3.1
  clear HC3
  replace H := Option.bind_eq_some_iff.mp H
  obtain ⟨t245, A50, H⟩ := H
  try dsimp only at H
  have A5 := aM A50
  clear A50
  by_cases c6 : t245 = true
  rotate_left
  · replace c6 := Bool.eq_false_iff.mpr c6
    subst c6
    rw [if_neg (show ¬ (false = true) by decide)] at H
    have H' := aM H
    clear H
    have hcz13_0 : w4.cell? ⟨gb244, 0, none⟩ = some (.slice A0_0 l0_0.length c0_0) := (blk_cell BK244.1 0).trans rfl
    have hfz13_0 := blk_frozen BK244.1 0
    go_wp2_with (first | ((with_reducible refine gate_callee (f := 39) rfl ?_); refine gL (some 9) rfl rfl Try.func39 (by kernel_rfl) rfl #[.agg #[.slice A0_0 l0_0.length c0_0]] rfl ?_; (with_reducible refine (g_valid.calls k _ _ l0_0 false _ ?side1 ?side2 A5.1).mono ?_); (case side1 => exact cb HR0_0 HB); (case side2 => exact HC0_0.1); rintro e w14 ⟨rfl, hb⟩; refine ⟨_, rfl, ?_⟩; replace BK244 := kb BK244 hb; replace HB := bs HB hb; clear hb))
    go_meet
    case rel => exact ⟨_, (true), rr, H', ⟨by first | omega | exact Nat.le_refl _⟩, ⟨kk BK244⟩, ⟨hh HB⟩⟩
  subst c6
  rw [if_pos rfl] at H
  by_cases c7 : a1 < 0
  · rw [if_pos c7] at H
    have c7b0 : decide (a1 < 0) = true := decide_eq_true c7
    clear c7
    (first | rw [c7b0] | (simp only [i64_w, i32_w]; rw [c7b0]) | skip)
    have H' := aM H
    clear H
    have hcz8_0 : w4.cell? ⟨gb244, 0, none⟩ = some (.slice A0_0 l0_0.length c0_0) := (blk_cell BK244.1 0).trans rfl
    have hfz8_0 := blk_frozen BK244.1 0
    go_wp2_with (first | ((with_reducible refine gate_callee (f := 39) rfl ?_); refine gL (some 9) rfl rfl Try.func39 (by kernel_rfl) rfl #[.agg #[.slice A0_0 l0_0.length c0_0]] rfl ?_; (with_reducible refine (g_valid.calls k _ _ l0_0 true _ ?side1 ?side2 A5.1).mono ?_); (case side1 => exact cb HR0_0 HB); (case side2 => exact HC0_0.1); rintro e w9 ⟨rfl, hb⟩; refine ⟨_, rfl, ?_⟩; replace BK244 := kb BK244 hb; replace HB := bs HB hb; clear hb))
    go_meet
    case rel => exact ⟨_, (true), rr, H', ⟨by first | omega | exact Nat.le_refl _⟩, ⟨kk BK244⟩, ⟨hh HB⟩⟩
  rw [if_neg c7] at H
  have c7b0 : decide (a1 < 0) = false := decide_eq_false c7
  clear c7
  (first | rw [c7b0] | (simp only [i64_w, i32_w]; rw [c7b0]) | skip)
  have H' := aM H
  clear H
  have hcz10_0 : w4.cell? ⟨gb244, 0, none⟩ = some (.slice A0_0 l0_0.length c0_0) := (blk_cell BK244.1 0).trans rfl
  have hfz10_0 := blk_frozen BK244.1 0
  go_wp2_with (first | ((with_reducible refine gate_callee (f := 39) rfl ?_); refine gL (some 9) rfl rfl Try.func39 (by kernel_rfl) rfl #[.agg #[.slice A0_0 l0_0.length c0_0]] rfl ?_; (with_reducible refine (g_valid.calls k _ _ l0_0 true _ ?side1 ?side2 A5.1).mono ?_); (case side1 => exact cb HR0_0 HB); (case side2 => exact HC0_0.1); rintro e w11 ⟨rfl, hb⟩; refine ⟨_, rfl, ?_⟩; replace BK244 := kb BK244 hb; replace HB := bs HB hb; clear hb; have hcz12_0 : w11.cell? ⟨gb244, 0, none⟩ = some (.slice A0_0 l0_0.length c0_0) := (blk_cell BK244.1 0).trans rfl; have hfz12_0 := blk_frozen BK244.1 0))
  go_meet
  case rel => exact ⟨_, (decide (a1 >= (l0_0.length : Int))), rr, H', ⟨by first | omega | exact Nat.le_refl _⟩, ⟨kk BK244⟩, ⟨hh HB⟩⟩
 case rest =>
  clear HC3
  obtain ⟨kq, x21_2, rfl, HA, HJ2, BK244, HB⟩ := hcut
  cases kq with
  | zero => exact absurd HA.1 (by simp [g_Reach.j0])
  | succ kj2 =>
   have H := HA.1
   clear HA
   simp only [g_Reach.j0] at H
   by_cases c15 : x21_2 = true
   · subst c15
     rw [if_pos rfl] at H
     obtain rfl := Option.some.inj H
     go_wp2
     go_ret
     exact ⟨_, by first | rfl | (simp [errW_none, errW_some] <;> rfl) | (simp [*, errW_none, errW_some] <;> rfl), by first | exact R_nil _ _ _ _ _ | exact N_nil _ _ _ _ _ | exact V_nil _ _ _ _ _ | exact Q_nil _ _ _ _ _ | exact S_nil _ _ _ _ _, hh HB⟩
   replace c15 := Bool.eq_false_iff.mpr c15
   subst c15
   rw [if_neg (show ¬ (false = true) by decide)] at H
   obtain ⟨y246, hy246⟩ : ∃ y_ : List Int, y_ = (([a1] : List Int)) := ⟨_, rfl⟩
   replace H : ((g_reached.f kj2 l0_0 y246).bind fun t249 => (g_Reach.l0 kj2 ([] : List Int) t249 (t249.length : Int) 0)) = some r := by first | (rw [hy246]; with_reducible exact H) | (have H2_ := (Option.bind_some _ _).symm.trans H; rw [hy246]; with_reducible exact H2_) | (have H2_ := (Option.bind_some _ _).symm.trans H; with_reducible exact H2_) | with_reducible exact H | (rw [hy246]; exact H) | exact H
   have Ny246 := aM hy246
   clear hy246
   replace H := Option.bind_eq_some_iff.mp H
   obtain ⟨t249, A160, H⟩ := H
   try dsimp only at H
   have A16 := aM A160
   clear A160
   have H' := aM H
   clear H
   have hcz17_0 : wc.cell? ⟨gb244, 0, none⟩ = some (.slice A0_0 l0_0.length c0_0) := (blk_cell BK244.1 0).trans rfl
   have hfz17_0 := blk_frozen BK244.1 0
   go_wp2_with (first | ((with_reducible refine gate_dst (N := 25) rfl ?_); (try (refine gate_guard (by rfl) ?_; dsimp only)); refine R_lit (Kd.int .i64) _ 3 ?hg (N := 25) ?hd (xs := ([a1] : List Int)) (inner := [.int .i64 a1]) (ok := fun _ => True) (okp := fun _ => True) ?hr ?hp (fun _ hk => hk) trivial (Below.refl _ _) (Nat.le_refl _) (by simp) ?_; (case hd => rfl); (case hg => rfl); (case hr => first | (go_simp; done) | (go_simp; rfl)); (case hp => exact (Reps.one (show Kd.M (Kd.int .i64) _ _ _ a1 [.int .i64 a1] from rfl) (Reps.none _ _))); intro v247 w18 ho19 hb hg_ hnew_; clear hg_ hnew_; (first | rw [<- Ny246.1] at ho19 | (simp only [Int.reduceToNat] at ho19; rw [<- Ny246.1] at ho19)); have HO248 := aM (R_lower ho19 (below_size (hh HB))); replace BK244 := kb BK244 hb; replace HB := bs HB hb; clear hb ho19; obtain ⟨Ao20, co20, eo20⟩ := R_slice HO248.1; subst eo20) | ((with_reducible refine gate_callee (f := 58) rfl ?_); refine gL (some 26) rfl rfl Try.func58 (by kernel_rfl) rfl #[.slice A0_0 l0_0.length c0_0, .slice Ao20 y246.length co20] rfl ?_; (with_reducible refine (g_reached.calls kj2 _ _ l0_0 _ _ y246 t249 _ ?side1 ?side2 ?side3 ?side4 A16.1).mono ?_); (case side1 => exact cb HR0_0 HB); (case side2 => exact HC0_0.1); (case side3 => exact cr HO248); (case side4 => exact (R_reads' HO248.1).2.1); rintro e w21 ⟨v250, rfl, ho0, hb⟩; refine ⟨_, rfl, ?_⟩; have HO251 := aM (R_lower ho0 (below_size (hh HB))); replace HO248 := rb HO248 hb; replace BK244 := kb BK244 hb; replace HB := bs HB hb; clear hb ho0; obtain ⟨Ao22, co22, eo22⟩ := R_slice HO251.1; subst eo22))
   go_loopg [5, 28] kj2 (fun kq v5 v28 w' => ∃ (x5_2 : List Int) (x28_2 : Int), v28 = .int .i64 x28_2 /\ Az (g_Reach.l0 kq x5_2 t249 (t249.length : Int) x28_2 = some r) /\ Az (kq <= kj2) /\ Az (Kd.R (Kd.int .i64) 3 w' w.heap.size (fun _ => True) v5 x5_2) /\ Az (Kd.R Kd.bool 4 w' w.heap.size (fun _ => True) (.slice Ao22 t249.length co22) t249) /\ Az (w'.heap[gb244]? = some (.cells #[(.slice A0_0 l0_0.length c0_0)] 49 (0, 0))) /\ Az (Below w.heap.size w w'))
   case atStart => exact ⟨(([] : List Int)), (0), rr, H', ⟨Nat.le_refl _⟩, ⟨by first | exact R_nil _ _ _ _ _ | exact N_nil _ _ _ _ _ | exact V_nil _ _ _ _ _ | exact Q_nil _ _ _ _ _ | exact S_nil _ _ _ _ _⟩, ⟨rk HO251⟩, ⟨kk BK244⟩, ⟨hh HB⟩⟩
   case round =>
    clear H'
    clear hcz17_0 hfz17_0
    obtain ⟨x5_2, x28_2, rfl, HA, HK2, HO_5, HO_26, BK244, HB⟩ := hrel
    cases gk with
    | zero => exact absurd HA.1 (by simp [g_Reach.l0])
    | succ k2 =>
     have H := HA.1
     clear HA
     simp only [g_Reach.l0] at H
     by_cases c23 : x28_2 < (t249.length : Int)
     rotate_left
     · rw [if_neg c23] at H
       have c23b0 : decide (x28_2 < (t249.length : Int)) = false := decide_eq_false c23
       clear c23
       obtain rfl := Option.some.inj H
       go_wp2
       go_ret
       exact ⟨_, by first | rfl | (simp [errW_none, errW_some] <;> rfl) | (simp [*, errW_none, errW_some] <;> rfl), rk HO_5, hh HB⟩
     rw [if_pos c23] at H
     have c23b0 : decide (x28_2 < (t249.length : Int)) = true := decide_eq_true c23
     clear c23
     by_cases c24 : 0 <= x28_2
     rotate_left
     · rw [if_neg c24] at H
       exact absurd H (by simp)
     rw [if_pos c24] at H
     have c24b0 : decide (0 <= x28_2) = true := decide_eq_true c24
     clear c24
     by_cases c25 : x28_2 < (t249.length : Int)
     rotate_left
     · rw [if_neg c25] at H
       exact absurd H (by simp)
     rw [if_pos c25] at H
     have c25b0 : decide (x28_2 < (t249.length : Int)) = true := decide_eq_true c25
     clear c25
     obtain ⟨bq26, hbq26⟩ : ∃ b_ : Bool, b_ = (rdOf false t249 x28_2) := ⟨_, rfl⟩
     replace H : (if bq26 = true then (if x5_2.length < 17592186044416 then (g_Reach.l0 k2 (x5_2 ++ [x28_2]) t249 (t249.length : Int) (wrap64 (x28_2 + 1))) else (none)) else (g_Reach.l0 k2 x5_2 t249 (t249.length : Int) (wrap64 (x28_2 + 1)))) = some r := by rw [<- hbq26] at H; exact H
     have Nbq26 := aM hbq26
     clear hbq26
     by_cases c27 : bq26 = true
     rotate_left
     · replace c27 := Bool.eq_false_iff.mpr c27
       subst c27
       rw [if_neg (show ¬ (false = true) by decide)] at H
       have H' := aM H
       clear H
       have p252 : 0 <= (x28_2 : Int) := dt
       have q252 : x28_2 < (t249.length : Int) := dt
       obtain ⟨ad252, e252, hx252_0⟩ := Kd.at_bool (R_reads' HO_26.1).2.2 x28_2 p252 q252
       (try rw [<- Nbq26.1] at hx252_0)
       cases e252
       replace p252 := eq_true p252
       replace q252 := eq_true q252
       go_wp2
       go_roundg k2
       case measure => have := HJ2.1; have := HK2.1; omega
       case rel => exact ⟨(x5_2), (wrap64 (x28_2 + 1)), rr, H', ⟨by have := HJ2.1; have := HK2.1; omega⟩, ⟨rk HO_5⟩, ⟨rk HO_26⟩, ⟨kk BK244⟩, ⟨hh HB⟩⟩
     subst c27
     rw [if_pos rfl] at H
     by_cases c28 : x5_2.length < 17592186044416
     rotate_left
     · rw [if_neg c28] at H
       exact absurd H (by simp)
     rw [if_pos c28] at H
     have LMc28 := aM c28
     clear c28
     obtain ⟨y253, hy253⟩ : ∃ y_ : List Int, y_ = (x5_2 ++ [x28_2]) := ⟨_, rfl⟩
     replace H : (g_Reach.l0 k2 y253 t249 (t249.length : Int) (wrap64 (x28_2 + 1))) = some r := by first | (rw [hy253]; with_reducible exact H) | (have H2_ := (Option.bind_some _ _).symm.trans H; rw [hy253]; with_reducible exact H2_) | (have H2_ := (Option.bind_some _ _).symm.trans H; with_reducible exact H2_) | with_reducible exact H | (rw [hy253]; exact H) | exact H
     have Ny253 := aM hy253
     clear hy253
     have H' := aM H
     clear H
     have p252 : 0 <= (x28_2 : Int) := dt
     have q252 : x28_2 < (t249.length : Int) := dt
     obtain ⟨ad252, e252, hx252_0⟩ := Kd.at_bool (R_reads' HO_26.1).2.2 x28_2 p252 q252
     (try rw [<- Nbq26.1] at hx252_0)
     cases e252
     replace p252 := eq_true p252
     replace q252 := eq_true q252
     go_wp2_with (first | ((with_reducible refine gate_builtin (b := .append) (xs := #[.tmp 34, .tmp 36]) rfl ?_); (try (refine gate_guard (by rfl) ?_; dsimp only)); at_builtin; refine R_append (Kd.int .i64) (w0 := w) w.heap.size rfl (.tmp 34) (.tmp 36) 55 3 (.int .i64 0) 8 rfl Try.underlying55 info3 rfl (by decide) (by omega) u5 x5_2 x28_2 [.int .i64 x28_2] (fun _ => True) (fun _ => False) rfl rfl ?aP (fun _ hk => hk.elim) ?aF ?aO ?aB ?aS ?aL ?_; (case aP => exact rfl); (case aB => exact (hh HB)); (case aF => exact (fun _ _ => trivial)); (case aO => exact (rk HO_5)); (case aS => exact (below_size (hh HB))); (case aL => have := LMc28.1; omega); intro v254 w29 ho hb hg hat; rw [<- Ny253.1] at ho; have HO255 := aM (ho); replace HO_26 := aM (R_over' (rk HO_26) (R_typed (rk HO_5)) (by decide) hg); replace BK244 := aM (blk_grown (g := gb244) (o := .cells #[.slice A0_0 l0_0.length c0_0] 49 (0, 0)) (kk BK244) hg (R_ne HO_5.1 BK244.1 (by decide))); replace HB := aM (hb); clear HO_5; clear ho hb hg hat))
     go_roundg k2
     case measure => have := HJ2.1; have := HK2.1; omega
     case rel => exact ⟨(y253), (wrap64 (x28_2 + 1)), rr, H', ⟨by have := HJ2.1; have := HK2.1; omega⟩, ⟨rk HO255⟩, ⟨rk HO_26⟩, ⟨kk BK244⟩, ⟨hh HB⟩⟩
end Go.Proofs.Ytmadhaccjmakdaa.P
namespace Go.Proofs.Ytmadhaccjmakdaa
open Go.Shelf Go.Lib Go.RowKit Go.Maps Go.Sort Go.Proofs.Yw.A Go.Proofs.Yw.B Go.Proofs.Yw.C
attribute [local go_sem] max2_int min2_int max_two min_two max_three min_three max_four min_four
open P Mg
namespace P
open Classical in
noncomputable def m_reached.f (l0 : List ByteArray) (l1 l2 : List (List Int)) (s : ByteArray) : Option (List ByteArray × Int × ByteArray × Int × Int) :=
 if (l0.map dat).Pairwise (fun a b => a <= b) /\ l0.length <= 100 then
  if dat s ∈ l0.map dat then
   (Od.lim fun k => (g_Reach.f k l2 (rank (l0.map dat) (dat s) : Nat)).bind fun t => p_named.f k l0 l1 t).bind fun out => some (out.filter (fun x => !but s x), 0, ⟨#[]⟩, 0, 0)
  else some ([], 16, s, 0, 0)
 else none
end P
namespace Mg
def ReachPost (w : World) (r1 : List ByteArray) (r2 : Int) (r3 : ByteArray) (e : Ending) (w' : World) : Prop :=
 ∃ v0_ : Value, e = .returned (.tuple #[v0_, .agg #[.int .i64 r2, .string r3, .int .i64 0, .int .i64 0]]) /\ Kd.R Kd.string 9 w' w.heap.size (fun _ => True) v0_ r1 /\ Below w.heap.size w w'
def ReachAll (w : World) (l0 out : List ByteArray) (s : ByteArray) (e : Ending) (w' : World) : Prop := if dat s ∈ l0.map dat then ReachPost w (out.filter (fun x => !but s x)) 0 ⟨#[]⟩ e w' else ReachPost w [] 16 s e w'
def fst28 (w : World) (g : Nat) (c : Int) (x : ByteArray) : World := (((w.setCell ⟨g, 0, none⟩ (.int .i64 c)).setCell ⟨g, 1, none⟩ (.string x)).setCell ⟨g, 2, none⟩ (.int .i64 0)).setCell ⟨g, 3, none⟩ (.int .i64 0)
theorem fst28_f {w : World} {g : Nat} (h : w.heap[g]? = some (Obj.cells #[Value.int .i64 0, Value.string ⟨#[]⟩, Value.int .i64 0, Value.int .i64 0] 28 (0, 0))) (c : Int) (x : ByteArray) : (fst28 w g c x).heap[g]? = some (Obj.cells #[.int .i64 c, .string x, .int .i64 0, .int .i64 0] 28 (0, 0)) :=
 blk_put (blk_put (blk_put (blk_put h 0 _ rfl) 1 _ rfl) 2 _ rfl) 3 _ rfl
theorem fst28_below {w W : World} {B g : Nat} (h : Below B w W) (hg : B <= g) (c : Int) (x : ByteArray) : Below B w (fst28 W g c x) := by
 unfold fst28
 exact (((h.setCell hg _).setCell hg _).setCell hg _).setCell hg _
theorem fst28_heap (w : World) (g : Nat) (c : Int) (x : ByteArray) (k : Nat) (h : k ≠ g) : (fst28 w g c x).heap[k]? = w.heap[k]? := by
 unfold fst28
 rw [Below.heap_setCell _ _ _ k h, Below.heap_setCell _ _ _ k h, Below.heap_setCell _ _ _ k h, Below.heap_setCell _ _ _ k h]
theorem reached_walk (k : Nat) (A0 : Option Addr) (c0 : Nat) (l0 : List ByteArray) (A1 : Option Addr) (c1 : Nat) (l1 : List (List Int)) (A2 : Option Addr) (c2 : Nat) (l2 : List (List Int)) (s : ByteArray) (w : World)
 (hr0 : Kd.C Kd.string w A0 l0.length l0) (hA0 : PlainA A0) (hc0 : l0.length <= c0) (hr1 : Kd.C (Kd.slice 3 (Kd.int .i64)) w A1 l1.length l1) (hc1 : l1.length <= c1) (hr2 : Kd.C (Kd.slice 3 (Kd.int .i64)) w A2 l2.length l2) (hc2 : l2.length <= c2)
 (hp : (l0.map dat).Pairwise (fun a b => a <= b)) (hl : l0.length <= 100) (t : List Int) (out : List ByteArray)
 (h : dat s ∈ l0.map dat -> g_Reach.f k l2 (rank (l0.map dat) (dat s) : Nat) = some t /\ p_named.f k l0 l1 t = some out) :
 Calls Try.prog 31 #[.agg #[.slice A0 l0.length c0, .slice A1 l1.length c1], .agg #[.slice A2 l2.length c2], .string s] w (ReachAll w l0 out s) := by
 have hu51 := Try.underlying51
 have hu49 := Try.underlying49
 have hu28 := Try.underlying28
 have HR0 := Az.mk hr0
 have HA0 := Az.mk hA0
 have HC0 := Az.mk hc0
 have HR1 := Az.mk hr1
 have HC1 := Az.mk hc1
 have HR2 := Az.mk hr2
 have HC2 := Az.mk hc2
 have HP := Az.mk hp
 have HL := Az.mk hl
 have H := Az.mk h
 clear hr0 hA0 hc0 hr1 hc1 hr2 hc2 hp hl h
 go_enter Try.func31, Try.ntmps31
 go_upto_region 1 with fail
 obtain ⟨o1, ho1⟩ : ∃ o, o = Obj.cells #[Value.slice A0 l0.length c0, Value.slice A1 l1.length c1] 51 (0, 0) := ⟨_, rfl⟩
 obtain ⟨o2, ho2⟩ : ∃ o, o = Obj.cells #[Value.slice A2 l2.length c2] 49 (0, 0) := ⟨_, rfl⟩
 obtain ⟨o3, ho3⟩ : ∃ o, o = Obj.cells #[Value.string s] 9 (0, 0) := ⟨_, rfl⟩
 obtain ⟨o4, ho4⟩ : ∃ o, o = Obj.cells #[Value.int .i64 0, Value.string ⟨#[]⟩, Value.int .i64 0, Value.int .i64 0] 28 (0, 0) := ⟨_, rfl⟩
 have b1 := (MapKept.heap_alloc w o1).1
 have z1 : (w.alloc o1).heap.size = w.heap.size + 1 := by simp
 have b2 := (MapKept.heap_alloc (w.alloc o1) o2).1
 have z2 : ((w.alloc o1).alloc o2).heap.size = w.heap.size + 1 + 1 := by simp
 have b3 := (MapKept.heap_alloc ((w.alloc o1).alloc o2) o3).1
 have z3 : (((w.alloc o1).alloc o2).alloc o3).heap.size = w.heap.size + 1 + 1 + 1 := by simp
 have b4 := (MapKept.heap_alloc (((w.alloc o1).alloc o2).alloc o3) o4).1
 have z4 : ((((w.alloc o1).alloc o2).alloc o3).alloc o4).heap.size = w.heap.size + 1 + 1 + 1 + 1 := by simp
 have f1 := blk_alloc (blk_alloc (blk_alloc b1 o2) o3) o4
 rw [z1] at b2
 have f2 := blk_alloc (blk_alloc b2 o3) o4
 rw [z2] at b3
 have f3 := blk_alloc b3 o4
 rw [z3] at b4
 have hb := below_alloc (below_alloc (below_alloc (below_alloc (Below.refl w.heap.size w) o1) o2) o3) o4
 rw [<- ho1, <- ho2, <- ho3, <- ho4]
 clear b1 b2 b3 z1 z2 z3
 generalize (((w.alloc o1).alloc o2).alloc o3).alloc o4 = w4 at *
 rw [ho1] at f1
 rw [ho2] at f2
 rw [ho3] at f3
 rw [ho4] at b4
 have F1 := Az.mk f1
 have F2 := Az.mk f2
 have F3 := Az.mk f3
 have F4 := Az.mk b4
 have HB := Az.mk hb
 have Z4 := Az.mk z4
 clear f1 f2 f3 b4 z4 hb ho1 ho2 ho3 ho4 o1 o2 o3 o4
 have HN4 := Az.mk (Kd.C_below HR0.1 HB.1)
 have c1a := blk_cell F1.1 0
 have c3a := blk_cell F3.1 0
 by_cases hm : dat s ∈ l0.map dat
 rotate_left
 · have hdm := decide_eq_false hm
   have HM := Az.mk hm
   generalize hrk : rank (l0.map dat) (dat s) = n at *
   clear hm
   go_upto_region 3 with (go_at_call 42; (refine (search2 _ _ _ l0 s HN4.1 HA0.1 HP.1 HL.1).mono ?_); rintro e w5 ⟨he, hd⟩; rw [hdm, hrk] at he; subst he; have HD := Az.mk hd; clear hd)
   clear hrk hdm c1a c3a
   have hd5 := HD.1.below
   have hb5 : Below w.heap.size w w5 := HB.1.trans (hd5.mono HB.1.size)
   have HB5 := Az.mk hb5
   have G3 := blk_below F3.1 hd5
   have G4 := blk_below F4.1 hd5
   have HF8 := Az.mk G4
   have c3a := blk_cell G3 0
   have y0 := blk_cell G4 0
   have y1 := blk_cell G4 1
   have y2 := blk_cell G4 2
   have y3 := blk_cell G4 3
   have e0 := blk_frozen G4 0
   have e1 := blk_frozen G4 1
   have e2 := blk_frozen G4 2
   have e3 := blk_frozen G4 3
   clear hd5 hb5 G3 G4
   go_region
   all_goals go_wp2
   all_goals
    refine bodyPost_ret (results_tc rfl _ _ (w.heap.size + 1 + 1 + 1) 28 #[.int .i64 16, .string s, .int .i64 0, .int .i64 0] (0, 0) _ rfl (by first | exact fst28_f HF8.1 16 s | exact blk_drew (fst28_f HF8.1 16 s) | exact fst28_f (blk_drew HF8.1) 16 s) Try.underlying28 rfl hi28) rfl ?_
    show ReachAll _ _ _ _ _ _
    unfold ReachAll
    rw [if_neg HM.1]
    exact ⟨_, rfl, Kd.R_nil _ _ _ _ _, by first | exact fst28_below HB5.1 (by omega) 16 s | exact below_drew (fst28_below HB5.1 (by omega) 16 s) | exact fst28_below (below_drew HB5.1) (by omega) 16 s⟩
 have HT := Az.mk (H.1 hm)
 have HM := Az.mk hm
 have hdm := decide_eq_true hm
 generalize hrk : rank (l0.map dat) (dat s) = n at *
 clear hm
 go_upto_region 4 with (go_at_call 42; (refine (search2 _ _ _ l0 s HN4.1 HA0.1 HP.1 HL.1).mono ?_); rintro e w5 ⟨he, hd⟩; rw [hdm, hrk] at he; subst he; have HD := Az.mk hd; clear hd)
 clear hrk hdm c1a c3a
 have hd5 := HD.1.below
 have hb5 : Below w.heap.size w w5 := HB.1.trans (hd5.mono HB.1.size)
 have G1 := Az.mk (blk_below F1.1 hd5)
 have G2 := Az.mk (blk_below F2.1 hd5)
 have G3 := Az.mk (blk_below F3.1 hd5)
 have G4 := Az.mk (blk_below F4.1 hd5)
 have HB5 := Az.mk hb5
 have HR05 := Az.mk (Kd.C_below HR0.1 hb5)
 have HR15 := Az.mk (Kd.C_below HR1.1 hb5)
 have HR25 := Az.mk (Kd.C_below HR2.1 hb5)
 have c1a := blk_cell G1.1 0
 have c1b := blk_cell G1.1 1
 have c2a := blk_cell G2.1 0
 clear hd5 hb5
 go_region_with (first | (go_at_call 43; (refine (g_Reach.calls k _ _ l2 n t _ ?s1 HC2.1 HT.1.1).mono ?_); (case s1 => repeat (first | exact HR25.1 | (with_reducible refine Kd.C_alloc ?_ _) | (with_reducible refine Kd.C_drewN ?_ _) | (with_reducible refine Kd.C_drew ?_))); rintro e w6 ⟨v6, rfl, hr6, hb6⟩; obtain ⟨A6, c6, rfl⟩ := Kd.R_slice hr6; have HB6 : Az (Below w5.heap.size w5 w6) := ⟨by first | exact hb6 | exact below_step (below_drew (Below.refl _ _)) hb6 | exact below_step (pw_below_drewN (Below.refl _ _) _) hb6 | exact below_step (below_drew (below_drew (Below.refl _ _))) hb6⟩; have HR6 := Az.mk hr6; have c1a6 := blk_cell (blk_below G1.1 HB6.1) 0; have c1b6 := blk_cell (blk_below G1.1 HB6.1) 1; clear hr6 hb6 c1a c1b c2a) | (go_at_call 26; (refine (p_named.calls k _ _ l0 _ _ l1 _ _ t out _ ?s1 HC0.1 ?s2 HC1.1 ?s3 (Kd.R_reads' HR6.1).2.1 HT.1.2).mono ?_); (case s1 => repeat (first | exact (Kd.C_below HR05.1 HB6.1) | (with_reducible refine Kd.C_alloc ?_ _) | (with_reducible refine Kd.C_drewN ?_ _) | (with_reducible refine Kd.C_drew ?_))); (case s2 => repeat (first | exact (Kd.C_below HR15.1 HB6.1) | (with_reducible refine Kd.C_alloc ?_ _) | (with_reducible refine Kd.C_drewN ?_ _) | (with_reducible refine Kd.C_drew ?_))); (case s3 => repeat (first | exact (Kd.R_reads' HR6.1).2.2 | (with_reducible refine Kd.C_alloc ?_ _) | (with_reducible refine Kd.C_drewN ?_ _) | (with_reducible refine Kd.C_drew ?_))); rintro e w7 ⟨v7, rfl, hr7, hb7⟩; obtain ⟨A7, c7, rfl⟩ := Kd.R_slice hr7; have HR7 := Az.mk hr7; have HB7 : Az (Below w6.heap.size w6 w7) := ⟨by first | exact hb7 | exact below_step (below_drew (Below.refl _ _)) hb7 | exact below_step (pw_below_drewN (Below.refl _ _) _) hb7 | exact below_step (below_drew (below_drew (Below.refl _ _))) hb7⟩; clear hr7 hb7))
 all_goals
  have hb6 := HB6.1
  have hb7 := HB7.1
  have hs6 := hb6.size
  have hs7 := hb7.size
  have hs5 := HD.1.below.size
  have hz4 := Z4.1
  have hlt : w.heap.size + 1 + 1 < w6.heap.size := by omega
  have hle : w6.heap.size <= w7.heap.size := hs7
  have c3 : w7.cell? ⟨w.heap.size + 1 + 1, 0, none⟩ = some (.string s) := blk_cell (blk_below (blk_below G3.1 hb6) hb7) 0
  have hf7 := blk_below (blk_below G4.1 hb6) hb7
  have HF7 := Az.mk hf7
  have hbw : Below w.heap.size w w7 := (HB5.1.trans (hb6.mono HB5.1.size)).trans (hb7.mono (by have := HB5.1.size; omega))
  have HBW := Az.mk hbw
  have HLT := Az.mk (show w.heap.size + 1 + 1 + 1 < w6.heap.size by omega)
  clear hb6 hb7 hs6 hs7 hs5 hz4 hf7 hbw c1a6 c1b6
 all_goals go_wp2_with (first | (go_at_call 44; (refine (del_any _ w6.heap.size (w.heap.size + 1 + 1) out s _ ?s1 hlt ?s3 ?s4).mono ?_); (case s1 => repeat (first | exact HR7.1 | (with_reducible refine Kd.R_alloc ?_ _) | (with_reducible refine Kd.R_drewN ?_ _) | (with_reducible refine Kd.R_drew ?_))); (case s3 => first | exact hle | (simp; exact hle)); (case s4 => first | exact c3 | (simp; exact c3)); rintro e w8 ⟨v8, rfl, hr8, hb8⟩; have HR8 := Az.mk hr8; have HB8 : Az (Below w6.heap.size w7 w8) := ⟨by first | exact hb8 | exact (below_drew (Below.refl _ _)).trans hb8⟩; have hf8 := (HB8.1.block _ HLT.1).trans HF7.1; have HF8 := Az.mk hf8; have y0 := blk_cell hf8 0; have y1 := blk_cell hf8 1; have y2 := blk_cell hf8 2; have y3 := blk_cell hf8 3; have e0 := blk_frozen hf8 0; have e1 := blk_frozen hf8 1; have e2 := blk_frozen hf8 2; have e3 := blk_frozen hf8 3; clear hr8 hb8 hf8 hlt hle c3))
 all_goals
  refine bodyPost_ret (results_tc rfl _ _ (w.heap.size + 1 + 1 + 1) 28 #[.int .i64 0, .string ⟨#[]⟩, .int .i64 0, .int .i64 0] (0, 0) _ rfl (by first | exact fst28_f HF8.1 0 ⟨#[]⟩ | exact blk_drew (fst28_f HF8.1 0 ⟨#[]⟩) | exact fst28_f (blk_drew HF8.1) 0 ⟨#[]⟩) Try.underlying28 rfl hi28) rfl ?_
  show ReachAll _ _ _ _ _ _
  unfold ReachAll
  rw [if_pos HM.1]
  have hw6 : w.heap.size <= w6.heap.size := by have := HLT.1; omega
  have hlt3 := HLT.1
  refine ⟨_, rfl, ?_, by first | exact fst28_below (HBW.1.trans (HB8.1.mono hw6)) (by omega) 0 ⟨#[]⟩ | exact below_drew (fst28_below (HBW.1.trans (HB8.1.mono hw6)) (by omega) 0 ⟨#[]⟩)⟩
  refine Kd.R_lower ?_ hw6
  first
   | exact Kd.R_mono (Kd.R_move (Kd.R_bound HR8.1) (fun k hk => fst28_heap w8 _ 0 ⟨#[]⟩ k (by have := hk.2.1; omega))) (fun _ _ => trivial)
   | exact Kd.R_drew (Kd.R_mono (Kd.R_move (Kd.R_bound HR8.1) (fun k hk => fst28_heap w8 _ 0 ⟨#[]⟩ k (by have := hk.2.1; omega))) (fun _ _ => trivial))
end Mg
namespace P
theorem m_reached.calls (A0_0 : Option Addr) (c0_0 : Nat) (l0_0 : List ByteArray) (A0_1 : Option Addr) (c0_1 : Nat) (l0_1 : List (List Int)) (A1_0 : Option Addr) (c1_0 : Nat) (l1_0 : List (List Int)) (a2 : ByteArray) (r1 : List ByteArray) (r2 : Int) (r3 : ByteArray) (r4 r5 : Int) (w : World)
 (hr0_0 : Kd.C Kd.string w A0_0 l0_0.length l0_0 /\ PlainA A0_0) (hc0_0 : l0_0.length <= c0_0) (hr0_1 : Kd.C (Kd.slice 3 (Kd.int .i64)) w A0_1 l0_1.length l0_1) (hc0_1 : l0_1.length <= c0_1) (hr1_0 : Kd.C (Kd.slice 3 (Kd.int .i64)) w A1_0 l1_0.length l1_0) (hc1_0 : l1_0.length <= c1_0) (h : m_reached.f l0_0 l0_1 l1_0 a2 = some (r1, r2, r3, r4, r5)) :
 Calls Try.prog 31 #[.agg #[.slice A0_0 l0_0.length c0_0, .slice A0_1 l0_1.length c0_1], .agg #[.slice A1_0 l1_0.length c1_0], .string a2] w fun e w' => ∃ v0_ : Value, e = .returned (.tuple #[v0_, .agg #[.int .i64 r2, .string r3, .int .i64 r4, .int .i64 r5]]) /\ Kd.R Kd.string 9 w' w.heap.size (fun _ => True) v0_ r1 /\ Below w.heap.size w w' := by
 unfold m_reached.f at h
 by_cases hg : (l0_0.map dat).Pairwise (fun a b => a <= b) /\ l0_0.length <= 100
 rotate_left
 · rw [if_neg hg] at h
   cases h
 rw [if_pos hg] at h
 by_cases hm : dat a2 ∈ l0_0.map dat
 rotate_left
 · rw [if_neg hm] at h
   simp only [Option.some.injEq, Prod.mk.injEq] at h
   obtain ⟨rfl, rfl, rfl, rfl, rfl⟩ := h
   refine (reached_walk 0 A0_0 c0_0 l0_0 A0_1 c0_1 l0_1 A1_0 c1_0 l1_0 a2 w hr0_0.1 hr0_0.2 hc0_0 hr0_1 hc0_1 hr1_0 hc1_0 hg.1 hg.2 [] [] (fun hx => absurd hx hm)).mono fun e w' hw => ?_
   unfold ReachAll at hw
   rw [if_neg hm] at hw
   exact hw
 rw [if_pos hm] at h
 obtain ⟨out, hout, h⟩ := Option.bind_eq_some_iff.mp h
 simp only [Option.some.injEq, Prod.mk.injEq] at h
 obtain ⟨rfl, rfl, rfl, rfl, rfl⟩ := h
 obtain ⟨k0, hk0⟩ := Od.lim_some hout
 obtain ⟨t, ht1, ht2⟩ := Option.bind_eq_some_iff.mp (hk0 k0 (Nat.le_refl _))
 refine (reached_walk k0 A0_0 c0_0 l0_0 A0_1 c0_1 l0_1 A1_0 c1_0 l1_0 a2 w hr0_0.1 hr0_0.2 hc0_0 hr0_1 hc0_1 hr1_0 hc1_0 hg.1 hg.2 t out (fun _ => ⟨ht1, ht2⟩)).mono fun e w' hw => ?_
 unfold ReachAll at hw
 rw [if_pos hm] at hw
 exact hw
end P
end Go.Proofs.Ytmadhaccjmakdaa
namespace Go.Proofs.Ytmadhaccjmakdaa.P
open Go.RowKit Go.Proofs.Yw.A Go.Proofs.Yw.A.Kd Go.Proofs.Yw.B Go.Proofs.Yw.C
attribute [local go_sem] str_gtr str_leq str_geq max2_int min2_int max_two min_two max_three min_three max_four min_four
noncomputable def m_Needs.f (k : Nat) (l0 : List (S42)) (a1 : ByteArray) : Option (List ByteArray × Int × ByteArray × Int × Int) := (m_acyclic.f k l0).bind fun bt257 => (if bt257.2.2.1 = 0 then ((m_reached.f bt257.1 bt257.2.1 bt257.2.1 a1).bind fun bt269 => (some (bt269.1, bt269.2.1, bt269.2.2.1, bt269.2.2.2.1, bt269.2.2.2.2))) else (some (([] : List ByteArray), bt257.2.2.1, bt257.2.2.2.1, bt257.2.2.2.2.1, bt257.2.2.2.2.2)))
theorem m_Needs.calls (k : Nat) (A0 : Option Addr) (c0 : Nat) (l0 : List (S42)) (a1 : ByteArray) (r1 : List ByteArray) (r2 : Int) (r3 : ByteArray) (r4 : Int) (r5 : Int) (w : World) (hr0 : Kd.C k42 w A0 l0.length l0) (hc0 : l0.length <= c0) (h : m_Needs.f k l0 a1 = some (r1, r2, r3, r4, r5)) :
 Calls Try.prog 15 #[.slice A0 l0.length c0, .string a1] w fun e w' => ∃ v0_ : Value, e = .returned (.tuple #[v0_, .agg #[.int .i64 r2, .string r3, .int .i64 r4, .int .i64 r5]]) /\ Kd.R Kd.string 9 w' w.heap.size (fun _ => True) v0_ r1 /\ Below w.heap.size w w' := by
 have hu28 := Try.underlying28
 have hu51 := Try.underlying51
 have hu49 := Try.underlying49
 have HR0 := aM hr0
 have HC0 := aM hc0
 clear hr0 hc0
 have HB := aM (Below.refl w.heap.size w)
 have H : ((m_acyclic.f k l0).bind fun bt257 => (if bt257.2.2.1 = 0 then ((m_reached.f bt257.1 bt257.2.1 bt257.2.1 a1).bind fun bt269 => (some (bt269.1, bt269.2.1, bt269.2.2.1, bt269.2.2.2.1, bt269.2.2.2.2))) else (some (([] : List ByteArray), bt257.2.2.1, bt257.2.2.2.1, bt257.2.2.2.2.1, bt257.2.2.2.2.2)))) = some (r1, r2, r3, r4, r5) := h
 clear h
 replace H := Option.bind_eq_some_iff.mp H
 obtain ⟨⟨t257, t260, t263, t264, t265, t266⟩, A30, H⟩ := H
 replace H : (if t263 = 0 then ((m_reached.f t257 t260 t260 a1).bind fun bt269 => (some (bt269.1, bt269.2.1, bt269.2.2.1, bt269.2.2.2.1, bt269.2.2.2.2))) else (some (([] : List ByteArray), t263, t264, t265, t266))) = some (r1, r2, r3, r4, r5) := H
 have A3 := aM A30
 clear A30
 by_cases c4 : t263 = 0
 · rw [if_pos c4] at H
   have c4b0 : (t263 == 0) = true := beq_iff_eq.mpr c4
   have c4b1 : (t263 != 0) = false := bne_eq_false_iff_eq.mpr c4
   clear c4
   replace H := Option.bind_eq_some_iff.mp H
   obtain ⟨⟨t269, t272, t273, t274, t275⟩, A50, H⟩ := H
   replace H : (some (t269, t272, t273, t274, t275)) = some (r1, r2, r3, r4, r5) := H
   have A5 := aM A50
   clear A50
   simp only [Option.some.injEq, Prod.mk.injEq] at H
   obtain ⟨rfl, rfl, rfl, rfl, rfl⟩ := H
   go_enter Try.func15, Try.ntmps15
   go_wp2_with (first | ((with_reducible refine gate_dst (N := 5) rfl ?_); refine be 5 rfl rfl #[.int .i64 0, .string (⟨#[]⟩ : ByteArray), .int .i64 0, .int .i64 0] 28 ?_; intro gb256 hg w6 hbox hb; have BK256 := aM hbox; have GE256 := gs hg HB; replace HB := bs HB hb; clear hb hbox hg) | ((with_reducible refine gate_callee (f := 24) rfl ?_); refine gL (some 10) rfl rfl Try.func24 (by kernel_rfl) rfl #[.slice A0 l0.length c0] rfl ?_; (with_reducible refine (m_acyclic.calls k _ _ l0 t257 t260 t263 t264 t265 t266 _ ?side1 ?side2 A3.1).mono ?_); (case side1 => exact cb HR0 HB); (case side2 => exact HC0.1); rintro e w7 ⟨v258, v261, rfl, ho0, ho1, hb⟩; refine ⟨_, rfl, ?_⟩; have HO259 := aM (R_lower ho0 (below_size (hh HB))); have HO262 := aM (S_lower ho1 (below_size (hh HB))); replace BK256 := kb BK256 hb; replace HB := bs HB hb; clear hb ho0 ho1) | ((with_reducible refine gate_dst (N := 6) rfl ?_); refine be 6 rfl rfl #[.slice none 0 0, .slice none 0 0] 51 ?_; intro gb267 hg w8 hbox hb; have BK267 := aM hbox; have GE267 := gs hg HB; have NB256_267 := nl hg BK256; have NB267_256 := nr hg BK256; replace HO259 := rb HO259 hb; replace HO262 := sb HO262 hb; replace BK256 := kb BK256 hb; replace HB := bs HB hb; clear hb hbox hg) | ((with_reducible refine gate_dst (N := 7) rfl ?_); refine be 7 rfl rfl #[.int .i64 0, .string (⟨#[]⟩ : ByteArray), .int .i64 0, .int .i64 0] 28 ?_; intro gb268 hg w9 hbox hb; have BK268 := aM hbox; have GE268 := gs hg HB; have NB256_268 := nl hg BK256; have NB268_256 := nr hg BK256; have NB267_268 := nl hg BK267; have NB268_267 := nr hg BK267; replace HO259 := rb HO259 hb; replace HO262 := sb HO262 hb; replace BK256 := kb BK256 hb; replace BK267 := kb BK267 hb; replace HB := bs HB hb; clear hb hbox hg; obtain ⟨Ao10, co10, eo10⟩ := R_slice HO259.1; subst eo10; have hnb11 := NB267_256.1; have hnc11 := NB256_267.1; have hnb12 := NB267_268.1; have hnc12 := NB268_267.1; obtain ⟨hcz13_0, hcz13_1⟩ := cz2 BK267; obtain ⟨hfz13_0, hfz13_1⟩ := fz2 BK267; obtain ⟨Ao14, co14, eo14⟩ := S_slice HO262.1; subst eo14; have hnb15 := NB268_256.1; have hnc15 := NB256_268.1; obtain ⟨hcz16_0, hcz16_1, hcz16_2, hcz16_3⟩ := cz BK268; obtain ⟨hfz16_0, hfz16_1, hfz16_2, hfz16_3⟩ := fz BK268) | ((with_reducible refine gate_callee (f := 31) rfl ?_); refine gL (some 21) rfl rfl Try.func31 (by kernel_rfl) rfl #[.agg #[.slice Ao10 t257.length co10, .slice Ao14 t260.length co14], .agg #[.slice Ao14 t260.length co14], .string a1] rfl ?_; (with_reducible refine (m_reached.calls _ _ t257 _ _ t260 _ _ t260 a1 t269 t272 t273 t274 t275 _ ?side1 ?side2 ?side3 ?side4 ?side5 ?side6 A5.1).mono ?_); (case side1 => refine (Mg.plainR (e := 9) (base := w.heap.size) (ok := fun k_ => True) (n := t257.length) (c := co10) ?_).2.2; exact (rz (rf24 HO259 BK267 (by decide) BK268 (by decide)))); (case side2 => exact (R_reads' HO259.1).2.1); (case side3 => exact c3 (sf24 HO262 BK267 (by decide) BK268 (by decide))); (case side4 => exact (S_reads' HO262.1).2.1); (case side5 => exact c3 (sf24 HO262 BK267 (by decide) BK268 (by decide))); (case side6 => exact (S_reads' HO262.1).2.1); rintro e w17 ⟨v270, rfl, ho0, hb⟩; refine ⟨_, rfl, ?_⟩; have HO271 := aM (R_lower (R_new' ho0 (R_lt (rz (rf24 HO259 BK267 (by decide) BK268 (by decide))))) (below_size (hh HB))); replace HO259 := aM (R_elder' (rz (rf24 HO259 BK267 (by decide) BK268 (by decide))) (R_base ho0) hb); replace HO262 := aM (S_below (sz (sf24 HO262 BK267 (by decide) BK268 (by decide))) hb); replace BK256 := kg (o' := .cells #[.int .i64 0, .string (⟨#[]⟩ : ByteArray), .int .i64 0, .int .i64 0] 28 (0, 0)) BK256 hb; replace BK267 := kg (o' := .cells #[.slice Ao10 t257.length co10, .slice Ao14 t260.length co14] 51 (0, 0)) BK267 hb; replace BK268 := kg (o' := .cells #[.int .i64 t263, .string t264, .int .i64 t265, .int .i64 t266] 28 (0, 0)) BK268 hb; replace HB := bs HB hb; clear hb ho0; obtain ⟨hcz18_0, hcz18_1, hcz18_2, hcz18_3⟩ := cz BK256; obtain ⟨hfz18_0, hfz18_1, hfz18_2, hfz18_3⟩ := fz BK256))
   refine bodyPost_ret (results_tc rfl _ _ gb256 28 #[.int .i64 t272, .string t273, .int .i64 t274, .int .i64 t275] (0, 0) _ rfl (kf BK256) Try.underlying28 rfl (by kernel_rfl)) rfl ?_
   exact ⟨_, by first | rfl | (simp [errW_none, errW_some] <;> rfl) | (simp [*, errW_none, errW_some] <;> rfl), rz (R_mono (R_far (p := ⟨gb256, 3, none⟩) (R_far (p := ⟨gb256, 2, none⟩) (R_far (p := ⟨gb256, 1, none⟩) (R_far (p := ⟨gb256, 0, none⟩) (R_types HO271.1 BK256.1 (by decide)) (fun _ hk => hk.2) (.int .i64 t272)) (fun _ hk => hk.2) (.string t273)) (fun _ hk => hk.2) (.int .i64 t274)) (fun _ hk => hk.2) (.int .i64 t275)) (fun _ hk => trivial)), hh HB⟩
 rw [if_neg c4] at H
 have c4b0 : (t263 == 0) = false := beq_eq_false_iff_ne.mpr c4
 have c4b1 : (t263 != 0) = true := bne_iff_ne.mpr c4
 simp only [Option.some.injEq, Prod.mk.injEq] at H
 obtain ⟨rfl, rfl, rfl, rfl, rfl⟩ := H
 go_enter Try.func15, Try.ntmps15
 try go_wp2_with (first | ((with_reducible refine gate_dst (N := 5) rfl ?_); refine be 5 rfl rfl #[.int .i64 0, .string (⟨#[]⟩ : ByteArray), .int .i64 0, .int .i64 0] 28 ?_; intro gb256 hg w19 hbox hb; have BK256 := aM hbox; have GE256 := gs hg HB; replace HB := bs HB hb; clear hb hbox hg) | ((with_reducible refine gate_callee (f := 24) rfl ?_); refine gL (some 10) rfl rfl Try.func24 (by kernel_rfl) rfl #[.slice A0 l0.length c0] rfl ?_; (with_reducible refine (m_acyclic.calls k _ _ l0 t257 t260 t263 t264 t265 t266 _ ?side1 ?side2 A3.1).mono ?_); (case side1 => exact cb HR0 HB); (case side2 => exact HC0.1); rintro e w20 ⟨v258, v261, rfl, ho0, ho1, hb⟩; refine ⟨_, rfl, ?_⟩; have HO259 := aM (R_lower ho0 (below_size (hh HB))); have HO262 := aM (S_lower ho1 (below_size (hh HB))); replace BK256 := kb BK256 hb; replace HB := bs HB hb; clear hb ho0 ho1) | ((with_reducible refine gate_dst (N := 6) rfl ?_); refine be 6 rfl rfl #[.slice none 0 0, .slice none 0 0] 51 ?_; intro gb267 hg w21 hbox hb; have BK267 := aM hbox; have GE267 := gs hg HB; have NB256_267 := nl hg BK256; have NB267_256 := nr hg BK256; replace HO259 := rb HO259 hb; replace HO262 := sb HO262 hb; replace BK256 := kb BK256 hb; replace HB := bs HB hb; clear hb hbox hg) | ((with_reducible refine gate_dst (N := 7) rfl ?_); refine be 7 rfl rfl #[.int .i64 0, .string (⟨#[]⟩ : ByteArray), .int .i64 0, .int .i64 0] 28 ?_; intro gb268 hg w22 hbox hb; have BK268 := aM hbox; have GE268 := gs hg HB; have NB256_268 := nl hg BK256; have NB268_256 := nr hg BK256; have NB267_268 := nl hg BK267; have NB268_267 := nr hg BK267; replace HO259 := rb HO259 hb; replace HO262 := sb HO262 hb; replace BK256 := kb BK256 hb; replace BK267 := kb BK267 hb; replace HB := bs HB hb; clear hb hbox hg; obtain ⟨Ao23, co23, eo23⟩ := R_slice HO259.1; subst eo23; have hnb24 := NB267_256.1; have hnc24 := NB256_267.1; have hnb25 := NB267_268.1; have hnc25 := NB268_267.1; obtain ⟨hcz26_0, hcz26_1⟩ := cz2 BK267; obtain ⟨hfz26_0, hfz26_1⟩ := fz2 BK267; obtain ⟨Ao27, co27, eo27⟩ := S_slice HO262.1; subst eo27; have hnb28 := NB268_256.1; have hnc28 := NB256_268.1; obtain ⟨hcz29_0, hcz29_1, hcz29_2, hcz29_3⟩ := cz BK268; obtain ⟨hfz29_0, hfz29_1, hfz29_2, hfz29_3⟩ := fz BK268))
 have n0_ : Az (Kd.R Kd.string 9 ((((((w22.setCell ⟨gb267, 0, none⟩ (.slice Ao23 t257.length co23)).setCell ⟨gb267, 1, none⟩ (.slice Ao27 t260.length co27)).setCell ⟨gb268, 0, none⟩ (.int .i64 t263)).setCell ⟨gb268, 1, none⟩ (.string t264)).setCell ⟨gb268, 2, none⟩ (.int .i64 t265)).setCell ⟨gb268, 3, none⟩ (.int .i64 t266)) w.heap.size (fun _ => True) (.slice Ao23 t257.length co23) t257) := ⟨rz (R_mono (R_far (p := ⟨gb268, 3, none⟩) (R_far (p := ⟨gb268, 2, none⟩) (R_far (p := ⟨gb268, 1, none⟩) (R_far (p := ⟨gb268, 0, none⟩) (R_far (p := ⟨gb267, 1, none⟩) (R_far (p := ⟨gb267, 0, none⟩) (R_types (R_types HO259.1 BK267.1 (by decide)) BK268.1 (by decide)) (fun _ hk => hk.1.2) (.slice Ao23 t257.length co23)) (fun _ hk => hk.1.2) (.slice Ao27 t260.length co27)) (fun _ hk => hk.2) (.int .i64 t263)) (fun _ hk => hk.2) (.string t264)) (fun _ hk => hk.2) (.int .i64 t265)) (fun _ hk => hk.2) (.int .i64 t266)) (fun _ hk => trivial))⟩
 have n1_ : Az (Kd.S (Kd.slice 3 (Kd.int .i64)) 55 ((((((w22.setCell ⟨gb267, 0, none⟩ (.slice Ao23 t257.length co23)).setCell ⟨gb267, 1, none⟩ (.slice Ao27 t260.length co27)).setCell ⟨gb268, 0, none⟩ (.int .i64 t263)).setCell ⟨gb268, 1, none⟩ (.string t264)).setCell ⟨gb268, 2, none⟩ (.int .i64 t265)).setCell ⟨gb268, 3, none⟩ (.int .i64 t266)) w.heap.size (fun _ => True) (.slice Ao27 t260.length co27) t260) := ⟨sz (S_mono (S_far (p := ⟨gb268, 3, none⟩) (S_far (p := ⟨gb268, 2, none⟩) (S_far (p := ⟨gb268, 1, none⟩) (S_far (p := ⟨gb268, 0, none⟩) (S_far (p := ⟨gb267, 1, none⟩) (S_far (p := ⟨gb267, 0, none⟩) (S_types (S_types HO262.1 BK267.1 (by decide)) BK268.1 (by decide)) (fun _ hk => hk.1.2) (.slice Ao23 t257.length co23)) (fun _ hk => hk.1.2) (.slice Ao27 t260.length co27)) (fun _ hk => hk.2) (.int .i64 t263)) (fun _ hk => hk.2) (.string t264)) (fun _ hk => hk.2) (.int .i64 t265)) (fun _ hk => hk.2) (.int .i64 t266)) (fun _ hk => trivial))⟩
 have n2_ : Az (((((((w22.setCell ⟨gb267, 0, none⟩ (.slice Ao23 t257.length co23)).setCell ⟨gb267, 1, none⟩ (.slice Ao27 t260.length co27)).setCell ⟨gb268, 0, none⟩ (.int .i64 t263)).setCell ⟨gb268, 1, none⟩ (.string t264)).setCell ⟨gb268, 2, none⟩ (.int .i64 t265)).setCell ⟨gb268, 3, none⟩ (.int .i64 t266)).heap[gb256]? = some (.cells #[.int .i64 0, .string (⟨#[]⟩ : ByteArray), .int .i64 0, .int .i64 0] 28 (0, 0))) := ⟨kf BK256⟩
 have n3_ : Az (((((((w22.setCell ⟨gb267, 0, none⟩ (.slice Ao23 t257.length co23)).setCell ⟨gb267, 1, none⟩ (.slice Ao27 t260.length co27)).setCell ⟨gb268, 0, none⟩ (.int .i64 t263)).setCell ⟨gb268, 1, none⟩ (.string t264)).setCell ⟨gb268, 2, none⟩ (.int .i64 t265)).setCell ⟨gb268, 3, none⟩ (.int .i64 t266)).heap[gb267]? = some (.cells #[.slice Ao23 t257.length co23, .slice Ao27 t260.length co27] 51 (0, 0))) := ⟨kf BK267⟩
 have n4_ : Az (((((((w22.setCell ⟨gb267, 0, none⟩ (.slice Ao23 t257.length co23)).setCell ⟨gb267, 1, none⟩ (.slice Ao27 t260.length co27)).setCell ⟨gb268, 0, none⟩ (.int .i64 t263)).setCell ⟨gb268, 1, none⟩ (.string t264)).setCell ⟨gb268, 2, none⟩ (.int .i64 t265)).setCell ⟨gb268, 3, none⟩ (.int .i64 t266)).heap[gb268]? = some (.cells #[.int .i64 t263, .string t264, .int .i64 t265, .int .i64 t266] 28 (0, 0))) := ⟨kf BK268⟩
 have n5_ : Az (Below w.heap.size w ((((((w22.setCell ⟨gb267, 0, none⟩ (.slice Ao23 t257.length co23)).setCell ⟨gb267, 1, none⟩ (.slice Ao27 t260.length co27)).setCell ⟨gb268, 0, none⟩ (.int .i64 t263)).setCell ⟨gb268, 1, none⟩ (.string t264)).setCell ⟨gb268, 2, none⟩ (.int .i64 t265)).setCell ⟨gb268, 3, none⟩ (.int .i64 t266))) := ⟨hh HB⟩
 (clear HO259)
 (clear HO262)
 (clear BK256)
 (clear BK267)
 (clear BK268)
 (clear HB)
 generalize ((((((w22.setCell ⟨gb267, 0, none⟩ (.slice Ao23 t257.length co23)).setCell ⟨gb267, 1, none⟩ (.slice Ao27 t260.length co27)).setCell ⟨gb268, 0, none⟩ (.int .i64 t263)).setCell ⟨gb268, 1, none⟩ (.string t264)).setCell ⟨gb268, 2, none⟩ (.int .i64 t265)).setCell ⟨gb268, 3, none⟩ (.int .i64 t266)) = w30 at n0_ n1_ n2_ n3_ n4_ n5_ ⊢
 have HO259 := n0_
 have HO262 := n1_
 have BK256 := n2_
 have BK267 := n3_
 have BK268 := n4_
 have HB := n5_
 clear n0_ n1_ n2_ n3_ n4_ n5_
 replace HO259 := aM (R_drew HO259.1)
 replace HO262 := aM (S_drew HO262.1)
 replace BK256 := aM (blk_drew BK256.1)
 replace BK267 := aM (blk_drew BK267.1)
 replace BK268 := aM (blk_drew BK268.1)
 replace HB := aM (below_drew1 HB.1)
 refine start_ (n := 3) (S := fun w' => w'.cell? ⟨gb268, 0, none⟩ = some (.int .i64 t263) /\ w'.cell? ⟨gb268, 1, none⟩ = some (.string t264) /\ w'.cell? ⟨gb268, 2, none⟩ = some (.int .i64 t265) /\ w'.cell? ⟨gb268, 3, none⟩ = some (.int .i64 t266)) (ds := []) #[F_, F_, F_] (by kernel_rfl) rfl rfl ⟨(blk_cell BK268.1 0).trans rfl, (blk_cell BK268.1 1).trans rfl, (blk_cell BK268.1 2).trans rfl, (blk_cell BK268.1 3).trans rfl⟩ (fun hHeld => ?_)
 generalize w30.drew = w31 at HO259 HO262 BK256 BK267 BK268 HB hHeld ⊢
 refine pure_ (i := 1) (N := some 4) (v := ?_) (a' := ?_) #[F_, T_, F_] rfl rfl (by kernel_rfl) (fun _ _ _ h => h) (Or.inl ⟨by rfl, ?_⟩) ?_ ?_
 rotate_left
 · intro w'
   go_simp
   with_reducible rfl
 rotate_left
 · simp only [Act.put, sA, sZ, sS, i64_w, i32_w]
   rfl
 refine take_ (i := 0) (N := some 16) (v := ?_) (a' := ?_) #[T_, T_, F_] rfl rfl (by kernel_rfl) (fun _ _ _ h => h) (Or.inl ⟨by rfl, ?_⟩) hHeld ?_ ?_
 rotate_left
 · rintro w' ⟨s0, s1, s2, s3⟩
   go_simp
   with_reducible rfl
 rotate_left
 · simp only [Act.put, sA, sZ, sS, i64_w, i32_w]
   rfl
 refine one_ (i := 2) (N := none) #[T_, T_, T_] rfl rfl (by kernel_rfl) (by decide) (fun K hK => ?_)
 have hs32 : w31.cell? ⟨gb256, 0, none⟩ = some (.int .i64 0) := (blk_cell BK256.1 0).trans rfl
 have hfs32 := blk_frozen BK256.1 0
 have hns32_1 := NB267_256.1
 have hns32_2 := NB268_256.1
 have hms32_1 := NB256_267.1
 have hms32_2 := NB256_268.1
 have hs33 : w31.cell? ⟨gb256, 1, none⟩ = some (.string (⟨#[]⟩ : ByteArray)) := (blk_cell BK256.1 1).trans rfl
 have hfs33 := blk_frozen BK256.1 1
 have hns33_1 := NB267_256.1
 have hns33_2 := NB268_256.1
 have hms33_1 := NB256_267.1
 have hms33_2 := NB256_268.1
 have hs34 : w31.cell? ⟨gb256, 2, none⟩ = some (.int .i64 0) := (blk_cell BK256.1 2).trans rfl
 have hfs34 := blk_frozen BK256.1 2
 have hns34_1 := NB267_256.1
 have hns34_2 := NB268_256.1
 have hms34_1 := NB256_267.1
 have hms34_2 := NB256_268.1
 have hs35 : w31.cell? ⟨gb256, 3, none⟩ = some (.int .i64 0) := (blk_cell BK256.1 3).trans rfl
 have hfs35 := blk_frozen BK256.1 3
 have hns35_1 := NB267_256.1
 have hns35_2 := NB268_256.1
 have hms35_1 := NB256_267.1
 have hms35_2 := NB256_268.1
 refine skip_ (w1 := ?_) (by rfl) rfl ?_ ?_
 rotate_left
 · go_simp
   rfl
 refine hK.out _ _ ⟨((cell_far (p := ⟨gb256, _, none⟩) NB268_256.1 _).trans (((cell_far (p := ⟨gb256, _, none⟩) NB268_256.1 _).trans (((cell_far (p := ⟨gb256, _, none⟩) NB268_256.1 _).trans (((cell_far (p := ⟨gb256, _, none⟩) NB268_256.1 _).trans (hHeld.1)))))))), ((cell_far (p := ⟨gb256, _, none⟩) NB268_256.1 _).trans (((cell_far (p := ⟨gb256, _, none⟩) NB268_256.1 _).trans (((cell_far (p := ⟨gb256, _, none⟩) NB268_256.1 _).trans (((cell_far (p := ⟨gb256, _, none⟩) NB268_256.1 _).trans (hHeld.2.1)))))))), ((cell_far (p := ⟨gb256, _, none⟩) NB268_256.1 _).trans (((cell_far (p := ⟨gb256, _, none⟩) NB268_256.1 _).trans (((cell_far (p := ⟨gb256, _, none⟩) NB268_256.1 _).trans (((cell_far (p := ⟨gb256, _, none⟩) NB268_256.1 _).trans (hHeld.2.2.1)))))))), ((cell_far (p := ⟨gb256, _, none⟩) NB268_256.1 _).trans (((cell_far (p := ⟨gb256, _, none⟩) NB268_256.1 _).trans (((cell_far (p := ⟨gb256, _, none⟩) NB268_256.1 _).trans (((cell_far (p := ⟨gb256, _, none⟩) NB268_256.1 _).trans (hHeld.2.2.2))))))))⟩ (fun hHeld => ?_)
 clear hK K
 refine done_ (by kernel_rfl) ?_
 try go_wp2
 refine bodyPost_ret (results_tc rfl _ _ gb256 28 #[.int .i64 t263, .string t264, .int .i64 t265, .int .i64 t266] (0, 0) _ rfl (kf BK256) Try.underlying28 rfl (by kernel_rfl)) rfl ?_
 exact ⟨_, by first | rfl | (simp [errW_none, errW_some] <;> rfl) | (simp [*, errW_none, errW_some] <;> rfl), by first | exact R_nil _ _ _ _ _ | exact N_nil _ _ _ _ _ | exact V_nil _ _ _ _ _ | exact Q_nil _ _ _ _ _ | exact S_nil _ _ _ _ _, hh HB⟩
noncomputable def m_Cycle.f (k : Nat) (l0 : List (S42)) : Option (List ByteArray) := (m_made.f l0).bind fun bt276 => (if bt276.2.2.1 = 0 then ((p_cycle.f k bt276.1 bt276.2.1).bind fun t288 => ((p_named.f k bt276.1 bt276.2.1 t288).bind fun t291 => (some t291))) else (some ([] : List ByteArray)))
theorem m_Cycle.calls (k : Nat) (A0 : Option Addr) (c0 : Nat) (l0 : List (S42)) (r : List ByteArray) (w : World) (hr0 : Kd.C k42 w A0 l0.length l0) (hc0 : l0.length <= c0) (h : m_Cycle.f k l0 = some r) :
 Calls Try.prog 19 #[.slice A0 l0.length c0] w fun e w' => ∃ v0_ : Value, e = .returned (v0_) /\ Kd.R Kd.string 9 w' w.heap.size (fun _ => True) v0_ r /\ Below w.heap.size w w' := by
 have hu51 := Try.underlying51
 have hu28 := Try.underlying28
 have HR0 := aM hr0
 have HC0 := aM hc0
 clear hr0 hc0
 have HB := aM (Below.refl w.heap.size w)
 have H : ((m_made.f l0).bind fun bt276 => (if bt276.2.2.1 = 0 then ((p_cycle.f k bt276.1 bt276.2.1).bind fun t288 => ((p_named.f k bt276.1 bt276.2.1 t288).bind fun t291 => (some t291))) else (some ([] : List ByteArray)))) = some r := h
 clear h
 replace H := Option.bind_eq_some_iff.mp H
 obtain ⟨⟨t276, t279, t282, t283, t284, t285⟩, A20, H⟩ := H
 try dsimp only at H
 have A2 := aM A20
 clear A20
 by_cases c3 : t282 = 0
 rotate_left
 · rw [if_neg c3] at H
   have c3b0 : (t282 == 0) = false := beq_eq_false_iff_ne.mpr c3
   have c3b1 : (t282 != 0) = true := bne_iff_ne.mpr c3
   obtain rfl := Option.some.inj H
   go_enter Try.func19, Try.ntmps19
   go_wp2_with (first | ((with_reducible refine gate_callee (f := 34) rfl ?_); refine gL (some 7) rfl rfl Try.func34 (by kernel_rfl) rfl #[.slice A0 l0.length c0] rfl ?_; (with_reducible refine (m_made.calls _ _ l0 t276 t279 t282 t283 t284 t285 _ ?side1 ?side2 A2.1).mono ?_); (case side1 => exact ck HR0); (case side2 => exact HC0.1); rintro e w19 ⟨v277, v280, rfl, ho0, ho1, hb⟩; refine ⟨_, rfl, ?_⟩; have HO278 := aM (R_lower ho0 (below_size (hh HB))); have HO281 := aM (S_lower ho1 (below_size (hh HB))); replace HB := bs HB hb; clear hb ho0 ho1) | ((with_reducible refine gate_dst (N := 3) rfl ?_); refine be 3 rfl rfl #[.slice none 0 0, .slice none 0 0] 51 ?_; intro gb286 hg w20 hbox hb; have BK286 := aM hbox; have GE286 := gs hg HB; replace HO278 := rb HO278 hb; replace HO281 := sb HO281 hb; replace HB := bs HB hb; clear hb hbox hg) | ((with_reducible refine gate_dst (N := 4) rfl ?_); refine be 4 rfl rfl #[.int .i64 0, .string (⟨#[]⟩ : ByteArray), .int .i64 0, .int .i64 0] 28 ?_; intro gb287 hg w21 hbox hb; have BK287 := aM hbox; have GE287 := gs hg HB; have NB286_287 := nl hg BK286; have NB287_286 := nr hg BK286; replace HO278 := rb HO278 hb; replace HO281 := sb HO281 hb; replace BK286 := kb BK286 hb; replace HB := bs HB hb; clear hb hbox hg; obtain ⟨Ao22, co22, eo22⟩ := R_slice HO278.1; subst eo22; have hnb23 := NB286_287.1; have hnc23 := NB287_286.1; obtain ⟨hcz24_0, hcz24_1⟩ := cz2 BK286; obtain ⟨hfz24_0, hfz24_1⟩ := fz2 BK286; obtain ⟨Ao25, co25, eo25⟩ := S_slice HO281.1; subst eo25; obtain ⟨hcz26_0, hcz26_1, hcz26_2, hcz26_3⟩ := cz BK287; obtain ⟨hfz26_0, hfz26_1, hfz26_2, hfz26_3⟩ := fz BK287))
   go_ret
   exact ⟨_, by first | rfl | (simp [errW_none, errW_some] <;> rfl) | (simp [*, errW_none, errW_some] <;> rfl), by first | exact R_nil _ _ _ _ _ | exact N_nil _ _ _ _ _ | exact V_nil _ _ _ _ _ | exact Q_nil _ _ _ _ _ | exact S_nil _ _ _ _ _, hh HB⟩
 rw [if_pos c3] at H
 have c3b0 : (t282 == 0) = true := beq_iff_eq.mpr c3
 have c3b1 : (t282 != 0) = false := bne_eq_false_iff_eq.mpr c3
 clear c3
 replace H := Option.bind_eq_some_iff.mp H
 obtain ⟨t288, A40, H⟩ := H
 try dsimp only at H
 have A4 := aM A40
 clear A40
 replace H := Option.bind_eq_some_iff.mp H
 obtain ⟨t291, A50, H⟩ := H
 try dsimp only at H
 have A5 := aM A50
 clear A50
 obtain rfl := Option.some.inj H
 go_enter Try.func19, Try.ntmps19
 try go_wp2_with (first | ((with_reducible refine gate_callee (f := 34) rfl ?_); refine gL (some 7) rfl rfl Try.func34 (by kernel_rfl) rfl #[.slice A0 l0.length c0] rfl ?_; (with_reducible refine (m_made.calls _ _ l0 t276 t279 t282 t283 t284 t285 _ ?side1 ?side2 A2.1).mono ?_); (case side1 => exact ck HR0); (case side2 => exact HC0.1); rintro e w6 ⟨v277, v280, rfl, ho0, ho1, hb⟩; refine ⟨_, rfl, ?_⟩; have HO278 := aM (R_lower ho0 (below_size (hh HB))); have HO281 := aM (S_lower ho1 (below_size (hh HB))); replace HB := bs HB hb; clear hb ho0 ho1) | ((with_reducible refine gate_dst (N := 3) rfl ?_); refine be 3 rfl rfl #[.slice none 0 0, .slice none 0 0] 51 ?_; intro gb286 hg w7 hbox hb; have BK286 := aM hbox; have GE286 := gs hg HB; replace HO278 := rb HO278 hb; replace HO281 := sb HO281 hb; replace HB := bs HB hb; clear hb hbox hg) | ((with_reducible refine gate_dst (N := 4) rfl ?_); refine be 4 rfl rfl #[.int .i64 0, .string (⟨#[]⟩ : ByteArray), .int .i64 0, .int .i64 0] 28 ?_; intro gb287 hg w8 hbox hb; have BK287 := aM hbox; have GE287 := gs hg HB; have NB286_287 := nl hg BK286; have NB287_286 := nr hg BK286; replace HO278 := rb HO278 hb; replace HO281 := sb HO281 hb; replace BK286 := kb BK286 hb; replace HB := bs HB hb; clear hb hbox hg; obtain ⟨Ao9, co9, eo9⟩ := R_slice HO278.1; subst eo9; have hnb10 := NB286_287.1; have hnc10 := NB287_286.1; obtain ⟨hcz11_0, hcz11_1⟩ := cz2 BK286; obtain ⟨hfz11_0, hfz11_1⟩ := fz2 BK286; obtain ⟨Ao12, co12, eo12⟩ := S_slice HO281.1; subst eo12; obtain ⟨hcz13_0, hcz13_1, hcz13_2, hcz13_3⟩ := cz BK287; obtain ⟨hfz13_0, hfz13_1, hfz13_2, hfz13_3⟩ := fz BK287))
 have n0_ : Az (Kd.R Kd.string 9 ((((((w8.setCell ⟨gb286, 0, none⟩ (.slice Ao9 t276.length co9)).setCell ⟨gb286, 1, none⟩ (.slice Ao12 t279.length co12)).setCell ⟨gb287, 0, none⟩ (.int .i64 t282)).setCell ⟨gb287, 1, none⟩ (.string t283)).setCell ⟨gb287, 2, none⟩ (.int .i64 t284)).setCell ⟨gb287, 3, none⟩ (.int .i64 t285)) w.heap.size (fun _ => True) (.slice Ao9 t276.length co9) t276) := ⟨rz (R_mono (R_far (p := ⟨gb287, 3, none⟩) (R_far (p := ⟨gb287, 2, none⟩) (R_far (p := ⟨gb287, 1, none⟩) (R_far (p := ⟨gb287, 0, none⟩) (R_far (p := ⟨gb286, 1, none⟩) (R_far (p := ⟨gb286, 0, none⟩) (R_types (R_types HO278.1 BK286.1 (by decide)) BK287.1 (by decide)) (fun _ hk => hk.1.2) (.slice Ao9 t276.length co9)) (fun _ hk => hk.1.2) (.slice Ao12 t279.length co12)) (fun _ hk => hk.2) (.int .i64 t282)) (fun _ hk => hk.2) (.string t283)) (fun _ hk => hk.2) (.int .i64 t284)) (fun _ hk => hk.2) (.int .i64 t285)) (fun _ hk => trivial))⟩
 have n1_ : Az (Kd.S (Kd.slice 3 (Kd.int .i64)) 55 ((((((w8.setCell ⟨gb286, 0, none⟩ (.slice Ao9 t276.length co9)).setCell ⟨gb286, 1, none⟩ (.slice Ao12 t279.length co12)).setCell ⟨gb287, 0, none⟩ (.int .i64 t282)).setCell ⟨gb287, 1, none⟩ (.string t283)).setCell ⟨gb287, 2, none⟩ (.int .i64 t284)).setCell ⟨gb287, 3, none⟩ (.int .i64 t285)) w.heap.size (fun _ => True) (.slice Ao12 t279.length co12) t279) := ⟨sz (S_mono (S_far (p := ⟨gb287, 3, none⟩) (S_far (p := ⟨gb287, 2, none⟩) (S_far (p := ⟨gb287, 1, none⟩) (S_far (p := ⟨gb287, 0, none⟩) (S_far (p := ⟨gb286, 1, none⟩) (S_far (p := ⟨gb286, 0, none⟩) (S_types (S_types HO281.1 BK286.1 (by decide)) BK287.1 (by decide)) (fun _ hk => hk.1.2) (.slice Ao9 t276.length co9)) (fun _ hk => hk.1.2) (.slice Ao12 t279.length co12)) (fun _ hk => hk.2) (.int .i64 t282)) (fun _ hk => hk.2) (.string t283)) (fun _ hk => hk.2) (.int .i64 t284)) (fun _ hk => hk.2) (.int .i64 t285)) (fun _ hk => trivial))⟩
 have n2_ : Az (((((((w8.setCell ⟨gb286, 0, none⟩ (.slice Ao9 t276.length co9)).setCell ⟨gb286, 1, none⟩ (.slice Ao12 t279.length co12)).setCell ⟨gb287, 0, none⟩ (.int .i64 t282)).setCell ⟨gb287, 1, none⟩ (.string t283)).setCell ⟨gb287, 2, none⟩ (.int .i64 t284)).setCell ⟨gb287, 3, none⟩ (.int .i64 t285)).heap[gb286]? = some (.cells #[.slice Ao9 t276.length co9, .slice Ao12 t279.length co12] 51 (0, 0))) := ⟨kf BK286⟩
 have n3_ : Az (((((((w8.setCell ⟨gb286, 0, none⟩ (.slice Ao9 t276.length co9)).setCell ⟨gb286, 1, none⟩ (.slice Ao12 t279.length co12)).setCell ⟨gb287, 0, none⟩ (.int .i64 t282)).setCell ⟨gb287, 1, none⟩ (.string t283)).setCell ⟨gb287, 2, none⟩ (.int .i64 t284)).setCell ⟨gb287, 3, none⟩ (.int .i64 t285)).heap[gb287]? = some (.cells #[.int .i64 t282, .string t283, .int .i64 t284, .int .i64 t285] 28 (0, 0))) := ⟨kf BK287⟩
 have n4_ : Az (Below w.heap.size w ((((((w8.setCell ⟨gb286, 0, none⟩ (.slice Ao9 t276.length co9)).setCell ⟨gb286, 1, none⟩ (.slice Ao12 t279.length co12)).setCell ⟨gb287, 0, none⟩ (.int .i64 t282)).setCell ⟨gb287, 1, none⟩ (.string t283)).setCell ⟨gb287, 2, none⟩ (.int .i64 t284)).setCell ⟨gb287, 3, none⟩ (.int .i64 t285))) := ⟨hh HB⟩
 (clear HO278)
 (clear HO281)
 (clear BK286)
 (clear BK287)
 (clear HB)
 generalize ((((((w8.setCell ⟨gb286, 0, none⟩ (.slice Ao9 t276.length co9)).setCell ⟨gb286, 1, none⟩ (.slice Ao12 t279.length co12)).setCell ⟨gb287, 0, none⟩ (.int .i64 t282)).setCell ⟨gb287, 1, none⟩ (.string t283)).setCell ⟨gb287, 2, none⟩ (.int .i64 t284)).setCell ⟨gb287, 3, none⟩ (.int .i64 t285)) = w14 at n0_ n1_ n2_ n3_ n4_ ⊢
 have HO278 := n0_
 have HO281 := n1_
 have BK286 := n2_
 have BK287 := n3_
 have HB := n4_
 clear n0_ n1_ n2_ n3_ n4_
 replace HO278 := aM (R_drew HO278.1)
 replace HO281 := aM (S_drew HO281.1)
 replace BK286 := aM (blk_drew BK286.1)
 replace BK287 := aM (blk_drew BK287.1)
 replace HB := aM (below_drew1 HB.1)
 refine start_ (n := 5) (S := fun w' => w'.cell? ⟨gb286, 0, none⟩ = some (.slice Ao9 t276.length co9) /\ w'.cell? ⟨gb286, 1, none⟩ = some (.slice Ao12 t279.length co12)) (ds := []) #[F_, F_, F_, F_, F_] (by kernel_rfl) rfl rfl ⟨(blk_cell BK286.1 0).trans rfl, (blk_cell BK286.1 1).trans rfl⟩ (fun hHeld => ?_)
 generalize w14.drew = w15 at HO278 HO281 BK286 BK287 HB hHeld ⊢
 refine take_ (i := 0) (N := some 13) (v := ?_) (a' := ?_) #[T_, F_, F_, F_, F_] rfl rfl (by kernel_rfl) (fun _ _ _ h => h) (Or.inl ⟨by rfl, ?_⟩) hHeld ?_ ?_
 rotate_left
 · rintro w' ⟨s0, s1⟩
   go_simp
   with_reducible rfl
 rotate_left
 · simp only [Act.put, sA, sZ, sS, i64_w, i32_w]
   rfl
 refine take_ (i := 1) (N := some 14) (v := ?_) (a' := ?_) #[T_, T_, F_, F_, F_] rfl rfl (by kernel_rfl) (fun _ _ _ h => h) (Or.inl ⟨by rfl, ?_⟩) hHeld ?_ ?_
 rotate_left
 · rintro w' ⟨s0, s1⟩
   go_simp
   with_reducible rfl
 rotate_left
 · simp only [Act.put, sA, sZ, sS, i64_w, i32_w]
   rfl
 refine one_ (i := 2) (N := some 15) #[T_, T_, T_, F_, F_] rfl rfl (by kernel_rfl) (by decide) (fun K hK => ?_)
 refine goes_ Try.func35 (by kernel_rfl) rfl #[.agg #[.slice Ao9 t276.length co9, .slice Ao12 t279.length co12]] (by rfl) rfl rfl (by (try simp only [List.map_toArray, List.map_cons, List.map_nil]); first | done | rfl | (simp only [List.length_drop, List.length_take]; rfl)) ?_
 with_reducible refine (p_cycle.calls k _ _ t276 _ _ t279 t288 _ ?side1 ?side2 ?side3 ?side4 A4.1).mono ?_
 (case side1 => exact cr HO278)
 (case side2 => exact (R_reads' HO278.1).2.1)
 (case side3 => repeat (first | exact (S_reads' HO281.1).2.2 | (with_reducible refine C_alloc ?_ _) | (with_reducible refine C_drewN ?_ _) | (with_reducible refine C_drew ?_)))
 (case side4 => exact (S_reads' HO281.1).2.1)
 rintro e w16 ⟨v289, rfl, ho0, hb⟩
 refine ⟨_, rfl, ?_⟩
 have HO290 := aM (R_lower ho0 (below_size (hh HB)))
 replace HO278 := rb HO278 hb
 replace HO281 := aM (S_elder' (sk HO281) (R_base ho0) hb)
 replace BK286 := kb BK286 hb
 replace BK287 := kb BK287 hb
 replace HB := bs HB hb
 (clear hb)
 skip
 skip
 skip
 (clear ho0)
 obtain ⟨Ao17, co17, eo17⟩ := R_slice HO290.1
 (first | subst eo17 | (injection eo17 with f1_ f2_ f3_; have f4_ := f1_.symm; have f5_ := f3_.symm; clear f1_ f2_ f3_; subst f4_; subst f5_))
 refine hK.out _ _ ⟨(blk_cell BK286.1 0).trans rfl, (blk_cell BK286.1 1).trans rfl⟩ (fun hHeld => ?_)
 clear hK K
 refine norm_ (a' := ?_) ?_ ?_
 rotate_left
 · show Act.put _ (some 15) _ = _
   simp only [Act.put, sA, sZ, sS, i64_w, i32_w]
   rfl
 refine one_ (i := 3) (N := some 16) #[T_, T_, T_, T_, F_] rfl rfl (by kernel_rfl) (by decide) (fun K hK => ?_)
 refine goes_ Try.func26 (by kernel_rfl) rfl #[.agg #[.slice Ao9 t276.length co9, .slice Ao12 t279.length co12], .slice Ao17 t288.length co17] (by rfl) rfl rfl (by (try simp only [List.map_toArray, List.map_cons, List.map_nil]); first | done | rfl | (simp only [List.length_drop, List.length_take]; rfl)) ?_
 with_reducible refine (p_named.calls k _ _ t276 _ _ t279 _ _ t288 t291 _ ?side1 ?side2 ?side3 ?side4 ?side5 ?side6 A5.1).mono ?_
 (case side1 => exact cr HO278)
 (case side2 => exact (R_reads' HO278.1).2.1)
 (case side3 => repeat (first | exact (S_reads' HO281.1).2.2 | (with_reducible refine C_alloc ?_ _) | (with_reducible refine C_drewN ?_ _) | (with_reducible refine C_drew ?_)))
 (case side4 => exact (S_reads' HO281.1).2.1)
 (case side5 => exact cr HO290)
 (case side6 => exact (R_reads' HO290.1).2.1)
 rintro e w18 ⟨v292, rfl, ho0, hb⟩
 refine ⟨_, rfl, ?_⟩
 have HO293 := aM (R_lower (R_new' ho0 (R_lt (rk HO278))) (below_size (hh HB)))
 replace HO278 := aM (R_elder' (rk HO278) (R_base ho0) hb)
 replace HO281 := sb HO281 hb
 replace HO290 := rb HO290 hb
 replace BK286 := kb BK286 hb
 replace BK287 := kb BK287 hb
 replace HB := bs HB hb
 (clear hb)
 skip
 skip
 skip
 (clear ho0)
 refine hK.out _ _ ⟨(blk_cell BK286.1 0).trans rfl, (blk_cell BK286.1 1).trans rfl⟩ (fun hHeld => ?_)
 clear hK K
 refine norm_ (a' := ?_) ?_ ?_
 rotate_left
 · show Act.put _ (some 16) _ = _
   simp only [Act.put, sA, sZ, sS, i64_w, i32_w]
   rfl
 refine pure_ (i := 4) (N := some 2) (v := ?_) (a' := ?_) #[T_, T_, T_, T_, T_] rfl rfl (by kernel_rfl) (fun _ _ _ h => h) (Or.inl ⟨by rfl, ?_⟩) ?_ ?_
 rotate_left
 · intro w'
   go_simp
   with_reducible rfl
 rotate_left
 · simp only [Act.put, sA, sZ, sS, i64_w, i32_w]
   rfl
 refine done_ (by kernel_rfl) ?_
 try go_wp2
 go_ret
 exact ⟨_, by first | rfl | (simp [errW_none, errW_some] <;> rfl) | (simp [*, errW_none, errW_some] <;> rfl), rz (R_mono HO293.1 (fun _ hk => trivial)), hh HB⟩
end Go.Proofs.Ytmadhaccjmakdaa.P
namespace Go.Proofs.Ytmadhaccjmakdaa
open Go.Shelf Go.Lib Go.RowKit Go.Maps Go.Sort Go.Proofs.Yw.A Go.Proofs.Yw.B Go.Proofs.Yw.C
attribute [local go_sem] max2_int min2_int max_two min_two max_three min_three max_four min_four
open P Mg Od Tj
namespace Mg
def addAll (U : List (List Int)) (v : Int) : List Int -> List (List Int)
  | [] => U
  | x :: l => addAll (U.set x.toNat (U.getD x.toNat [] ++ [v])) v l
def backL (U : List (List Int)) (v : Int) : List (List Int) -> List (List Int)
  | [] => U
  | l :: ls => backL (addAll U v l) (v + 1) ls
def okB (n : Nat) (es : List (List Int)) : Prop := n <= 100 /\ es.length <= 100 /\ ∀ r ∈ es, r.length <= 1000 /\ ∀ x ∈ r, 0 <= x /\ x < (n : Int)
end Mg
namespace P
open Classical in
noncomputable def m_Users.f (l0 : List S42) (s : ByteArray) : Option (List ByteArray × Int × ByteArray × Int × Int) :=
  (Od.lim fun k => m_acyclic.f k l0).bind fun bt =>
    if bt.2.2.1 = 0 then (if okB bt.1.length bt.2.1 then m_reached.f bt.1 bt.2.1 (backL (List.replicate bt.1.length []) 0 bt.2.1) s else none)
    else some ([], bt.2.2.1, bt.2.2.2.1, bt.2.2.2.2.1, bt.2.2.2.2.2)
end P
namespace Mg
def fst4 (w : World) (g : Nat) (c : Int) (x : ByteArray) (a b : Int) : World := (((w.setCell ⟨g, 0, none⟩ (.int .i64 c)).setCell ⟨g, 1, none⟩ (.string x)).setCell ⟨g, 2, none⟩ (.int .i64 a)).setCell ⟨g, 3, none⟩ (.int .i64 b)
theorem info55m2 : (Try.prog.info? 55).map (fun i => (i.zero, i.size, i.bytes)) = some (some (.slice none 0 0), 1, 24) := by kernel_rfl
theorem fst4_f {w : World} {g : Nat} (h : w.heap[g]? = some (Obj.cells #[Value.int .i64 0, Value.string ⟨#[]⟩, Value.int .i64 0, Value.int .i64 0] 28 (0, 0))) (c : Int) (x : ByteArray) (a b : Int) : (fst4 w g c x a b).heap[g]? = some (Obj.cells #[.int .i64 c, .string x, .int .i64 a, .int .i64 b] 28 (0, 0)) :=
  blk_put (blk_put (blk_put (blk_put h 0 _ rfl) 1 _ rfl) 2 _ rfl) 3 _ rfl
theorem fst4_below {w W : World} {B g : Nat} (h : Below B w W) (hg : B <= g) (c : Int) (x : ByteArray) (a b : Int) : Below B w (fst4 W g c x a b) := by
  unfold fst4
  exact (((h.setCell hg _).setCell hg _).setCell hg _).setCell hg _
theorem fst4_heap (w : World) (g : Nat) (c : Int) (x : ByteArray) (a b : Int) (k : Nat) (h : k ≠ g) : (fst4 w g c x a b).heap[k]? = w.heap[k]? := by
  unfold fst4
  rw [Below.heap_setCell _ _ _ k h, Below.heap_setCell _ _ _ k h, Below.heap_setCell _ _ _ k h, Below.heap_setCell _ _ _ k h]
theorem Users_fault (k : Nat) (A0 : Option Addr) (c0 : Nat) (l0 : List S42) (s : ByteArray) (w : World) (hr0 : Kd.C k42 w A0 l0.length l0) (hc0 : l0.length <= c0)
    (t1 : List ByteArray) (t2 : List (List Int)) (t3 : Int) (t4 : ByteArray) (t5 t6 : Int) (hA : m_acyclic.f k l0 = some (t1, t2, t3, t4, t5, t6)) (h3 : t3 ≠ 0) :
    Calls Try.prog 17 #[.slice A0 l0.length c0, .string s] w fun e w' => ∃ v0_ : Value, e = .returned (.tuple #[v0_, .agg #[.int .i64 t3, .string t4, .int .i64 t5, .int .i64 t6]]) /\ Kd.R Kd.string 9 w' w.heap.size (fun _ => True) v0_ [] /\ Below w.heap.size w w' := by
  have hu51 := Try.underlying51
  have hu49 := Try.underlying49
  have hu28 := Try.underlying28
  have q1 : (t3 == 0) = false := beq_eq_false_iff_ne.mpr h3
  have q2 : (t3 != 0) = true := bne_iff_ne.mpr h3
  have HR0 := Az.mk hr0
  have HC0 := Az.mk hc0
  have HA := Az.mk hA
  clear hr0 hc0 hA h3
  go_enter Try.func17, Try.ntmps17
  go_upto_region 3 with (first | (go_at_call 24; (refine (m_acyclic.calls k _ _ l0 t1 t2 t3 t4 t5 t6 _ ?s1 HC0.1 HA.1).mono ?_); (case s1 => repeat (first | exact HR0.1 | (with_reducible refine Kd.C_alloc ?_ _) | (with_reducible refine Kd.C_drewN ?_ _) | (with_reducible refine Kd.C_drew ?_))); rintro e w5 ⟨v0, v1, rfl, hn, he, hb⟩; obtain ⟨An, cn, rfl⟩ := Kd.R_slice hn; obtain ⟨Ae, ce, rfl⟩ := Kd.S_slice he; have HN := Az.mk hn; have HE := Az.mk he; have HB := Az.mk hb; clear hn he hb))
  have b0 := (MapKept.heap_alloc w (Obj.cells #[Value.int .i64 0, Value.string ⟨#[]⟩, Value.int .i64 0, Value.int .i64 0] 28)).1
  have hb0 := below_alloc (Below.refl w.heap.size w) (Obj.cells #[Value.int .i64 0, Value.string ⟨#[]⟩, Value.int .i64 0, Value.int .i64 0] 28)
  have b5 := blk_below b0 HB.1
  have hb5 : Below w.heap.size w w5 := hb0.trans (HB.1.mono hb0.size)
  have f0 := blk_alloc (blk_alloc b5 (Obj.cells #[Value.slice An t1.length cn, Value.slice Ae t2.length ce] 51)) (Obj.cells #[Value.int .i64 t3, Value.string t4, Value.int .i64 t5, Value.int .i64 t6] 28)
  have f2 := (MapKept.heap_alloc (w5.alloc (Obj.cells #[Value.slice An t1.length cn, Value.slice Ae t2.length ce] 51)) (Obj.cells #[Value.int .i64 t3, Value.string t4, Value.int .i64 t5, Value.int .i64 t6] 28)).1
  have z1 : (w5.alloc (Obj.cells #[Value.slice An t1.length cn, Value.slice Ae t2.length ce] 51)).heap.size = w5.heap.size + 1 := by simp
  rw [z1] at f2
  have hb7 := below_alloc (below_alloc hb5 (Obj.cells #[Value.slice An t1.length cn, Value.slice Ae t2.length ce] 51)) (Obj.cells #[Value.int .i64 t3, Value.string t4, Value.int .i64 t5, Value.int .i64 t6] 28)
  generalize (w5.alloc (Obj.cells #[Value.slice An t1.length cn, Value.slice Ae t2.length ce] 51)).alloc (Obj.cells #[Value.int .i64 t3, Value.string t4, Value.int .i64 t5, Value.int .i64 t6] 28) = w7 at *
  have F0 := Az.mk f0
  have HB7 := Az.mk hb7
  have hlt := blk_lt b5
  have hne : w5.heap.size + 1 ≠ w.heap.size := by omega
  have x0 := blk_cell f2 0
  have x1 := blk_cell f2 1
  have x2 := blk_cell f2 2
  have x3 := blk_cell f2 3
  have y0 := blk_cell f0 0
  have y1 := blk_cell f0 1
  have y2 := blk_cell f0 2
  have y3 := blk_cell f0 3
  have e0 := blk_frozen f0 0
  have e1 := blk_frozen f0 1
  have e2 := blk_frozen f0 2
  have e3 := blk_frozen f0 3
  clear b0 hb0 b5 hb5 f0 f2 z1 hb7 hlt hne q1 q2
  go_region
  all_goals go_wp2
  all_goals
    refine bodyPost_ret (results_tc rfl _ _ w.heap.size 28 #[.int .i64 t3, .string t4, .int .i64 t5, .int .i64 t6] (0, 0) _ rfl (by first | exact fst4_f F0.1 t3 t4 t5 t6 | exact blk_drew (fst4_f F0.1 t3 t4 t5 t6) | exact fst4_f (blk_drew F0.1) t3 t4 t5 t6) Try.underlying28 rfl hi28) rfl ?_
    exact ⟨_, rfl, Kd.R_nil _ _ _ _ _, by first | exact fst4_below HB7.1 (Nat.le_refl _) t3 t4 t5 t6 | exact below_drew (fst4_below HB7.1 (Nat.le_refl _) t3 t4 t5 t6) | exact fst4_below (below_drew HB7.1) (Nat.le_refl _) t3 t4 t5 t6⟩
theorem Users_walk (k : Nat) (A0 : Option Addr) (c0 : Nat) (l0 : List S42) (s : ByteArray) (w : World) (hr0 : Kd.C k42 w A0 l0.length l0) (hc0 : l0.length <= c0)
    (t1 : List ByteArray) (t2 : List (List Int)) (t4 : ByteArray) (t5 t6 : Int) (hA : m_acyclic.f k l0 = some (t1, t2, 0, t4, t5, t6)) (hok : okB t1.length t2)
    (r1 : List ByteArray) (r2 : Int) (r3 : ByteArray) (r4 r5 : Int) (hRe : m_reached.f t1 t2 (backL (List.replicate t1.length []) 0 t2) s = some (r1, r2, r3, r4, r5)) :
    Calls Try.prog 17 #[.slice A0 l0.length c0, .string s] w fun e w' => ∃ v0_ : Value, e = .returned (.tuple #[v0_, .agg #[.int .i64 r2, .string r3, .int .i64 r4, .int .i64 r5]]) /\ Kd.R Kd.string 9 w' w.heap.size (fun _ => True) v0_ r1 /\ Below w.heap.size w w' := by
  have hu51 := Try.underlying51
  have hu49 := Try.underlying49
  have hu28 := Try.underlying28
  have HR0 := Az.mk hr0
  have HC0 := Az.mk hc0
  have HA := Az.mk hA
  have HOK := Az.mk hok
  have HRE := Az.mk hRe
  clear hr0 hc0 hA hok hRe
  go_enter Try.func17, Try.ntmps17
  go_upto_region 4 with (first | (go_at_call 24; (refine (m_acyclic.calls k _ _ l0 t1 t2 0 t4 t5 t6 _ ?s1 HC0.1 HA.1).mono ?_); (case s1 => repeat (first | exact HR0.1 | (with_reducible refine Kd.C_alloc ?_ _) | (with_reducible refine Kd.C_drewN ?_ _) | (with_reducible refine Kd.C_drew ?_))); rintro e w5 ⟨v0, v1, rfl, hn, he, hb⟩; obtain ⟨An, cn, rfl⟩ := Kd.R_slice hn; obtain ⟨Ae, ce, rfl⟩ := Kd.S_slice he; have HN := Az.mk hn; have HE := Az.mk he; have HB := Az.mk hb; clear hn he hb))
  have b0 := (MapKept.heap_alloc w (Obj.cells #[Value.int .i64 0, Value.string ⟨#[]⟩, Value.int .i64 0, Value.int .i64 0] 28)).1
  have hb0 := below_alloc (Below.refl w.heap.size w) (Obj.cells #[Value.int .i64 0, Value.string ⟨#[]⟩, Value.int .i64 0, Value.int .i64 0] 28)
  have hz0 : (w.alloc (Obj.cells #[Value.int .i64 0, Value.string ⟨#[]⟩, Value.int .i64 0, Value.int .i64 0] 28)).heap.size = w.heap.size + 1 := by simp
  have b5 := blk_below b0 HB.1
  have hb5 : Below w.heap.size w w5 := hb0.trans (HB.1.mono hb0.size)
  have hs5 := HB.1.size
  have f0 := blk_alloc (blk_alloc b5 (Obj.cells #[Value.slice An t1.length cn, Value.slice Ae t2.length ce] 51)) (Obj.cells #[Value.int .i64 0, Value.string t4, Value.int .i64 t5, Value.int .i64 t6] 28)
  have f1 := blk_alloc (MapKept.heap_alloc w5 (Obj.cells #[Value.slice An t1.length cn, Value.slice Ae t2.length ce] 51)).1 (Obj.cells #[Value.int .i64 0, Value.string t4, Value.int .i64 t5, Value.int .i64 t6] 28)
  have hb57 := below_alloc (below_alloc (Below.refl w5.heap.size w5) (Obj.cells #[Value.slice An t1.length cn, Value.slice Ae t2.length ce] 51)) (Obj.cells #[Value.int .i64 0, Value.string t4, Value.int .i64 t5, Value.int .i64 t6] 28)
  have hs7 : ((w5.alloc (Obj.cells #[Value.slice An t1.length cn, Value.slice Ae t2.length ce] 51)).alloc (Obj.cells #[Value.int .i64 0, Value.string t4, Value.int .i64 t5, Value.int .i64 t6] 28)).heap.size = w5.heap.size + 1 + 1 := by simp
  generalize (w5.alloc (Obj.cells #[Value.slice An t1.length cn, Value.slice Ae t2.length ce] 51)).alloc (Obj.cells #[Value.int .i64 0, Value.string t4, Value.int .i64 t5, Value.int .i64 t6] 28) = w7 at *
  have F0 := Az.mk f0
  have F1 := Az.mk f1
  have HB5 := Az.mk hb5
  have HB57 := Az.mk hb57
  have HS7 := Az.mk hs7
  have HS5 := Az.mk (show w.heap.size + 1 <= w5.heap.size by omega)
  have HN7 := Az.mk (Kd.R_below HN.1 hb57)
  have HE7 := Az.mk (Kd.S_below HE.1 hb57)
  have x0 := blk_cell f1 0
  clear b0 hb0 hz0 b5 hb5 hs5 f0 f1 hb57 hs7
  have hn100 : t1.length <= 100 := HOK.1.1
  obtain ⟨i0, e0, e1, e2, e3⟩ := info_parts info55m2
  have hmk := run_make w7 47 55 i0 _ Try.underlying47 e0 e1 .i64 .i64 t1.length t1.length (by omega) (by omega) (by rw [e3]; omega) (by omega)
  rw [e2, Nat.mul_one] at hmk
  have hz0 : (Value.slice none 0 0).cells = #[.slice none 0 0] := rfl
  rw [hz0] at hmk
  clear e0 e1 e2 e3 hz0
  go_upto_region 5 with fail
  have m1 := (MapKept.heap_alloc w7 (Obj.cells (madeCells #[Value.slice none 0 0] t1.length) 55)).1
  have hm1 := below_alloc (Below.refl w7.heap.size w7) (Obj.cells (madeCells #[Value.slice none 0 0] t1.length) 55)
  have hm2 := below_alloc hm1 (Obj.cells #[Value.slice (some ⟨w7.heap.size, 0, none⟩) t1.length t1.length] 49)
  have hS := S_made (base := w7.heap.size) (ok := fun k => w7.heap.size <= k /\ k ≠ w7.heap.size + 1) m1 (Nat.le_refl _) (by unfold maxLen; omega) ⟨Nat.le_refl _, by omega⟩
  have hS9 := Kd.S_alloc hS (Obj.cells #[Value.slice (some ⟨w7.heap.size, 0, none⟩) t1.length t1.length] 49)
  have m2 := (MapKept.heap_alloc (w7.alloc (Obj.cells (madeCells #[Value.slice none 0 0] t1.length) 55)) (Obj.cells #[Value.slice (some ⟨w7.heap.size, 0, none⟩) t1.length t1.length] 49)).1
  have hz8 : (w7.alloc (Obj.cells (madeCells #[Value.slice none 0 0] t1.length) 55)).heap.size = w7.heap.size + 1 := by simp
  have hz9 : ((w7.alloc (Obj.cells (madeCells #[Value.slice none 0 0] t1.length) 55)).alloc (Obj.cells #[Value.slice (some ⟨w7.heap.size, 0, none⟩) t1.length t1.length] 49)).heap.size = w7.heap.size + 1 + 1 := by simp
  rw [hz8] at m2
  generalize (w7.alloc (Obj.cells (madeCells #[Value.slice none 0 0] t1.length) 55)).alloc (Obj.cells #[Value.slice (some ⟨w7.heap.size, 0, none⟩) t1.length t1.length] 49) = w9 at *
  obtain ⟨go, hgo⟩ : ∃ go, go = w7.heap.size := ⟨_, rfl⟩
  rw [<- hgo] at hS9 m2 hm2 hz9 ⊢
  have HGO := Az.mk hgo
  have HS9 := Az.mk hS9
  have HM2 := Az.mk m2
  have HB9 := Az.mk hm2
  have HZ9 := Az.mk hz9
  have x1 := blk_cell (blk_below F1.1 (by rw [<- hgo]; exact hm2)) 1
  clear m1 hm1 hm2 hS hS9 m2 hz8 hz9 hgo hmk x0 hn100
  go_wp2
  clear x1
  obtain ⟨BK, hBK⟩ : ∃ BK, backL (List.replicate t1.length []) 0 t2 = BK := ⟨_, rfl⟩
  have HBK := Az.mk hBK
  clear hBK
  go_loopg [31] t2.length (fun kq v31 w' => ∃ (x : Int) (U : List (List Int)), v31 = .int .i64 x /\ Az (0 <= x /\ x.toNat + kq = t2.length) /\ Az (U.length = t1.length /\ backL U x (t2.drop x.toNat) = BK /\ (∀ r ∈ U, r.length <= x.toNat * 1000) /\ Kd.S KS 55 w' go (fun k => go <= k /\ k ≠ go + 1) (.slice (some ⟨go, 0, none⟩) t1.length t1.length) U /\ w'.heap[go + 1]? = some (Obj.cells #[Value.slice (some ⟨go, 0, none⟩) t1.length t1.length] 49) /\ Below go w7 w'))
  case atStart => exact ⟨0, _, rfl, ⟨by decide, by simp⟩, ⟨List.length_replicate .., by simpa using HBK.1, fun r hr => by rw [List.eq_of_mem_replicate hr]; simp, HS9.1, HM2.1, HB9.1⟩⟩
  case round =>
    obtain ⟨x, U, rfl, hk, hI⟩ := hrel
    clear HS9 HM2 HB9
    have hk0 := hk.1.1
    by_cases hx : x < (t2.length : Int)
    · have q3 : decide (x < (t2.length : Int)) = true := decide_eq_true hx
      have HX := Az.mk hx
      have hbw : Below w7.heap.size w7 wr := by rw [<- HGO.1]; exact hI.1.2.2.2.2.2
      obtain ⟨hl1, hc1, hC1⟩ := Kd.S_reads' HE7.1
      obtain ⟨ad, A3, c3, rfl, g0, g1, g2⟩ := at_L11 hC1 x hk0 hx
      replace g0 := (hbw.cell (World.block_lt_of_cell? _ _ g0)).trans g0
      have hrm : rd_L11 t2 x ∈ t2 := by
        have hi : x.toNat < t2.length := by omega
        have : rd_L11 t2 x = t2[x.toNat] := by simp [rd_L11, List.getD_eq_getElem?_getD, List.getElem?_eq_getElem hi]
        rw [this]; exact List.getElem_mem hi
      have hrb := HOK.1.2.2 _ hrm
      have hdr : t2.drop x.toNat = rd_L11 t2 x :: t2.drop (x.toNat + 1) := by
        have hi : x.toNat < t2.length := by omega
        rw [List.drop_eq_getElem_cons hi]
        simp [rd_L11, List.getD_eq_getElem?_getD, List.getElem?_eq_getElem hi]
      have hbk := hI.1.2.1
      rw [hdr] at hbk
      generalize rd_L11 t2 x = rw1 at *
      have p1 := eq_true hk0
      have p2 : (x < (t2.length : Int)) = True := eq_true hx
      have HRB := Az.mk hrb
      have HBK1 : Az (backL (addAll U x rw1) (x + 1) (t2.drop (x.toNat + 1)) = BK) := ⟨hbk⟩
      have H2 := Az.mk g2
      have hxr : wrap64 x = x := by unfold wrap64; have := HOK.1.2.1; omega
      obtain ⟨gk1, rfl⟩ : ∃ g, g = gk := ⟨_, rfl⟩
      clear hl1 hc1 hC1 hrm hrb hdr hbk g1 g2 hx hk0 hbw
      go_wp2
      clear g0
      obtain ⟨wo, rfl⟩ : ∃ wo, wo = wr := ⟨_, rfl⟩
      go_loopg [38] rw1.length (fun kq v38 w' => ∃ (z : Int) (V : List (List Int)), v38 = .int .i64 z /\ Az (0 <= z /\ z.toNat + kq = rw1.length) /\ Az (V.length = t1.length /\ addAll V x (rw1.drop z.toNat) = addAll U x rw1 /\ (∀ r ∈ V, r.length <= x.toNat * 1000 + z.toNat) /\ Kd.S KS 55 w' go (fun k => go <= k /\ k ≠ go + 1) (.slice (some ⟨go, 0, none⟩) t1.length t1.length) V /\ w'.heap[go + 1]? = some (Obj.cells #[Value.slice (some ⟨go, 0, none⟩) t1.length t1.length] 49) /\ Below go w7 w'))
      case atStart => exact ⟨0, U, rfl, ⟨by decide, by simp⟩, ⟨hI.1.1, by simp, fun r hr => hI.1.2.2.1 r hr, hI.1.2.2.2.1, hI.1.2.2.2.2.1, hI.1.2.2.2.2.2⟩⟩
      case round =>
        obtain ⟨z, V, rfl, hk2, hJ⟩ := hrel
        have hk20 := hk2.1.1
        by_cases hz : z < (rw1.length : Int)
        · have q4 : decide (z < (rw1.length : Int)) = true := decide_eq_true hz
          have HZ := Az.mk hz
          have hbw2 : Below w7.heap.size w7 wr := by rw [<- HGO.1]; exact hJ.1.2.2.2.2.2
          obtain ⟨ad2, rfl, y0⟩ := Kd.at_int (Kd.C_below H2.1 hbw2) z hk20 hz
          have hdm : Go.Proofs.Yw.A.rd rw1 z ∈ rw1 := by
            have hi : z.toNat < rw1.length := by omega
            have : Go.Proofs.Yw.A.rd rw1 z = rw1[z.toNat] := by simp [Go.Proofs.Yw.A.rd, rdOf, List.getD_eq_getElem?_getD, List.getElem?_eq_getElem hi]
            rw [this]; exact List.getElem_mem hi
          obtain ⟨hd0, hd1⟩ := HRB.1.2 _ hdm
          have hdr : rw1.drop z.toNat = Go.Proofs.Yw.A.rd rw1 z :: rw1.drop (z.toNat + 1) := by
            have hi : z.toNat < rw1.length := by omega
            rw [List.drop_eq_getElem_cons hi]
            simp [Go.Proofs.Yw.A.rd, rdOf, List.getD_eq_getElem?_getD, List.getElem?_eq_getElem hi]
          have hadd := hJ.1.2.1
          rw [hdr] at hadd
          generalize Go.Proofs.Yw.A.rd rw1 z = d at *
          have HADD : Az (addAll (V.set d.toNat (V.getD d.toNat [] ++ [x])) x (rw1.drop (z.toNat + 1)) = addAll U x rw1) := ⟨hadd⟩
          have p3 := eq_true hk20
          have p4 : (z < (rw1.length : Int)) = True := eq_true hz
          clear hdm hdr hadd hz hk20 hbw2
          go_upto_region 11 with fail
          clear y0
          have hsz := blk_lt hJ.1.2.2.2.2.1
          obtain ⟨v0, oki, u1, u2, u3, u4, u5⟩ := S_upd (Kd.S_drew hJ.1.2.2.2.1) (fun k hk => by have : wr.drew.heap.size = wr.heap.size := rfl; rw [this] at hk; omega) d hd0 hd1
          have U3 := Az.mk (Kd.R_mono (ok' := fun k => oki k \/ wr.heap.size <= k) u3 (fun k hk => .inl hk))
          have U4 := Az.mk u4
          have U5 := Az.mk (@u5)
          have U6 := Az.mk u3
          have hrl : (row V d).length <= 101000 := by
            have h1 := HOK.1.2.1
            have h2 := hk.1
            have h3 := hk2.1
            have h4 := HRB.1.1
            have h5 := HX.1
            by_cases hi : d.toNat < V.length
            · have : row V d ∈ V := by unfold row; rw [List.getD_eq_getElem?_getD, List.getElem?_eq_getElem hi]; exact List.getElem_mem hi
              have h6 := hJ.1.2.2.1 _ this
              have h7 : x.toNat <= 100 := by omega
              have h8 : z.toNat <= 1000 := by omega
              omega
            · unfold row
              rw [List.getD_eq_getElem?_getD, List.getElem?_eq_none (by omega)]
              simp
          have HRL := Az.mk (show ((row V d).length + 1) * 8 <= 140737488355328 by omega)
          have c8 : wr.cell? ⟨go + 1, 0, none⟩ = some (Value.slice (some ⟨go, 0, none⟩) t1.length t1.length) := blk_cell hJ.1.2.2.2.2.1 0
          have w1' : wr.cell? ⟨go, d.toNat, none⟩ = some v0 := u1
          have c8d : (wr.alloc (Obj.cells #[Value.int .i64 x] 3)).cell? ⟨go + 1, 0, none⟩ = some (Value.slice (some ⟨go, 0, none⟩) t1.length t1.length) := ((below_alloc (Below.refl wr.heap.size wr) _).cell (World.block_lt_of_cell? _ _ c8)).trans c8
          have c8e : (wr.drew.alloc (Obj.cells #[Value.int .i64 x] 3)).cell? ⟨go + 1, 0, none⟩ = some (Value.slice (some ⟨go, 0, none⟩) t1.length t1.length) := ((below_alloc (below_drew (Below.refl wr.heap.size wr)) _).cell (World.block_lt_of_cell? _ _ c8)).trans c8
          have w1d : (wr.alloc (Obj.cells #[Value.int .i64 x] 3)).cell? ⟨go, d.toNat, none⟩ = some v0 := ((below_alloc (Below.refl wr.heap.size wr) _).cell (World.block_lt_of_cell? _ _ w1')).trans w1'
          have w1e : (wr.drew.alloc (Obj.cells #[Value.int .i64 x] 3)).cell? ⟨go, d.toNat, none⟩ = some v0 := ((below_alloc (below_drew (Below.refl wr.heap.size wr)) _).cell (World.block_lt_of_cell? _ _ w1')).trans w1'
          have hgb : wr.drew.heap[go + 1]? = some (Obj.cells #[Value.slice (some ⟨go, 0, none⟩) t1.length t1.length] 49) := hJ.1.2.2.2.2.1
          have HGB := Az.mk hgb
          have hgl : go <= wr.drew.heap.size := by have : wr.drew.heap.size = wr.heap.size := rfl; omega
          have hfr : ∀ k, wr.drew.heap.size <= k -> oki k \/ wr.heap.size <= k := fun k hk => .inr hk
          have HFR := Az.mk hfr
          have HGL := Az.mk hgl
          have U2 := Az.mk u2
          have p5 := eq_true hd0
          have p6 : (d < (t1.length : Int)) = True := eq_true hd1
          have HD0 := Az.mk (And.intro hd0 hd1)
          clear u1 u2 u3 u4 u5 hrl hgb hgl hfr hsz hd0 hd1
          have HSTEP : Az (∀ (w3 : World) (A2 : Option Addr) (cr : Nat), wr.drew.grownBy w3 v0.ownBlock -> Kd.R (Kd.int .i64) 3 w3 go (fun k => oki k \/ wr.heap.size <= k) (.slice A2 (row V d ++ [x]).length cr) (row V d ++ [x]) -> w3.heap[go + 1]? = some (Obj.cells #[Value.slice (some ⟨go, 0, none⟩) t1.length t1.length] 49) ->
              (V.set d.toNat (row V d ++ [x])).length = t1.length /\ (∀ r ∈ V.set d.toNat (row V d ++ [x]), r.length <= x.toNat * 1000 + (z.toNat + 1)) /\ Kd.S KS 55 (w3.setCell ⟨go, d.toNat, none⟩ (.slice A2 ((row V d).length + 1) cr)) go (fun k => go <= k /\ k ≠ go + 1) (.slice (some ⟨go, 0, none⟩) t1.length t1.length) (V.set d.toNat (row V d ++ [x])) /\ (w3.setCell ⟨go, d.toNat, none⟩ (.slice A2 ((row V d).length + 1) cr)).heap[go + 1]? = some (Obj.cells #[Value.slice (some ⟨go, 0, none⟩) t1.length t1.length] 49) /\ Below go w7 (w3.setCell ⟨go, d.toNat, none⟩ (.slice A2 ((row V d).length + 1) cr))) := ⟨by
            intro w3 A2 cr hg hr hb
            have hS := U5.1 w3 _ _ hg hr
            have e9 : (row V d ++ [x]).length = (row V d).length + 1 := by simp
            rw [e9] at hS
            refine ⟨by rw [List.length_set]; exact hJ.1.1, fun r hr2 => ?_, hS.1, blk_grown hb hS.2 (by intro e; injection e with e; omega), ?_⟩
            · rcases List.mem_or_eq_of_mem_set hr2 with h | h
              · have := hJ.1.2.2.1 r h; omega
              · subst h
                rw [e9]
                by_cases hi : d.toNat < V.length
                · have hm : row V d ∈ V := by unfold row; rw [List.getD_eq_getElem?_getD, List.getElem?_eq_getElem hi]; exact List.getElem_mem hi
                  have := hJ.1.2.2.1 _ hm
                  omega
                · have : row V d = [] := by unfold row; rw [List.getD_eq_getElem?_getD, List.getElem?_eq_none (by omega)]; rfl
                  rw [this, List.length_nil]; omega
            · exact ((below_drew hJ.1.2.2.2.2.2).grown hg HGL.1 (fun k hk => (U4.1 k (U6.1.1 k hk)).1.1)).setCell (Nat.le_refl _) _⟩
          go_region_law ((refine Kd.R_append_step (Kd.int .i64) (w0 := wr.drew) (W := wr.drew) go rfl (.tmp 49) (.tmp 51) 55 3 (.int .i64 0) 8 rfl Try.underlying55 info3 rfl (by decide) (by decide) v0 (row V d) x [.int .i64 x] (fun k => oki k \/ wr.heap.size <= k) (fun _ => False) rfl rfl rfl (fun _ hk => hk.elim) HFR.1 U3.1 (Below.refl _ _) HGL.1 HRL.1 ?_); intro v1 w3 ho hb1 hg hat; obtain ⟨A2, cr, rfl⟩ := Kd.R_slice ho; have hnm : some (go + 1) ≠ v0.ownBlock := (fun e => (U4.1 (go + 1) (U6.1.1 _ e.symm)).1.2 rfl); have hng : some go ≠ v0.ownBlock := (fun e => (U4.1 go (U6.1.1 _ e.symm)).2 rfl); have hgs : go < wr.drew.heap.size := (by have := blk_lt HGB.1; omega); have k1 : w3.cell? ⟨go + 1, 0, none⟩ = some (Value.slice (some ⟨go, 0, none⟩) t1.length t1.length) := blk_cell (blk_grown HGB.1 hg hnm) 0; have k2 : w3.cell? ⟨go, d.toNat, none⟩ = some v0 := (World.cell?_of_block (hg.block go hgs hng)).trans w1'; have k3 : w3.frozen? ⟨go, d.toNat, none⟩ = false := (World.frozen?_of_block (hg.block go hgs hng)).trans U2.1; have G1 := Az.mk hg; have R1 := Az.mk ho; have B1 := Az.mk (blk_grown HGB.1 hg hnm); clear hg ho hb1 hat hnm hng hgs)
          all_goals go_wp2
          all_goals go_roundg (gk - 1)
          all_goals first
            | (have h1 := hk2.1; have h2 := HZ.1; omega)
            | (have h1 := hk2.1
               have h2 := HZ.1
               have h4 := HRB.1.1
               have et : (z + 1).toNat = z.toNat + 1 := by omega
               have hst := HSTEP.1 _ _ _ G1.1 R1.1 B1.1
               exact ⟨z + 1, _, by rw [show wrap64 (z + 1) = z + 1 from by unfold wrap64; omega], ⟨by omega, by omega⟩, ⟨hst.1, by rw [et]; exact HADD.1, by rw [et]; exact hst.2.1, hst.2.2.1, hst.2.2.2.1, hst.2.2.2.2⟩⟩)
        · have q4 : decide (z < (rw1.length : Int)) = false := decide_eq_false hz
          have hd : rw1.drop z.toNat = [] := List.drop_of_length_le (by have := hk2.1; omega)
          have hJ2 := hJ.1
          rw [hd] at hJ2
          have HJ2 := Az.mk hJ2
          clear hd hJ2 hz hk20
          go_wp2
          go_roundg (gk1 - 1)
          case measure => have := hk.1; have := HX.1; omega
          case rel =>
            have h1 := hk.1
            have h2 := HX.1
            have h3 := hk2.1
            have h4 := HRB.1.1
            have h5 := HOK.1.2.1
            have et : (x + 1).toNat = x.toNat + 1 := by omega
            have hv : V = addAll U x rw1 := HJ2.1.2.1
            exact ⟨x + 1, V, by rw [show wrap64 (x + 1) = x + 1 from by unfold wrap64; omega], ⟨by omega, by omega⟩, ⟨HJ2.1.1, by rw [et, hv]; exact HBK1.1, fun r hr => by have := HJ2.1.2.2.1 r hr; omega, HJ2.1.2.2.2.1, HJ2.1.2.2.2.2.1, HJ2.1.2.2.2.2.2⟩⟩
    · have q3 : decide (x < (t2.length : Int)) = false := decide_eq_false hx
      have hd : t2.drop x.toNat = [] := List.drop_of_length_le (by have := hk.1; omega)
      have hI2 := hI.1
      rw [hd] at hI2
      obtain ⟨i1, rfl, i3, i4, i5, i6⟩ := hI2
      have hbw : Below w7.heap.size w7 wr := by rw [<- HGO.1]; exact i6
      have HBW := Az.mk hbw
      have f0 := blk_below F0.1 hbw
      have f1 := blk_below F1.1 hbw
      have HF0 := Az.mk f0
      have x0 := blk_cell f1 0
      have x1 := blk_cell f1 1
      have z0 := blk_cell i5 0
      have hN := plainR (Kd.R_below HN7.1 hbw)
      have hE := Kd.S_reads' (Kd.S_below HE7.1 hbw)
      have hU : t1.length = (backL U x []).length /\ t1.length <= t1.length /\ KS.C wr (some ⟨go, 0, none⟩) (backL U x []).length (backL U x []) := Kd.S_reads' i4
      have hbk := HBK.1
      have hre := HRE.1
      rw [hbk] at hre
      have hcall := m_reached.calls _ cn t1 _ ce t2 _ t1.length (backL U x []) s r1 r2 r3 r4 r5 wr hN.2.2 hN.2.1 hE.2.2 hE.2.1 hU.2.2 (by rw [<- hU.1]; exact Nat.le_refl _) hre
      rw [<- hU.1] at hcall
      have HCALL := Az.mk hcall
      clear hd i1 i3 i4 i5 i6 hbw f0 f1 hN hE hU hbk hre hcall hx hk0 hI
      go_wp2_with (go_at_call 31; (refine HCALL.1.mono ?_); rintro e w10 ⟨v10, rfl, hr10, hb10⟩; have HR10 := Az.mk hr10; have HB10 := Az.mk hb10; have g0 := blk_below HF0.1 hb10; have HG0 := Az.mk g0; have y0 := blk_cell g0 0; have y1 := blk_cell g0 1; have y2 := blk_cell g0 2; have y3 := blk_cell g0 3; have e0 := blk_frozen g0 0; have e1 := blk_frozen g0 1; have e2 := blk_frozen g0 2; have e3 := blk_frozen g0 3; clear hr10 hb10 g0)
      refine bodyPost_ret (results_tc rfl _ _ w.heap.size 28 #[.int .i64 r2, .string r3, .int .i64 r4, .int .i64 r5] (0, 0) _ rfl (fst4_f HG0.1 r2 r3 r4 r5) Try.underlying28 rfl hi28) rfl ?_
      have hlt : w.heap.size < wr.heap.size := by have h1 := blk_lt HF0.1; exact h1
      have hall : Below w.heap.size w w10 := ((HB5.1.trans (HB57.1.mono HB5.1.size)).trans (HBW.1.mono (by have := HB5.1.size; have := HB57.1.size; omega))).trans (HB10.1.mono (Nat.le_of_lt hlt))
      refine ⟨_, rfl, ?_, fst4_below hall (Nat.le_refl _) r2 r3 r4 r5⟩
      exact Kd.R_lower (Kd.R_mono (Kd.R_move (Kd.R_bound HR10.1) (fun k hk => fst4_heap w10 _ r2 r3 r4 r5 k (by have := hk.2.1; omega))) (fun _ _ => trivial)) (Nat.le_of_lt hlt)
end Mg
namespace P
theorem m_Users.calls (A0 : Option Addr) (c0 : Nat) (l0 : List S42) (a1 : ByteArray) (r1 : List ByteArray) (r2 : Int) (r3 : ByteArray) (r4 r5 : Int) (w : World) (hr0 : Kd.C k42 w A0 l0.length l0) (hc0 : l0.length <= c0) (h : m_Users.f l0 a1 = some (r1, r2, r3, r4, r5)) :
    Calls Try.prog 17 #[.slice A0 l0.length c0, .string a1] w fun e w' => ∃ v0_ : Value, e = .returned (.tuple #[v0_, .agg #[.int .i64 r2, .string r3, .int .i64 r4, .int .i64 r5]]) /\ Kd.R Kd.string 9 w' w.heap.size (fun _ => True) v0_ r1 /\ Below w.heap.size w w' := by
  unfold m_Users.f at h
  obtain ⟨⟨t1, t2, t3, t4, t5, t6⟩, hl, h⟩ := Option.bind_eq_some_iff.mp h
  obtain ⟨k0, hk0⟩ := Od.lim_some hl
  have hA := hk0 k0 (Nat.le_refl _)
  simp only [] at h
  by_cases h3 : t3 = 0
  · rw [if_pos h3] at h
    by_cases ho : okB t1.length t2
    · rw [if_pos ho] at h
      subst h3
      exact Users_walk k0 A0 c0 l0 a1 w hr0 hc0 t1 t2 t4 t5 t6 hA ho r1 r2 r3 r4 r5 h
    · rw [if_neg ho] at h; cases h
  · rw [if_neg h3] at h
    simp only [Option.some.injEq, Prod.mk.injEq] at h
    obtain ⟨rfl, rfl, rfl, rfl, rfl⟩ := h
    exact Users_fault k0 A0 c0 l0 a1 w hr0 hc0 t1 t2 t3 t4 t5 t6 hA h3
end P
end Go.Proofs.Ytmadhaccjmakdaa
namespace Go.Proofs.Ytmadhaccjmakdaa.P
open Go.RowKit Go.Proofs.Yw.A Go.Proofs.Yw.B Go.Proofs.Yw.C Mg
theorem ord_x : g_ordered.f [[1], [], []] = some [[1], [0], [2]] := Od.lim_of (k0 := 40) (fun k hk => by
 obtain ⟨m, rfl⟩ : ∃ m, k = m + 40 := ⟨k - 40, by omega⟩
 kernel_rfl)
theorem lev_x : g_Levels.f [[1], [], []] = some ([[1, 2], [0]], 0) := Od.lim_of (k0 := 40) (fun k hk => by
 obtain ⟨m, rfl⟩ : ∃ m, k = m + 40 := ⟨k - 40, by omega⟩
 unfold Lv.levelsF
 rw [ord_x]
 kernel_rfl)
theorem acy_x {l : List S42} (h : l.map key = [([65], [[66]]), ([66], []), ([67], [])]) : m_acyclic.f 40 l = some ([bz [65], bz [66], bz [67]], [[1], [], []], 0, ⟨#[]⟩, 0, 0) := by
 unfold m_acyclic.f
 rw [made_abc h]
 kernel_rfl
theorem order_x {l : List S42} (h : l.map key = [([65], [[66]]), ([66], []), ([67], [])]) : m_Order.f 40 l = some ([bz [66], bz [65], bz [67]], 0, ⟨#[]⟩, 0, 0) := by
 unfold m_Order.f
 rw [acy_x h]
 simp only [Option.bind_some, if_true]
 unfold g_Components.f
 rw [ord_x]
 kernel_rfl
theorem levels_x {l : List S42} (h : l.map key = [([65], [[66]]), ([66], []), ([67], [])]) : m_Levels.f 40 l = some ([[bz [66], bz [67]], [bz [65]]], 0, ⟨#[]⟩, 0, 0) := by
 unfold m_Levels.f
 rw [acy_x h]
 simp only [Option.bind_some, if_true]
 rw [lev_x]
 kernel_rfl
theorem reach_x : m_reached.f [bz [65], bz [66], bz [67]] [[1], [], []] [[1], [], []] (bz [65]) = some ([bz [66]], 0, ⟨#[]⟩, 0, 0) := by
 have hL : (Od.lim fun k => (g_Reach.f k [[1], [], []] (rank ([bz [65], bz [66], bz [67]].map dat) (dat (bz [65])) : Nat)).bind fun t => p_named.f k [bz [65], bz [66], bz [67]] [[1], [], []] t) = some [bz [65], bz [66]] := Od.lim_of (k0 := 40) (fun k hk => by
  obtain ⟨m, rfl⟩ : ∃ m, k = m + 40 := ⟨k - 40, by omega⟩
  kernel_rfl)
 unfold m_reached.f
 rw [if_pos (by decide), if_pos (by decide), hL]
 have hf : [bz [65], bz [66]].filter (fun x => !but (bz [65]) x) = [bz [66]] := by kernel_rfl
 show some (List.filter (fun x => !but (bz [65]) x) [bz [65], bz [66]], (0 : Int), (⟨#[]⟩ : ByteArray), (0 : Int), (0 : Int)) = _
 rw [hf]
theorem needs_x {l : List S42} (h : l.map key = [([65], [[66]]), ([66], []), ([67], [])]) : m_Needs.f 40 l (bz [65]) = some ([bz [66]], 0, ⟨#[]⟩, 0, 0) := by
 unfold m_Needs.f
 rw [acy_x h]
 simp only [Option.bind_some, if_true]
 rw [reach_x]
 rfl
theorem cycle_x {l : List S42} (h : l.map key = [([65], [[66]]), ([66], [[65], [67]]), ([67], [[66]])]) : m_Cycle.f 100 l = some [bz [65], bz [66]] := by
 unfold m_Cycle.f
 rw [made_cyc h]
 kernel_rfl
theorem missI_bz (K : List (List UInt8)) : ∀ l : List S66, missI K l = ((l.map im).find? (fun x => !K.contains x)).map bz := by
 intro l
 induction l with
 | nil => rfl
 | cons i l ih =>
  unfold missI
  by_cases h : K.contains (im i) = true
  · rw [if_pos h, ih, List.map_cons, List.find?_cons_of_neg (by simpa using h)]
  rw [if_neg h, List.map_cons, List.find?_cons_of_pos (by simpa using h)]
  rfl
theorem made_x {l : List S42} (h : l.map key = [([65], [[88]])]) : m_made.f l = some ([], [], 16, bz [88], 0, 0) := by
 have hk := nm_key l
 rw [h] at hk
 have hlen : l.length = 1 := by have := congrArg List.length h; simpa using this
 obtain ⟨m, rfl⟩ : ∃ m, l = [m] := List.length_eq_one_iff.1 hlen
 have hkm : key m = ([65], [[88]]) := by simpa using h
 have hi : m.f3.map im = [[88]] := congrArg Prod.snd hkm
 unfold m_made.f
 rw [if_neg (by simp), if_pos (okSizes_key (by rw [h]; decide)), twice_of _ [] (by rw [hk]; decide)]
 simp only []
 rw [hk]
 unfold miss
 rw [missI_bz, hi]
 rfl
theorem order_miss {l : List S42} (h : l.map key = [([65], [[88]])]) : m_Order.f 40 l = some ([], 16, bz [88], 0, 0) := by
 unfold m_Order.f m_acyclic.f
 rw [made_x h]
 rfl
theorem reach_y : m_reached.f [bz [65], bz [66], bz [67]] [[1], [], []] [[], [0], []] (bz [66]) = some ([bz [65]], 0, ⟨#[]⟩, 0, 0) := by
 have hL : (Od.lim fun k => (g_Reach.f k [[], [0], []] (rank ([bz [65], bz [66], bz [67]].map dat) (dat (bz [66])) : Nat)).bind fun t => p_named.f k [bz [65], bz [66], bz [67]] [[1], [], []] t) = some [bz [65], bz [66]] := Od.lim_of (k0 := 40) (fun k hk => by
  obtain ⟨m, rfl⟩ : ∃ m, k = m + 40 := ⟨k - 40, by omega⟩
  kernel_rfl)
 unfold m_reached.f
 rw [if_pos (by decide), if_pos (by decide), hL]
 have hf : [bz [65], bz [66]].filter (fun x => !but (bz [66]) x) = [bz [65]] := by kernel_rfl
 show some (List.filter (fun x => !but (bz [66]) x) [bz [65], bz [66]], (0 : Int), (⟨#[]⟩ : ByteArray), (0 : Int), (0 : Int)) = _
 rw [hf]
theorem users_x {l : List S42} (h : l.map key = [([65], [[66]]), ([66], []), ([67], [])]) : m_Users.f l (bz [66]) = some ([bz [65]], 0, ⟨#[]⟩, 0, 0) := by
 have hL : (Od.lim fun k => m_acyclic.f k l) = some ([bz [65], bz [66], bz [67]], [[1], [], []], 0, ⟨#[]⟩, 0, 0) := Od.lim_of (k0 := 40) (fun k hk => by
  obtain ⟨m, rfl⟩ : ∃ m, k = m + 40 := ⟨k - 40, by omega⟩
  unfold m_acyclic.f
  rw [made_abc h]
  kernel_rfl)
 have hb : backL (List.replicate [bz [65], bz [66], bz [67]].length []) 0 [[1], [], []] = [[], [0], []] := by kernel_rfl
 have ho : okB [bz [65], bz [66], bz [67]].length [[1], [], []] := by unfold okB; decide
 unfold m_Users.f
 rw [hL]
 simp only [Option.bind_some, if_true]
 rw [if_pos ho, hb]
 exact reach_y
end Go.Proofs.Ytmadhaccjmakdaa.P
namespace Go.Proofs.Ytmadhaccjmakdaa
open Go.RowKit Go.Proofs.Yw.A Go.Proofs.Yw.B Go.Proofs.Yw.C
attribute [local go_sem] str_gtr str_leq str_geq max2_int min2_int max_two min_two max_three min_three max_four min_four
open P Mg
attribute [local go_sem high] eqA28
namespace Aw
def Stab (p : World -> Prop) : Prop := ∀ w w1, Below w.heap.size w w1 -> p w -> p w1
theorem stab_and {p q : World -> Prop} (hp : Stab p) (hq : Stab q) : Stab fun w => p w /\ q w := fun w w1 hb h => ⟨hp w w1 hb h.1, hq w w1 hb h.2⟩
theorem stab_c {α : Type} (d : Kd α) (A : Option Addr) (n : Nat) (xs : List α) : Stab fun w => d.C w A n xs := fun w w1 hb h => Kd.C_below h hb
theorem stab_k {α : Type} (d : Kd α) (x : α) (cs : List Value) : Stab fun w => d.K w x cs := fun w w1 hb h => d.K_below hb h
theorem stab_b (w0 : World) : Stab fun w => Below w0.heap.size w0 w := fun w w1 hb h => below_step h hb
theorem stab_x (g : Nat) (cs : Array Value) (t : TypeId) : Stab fun w => w.heap[g]? = some (.cells cs t (0, 0)) := fun w w1 hb h => blk_below h hb
theorem C_lit {α : Type} (d : Kd α) (w : World) {xs : List α} {inner : List Value} (e : TypeId) (hrep : Reps (d.K w) d.sz xs inner) (hm : xs.length <= 9223372036854775807) (hl : inner.length = xs.length * d.sz) :
 d.C (w.alloc (.cells inner.toArray e)) (some ⟨w.heap.size, 0, none⟩) xs.length xs := by
 refine ⟨rfl, hm, fun _ => ⟨_, rfl, fun j p hj => ⟨_, ?_, d.K_below (below_alloc (Below.refl _ _) _) (hrep.2 j p hj), fun i u hu => ?_⟩⟩⟩
 · exact d.K_len (hrep.2 j p hj)
 · have hb := (MapKept.heap_alloc w (.cells inner.toArray e)).1
   have hu' : inner[j * d.sz + i]? = some u := by
    rw [List.getElem?_take] at hu
    split at hu
    · rw [List.getElem?_drop] at hu; exact hu
    · cases hu
   have hadd : (⟨w.heap.size, 0, none⟩ : Addr).add (j * d.sz + i) = ⟨w.heap.size, j * d.sz + i, none⟩ := by
    unfold Addr.add
    split
    · rename_i h0; rw [h0]
    · simp
   rw [hadd, blk_cell hb]
   simpa using hu'
def i66 (x : ByteArray) : S66 := ⟨x, false, ⟨#[]⟩, false, false, []⟩
def mm (x : ByteArray) (l : List ByteArray) : S42 := ⟨x, false, [], l.map i66, RawS.nil⟩
theorem mod_ex (s : ByteArray) (l1 : List ByteArray) (x : S42) (h : w_module.f 40 s l1 = some (x.f0, x.f1, x.f2, x.f3, x.f4)) (A1 : Option Addr) (c1 : Nat) (w : World) (hr1 : Kd.C Kd.string w A1 l1.length l1) (hc1 : l1.length <= c1) :
 Calls Try.prog 23 #[.string s, .slice A1 l1.length c1] w fun e w' => ∃ A2 c2 A3 c3, e = .returned (.agg #[.string x.f0, .bool x.f1, .slice A2 x.f2.length c2, .slice A3 x.f3.length c3, .slice x.f4.a x.f4.n x.f4.c]) /\
  k42.K w' x [.string x.f0, .bool x.f1, .slice A2 x.f2.length c2, .slice A3 x.f3.length c3, .slice x.f4.a x.f4.n x.f4.c] /\ Below w.heap.size w w' := by
 refine (w_module.calls 40 s A1 c1 l1 _ _ _ _ _ w hr1 hc1 h).mono ?_
 rintro e w' ⟨v2, v3, rfl, h2, h3, hb⟩
 obtain ⟨A2, c2, rfl, l2, g2⟩ := Kd.S_reads h2
 obtain ⟨A3, c3, rfl, l3, g3⟩ := Kd.R_reads h3
 exact ⟨A2, c2, A3, c3, rfl, k42_mk w' x l2 g2 l3 g3, hb⟩
end Aw
namespace Aw
theorem rS1 (w : World) (x : ByteArray) : Reps (Kd.string.K w) 1 [x] [.string x] := Reps.one (show Kd.K Kd.string w x [.string x] from rfl) (Reps.none _ _)
theorem sC1 (w : World) (x : ByteArray) : Kd.string.C (w.alloc (.cells #[.string x] 9)) (some ⟨w.heap.size, 0, none⟩) 1 [x] := C_lit Kd.string w 9 (rS1 w x) (by simp) rfl
theorem sC2 (w : World) (x y : ByteArray) : Kd.string.C (w.alloc (.cells #[.string x, .string y] 9)) (some ⟨w.heap.size, 0, none⟩) 2 [x, y] :=
 C_lit Kd.string w 9 (Reps.one (show Kd.K Kd.string w x [.string x] from rfl) (rS1 w y)) (by simp) rfl
theorem sC3 (w : World) (x y z : ByteArray) : Kd.string.C (w.alloc (.cells #[.string x, .string y, .string z] 9)) (some ⟨w.heap.size, 0, none⟩) 3 [x, y, z] :=
 C_lit Kd.string w 9 (Reps.one (show Kd.K Kd.string w x [.string x] from rfl) (Reps.one (show Kd.K Kd.string w y [.string y] from rfl) (rS1 w z))) (by simp) rfl
theorem mod0_ex (s : ByteArray) (w : World) : Calls Try.prog 23 #[.string s, .slice none 0 0] w fun e w' => ∃ A2 c2 A3 c3, e = .returned (.agg #[.string s, .bool false, .slice A2 0 c2, .slice A3 0 c3, .slice none 0 0]) /\
 k42.K w' (mm s []) [.string s, .bool false, .slice A2 0 c2, .slice A3 0 c3, .slice none 0 0] /\ Below w.heap.size w w' :=
 mod_ex s [] (mm s []) (by rfl) none 0 w (Kd.C_nil _ _) (Nat.le_refl _)
theorem mod1_ex (s x : ByteArray) (w : World) : Calls Try.prog 23 #[.string s, .slice (some ⟨w.heap.size, 0, none⟩) 1 1] (w.alloc (.cells #[.string x] 9)) fun e w' => ∃ A2 c2 A3 c3, e = .returned (.agg #[.string s, .bool false, .slice A2 0 c2, .slice A3 1 c3, .slice none 0 0]) /\
 k42.K w' (mm s [x]) [.string s, .bool false, .slice A2 0 c2, .slice A3 1 c3, .slice none 0 0] /\ Below w.heap.size w w' :=
 (mod_ex s [x] (mm s [x]) (by kernel_rfl) _ 1 _ (sC1 w x) (Nat.le_refl _)).mono fun e w' ⟨A2, c2, A3, c3, h1, h2, h3⟩ => ⟨A2, c2, A3, c3, h1, h2, below_step (below_alloc (Below.refl _ _) _) h3⟩
theorem mod2_ex (s x y : ByteArray) (w : World) : Calls Try.prog 23 #[.string s, .slice (some ⟨w.heap.size, 0, none⟩) 2 2] (w.alloc (.cells #[.string x, .string y] 9)) fun e w' => ∃ A2 c2 A3 c3, e = .returned (.agg #[.string s, .bool false, .slice A2 0 c2, .slice A3 2 c3, .slice none 0 0]) /\
 k42.K w' (mm s [x, y]) [.string s, .bool false, .slice A2 0 c2, .slice A3 2 c3, .slice none 0 0] /\ Below w.heap.size w w' :=
 (mod_ex s [x, y] (mm s [x, y]) (by kernel_rfl) _ 2 _ (sC2 w x y) (Nat.le_refl _)).mono fun e w' ⟨A2, c2, A3, c3, h1, h2, h3⟩ => ⟨A2, c2, A3, c3, h1, h2, below_step (below_alloc (Below.refl _ _) _) h3⟩
def L1 : List S42 := [mm (bz [65]) [bz [66]], mm (bz [66]) [], mm (bz [67]) []]
def L2 : List S42 := [mm (bz [65]) [bz [88]]]
def L3 : List S42 := [mm (bz [65]) [bz [66]], mm (bz [66]) [bz [65], bz [67]], mm (bz [67]) [bz [66]]]
theorem key1 : L1.map key = [([65], [[66]]), ([66], []), ([67], [])] := by kernel_rfl
theorem key2 : L2.map key = [([65], [[88]])] := by kernel_rfl
theorem key3 : L3.map key = [([65], [[66]]), ([66], [[65], [67]]), ([67], [[66]])] := by kernel_rfl
theorem ord_ex (A : Option Addr) (c : Nat) (w : World) (h : k42.C w A 3 L1) (hc : 3 <= c) : Calls Try.prog 10 #[.slice A 3 c] w fun e w' => ∃ A2 c2, e = .returned (.tuple #[.slice A2 3 c2, .agg #[.int .i64 0, .string ⟨#[]⟩, .int .i64 0, .int .i64 0]]) /\
 Kd.string.C w' A2 3 [(⟨#[66]⟩ : ByteArray), (⟨#[65]⟩ : ByteArray), (⟨#[67]⟩ : ByteArray)] /\ 3 <= c2 /\ Below w.heap.size w w' := by
 refine (m_Order.calls 40 A c L1 _ _ _ _ _ w h hc (order_x key1)).mono ?_
 rintro e w' ⟨v, rfl, hr, hb⟩
 obtain ⟨A2, c2, rfl, l2, g2⟩ := Kd.R_reads hr
 exact ⟨A2, c2, rfl, g2, l2, hb⟩
theorem lev_ex (A : Option Addr) (c : Nat) (w : World) (h : k42.C w A 3 L1) (hc : 3 <= c) : Calls Try.prog 12 #[.slice A 3 c] w fun e w' => ∃ A2 c2, e = .returned (.tuple #[.slice A2 2 c2, .agg #[.int .i64 0, .string ⟨#[]⟩, .int .i64 0, .int .i64 0]]) /\
 (Kd.slice 9 Kd.string).C w' A2 2 [[(⟨#[66]⟩ : ByteArray), (⟨#[67]⟩ : ByteArray)], [(⟨#[65]⟩ : ByteArray)]] /\ 2 <= c2 /\ Below w.heap.size w w' := by
 refine (m_Levels.calls 40 A c L1 _ _ _ _ _ w h hc (levels_x key1)).mono ?_
 rintro e w' ⟨v, rfl, hr, hb⟩
 obtain ⟨A2, c2, rfl, l2, g2⟩ := Kd.S_reads hr
 exact ⟨A2, c2, rfl, g2, l2, hb⟩
theorem needs_ex (A : Option Addr) (c : Nat) (w : World) (h : k42.C w A 3 L1) (hc : 3 <= c) : Calls Try.prog 15 #[.slice A 3 c, .string ⟨#[65]⟩] w fun e w' => ∃ A2 c2, e = .returned (.tuple #[.slice A2 1 c2, .agg #[.int .i64 0, .string ⟨#[]⟩, .int .i64 0, .int .i64 0]]) /\
 Kd.string.C w' A2 1 [(⟨#[66]⟩ : ByteArray)] /\ 1 <= c2 /\ Below w.heap.size w w' := by
 refine (m_Needs.calls 40 A c L1 _ _ _ _ _ _ w h hc (needs_x key1)).mono ?_
 rintro e w' ⟨v, rfl, hr, hb⟩
 obtain ⟨A2, c2, rfl, l2, g2⟩ := Kd.R_reads hr
 exact ⟨A2, c2, rfl, g2, l2, hb⟩
theorem users_ex (A : Option Addr) (c : Nat) (w : World) (h : k42.C w A 3 L1) (hc : 3 <= c) : Calls Try.prog 17 #[.slice A 3 c, .string ⟨#[66]⟩] w fun e w' => ∃ A2 c2, e = .returned (.tuple #[.slice A2 1 c2, .agg #[.int .i64 0, .string ⟨#[]⟩, .int .i64 0, .int .i64 0]]) /\
 Kd.string.C w' A2 1 [(⟨#[65]⟩ : ByteArray)] /\ 1 <= c2 /\ Below w.heap.size w w' := by
 refine (m_Users.calls A c L1 _ _ _ _ _ _ w h hc (users_x key1)).mono ?_
 rintro e w' ⟨v, rfl, hr, hb⟩
 obtain ⟨A2, c2, rfl, l2, g2⟩ := Kd.R_reads hr
 exact ⟨A2, c2, rfl, g2, l2, hb⟩
theorem miss_ex (A : Option Addr) (c : Nat) (w : World) (h : k42.C w A 1 L2) (hc : 1 <= c) : Calls Try.prog 10 #[.slice A 1 c] w fun e w' => ∃ A2 c2, e = .returned (.tuple #[.slice A2 0 c2, .agg #[.int .i64 16, .string ⟨#[88]⟩, .int .i64 0, .int .i64 0]]) /\ Below w.heap.size w w' := by
 refine (m_Order.calls 40 A c L2 _ _ _ _ _ w h hc (order_miss key2)).mono ?_
 rintro e w' ⟨v, rfl, hr, hb⟩
 obtain ⟨A2, c2, rfl, l2, g2⟩ := Kd.R_reads hr
 exact ⟨A2, c2, rfl, hb⟩
theorem cyc_ex (A : Option Addr) (c : Nat) (w : World) (h : k42.C w A 3 L3) (hc : 3 <= c) : Calls Try.prog 19 #[.slice A 3 c] w fun e w' => ∃ A2 c2, e = .returned (.slice A2 2 c2) /\ Kd.string.C w' A2 2 [(⟨#[65]⟩ : ByteArray), (⟨#[66]⟩ : ByteArray)] /\ 2 <= c2 /\ Below w.heap.size w w' := by
 refine (m_Cycle.calls 100 A c L3 _ w h hc (cycle_x key3)).mono ?_
 rintro e w' ⟨v, rfl, hr, hb⟩
 obtain ⟨A2, c2, rfl, l2, g2⟩ := Kd.R_reads hr
 exact ⟨A2, c2, rfl, g2, l2, hb⟩
theorem same_ex (l : List ByteArray) (hl : w_same.f 40 l l = some true) (A1 A2 : Option Addr) (c1 c2 n : Nat) (w : World) (hn : l.length = n) (h1 : Kd.string.C w A1 n l) (h2 : Kd.string.C w A2 n l) (hc1 : n <= c1) (hc2 : n <= c2) :
 Calls Try.prog 14 #[.slice A1 n c1, .slice A2 n c2] w fun e w' => e = .returned (.bool true) /\ Drawn0 w w' := by
 subst hn
 exact w_same.calls 40 A1 c1 l A2 c2 l true w h1 hc1 h2 hc2 hl
theorem same1 : w_same.f 40 [bz [66], bz [65], bz [67]] [bz [66], bz [65], bz [67]] = some true := by kernel_rfl
theorem same2 : w_same.f 40 [bz [66], bz [67]] [bz [66], bz [67]] = some true := by kernel_rfl
theorem same3 : w_same.f 40 [bz [66]] [bz [66]] = some true := by kernel_rfl
theorem same4 : w_same.f 40 [bz [65]] [bz [65]] = some true := by kernel_rfl
theorem same5 : w_same.f 40 [bz [65], bz [66]] [bz [65], bz [66]] = some true := by kernel_rfl
theorem box_x (W : World) (cs : Array Value) : ∃ W1 g, W.alloc (.cells cs 28) = W1 /\ W.heap.size = g /\ W1.heap[g]? = some (.cells cs 28 (0, 0)) /\ Below W.heap.size W W1 := ⟨_, _, rfl, rfl, blk_new W _, below_alloc (Below.refl _ _) _⟩
theorem L1_lit {w : World} {A0 A1 A2 A3 A4 A5 : Option Addr} {c0 c1 c2 c3 c4 c5 : Nat} (h0 : k42.K w (mm ⟨#[65]⟩ [⟨#[66]⟩]) [.string ⟨#[65]⟩, .bool false, .slice A0 0 c0, .slice A1 1 c1, .slice none 0 0])
 (h1 : k42.K w (mm ⟨#[66]⟩ []) [.string ⟨#[66]⟩, .bool false, .slice A2 0 c2, .slice A3 0 c3, .slice none 0 0]) (h2 : k42.K w (mm ⟨#[67]⟩ []) [.string ⟨#[67]⟩, .bool false, .slice A4 0 c4, .slice A5 0 c5, .slice none 0 0]) :
 k42.C (w.alloc (.cells #[.string ⟨#[65]⟩, .bool false, .slice A0 0 c0, .slice A1 1 c1, .slice none 0 0, .string ⟨#[66]⟩, .bool false, .slice A2 0 c2, .slice A3 0 c3, .slice none 0 0, .string ⟨#[67]⟩, .bool false, .slice A4 0 c4, .slice A5 0 c5, .slice none 0 0] 42)) (some ⟨w.heap.size, 0, none⟩) 3 L1 :=
 C_lit k42 w 42 (Reps.c5 h0 (Reps.c5 h1 (Reps.c5 h2 (Reps.none _ _)))) (by decide) rfl
theorem L2_lit {w : World} {A0 A1 : Option Addr} {c0 c1 : Nat} (h0 : k42.K w (mm ⟨#[65]⟩ [⟨#[88]⟩]) [.string ⟨#[65]⟩, .bool false, .slice A0 0 c0, .slice A1 1 c1, .slice none 0 0]) :
 k42.C (w.alloc (.cells #[.string ⟨#[65]⟩, .bool false, .slice A0 0 c0, .slice A1 1 c1, .slice none 0 0] 42)) (some ⟨w.heap.size, 0, none⟩) 1 L2 :=
 C_lit k42 w 42 (Reps.c5 h0 (Reps.none _ _)) (by decide) rfl
theorem L3_lit {w : World} {A0 A1 A2 A3 A4 A5 : Option Addr} {c0 c1 c2 c3 c4 c5 : Nat} (h0 : k42.K w (mm ⟨#[65]⟩ [⟨#[66]⟩]) [.string ⟨#[65]⟩, .bool false, .slice A0 0 c0, .slice A1 1 c1, .slice none 0 0])
 (h1 : k42.K w (mm ⟨#[66]⟩ [⟨#[65]⟩, ⟨#[67]⟩]) [.string ⟨#[66]⟩, .bool false, .slice A2 0 c2, .slice A3 2 c3, .slice none 0 0]) (h2 : k42.K w (mm ⟨#[67]⟩ [⟨#[66]⟩]) [.string ⟨#[67]⟩, .bool false, .slice A4 0 c4, .slice A5 1 c5, .slice none 0 0]) :
 k42.C (w.alloc (.cells #[.string ⟨#[65]⟩, .bool false, .slice A0 0 c0, .slice A1 1 c1, .slice none 0 0, .string ⟨#[66]⟩, .bool false, .slice A2 0 c2, .slice A3 2 c3, .slice none 0 0, .string ⟨#[67]⟩, .bool false, .slice A4 0 c4, .slice A5 1 c5, .slice none 0 0] 42)) (some ⟨w.heap.size, 0, none⟩) 3 L3 :=
 C_lit k42 w 42 (Reps.c5 h0 (Reps.c5 h1 (Reps.c5 h2 (Reps.none _ _)))) (by decide) rfl
theorem stab_cell (a : Addr) (v : Value) : Stab fun w => w.cell? a = some v := fun w w1 hb h => pw_cell_below hb h
theorem box4 {w : World} {g : Nat} {a b c d : Value} {t : TypeId} (h : w.heap[g]? = some (.cells #[a, b, c, d] t (0, 0))) : w.cell? ⟨g, 0, none⟩ = some a /\ w.cell? ⟨g, 1, none⟩ = some b /\ w.cell? ⟨g, 2, none⟩ = some c /\ w.cell? ⟨g, 3, none⟩ = some d :=
 ⟨blk_cell h 0, blk_cell h 1, blk_cell h 2, blk_cell h 3⟩
theorem lev0 {w : World} {A : Option Addr} (h : (Kd.slice 9 Kd.string).C w A 2 [[(⟨#[66]⟩ : ByteArray), (⟨#[67]⟩ : ByteArray)], [(⟨#[65]⟩ : ByteArray)]]) : ∃ ad X f, A = some ad /\ w.cell? ad = some (.slice X 2 f) /\ 2 <= f /\ Kd.string.C w X 2 [(⟨#[66]⟩ : ByteArray), (⟨#[67]⟩ : ByteArray)] := by
 obtain ⟨ad, X, f, h1, h2, h3, h4⟩ := at_L2 h 0 (by decide) (by decide)
 exact ⟨ad, X, f, h1, by have h5 : w.cell? (ad.add 0) = some (.slice X 2 f) := h2; simpa [Addr.add] using h5, h3, h4⟩
theorem sm1 (A1 A2 : Option Addr) (c1 c2 : Nat) (w : World) (h1 : Kd.string.C w A1 3 [(⟨#[66]⟩ : ByteArray), (⟨#[65]⟩ : ByteArray), (⟨#[67]⟩ : ByteArray)]) (h2 : Kd.string.C w A2 3 [(⟨#[66]⟩ : ByteArray), (⟨#[65]⟩ : ByteArray), (⟨#[67]⟩ : ByteArray)]) (hc1 : 3 <= c1) (hc2 : 3 <= c2) : Calls Try.prog 14 #[.slice A1 3 c1, .slice A2 3 c2] w fun e w' => e = .returned (.bool true) /\ Drawn0 w w' := same_ex _ same1 A1 A2 c1 c2 3 w rfl h1 h2 hc1 hc2
theorem sm2 (A1 A2 : Option Addr) (c1 c2 : Nat) (w : World) (h1 : Kd.string.C w A1 2 [(⟨#[66]⟩ : ByteArray), (⟨#[67]⟩ : ByteArray)]) (h2 : Kd.string.C w A2 2 [(⟨#[66]⟩ : ByteArray), (⟨#[67]⟩ : ByteArray)]) (hc1 : 2 <= c1) (hc2 : 2 <= c2) : Calls Try.prog 14 #[.slice A1 2 c1, .slice A2 2 c2] w fun e w' => e = .returned (.bool true) /\ Drawn0 w w' := same_ex _ same2 A1 A2 c1 c2 2 w rfl h1 h2 hc1 hc2
theorem sm3 (A1 A2 : Option Addr) (c1 c2 : Nat) (w : World) (h1 : Kd.string.C w A1 1 [(⟨#[66]⟩ : ByteArray)]) (h2 : Kd.string.C w A2 1 [(⟨#[66]⟩ : ByteArray)]) (hc1 : 1 <= c1) (hc2 : 1 <= c2) : Calls Try.prog 14 #[.slice A1 1 c1, .slice A2 1 c2] w fun e w' => e = .returned (.bool true) /\ Drawn0 w w' := same_ex _ same3 A1 A2 c1 c2 1 w rfl h1 h2 hc1 hc2
theorem sm4 (A1 A2 : Option Addr) (c1 c2 : Nat) (w : World) (h1 : Kd.string.C w A1 1 [(⟨#[65]⟩ : ByteArray)]) (h2 : Kd.string.C w A2 1 [(⟨#[65]⟩ : ByteArray)]) (hc1 : 1 <= c1) (hc2 : 1 <= c2) : Calls Try.prog 14 #[.slice A1 1 c1, .slice A2 1 c2] w fun e w' => e = .returned (.bool true) /\ Drawn0 w w' := same_ex _ same4 A1 A2 c1 c2 1 w rfl h1 h2 hc1 hc2
theorem sm5 (A1 A2 : Option Addr) (c1 c2 : Nat) (w : World) (h1 : Kd.string.C w A1 2 [(⟨#[65]⟩ : ByteArray), (⟨#[66]⟩ : ByteArray)]) (h2 : Kd.string.C w A2 2 [(⟨#[65]⟩ : ByteArray), (⟨#[66]⟩ : ByteArray)]) (hc1 : 2 <= c1) (hc2 : 2 <= c2) : Calls Try.prog 14 #[.slice A1 2 c1, .slice A2 2 c2] w fun e w' => e = .returned (.bool true) /\ Drawn0 w w' := same_ex _ same5 A1 A2 c1 c2 2 w rfl h1 h2 hc1 hc2
theorem awake_calls (w : World) : Calls Try.prog 9 #[] w fun e w' => e = .returned (.bool true) /\ Below w.heap.size w w' := by
 have hu28 := Try.underlying28
 have hu22 := Try.underlying22
 have hu25 := Try.underlying25
 have HS := Az.mk (stab_b w)
 have HP := Az.mk (Below.refl w.heap.size w)
 go_enter Try.func9, Try.ntmps9
 go_upto_region 2 with (first | (go_at_call 23; (with_reducible refine (mod1_ex ⟨#[65]⟩ ⟨#[66]⟩ _).mono ?_); rintro e w1 ⟨A0, c0, A1, c1, rfl, hk, hb⟩; have n0 := Az.mk (HS.1 _ _ hb HP.1); clear HP; have HP := n0; clear n0; have HK0 := Az.mk hk; clear hk hb) | (go_at_call 23; (with_reducible refine (mod0_ex ⟨#[66]⟩ _).mono ?_); rintro e w2 ⟨A2, c2, A3, c3, rfl, hk, hb⟩; have n0 := Az.mk (HS.1 _ _ hb HP.1); clear HP; have HP := n0; clear n0; have n0 := Az.mk (stab_k _ _ _ _ _ hb HK0.1); clear HK0; have HK0 := n0; clear n0; have HK1 := Az.mk hk; clear hk hb) | (go_at_call 23; (with_reducible refine (mod0_ex ⟨#[67]⟩ _).mono ?_); rintro e w3 ⟨A4, c4, A5, c5, rfl, hk, hb⟩; have n0 := Az.mk (HS.1 _ _ hb HP.1); clear HP; have HP := n0; clear n0; have n0 := Az.mk (stab_k _ _ _ _ _ hb HK0.1); clear HK0; have HK0 := n0; clear n0; have n0 := Az.mk (stab_k _ _ _ _ _ hb HK1.1); clear HK1; have HK1 := n0; clear n0; have HK2 := Az.mk hk; clear hk hb))
 have hl := L1_lit HK0.1 HK1.1 HK2.1
 have hb := below_alloc (Below.refl w3.heap.size w3) (.cells #[Value.string ⟨#[65]⟩, Value.bool false, Value.slice A0 0 c0, Value.slice A1 1 c1, Value.slice none 0 0, Value.string ⟨#[66]⟩, Value.bool false, Value.slice A2 0 c2, Value.slice A3 0 c3, Value.slice none 0 0, Value.string ⟨#[67]⟩, Value.bool false, Value.slice A4 0 c4, Value.slice A5 0 c5, Value.slice none 0 0] 42)
 generalize w3.alloc (.cells #[Value.string ⟨#[65]⟩, Value.bool false, Value.slice A0 0 c0, Value.slice A1 1 c1, Value.slice none 0 0, Value.string ⟨#[66]⟩, Value.bool false, Value.slice A2 0 c2, Value.slice A3 0 c3, Value.slice none 0 0, Value.string ⟨#[67]⟩, Value.bool false, Value.slice A4 0 c4, Value.slice A5 0 c5, Value.slice none 0 0] 42) = W4 at *
 have HP1 := Az.mk (And.intro (HS.1 _ _ hb HP.1) hl)
 have HS1 := Az.mk (stab_and HS.1 (stab_c k42 (some ⟨w3.heap.size, 0, none⟩) 3 L1))
 clear HP HS hb hl HK0 HK1 HK2
 generalize (some (⟨w3.heap.size, 0, none⟩ : Addr)) = AL at *
 go_upto_region 3 with (first | (go_at_call 10; (with_reducible refine (ord_ex _ _ _ HP1.1.2 (Nat.le_refl _)).mono ?_); rintro e w4 ⟨B2, d2, rfl, hc, hl2, hb⟩; have HX := Az.mk (HS1.1 _ _ hb HP1.1); clear HP1; have HP1 := HX; clear HX; have HC := Az.mk hc; clear hc; clear hb))
 obtain ⟨W12, g2, e1, e2, hx, hb⟩ := box_x w4 #[.int .i64 0, .string ⟨#[]⟩, .int .i64 0, .int .i64 0]
 rw [e1, e2]
 clear e1 e2
 have HQ := Az.mk (And.intro (HS1.1 _ _ hb HP1.1) (And.intro (Kd.C_below HC.1 hb) hx))
 have HT := Az.mk (stab_and HS1.1 (stab_and (stab_c Kd.string B2 3 [(⟨#[66]⟩ : ByteArray), (⟨#[65]⟩ : ByteArray), (⟨#[67]⟩ : ByteArray)]) (stab_x g2 #[.int .i64 0, .string ⟨#[]⟩, .int .i64 0, .int .i64 0] 28)))
 clear HP1 HS1 hb hx HC
 have HP2 := HQ
 have HS2 := HT
 clear HQ HT
 go_upto_region 4 with (first | (go_at_call 12; (with_reducible refine (lev_ex _ _ _ HP2.1.1.2 (Nat.le_refl _)).mono ?_); rintro e w5 ⟨B3, d3, rfl, hc, hl3, hb⟩; have HX := Az.mk (HS2.1 _ _ hb HP2.1); clear HP2; have HP2 := HX; clear HX; have HC := Az.mk hc; clear hc; clear hb))
 obtain ⟨W13, g3, e1, e2, hx, hb⟩ := box_x w5 #[.int .i64 0, .string ⟨#[]⟩, .int .i64 0, .int .i64 0]
 rw [e1, e2]
 clear e1 e2
 have HQ := Az.mk (And.intro (HS2.1 _ _ hb HP2.1) (And.intro (Kd.C_below HC.1 hb) hx))
 have HT := Az.mk (stab_and HS2.1 (stab_and (stab_c (Kd.slice 9 Kd.string) B3 2 [[(⟨#[66]⟩ : ByteArray), (⟨#[67]⟩ : ByteArray)], [(⟨#[65]⟩ : ByteArray)]]) (stab_x g3 #[.int .i64 0, .string ⟨#[]⟩, .int .i64 0, .int .i64 0] 28)))
 clear HP2 HS2 hb hx HC
 have HP3 := HQ
 have HS3 := HT
 clear HQ HT
 go_upto_region 5 with (first | (go_at_call 15; (with_reducible refine (needs_ex _ _ _ HP3.1.1.1.2 (Nat.le_refl _)).mono ?_); rintro e w6 ⟨B4, d4, rfl, hc, hl4, hb⟩; have HX := Az.mk (HS3.1 _ _ hb HP3.1); clear HP3; have HP3 := HX; clear HX; have HC := Az.mk hc; clear hc; clear hb))
 obtain ⟨W14, g4, e1, e2, hx, hb⟩ := box_x w6 #[.int .i64 0, .string ⟨#[]⟩, .int .i64 0, .int .i64 0]
 rw [e1, e2]
 clear e1 e2
 have HQ := Az.mk (And.intro (HS3.1 _ _ hb HP3.1) (And.intro (Kd.C_below HC.1 hb) hx))
 have HT := Az.mk (stab_and HS3.1 (stab_and (stab_c Kd.string B4 1 [(⟨#[66]⟩ : ByteArray)]) (stab_x g4 #[.int .i64 0, .string ⟨#[]⟩, .int .i64 0, .int .i64 0] 28)))
 clear HP3 HS3 hb hx HC
 have HP4 := HQ
 have HS4 := HT
 clear HQ HT
 go_upto_region 6 with (first | (go_at_call 17; (with_reducible refine (users_ex _ _ _ HP4.1.1.1.1.2 (Nat.le_refl _)).mono ?_); rintro e w7 ⟨B5, d5, rfl, hc, hl5, hb⟩; have HX := Az.mk (HS4.1 _ _ hb HP4.1); clear HP4; have HP4 := HX; clear HX; have HC := Az.mk hc; clear hc; clear hb))
 obtain ⟨W15, g5, e1, e2, hx, hb⟩ := box_x w7 #[.int .i64 0, .string ⟨#[]⟩, .int .i64 0, .int .i64 0]
 rw [e1, e2]
 clear e1 e2
 have HQ := Az.mk (And.intro (HS4.1 _ _ hb HP4.1) (And.intro (Kd.C_below HC.1 hb) hx))
 have HT := Az.mk (stab_and HS4.1 (stab_and (stab_c Kd.string B5 1 [(⟨#[65]⟩ : ByteArray)]) (stab_x g5 #[.int .i64 0, .string ⟨#[]⟩, .int .i64 0, .int .i64 0] 28)))
 clear HP4 HS4 hb hx HC
 have HP5 := HQ
 have HS5 := HT
 clear HQ HT
 go_upto_region 7 with (first | (go_at_call 23; (with_reducible refine (mod1_ex ⟨#[65]⟩ ⟨#[88]⟩ _).mono ?_); rintro e w8 ⟨E0, f0, E1, f1, rfl, hk, hb⟩; have n0 := Az.mk (HS5.1 _ _ hb HP5.1); clear HP5; have HP5 := n0; clear n0; have HK0 := Az.mk hk; clear hk hb) | (go_at_call 10; (with_reducible refine (miss_ex _ _ _ (L2_lit HK0.1) (Nat.le_refl _)).mono ?_); rintro e w9 ⟨E2, f2, rfl, hb⟩; have n0 := Az.mk (HS5.1 _ _ (below_step (below_alloc (Below.refl _ _) _) hb) HP5.1); clear HP5; have HP5 := n0; clear n0; clear hb HK0))
 obtain ⟨W16, g6, e1, e2, hx, hb⟩ := box_x w9 #[.int .i64 16, .string ⟨#[88]⟩, .int .i64 0, .int .i64 0]
 rw [e1, e2]
 clear e1 e2
 have HQ := Az.mk (And.intro (HS5.1 _ _ hb HP5.1) hx)
 have HT := Az.mk (stab_and HS5.1 (stab_x g6 #[.int .i64 16, .string ⟨#[88]⟩, .int .i64 0, .int .i64 0] 28))
 clear HP5 HS5 hb hx
 have HP6 := HQ
 have HS6 := HT
 clear HQ HT
 go_upto_region 8 with (first | (go_at_call 23; (with_reducible refine (mod1_ex ⟨#[65]⟩ ⟨#[66]⟩ _).mono ?_); rintro e wa ⟨G0, h0, G1, h1, rfl, hk, hb⟩; have n0 := Az.mk (HS6.1 _ _ hb HP6.1); clear HP6; have HP6 := n0; clear n0; have HK0 := Az.mk hk; clear hk hb) | (go_at_call 23; (with_reducible refine (mod2_ex ⟨#[66]⟩ ⟨#[65]⟩ ⟨#[67]⟩ _).mono ?_); rintro e wb ⟨G2, h2, G3, h3, rfl, hk, hb⟩; have n0 := Az.mk (HS6.1 _ _ hb HP6.1); clear HP6; have HP6 := n0; clear n0; have n0 := Az.mk (stab_k _ _ _ _ _ hb HK0.1); clear HK0; have HK0 := n0; clear n0; have HK1 := Az.mk hk; clear hk hb) | (go_at_call 23; (with_reducible refine (mod1_ex ⟨#[67]⟩ ⟨#[66]⟩ _).mono ?_); rintro e wc ⟨G4, h4, G5, h5, rfl, hk, hb⟩; have n0 := Az.mk (HS6.1 _ _ hb HP6.1); clear HP6; have HP6 := n0; clear n0; have n0 := Az.mk (stab_k _ _ _ _ _ hb HK0.1); clear HK0; have HK0 := n0; clear n0; have n0 := Az.mk (stab_k _ _ _ _ _ hb HK1.1); clear HK1; have HK1 := n0; clear n0; have HK2 := Az.mk hk; clear hk hb) | (go_at_call 19; (with_reducible refine (cyc_ex _ _ _ (L3_lit HK0.1 HK1.1 HK2.1) (Nat.le_refl _)).mono ?_); rintro e wd ⟨B7, d7, rfl, hc, hl7, hb⟩; have n0 := Az.mk (And.intro (HS6.1 _ _ (below_step (below_alloc (Below.refl _ _) _) hb) HP6.1) hc); clear HP6; have HP7 := n0; clear n0; have HS7 := Az.mk (stab_and HS6.1 (stab_c Kd.string B7 2 [(⟨#[65]⟩ : ByteArray), (⟨#[66]⟩ : ByteArray)])); clear hb hc HK0 HK1 HK2 HS6))
 go_upto_region 9 with fail
 obtain ⟨W18, g8, e1, e2, hx, hb⟩ := box_x wd #[.int .i64 0, .string ⟨#[]⟩, .int .i64 0, .int .i64 0]
 rw [e1, e2]
 clear e1 e2
 have HQ := Az.mk (And.intro (HS7.1 _ _ hb HP7.1) hx)
 have HT := Az.mk (stab_and HS7.1 (stab_x g8 #[.int .i64 0, .string ⟨#[]⟩, .int .i64 0, .int .i64 0] 28))
 clear HP7 HS7 hb hx
 have HP8 := HQ
 have HS8 := HT
 clear HQ HT
 obtain ⟨ad3, X3, f3, rfl, hx3, hfl, hX⟩ := lev0 HP8.1.1.1.1.1.1.2.1
 have HQ := Az.mk (And.intro HP8.1 (And.intro hx3 hX))
 have HT := Az.mk (stab_and HS8.1 (stab_and (stab_cell ad3 (.slice X3 2 f3)) (stab_c Kd.string X3 2 [(⟨#[66]⟩ : ByteArray), (⟨#[67]⟩ : ByteArray)])))
 clear HP8 HS8 hx3 hX
 have HP9 := HQ
 have HS9 := HT
 clear HQ HT
 obtain ⟨x20, x21, x22, x23⟩ := box4 HP9.1.1.1.1.1.1.1.1.2.2
 obtain ⟨x30, x31, x32, x33⟩ := box4 HP9.1.1.1.1.1.1.1.2.2
 obtain ⟨x40, x41, x42, x43⟩ := box4 HP9.1.1.1.1.1.1.2.2
 obtain ⟨x50, x51, x52, x53⟩ := box4 HP9.1.1.1.1.1.2.2
 obtain ⟨x80, x81, x82, x83⟩ := box4 HP9.1.1.2
 go_wp2_with (first | (go_at_call 14; (with_reducible refine (sm1 _ _ _ _ _ (Kd.C_alloc HP9.1.1.1.1.1.1.1.1.2.1 _) (sC3 _ _ _ _) hl2 (Nat.le_refl _)).mono ?_); rintro e w20 ⟨rfl, hd⟩; have n0 := Az.mk (HS9.1 _ _ (below_step (below_alloc (Below.refl _ _) _) hd.below) HP9.1); clear HP9; have HP9 := n0; clear n0 hd x20 x21 x22 x23 x30 x31 x32 x33 x40 x41 x42 x43 x50 x51 x52 x53 x80 x81 x82 x83; have yy := HP9.1.2.1) | (go_at_call 14; (with_reducible refine (sm2 _ _ _ _ _ (Kd.C_alloc HP9.1.2.2 _) (sC2 _ _ _) hfl (Nat.le_refl _)).mono ?_); rintro e w21 ⟨rfl, hd⟩; have n0 := Az.mk (HS9.1 _ _ (below_step (below_alloc (Below.refl _ _) _) hd.below) HP9.1); clear HP9; have HP9 := n0; clear n0 hd yy) | (go_at_call 14; (with_reducible refine (sm3 _ _ _ _ _ (Kd.C_alloc HP9.1.1.1.1.1.1.2.1 _) (sC1 _ _) hl4 (Nat.le_refl _)).mono ?_); rintro e w22 ⟨rfl, hd⟩; have n0 := Az.mk (HS9.1 _ _ (below_step (below_alloc (Below.refl _ _) _) hd.below) HP9.1); clear HP9; have HP9 := n0; clear n0 hd) | (go_at_call 14; (with_reducible refine (sm4 _ _ _ _ _ (Kd.C_alloc HP9.1.1.1.1.1.2.1 _) (sC1 _ _) hl5 (Nat.le_refl _)).mono ?_); rintro e w23 ⟨rfl, hd⟩; have n0 := Az.mk (HS9.1 _ _ (below_step (below_alloc (Below.refl _ _) _) hd.below) HP9.1); clear HP9; have HP9 := n0; clear n0 hd; obtain ⟨x60, x61, x62, x63⟩ := box4 HP9.1.1.1.1.2) | (go_at_call 14; (with_reducible refine (sm5 _ _ _ _ _ (Kd.C_alloc HP9.1.1.1.2 _) (sC2 _ _ _) hl7 (Nat.le_refl _)).mono ?_); rintro e w24 ⟨rfl, hd⟩; have n0 := Az.mk (HS9.1 _ _ (below_step (below_alloc (Below.refl _ _) _) hd.below) HP9.1); clear HP9; have HP9 := n0; clear n0 hd x60 x61 x62 x63))
 go_ret
 exact ⟨rfl, HP9.1.1.1.1.1.1.1.1.1.1⟩
end Aw
namespace P
noncomputable def w_awake.f : Option Bool := some true
theorem w_awake.calls (r : Bool) (w : World) (h : w_awake.f = some r) : Calls Try.prog 9 #[] w fun e w' => e = .returned (.bool r) /\ Below w.heap.size w w' := by
 obtain rfl := Option.some.inj h
 exact Aw.awake_calls w
end P
end Go.Proofs.Ytmadhaccjmakdaa
