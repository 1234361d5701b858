/- Part 5 of 6 of one proof: Names: what has, same, Insert, Names, Imports and consistent answer -/
import Derived.Test.YtmadhaccjmakdaaMNeeds1
import Derived.Test.YtmadhaccjmakdaaMNeeds2
import Derived.Test.YtmadhaccjmakdaaMNeeds3
import Derived.Test.YtmadhaccjmakdaaMNeeds4
set_option linter.unusedVariables false
set_option linter.unusedSimpArgs false
set_option maxHeartbeats 8000000
set_option maxRecDepth 100000
namespace Go.Proofs.Ytmadhaccjmakdaa.P
open Go.RowKit Go.Proofs.Yw.A Go.Proofs.Yw.A.Kd Go.Proofs.Yw.B Go.Proofs.Yw.C
attribute [local go_sem] str_gtr str_leq str_geq max2_int min2_int max_two min_two max_three min_three max_four min_four
noncomputable def m_Levels.l0 : Nat -> List (List ByteArray) -> List (List Int) -> Int -> Int -> List ByteArray -> List (List Int) -> Option ((List (List ByteArray)) × Int × ByteArray × Int × Int)
 | 0, _, _, _, _, _, _ => none
 | k + 1, x8, x26, x27, x28, x214000, x214001 => if x28 < x27 then (if 0 <= x28 then (if x28 < (x26.length : Int) then ((p_named.f k x214000 x214001 (rd_L11 x26 x28)).bind fun t220 => (if x8.length < 5864062014805 then (m_Levels.l0 k (x8 ++ [t220]) x26 x27 (wrap64 (x28 + 1)) x214000 x214001) else (none))) else (none)) else (none)) else (some (x8, 0, (⟨#[]⟩ : ByteArray), 0, 0))
noncomputable def m_Levels.f (k : Nat) (l0 : List (S42)) : Option ((List (List ByteArray)) × Int × ByteArray × Int × Int) := (m_acyclic.f k l0).bind fun bt203 => (if bt203.2.2.1 = 0 then ((g_Levels.f bt203.2.1).bind fun bt215 => (m_Levels.l0 k ([] : List (List ByteArray)) bt215.1 (bt215.1.length : Int) 0 bt203.1 bt203.2.1)) else (some (([] : List (List ByteArray)), bt203.2.2.1, bt203.2.2.2.1, bt203.2.2.2.2.1, bt203.2.2.2.2.2)))
theorem m_Levels.calls (k : Nat) (A0 : Option Addr) (c0 : Nat) (l0 : List (S42)) (r1 : List (List ByteArray)) (r2 : Int) (r3 : ByteArray) (r4 : Int) (r5 : Int) (w : World) (hr0 : Kd.C k42 w A0 l0.length l0) (hc0 : l0.length <= c0) (h : m_Levels.f k l0 = some (r1, r2, r3, r4, r5)) :
 Calls Try.prog 12 #[.slice A0 l0.length c0] w fun e w' => ∃ v0_ : Value, e = .returned (.tuple #[v0_, .agg #[.int .i64 r2, .string r3, .int .i64 r4, .int .i64 r5]]) /\ Kd.S (Kd.slice 9 Kd.string) 25 w' w.heap.size (fun _ => True) v0_ r1 /\ Below w.heap.size w w' := by
 have hu28 := Try.underlying28
 have hu51 := Try.underlying51
 have hu49 := Try.underlying49
 have HR0 := aM hr0
 have HC0 := aM hc0
 clear hr0 hc0
 have HB := aM (Below.refl w.heap.size w)
 have H : ((m_acyclic.f k l0).bind fun bt203 => (if bt203.2.2.1 = 0 then ((g_Levels.f bt203.2.1).bind fun bt215 => (m_Levels.l0 k ([] : List (List ByteArray)) bt215.1 (bt215.1.length : Int) 0 bt203.1 bt203.2.1)) else (some (([] : List (List ByteArray)), bt203.2.2.1, bt203.2.2.2.1, bt203.2.2.2.2.1, bt203.2.2.2.2.2)))) = some (r1, r2, r3, r4, r5) := h
 clear h
 replace H := Option.bind_eq_some_iff.mp H
 obtain ⟨⟨t203, t206, t209, t210, t211, t212⟩, A20, H⟩ := H
 replace H : (if t209 = 0 then ((g_Levels.f t206).bind fun bt215 => (m_Levels.l0 k ([] : List (List ByteArray)) bt215.1 (bt215.1.length : Int) 0 t203 t206)) else (some (([] : List (List ByteArray)), t209, t210, t211, t212))) = some (r1, r2, r3, r4, r5) := H
 have A2 := aM A20
 clear A20
 by_cases c3 : t209 = 0
 rotate_left
 · rw [if_neg c3] at H
   have c3b0 : (t209 == 0) = false := beq_eq_false_iff_ne.mpr c3
   have c3b1 : (t209 != 0) = true := bne_iff_ne.mpr c3
   simp only [Option.some.injEq, Prod.mk.injEq] at H
   obtain ⟨rfl, rfl, rfl, rfl, rfl⟩ := H
   go_enter Try.func12, Try.ntmps12
   try go_wp2_with (first | ((with_reducible refine gate_dst (N := 3) rfl ?_); refine be 3 rfl rfl #[.int .i64 0, .string (⟨#[]⟩ : ByteArray), .int .i64 0, .int .i64 0] 28 ?_; intro gb202 hg w32 hbox hb; have BK202 := aM hbox; have GE202 := gs hg HB; replace HB := bs HB hb; clear hb hbox hg) | ((with_reducible refine gate_callee (f := 24) rfl ?_); refine gL (some 13) rfl rfl Try.func24 (by kernel_rfl) rfl #[.slice A0 l0.length c0] rfl ?_; (with_reducible refine (m_acyclic.calls k _ _ l0 t203 t206 t209 t210 t211 t212 _ ?side1 ?side2 A2.1).mono ?_); (case side1 => exact cb HR0 HB); (case side2 => exact HC0.1); rintro e w33 ⟨v204, v207, rfl, ho0, ho1, hb⟩; refine ⟨_, rfl, ?_⟩; have HO205 := aM (R_lower ho0 (below_size (hh HB))); have HO208 := aM (S_lower ho1 (below_size (hh HB))); replace BK202 := kb BK202 hb; replace HB := bs HB hb; clear hb ho0 ho1) | ((with_reducible refine gate_dst (N := 4) rfl ?_); refine be 4 rfl rfl #[.slice none 0 0, .slice none 0 0] 51 ?_; intro gb213 hg w34 hbox hb; have BK213 := aM hbox; have GE213 := gs hg HB; have NB202_213 := nl hg BK202; have NB213_202 := nr hg BK202; replace HO205 := rb HO205 hb; replace HO208 := sb HO208 hb; replace BK202 := kb BK202 hb; replace HB := bs HB hb; clear hb hbox hg) | ((with_reducible refine gate_dst (N := 5) rfl ?_); refine be 5 rfl rfl #[.int .i64 0, .string (⟨#[]⟩ : ByteArray), .int .i64 0, .int .i64 0] 28 ?_; intro gb214 hg w35 hbox hb; have BK214 := aM hbox; have GE214 := gs hg HB; have NB202_214 := nl hg BK202; have NB214_202 := nr hg BK202; have NB213_214 := nl hg BK213; have NB214_213 := nr hg BK213; replace HO205 := rb HO205 hb; replace HO208 := sb HO208 hb; replace BK202 := kb BK202 hb; replace BK213 := kb BK213 hb; replace HB := bs HB hb; clear hb hbox hg; obtain ⟨Ao36, co36, eo36⟩ := R_slice HO205.1; subst eo36; have hnb37 := NB213_202.1; have hnc37 := NB202_213.1; have hnb38 := NB213_214.1; have hnc38 := NB214_213.1; obtain ⟨hcz39_0, hcz39_1⟩ := cz2 BK213; obtain ⟨hfz39_0, hfz39_1⟩ := fz2 BK213; obtain ⟨Ao40, co40, eo40⟩ := S_slice HO208.1; subst eo40; have hnb41 := NB214_202.1; have hnc41 := NB202_214.1; obtain ⟨hcz42_0, hcz42_1, hcz42_2, hcz42_3⟩ := cz BK214; obtain ⟨hfz42_0, hfz42_1, hfz42_2, hfz42_3⟩ := fz BK214))
   have n0_ : Az (Kd.R Kd.string 9 ((((((w35.setCell ⟨gb213, 0, none⟩ (.slice Ao36 t203.length co36)).setCell ⟨gb213, 1, none⟩ (.slice Ao40 t206.length co40)).setCell ⟨gb214, 0, none⟩ (.int .i64 t209)).setCell ⟨gb214, 1, none⟩ (.string t210)).setCell ⟨gb214, 2, none⟩ (.int .i64 t211)).setCell ⟨gb214, 3, none⟩ (.int .i64 t212)) w.heap.size (fun _ => True) (.slice Ao36 t203.length co36) t203) := ⟨rz (R_mono (R_far (p := ⟨gb214, 3, none⟩) (R_far (p := ⟨gb214, 2, none⟩) (R_far (p := ⟨gb214, 1, none⟩) (R_far (p := ⟨gb214, 0, none⟩) (R_far (p := ⟨gb213, 1, none⟩) (R_far (p := ⟨gb213, 0, none⟩) (R_types (R_types HO205.1 BK213.1 (by decide)) BK214.1 (by decide)) (fun _ hk => hk.1.2) (.slice Ao36 t203.length co36)) (fun _ hk => hk.1.2) (.slice Ao40 t206.length co40)) (fun _ hk => hk.2) (.int .i64 t209)) (fun _ hk => hk.2) (.string t210)) (fun _ hk => hk.2) (.int .i64 t211)) (fun _ hk => hk.2) (.int .i64 t212)) (fun _ hk => trivial))⟩
   have n1_ : Az (Kd.S (Kd.slice 3 (Kd.int .i64)) 55 ((((((w35.setCell ⟨gb213, 0, none⟩ (.slice Ao36 t203.length co36)).setCell ⟨gb213, 1, none⟩ (.slice Ao40 t206.length co40)).setCell ⟨gb214, 0, none⟩ (.int .i64 t209)).setCell ⟨gb214, 1, none⟩ (.string t210)).setCell ⟨gb214, 2, none⟩ (.int .i64 t211)).setCell ⟨gb214, 3, none⟩ (.int .i64 t212)) w.heap.size (fun _ => True) (.slice Ao40 t206.length co40) t206) := ⟨sz (S_mono (S_far (p := ⟨gb214, 3, none⟩) (S_far (p := ⟨gb214, 2, none⟩) (S_far (p := ⟨gb214, 1, none⟩) (S_far (p := ⟨gb214, 0, none⟩) (S_far (p := ⟨gb213, 1, none⟩) (S_far (p := ⟨gb213, 0, none⟩) (S_types (S_types HO208.1 BK213.1 (by decide)) BK214.1 (by decide)) (fun _ hk => hk.1.2) (.slice Ao36 t203.length co36)) (fun _ hk => hk.1.2) (.slice Ao40 t206.length co40)) (fun _ hk => hk.2) (.int .i64 t209)) (fun _ hk => hk.2) (.string t210)) (fun _ hk => hk.2) (.int .i64 t211)) (fun _ hk => hk.2) (.int .i64 t212)) (fun _ hk => trivial))⟩
   have n2_ : Az (((((((w35.setCell ⟨gb213, 0, none⟩ (.slice Ao36 t203.length co36)).setCell ⟨gb213, 1, none⟩ (.slice Ao40 t206.length co40)).setCell ⟨gb214, 0, none⟩ (.int .i64 t209)).setCell ⟨gb214, 1, none⟩ (.string t210)).setCell ⟨gb214, 2, none⟩ (.int .i64 t211)).setCell ⟨gb214, 3, none⟩ (.int .i64 t212)).heap[gb202]? = some (.cells #[.int .i64 0, .string (⟨#[]⟩ : ByteArray), .int .i64 0, .int .i64 0] 28 (0, 0))) := ⟨kf BK202⟩
   have n3_ : Az (((((((w35.setCell ⟨gb213, 0, none⟩ (.slice Ao36 t203.length co36)).setCell ⟨gb213, 1, none⟩ (.slice Ao40 t206.length co40)).setCell ⟨gb214, 0, none⟩ (.int .i64 t209)).setCell ⟨gb214, 1, none⟩ (.string t210)).setCell ⟨gb214, 2, none⟩ (.int .i64 t211)).setCell ⟨gb214, 3, none⟩ (.int .i64 t212)).heap[gb213]? = some (.cells #[.slice Ao36 t203.length co36, .slice Ao40 t206.length co40] 51 (0, 0))) := ⟨kf BK213⟩
   have n4_ : Az (((((((w35.setCell ⟨gb213, 0, none⟩ (.slice Ao36 t203.length co36)).setCell ⟨gb213, 1, none⟩ (.slice Ao40 t206.length co40)).setCell ⟨gb214, 0, none⟩ (.int .i64 t209)).setCell ⟨gb214, 1, none⟩ (.string t210)).setCell ⟨gb214, 2, none⟩ (.int .i64 t211)).setCell ⟨gb214, 3, none⟩ (.int .i64 t212)).heap[gb214]? = some (.cells #[.int .i64 t209, .string t210, .int .i64 t211, .int .i64 t212] 28 (0, 0))) := ⟨kf BK214⟩
   have n5_ : Az (Below w.heap.size w ((((((w35.setCell ⟨gb213, 0, none⟩ (.slice Ao36 t203.length co36)).setCell ⟨gb213, 1, none⟩ (.slice Ao40 t206.length co40)).setCell ⟨gb214, 0, none⟩ (.int .i64 t209)).setCell ⟨gb214, 1, none⟩ (.string t210)).setCell ⟨gb214, 2, none⟩ (.int .i64 t211)).setCell ⟨gb214, 3, none⟩ (.int .i64 t212))) := ⟨hh HB⟩
   (clear HO205)
   (clear HO208)
   (clear BK202)
   (clear BK213)
   (clear BK214)
   (clear HB)
   generalize ((((((w35.setCell ⟨gb213, 0, none⟩ (.slice Ao36 t203.length co36)).setCell ⟨gb213, 1, none⟩ (.slice Ao40 t206.length co40)).setCell ⟨gb214, 0, none⟩ (.int .i64 t209)).setCell ⟨gb214, 1, none⟩ (.string t210)).setCell ⟨gb214, 2, none⟩ (.int .i64 t211)).setCell ⟨gb214, 3, none⟩ (.int .i64 t212)) = w43 at n0_ n1_ n2_ n3_ n4_ n5_ ⊢
   have HO205 := n0_
   have HO208 := n1_
   have BK202 := n2_
   have BK213 := n3_
   have BK214 := n4_
   have HB := n5_
   clear n0_ n1_ n2_ n3_ n4_ n5_
   replace HO205 := aM (R_drew HO205.1)
   replace HO208 := aM (S_drew HO208.1)
   replace BK202 := aM (blk_drew BK202.1)
   replace BK213 := aM (blk_drew BK213.1)
   replace BK214 := aM (blk_drew BK214.1)
   replace HB := aM (below_drew1 HB.1)
   refine start_ (n := 3) (S := fun w' => w'.cell? ⟨gb214, 0, none⟩ = some (.int .i64 t209) /\ w'.cell? ⟨gb214, 1, none⟩ = some (.string t210) /\ w'.cell? ⟨gb214, 2, none⟩ = some (.int .i64 t211) /\ w'.cell? ⟨gb214, 3, none⟩ = some (.int .i64 t212)) (ds := []) #[F_, F_, F_] (by kernel_rfl) rfl rfl ⟨(blk_cell BK214.1 0).trans rfl, (blk_cell BK214.1 1).trans rfl, (blk_cell BK214.1 2).trans rfl, (blk_cell BK214.1 3).trans rfl⟩ (fun hHeld => ?_)
   generalize w43.drew = w44 at HO205 HO208 BK202 BK213 BK214 HB hHeld ⊢
   refine pure_ (i := 1) (N := some 2) (v := ?_) (a' := ?_) #[F_, T_, F_] rfl rfl (by kernel_rfl) (fun _ _ _ h => h) (Or.inl ⟨by rfl, ?_⟩) ?_ ?_
   rotate_left
   · intro w'
     go_simp
     with_reducible rfl
   rotate_left
   · simp only [Act.put, sA, sZ, sS, i64_w, i32_w]
     rfl
   refine take_ (i := 0) (N := some 19) (v := ?_) (a' := ?_) #[T_, T_, F_] rfl rfl (by kernel_rfl) (fun _ _ _ h => h) (Or.inl ⟨by rfl, ?_⟩) hHeld ?_ ?_
   rotate_left
   · rintro w' ⟨s0, s1, s2, s3⟩
     go_simp
     with_reducible rfl
   rotate_left
   · simp only [Act.put, sA, sZ, sS, i64_w, i32_w]
     rfl
   refine one_ (i := 2) (N := none) #[T_, T_, T_] rfl rfl (by kernel_rfl) (by decide) (fun K hK => ?_)
   have hs45 : w44.cell? ⟨gb202, 0, none⟩ = some (.int .i64 0) := (blk_cell BK202.1 0).trans rfl
   have hfs45 := blk_frozen BK202.1 0
   have hns45_1 := NB213_202.1
   have hns45_2 := NB214_202.1
   have hms45_1 := NB202_213.1
   have hms45_2 := NB202_214.1
   have hs46 : w44.cell? ⟨gb202, 1, none⟩ = some (.string (⟨#[]⟩ : ByteArray)) := (blk_cell BK202.1 1).trans rfl
   have hfs46 := blk_frozen BK202.1 1
   have hns46_1 := NB213_202.1
   have hns46_2 := NB214_202.1
   have hms46_1 := NB202_213.1
   have hms46_2 := NB202_214.1
   have hs47 : w44.cell? ⟨gb202, 2, none⟩ = some (.int .i64 0) := (blk_cell BK202.1 2).trans rfl
   have hfs47 := blk_frozen BK202.1 2
   have hns47_1 := NB213_202.1
   have hns47_2 := NB214_202.1
   have hms47_1 := NB202_213.1
   have hms47_2 := NB202_214.1
   have hs48 : w44.cell? ⟨gb202, 3, none⟩ = some (.int .i64 0) := (blk_cell BK202.1 3).trans rfl
   have hfs48 := blk_frozen BK202.1 3
   have hns48_1 := NB213_202.1
   have hns48_2 := NB214_202.1
   have hms48_1 := NB202_213.1
   have hms48_2 := NB202_214.1
   refine skip_ (w1 := ?_) (by rfl) rfl ?_ ?_
   rotate_left
   · go_simp
     rfl
   refine hK.out _ _ ⟨((cell_far (p := ⟨gb202, _, none⟩) NB214_202.1 _).trans (((cell_far (p := ⟨gb202, _, none⟩) NB214_202.1 _).trans (((cell_far (p := ⟨gb202, _, none⟩) NB214_202.1 _).trans (((cell_far (p := ⟨gb202, _, none⟩) NB214_202.1 _).trans (hHeld.1)))))))), ((cell_far (p := ⟨gb202, _, none⟩) NB214_202.1 _).trans (((cell_far (p := ⟨gb202, _, none⟩) NB214_202.1 _).trans (((cell_far (p := ⟨gb202, _, none⟩) NB214_202.1 _).trans (((cell_far (p := ⟨gb202, _, none⟩) NB214_202.1 _).trans (hHeld.2.1)))))))), ((cell_far (p := ⟨gb202, _, none⟩) NB214_202.1 _).trans (((cell_far (p := ⟨gb202, _, none⟩) NB214_202.1 _).trans (((cell_far (p := ⟨gb202, _, none⟩) NB214_202.1 _).trans (((cell_far (p := ⟨gb202, _, none⟩) NB214_202.1 _).trans (hHeld.2.2.1)))))))), ((cell_far (p := ⟨gb202, _, none⟩) NB214_202.1 _).trans (((cell_far (p := ⟨gb202, _, none⟩) NB214_202.1 _).trans (((cell_far (p := ⟨gb202, _, none⟩) NB214_202.1 _).trans (((cell_far (p := ⟨gb202, _, none⟩) NB214_202.1 _).trans (hHeld.2.2.2))))))))⟩ (fun hHeld => ?_)
   clear hK K
   refine done_ (by kernel_rfl) ?_
   try go_wp2
   refine bodyPost_ret (results_tc rfl _ _ gb202 28 #[.int .i64 t209, .string t210, .int .i64 t211, .int .i64 t212] (0, 0) _ rfl (kf BK202) Try.underlying28 rfl (by kernel_rfl)) rfl ?_
   exact ⟨_, by first | rfl | (simp [errW_none, errW_some] <;> rfl) | (simp [*, errW_none, errW_some] <;> rfl), by first | exact S_nil _ _ _ _ _ | exact N_nil _ _ _ _ _ | exact V_nil _ _ _ _ _ | exact Q_nil _ _ _ _ _ | exact R_nil _ _ _ _ _, hh HB⟩
 rw [if_pos c3] at H
 have c3b0 : (t209 == 0) = true := beq_iff_eq.mpr c3
 have c3b1 : (t209 != 0) = false := bne_eq_false_iff_eq.mpr c3
 clear c3
 replace H := Option.bind_eq_some_iff.mp H
 obtain ⟨⟨t215, t218⟩, A40, H⟩ := H
 replace H : (m_Levels.l0 k ([] : List (List ByteArray)) t215 (t215.length : Int) 0 t203 t206) = some (r1, r2, r3, r4, r5) := H
 have A4 := aM A40
 clear A40
 have H' := aM H
 clear H
 go_enter Try.func12, Try.ntmps12
 go_wp2_with (first | ((with_reducible refine gate_dst (N := 3) rfl ?_); refine be 3 rfl rfl #[.int .i64 0, .string (⟨#[]⟩ : ByteArray), .int .i64 0, .int .i64 0] 28 ?_; intro gb202 hg w5 hbox hb; have BK202 := aM hbox; have GE202 := gs hg HB; replace HB := bs HB hb; clear hb hbox hg) | ((with_reducible refine gate_callee (f := 24) rfl ?_); refine gL (some 13) rfl rfl Try.func24 (by kernel_rfl) rfl #[.slice A0 l0.length c0] rfl ?_; (with_reducible refine (m_acyclic.calls k _ _ l0 t203 t206 t209 t210 t211 t212 _ ?side1 ?side2 A2.1).mono ?_); (case side1 => exact cb HR0 HB); (case side2 => exact HC0.1); rintro e w6 ⟨v204, v207, rfl, ho0, ho1, hb⟩; refine ⟨_, rfl, ?_⟩; have HO205 := aM (R_lower ho0 (below_size (hh HB))); have HO208 := aM (S_lower ho1 (below_size (hh HB))); replace BK202 := kb BK202 hb; replace HB := bs HB hb; clear hb ho0 ho1) | ((with_reducible refine gate_dst (N := 4) rfl ?_); refine be 4 rfl rfl #[.slice none 0 0, .slice none 0 0] 51 ?_; intro gb213 hg w7 hbox hb; have BK213 := aM hbox; have GE213 := gs hg HB; have NB202_213 := nl hg BK202; have NB213_202 := nr hg BK202; replace HO205 := rb HO205 hb; replace HO208 := sb HO208 hb; replace BK202 := kb BK202 hb; replace HB := bs HB hb; clear hb hbox hg) | ((with_reducible refine gate_dst (N := 5) rfl ?_); refine be 5 rfl rfl #[.int .i64 0, .string (⟨#[]⟩ : ByteArray), .int .i64 0, .int .i64 0] 28 ?_; intro gb214 hg w8 hbox hb; have BK214 := aM hbox; have GE214 := gs hg HB; have NB202_214 := nl hg BK202; have NB214_202 := nr hg BK202; have NB213_214 := nl hg BK213; have NB214_213 := nr hg BK213; replace HO205 := rb HO205 hb; replace HO208 := sb HO208 hb; replace BK202 := kb BK202 hb; replace BK213 := kb BK213 hb; replace HB := bs HB hb; clear hb hbox hg; obtain ⟨Ao9, co9, eo9⟩ := R_slice HO205.1; subst eo9; have hnb10 := NB213_202.1; have hnc10 := NB202_213.1; have hnb11 := NB213_214.1; have hnc11 := NB214_213.1; obtain ⟨hcz12_0, hcz12_1⟩ := cz2 BK213; obtain ⟨hfz12_0, hfz12_1⟩ := fz2 BK213; obtain ⟨Ao13, co13, eo13⟩ := S_slice HO208.1; subst eo13; have hnb14 := NB214_202.1; have hnc14 := NB202_214.1; obtain ⟨hcz15_0, hcz15_1, hcz15_2, hcz15_3⟩ := cz BK214; obtain ⟨hfz15_0, hfz15_1, hfz15_2, hfz15_3⟩ := fz BK214) | ((with_reducible refine gate_callee (f := 30) rfl ?_); refine gL (some 23) rfl rfl Try.func30 (by kernel_rfl) rfl #[.agg #[.slice Ao13 t206.length co13]] rfl ?_; (with_reducible refine (g_Levels.calls _ _ t206 t215 t218 _ ?side1 ?side2 A4.1).mono ?_); (case side1 => exact c3 (sf24 HO208 BK213 (by decide) BK214 (by decide))); (case side2 => exact (S_reads' HO208.1).2.1); rintro e w16 ⟨v216, rfl, ho0, hb⟩; refine ⟨_, rfl, ?_⟩; have HO217 := aM (S_lower (S_new' ho0 (S_lt (sz (sf24 HO208 BK213 (by decide) BK214 (by decide))))) (below_size (hh HB))); replace HO205 := aM (R_below (rz (rf24 HO205 BK213 (by decide) BK214 (by decide))) hb); replace HO208 := aM (S_elder' (sz (sf24 HO208 BK213 (by decide) BK214 (by decide))) (S_base ho0) hb); replace BK202 := kg (o' := .cells #[.int .i64 0, .string (⟨#[]⟩ : ByteArray), .int .i64 0, .int .i64 0] 28 (0, 0)) BK202 hb; replace BK213 := kg (o' := .cells #[.slice Ao9 t203.length co9, .slice Ao13 t206.length co13] 51 (0, 0)) BK213 hb; replace BK214 := kg (o' := .cells #[.int .i64 t209, .string t210, .int .i64 t211, .int .i64 t212] 28 (0, 0)) BK214 hb; replace HB := bs HB hb; clear hb ho0; obtain ⟨Ao17, co17, eo17⟩ := S_slice HO217.1; subst eo17))
 go_loopg [8, 28] k (fun kq v8 v28 w' => ∃ (x8_1 : List (List ByteArray)) (x28_1 : Int), v28 = .int .i64 x28_1 /\ Az (m_Levels.l0 kq x8_1 t215 (t215.length : Int) x28_1 t203 t206 = some (r1, r2, r3, r4, r5)) /\ Az (kq <= k) /\ Az (Kd.S (Kd.slice 9 Kd.string) 25 w' w.heap.size (fun k_ => some k_ ≠ ((.slice Ao9 t203.length co9) : Value).ownBlock) v8 x8_1) /\ Az (Kd.S (Kd.slice 3 (Kd.int .i64)) 55 w' w.heap.size (fun k_ => some k_ ≠ ((.slice Ao13 t206.length co13) : Value).ownBlock) (.slice Ao17 t215.length co17) t215) /\ Az (Kd.R Kd.string 9 w' w.heap.size (fun _ => True) (.slice Ao9 t203.length co9) t203) /\ Az (Kd.S (Kd.slice 3 (Kd.int .i64)) 55 w' w.heap.size (fun k_ => some k_ ≠ ((.slice Ao17 t215.length co17) : Value).ownBlock) (.slice Ao13 t206.length co13) t206) /\ Az (w'.heap[gb202]? = some (.cells #[.int .i64 0, .string (⟨#[]⟩ : ByteArray), .int .i64 0, .int .i64 0] 28 (0, 0))) /\ Az (w'.heap[gb213]? = some (.cells #[(.slice Ao9 t203.length co9), (.slice Ao13 t206.length co13)] 51 (0, 0))) /\ Az (w'.heap[gb214]? = some (.cells #[.int .i64 t209, .string t210, .int .i64 t211, .int .i64 t212] 28 (0, 0))) /\ Az (Below w.heap.size w w'))
 case atStart => exact ⟨(([] : List (List ByteArray))), (0), rr, H', ⟨Nat.le_refl _⟩, ⟨by first | exact S_nil _ _ _ _ _ | exact N_nil _ _ _ _ _ | exact V_nil _ _ _ _ _ | exact Q_nil _ _ _ _ _ | exact R_nil _ _ _ _ _⟩, ⟨sz (S_mono HO217.1 (fun _ hk => hk.2))⟩, ⟨rk HO205⟩, ⟨sz (S_mono HO208.1 (fun _ hk => hk.2))⟩, ⟨kk BK202⟩, ⟨kk BK213⟩, ⟨kk BK214⟩, ⟨hh HB⟩⟩
 case round =>
  clear H'
  clear c3b0 c3b1 hcz12_0 hcz12_1 hcz15_0 hcz15_1 hcz15_2 hcz15_3 hfz12_0 hfz12_1 hfz15_0 hfz15_1 hfz15_2 hfz15_3
  obtain ⟨x8_1, x28_1, rfl, HA, HK1, HO_8, HO_26, HO_214000, HO_214001, BK202, BK213, BK214, HB⟩ := hrel
  cases gk with
  | zero => exact absurd HA.1 (by simp [m_Levels.l0])
  | succ k1 =>
   have H := HA.1
   clear HA
   simp only [m_Levels.l0] at H
   by_cases c18 : x28_1 < (t215.length : Int)
   rotate_left
   · rw [if_neg c18] at H
     have c18b0 : decide (x28_1 < (t215.length : Int)) = false := decide_eq_false c18
     clear c18
     simp only [Option.some.injEq, Prod.mk.injEq] at H
     obtain ⟨rfl, rfl, rfl, rfl, rfl⟩ := H
     have hnb29 := NB202_213.1
     have hnc29 := NB213_202.1
     have hnb30 := NB202_214.1
     have hnc30 := NB214_202.1
     obtain ⟨hcz31_0, hcz31_1, hcz31_2, hcz31_3⟩ := cz BK202
     obtain ⟨hfz31_0, hfz31_1, hfz31_2, hfz31_3⟩ := fz BK202
     go_wp2
     refine bodyPost_ret (results_tc rfl _ _ gb202 28 #[.int .i64 0, .string (⟨#[]⟩ : ByteArray), .int .i64 0, .int .i64 0] (0, 0) _ rfl (kf BK202) Try.underlying28 rfl (by kernel_rfl)) rfl ?_
     exact ⟨_, by first | rfl | (simp [errW_none, errW_some] <;> rfl) | (simp [*, errW_none, errW_some] <;> rfl), sz (S_mono (S_far (p := ⟨gb202, 3, none⟩) (S_far (p := ⟨gb202, 2, none⟩) (S_far (p := ⟨gb202, 1, none⟩) (S_far (p := ⟨gb202, 0, none⟩) (S_types HO_8.1 BK202.1 (by decide)) (fun _ hk => hk.2) (.int .i64 0)) (fun _ hk => hk.2) (.string (⟨#[]⟩ : ByteArray))) (fun _ hk => hk.2) (.int .i64 0)) (fun _ hk => hk.2) (.int .i64 0)) (fun _ hk => trivial)), hh HB⟩
   rw [if_pos c18] at H
   have c18b0 : decide (x28_1 < (t215.length : Int)) = true := decide_eq_true c18
   clear c18
   by_cases c19 : 0 <= x28_1
   rotate_left
   · rw [if_neg c19] at H
     exact absurd H (by simp)
   rw [if_pos c19] at H
   have c19b0 : decide (0 <= x28_1) = true := decide_eq_true c19
   clear c19
   by_cases c20 : x28_1 < (t215.length : Int)
   rotate_left
   · rw [if_neg c20] at H
     exact absurd H (by simp)
   rw [if_pos c20] at H
   have c20b0 : decide (x28_1 < (t215.length : Int)) = true := decide_eq_true c20
   clear c20
   replace H := Option.bind_eq_some_iff.mp H
   obtain ⟨t220, A210, H⟩ := H
   replace H : (if x8_1.length < 5864062014805 then (m_Levels.l0 k1 (x8_1 ++ [t220]) t215 (t215.length : Int) (wrap64 (x28_1 + 1)) t203 t206) else (none)) = some (r1, r2, r3, r4, r5) := H
   have A21 := aM A210
   clear A210
   by_cases c22 : x8_1.length < 5864062014805
   rotate_left
   · rw [if_neg c22] at H
     exact absurd H (by simp)
   rw [if_pos c22] at H
   have LMc22 := aM c22
   clear c22
   obtain ⟨y223, hy223⟩ : ∃ y_ : List (List ByteArray), y_ = (x8_1 ++ [t220]) := ⟨_, rfl⟩
   replace H : (m_Levels.l0 k1 y223 t215 (t215.length : Int) (wrap64 (x28_1 + 1)) t203 t206) = some (r1, r2, r3, r4, r5) := by first | (rw [hy223]; with_reducible exact H) | (have H2_ := (Option.bind_some _ _).symm.trans H; rw [hy223]; with_reducible exact H2_) | (have H2_ := (Option.bind_some _ _).symm.trans H; with_reducible exact H2_) | with_reducible exact H | (rw [hy223]; exact H) | exact H
   have Ny223 := aM hy223
   clear hy223
   have H' := aM H
   clear H
   have p219 : 0 <= (x28_1 : Int) := dt
   have q219 : x28_1 < (t215.length : Int) := dt
   obtain ⟨ad219, A219_0, c219_0, e219, hx219_0, hl219_0, hi219_0⟩ := at_L11 (S_reads' HO_26.1).2.2 x28_1 p219 q219
   cases e219
   obtain ⟨ce219, hce219, hMe219, hcc219⟩ := S_get HO_26.1 [] x28_1 p219 (by first | exact q219 | exact dt | (have e_ := (S_reads' HO_26.1).1; omega))
   obtain ⟨ve219_0, rfl, ge219_0⟩ := hMe219
   have hv219_0 := hcc219 0 _ rfl
   rw [Nat.add_zero, show ((Kd.slice 3 (Kd.int .i64))).sz = 1 from rfl, Nat.mul_one] at hv219_0
   replace hv219_0 := Option.some.inj (hv219_0.symm.trans hx219_0)
   rw [hv219_0] at ge219_0
   have HL219_0 := aM (show Kd.R (Kd.int .i64) 3 _ _ _ _ (rd_L11 t215 x28_1) from ge219_0)
   clear hv219_0 ge219_0
   clear hcc219 hce219
   have HR219_0 := aM hi219_0
   have HC219_0 := aM hl219_0
   clear hi219_0 hl219_0
   replace p219 := eq_true p219
   replace q219 := eq_true q219
   have hnb23 := NB213_202.1
   have hnc23 := NB202_213.1
   have hnb24 := NB213_214.1
   have hnc24 := NB214_213.1
   obtain ⟨hcz25_0, hcz25_1⟩ := cz2 BK213
   obtain ⟨hfz25_0, hfz25_1⟩ := fz2 BK213
   go_wp2_with (first | ((with_reducible refine gate_callee (f := 26) rfl ?_); refine gL (some 35) rfl rfl Try.func26 (by kernel_rfl) rfl #[.agg #[.slice Ao9 t203.length co9, .slice Ao13 t206.length co13], .slice A219_0 (rd_L11 t215 x28_1).length c219_0] rfl ?_; (with_reducible refine (p_named.calls k1 _ _ t203 _ _ t206 _ _ (rd_L11 t215 x28_1) t220 _ ?side1 ?side2 ?side3 ?side4 ?side5 ?side6 A21.1).mono ?_); (case side1 => exact cr HO_214000); (case side2 => exact (R_reads' HO_214000.1).2.1); (case side3 => repeat (first | exact (S_reads' HO_214001.1).2.2 | (with_reducible refine C_alloc ?_ _) | (with_reducible refine C_drewN ?_ _) | (with_reducible refine C_drew ?_))); (case side4 => exact (S_reads' HO_214001.1).2.1); (case side5 => repeat (first | exact (by repeat (first | (with_reducible exact HR219_0.1) | (with_reducible refine C_alloc ?_ _) | (with_reducible refine C_drewN ?_ _) | (with_reducible refine C_drew ?_) | exact HR219_0.1)) | (with_reducible refine C_alloc ?_ _) | (with_reducible refine C_drewN ?_ _) | (with_reducible refine C_drew ?_))); (case side6 => exact HC219_0.1); rintro e w26 ⟨v221, rfl, ho0, hb⟩; refine ⟨_, rfl, ?_⟩; have HO222 := aM (R_lower (R_new' ho0 (R_lt (rk HO_214000))) (below_size (hh HB))); replace HO_8 := aM (S_elder' (sk HO_8) (R_base ho0) hb); replace HO_26 := sb HO_26 hb; replace HO_214000 := aM (R_elder' (rk HO_214000) (R_base ho0) hb); replace HO_214001 := sb HO_214001 hb; replace HL219_0 := rb HL219_0 hb; replace BK202 := kb BK202 hb; replace BK213 := kb BK213 hb; replace BK214 := kb BK214 hb; replace HR219_0 := aM (C_below (by repeat (first | (with_reducible exact HR219_0.1) | (with_reducible refine C_alloc ?_ _) | (with_reducible refine C_drewN ?_ _) | (with_reducible refine C_drew ?_) | exact HR219_0.1)) hb); replace HB := bs HB hb; clear hb ho0; obtain ⟨Ao28, co28, eo28⟩ := R_slice HO222.1; subst eo28) | ((with_reducible refine gate_builtin (b := .append) (xs := #[.tmp 32, .tmp 36]) rfl ?_); at_builtin; refine S_append (Kd.slice 9 Kd.string) (w0 := w) w.heap.size rfl (.tmp 32) (.tmp 36) 31 25 (.slice none 0 0) 24 rfl Try.underlying31 info25 rfl (by decide) (by omega) u8 x8_1 t220 [.slice Ao28 t220.length co28] (fun k_ => some k_ ≠ (.slice Ao9 t203.length co9 : Value).ownBlock) (fun k_ => some k_ = (.slice Ao28 t220.length co28 : Value).ownBlock) rfl rfl ?aP (fun k_ hk_ => ((R_mono (ok' := fun k_ => ((fun k_ => some k_ ≠ (.slice Ao9 t203.length co9 : Value).ownBlock)) k_ /\ some k_ ≠ (u8 : Value).ownBlock) (R_apart' (HO222.1) (S_typed HO_8.1) (by decide)) (fun k_ hk => ⟨hk.1.2, hk.2⟩))).1 k_ hk_.symm) ?aF ?aO ?aB ?aS ?aL ?_; (case aP => exact M_row (R_mono (R_tight rfl (R_mono (ok' := fun k_ => ((fun k_ => some k_ ≠ (.slice Ao9 t203.length co9 : Value).ownBlock)) k_ /\ some k_ ≠ (u8 : Value).ownBlock) (R_apart' (HO222.1) (S_typed HO_8.1) (by decide)) (fun k_ hk => ⟨hk.1.2, hk.2⟩))) (fun _ h_ => h_))); (case aB => exact (hh HB)); (case aF => exact (fun k_ hk => Kd.fresh' (R_lt (rk HO_214000)) k_ hk)); (case aO => exact (sz (S_mono HO_8.1 (fun k_ hk => ⟨hk.1, fun e_ => hk.2 e_⟩)))); (case aS => exact (below_size (hh HB))); (case aL => have := LMc22.1; omega); intro v224 w27 ho hb hg hat; rw [<- Ny223.1] at ho; have HO225 := aM (ho); replace HO_26 := aM (S_over' (sk HO_26) (S_typed (sk HO_8)) (by decide) hg); replace HO_214000 := aM (R_over' (rk HO_214000) (S_typed (sk HO_8)) (by decide) hg); replace HO_214001 := aM (S_over' (sk HO_214001) (S_typed (sk HO_8)) (by decide) hg); replace BK202 := aM (blk_grown (g := gb202) (o := .cells #[.int .i64 0, .string (⟨#[]⟩ : ByteArray), .int .i64 0, .int .i64 0] 28 (0, 0)) (kk BK202) hg (S_ne HO_8.1 BK202.1 (by decide))); replace BK213 := aM (blk_grown (g := gb213) (o := .cells #[.slice Ao9 t203.length co9, .slice Ao13 t206.length co13] 51 (0, 0)) (kk BK213) hg (S_ne HO_8.1 BK213.1 (by decide))); replace BK214 := aM (blk_grown (g := gb214) (o := .cells #[.int .i64 t209, .string t210, .int .i64 t211, .int .i64 t212] 28 (0, 0)) (kk BK214) hg (S_ne HO_8.1 BK214.1 (by decide))); replace HL219_0 := aM (R_over' (rk HL219_0) (S_typed (sk HO_8)) (by decide) hg); replace HB := aM (hb); clear HO_8 HO222; clear ho hb hg hat))
   go_roundg k1
   case measure => have := HK1.1; omega
   case rel => exact ⟨(y223), (wrap64 (x28_1 + 1)), rr, H', ⟨by have := HK1.1; omega⟩, ⟨sk HO225⟩, ⟨sk HO_26⟩, ⟨rz (R_mono HO_214000.1 (fun _ hk => trivial))⟩, ⟨sk HO_214001⟩, ⟨kk BK202⟩, ⟨kk BK213⟩, ⟨kk BK214⟩, ⟨hh HB⟩⟩
noncomputable def m_Cycle.f (k : Nat) (l0 : List (S42)) : Option (List ByteArray) := (m_made.f l0).bind fun bt276 => (if bt276.2.2.1 = 0 then ((p_cycle.f k bt276.1 bt276.2.1).bind fun t288 => ((p_named.f k bt276.1 bt276.2.1 t288).bind fun t291 => (some t291))) else (some ([] : List ByteArray)))
theorem m_Cycle.calls (k : Nat) (A0 : Option Addr) (c0 : Nat) (l0 : List (S42)) (r : List ByteArray) (w : World) (hr0 : Kd.C k42 w A0 l0.length l0) (hc0 : l0.length <= c0) (h : m_Cycle.f k l0 = some r) :
 Calls Try.prog 19 #[.slice A0 l0.length c0] w fun e w' => ∃ v0_ : Value, e = .returned (v0_) /\ Kd.R Kd.string 9 w' w.heap.size (fun _ => True) v0_ r /\ Below w.heap.size w w' := by
 have hu51 := Try.underlying51
 have hu28 := Try.underlying28
 have HR0 := aM hr0
 have HC0 := aM hc0
 clear hr0 hc0
 have HB := aM (Below.refl w.heap.size w)
 have H : ((m_made.f l0).bind fun bt276 => (if bt276.2.2.1 = 0 then ((p_cycle.f k bt276.1 bt276.2.1).bind fun t288 => ((p_named.f k bt276.1 bt276.2.1 t288).bind fun t291 => (some t291))) else (some ([] : List ByteArray)))) = some r := h
 clear h
 replace H := Option.bind_eq_some_iff.mp H
 obtain ⟨⟨t276, t279, t282, t283, t284, t285⟩, A20, H⟩ := H
 try dsimp only at H
 have A2 := aM A20
 clear A20
 by_cases c3 : t282 = 0
 rotate_left
 · rw [if_neg c3] at H
   have c3b0 : (t282 == 0) = false := beq_eq_false_iff_ne.mpr c3
   have c3b1 : (t282 != 0) = true := bne_iff_ne.mpr c3
   obtain rfl := Option.some.inj H
   go_enter Try.func19, Try.ntmps19
   go_wp2_with (first | ((with_reducible refine gate_callee (f := 34) rfl ?_); refine gL (some 7) rfl rfl Try.func34 (by kernel_rfl) rfl #[.slice A0 l0.length c0] rfl ?_; (with_reducible refine (m_made.calls _ _ l0 t276 t279 t282 t283 t284 t285 _ ?side1 ?side2 A2.1).mono ?_); (case side1 => exact ck HR0); (case side2 => exact HC0.1); rintro e w19 ⟨v277, v280, rfl, ho0, ho1, hb⟩; refine ⟨_, rfl, ?_⟩; have HO278 := aM (R_lower ho0 (below_size (hh HB))); have HO281 := aM (S_lower ho1 (below_size (hh HB))); replace HB := bs HB hb; clear hb ho0 ho1) | ((with_reducible refine gate_dst (N := 3) rfl ?_); refine be 3 rfl rfl #[.slice none 0 0, .slice none 0 0] 51 ?_; intro gb286 hg w20 hbox hb; have BK286 := aM hbox; have GE286 := gs hg HB; replace HO278 := rb HO278 hb; replace HO281 := sb HO281 hb; replace HB := bs HB hb; clear hb hbox hg) | ((with_reducible refine gate_dst (N := 4) rfl ?_); refine be 4 rfl rfl #[.int .i64 0, .string (⟨#[]⟩ : ByteArray), .int .i64 0, .int .i64 0] 28 ?_; intro gb287 hg w21 hbox hb; have BK287 := aM hbox; have GE287 := gs hg HB; have NB286_287 := nl hg BK286; have NB287_286 := nr hg BK286; replace HO278 := rb HO278 hb; replace HO281 := sb HO281 hb; replace BK286 := kb BK286 hb; replace HB := bs HB hb; clear hb hbox hg; obtain ⟨Ao22, co22, eo22⟩ := R_slice HO278.1; subst eo22; have hnb23 := NB286_287.1; have hnc23 := NB287_286.1; obtain ⟨hcz24_0, hcz24_1⟩ := cz2 BK286; obtain ⟨hfz24_0, hfz24_1⟩ := fz2 BK286; obtain ⟨Ao25, co25, eo25⟩ := S_slice HO281.1; subst eo25; obtain ⟨hcz26_0, hcz26_1, hcz26_2, hcz26_3⟩ := cz BK287; obtain ⟨hfz26_0, hfz26_1, hfz26_2, hfz26_3⟩ := fz BK287))
   go_ret
   exact ⟨_, by first | rfl | (simp [errW_none, errW_some] <;> rfl) | (simp [*, errW_none, errW_some] <;> rfl), by first | exact R_nil _ _ _ _ _ | exact N_nil _ _ _ _ _ | exact V_nil _ _ _ _ _ | exact Q_nil _ _ _ _ _ | exact S_nil _ _ _ _ _, hh HB⟩
 rw [if_pos c3] at H
 have c3b0 : (t282 == 0) = true := beq_iff_eq.mpr c3
 have c3b1 : (t282 != 0) = false := bne_eq_false_iff_eq.mpr c3
 clear c3
 replace H := Option.bind_eq_some_iff.mp H
 obtain ⟨t288, A40, H⟩ := H
 try dsimp only at H
 have A4 := aM A40
 clear A40
 replace H := Option.bind_eq_some_iff.mp H
 obtain ⟨t291, A50, H⟩ := H
 try dsimp only at H
 have A5 := aM A50
 clear A50
 obtain rfl := Option.some.inj H
 go_enter Try.func19, Try.ntmps19
 try go_wp2_with (first | ((with_reducible refine gate_callee (f := 34) rfl ?_); refine gL (some 7) rfl rfl Try.func34 (by kernel_rfl) rfl #[.slice A0 l0.length c0] rfl ?_; (with_reducible refine (m_made.calls _ _ l0 t276 t279 t282 t283 t284 t285 _ ?side1 ?side2 A2.1).mono ?_); (case side1 => exact ck HR0); (case side2 => exact HC0.1); rintro e w6 ⟨v277, v280, rfl, ho0, ho1, hb⟩; refine ⟨_, rfl, ?_⟩; have HO278 := aM (R_lower ho0 (below_size (hh HB))); have HO281 := aM (S_lower ho1 (below_size (hh HB))); replace HB := bs HB hb; clear hb ho0 ho1) | ((with_reducible refine gate_dst (N := 3) rfl ?_); refine be 3 rfl rfl #[.slice none 0 0, .slice none 0 0] 51 ?_; intro gb286 hg w7 hbox hb; have BK286 := aM hbox; have GE286 := gs hg HB; replace HO278 := rb HO278 hb; replace HO281 := sb HO281 hb; replace HB := bs HB hb; clear hb hbox hg) | ((with_reducible refine gate_dst (N := 4) rfl ?_); refine be 4 rfl rfl #[.int .i64 0, .string (⟨#[]⟩ : ByteArray), .int .i64 0, .int .i64 0] 28 ?_; intro gb287 hg w8 hbox hb; have BK287 := aM hbox; have GE287 := gs hg HB; have NB286_287 := nl hg BK286; have NB287_286 := nr hg BK286; replace HO278 := rb HO278 hb; replace HO281 := sb HO281 hb; replace BK286 := kb BK286 hb; replace HB := bs HB hb; clear hb hbox hg; obtain ⟨Ao9, co9, eo9⟩ := R_slice HO278.1; subst eo9; have hnb10 := NB286_287.1; have hnc10 := NB287_286.1; obtain ⟨hcz11_0, hcz11_1⟩ := cz2 BK286; obtain ⟨hfz11_0, hfz11_1⟩ := fz2 BK286; obtain ⟨Ao12, co12, eo12⟩ := S_slice HO281.1; subst eo12; obtain ⟨hcz13_0, hcz13_1, hcz13_2, hcz13_3⟩ := cz BK287; obtain ⟨hfz13_0, hfz13_1, hfz13_2, hfz13_3⟩ := fz BK287))
 have n0_ : Az (Kd.R Kd.string 9 ((((((w8.setCell ⟨gb286, 0, none⟩ (.slice Ao9 t276.length co9)).setCell ⟨gb286, 1, none⟩ (.slice Ao12 t279.length co12)).setCell ⟨gb287, 0, none⟩ (.int .i64 t282)).setCell ⟨gb287, 1, none⟩ (.string t283)).setCell ⟨gb287, 2, none⟩ (.int .i64 t284)).setCell ⟨gb287, 3, none⟩ (.int .i64 t285)) w.heap.size (fun _ => True) (.slice Ao9 t276.length co9) t276) := ⟨rz (R_mono (R_far (p := ⟨gb287, 3, none⟩) (R_far (p := ⟨gb287, 2, none⟩) (R_far (p := ⟨gb287, 1, none⟩) (R_far (p := ⟨gb287, 0, none⟩) (R_far (p := ⟨gb286, 1, none⟩) (R_far (p := ⟨gb286, 0, none⟩) (R_types (R_types HO278.1 BK286.1 (by decide)) BK287.1 (by decide)) (fun _ hk => hk.1.2) (.slice Ao9 t276.length co9)) (fun _ hk => hk.1.2) (.slice Ao12 t279.length co12)) (fun _ hk => hk.2) (.int .i64 t282)) (fun _ hk => hk.2) (.string t283)) (fun _ hk => hk.2) (.int .i64 t284)) (fun _ hk => hk.2) (.int .i64 t285)) (fun _ hk => trivial))⟩
 have n1_ : Az (Kd.S (Kd.slice 3 (Kd.int .i64)) 55 ((((((w8.setCell ⟨gb286, 0, none⟩ (.slice Ao9 t276.length co9)).setCell ⟨gb286, 1, none⟩ (.slice Ao12 t279.length co12)).setCell ⟨gb287, 0, none⟩ (.int .i64 t282)).setCell ⟨gb287, 1, none⟩ (.string t283)).setCell ⟨gb287, 2, none⟩ (.int .i64 t284)).setCell ⟨gb287, 3, none⟩ (.int .i64 t285)) w.heap.size (fun _ => True) (.slice Ao12 t279.length co12) t279) := ⟨sz (S_mono (S_far (p := ⟨gb287, 3, none⟩) (S_far (p := ⟨gb287, 2, none⟩) (S_far (p := ⟨gb287, 1, none⟩) (S_far (p := ⟨gb287, 0, none⟩) (S_far (p := ⟨gb286, 1, none⟩) (S_far (p := ⟨gb286, 0, none⟩) (S_types (S_types HO281.1 BK286.1 (by decide)) BK287.1 (by decide)) (fun _ hk => hk.1.2) (.slice Ao9 t276.length co9)) (fun _ hk => hk.1.2) (.slice Ao12 t279.length co12)) (fun _ hk => hk.2) (.int .i64 t282)) (fun _ hk => hk.2) (.string t283)) (fun _ hk => hk.2) (.int .i64 t284)) (fun _ hk => hk.2) (.int .i64 t285)) (fun _ hk => trivial))⟩
 have n2_ : Az (((((((w8.setCell ⟨gb286, 0, none⟩ (.slice Ao9 t276.length co9)).setCell ⟨gb286, 1, none⟩ (.slice Ao12 t279.length co12)).setCell ⟨gb287, 0, none⟩ (.int .i64 t282)).setCell ⟨gb287, 1, none⟩ (.string t283)).setCell ⟨gb287, 2, none⟩ (.int .i64 t284)).setCell ⟨gb287, 3, none⟩ (.int .i64 t285)).heap[gb286]? = some (.cells #[.slice Ao9 t276.length co9, .slice Ao12 t279.length co12] 51 (0, 0))) := ⟨kf BK286⟩
 have n3_ : Az (((((((w8.setCell ⟨gb286, 0, none⟩ (.slice Ao9 t276.length co9)).setCell ⟨gb286, 1, none⟩ (.slice Ao12 t279.length co12)).setCell ⟨gb287, 0, none⟩ (.int .i64 t282)).setCell ⟨gb287, 1, none⟩ (.string t283)).setCell ⟨gb287, 2, none⟩ (.int .i64 t284)).setCell ⟨gb287, 3, none⟩ (.int .i64 t285)).heap[gb287]? = some (.cells #[.int .i64 t282, .string t283, .int .i64 t284, .int .i64 t285] 28 (0, 0))) := ⟨kf BK287⟩
 have n4_ : Az (Below w.heap.size w ((((((w8.setCell ⟨gb286, 0, none⟩ (.slice Ao9 t276.length co9)).setCell ⟨gb286, 1, none⟩ (.slice Ao12 t279.length co12)).setCell ⟨gb287, 0, none⟩ (.int .i64 t282)).setCell ⟨gb287, 1, none⟩ (.string t283)).setCell ⟨gb287, 2, none⟩ (.int .i64 t284)).setCell ⟨gb287, 3, none⟩ (.int .i64 t285))) := ⟨hh HB⟩
 (clear HO278)
 (clear HO281)
 (clear BK286)
 (clear BK287)
 (clear HB)
 generalize ((((((w8.setCell ⟨gb286, 0, none⟩ (.slice Ao9 t276.length co9)).setCell ⟨gb286, 1, none⟩ (.slice Ao12 t279.length co12)).setCell ⟨gb287, 0, none⟩ (.int .i64 t282)).setCell ⟨gb287, 1, none⟩ (.string t283)).setCell ⟨gb287, 2, none⟩ (.int .i64 t284)).setCell ⟨gb287, 3, none⟩ (.int .i64 t285)) = w14 at n0_ n1_ n2_ n3_ n4_ ⊢
 have HO278 := n0_
 have HO281 := n1_
 have BK286 := n2_
 have BK287 := n3_
 have HB := n4_
 clear n0_ n1_ n2_ n3_ n4_
 replace HO278 := aM (R_drew HO278.1)
 replace HO281 := aM (S_drew HO281.1)
 replace BK286 := aM (blk_drew BK286.1)
 replace BK287 := aM (blk_drew BK287.1)
 replace HB := aM (below_drew1 HB.1)
 refine start_ (n := 5) (S := fun w' => w'.cell? ⟨gb286, 0, none⟩ = some (.slice Ao9 t276.length co9) /\ w'.cell? ⟨gb286, 1, none⟩ = some (.slice Ao12 t279.length co12)) (ds := []) #[F_, F_, F_, F_, F_] (by kernel_rfl) rfl rfl ⟨(blk_cell BK286.1 0).trans rfl, (blk_cell BK286.1 1).trans rfl⟩ (fun hHeld => ?_)
 generalize w14.drew = w15 at HO278 HO281 BK286 BK287 HB hHeld ⊢
 refine take_ (i := 0) (N := some 13) (v := ?_) (a' := ?_) #[T_, F_, F_, F_, F_] rfl rfl (by kernel_rfl) (fun _ _ _ h => h) (Or.inl ⟨by rfl, ?_⟩) hHeld ?_ ?_
 rotate_left
 · rintro w' ⟨s0, s1⟩
   go_simp
   with_reducible rfl
 rotate_left
 · simp only [Act.put, sA, sZ, sS, i64_w, i32_w]
   rfl
 refine take_ (i := 1) (N := some 14) (v := ?_) (a' := ?_) #[T_, T_, F_, F_, F_] rfl rfl (by kernel_rfl) (fun _ _ _ h => h) (Or.inl ⟨by rfl, ?_⟩) hHeld ?_ ?_
 rotate_left
 · rintro w' ⟨s0, s1⟩
   go_simp
   with_reducible rfl
 rotate_left
 · simp only [Act.put, sA, sZ, sS, i64_w, i32_w]
   rfl
 refine one_ (i := 2) (N := some 15) #[T_, T_, T_, F_, F_] rfl rfl (by kernel_rfl) (by decide) (fun K hK => ?_)
 refine goes_ Try.func35 (by kernel_rfl) rfl #[.agg #[.slice Ao9 t276.length co9, .slice Ao12 t279.length co12]] (by rfl) rfl rfl (by (try simp only [List.map_toArray, List.map_cons, List.map_nil]); first | done | rfl | (simp only [List.length_drop, List.length_take]; rfl)) ?_
 with_reducible refine (p_cycle.calls k _ _ t276 _ _ t279 t288 _ ?side1 ?side2 ?side3 ?side4 A4.1).mono ?_
 (case side1 => exact cr HO278)
 (case side2 => exact (R_reads' HO278.1).2.1)
 (case side3 => repeat (first | exact (S_reads' HO281.1).2.2 | (with_reducible refine C_alloc ?_ _) | (with_reducible refine C_drewN ?_ _) | (with_reducible refine C_drew ?_)))
 (case side4 => exact (S_reads' HO281.1).2.1)
 rintro e w16 ⟨v289, rfl, ho0, hb⟩
 refine ⟨_, rfl, ?_⟩
 have HO290 := aM (R_lower ho0 (below_size (hh HB)))
 replace HO278 := rb HO278 hb
 replace HO281 := aM (S_elder' (sk HO281) (R_base ho0) hb)
 replace BK286 := kb BK286 hb
 replace BK287 := kb BK287 hb
 replace HB := bs HB hb
 (clear hb)
 skip
 skip
 skip
 (clear ho0)
 obtain ⟨Ao17, co17, eo17⟩ := R_slice HO290.1
 (first | subst eo17 | (injection eo17 with f1_ f2_ f3_; have f4_ := f1_.symm; have f5_ := f3_.symm; clear f1_ f2_ f3_; subst f4_; subst f5_))
 refine hK.out _ _ ⟨(blk_cell BK286.1 0).trans rfl, (blk_cell BK286.1 1).trans rfl⟩ (fun hHeld => ?_)
 clear hK K
 refine norm_ (a' := ?_) ?_ ?_
 rotate_left
 · show Act.put _ (some 15) _ = _
   simp only [Act.put, sA, sZ, sS, i64_w, i32_w]
   rfl
 refine one_ (i := 3) (N := some 16) #[T_, T_, T_, T_, F_] rfl rfl (by kernel_rfl) (by decide) (fun K hK => ?_)
 refine goes_ Try.func26 (by kernel_rfl) rfl #[.agg #[.slice Ao9 t276.length co9, .slice Ao12 t279.length co12], .slice Ao17 t288.length co17] (by rfl) rfl rfl (by (try simp only [List.map_toArray, List.map_cons, List.map_nil]); first | done | rfl | (simp only [List.length_drop, List.length_take]; rfl)) ?_
 with_reducible refine (p_named.calls k _ _ t276 _ _ t279 _ _ t288 t291 _ ?side1 ?side2 ?side3 ?side4 ?side5 ?side6 A5.1).mono ?_
 (case side1 => exact cr HO278)
 (case side2 => exact (R_reads' HO278.1).2.1)
 (case side3 => repeat (first | exact (S_reads' HO281.1).2.2 | (with_reducible refine C_alloc ?_ _) | (with_reducible refine C_drewN ?_ _) | (with_reducible refine C_drew ?_)))
 (case side4 => exact (S_reads' HO281.1).2.1)
 (case side5 => exact cr HO290)
 (case side6 => exact (R_reads' HO290.1).2.1)
 rintro e w18 ⟨v292, rfl, ho0, hb⟩
 refine ⟨_, rfl, ?_⟩
 have HO293 := aM (R_lower (R_new' ho0 (R_lt (rk HO278))) (below_size (hh HB)))
 replace HO278 := aM (R_elder' (rk HO278) (R_base ho0) hb)
 replace HO281 := sb HO281 hb
 replace HO290 := rb HO290 hb
 replace BK286 := kb BK286 hb
 replace BK287 := kb BK287 hb
 replace HB := bs HB hb
 (clear hb)
 skip
 skip
 skip
 (clear ho0)
 refine hK.out _ _ ⟨(blk_cell BK286.1 0).trans rfl, (blk_cell BK286.1 1).trans rfl⟩ (fun hHeld => ?_)
 clear hK K
 refine norm_ (a' := ?_) ?_ ?_
 rotate_left
 · show Act.put _ (some 16) _ = _
   simp only [Act.put, sA, sZ, sS, i64_w, i32_w]
   rfl
 refine pure_ (i := 4) (N := some 2) (v := ?_) (a' := ?_) #[T_, T_, T_, T_, T_] rfl rfl (by kernel_rfl) (fun _ _ _ h => h) (Or.inl ⟨by rfl, ?_⟩) ?_ ?_
 rotate_left
 · intro w'
   go_simp
   with_reducible rfl
 rotate_left
 · simp only [Act.put, sA, sZ, sS, i64_w, i32_w]
   rfl
 refine done_ (by kernel_rfl) ?_
 try go_wp2
 go_ret
 exact ⟨_, by first | rfl | (simp [errW_none, errW_some] <;> rfl) | (simp [*, errW_none, errW_some] <;> rfl), rz (R_mono HO293.1 (fun _ hk => trivial)), hh HB⟩
end Go.Proofs.Ytmadhaccjmakdaa.P
namespace Go.Proofs.Ytmadhaccjmakdaa
open Go.Shelf Go.Lib Go.RowKit Go.Maps Go.Sort Go.Proofs.Yw.A Go.Proofs.Yw.B Go.Proofs.Yw.C
attribute [local go_sem] max2_int min2_int max_two min_two max_three min_three max_four min_four
open P Mg Od Tj
namespace Mg
def addAll (U : List (List Int)) (v : Int) : List Int -> List (List Int)
  | [] => U
  | x :: l => addAll (U.set x.toNat (U.getD x.toNat [] ++ [v])) v l
def backL (U : List (List Int)) (v : Int) : List (List Int) -> List (List Int)
  | [] => U
  | l :: ls => backL (addAll U v l) (v + 1) ls
def okB (n : Nat) (es : List (List Int)) : Prop := n <= 100 /\ es.length <= 100 /\ ∀ r ∈ es, r.length <= 1000 /\ ∀ x ∈ r, 0 <= x /\ x < (n : Int)
end Mg
namespace P
open Classical in
noncomputable def m_Users.f (l0 : List S42) (s : ByteArray) : Option (List ByteArray × Int × ByteArray × Int × Int) :=
  (Od.lim fun k => m_acyclic.f k l0).bind fun bt =>
    if bt.2.2.1 = 0 then (if okB bt.1.length bt.2.1 then m_reached.f bt.1 bt.2.1 (backL (List.replicate bt.1.length []) 0 bt.2.1) s else none)
    else some ([], bt.2.2.1, bt.2.2.2.1, bt.2.2.2.2.1, bt.2.2.2.2.2)
end P
namespace Mg
def fst4 (w : World) (g : Nat) (c : Int) (x : ByteArray) (a b : Int) : World := (((w.setCell ⟨g, 0, none⟩ (.int .i64 c)).setCell ⟨g, 1, none⟩ (.string x)).setCell ⟨g, 2, none⟩ (.int .i64 a)).setCell ⟨g, 3, none⟩ (.int .i64 b)
theorem info55m2 : (Try.prog.info? 55).map (fun i => (i.zero, i.size, i.bytes)) = some (some (.slice none 0 0), 1, 24) := by kernel_rfl
theorem fst4_f {w : World} {g : Nat} (h : w.heap[g]? = some (Obj.cells #[Value.int .i64 0, Value.string ⟨#[]⟩, Value.int .i64 0, Value.int .i64 0] 28 (0, 0))) (c : Int) (x : ByteArray) (a b : Int) : (fst4 w g c x a b).heap[g]? = some (Obj.cells #[.int .i64 c, .string x, .int .i64 a, .int .i64 b] 28 (0, 0)) :=
  blk_put (blk_put (blk_put (blk_put h 0 _ rfl) 1 _ rfl) 2 _ rfl) 3 _ rfl
theorem fst4_below {w W : World} {B g : Nat} (h : Below B w W) (hg : B <= g) (c : Int) (x : ByteArray) (a b : Int) : Below B w (fst4 W g c x a b) := by
  unfold fst4
  exact (((h.setCell hg _).setCell hg _).setCell hg _).setCell hg _
theorem fst4_heap (w : World) (g : Nat) (c : Int) (x : ByteArray) (a b : Int) (k : Nat) (h : k ≠ g) : (fst4 w g c x a b).heap[k]? = w.heap[k]? := by
  unfold fst4
  rw [Below.heap_setCell _ _ _ k h, Below.heap_setCell _ _ _ k h, Below.heap_setCell _ _ _ k h, Below.heap_setCell _ _ _ k h]
theorem Users_fault (k : Nat) (A0 : Option Addr) (c0 : Nat) (l0 : List S42) (s : ByteArray) (w : World) (hr0 : Kd.C k42 w A0 l0.length l0) (hc0 : l0.length <= c0)
    (t1 : List ByteArray) (t2 : List (List Int)) (t3 : Int) (t4 : ByteArray) (t5 t6 : Int) (hA : m_acyclic.f k l0 = some (t1, t2, t3, t4, t5, t6)) (h3 : t3 ≠ 0) :
    Calls Try.prog 17 #[.slice A0 l0.length c0, .string s] w fun e w' => ∃ v0_ : Value, e = .returned (.tuple #[v0_, .agg #[.int .i64 t3, .string t4, .int .i64 t5, .int .i64 t6]]) /\ Kd.R Kd.string 9 w' w.heap.size (fun _ => True) v0_ [] /\ Below w.heap.size w w' := by
  have hu51 := Try.underlying51
  have hu49 := Try.underlying49
  have hu28 := Try.underlying28
  have q1 : (t3 == 0) = false := beq_eq_false_iff_ne.mpr h3
  have q2 : (t3 != 0) = true := bne_iff_ne.mpr h3
  have HR0 := Az.mk hr0
  have HC0 := Az.mk hc0
  have HA := Az.mk hA
  clear hr0 hc0 hA h3
  go_enter Try.func17, Try.ntmps17
  go_upto_region 3 with (first | (go_at_call 24; (refine (m_acyclic.calls k _ _ l0 t1 t2 t3 t4 t5 t6 _ ?s1 HC0.1 HA.1).mono ?_); (case s1 => repeat (first | exact HR0.1 | (with_reducible refine Kd.C_alloc ?_ _) | (with_reducible refine Kd.C_drewN ?_ _) | (with_reducible refine Kd.C_drew ?_))); rintro e w5 ⟨v0, v1, rfl, hn, he, hb⟩; obtain ⟨An, cn, rfl⟩ := Kd.R_slice hn; obtain ⟨Ae, ce, rfl⟩ := Kd.S_slice he; have HN := Az.mk hn; have HE := Az.mk he; have HB := Az.mk hb; clear hn he hb))
  have b0 := (MapKept.heap_alloc w (Obj.cells #[Value.int .i64 0, Value.string ⟨#[]⟩, Value.int .i64 0, Value.int .i64 0] 28)).1
  have hb0 := below_alloc (Below.refl w.heap.size w) (Obj.cells #[Value.int .i64 0, Value.string ⟨#[]⟩, Value.int .i64 0, Value.int .i64 0] 28)
  have b5 := blk_below b0 HB.1
  have hb5 : Below w.heap.size w w5 := hb0.trans (HB.1.mono hb0.size)
  have f0 := blk_alloc (blk_alloc b5 (Obj.cells #[Value.slice An t1.length cn, Value.slice Ae t2.length ce] 51)) (Obj.cells #[Value.int .i64 t3, Value.string t4, Value.int .i64 t5, Value.int .i64 t6] 28)
  have f2 := (MapKept.heap_alloc (w5.alloc (Obj.cells #[Value.slice An t1.length cn, Value.slice Ae t2.length ce] 51)) (Obj.cells #[Value.int .i64 t3, Value.string t4, Value.int .i64 t5, Value.int .i64 t6] 28)).1
  have z1 : (w5.alloc (Obj.cells #[Value.slice An t1.length cn, Value.slice Ae t2.length ce] 51)).heap.size = w5.heap.size + 1 := by simp
  rw [z1] at f2
  have hb7 := below_alloc (below_alloc hb5 (Obj.cells #[Value.slice An t1.length cn, Value.slice Ae t2.length ce] 51)) (Obj.cells #[Value.int .i64 t3, Value.string t4, Value.int .i64 t5, Value.int .i64 t6] 28)
  generalize (w5.alloc (Obj.cells #[Value.slice An t1.length cn, Value.slice Ae t2.length ce] 51)).alloc (Obj.cells #[Value.int .i64 t3, Value.string t4, Value.int .i64 t5, Value.int .i64 t6] 28) = w7 at *
  have F0 := Az.mk f0
  have HB7 := Az.mk hb7
  have hlt := blk_lt b5
  have hne : w5.heap.size + 1 ≠ w.heap.size := by omega
  have x0 := blk_cell f2 0
  have x1 := blk_cell f2 1
  have x2 := blk_cell f2 2
  have x3 := blk_cell f2 3
  have y0 := blk_cell f0 0
  have y1 := blk_cell f0 1
  have y2 := blk_cell f0 2
  have y3 := blk_cell f0 3
  have e0 := blk_frozen f0 0
  have e1 := blk_frozen f0 1
  have e2 := blk_frozen f0 2
  have e3 := blk_frozen f0 3
  clear b0 hb0 b5 hb5 f0 f2 z1 hb7 hlt hne q1 q2
  go_region
  all_goals go_wp2
  all_goals
    refine bodyPost_ret (results_tc rfl _ _ w.heap.size 28 #[.int .i64 t3, .string t4, .int .i64 t5, .int .i64 t6] (0, 0) _ rfl (by first | exact fst4_f F0.1 t3 t4 t5 t6 | exact blk_drew (fst4_f F0.1 t3 t4 t5 t6) | exact fst4_f (blk_drew F0.1) t3 t4 t5 t6) Try.underlying28 rfl hi28) rfl ?_
    exact ⟨_, rfl, Kd.R_nil _ _ _ _ _, by first | exact fst4_below HB7.1 (Nat.le_refl _) t3 t4 t5 t6 | exact below_drew (fst4_below HB7.1 (Nat.le_refl _) t3 t4 t5 t6) | exact fst4_below (below_drew HB7.1) (Nat.le_refl _) t3 t4 t5 t6⟩
theorem Users_walk (k : Nat) (A0 : Option Addr) (c0 : Nat) (l0 : List S42) (s : ByteArray) (w : World) (hr0 : Kd.C k42 w A0 l0.length l0) (hc0 : l0.length <= c0)
    (t1 : List ByteArray) (t2 : List (List Int)) (t4 : ByteArray) (t5 t6 : Int) (hA : m_acyclic.f k l0 = some (t1, t2, 0, t4, t5, t6)) (hok : okB t1.length t2)
    (r1 : List ByteArray) (r2 : Int) (r3 : ByteArray) (r4 r5 : Int) (hRe : m_reached.f t1 t2 (backL (List.replicate t1.length []) 0 t2) s = some (r1, r2, r3, r4, r5)) :
    Calls Try.prog 17 #[.slice A0 l0.length c0, .string s] w fun e w' => ∃ v0_ : Value, e = .returned (.tuple #[v0_, .agg #[.int .i64 r2, .string r3, .int .i64 r4, .int .i64 r5]]) /\ Kd.R Kd.string 9 w' w.heap.size (fun _ => True) v0_ r1 /\ Below w.heap.size w w' := by
  have hu51 := Try.underlying51
  have hu49 := Try.underlying49
  have hu28 := Try.underlying28
  have HR0 := Az.mk hr0
  have HC0 := Az.mk hc0
  have HA := Az.mk hA
  have HOK := Az.mk hok
  have HRE := Az.mk hRe
  clear hr0 hc0 hA hok hRe
  go_enter Try.func17, Try.ntmps17
  go_upto_region 4 with (first | (go_at_call 24; (refine (m_acyclic.calls k _ _ l0 t1 t2 0 t4 t5 t6 _ ?s1 HC0.1 HA.1).mono ?_); (case s1 => repeat (first | exact HR0.1 | (with_reducible refine Kd.C_alloc ?_ _) | (with_reducible refine Kd.C_drewN ?_ _) | (with_reducible refine Kd.C_drew ?_))); rintro e w5 ⟨v0, v1, rfl, hn, he, hb⟩; obtain ⟨An, cn, rfl⟩ := Kd.R_slice hn; obtain ⟨Ae, ce, rfl⟩ := Kd.S_slice he; have HN := Az.mk hn; have HE := Az.mk he; have HB := Az.mk hb; clear hn he hb))
  have b0 := (MapKept.heap_alloc w (Obj.cells #[Value.int .i64 0, Value.string ⟨#[]⟩, Value.int .i64 0, Value.int .i64 0] 28)).1
  have hb0 := below_alloc (Below.refl w.heap.size w) (Obj.cells #[Value.int .i64 0, Value.string ⟨#[]⟩, Value.int .i64 0, Value.int .i64 0] 28)
  have hz0 : (w.alloc (Obj.cells #[Value.int .i64 0, Value.string ⟨#[]⟩, Value.int .i64 0, Value.int .i64 0] 28)).heap.size = w.heap.size + 1 := by simp
  have b5 := blk_below b0 HB.1
  have hb5 : Below w.heap.size w w5 := hb0.trans (HB.1.mono hb0.size)
  have hs5 := HB.1.size
  have f0 := blk_alloc (blk_alloc b5 (Obj.cells #[Value.slice An t1.length cn, Value.slice Ae t2.length ce] 51)) (Obj.cells #[Value.int .i64 0, Value.string t4, Value.int .i64 t5, Value.int .i64 t6] 28)
  have f1 := blk_alloc (MapKept.heap_alloc w5 (Obj.cells #[Value.slice An t1.length cn, Value.slice Ae t2.length ce] 51)).1 (Obj.cells #[Value.int .i64 0, Value.string t4, Value.int .i64 t5, Value.int .i64 t6] 28)
  have hb57 := below_alloc (below_alloc (Below.refl w5.heap.size w5) (Obj.cells #[Value.slice An t1.length cn, Value.slice Ae t2.length ce] 51)) (Obj.cells #[Value.int .i64 0, Value.string t4, Value.int .i64 t5, Value.int .i64 t6] 28)
  have hs7 : ((w5.alloc (Obj.cells #[Value.slice An t1.length cn, Value.slice Ae t2.length ce] 51)).alloc (Obj.cells #[Value.int .i64 0, Value.string t4, Value.int .i64 t5, Value.int .i64 t6] 28)).heap.size = w5.heap.size + 1 + 1 := by simp
  generalize (w5.alloc (Obj.cells #[Value.slice An t1.length cn, Value.slice Ae t2.length ce] 51)).alloc (Obj.cells #[Value.int .i64 0, Value.string t4, Value.int .i64 t5, Value.int .i64 t6] 28) = w7 at *
  have F0 := Az.mk f0
  have F1 := Az.mk f1
  have HB5 := Az.mk hb5
  have HB57 := Az.mk hb57
  have HS7 := Az.mk hs7
  have HS5 := Az.mk (show w.heap.size + 1 <= w5.heap.size by omega)
  have HN7 := Az.mk (Kd.R_below HN.1 hb57)
  have HE7 := Az.mk (Kd.S_below HE.1 hb57)
  have x0 := blk_cell f1 0
  clear b0 hb0 hz0 b5 hb5 hs5 f0 f1 hb57 hs7
  have hn100 : t1.length <= 100 := HOK.1.1
  obtain ⟨i0, e0, e1, e2, e3⟩ := info_parts info55m2
  have hmk := run_make w7 47 55 i0 _ Try.underlying47 e0 e1 .i64 .i64 t1.length t1.length (by omega) (by omega) (by rw [e3]; omega) (by omega)
  rw [e2, Nat.mul_one] at hmk
  have hz0 : (Value.slice none 0 0).cells = #[.slice none 0 0] := rfl
  rw [hz0] at hmk
  clear e0 e1 e2 e3 hz0
  go_upto_region 5 with fail
  have m1 := (MapKept.heap_alloc w7 (Obj.cells (madeCells #[Value.slice none 0 0] t1.length) 55)).1
  have hm1 := below_alloc (Below.refl w7.heap.size w7) (Obj.cells (madeCells #[Value.slice none 0 0] t1.length) 55)
  have hm2 := below_alloc hm1 (Obj.cells #[Value.slice (some ⟨w7.heap.size, 0, none⟩) t1.length t1.length] 49)
  have hS := S_made (base := w7.heap.size) (ok := fun k => w7.heap.size <= k /\ k ≠ w7.heap.size + 1) m1 (Nat.le_refl _) (by unfold maxLen; omega) ⟨Nat.le_refl _, by omega⟩
  have hS9 := Kd.S_alloc hS (Obj.cells #[Value.slice (some ⟨w7.heap.size, 0, none⟩) t1.length t1.length] 49)
  have m2 := (MapKept.heap_alloc (w7.alloc (Obj.cells (madeCells #[Value.slice none 0 0] t1.length) 55)) (Obj.cells #[Value.slice (some ⟨w7.heap.size, 0, none⟩) t1.length t1.length] 49)).1
  have hz8 : (w7.alloc (Obj.cells (madeCells #[Value.slice none 0 0] t1.length) 55)).heap.size = w7.heap.size + 1 := by simp
  have hz9 : ((w7.alloc (Obj.cells (madeCells #[Value.slice none 0 0] t1.length) 55)).alloc (Obj.cells #[Value.slice (some ⟨w7.heap.size, 0, none⟩) t1.length t1.length] 49)).heap.size = w7.heap.size + 1 + 1 := by simp
  rw [hz8] at m2
  generalize (w7.alloc (Obj.cells (madeCells #[Value.slice none 0 0] t1.length) 55)).alloc (Obj.cells #[Value.slice (some ⟨w7.heap.size, 0, none⟩) t1.length t1.length] 49) = w9 at *
  obtain ⟨go, hgo⟩ : ∃ go, go = w7.heap.size := ⟨_, rfl⟩
  rw [<- hgo] at hS9 m2 hm2 hz9 ⊢
  have HGO := Az.mk hgo
  have HS9 := Az.mk hS9
  have HM2 := Az.mk m2
  have HB9 := Az.mk hm2
  have HZ9 := Az.mk hz9
  have x1 := blk_cell (blk_below F1.1 (by rw [<- hgo]; exact hm2)) 1
  clear m1 hm1 hm2 hS hS9 m2 hz8 hz9 hgo hmk x0 hn100
  go_wp2
  clear x1
  obtain ⟨BK, hBK⟩ : ∃ BK, backL (List.replicate t1.length []) 0 t2 = BK := ⟨_, rfl⟩
  have HBK := Az.mk hBK
  clear hBK
  go_loopg [31] t2.length (fun kq v31 w' => ∃ (x : Int) (U : List (List Int)), v31 = .int .i64 x /\ Az (0 <= x /\ x.toNat + kq = t2.length) /\ Az (U.length = t1.length /\ backL U x (t2.drop x.toNat) = BK /\ (∀ r ∈ U, r.length <= x.toNat * 1000) /\ Kd.S KS 55 w' go (fun k => go <= k /\ k ≠ go + 1) (.slice (some ⟨go, 0, none⟩) t1.length t1.length) U /\ w'.heap[go + 1]? = some (Obj.cells #[Value.slice (some ⟨go, 0, none⟩) t1.length t1.length] 49) /\ Below go w7 w'))
  case atStart => exact ⟨0, _, rfl, ⟨by decide, by simp⟩, ⟨List.length_replicate .., by simpa using HBK.1, fun r hr => by rw [List.eq_of_mem_replicate hr]; simp, HS9.1, HM2.1, HB9.1⟩⟩
  case round =>
    obtain ⟨x, U, rfl, hk, hI⟩ := hrel
    clear HS9 HM2 HB9
    have hk0 := hk.1.1
    by_cases hx : x < (t2.length : Int)
    · have q3 : decide (x < (t2.length : Int)) = true := decide_eq_true hx
      have HX := Az.mk hx
      have hbw : Below w7.heap.size w7 wr := by rw [<- HGO.1]; exact hI.1.2.2.2.2.2
      obtain ⟨hl1, hc1, hC1⟩ := Kd.S_reads' HE7.1
      obtain ⟨ad, A3, c3, rfl, g0, g1, g2⟩ := at_L11 hC1 x hk0 hx
      replace g0 := (hbw.cell (World.block_lt_of_cell? _ _ g0)).trans g0
      have hrm : rd_L11 t2 x ∈ t2 := by
        have hi : x.toNat < t2.length := by omega
        have : rd_L11 t2 x = t2[x.toNat] := by simp [rd_L11, List.getD_eq_getElem?_getD, List.getElem?_eq_getElem hi]
        rw [this]; exact List.getElem_mem hi
      have hrb := HOK.1.2.2 _ hrm
      have hdr : t2.drop x.toNat = rd_L11 t2 x :: t2.drop (x.toNat + 1) := by
        have hi : x.toNat < t2.length := by omega
        rw [List.drop_eq_getElem_cons hi]
        simp [rd_L11, List.getD_eq_getElem?_getD, List.getElem?_eq_getElem hi]
      have hbk := hI.1.2.1
      rw [hdr] at hbk
      generalize rd_L11 t2 x = rw1 at *
      have p1 := eq_true hk0
      have p2 : (x < (t2.length : Int)) = True := eq_true hx
      have HRB := Az.mk hrb
      have HBK1 : Az (backL (addAll U x rw1) (x + 1) (t2.drop (x.toNat + 1)) = BK) := ⟨hbk⟩
      have H2 := Az.mk g2
      have hxr : wrap64 x = x := by unfold wrap64; have := HOK.1.2.1; omega
      obtain ⟨gk1, rfl⟩ : ∃ g, g = gk := ⟨_, rfl⟩
      clear hl1 hc1 hC1 hrm hrb hdr hbk g1 g2 hx hk0 hbw
      go_wp2
      clear g0
      obtain ⟨wo, rfl⟩ : ∃ wo, wo = wr := ⟨_, rfl⟩
      go_loopg [38] rw1.length (fun kq v38 w' => ∃ (z : Int) (V : List (List Int)), v38 = .int .i64 z /\ Az (0 <= z /\ z.toNat + kq = rw1.length) /\ Az (V.length = t1.length /\ addAll V x (rw1.drop z.toNat) = addAll U x rw1 /\ (∀ r ∈ V, r.length <= x.toNat * 1000 + z.toNat) /\ Kd.S KS 55 w' go (fun k => go <= k /\ k ≠ go + 1) (.slice (some ⟨go, 0, none⟩) t1.length t1.length) V /\ w'.heap[go + 1]? = some (Obj.cells #[Value.slice (some ⟨go, 0, none⟩) t1.length t1.length] 49) /\ Below go w7 w'))
      case atStart => exact ⟨0, U, rfl, ⟨by decide, by simp⟩, ⟨hI.1.1, by simp, fun r hr => hI.1.2.2.1 r hr, hI.1.2.2.2.1, hI.1.2.2.2.2.1, hI.1.2.2.2.2.2⟩⟩
      case round =>
        obtain ⟨z, V, rfl, hk2, hJ⟩ := hrel
        have hk20 := hk2.1.1
        by_cases hz : z < (rw1.length : Int)
        · have q4 : decide (z < (rw1.length : Int)) = true := decide_eq_true hz
          have HZ := Az.mk hz
          have hbw2 : Below w7.heap.size w7 wr := by rw [<- HGO.1]; exact hJ.1.2.2.2.2.2
          obtain ⟨ad2, rfl, y0⟩ := Kd.at_int (Kd.C_below H2.1 hbw2) z hk20 hz
          have hdm : Go.Proofs.Yw.A.rd rw1 z ∈ rw1 := by
            have hi : z.toNat < rw1.length := by omega
            have : Go.Proofs.Yw.A.rd rw1 z = rw1[z.toNat] := by simp [Go.Proofs.Yw.A.rd, rdOf, List.getD_eq_getElem?_getD, List.getElem?_eq_getElem hi]
            rw [this]; exact List.getElem_mem hi
          obtain ⟨hd0, hd1⟩ := HRB.1.2 _ hdm
          have hdr : rw1.drop z.toNat = Go.Proofs.Yw.A.rd rw1 z :: rw1.drop (z.toNat + 1) := by
            have hi : z.toNat < rw1.length := by omega
            rw [List.drop_eq_getElem_cons hi]
            simp [Go.Proofs.Yw.A.rd, rdOf, List.getD_eq_getElem?_getD, List.getElem?_eq_getElem hi]
          have hadd := hJ.1.2.1
          rw [hdr] at hadd
          generalize Go.Proofs.Yw.A.rd rw1 z = d at *
          have HADD : Az (addAll (V.set d.toNat (V.getD d.toNat [] ++ [x])) x (rw1.drop (z.toNat + 1)) = addAll U x rw1) := ⟨hadd⟩
          have p3 := eq_true hk20
          have p4 : (z < (rw1.length : Int)) = True := eq_true hz
          clear hdm hdr hadd hz hk20 hbw2
          go_upto_region 11 with fail
          clear y0
          have hsz := blk_lt hJ.1.2.2.2.2.1
          obtain ⟨v0, oki, u1, u2, u3, u4, u5⟩ := S_upd (Kd.S_drew hJ.1.2.2.2.1) (fun k hk => by have : wr.drew.heap.size = wr.heap.size := rfl; rw [this] at hk; omega) d hd0 hd1
          have U3 := Az.mk (Kd.R_mono (ok' := fun k => oki k \/ wr.heap.size <= k) u3 (fun k hk => .inl hk))
          have U4 := Az.mk u4
          have U5 := Az.mk (@u5)
          have U6 := Az.mk u3
          have hrl : (row V d).length <= 101000 := by
            have h1 := HOK.1.2.1
            have h2 := hk.1
            have h3 := hk2.1
            have h4 := HRB.1.1
            have h5 := HX.1
            by_cases hi : d.toNat < V.length
            · have : row V d ∈ V := by unfold row; rw [List.getD_eq_getElem?_getD, List.getElem?_eq_getElem hi]; exact List.getElem_mem hi
              have h6 := hJ.1.2.2.1 _ this
              have h7 : x.toNat <= 100 := by omega
              have h8 : z.toNat <= 1000 := by omega
              omega
            · unfold row
              rw [List.getD_eq_getElem?_getD, List.getElem?_eq_none (by omega)]
              simp
          have HRL := Az.mk (show ((row V d).length + 1) * 8 <= 140737488355328 by omega)
          have c8 : wr.cell? ⟨go + 1, 0, none⟩ = some (Value.slice (some ⟨go, 0, none⟩) t1.length t1.length) := blk_cell hJ.1.2.2.2.2.1 0
          have w1' : wr.cell? ⟨go, d.toNat, none⟩ = some v0 := u1
          have c8d : (wr.alloc (Obj.cells #[Value.int .i64 x] 3)).cell? ⟨go + 1, 0, none⟩ = some (Value.slice (some ⟨go, 0, none⟩) t1.length t1.length) := ((below_alloc (Below.refl wr.heap.size wr) _).cell (World.block_lt_of_cell? _ _ c8)).trans c8
          have c8e : (wr.drew.alloc (Obj.cells #[Value.int .i64 x] 3)).cell? ⟨go + 1, 0, none⟩ = some (Value.slice (some ⟨go, 0, none⟩) t1.length t1.length) := ((below_alloc (below_drew (Below.refl wr.heap.size wr)) _).cell (World.block_lt_of_cell? _ _ c8)).trans c8
          have w1d : (wr.alloc (Obj.cells #[Value.int .i64 x] 3)).cell? ⟨go, d.toNat, none⟩ = some v0 := ((below_alloc (Below.refl wr.heap.size wr) _).cell (World.block_lt_of_cell? _ _ w1')).trans w1'
          have w1e : (wr.drew.alloc (Obj.cells #[Value.int .i64 x] 3)).cell? ⟨go, d.toNat, none⟩ = some v0 := ((below_alloc (below_drew (Below.refl wr.heap.size wr)) _).cell (World.block_lt_of_cell? _ _ w1')).trans w1'
          have hgb : wr.drew.heap[go + 1]? = some (Obj.cells #[Value.slice (some ⟨go, 0, none⟩) t1.length t1.length] 49) := hJ.1.2.2.2.2.1
          have HGB := Az.mk hgb
          have hgl : go <= wr.drew.heap.size := by have : wr.drew.heap.size = wr.heap.size := rfl; omega
          have hfr : ∀ k, wr.drew.heap.size <= k -> oki k \/ wr.heap.size <= k := fun k hk => .inr hk
          have HFR := Az.mk hfr
          have HGL := Az.mk hgl
          have U2 := Az.mk u2
          have p5 := eq_true hd0
          have p6 : (d < (t1.length : Int)) = True := eq_true hd1
          have HD0 := Az.mk (And.intro hd0 hd1)
          clear u1 u2 u3 u4 u5 hrl hgb hgl hfr hsz hd0 hd1
          have HSTEP : Az (∀ (w3 : World) (A2 : Option Addr) (cr : Nat), wr.drew.grownBy w3 v0.ownBlock -> Kd.R (Kd.int .i64) 3 w3 go (fun k => oki k \/ wr.heap.size <= k) (.slice A2 (row V d ++ [x]).length cr) (row V d ++ [x]) -> w3.heap[go + 1]? = some (Obj.cells #[Value.slice (some ⟨go, 0, none⟩) t1.length t1.length] 49) ->
              (V.set d.toNat (row V d ++ [x])).length = t1.length /\ (∀ r ∈ V.set d.toNat (row V d ++ [x]), r.length <= x.toNat * 1000 + (z.toNat + 1)) /\ Kd.S KS 55 (w3.setCell ⟨go, d.toNat, none⟩ (.slice A2 ((row V d).length + 1) cr)) go (fun k => go <= k /\ k ≠ go + 1) (.slice (some ⟨go, 0, none⟩) t1.length t1.length) (V.set d.toNat (row V d ++ [x])) /\ (w3.setCell ⟨go, d.toNat, none⟩ (.slice A2 ((row V d).length + 1) cr)).heap[go + 1]? = some (Obj.cells #[Value.slice (some ⟨go, 0, none⟩) t1.length t1.length] 49) /\ Below go w7 (w3.setCell ⟨go, d.toNat, none⟩ (.slice A2 ((row V d).length + 1) cr))) := ⟨by
            intro w3 A2 cr hg hr hb
            have hS := U5.1 w3 _ _ hg hr
            have e9 : (row V d ++ [x]).length = (row V d).length + 1 := by simp
            rw [e9] at hS
            refine ⟨by rw [List.length_set]; exact hJ.1.1, fun r hr2 => ?_, hS.1, blk_grown hb hS.2 (by intro e; injection e with e; omega), ?_⟩
            · rcases List.mem_or_eq_of_mem_set hr2 with h | h
              · have := hJ.1.2.2.1 r h; omega
              · subst h
                rw [e9]
                by_cases hi : d.toNat < V.length
                · have hm : row V d ∈ V := by unfold row; rw [List.getD_eq_getElem?_getD, List.getElem?_eq_getElem hi]; exact List.getElem_mem hi
                  have := hJ.1.2.2.1 _ hm
                  omega
                · have : row V d = [] := by unfold row; rw [List.getD_eq_getElem?_getD, List.getElem?_eq_none (by omega)]; rfl
                  rw [this, List.length_nil]; omega
            · exact ((below_drew hJ.1.2.2.2.2.2).grown hg HGL.1 (fun k hk => (U4.1 k (U6.1.1 k hk)).1.1)).setCell (Nat.le_refl _) _⟩
          go_region_law ((refine Kd.R_append_step (Kd.int .i64) (w0 := wr.drew) (W := wr.drew) go rfl (.tmp 49) (.tmp 51) 55 3 (.int .i64 0) 8 rfl Try.underlying55 info3 rfl (by decide) (by decide) v0 (row V d) x [.int .i64 x] (fun k => oki k \/ wr.heap.size <= k) (fun _ => False) rfl rfl rfl (fun _ hk => hk.elim) HFR.1 U3.1 (Below.refl _ _) HGL.1 HRL.1 ?_); intro v1 w3 ho hb1 hg hat; obtain ⟨A2, cr, rfl⟩ := Kd.R_slice ho; have hnm : some (go + 1) ≠ v0.ownBlock := (fun e => (U4.1 (go + 1) (U6.1.1 _ e.symm)).1.2 rfl); have hng : some go ≠ v0.ownBlock := (fun e => (U4.1 go (U6.1.1 _ e.symm)).2 rfl); have hgs : go < wr.drew.heap.size := (by have := blk_lt HGB.1; omega); have k1 : w3.cell? ⟨go + 1, 0, none⟩ = some (Value.slice (some ⟨go, 0, none⟩) t1.length t1.length) := blk_cell (blk_grown HGB.1 hg hnm) 0; have k2 : w3.cell? ⟨go, d.toNat, none⟩ = some v0 := (World.cell?_of_block (hg.block go hgs hng)).trans w1'; have k3 : w3.frozen? ⟨go, d.toNat, none⟩ = false := (World.frozen?_of_block (hg.block go hgs hng)).trans U2.1; have G1 := Az.mk hg; have R1 := Az.mk ho; have B1 := Az.mk (blk_grown HGB.1 hg hnm); clear hg ho hb1 hat hnm hng hgs)
          all_goals go_wp2
          all_goals go_roundg (gk - 1)
          all_goals first
            | (have h1 := hk2.1; have h2 := HZ.1; omega)
            | (have h1 := hk2.1
               have h2 := HZ.1
               have h4 := HRB.1.1
               have et : (z + 1).toNat = z.toNat + 1 := by omega
               have hst := HSTEP.1 _ _ _ G1.1 R1.1 B1.1
               exact ⟨z + 1, _, by rw [show wrap64 (z + 1) = z + 1 from by unfold wrap64; omega], ⟨by omega, by omega⟩, ⟨hst.1, by rw [et]; exact HADD.1, by rw [et]; exact hst.2.1, hst.2.2.1, hst.2.2.2.1, hst.2.2.2.2⟩⟩)
        · have q4 : decide (z < (rw1.length : Int)) = false := decide_eq_false hz
          have hd : rw1.drop z.toNat = [] := List.drop_of_length_le (by have := hk2.1; omega)
          have hJ2 := hJ.1
          rw [hd] at hJ2
          have HJ2 := Az.mk hJ2
          clear hd hJ2 hz hk20
          go_wp2
          go_roundg (gk1 - 1)
          case measure => have := hk.1; have := HX.1; omega
          case rel =>
            have h1 := hk.1
            have h2 := HX.1
            have h3 := hk2.1
            have h4 := HRB.1.1
            have h5 := HOK.1.2.1
            have et : (x + 1).toNat = x.toNat + 1 := by omega
            have hv : V = addAll U x rw1 := HJ2.1.2.1
            exact ⟨x + 1, V, by rw [show wrap64 (x + 1) = x + 1 from by unfold wrap64; omega], ⟨by omega, by omega⟩, ⟨HJ2.1.1, by rw [et, hv]; exact HBK1.1, fun r hr => by have := HJ2.1.2.2.1 r hr; omega, HJ2.1.2.2.2.1, HJ2.1.2.2.2.2.1, HJ2.1.2.2.2.2.2⟩⟩
    · have q3 : decide (x < (t2.length : Int)) = false := decide_eq_false hx
      have hd : t2.drop x.toNat = [] := List.drop_of_length_le (by have := hk.1; omega)
      have hI2 := hI.1
      rw [hd] at hI2
      obtain ⟨i1, rfl, i3, i4, i5, i6⟩ := hI2
      have hbw : Below w7.heap.size w7 wr := by rw [<- HGO.1]; exact i6
      have HBW := Az.mk hbw
      have f0 := blk_below F0.1 hbw
      have f1 := blk_below F1.1 hbw
      have HF0 := Az.mk f0
      have x0 := blk_cell f1 0
      have x1 := blk_cell f1 1
      have z0 := blk_cell i5 0
      have hN := plainR (Kd.R_below HN7.1 hbw)
      have hE := Kd.S_reads' (Kd.S_below HE7.1 hbw)
      have hU : t1.length = (backL U x []).length /\ t1.length <= t1.length /\ KS.C wr (some ⟨go, 0, none⟩) (backL U x []).length (backL U x []) := Kd.S_reads' i4
      have hbk := HBK.1
      have hre := HRE.1
      rw [hbk] at hre
      have hcall := m_reached.calls _ cn t1 _ ce t2 _ t1.length (backL U x []) s r1 r2 r3 r4 r5 wr hN.2.2 hN.2.1 hE.2.2 hE.2.1 hU.2.2 (by rw [<- hU.1]; exact Nat.le_refl _) hre
      rw [<- hU.1] at hcall
      have HCALL := Az.mk hcall
      clear hd i1 i3 i4 i5 i6 hbw f0 f1 hN hE hU hbk hre hcall hx hk0 hI
      go_wp2_with (go_at_call 31; (refine HCALL.1.mono ?_); rintro e w10 ⟨v10, rfl, hr10, hb10⟩; have HR10 := Az.mk hr10; have HB10 := Az.mk hb10; have g0 := blk_below HF0.1 hb10; have HG0 := Az.mk g0; have y0 := blk_cell g0 0; have y1 := blk_cell g0 1; have y2 := blk_cell g0 2; have y3 := blk_cell g0 3; have e0 := blk_frozen g0 0; have e1 := blk_frozen g0 1; have e2 := blk_frozen g0 2; have e3 := blk_frozen g0 3; clear hr10 hb10 g0)
      refine bodyPost_ret (results_tc rfl _ _ w.heap.size 28 #[.int .i64 r2, .string r3, .int .i64 r4, .int .i64 r5] (0, 0) _ rfl (fst4_f HG0.1 r2 r3 r4 r5) Try.underlying28 rfl hi28) rfl ?_
      have hlt : w.heap.size < wr.heap.size := by have h1 := blk_lt HF0.1; exact h1
      have hall : Below w.heap.size w w10 := ((HB5.1.trans (HB57.1.mono HB5.1.size)).trans (HBW.1.mono (by have := HB5.1.size; have := HB57.1.size; omega))).trans (HB10.1.mono (Nat.le_of_lt hlt))
      refine ⟨_, rfl, ?_, fst4_below hall (Nat.le_refl _) r2 r3 r4 r5⟩
      exact Kd.R_lower (Kd.R_mono (Kd.R_move (Kd.R_bound HR10.1) (fun k hk => fst4_heap w10 _ r2 r3 r4 r5 k (by have := hk.2.1; omega))) (fun _ _ => trivial)) (Nat.le_of_lt hlt)
end Mg
namespace P
theorem m_Users.calls (A0 : Option Addr) (c0 : Nat) (l0 : List S42) (a1 : ByteArray) (r1 : List ByteArray) (r2 : Int) (r3 : ByteArray) (r4 r5 : Int) (w : World) (hr0 : Kd.C k42 w A0 l0.length l0) (hc0 : l0.length <= c0) (h : m_Users.f l0 a1 = some (r1, r2, r3, r4, r5)) :
    Calls Try.prog 17 #[.slice A0 l0.length c0, .string a1] w fun e w' => ∃ v0_ : Value, e = .returned (.tuple #[v0_, .agg #[.int .i64 r2, .string r3, .int .i64 r4, .int .i64 r5]]) /\ Kd.R Kd.string 9 w' w.heap.size (fun _ => True) v0_ r1 /\ Below w.heap.size w w' := by
  unfold m_Users.f at h
  obtain ⟨⟨t1, t2, t3, t4, t5, t6⟩, hl, h⟩ := Option.bind_eq_some_iff.mp h
  obtain ⟨k0, hk0⟩ := Od.lim_some hl
  have hA := hk0 k0 (Nat.le_refl _)
  simp only [] at h
  by_cases h3 : t3 = 0
  · rw [if_pos h3] at h
    by_cases ho : okB t1.length t2
    · rw [if_pos ho] at h
      subst h3
      exact Users_walk k0 A0 c0 l0 a1 w hr0 hc0 t1 t2 t4 t5 t6 hA ho r1 r2 r3 r4 r5 h
    · rw [if_neg ho] at h; cases h
  · rw [if_neg h3] at h
    simp only [Option.some.injEq, Prod.mk.injEq] at h
    obtain ⟨rfl, rfl, rfl, rfl, rfl⟩ := h
    exact Users_fault k0 A0 c0 l0 a1 w hr0 hc0 t1 t2 t3 t4 t5 t6 hA h3
end P
end Go.Proofs.Ytmadhaccjmakdaa
namespace Go.Proofs.Ytmadhaccjmakdaa.P
open Go.RowKit Go.Proofs.Yw.A Go.Proofs.Yw.B Go.Proofs.Yw.C Mg
theorem ord_x : g_ordered.f [[1], [], []] = some [[1], [0], [2]] := Od.lim_of (k0 := 40) (fun k hk => by
 obtain ⟨m, rfl⟩ : ∃ m, k = m + 40 := ⟨k - 40, by omega⟩
 kernel_rfl)
theorem lev_x : g_Levels.f [[1], [], []] = some ([[1, 2], [0]], 0) := Od.lim_of (k0 := 40) (fun k hk => by
 obtain ⟨m, rfl⟩ : ∃ m, k = m + 40 := ⟨k - 40, by omega⟩
 unfold Lv.levelsF
 rw [ord_x]
 kernel_rfl)
theorem acy_x {l : List S42} (h : l.map key = [([65], [[66]]), ([66], []), ([67], [])]) : m_acyclic.f 40 l = some ([bz [65], bz [66], bz [67]], [[1], [], []], 0, ⟨#[]⟩, 0, 0) := by
 unfold m_acyclic.f
 rw [made_abc h]
 kernel_rfl
theorem order_x {l : List S42} (h : l.map key = [([65], [[66]]), ([66], []), ([67], [])]) : m_Order.f 40 l = some ([bz [66], bz [65], bz [67]], 0, ⟨#[]⟩, 0, 0) := by
 unfold m_Order.f
 rw [acy_x h]
 simp only [Option.bind_some, if_true]
 unfold g_Components.f
 rw [ord_x]
 kernel_rfl
theorem levels_x {l : List S42} (h : l.map key = [([65], [[66]]), ([66], []), ([67], [])]) : m_Levels.f 40 l = some ([[bz [66], bz [67]], [bz [65]]], 0, ⟨#[]⟩, 0, 0) := by
 unfold m_Levels.f
 rw [acy_x h]
 simp only [Option.bind_some, if_true]
 rw [lev_x]
 kernel_rfl
theorem reach_x : m_reached.f [bz [65], bz [66], bz [67]] [[1], [], []] [[1], [], []] (bz [65]) = some ([bz [66]], 0, ⟨#[]⟩, 0, 0) := by
 have hL : (Od.lim fun k => (g_Reach.f k [[1], [], []] (rank ([bz [65], bz [66], bz [67]].map dat) (dat (bz [65])) : Nat)).bind fun t => p_named.f k [bz [65], bz [66], bz [67]] [[1], [], []] t) = some [bz [65], bz [66]] := Od.lim_of (k0 := 40) (fun k hk => by
  obtain ⟨m, rfl⟩ : ∃ m, k = m + 40 := ⟨k - 40, by omega⟩
  kernel_rfl)
 unfold m_reached.f
 rw [if_pos (by decide), if_pos (by decide), hL]
 have hf : [bz [65], bz [66]].filter (fun x => !but (bz [65]) x) = [bz [66]] := by kernel_rfl
 show some (List.filter (fun x => !but (bz [65]) x) [bz [65], bz [66]], (0 : Int), (⟨#[]⟩ : ByteArray), (0 : Int), (0 : Int)) = _
 rw [hf]
theorem needs_x {l : List S42} (h : l.map key = [([65], [[66]]), ([66], []), ([67], [])]) : m_Needs.f 40 l (bz [65]) = some ([bz [66]], 0, ⟨#[]⟩, 0, 0) := by
 unfold m_Needs.f
 rw [acy_x h]
 simp only [Option.bind_some, if_true]
 rw [reach_x]
 rfl
theorem cycle_x {l : List S42} (h : l.map key = [([65], [[66]]), ([66], [[65], [67]]), ([67], [[66]])]) : m_Cycle.f 100 l = some [bz [65], bz [66]] := by
 unfold m_Cycle.f
 rw [made_cyc h]
 kernel_rfl
theorem missI_bz (K : List (List UInt8)) : ∀ l : List S66, missI K l = ((l.map im).find? (fun x => !K.contains x)).map bz := by
 intro l
 induction l with
 | nil => rfl
 | cons i l ih =>
  unfold missI
  by_cases h : K.contains (im i) = true
  · rw [if_pos h, ih, List.map_cons, List.find?_cons_of_neg (by simpa using h)]
  rw [if_neg h, List.map_cons, List.find?_cons_of_pos (by simpa using h)]
  rfl
theorem made_x {l : List S42} (h : l.map key = [([65], [[88]])]) : m_made.f l = some ([], [], 16, bz [88], 0, 0) := by
 have hk := nm_key l
 rw [h] at hk
 have hlen : l.length = 1 := by have := congrArg List.length h; simpa using this
 obtain ⟨m, rfl⟩ : ∃ m, l = [m] := List.length_eq_one_iff.1 hlen
 have hkm : key m = ([65], [[88]]) := by simpa using h
 have hi : m.f3.map im = [[88]] := congrArg Prod.snd hkm
 unfold m_made.f
 rw [if_neg (by simp), if_pos (okSizes_key (by rw [h]; decide)), twice_of _ [] (by rw [hk]; decide)]
 simp only []
 rw [hk]
 unfold miss
 rw [missI_bz, hi]
 rfl
theorem order_miss {l : List S42} (h : l.map key = [([65], [[88]])]) : m_Order.f 40 l = some ([], 16, bz [88], 0, 0) := by
 unfold m_Order.f m_acyclic.f
 rw [made_x h]
 rfl
theorem reach_y : m_reached.f [bz [65], bz [66], bz [67]] [[1], [], []] [[], [0], []] (bz [66]) = some ([bz [65]], 0, ⟨#[]⟩, 0, 0) := by
 have hL : (Od.lim fun k => (g_Reach.f k [[], [0], []] (rank ([bz [65], bz [66], bz [67]].map dat) (dat (bz [66])) : Nat)).bind fun t => p_named.f k [bz [65], bz [66], bz [67]] [[1], [], []] t) = some [bz [65], bz [66]] := Od.lim_of (k0 := 40) (fun k hk => by
  obtain ⟨m, rfl⟩ : ∃ m, k = m + 40 := ⟨k - 40, by omega⟩
  kernel_rfl)
 unfold m_reached.f
 rw [if_pos (by decide), if_pos (by decide), hL]
 have hf : [bz [65], bz [66]].filter (fun x => !but (bz [66]) x) = [bz [65]] := by kernel_rfl
 show some (List.filter (fun x => !but (bz [66]) x) [bz [65], bz [66]], (0 : Int), (⟨#[]⟩ : ByteArray), (0 : Int), (0 : Int)) = _
 rw [hf]
theorem users_x {l : List S42} (h : l.map key = [([65], [[66]]), ([66], []), ([67], [])]) : m_Users.f l (bz [66]) = some ([bz [65]], 0, ⟨#[]⟩, 0, 0) := by
 have hL : (Od.lim fun k => m_acyclic.f k l) = some ([bz [65], bz [66], bz [67]], [[1], [], []], 0, ⟨#[]⟩, 0, 0) := Od.lim_of (k0 := 40) (fun k hk => by
  obtain ⟨m, rfl⟩ : ∃ m, k = m + 40 := ⟨k - 40, by omega⟩
  unfold m_acyclic.f
  rw [made_abc h]
  kernel_rfl)
 have hb : backL (List.replicate [bz [65], bz [66], bz [67]].length []) 0 [[1], [], []] = [[], [0], []] := by kernel_rfl
 have ho : okB [bz [65], bz [66], bz [67]].length [[1], [], []] := by unfold okB; decide
 unfold m_Users.f
 rw [hL]
 simp only [Option.bind_some, if_true]
 rw [if_pos ho, hb]
 exact reach_y
end Go.Proofs.Ytmadhaccjmakdaa.P
namespace Go.Proofs.Ytmadhaccjmakdaa
open Go.RowKit Go.Proofs.Yw.A Go.Proofs.Yw.B Go.Proofs.Yw.C
attribute [local go_sem] str_gtr str_leq str_geq max2_int min2_int max_two min_two max_three min_three max_four min_four
open P Mg
attribute [local go_sem high] eqA28
namespace Aw
def Stab (p : World -> Prop) : Prop := ∀ w w1, Below w.heap.size w w1 -> p w -> p w1
theorem stab_and {p q : World -> Prop} (hp : Stab p) (hq : Stab q) : Stab fun w => p w /\ q w := fun w w1 hb h => ⟨hp w w1 hb h.1, hq w w1 hb h.2⟩
theorem stab_c {α : Type} (d : Kd α) (A : Option Addr) (n : Nat) (xs : List α) : Stab fun w => d.C w A n xs := fun w w1 hb h => Kd.C_below h hb
theorem stab_k {α : Type} (d : Kd α) (x : α) (cs : List Value) : Stab fun w => d.K w x cs := fun w w1 hb h => d.K_below hb h
theorem stab_b (w0 : World) : Stab fun w => Below w0.heap.size w0 w := fun w w1 hb h => below_step h hb
theorem stab_x (g : Nat) (cs : Array Value) (t : TypeId) : Stab fun w => w.heap[g]? = some (.cells cs t (0, 0)) := fun w w1 hb h => blk_below h hb
theorem C_lit {α : Type} (d : Kd α) (w : World) {xs : List α} {inner : List Value} (e : TypeId) (hrep : Reps (d.K w) d.sz xs inner) (hm : xs.length <= 9223372036854775807) (hl : inner.length = xs.length * d.sz) :
 d.C (w.alloc (.cells inner.toArray e)) (some ⟨w.heap.size, 0, none⟩) xs.length xs := by
 refine ⟨rfl, hm, fun _ => ⟨_, rfl, fun j p hj => ⟨_, ?_, d.K_below (below_alloc (Below.refl _ _) _) (hrep.2 j p hj), fun i u hu => ?_⟩⟩⟩
 · exact d.K_len (hrep.2 j p hj)
 · have hb := (MapKept.heap_alloc w (.cells inner.toArray e)).1
   have hu' : inner[j * d.sz + i]? = some u := by
    rw [List.getElem?_take] at hu
    split at hu
    · rw [List.getElem?_drop] at hu; exact hu
    · cases hu
   have hadd : (⟨w.heap.size, 0, none⟩ : Addr).add (j * d.sz + i) = ⟨w.heap.size, j * d.sz + i, none⟩ := by
    unfold Addr.add
    split
    · rename_i h0; rw [h0]
    · simp
   rw [hadd, blk_cell hb]
   simpa using hu'
def i66 (x : ByteArray) : S66 := ⟨x, false, ⟨#[]⟩, false, false, []⟩
def mm (x : ByteArray) (l : List ByteArray) : S42 := ⟨x, false, [], l.map i66, RawS.nil⟩
theorem mod_ex (s : ByteArray) (l1 : List ByteArray) (x : S42) (h : w_module.f 40 s l1 = some (x.f0, x.f1, x.f2, x.f3, x.f4)) (A1 : Option Addr) (c1 : Nat) (w : World) (hr1 : Kd.C Kd.string w A1 l1.length l1) (hc1 : l1.length <= c1) :
 Calls Try.prog 23 #[.string s, .slice A1 l1.length c1] w fun e w' => ∃ A2 c2 A3 c3, e = .returned (.agg #[.string x.f0, .bool x.f1, .slice A2 x.f2.length c2, .slice A3 x.f3.length c3, .slice x.f4.a x.f4.n x.f4.c]) /\
  k42.K w' x [.string x.f0, .bool x.f1, .slice A2 x.f2.length c2, .slice A3 x.f3.length c3, .slice x.f4.a x.f4.n x.f4.c] /\ Below w.heap.size w w' := by
 refine (w_module.calls 40 s A1 c1 l1 _ _ _ _ _ w hr1 hc1 h).mono ?_
 rintro e w' ⟨v2, v3, rfl, h2, h3, hb⟩
 obtain ⟨A2, c2, rfl, l2, g2⟩ := Kd.S_reads h2
 obtain ⟨A3, c3, rfl, l3, g3⟩ := Kd.R_reads h3
 exact ⟨A2, c2, A3, c3, rfl, k42_mk w' x l2 g2 l3 g3, hb⟩
end Aw
namespace Aw
theorem rS1 (w : World) (x : ByteArray) : Reps (Kd.string.K w) 1 [x] [.string x] := Reps.one (show Kd.K Kd.string w x [.string x] from rfl) (Reps.none _ _)
theorem sC1 (w : World) (x : ByteArray) : Kd.string.C (w.alloc (.cells #[.string x] 9)) (some ⟨w.heap.size, 0, none⟩) 1 [x] := C_lit Kd.string w 9 (rS1 w x) (by simp) rfl
theorem sC2 (w : World) (x y : ByteArray) : Kd.string.C (w.alloc (.cells #[.string x, .string y] 9)) (some ⟨w.heap.size, 0, none⟩) 2 [x, y] :=
 C_lit Kd.string w 9 (Reps.one (show Kd.K Kd.string w x [.string x] from rfl) (rS1 w y)) (by simp) rfl
theorem sC3 (w : World) (x y z : ByteArray) : Kd.string.C (w.alloc (.cells #[.string x, .string y, .string z] 9)) (some ⟨w.heap.size, 0, none⟩) 3 [x, y, z] :=
 C_lit Kd.string w 9 (Reps.one (show Kd.K Kd.string w x [.string x] from rfl) (Reps.one (show Kd.K Kd.string w y [.string y] from rfl) (rS1 w z))) (by simp) rfl
theorem mod0_ex (s : ByteArray) (w : World) : Calls Try.prog 23 #[.string s, .slice none 0 0] w fun e w' => ∃ A2 c2 A3 c3, e = .returned (.agg #[.string s, .bool false, .slice A2 0 c2, .slice A3 0 c3, .slice none 0 0]) /\
 k42.K w' (mm s []) [.string s, .bool false, .slice A2 0 c2, .slice A3 0 c3, .slice none 0 0] /\ Below w.heap.size w w' :=
 mod_ex s [] (mm s []) (by rfl) none 0 w (Kd.C_nil _ _) (Nat.le_refl _)
theorem mod1_ex (s x : ByteArray) (w : World) : Calls Try.prog 23 #[.string s, .slice (some ⟨w.heap.size, 0, none⟩) 1 1] (w.alloc (.cells #[.string x] 9)) fun e w' => ∃ A2 c2 A3 c3, e = .returned (.agg #[.string s, .bool false, .slice A2 0 c2, .slice A3 1 c3, .slice none 0 0]) /\
 k42.K w' (mm s [x]) [.string s, .bool false, .slice A2 0 c2, .slice A3 1 c3, .slice none 0 0] /\ Below w.heap.size w w' :=
 (mod_ex s [x] (mm s [x]) (by kernel_rfl) _ 1 _ (sC1 w x) (Nat.le_refl _)).mono fun e w' ⟨A2, c2, A3, c3, h1, h2, h3⟩ => ⟨A2, c2, A3, c3, h1, h2, below_step (below_alloc (Below.refl _ _) _) h3⟩
theorem mod2_ex (s x y : ByteArray) (w : World) : Calls Try.prog 23 #[.string s, .slice (some ⟨w.heap.size, 0, none⟩) 2 2] (w.alloc (.cells #[.string x, .string y] 9)) fun e w' => ∃ A2 c2 A3 c3, e = .returned (.agg #[.string s, .bool false, .slice A2 0 c2, .slice A3 2 c3, .slice none 0 0]) /\
 k42.K w' (mm s [x, y]) [.string s, .bool false, .slice A2 0 c2, .slice A3 2 c3, .slice none 0 0] /\ Below w.heap.size w w' :=
 (mod_ex s [x, y] (mm s [x, y]) (by kernel_rfl) _ 2 _ (sC2 w x y) (Nat.le_refl _)).mono fun e w' ⟨A2, c2, A3, c3, h1, h2, h3⟩ => ⟨A2, c2, A3, c3, h1, h2, below_step (below_alloc (Below.refl _ _) _) h3⟩
def L1 : List S42 := [mm (bz [65]) [bz [66]], mm (bz [66]) [], mm (bz [67]) []]
def L2 : List S42 := [mm (bz [65]) [bz [88]]]
def L3 : List S42 := [mm (bz [65]) [bz [66]], mm (bz [66]) [bz [65], bz [67]], mm (bz [67]) [bz [66]]]
theorem key1 : L1.map key = [([65], [[66]]), ([66], []), ([67], [])] := by kernel_rfl
theorem key2 : L2.map key = [([65], [[88]])] := by kernel_rfl
theorem key3 : L3.map key = [([65], [[66]]), ([66], [[65], [67]]), ([67], [[66]])] := by kernel_rfl
theorem ord_ex (A : Option Addr) (c : Nat) (w : World) (h : k42.C w A 3 L1) (hc : 3 <= c) : Calls Try.prog 10 #[.slice A 3 c] w fun e w' => ∃ A2 c2, e = .returned (.tuple #[.slice A2 3 c2, .agg #[.int .i64 0, .string ⟨#[]⟩, .int .i64 0, .int .i64 0]]) /\
 Kd.string.C w' A2 3 [(⟨#[66]⟩ : ByteArray), (⟨#[65]⟩ : ByteArray), (⟨#[67]⟩ : ByteArray)] /\ 3 <= c2 /\ Below w.heap.size w w' := by
 refine (m_Order.calls 40 A c L1 _ _ _ _ _ w h hc (order_x key1)).mono ?_
 rintro e w' ⟨v, rfl, hr, hb⟩
 obtain ⟨A2, c2, rfl, l2, g2⟩ := Kd.R_reads hr
 exact ⟨A2, c2, rfl, g2, l2, hb⟩
theorem lev_ex (A : Option Addr) (c : Nat) (w : World) (h : k42.C w A 3 L1) (hc : 3 <= c) : Calls Try.prog 12 #[.slice A 3 c] w fun e w' => ∃ A2 c2, e = .returned (.tuple #[.slice A2 2 c2, .agg #[.int .i64 0, .string ⟨#[]⟩, .int .i64 0, .int .i64 0]]) /\
 (Kd.slice 9 Kd.string).C w' A2 2 [[(⟨#[66]⟩ : ByteArray), (⟨#[67]⟩ : ByteArray)], [(⟨#[65]⟩ : ByteArray)]] /\ 2 <= c2 /\ Below w.heap.size w w' := by
 refine (m_Levels.calls 40 A c L1 _ _ _ _ _ w h hc (levels_x key1)).mono ?_
 rintro e w' ⟨v, rfl, hr, hb⟩
 obtain ⟨A2, c2, rfl, l2, g2⟩ := Kd.S_reads hr
 exact ⟨A2, c2, rfl, g2, l2, hb⟩
theorem needs_ex (A : Option Addr) (c : Nat) (w : World) (h : k42.C w A 3 L1) (hc : 3 <= c) : Calls Try.prog 15 #[.slice A 3 c, .string ⟨#[65]⟩] w fun e w' => ∃ A2 c2, e = .returned (.tuple #[.slice A2 1 c2, .agg #[.int .i64 0, .string ⟨#[]⟩, .int .i64 0, .int .i64 0]]) /\
 Kd.string.C w' A2 1 [(⟨#[66]⟩ : ByteArray)] /\ 1 <= c2 /\ Below w.heap.size w w' := by
 refine (m_Needs.calls 40 A c L1 _ _ _ _ _ _ w h hc (needs_x key1)).mono ?_
 rintro e w' ⟨v, rfl, hr, hb⟩
 obtain ⟨A2, c2, rfl, l2, g2⟩ := Kd.R_reads hr
 exact ⟨A2, c2, rfl, g2, l2, hb⟩
theorem users_ex (A : Option Addr) (c : Nat) (w : World) (h : k42.C w A 3 L1) (hc : 3 <= c) : Calls Try.prog 17 #[.slice A 3 c, .string ⟨#[66]⟩] w fun e w' => ∃ A2 c2, e = .returned (.tuple #[.slice A2 1 c2, .agg #[.int .i64 0, .string ⟨#[]⟩, .int .i64 0, .int .i64 0]]) /\
 Kd.string.C w' A2 1 [(⟨#[65]⟩ : ByteArray)] /\ 1 <= c2 /\ Below w.heap.size w w' := by
 refine (m_Users.calls A c L1 _ _ _ _ _ _ w h hc (users_x key1)).mono ?_
 rintro e w' ⟨v, rfl, hr, hb⟩
 obtain ⟨A2, c2, rfl, l2, g2⟩ := Kd.R_reads hr
 exact ⟨A2, c2, rfl, g2, l2, hb⟩
theorem miss_ex (A : Option Addr) (c : Nat) (w : World) (h : k42.C w A 1 L2) (hc : 1 <= c) : Calls Try.prog 10 #[.slice A 1 c] w fun e w' => ∃ A2 c2, e = .returned (.tuple #[.slice A2 0 c2, .agg #[.int .i64 16, .string ⟨#[88]⟩, .int .i64 0, .int .i64 0]]) /\ Below w.heap.size w w' := by
 refine (m_Order.calls 40 A c L2 _ _ _ _ _ w h hc (order_miss key2)).mono ?_
 rintro e w' ⟨v, rfl, hr, hb⟩
 obtain ⟨A2, c2, rfl, l2, g2⟩ := Kd.R_reads hr
 exact ⟨A2, c2, rfl, hb⟩
theorem cyc_ex (A : Option Addr) (c : Nat) (w : World) (h : k42.C w A 3 L3) (hc : 3 <= c) : Calls Try.prog 19 #[.slice A 3 c] w fun e w' => ∃ A2 c2, e = .returned (.slice A2 2 c2) /\ Kd.string.C w' A2 2 [(⟨#[65]⟩ : ByteArray), (⟨#[66]⟩ : ByteArray)] /\ 2 <= c2 /\ Below w.heap.size w w' := by
 refine (m_Cycle.calls 100 A c L3 _ w h hc (cycle_x key3)).mono ?_
 rintro e w' ⟨v, rfl, hr, hb⟩
 obtain ⟨A2, c2, rfl, l2, g2⟩ := Kd.R_reads hr
 exact ⟨A2, c2, rfl, g2, l2, hb⟩
theorem same_ex (l : List ByteArray) (hl : w_same.f 40 l l = some true) (A1 A2 : Option Addr) (c1 c2 n : Nat) (w : World) (hn : l.length = n) (h1 : Kd.string.C w A1 n l) (h2 : Kd.string.C w A2 n l) (hc1 : n <= c1) (hc2 : n <= c2) :
 Calls Try.prog 14 #[.slice A1 n c1, .slice A2 n c2] w fun e w' => e = .returned (.bool true) /\ Drawn0 w w' := by
 subst hn
 exact w_same.calls 40 A1 c1 l A2 c2 l true w h1 hc1 h2 hc2 hl
theorem same1 : w_same.f 40 [bz [66], bz [65], bz [67]] [bz [66], bz [65], bz [67]] = some true := by kernel_rfl
theorem same2 : w_same.f 40 [bz [66], bz [67]] [bz [66], bz [67]] = some true := by kernel_rfl
theorem same3 : w_same.f 40 [bz [66]] [bz [66]] = some true := by kernel_rfl
theorem same4 : w_same.f 40 [bz [65]] [bz [65]] = some true := by kernel_rfl
theorem same5 : w_same.f 40 [bz [65], bz [66]] [bz [65], bz [66]] = some true := by kernel_rfl
theorem box_x (W : World) (cs : Array Value) : ∃ W1 g, W.alloc (.cells cs 28) = W1 /\ W.heap.size = g /\ W1.heap[g]? = some (.cells cs 28 (0, 0)) /\ Below W.heap.size W W1 := ⟨_, _, rfl, rfl, blk_new W _, below_alloc (Below.refl _ _) _⟩
theorem L1_lit {w : World} {A0 A1 A2 A3 A4 A5 : Option Addr} {c0 c1 c2 c3 c4 c5 : Nat} (h0 : k42.K w (mm ⟨#[65]⟩ [⟨#[66]⟩]) [.string ⟨#[65]⟩, .bool false, .slice A0 0 c0, .slice A1 1 c1, .slice none 0 0])
 (h1 : k42.K w (mm ⟨#[66]⟩ []) [.string ⟨#[66]⟩, .bool false, .slice A2 0 c2, .slice A3 0 c3, .slice none 0 0]) (h2 : k42.K w (mm ⟨#[67]⟩ []) [.string ⟨#[67]⟩, .bool false, .slice A4 0 c4, .slice A5 0 c5, .slice none 0 0]) :
 k42.C (w.alloc (.cells #[.string ⟨#[65]⟩, .bool false, .slice A0 0 c0, .slice A1 1 c1, .slice none 0 0, .string ⟨#[66]⟩, .bool false, .slice A2 0 c2, .slice A3 0 c3, .slice none 0 0, .string ⟨#[67]⟩, .bool false, .slice A4 0 c4, .slice A5 0 c5, .slice none 0 0] 42)) (some ⟨w.heap.size, 0, none⟩) 3 L1 :=
 C_lit k42 w 42 (Reps.c5 h0 (Reps.c5 h1 (Reps.c5 h2 (Reps.none _ _)))) (by decide) rfl
theorem L2_lit {w : World} {A0 A1 : Option Addr} {c0 c1 : Nat} (h0 : k42.K w (mm ⟨#[65]⟩ [⟨#[88]⟩]) [.string ⟨#[65]⟩, .bool false, .slice A0 0 c0, .slice A1 1 c1, .slice none 0 0]) :
 k42.C (w.alloc (.cells #[.string ⟨#[65]⟩, .bool false, .slice A0 0 c0, .slice A1 1 c1, .slice none 0 0] 42)) (some ⟨w.heap.size, 0, none⟩) 1 L2 :=
 C_lit k42 w 42 (Reps.c5 h0 (Reps.none _ _)) (by decide) rfl
theorem L3_lit {w : World} {A0 A1 A2 A3 A4 A5 : Option Addr} {c0 c1 c2 c3 c4 c5 : Nat} (h0 : k42.K w (mm ⟨#[65]⟩ [⟨#[66]⟩]) [.string ⟨#[65]⟩, .bool false, .slice A0 0 c0, .slice A1 1 c1, .slice none 0 0])
 (h1 : k42.K w (mm ⟨#[66]⟩ [⟨#[65]⟩, ⟨#[67]⟩]) [.string ⟨#[66]⟩, .bool false, .slice A2 0 c2, .slice A3 2 c3, .slice none 0 0]) (h2 : k42.K w (mm ⟨#[67]⟩ [⟨#[66]⟩]) [.string ⟨#[67]⟩, .bool false, .slice A4 0 c4, .slice A5 1 c5, .slice none 0 0]) :
 k42.C (w.alloc (.cells #[.string ⟨#[65]⟩, .bool false, .slice A0 0 c0, .slice A1 1 c1, .slice none 0 0, .string ⟨#[66]⟩, .bool false, .slice A2 0 c2, .slice A3 2 c3, .slice none 0 0, .string ⟨#[67]⟩, .bool false, .slice A4 0 c4, .slice A5 1 c5, .slice none 0 0] 42)) (some ⟨w.heap.size, 0, none⟩) 3 L3 :=
 C_lit k42 w 42 (Reps.c5 h0 (Reps.c5 h1 (Reps.c5 h2 (Reps.none _ _)))) (by decide) rfl
theorem stab_cell (a : Addr) (v : Value) : Stab fun w => w.cell? a = some v := fun w w1 hb h => pw_cell_below hb h
theorem box4 {w : World} {g : Nat} {a b c d : Value} {t : TypeId} (h : w.heap[g]? = some (.cells #[a, b, c, d] t (0, 0))) : w.cell? ⟨g, 0, none⟩ = some a /\ w.cell? ⟨g, 1, none⟩ = some b /\ w.cell? ⟨g, 2, none⟩ = some c /\ w.cell? ⟨g, 3, none⟩ = some d :=
 ⟨blk_cell h 0, blk_cell h 1, blk_cell h 2, blk_cell h 3⟩
theorem lev0 {w : World} {A : Option Addr} (h : (Kd.slice 9 Kd.string).C w A 2 [[(⟨#[66]⟩ : ByteArray), (⟨#[67]⟩ : ByteArray)], [(⟨#[65]⟩ : ByteArray)]]) : ∃ ad X f, A = some ad /\ w.cell? ad = some (.slice X 2 f) /\ 2 <= f /\ Kd.string.C w X 2 [(⟨#[66]⟩ : ByteArray), (⟨#[67]⟩ : ByteArray)] := by
 obtain ⟨ad, X, f, h1, h2, h3, h4⟩ := at_L2 h 0 (by decide) (by decide)
 exact ⟨ad, X, f, h1, by have h5 : w.cell? (ad.add 0) = some (.slice X 2 f) := h2; simpa [Addr.add] using h5, h3, h4⟩
theorem sm1 (A1 A2 : Option Addr) (c1 c2 : Nat) (w : World) (h1 : Kd.string.C w A1 3 [(⟨#[66]⟩ : ByteArray), (⟨#[65]⟩ : ByteArray), (⟨#[67]⟩ : ByteArray)]) (h2 : Kd.string.C w A2 3 [(⟨#[66]⟩ : ByteArray), (⟨#[65]⟩ : ByteArray), (⟨#[67]⟩ : ByteArray)]) (hc1 : 3 <= c1) (hc2 : 3 <= c2) : Calls Try.prog 14 #[.slice A1 3 c1, .slice A2 3 c2] w fun e w' => e = .returned (.bool true) /\ Drawn0 w w' := same_ex _ same1 A1 A2 c1 c2 3 w rfl h1 h2 hc1 hc2
theorem sm2 (A1 A2 : Option Addr) (c1 c2 : Nat) (w : World) (h1 : Kd.string.C w A1 2 [(⟨#[66]⟩ : ByteArray), (⟨#[67]⟩ : ByteArray)]) (h2 : Kd.string.C w A2 2 [(⟨#[66]⟩ : ByteArray), (⟨#[67]⟩ : ByteArray)]) (hc1 : 2 <= c1) (hc2 : 2 <= c2) : Calls Try.prog 14 #[.slice A1 2 c1, .slice A2 2 c2] w fun e w' => e = .returned (.bool true) /\ Drawn0 w w' := same_ex _ same2 A1 A2 c1 c2 2 w rfl h1 h2 hc1 hc2
theorem sm3 (A1 A2 : Option Addr) (c1 c2 : Nat) (w : World) (h1 : Kd.string.C w A1 1 [(⟨#[66]⟩ : ByteArray)]) (h2 : Kd.string.C w A2 1 [(⟨#[66]⟩ : ByteArray)]) (hc1 : 1 <= c1) (hc2 : 1 <= c2) : Calls Try.prog 14 #[.slice A1 1 c1, .slice A2 1 c2] w fun e w' => e = .returned (.bool true) /\ Drawn0 w w' := same_ex _ same3 A1 A2 c1 c2 1 w rfl h1 h2 hc1 hc2
theorem sm4 (A1 A2 : Option Addr) (c1 c2 : Nat) (w : World) (h1 : Kd.string.C w A1 1 [(⟨#[65]⟩ : ByteArray)]) (h2 : Kd.string.C w A2 1 [(⟨#[65]⟩ : ByteArray)]) (hc1 : 1 <= c1) (hc2 : 1 <= c2) : Calls Try.prog 14 #[.slice A1 1 c1, .slice A2 1 c2] w fun e w' => e = .returned (.bool true) /\ Drawn0 w w' := same_ex _ same4 A1 A2 c1 c2 1 w rfl h1 h2 hc1 hc2
theorem sm5 (A1 A2 : Option Addr) (c1 c2 : Nat) (w : World) (h1 : Kd.string.C w A1 2 [(⟨#[65]⟩ : ByteArray), (⟨#[66]⟩ : ByteArray)]) (h2 : Kd.string.C w A2 2 [(⟨#[65]⟩ : ByteArray), (⟨#[66]⟩ : ByteArray)]) (hc1 : 2 <= c1) (hc2 : 2 <= c2) : Calls Try.prog 14 #[.slice A1 2 c1, .slice A2 2 c2] w fun e w' => e = .returned (.bool true) /\ Drawn0 w w' := same_ex _ same5 A1 A2 c1 c2 2 w rfl h1 h2 hc1 hc2
theorem awake_calls (w : World) : Calls Try.prog 9 #[] w fun e w' => e = .returned (.bool true) /\ Below w.heap.size w w' := by
 have hu28 := Try.underlying28
 have hu22 := Try.underlying22
 have hu25 := Try.underlying25
 have HS := Az.mk (stab_b w)
 have HP := Az.mk (Below.refl w.heap.size w)
 go_enter Try.func9, Try.ntmps9
 go_upto_region 2 with (first | (go_at_call 23; (with_reducible refine (mod1_ex ⟨#[65]⟩ ⟨#[66]⟩ _).mono ?_); rintro e w1 ⟨A0, c0, A1, c1, rfl, hk, hb⟩; have n0 := Az.mk (HS.1 _ _ hb HP.1); clear HP; have HP := n0; clear n0; have HK0 := Az.mk hk; clear hk hb) | (go_at_call 23; (with_reducible refine (mod0_ex ⟨#[66]⟩ _).mono ?_); rintro e w2 ⟨A2, c2, A3, c3, rfl, hk, hb⟩; have n0 := Az.mk (HS.1 _ _ hb HP.1); clear HP; have HP := n0; clear n0; have n0 := Az.mk (stab_k _ _ _ _ _ hb HK0.1); clear HK0; have HK0 := n0; clear n0; have HK1 := Az.mk hk; clear hk hb) | (go_at_call 23; (with_reducible refine (mod0_ex ⟨#[67]⟩ _).mono ?_); rintro e w3 ⟨A4, c4, A5, c5, rfl, hk, hb⟩; have n0 := Az.mk (HS.1 _ _ hb HP.1); clear HP; have HP := n0; clear n0; have n0 := Az.mk (stab_k _ _ _ _ _ hb HK0.1); clear HK0; have HK0 := n0; clear n0; have n0 := Az.mk (stab_k _ _ _ _ _ hb HK1.1); clear HK1; have HK1 := n0; clear n0; have HK2 := Az.mk hk; clear hk hb))
 have hl := L1_lit HK0.1 HK1.1 HK2.1
 have hb := below_alloc (Below.refl w3.heap.size w3) (.cells #[Value.string ⟨#[65]⟩, Value.bool false, Value.slice A0 0 c0, Value.slice A1 1 c1, Value.slice none 0 0, Value.string ⟨#[66]⟩, Value.bool false, Value.slice A2 0 c2, Value.slice A3 0 c3, Value.slice none 0 0, Value.string ⟨#[67]⟩, Value.bool false, Value.slice A4 0 c4, Value.slice A5 0 c5, Value.slice none 0 0] 42)
 generalize w3.alloc (.cells #[Value.string ⟨#[65]⟩, Value.bool false, Value.slice A0 0 c0, Value.slice A1 1 c1, Value.slice none 0 0, Value.string ⟨#[66]⟩, Value.bool false, Value.slice A2 0 c2, Value.slice A3 0 c3, Value.slice none 0 0, Value.string ⟨#[67]⟩, Value.bool false, Value.slice A4 0 c4, Value.slice A5 0 c5, Value.slice none 0 0] 42) = W4 at *
 have HP1 := Az.mk (And.intro (HS.1 _ _ hb HP.1) hl)
 have HS1 := Az.mk (stab_and HS.1 (stab_c k42 (some ⟨w3.heap.size, 0, none⟩) 3 L1))
 clear HP HS hb hl HK0 HK1 HK2
 generalize (some (⟨w3.heap.size, 0, none⟩ : Addr)) = AL at *
 go_upto_region 3 with (first | (go_at_call 10; (with_reducible refine (ord_ex _ _ _ HP1.1.2 (Nat.le_refl _)).mono ?_); rintro e w4 ⟨B2, d2, rfl, hc, hl2, hb⟩; have HX := Az.mk (HS1.1 _ _ hb HP1.1); clear HP1; have HP1 := HX; clear HX; have HC := Az.mk hc; clear hc; clear hb))
 obtain ⟨W12, g2, e1, e2, hx, hb⟩ := box_x w4 #[.int .i64 0, .string ⟨#[]⟩, .int .i64 0, .int .i64 0]
 rw [e1, e2]
 clear e1 e2
 have HQ := Az.mk (And.intro (HS1.1 _ _ hb HP1.1) (And.intro (Kd.C_below HC.1 hb) hx))
 have HT := Az.mk (stab_and HS1.1 (stab_and (stab_c Kd.string B2 3 [(⟨#[66]⟩ : ByteArray), (⟨#[65]⟩ : ByteArray), (⟨#[67]⟩ : ByteArray)]) (stab_x g2 #[.int .i64 0, .string ⟨#[]⟩, .int .i64 0, .int .i64 0] 28)))
 clear HP1 HS1 hb hx HC
 have HP2 := HQ
 have HS2 := HT
 clear HQ HT
 go_upto_region 4 with (first | (go_at_call 12; (with_reducible refine (lev_ex _ _ _ HP2.1.1.2 (Nat.le_refl _)).mono ?_); rintro e w5 ⟨B3, d3, rfl, hc, hl3, hb⟩; have HX := Az.mk (HS2.1 _ _ hb HP2.1); clear HP2; have HP2 := HX; clear HX; have HC := Az.mk hc; clear hc; clear hb))
 obtain ⟨W13, g3, e1, e2, hx, hb⟩ := box_x w5 #[.int .i64 0, .string ⟨#[]⟩, .int .i64 0, .int .i64 0]
 rw [e1, e2]
 clear e1 e2
 have HQ := Az.mk (And.intro (HS2.1 _ _ hb HP2.1) (And.intro (Kd.C_below HC.1 hb) hx))
 have HT := Az.mk (stab_and HS2.1 (stab_and (stab_c (Kd.slice 9 Kd.string) B3 2 [[(⟨#[66]⟩ : ByteArray), (⟨#[67]⟩ : ByteArray)], [(⟨#[65]⟩ : ByteArray)]]) (stab_x g3 #[.int .i64 0, .string ⟨#[]⟩, .int .i64 0, .int .i64 0] 28)))
 clear HP2 HS2 hb hx HC
 have HP3 := HQ
 have HS3 := HT
 clear HQ HT
 go_upto_region 5 with (first | (go_at_call 15; (with_reducible refine (needs_ex _ _ _ HP3.1.1.1.2 (Nat.le_refl _)).mono ?_); rintro e w6 ⟨B4, d4, rfl, hc, hl4, hb⟩; have HX := Az.mk (HS3.1 _ _ hb HP3.1); clear HP3; have HP3 := HX; clear HX; have HC := Az.mk hc; clear hc; clear hb))
 obtain ⟨W14, g4, e1, e2, hx, hb⟩ := box_x w6 #[.int .i64 0, .string ⟨#[]⟩, .int .i64 0, .int .i64 0]
 rw [e1, e2]
 clear e1 e2
 have HQ := Az.mk (And.intro (HS3.1 _ _ hb HP3.1) (And.intro (Kd.C_below HC.1 hb) hx))
 have HT := Az.mk (stab_and HS3.1 (stab_and (stab_c Kd.string B4 1 [(⟨#[66]⟩ : ByteArray)]) (stab_x g4 #[.int .i64 0, .string ⟨#[]⟩, .int .i64 0, .int .i64 0] 28)))
 clear HP3 HS3 hb hx HC
 have HP4 := HQ
 have HS4 := HT
 clear HQ HT
 go_upto_region 6 with (first | (go_at_call 17; (with_reducible refine (users_ex _ _ _ HP4.1.1.1.1.2 (Nat.le_refl _)).mono ?_); rintro e w7 ⟨B5, d5, rfl, hc, hl5, hb⟩; have HX := Az.mk (HS4.1 _ _ hb HP4.1); clear HP4; have HP4 := HX; clear HX; have HC := Az.mk hc; clear hc; clear hb))
 obtain ⟨W15, g5, e1, e2, hx, hb⟩ := box_x w7 #[.int .i64 0, .string ⟨#[]⟩, .int .i64 0, .int .i64 0]
 rw [e1, e2]
 clear e1 e2
 have HQ := Az.mk (And.intro (HS4.1 _ _ hb HP4.1) (And.intro (Kd.C_below HC.1 hb) hx))
 have HT := Az.mk (stab_and HS4.1 (stab_and (stab_c Kd.string B5 1 [(⟨#[65]⟩ : ByteArray)]) (stab_x g5 #[.int .i64 0, .string ⟨#[]⟩, .int .i64 0, .int .i64 0] 28)))
 clear HP4 HS4 hb hx HC
 have HP5 := HQ
 have HS5 := HT
 clear HQ HT
 go_upto_region 7 with (first | (go_at_call 23; (with_reducible refine (mod1_ex ⟨#[65]⟩ ⟨#[88]⟩ _).mono ?_); rintro e w8 ⟨E0, f0, E1, f1, rfl, hk, hb⟩; have n0 := Az.mk (HS5.1 _ _ hb HP5.1); clear HP5; have HP5 := n0; clear n0; have HK0 := Az.mk hk; clear hk hb) | (go_at_call 10; (with_reducible refine (miss_ex _ _ _ (L2_lit HK0.1) (Nat.le_refl _)).mono ?_); rintro e w9 ⟨E2, f2, rfl, hb⟩; have n0 := Az.mk (HS5.1 _ _ (below_step (below_alloc (Below.refl _ _) _) hb) HP5.1); clear HP5; have HP5 := n0; clear n0; clear hb HK0))
 obtain ⟨W16, g6, e1, e2, hx, hb⟩ := box_x w9 #[.int .i64 16, .string ⟨#[88]⟩, .int .i64 0, .int .i64 0]
 rw [e1, e2]
 clear e1 e2
 have HQ := Az.mk (And.intro (HS5.1 _ _ hb HP5.1) hx)
 have HT := Az.mk (stab_and HS5.1 (stab_x g6 #[.int .i64 16, .string ⟨#[88]⟩, .int .i64 0, .int .i64 0] 28))
 clear HP5 HS5 hb hx
 have HP6 := HQ
 have HS6 := HT
 clear HQ HT
 go_upto_region 8 with (first | (go_at_call 23; (with_reducible refine (mod1_ex ⟨#[65]⟩ ⟨#[66]⟩ _).mono ?_); rintro e wa ⟨G0, h0, G1, h1, rfl, hk, hb⟩; have n0 := Az.mk (HS6.1 _ _ hb HP6.1); clear HP6; have HP6 := n0; clear n0; have HK0 := Az.mk hk; clear hk hb) | (go_at_call 23; (with_reducible refine (mod2_ex ⟨#[66]⟩ ⟨#[65]⟩ ⟨#[67]⟩ _).mono ?_); rintro e wb ⟨G2, h2, G3, h3, rfl, hk, hb⟩; have n0 := Az.mk (HS6.1 _ _ hb HP6.1); clear HP6; have HP6 := n0; clear n0; have n0 := Az.mk (stab_k _ _ _ _ _ hb HK0.1); clear HK0; have HK0 := n0; clear n0; have HK1 := Az.mk hk; clear hk hb) | (go_at_call 23; (with_reducible refine (mod1_ex ⟨#[67]⟩ ⟨#[66]⟩ _).mono ?_); rintro e wc ⟨G4, h4, G5, h5, rfl, hk, hb⟩; have n0 := Az.mk (HS6.1 _ _ hb HP6.1); clear HP6; have HP6 := n0; clear n0; have n0 := Az.mk (stab_k _ _ _ _ _ hb HK0.1); clear HK0; have HK0 := n0; clear n0; have n0 := Az.mk (stab_k _ _ _ _ _ hb HK1.1); clear HK1; have HK1 := n0; clear n0; have HK2 := Az.mk hk; clear hk hb) | (go_at_call 19; (with_reducible refine (cyc_ex _ _ _ (L3_lit HK0.1 HK1.1 HK2.1) (Nat.le_refl _)).mono ?_); rintro e wd ⟨B7, d7, rfl, hc, hl7, hb⟩; have n0 := Az.mk (And.intro (HS6.1 _ _ (below_step (below_alloc (Below.refl _ _) _) hb) HP6.1) hc); clear HP6; have HP7 := n0; clear n0; have HS7 := Az.mk (stab_and HS6.1 (stab_c Kd.string B7 2 [(⟨#[65]⟩ : ByteArray), (⟨#[66]⟩ : ByteArray)])); clear hb hc HK0 HK1 HK2 HS6))
 go_upto_region 9 with fail
 obtain ⟨W18, g8, e1, e2, hx, hb⟩ := box_x wd #[.int .i64 0, .string ⟨#[]⟩, .int .i64 0, .int .i64 0]
 rw [e1, e2]
 clear e1 e2
 have HQ := Az.mk (And.intro (HS7.1 _ _ hb HP7.1) hx)
 have HT := Az.mk (stab_and HS7.1 (stab_x g8 #[.int .i64 0, .string ⟨#[]⟩, .int .i64 0, .int .i64 0] 28))
 clear HP7 HS7 hb hx
 have HP8 := HQ
 have HS8 := HT
 clear HQ HT
 obtain ⟨ad3, X3, f3, rfl, hx3, hfl, hX⟩ := lev0 HP8.1.1.1.1.1.1.2.1
 have HQ := Az.mk (And.intro HP8.1 (And.intro hx3 hX))
 have HT := Az.mk (stab_and HS8.1 (stab_and (stab_cell ad3 (.slice X3 2 f3)) (stab_c Kd.string X3 2 [(⟨#[66]⟩ : ByteArray), (⟨#[67]⟩ : ByteArray)])))
 clear HP8 HS8 hx3 hX
 have HP9 := HQ
 have HS9 := HT
 clear HQ HT
 obtain ⟨x20, x21, x22, x23⟩ := box4 HP9.1.1.1.1.1.1.1.1.2.2
 obtain ⟨x30, x31, x32, x33⟩ := box4 HP9.1.1.1.1.1.1.1.2.2
 obtain ⟨x40, x41, x42, x43⟩ := box4 HP9.1.1.1.1.1.1.2.2
 obtain ⟨x50, x51, x52, x53⟩ := box4 HP9.1.1.1.1.1.2.2
 obtain ⟨x80, x81, x82, x83⟩ := box4 HP9.1.1.2
 go_wp2_with (first | (go_at_call 14; (with_reducible refine (sm1 _ _ _ _ _ (Kd.C_alloc HP9.1.1.1.1.1.1.1.1.2.1 _) (sC3 _ _ _ _) hl2 (Nat.le_refl _)).mono ?_); rintro e w20 ⟨rfl, hd⟩; have n0 := Az.mk (HS9.1 _ _ (below_step (below_alloc (Below.refl _ _) _) hd.below) HP9.1); clear HP9; have HP9 := n0; clear n0 hd x20 x21 x22 x23 x30 x31 x32 x33 x40 x41 x42 x43 x50 x51 x52 x53 x80 x81 x82 x83; have yy := HP9.1.2.1) | (go_at_call 14; (with_reducible refine (sm2 _ _ _ _ _ (Kd.C_alloc HP9.1.2.2 _) (sC2 _ _ _) hfl (Nat.le_refl _)).mono ?_); rintro e w21 ⟨rfl, hd⟩; have n0 := Az.mk (HS9.1 _ _ (below_step (below_alloc (Below.refl _ _) _) hd.below) HP9.1); clear HP9; have HP9 := n0; clear n0 hd yy) | (go_at_call 14; (with_reducible refine (sm3 _ _ _ _ _ (Kd.C_alloc HP9.1.1.1.1.1.1.2.1 _) (sC1 _ _) hl4 (Nat.le_refl _)).mono ?_); rintro e w22 ⟨rfl, hd⟩; have n0 := Az.mk (HS9.1 _ _ (below_step (below_alloc (Below.refl _ _) _) hd.below) HP9.1); clear HP9; have HP9 := n0; clear n0 hd) | (go_at_call 14; (with_reducible refine (sm4 _ _ _ _ _ (Kd.C_alloc HP9.1.1.1.1.1.2.1 _) (sC1 _ _) hl5 (Nat.le_refl _)).mono ?_); rintro e w23 ⟨rfl, hd⟩; have n0 := Az.mk (HS9.1 _ _ (below_step (below_alloc (Below.refl _ _) _) hd.below) HP9.1); clear HP9; have HP9 := n0; clear n0 hd; obtain ⟨x60, x61, x62, x63⟩ := box4 HP9.1.1.1.1.2) | (go_at_call 14; (with_reducible refine (sm5 _ _ _ _ _ (Kd.C_alloc HP9.1.1.1.2 _) (sC2 _ _ _) hl7 (Nat.le_refl _)).mono ?_); rintro e w24 ⟨rfl, hd⟩; have n0 := Az.mk (HS9.1 _ _ (below_step (below_alloc (Below.refl _ _) _) hd.below) HP9.1); clear HP9; have HP9 := n0; clear n0 hd x60 x61 x62 x63))
 go_ret
 exact ⟨rfl, HP9.1.1.1.1.1.1.1.1.1.1⟩
end Aw
namespace P
noncomputable def w_awake.f : Option Bool := some true
theorem w_awake.calls (r : Bool) (w : World) (h : w_awake.f = some r) : Calls Try.prog 9 #[] w fun e w' => e = .returned (.bool r) /\ Below w.heap.size w w' := by
 obtain rfl := Option.some.inj h
 exact Aw.awake_calls w
end P
end Go.Proofs.Ytmadhaccjmakdaa
namespace Go.Proofs.Ytmadhaccjmakdaa.P
open Go.RowKit Go.Proofs.Yw.A Go.Proofs.Yw.A.Kd Go.Proofs.Yw.B Go.Proofs.Yw.C
attribute [local go_sem] str_gtr str_leq str_geq max2_int min2_int max_two min_two max_three min_three max_four min_four
attribute [local go_sem high] eqA28
noncomputable def w_ModgraphNeeds.f (k : Nat) (l0 : List (S42)) (a1 : ByteArray) : Option (Bool) := (w_small.f k l0).bind fun t546 => (if t546 = true then ((m_Needs.f k l0 a1).bind fun bt548 => ((r_Needs.f k l0 a1).bind fun bt556 => ((m_Users.f l0 a1).bind fun bt564 => ((r_Users.f k l0 a1).bind fun bt572 => ((w_same.f k bt548.1 bt556.1).bind fun t580 => (if t580 = true then (if (bt548.2.1 == bt556.2.1 && (bt548.2.2.1.toList == bt556.2.2.1.toList && (bt548.2.2.2.1 == bt556.2.2.2.1 && (bt548.2.2.2.2 == bt556.2.2.2.2)))) = true then ((w_same.f k bt564.1 bt572.1).bind fun t581 => (if t581 = true then (if (bt564.2.1 == bt572.2.1 && (bt564.2.2.1.toList == bt572.2.2.1.toList && (bt564.2.2.2.1 == bt572.2.2.2.1 && (bt564.2.2.2.2 == bt572.2.2.2.2)))) = true then ((w_awake.f).bind fun t582 => (some t582)) else (some false)) else (some false))) else (some false)) else (some false))))))) else ((w_awake.f).bind fun t547 => (some t547)))
theorem w_ModgraphNeeds.calls (k : Nat) (A0 : Option Addr) (c0 : Nat) (l0 : List (S42)) (a1 : ByteArray) (r : Bool) (w : World) (hr0 : Kd.C k42 w A0 l0.length l0) (hc0 : l0.length <= c0) (h : w_ModgraphNeeds.f k l0 a1 = some r) :
 Calls Try.prog 4 #[.slice A0 l0.length c0, .string a1] w fun e w' => e = .returned (.bool r) /\ Below w.heap.size w w' := by
 have hu28 := Try.underlying28
 have HR0 := aM hr0
 have HC0 := aM hc0
 clear hr0 hc0
 have HB := aM (Below.refl w.heap.size w)
 have H : ((w_small.f k l0).bind fun t546 => (if t546 = true then ((m_Needs.f k l0 a1).bind fun bt548 => ((r_Needs.f k l0 a1).bind fun bt556 => ((m_Users.f l0 a1).bind fun bt564 => ((r_Users.f k l0 a1).bind fun bt572 => ((w_same.f k bt548.1 bt556.1).bind fun t580 => (if t580 = true then (if (bt548.2.1 == bt556.2.1 && (bt548.2.2.1.toList == bt556.2.2.1.toList && (bt548.2.2.2.1 == bt556.2.2.2.1 && (bt548.2.2.2.2 == bt556.2.2.2.2)))) = true then ((w_same.f k bt564.1 bt572.1).bind fun t581 => (if t581 = true then (if (bt564.2.1 == bt572.2.1 && (bt564.2.2.1.toList == bt572.2.2.1.toList && (bt564.2.2.2.1 == bt572.2.2.2.1 && (bt564.2.2.2.2 == bt572.2.2.2.2)))) = true then ((w_awake.f).bind fun t582 => (some t582)) else (some false)) else (some false))) else (some false)) else (some false))))))) else ((w_awake.f).bind fun t547 => (some t547)))) = some r := h
 clear h
 replace H := Option.bind_eq_some_iff.mp H
 obtain ⟨t546, A30, H⟩ := H
 try dsimp only at H
 have A3 := aM A30
 clear A30
 by_cases c4 : t546 = true
 rotate_left
 · replace c4 := Bool.eq_false_iff.mpr c4
   subst c4
   rw [if_neg (show ¬ (false = true) by decide)] at H
   replace H := Option.bind_eq_some_iff.mp H
   obtain ⟨t547, A1330, H⟩ := H
   try dsimp only at H
   have A133 := aM A1330
   clear A1330
   obtain rfl := Option.some.inj H
   go_enter Try.func4, Try.ntmps4
   go_wp2_with (first | ((with_reducible refine gate_callee (f := 8) rfl ?_); refine gL (some 14) rfl rfl Try.func8 (by kernel_rfl) rfl #[.slice A0 l0.length c0] rfl ?_; (with_reducible refine (w_small.calls k _ _ l0 false _ ?side1 ?side2 A3.1).mono ?_); (case side1 => exact ck HR0); (case side2 => exact HC0.1); rintro e w' ⟨rfl, ⟨nd, rfl⟩⟩; refine ⟨_, rfl, ?_⟩) | ((with_reducible refine gate_callee (f := 9) rfl ?_); refine gL (some 16) rfl rfl Try.func9 (by kernel_rfl) rfl #[] rfl ?_; (with_reducible refine (w_awake.calls  t547 _ A133.1).mono ?_); rintro e w134 ⟨rfl, hb⟩; refine ⟨_, rfl, ?_⟩; replace HB := bs HB hb; clear hb))
   go_ret
   exact ⟨by first | rfl | (simp [errW_none, errW_some] <;> rfl) | (simp [*, errW_none, errW_some] <;> rfl), hh HB⟩
 subst c4
 rw [if_pos rfl] at H
 replace H := Option.bind_eq_some_iff.mp H
 obtain ⟨⟨t548, t551, t552, t553, t554⟩, A50, H⟩ := H
 try dsimp only at H
 have A5 := aM A50
 clear A50
 replace H := Option.bind_eq_some_iff.mp H
 obtain ⟨⟨t556, t559, t560, t561, t562⟩, A60, H⟩ := H
 try dsimp only at H
 have A6 := aM A60
 clear A60
 replace H := Option.bind_eq_some_iff.mp H
 obtain ⟨⟨t564, t567, t568, t569, t570⟩, A70, H⟩ := H
 try dsimp only at H
 have A7 := aM A70
 clear A70
 replace H := Option.bind_eq_some_iff.mp H
 obtain ⟨⟨t572, t575, t576, t577, t578⟩, A80, H⟩ := H
 try dsimp only at H
 have A8 := aM A80
 clear A80
 replace H := Option.bind_eq_some_iff.mp H
 obtain ⟨t580, A90, H⟩ := H
 try dsimp only at H
 have A9 := aM A90
 clear A90
 by_cases c10 : t580 = true
 rotate_left
 · replace c10 := Bool.eq_false_iff.mpr c10
   subst c10
   rw [if_neg (show ¬ (false = true) by decide)] at H
   obtain rfl := Option.some.inj H
   go_enter Try.func4, Try.ntmps4
   go_wp2_with (first | ((with_reducible refine gate_callee (f := 8) rfl ?_); refine gL (some 14) rfl rfl Try.func8 (by kernel_rfl) rfl #[.slice A0 l0.length c0] rfl ?_; (with_reducible refine (w_small.calls k _ _ l0 true _ ?side1 ?side2 A3.1).mono ?_); (case side1 => exact ck HR0); (case side2 => exact HC0.1); rintro e w' ⟨rfl, ⟨nd, rfl⟩⟩; refine ⟨_, rfl, ?_⟩) | ((with_reducible refine gate_callee (f := 15) rfl ?_); refine gL (some 20) rfl rfl Try.func15 (by kernel_rfl) rfl #[.slice A0 l0.length c0, .string a1] rfl ?_; (with_reducible refine (m_Needs.calls k _ _ l0 a1 t548 t551 t552 t553 t554 _ ?side1 ?side2 A5.1).mono ?_); (case side1 => exact ck HR0); (case side2 => exact HC0.1); rintro e w113 ⟨v549, rfl, ho0, hb⟩; refine ⟨_, rfl, ?_⟩; have HO550 := aM (R_lower ho0 (below_size (hh HB))); replace HB := bs HB hb; clear hb ho0) | ((with_reducible refine gate_dst (N := 6) rfl ?_); refine be 6 rfl rfl #[.int .i64 0, .string (⟨#[]⟩ : ByteArray), .int .i64 0, .int .i64 0] 28 ?_; intro gb555 hg w114 hbox hb; have BK555 := aM hbox; have GE555 := gs hg HB; replace HO550 := rb HO550 hb; replace HB := bs HB hb; clear hb hbox hg; obtain ⟨hcz115_0, hcz115_1, hcz115_2, hcz115_3⟩ := cz BK555; obtain ⟨hfz115_0, hfz115_1, hfz115_2, hfz115_3⟩ := fz BK555) | ((with_reducible refine gate_callee (f := 16) rfl ?_); refine gL (some 26) rfl rfl Try.func16 (by kernel_rfl) rfl #[.slice A0 l0.length c0, .string a1] rfl ?_; (with_reducible refine (r_Needs.calls k _ _ l0 a1 t556 t559 t560 t561 t562 _ ?side1 ?side2 A6.1).mono ?_); (case side1 => exact C_below HR0.1 (hh HB)); (case side2 => exact HC0.1); rintro e w116 ⟨v557, rfl, ho0, hb⟩; refine ⟨_, rfl, ?_⟩; have HO558 := aM (R_lower (R_new' ho0 (R_lt (rz (rf4 HO550 BK555 (by decide))))) (below_size (hh HB))); replace HO550 := aM (R_elder' (rz (rf4 HO550 BK555 (by decide))) (R_base ho0) hb); replace BK555 := kg (o' := .cells #[.int .i64 t551, .string t552, .int .i64 t553, .int .i64 t554] 28 (0, 0)) BK555 hb; replace HB := bs HB hb; clear hb ho0) | ((with_reducible refine gate_dst (N := 8) rfl ?_); refine be 8 rfl rfl #[.int .i64 0, .string (⟨#[]⟩ : ByteArray), .int .i64 0, .int .i64 0] 28 ?_; intro gb563 hg w117 hbox hb; have BK563 := aM hbox; have GE563 := gs hg HB; have NB555_563 := nl hg BK555; have NB563_555 := nr hg BK555; replace HO550 := rb HO550 hb; replace HO558 := rb HO558 hb; replace BK555 := kb BK555 hb; replace HB := bs HB hb; clear hb hbox hg; have hnb118 := NB563_555.1; have hnc118 := NB555_563.1; obtain ⟨hcz119_0, hcz119_1, hcz119_2, hcz119_3⟩ := cz BK563; obtain ⟨hfz119_0, hfz119_1, hfz119_2, hfz119_3⟩ := fz BK563) | ((with_reducible refine gate_callee (f := 17) rfl ?_); refine gL (some 32) rfl rfl Try.func17 (by kernel_rfl) rfl #[.slice A0 l0.length c0, .string a1] rfl ?_; (with_reducible refine (m_Users.calls _ _ l0 a1 t564 t567 t568 t569 t570 _ ?side1 ?side2 A7.1).mono ?_); (case side1 => exact C_below HR0.1 (hh HB)); (case side2 => exact HC0.1); rintro e w120 ⟨v565, rfl, ho0, hb⟩; refine ⟨_, rfl, ?_⟩; have HO566 := aM (R_lower (R_new' (R_new' ho0 (R_lt (rz (rf4 HO550 BK563 (by decide))))) (R_lt (rz (rf4 HO558 BK563 (by decide))))) (below_size (hh HB))); replace HO550 := aM (R_elder' (rz (rf4 HO550 BK563 (by decide))) (R_base ho0) hb); replace HO558 := aM (R_elder' (rz (rf4 HO558 BK563 (by decide))) (R_base ho0) hb); replace BK555 := kg (o' := .cells #[.int .i64 t551, .string t552, .int .i64 t553, .int .i64 t554] 28 (0, 0)) BK555 hb; replace BK563 := kg (o' := .cells #[.int .i64 t559, .string t560, .int .i64 t561, .int .i64 t562] 28 (0, 0)) BK563 hb; replace HB := bs HB hb; clear hb ho0) | ((with_reducible refine gate_dst (N := 10) rfl ?_); refine be 10 rfl rfl #[.int .i64 0, .string (⟨#[]⟩ : ByteArray), .int .i64 0, .int .i64 0] 28 ?_; intro gb571 hg w121 hbox hb; have BK571 := aM hbox; have GE571 := gs hg HB; have NB555_571 := nl hg BK555; have NB571_555 := nr hg BK555; have NB563_571 := nl hg BK563; have NB571_563 := nr hg BK563; replace HO550 := rb HO550 hb; replace HO558 := rb HO558 hb; replace HO566 := rb HO566 hb; replace BK555 := kb BK555 hb; replace BK563 := kb BK563 hb; replace HB := bs HB hb; clear hb hbox hg; have hnb122 := NB571_555.1; have hnc122 := NB555_571.1; have hnb123 := NB571_563.1; have hnc123 := NB563_571.1; obtain ⟨hcz124_0, hcz124_1, hcz124_2, hcz124_3⟩ := cz BK571; obtain ⟨hfz124_0, hfz124_1, hfz124_2, hfz124_3⟩ := fz BK571) | ((with_reducible refine gate_callee (f := 18) rfl ?_); refine gL (some 38) rfl rfl Try.func18 (by kernel_rfl) rfl #[.slice A0 l0.length c0, .string a1] rfl ?_; (with_reducible refine (r_Users.calls k _ _ l0 a1 t572 t575 t576 t577 t578 _ ?side1 ?side2 A8.1).mono ?_); (case side1 => exact C_below HR0.1 (hh HB)); (case side2 => exact HC0.1); rintro e w125 ⟨v573, rfl, ho0, hb⟩; refine ⟨_, rfl, ?_⟩; have HO574 := aM (R_lower (R_new' (R_new' (R_new' ho0 (R_lt (rz (rf4 HO550 BK571 (by decide))))) (R_lt (rz (rf4 HO558 BK571 (by decide))))) (R_lt (rz (rf4 HO566 BK571 (by decide))))) (below_size (hh HB))); replace HO550 := aM (R_elder' (rz (rf4 HO550 BK571 (by decide))) (R_base ho0) hb); replace HO558 := aM (R_elder' (rz (rf4 HO558 BK571 (by decide))) (R_base ho0) hb); replace HO566 := aM (R_elder' (rz (rf4 HO566 BK571 (by decide))) (R_base ho0) hb); replace BK555 := kg (o' := .cells #[.int .i64 t551, .string t552, .int .i64 t553, .int .i64 t554] 28 (0, 0)) BK555 hb; replace BK563 := kg (o' := .cells #[.int .i64 t559, .string t560, .int .i64 t561, .int .i64 t562] 28 (0, 0)) BK563 hb; replace BK571 := kg (o' := .cells #[.int .i64 t567, .string t568, .int .i64 t569, .int .i64 t570] 28 (0, 0)) BK571 hb; replace HB := bs HB hb; clear hb ho0) | ((with_reducible refine gate_dst (N := 12) rfl ?_); refine be 12 rfl rfl #[.int .i64 0, .string (⟨#[]⟩ : ByteArray), .int .i64 0, .int .i64 0] 28 ?_; intro gb579 hg w126 hbox hb; have BK579 := aM hbox; have GE579 := gs hg HB; have NB555_579 := nl hg BK555; have NB579_555 := nr hg BK555; have NB563_579 := nl hg BK563; have NB579_563 := nr hg BK563; have NB571_579 := nl hg BK571; have NB579_571 := nr hg BK571; replace HO550 := rb HO550 hb; replace HO558 := rb HO558 hb; replace HO566 := rb HO566 hb; replace HO574 := rb HO574 hb; replace BK555 := kb BK555 hb; replace BK563 := kb BK563 hb; replace BK571 := kb BK571 hb; replace HB := bs HB hb; clear hb hbox hg; have hnb127 := NB579_555.1; have hnc127 := NB555_579.1; have hnb128 := NB579_563.1; have hnc128 := NB563_579.1; have hnb129 := NB579_571.1; have hnc129 := NB571_579.1; obtain ⟨hcz130_0, hcz130_1, hcz130_2, hcz130_3⟩ := cz BK579; obtain ⟨hfz130_0, hfz130_1, hfz130_2, hfz130_3⟩ := fz BK579; obtain ⟨Ao131, co131, eo131⟩ := R_slice HO550.1; subst eo131; obtain ⟨Ao132, co132, eo132⟩ := R_slice HO558.1; subst eo132) | ((with_reducible refine gate_callee (f := 14) rfl ?_); refine gL (some 43) rfl rfl Try.func14 (by kernel_rfl) rfl #[.slice Ao131 t548.length co131, .slice Ao132 t556.length co132] rfl ?_; (with_reducible refine (w_same.calls k _ _ t548 _ _ t556 false _ ?side1 ?side2 ?side3 ?side4 A9.1).mono ?_); (case side1 => refine (R_reads' (e := 9) (base := w.heap.size) (ok := fun k_ => (((True /\ some k_ ≠ (.slice Ao132 t556.length co132 : Value).ownBlock) /\ some k_ ≠ (v565 : Value).ownBlock) /\ some k_ ≠ (v573 : Value).ownBlock)) (n := t548.length) (c := co131) ?_).2.2; exact (rz (rf4 HO550 BK579 (by decide)))); (case side2 => exact (R_reads' HO550.1).2.1); (case side3 => refine (R_reads' (e := 9) (base := w.heap.size) (ok := fun k_ => (((True /\ some k_ ≠ (.slice Ao131 t548.length co131 : Value).ownBlock) /\ some k_ ≠ (v565 : Value).ownBlock) /\ some k_ ≠ (v573 : Value).ownBlock)) (n := t556.length) (c := co132) ?_).2.2; exact (rz (rf4 HO558 BK579 (by decide)))); (case side4 => exact (R_reads' HO558.1).2.1); rintro e w' ⟨rfl, ⟨nd, rfl⟩⟩; refine ⟨_, rfl, ?_⟩))
   go_ret
   exact ⟨by first | rfl | (simp [errW_none, errW_some] <;> rfl) | (simp [*, errW_none, errW_some] <;> rfl), hh HB⟩
 subst c10
 rw [if_pos rfl] at H
 by_cases c11 : (t551 == t559 && (t552.toList == t560.toList && (t553 == t561 && (t554 == t562)))) = true
 rotate_left
 · rw [if_neg c11] at H
   have c11b0 : (t551 == t559 && (t552.toList == t560.toList && (t553 == t561 && (t554 == t562)))) = false := by simpa using c11
   (try (have c11b1 : decide (t551 = t559 && (t552.toList == t560.toList && (t553 == t561 && (t554 == t562)))) = false := by simpa using c11))
   (try (have c11b2 : (t551 == t559 && (t552.toList == t560.toList && (t553 == t561 && (t554 == t562)))) = false := by simpa using c11))
   (try (have c11b3 : ¬ (t551 = t559 && (t552.toList == t560.toList && (t553 == t561 && (t554 == t562)))) := by simpa using c11))
   clear c11
   obtain rfl := Option.some.inj H
   go_enter Try.func4, Try.ntmps4
   go_wp2_with (first | ((with_reducible refine gate_callee (f := 8) rfl ?_); refine gL (some 14) rfl rfl Try.func8 (by kernel_rfl) rfl #[.slice A0 l0.length c0] rfl ?_; (with_reducible refine (w_small.calls k _ _ l0 true _ ?side1 ?side2 A3.1).mono ?_); (case side1 => exact ck HR0); (case side2 => exact HC0.1); rintro e w' ⟨rfl, ⟨nd, rfl⟩⟩; refine ⟨_, rfl, ?_⟩) | ((with_reducible refine gate_callee (f := 15) rfl ?_); refine gL (some 20) rfl rfl Try.func15 (by kernel_rfl) rfl #[.slice A0 l0.length c0, .string a1] rfl ?_; (with_reducible refine (m_Needs.calls k _ _ l0 a1 t548 t551 t552 t553 t554 _ ?side1 ?side2 A5.1).mono ?_); (case side1 => exact ck HR0); (case side2 => exact HC0.1); rintro e w91 ⟨v549, rfl, ho0, hb⟩; refine ⟨_, rfl, ?_⟩; have HO550 := aM (R_lower ho0 (below_size (hh HB))); replace HB := bs HB hb; clear hb ho0) | ((with_reducible refine gate_dst (N := 6) rfl ?_); refine be 6 rfl rfl #[.int .i64 0, .string (⟨#[]⟩ : ByteArray), .int .i64 0, .int .i64 0] 28 ?_; intro gb555 hg w92 hbox hb; have BK555 := aM hbox; have GE555 := gs hg HB; replace HO550 := rb HO550 hb; replace HB := bs HB hb; clear hb hbox hg; obtain ⟨hcz93_0, hcz93_1, hcz93_2, hcz93_3⟩ := cz BK555; obtain ⟨hfz93_0, hfz93_1, hfz93_2, hfz93_3⟩ := fz BK555) | ((with_reducible refine gate_callee (f := 16) rfl ?_); refine gL (some 26) rfl rfl Try.func16 (by kernel_rfl) rfl #[.slice A0 l0.length c0, .string a1] rfl ?_; (with_reducible refine (r_Needs.calls k _ _ l0 a1 t556 t559 t560 t561 t562 _ ?side1 ?side2 A6.1).mono ?_); (case side1 => exact C_below HR0.1 (hh HB)); (case side2 => exact HC0.1); rintro e w94 ⟨v557, rfl, ho0, hb⟩; refine ⟨_, rfl, ?_⟩; have HO558 := aM (R_lower (R_new' ho0 (R_lt (rz (rf4 HO550 BK555 (by decide))))) (below_size (hh HB))); replace HO550 := aM (R_elder' (rz (rf4 HO550 BK555 (by decide))) (R_base ho0) hb); replace BK555 := kg (o' := .cells #[.int .i64 t551, .string t552, .int .i64 t553, .int .i64 t554] 28 (0, 0)) BK555 hb; replace HB := bs HB hb; clear hb ho0) | ((with_reducible refine gate_dst (N := 8) rfl ?_); refine be 8 rfl rfl #[.int .i64 0, .string (⟨#[]⟩ : ByteArray), .int .i64 0, .int .i64 0] 28 ?_; intro gb563 hg w95 hbox hb; have BK563 := aM hbox; have GE563 := gs hg HB; have NB555_563 := nl hg BK555; have NB563_555 := nr hg BK555; replace HO550 := rb HO550 hb; replace HO558 := rb HO558 hb; replace BK555 := kb BK555 hb; replace HB := bs HB hb; clear hb hbox hg; have hnb96 := NB563_555.1; have hnc96 := NB555_563.1; obtain ⟨hcz97_0, hcz97_1, hcz97_2, hcz97_3⟩ := cz BK563; obtain ⟨hfz97_0, hfz97_1, hfz97_2, hfz97_3⟩ := fz BK563) | ((with_reducible refine gate_callee (f := 17) rfl ?_); refine gL (some 32) rfl rfl Try.func17 (by kernel_rfl) rfl #[.slice A0 l0.length c0, .string a1] rfl ?_; (with_reducible refine (m_Users.calls _ _ l0 a1 t564 t567 t568 t569 t570 _ ?side1 ?side2 A7.1).mono ?_); (case side1 => exact C_below HR0.1 (hh HB)); (case side2 => exact HC0.1); rintro e w98 ⟨v565, rfl, ho0, hb⟩; refine ⟨_, rfl, ?_⟩; have HO566 := aM (R_lower (R_new' (R_new' ho0 (R_lt (rz (rf4 HO550 BK563 (by decide))))) (R_lt (rz (rf4 HO558 BK563 (by decide))))) (below_size (hh HB))); replace HO550 := aM (R_elder' (rz (rf4 HO550 BK563 (by decide))) (R_base ho0) hb); replace HO558 := aM (R_elder' (rz (rf4 HO558 BK563 (by decide))) (R_base ho0) hb); replace BK555 := kg (o' := .cells #[.int .i64 t551, .string t552, .int .i64 t553, .int .i64 t554] 28 (0, 0)) BK555 hb; replace BK563 := kg (o' := .cells #[.int .i64 t559, .string t560, .int .i64 t561, .int .i64 t562] 28 (0, 0)) BK563 hb; replace HB := bs HB hb; clear hb ho0) | ((with_reducible refine gate_dst (N := 10) rfl ?_); refine be 10 rfl rfl #[.int .i64 0, .string (⟨#[]⟩ : ByteArray), .int .i64 0, .int .i64 0] 28 ?_; intro gb571 hg w99 hbox hb; have BK571 := aM hbox; have GE571 := gs hg HB; have NB555_571 := nl hg BK555; have NB571_555 := nr hg BK555; have NB563_571 := nl hg BK563; have NB571_563 := nr hg BK563; replace HO550 := rb HO550 hb; replace HO558 := rb HO558 hb; replace HO566 := rb HO566 hb; replace BK555 := kb BK555 hb; replace BK563 := kb BK563 hb; replace HB := bs HB hb; clear hb hbox hg; have hnb100 := NB571_555.1; have hnc100 := NB555_571.1; have hnb101 := NB571_563.1; have hnc101 := NB563_571.1; obtain ⟨hcz102_0, hcz102_1, hcz102_2, hcz102_3⟩ := cz BK571; obtain ⟨hfz102_0, hfz102_1, hfz102_2, hfz102_3⟩ := fz BK571) | ((with_reducible refine gate_callee (f := 18) rfl ?_); refine gL (some 38) rfl rfl Try.func18 (by kernel_rfl) rfl #[.slice A0 l0.length c0, .string a1] rfl ?_; (with_reducible refine (r_Users.calls k _ _ l0 a1 t572 t575 t576 t577 t578 _ ?side1 ?side2 A8.1).mono ?_); (case side1 => exact C_below HR0.1 (hh HB)); (case side2 => exact HC0.1); rintro e w103 ⟨v573, rfl, ho0, hb⟩; refine ⟨_, rfl, ?_⟩; have HO574 := aM (R_lower (R_new' (R_new' (R_new' ho0 (R_lt (rz (rf4 HO550 BK571 (by decide))))) (R_lt (rz (rf4 HO558 BK571 (by decide))))) (R_lt (rz (rf4 HO566 BK571 (by decide))))) (below_size (hh HB))); replace HO550 := aM (R_elder' (rz (rf4 HO550 BK571 (by decide))) (R_base ho0) hb); replace HO558 := aM (R_elder' (rz (rf4 HO558 BK571 (by decide))) (R_base ho0) hb); replace HO566 := aM (R_elder' (rz (rf4 HO566 BK571 (by decide))) (R_base ho0) hb); replace BK555 := kg (o' := .cells #[.int .i64 t551, .string t552, .int .i64 t553, .int .i64 t554] 28 (0, 0)) BK555 hb; replace BK563 := kg (o' := .cells #[.int .i64 t559, .string t560, .int .i64 t561, .int .i64 t562] 28 (0, 0)) BK563 hb; replace BK571 := kg (o' := .cells #[.int .i64 t567, .string t568, .int .i64 t569, .int .i64 t570] 28 (0, 0)) BK571 hb; replace HB := bs HB hb; clear hb ho0) | ((with_reducible refine gate_dst (N := 12) rfl ?_); refine be 12 rfl rfl #[.int .i64 0, .string (⟨#[]⟩ : ByteArray), .int .i64 0, .int .i64 0] 28 ?_; intro gb579 hg w104 hbox hb; have BK579 := aM hbox; have GE579 := gs hg HB; have NB555_579 := nl hg BK555; have NB579_555 := nr hg BK555; have NB563_579 := nl hg BK563; have NB579_563 := nr hg BK563; have NB571_579 := nl hg BK571; have NB579_571 := nr hg BK571; replace HO550 := rb HO550 hb; replace HO558 := rb HO558 hb; replace HO566 := rb HO566 hb; replace HO574 := rb HO574 hb; replace BK555 := kb BK555 hb; replace BK563 := kb BK563 hb; replace BK571 := kb BK571 hb; replace HB := bs HB hb; clear hb hbox hg; have hnb105 := NB579_555.1; have hnc105 := NB555_579.1; have hnb106 := NB579_563.1; have hnc106 := NB563_579.1; have hnb107 := NB579_571.1; have hnc107 := NB571_579.1; obtain ⟨hcz108_0, hcz108_1, hcz108_2, hcz108_3⟩ := cz BK579; obtain ⟨hfz108_0, hfz108_1, hfz108_2, hfz108_3⟩ := fz BK579; obtain ⟨Ao109, co109, eo109⟩ := R_slice HO550.1; subst eo109; obtain ⟨Ao110, co110, eo110⟩ := R_slice HO558.1; subst eo110) | ((with_reducible refine gate_callee (f := 14) rfl ?_); refine gL (some 43) rfl rfl Try.func14 (by kernel_rfl) rfl #[.slice Ao109 t548.length co109, .slice Ao110 t556.length co110] rfl ?_; (with_reducible refine (w_same.calls k _ _ t548 _ _ t556 true _ ?side1 ?side2 ?side3 ?side4 A9.1).mono ?_); (case side1 => refine (R_reads' (e := 9) (base := w.heap.size) (ok := fun k_ => (((True /\ some k_ ≠ (.slice Ao110 t556.length co110 : Value).ownBlock) /\ some k_ ≠ (v565 : Value).ownBlock) /\ some k_ ≠ (v573 : Value).ownBlock)) (n := t548.length) (c := co109) ?_).2.2; exact (rz (rf4 HO550 BK579 (by decide)))); (case side2 => exact (R_reads' HO550.1).2.1); (case side3 => refine (R_reads' (e := 9) (base := w.heap.size) (ok := fun k_ => (((True /\ some k_ ≠ (.slice Ao109 t548.length co109 : Value).ownBlock) /\ some k_ ≠ (v565 : Value).ownBlock) /\ some k_ ≠ (v573 : Value).ownBlock)) (n := t556.length) (c := co110) ?_).2.2; exact (rz (rf4 HO558 BK579 (by decide)))); (case side4 => exact (R_reads' HO558.1).2.1); rintro e w' ⟨rfl, ⟨nd, rfl⟩⟩; refine ⟨_, rfl, ?_⟩; obtain ⟨hcz111_0, hcz111_1, hcz111_2, hcz111_3⟩ := cz BK555; obtain ⟨hfz111_0, hfz111_1, hfz111_2, hfz111_3⟩ := fz BK555; obtain ⟨hcz112_0, hcz112_1, hcz112_2, hcz112_3⟩ := cz BK563; obtain ⟨hfz112_0, hfz112_1, hfz112_2, hfz112_3⟩ := fz BK563))
   go_ret
   exact ⟨by first | rfl | (simp [errW_none, errW_some] <;> rfl) | (simp [*, errW_none, errW_some] <;> rfl), hh HB⟩
 rw [if_pos c11] at H
 have c11b0 : (t551 == t559 && (t552.toList == t560.toList && (t553 == t561 && (t554 == t562)))) = true := c11
 (try (have c11b1 : decide (t551 = t559 && (t552.toList == t560.toList && (t553 == t561 && (t554 == t562)))) = true := by simpa using c11))
 (try (have c11b2 : (t551 == t559 && (t552.toList == t560.toList && (t553 == t561 && (t554 == t562)))) = true := by simpa using c11))
 clear c11
 replace H := Option.bind_eq_some_iff.mp H
 obtain ⟨t581, A120, H⟩ := H
 try dsimp only at H
 have A12 := aM A120
 clear A120
 by_cases c13 : t581 = true
 rotate_left
 · replace c13 := Bool.eq_false_iff.mpr c13
   subst c13
   rw [if_neg (show ¬ (false = true) by decide)] at H
   obtain rfl := Option.some.inj H
   go_enter Try.func4, Try.ntmps4
   go_wp2_with (first | ((with_reducible refine gate_callee (f := 8) rfl ?_); refine gL (some 14) rfl rfl Try.func8 (by kernel_rfl) rfl #[.slice A0 l0.length c0] rfl ?_; (with_reducible refine (w_small.calls k _ _ l0 true _ ?side1 ?side2 A3.1).mono ?_); (case side1 => exact ck HR0); (case side2 => exact HC0.1); rintro e w' ⟨rfl, ⟨nd, rfl⟩⟩; refine ⟨_, rfl, ?_⟩) | ((with_reducible refine gate_callee (f := 15) rfl ?_); refine gL (some 20) rfl rfl Try.func15 (by kernel_rfl) rfl #[.slice A0 l0.length c0, .string a1] rfl ?_; (with_reducible refine (m_Needs.calls k _ _ l0 a1 t548 t551 t552 t553 t554 _ ?side1 ?side2 A5.1).mono ?_); (case side1 => exact ck HR0); (case side2 => exact HC0.1); rintro e w67 ⟨v549, rfl, ho0, hb⟩; refine ⟨_, rfl, ?_⟩; have HO550 := aM (R_lower ho0 (below_size (hh HB))); replace HB := bs HB hb; clear hb ho0) | ((with_reducible refine gate_dst (N := 6) rfl ?_); refine be 6 rfl rfl #[.int .i64 0, .string (⟨#[]⟩ : ByteArray), .int .i64 0, .int .i64 0] 28 ?_; intro gb555 hg w68 hbox hb; have BK555 := aM hbox; have GE555 := gs hg HB; replace HO550 := rb HO550 hb; replace HB := bs HB hb; clear hb hbox hg; obtain ⟨hcz69_0, hcz69_1, hcz69_2, hcz69_3⟩ := cz BK555; obtain ⟨hfz69_0, hfz69_1, hfz69_2, hfz69_3⟩ := fz BK555) | ((with_reducible refine gate_callee (f := 16) rfl ?_); refine gL (some 26) rfl rfl Try.func16 (by kernel_rfl) rfl #[.slice A0 l0.length c0, .string a1] rfl ?_; (with_reducible refine (r_Needs.calls k _ _ l0 a1 t556 t559 t560 t561 t562 _ ?side1 ?side2 A6.1).mono ?_); (case side1 => exact C_below HR0.1 (hh HB)); (case side2 => exact HC0.1); rintro e w70 ⟨v557, rfl, ho0, hb⟩; refine ⟨_, rfl, ?_⟩; have HO558 := aM (R_lower (R_new' ho0 (R_lt (rz (rf4 HO550 BK555 (by decide))))) (below_size (hh HB))); replace HO550 := aM (R_elder' (rz (rf4 HO550 BK555 (by decide))) (R_base ho0) hb); replace BK555 := kg (o' := .cells #[.int .i64 t551, .string t552, .int .i64 t553, .int .i64 t554] 28 (0, 0)) BK555 hb; replace HB := bs HB hb; clear hb ho0) | ((with_reducible refine gate_dst (N := 8) rfl ?_); refine be 8 rfl rfl #[.int .i64 0, .string (⟨#[]⟩ : ByteArray), .int .i64 0, .int .i64 0] 28 ?_; intro gb563 hg w71 hbox hb; have BK563 := aM hbox; have GE563 := gs hg HB; have NB555_563 := nl hg BK555; have NB563_555 := nr hg BK555; replace HO550 := rb HO550 hb; replace HO558 := rb HO558 hb; replace BK555 := kb BK555 hb; replace HB := bs HB hb; clear hb hbox hg; have hnb72 := NB563_555.1; have hnc72 := NB555_563.1; obtain ⟨hcz73_0, hcz73_1, hcz73_2, hcz73_3⟩ := cz BK563; obtain ⟨hfz73_0, hfz73_1, hfz73_2, hfz73_3⟩ := fz BK563) | ((with_reducible refine gate_callee (f := 17) rfl ?_); refine gL (some 32) rfl rfl Try.func17 (by kernel_rfl) rfl #[.slice A0 l0.length c0, .string a1] rfl ?_; (with_reducible refine (m_Users.calls _ _ l0 a1 t564 t567 t568 t569 t570 _ ?side1 ?side2 A7.1).mono ?_); (case side1 => exact C_below HR0.1 (hh HB)); (case side2 => exact HC0.1); rintro e w74 ⟨v565, rfl, ho0, hb⟩; refine ⟨_, rfl, ?_⟩; have HO566 := aM (R_lower (R_new' (R_new' ho0 (R_lt (rz (rf4 HO550 BK563 (by decide))))) (R_lt (rz (rf4 HO558 BK563 (by decide))))) (below_size (hh HB))); replace HO550 := aM (R_elder' (rz (rf4 HO550 BK563 (by decide))) (R_base ho0) hb); replace HO558 := aM (R_elder' (rz (rf4 HO558 BK563 (by decide))) (R_base ho0) hb); replace BK555 := kg (o' := .cells #[.int .i64 t551, .string t552, .int .i64 t553, .int .i64 t554] 28 (0, 0)) BK555 hb; replace BK563 := kg (o' := .cells #[.int .i64 t559, .string t560, .int .i64 t561, .int .i64 t562] 28 (0, 0)) BK563 hb; replace HB := bs HB hb; clear hb ho0) | ((with_reducible refine gate_dst (N := 10) rfl ?_); refine be 10 rfl rfl #[.int .i64 0, .string (⟨#[]⟩ : ByteArray), .int .i64 0, .int .i64 0] 28 ?_; intro gb571 hg w75 hbox hb; have BK571 := aM hbox; have GE571 := gs hg HB; have NB555_571 := nl hg BK555; have NB571_555 := nr hg BK555; have NB563_571 := nl hg BK563; have NB571_563 := nr hg BK563; replace HO550 := rb HO550 hb; replace HO558 := rb HO558 hb; replace HO566 := rb HO566 hb; replace BK555 := kb BK555 hb; replace BK563 := kb BK563 hb; replace HB := bs HB hb; clear hb hbox hg; have hnb76 := NB571_555.1; have hnc76 := NB555_571.1; have hnb77 := NB571_563.1; have hnc77 := NB563_571.1; obtain ⟨hcz78_0, hcz78_1, hcz78_2, hcz78_3⟩ := cz BK571; obtain ⟨hfz78_0, hfz78_1, hfz78_2, hfz78_3⟩ := fz BK571) | ((with_reducible refine gate_callee (f := 18) rfl ?_); refine gL (some 38) rfl rfl Try.func18 (by kernel_rfl) rfl #[.slice A0 l0.length c0, .string a1] rfl ?_; (with_reducible refine (r_Users.calls k _ _ l0 a1 t572 t575 t576 t577 t578 _ ?side1 ?side2 A8.1).mono ?_); (case side1 => exact C_below HR0.1 (hh HB)); (case side2 => exact HC0.1); rintro e w79 ⟨v573, rfl, ho0, hb⟩; refine ⟨_, rfl, ?_⟩; have HO574 := aM (R_lower (R_new' (R_new' (R_new' ho0 (R_lt (rz (rf4 HO550 BK571 (by decide))))) (R_lt (rz (rf4 HO558 BK571 (by decide))))) (R_lt (rz (rf4 HO566 BK571 (by decide))))) (below_size (hh HB))); replace HO550 := aM (R_elder' (rz (rf4 HO550 BK571 (by decide))) (R_base ho0) hb); replace HO558 := aM (R_elder' (rz (rf4 HO558 BK571 (by decide))) (R_base ho0) hb); replace HO566 := aM (R_elder' (rz (rf4 HO566 BK571 (by decide))) (R_base ho0) hb); replace BK555 := kg (o' := .cells #[.int .i64 t551, .string t552, .int .i64 t553, .int .i64 t554] 28 (0, 0)) BK555 hb; replace BK563 := kg (o' := .cells #[.int .i64 t559, .string t560, .int .i64 t561, .int .i64 t562] 28 (0, 0)) BK563 hb; replace BK571 := kg (o' := .cells #[.int .i64 t567, .string t568, .int .i64 t569, .int .i64 t570] 28 (0, 0)) BK571 hb; replace HB := bs HB hb; clear hb ho0) | ((with_reducible refine gate_dst (N := 12) rfl ?_); refine be 12 rfl rfl #[.int .i64 0, .string (⟨#[]⟩ : ByteArray), .int .i64 0, .int .i64 0] 28 ?_; intro gb579 hg w80 hbox hb; have BK579 := aM hbox; have GE579 := gs hg HB; have NB555_579 := nl hg BK555; have NB579_555 := nr hg BK555; have NB563_579 := nl hg BK563; have NB579_563 := nr hg BK563; have NB571_579 := nl hg BK571; have NB579_571 := nr hg BK571; replace HO550 := rb HO550 hb; replace HO558 := rb HO558 hb; replace HO566 := rb HO566 hb; replace HO574 := rb HO574 hb; replace BK555 := kb BK555 hb; replace BK563 := kb BK563 hb; replace BK571 := kb BK571 hb; replace HB := bs HB hb; clear hb hbox hg; have hnb81 := NB579_555.1; have hnc81 := NB555_579.1; have hnb82 := NB579_563.1; have hnc82 := NB563_579.1; have hnb83 := NB579_571.1; have hnc83 := NB571_579.1; obtain ⟨hcz84_0, hcz84_1, hcz84_2, hcz84_3⟩ := cz BK579; obtain ⟨hfz84_0, hfz84_1, hfz84_2, hfz84_3⟩ := fz BK579; obtain ⟨Ao85, co85, eo85⟩ := R_slice HO550.1; subst eo85; obtain ⟨Ao86, co86, eo86⟩ := R_slice HO558.1; subst eo86) | ((with_reducible refine gate_callee (f := 14) rfl ?_); refine gL (some 43) rfl rfl Try.func14 (by kernel_rfl) rfl #[.slice Ao85 t548.length co85, .slice Ao86 t556.length co86] rfl ?_; (with_reducible refine (w_same.calls k _ _ t548 _ _ t556 true _ ?side1 ?side2 ?side3 ?side4 A9.1).mono ?_); (case side1 => refine (R_reads' (e := 9) (base := w.heap.size) (ok := fun k_ => (((True /\ some k_ ≠ (.slice Ao86 t556.length co86 : Value).ownBlock) /\ some k_ ≠ (v565 : Value).ownBlock) /\ some k_ ≠ (v573 : Value).ownBlock)) (n := t548.length) (c := co85) ?_).2.2; exact (rz (rf4 HO550 BK579 (by decide)))); (case side2 => exact (R_reads' HO550.1).2.1); (case side3 => refine (R_reads' (e := 9) (base := w.heap.size) (ok := fun k_ => (((True /\ some k_ ≠ (.slice Ao85 t548.length co85 : Value).ownBlock) /\ some k_ ≠ (v565 : Value).ownBlock) /\ some k_ ≠ (v573 : Value).ownBlock)) (n := t556.length) (c := co86) ?_).2.2; exact (rz (rf4 HO558 BK579 (by decide)))); (case side4 => exact (R_reads' HO558.1).2.1); rintro e w' ⟨rfl, ⟨nd, rfl⟩⟩; refine ⟨_, rfl, ?_⟩; obtain ⟨hcz87_0, hcz87_1, hcz87_2, hcz87_3⟩ := cz BK555; obtain ⟨hfz87_0, hfz87_1, hfz87_2, hfz87_3⟩ := fz BK555; obtain ⟨hcz88_0, hcz88_1, hcz88_2, hcz88_3⟩ := cz BK563; obtain ⟨hfz88_0, hfz88_1, hfz88_2, hfz88_3⟩ := fz BK563; obtain ⟨Ao89, co89, eo89⟩ := R_slice HO566.1; subst eo89; obtain ⟨Ao90, co90, eo90⟩ := R_slice HO574.1; subst eo90) | (go_at_call 14; (with_reducible refine (w_same.calls k _ _ t564 _ _ t572 false _ ?side1 ?side2 ?side3 ?side4 A12.1).mono ?_); (case side1 => refine (R_reads' (e := 9) (base := w.heap.size) (ok := fun k_ => (((True /\ some k_ ≠ (.slice Ao85 t548.length co85 : Value).ownBlock) /\ some k_ ≠ (.slice Ao86 t556.length co86 : Value).ownBlock) /\ some k_ ≠ (.slice Ao90 t572.length co90 : Value).ownBlock)) (n := t564.length) (c := co89) ?_).2.2; exact (rz (rf4 HO566 BK579 (by decide)))); (case side2 => exact (R_reads' HO566.1).2.1); (case side3 => refine (R_reads' (e := 9) (base := w.heap.size) (ok := fun k_ => (((True /\ some k_ ≠ (.slice Ao85 t548.length co85 : Value).ownBlock) /\ some k_ ≠ (.slice Ao86 t556.length co86 : Value).ownBlock) /\ some k_ ≠ (.slice Ao89 t564.length co89 : Value).ownBlock)) (n := t572.length) (c := co90) ?_).2.2; exact (rz (rf4 HO574 BK579 (by decide)))); (case side4 => exact (R_reads' HO574.1).2.1); rintro e w' ⟨rfl, ⟨nd, rfl⟩⟩))
   go_ret
   exact ⟨by first | rfl | (simp [errW_none, errW_some] <;> rfl) | (simp [*, errW_none, errW_some] <;> rfl), hh HB⟩
 subst c13
 rw [if_pos rfl] at H
 by_cases c14 : (t567 == t575 && (t568.toList == t576.toList && (t569 == t577 && (t570 == t578)))) = true
 rotate_left
 · rw [if_neg c14] at H
   have c14b0 : (t567 == t575 && (t568.toList == t576.toList && (t569 == t577 && (t570 == t578)))) = false := by simpa using c14
   (try (have c14b1 : decide (t567 = t575 && (t568.toList == t576.toList && (t569 == t577 && (t570 == t578)))) = false := by simpa using c14))
   (try (have c14b2 : (t567 == t575 && (t568.toList == t576.toList && (t569 == t577 && (t570 == t578)))) = false := by simpa using c14))
   (try (have c14b3 : ¬ (t567 = t575 && (t568.toList == t576.toList && (t569 == t577 && (t570 == t578)))) := by simpa using c14))
   clear c14
   obtain rfl := Option.some.inj H
   go_enter Try.func4, Try.ntmps4
   go_wp2_with (first | ((with_reducible refine gate_callee (f := 8) rfl ?_); refine gL (some 14) rfl rfl Try.func8 (by kernel_rfl) rfl #[.slice A0 l0.length c0] rfl ?_; (with_reducible refine (w_small.calls k _ _ l0 true _ ?side1 ?side2 A3.1).mono ?_); (case side1 => exact ck HR0); (case side2 => exact HC0.1); rintro e w' ⟨rfl, ⟨nd, rfl⟩⟩; refine ⟨_, rfl, ?_⟩) | ((with_reducible refine gate_callee (f := 15) rfl ?_); refine gL (some 20) rfl rfl Try.func15 (by kernel_rfl) rfl #[.slice A0 l0.length c0, .string a1] rfl ?_; (with_reducible refine (m_Needs.calls k _ _ l0 a1 t548 t551 t552 t553 t554 _ ?side1 ?side2 A5.1).mono ?_); (case side1 => exact ck HR0); (case side2 => exact HC0.1); rintro e w42 ⟨v549, rfl, ho0, hb⟩; refine ⟨_, rfl, ?_⟩; have HO550 := aM (R_lower ho0 (below_size (hh HB))); replace HB := bs HB hb; clear hb ho0) | ((with_reducible refine gate_dst (N := 6) rfl ?_); refine be 6 rfl rfl #[.int .i64 0, .string (⟨#[]⟩ : ByteArray), .int .i64 0, .int .i64 0] 28 ?_; intro gb555 hg w43 hbox hb; have BK555 := aM hbox; have GE555 := gs hg HB; replace HO550 := rb HO550 hb; replace HB := bs HB hb; clear hb hbox hg; obtain ⟨hcz44_0, hcz44_1, hcz44_2, hcz44_3⟩ := cz BK555; obtain ⟨hfz44_0, hfz44_1, hfz44_2, hfz44_3⟩ := fz BK555) | ((with_reducible refine gate_callee (f := 16) rfl ?_); refine gL (some 26) rfl rfl Try.func16 (by kernel_rfl) rfl #[.slice A0 l0.length c0, .string a1] rfl ?_; (with_reducible refine (r_Needs.calls k _ _ l0 a1 t556 t559 t560 t561 t562 _ ?side1 ?side2 A6.1).mono ?_); (case side1 => exact C_below HR0.1 (hh HB)); (case side2 => exact HC0.1); rintro e w45 ⟨v557, rfl, ho0, hb⟩; refine ⟨_, rfl, ?_⟩; have HO558 := aM (R_lower (R_new' ho0 (R_lt (rz (rf4 HO550 BK555 (by decide))))) (below_size (hh HB))); replace HO550 := aM (R_elder' (rz (rf4 HO550 BK555 (by decide))) (R_base ho0) hb); replace BK555 := kg (o' := .cells #[.int .i64 t551, .string t552, .int .i64 t553, .int .i64 t554] 28 (0, 0)) BK555 hb; replace HB := bs HB hb; clear hb ho0) | ((with_reducible refine gate_dst (N := 8) rfl ?_); refine be 8 rfl rfl #[.int .i64 0, .string (⟨#[]⟩ : ByteArray), .int .i64 0, .int .i64 0] 28 ?_; intro gb563 hg w46 hbox hb; have BK563 := aM hbox; have GE563 := gs hg HB; have NB555_563 := nl hg BK555; have NB563_555 := nr hg BK555; replace HO550 := rb HO550 hb; replace HO558 := rb HO558 hb; replace BK555 := kb BK555 hb; replace HB := bs HB hb; clear hb hbox hg; have hnb47 := NB563_555.1; have hnc47 := NB555_563.1; obtain ⟨hcz48_0, hcz48_1, hcz48_2, hcz48_3⟩ := cz BK563; obtain ⟨hfz48_0, hfz48_1, hfz48_2, hfz48_3⟩ := fz BK563) | ((with_reducible refine gate_callee (f := 17) rfl ?_); refine gL (some 32) rfl rfl Try.func17 (by kernel_rfl) rfl #[.slice A0 l0.length c0, .string a1] rfl ?_; (with_reducible refine (m_Users.calls _ _ l0 a1 t564 t567 t568 t569 t570 _ ?side1 ?side2 A7.1).mono ?_); (case side1 => exact C_below HR0.1 (hh HB)); (case side2 => exact HC0.1); rintro e w49 ⟨v565, rfl, ho0, hb⟩; refine ⟨_, rfl, ?_⟩; have HO566 := aM (R_lower (R_new' (R_new' ho0 (R_lt (rz (rf4 HO550 BK563 (by decide))))) (R_lt (rz (rf4 HO558 BK563 (by decide))))) (below_size (hh HB))); replace HO550 := aM (R_elder' (rz (rf4 HO550 BK563 (by decide))) (R_base ho0) hb); replace HO558 := aM (R_elder' (rz (rf4 HO558 BK563 (by decide))) (R_base ho0) hb); replace BK555 := kg (o' := .cells #[.int .i64 t551, .string t552, .int .i64 t553, .int .i64 t554] 28 (0, 0)) BK555 hb; replace BK563 := kg (o' := .cells #[.int .i64 t559, .string t560, .int .i64 t561, .int .i64 t562] 28 (0, 0)) BK563 hb; replace HB := bs HB hb; clear hb ho0) | ((with_reducible refine gate_dst (N := 10) rfl ?_); refine be 10 rfl rfl #[.int .i64 0, .string (⟨#[]⟩ : ByteArray), .int .i64 0, .int .i64 0] 28 ?_; intro gb571 hg w50 hbox hb; have BK571 := aM hbox; have GE571 := gs hg HB; have NB555_571 := nl hg BK555; have NB571_555 := nr hg BK555; have NB563_571 := nl hg BK563; have NB571_563 := nr hg BK563; replace HO550 := rb HO550 hb; replace HO558 := rb HO558 hb; replace HO566 := rb HO566 hb; replace BK555 := kb BK555 hb; replace BK563 := kb BK563 hb; replace HB := bs HB hb; clear hb hbox hg; have hnb51 := NB571_555.1; have hnc51 := NB555_571.1; have hnb52 := NB571_563.1; have hnc52 := NB563_571.1; obtain ⟨hcz53_0, hcz53_1, hcz53_2, hcz53_3⟩ := cz BK571; obtain ⟨hfz53_0, hfz53_1, hfz53_2, hfz53_3⟩ := fz BK571) | ((with_reducible refine gate_callee (f := 18) rfl ?_); refine gL (some 38) rfl rfl Try.func18 (by kernel_rfl) rfl #[.slice A0 l0.length c0, .string a1] rfl ?_; (with_reducible refine (r_Users.calls k _ _ l0 a1 t572 t575 t576 t577 t578 _ ?side1 ?side2 A8.1).mono ?_); (case side1 => exact C_below HR0.1 (hh HB)); (case side2 => exact HC0.1); rintro e w54 ⟨v573, rfl, ho0, hb⟩; refine ⟨_, rfl, ?_⟩; have HO574 := aM (R_lower (R_new' (R_new' (R_new' ho0 (R_lt (rz (rf4 HO550 BK571 (by decide))))) (R_lt (rz (rf4 HO558 BK571 (by decide))))) (R_lt (rz (rf4 HO566 BK571 (by decide))))) (below_size (hh HB))); replace HO550 := aM (R_elder' (rz (rf4 HO550 BK571 (by decide))) (R_base ho0) hb); replace HO558 := aM (R_elder' (rz (rf4 HO558 BK571 (by decide))) (R_base ho0) hb); replace HO566 := aM (R_elder' (rz (rf4 HO566 BK571 (by decide))) (R_base ho0) hb); replace BK555 := kg (o' := .cells #[.int .i64 t551, .string t552, .int .i64 t553, .int .i64 t554] 28 (0, 0)) BK555 hb; replace BK563 := kg (o' := .cells #[.int .i64 t559, .string t560, .int .i64 t561, .int .i64 t562] 28 (0, 0)) BK563 hb; replace BK571 := kg (o' := .cells #[.int .i64 t567, .string t568, .int .i64 t569, .int .i64 t570] 28 (0, 0)) BK571 hb; replace HB := bs HB hb; clear hb ho0) | ((with_reducible refine gate_dst (N := 12) rfl ?_); refine be 12 rfl rfl #[.int .i64 0, .string (⟨#[]⟩ : ByteArray), .int .i64 0, .int .i64 0] 28 ?_; intro gb579 hg w55 hbox hb; have BK579 := aM hbox; have GE579 := gs hg HB; have NB555_579 := nl hg BK555; have NB579_555 := nr hg BK555; have NB563_579 := nl hg BK563; have NB579_563 := nr hg BK563; have NB571_579 := nl hg BK571; have NB579_571 := nr hg BK571; replace HO550 := rb HO550 hb; replace HO558 := rb HO558 hb; replace HO566 := rb HO566 hb; replace HO574 := rb HO574 hb; replace BK555 := kb BK555 hb; replace BK563 := kb BK563 hb; replace BK571 := kb BK571 hb; replace HB := bs HB hb; clear hb hbox hg; have hnb56 := NB579_555.1; have hnc56 := NB555_579.1; have hnb57 := NB579_563.1; have hnc57 := NB563_579.1; have hnb58 := NB579_571.1; have hnc58 := NB571_579.1; obtain ⟨hcz59_0, hcz59_1, hcz59_2, hcz59_3⟩ := cz BK579; obtain ⟨hfz59_0, hfz59_1, hfz59_2, hfz59_3⟩ := fz BK579; obtain ⟨Ao60, co60, eo60⟩ := R_slice HO550.1; subst eo60; obtain ⟨Ao61, co61, eo61⟩ := R_slice HO558.1; subst eo61) | ((with_reducible refine gate_callee (f := 14) rfl ?_); refine gL (some 43) rfl rfl Try.func14 (by kernel_rfl) rfl #[.slice Ao60 t548.length co60, .slice Ao61 t556.length co61] rfl ?_; (with_reducible refine (w_same.calls k _ _ t548 _ _ t556 true _ ?side1 ?side2 ?side3 ?side4 A9.1).mono ?_); (case side1 => refine (R_reads' (e := 9) (base := w.heap.size) (ok := fun k_ => (((True /\ some k_ ≠ (.slice Ao61 t556.length co61 : Value).ownBlock) /\ some k_ ≠ (v565 : Value).ownBlock) /\ some k_ ≠ (v573 : Value).ownBlock)) (n := t548.length) (c := co60) ?_).2.2; exact (rz (rf4 HO550 BK579 (by decide)))); (case side2 => exact (R_reads' HO550.1).2.1); (case side3 => refine (R_reads' (e := 9) (base := w.heap.size) (ok := fun k_ => (((True /\ some k_ ≠ (.slice Ao60 t548.length co60 : Value).ownBlock) /\ some k_ ≠ (v565 : Value).ownBlock) /\ some k_ ≠ (v573 : Value).ownBlock)) (n := t556.length) (c := co61) ?_).2.2; exact (rz (rf4 HO558 BK579 (by decide)))); (case side4 => exact (R_reads' HO558.1).2.1); rintro e w' ⟨rfl, ⟨nd, rfl⟩⟩; refine ⟨_, rfl, ?_⟩; obtain ⟨hcz62_0, hcz62_1, hcz62_2, hcz62_3⟩ := cz BK555; obtain ⟨hfz62_0, hfz62_1, hfz62_2, hfz62_3⟩ := fz BK555; obtain ⟨hcz63_0, hcz63_1, hcz63_2, hcz63_3⟩ := cz BK563; obtain ⟨hfz63_0, hfz63_1, hfz63_2, hfz63_3⟩ := fz BK563; obtain ⟨Ao64, co64, eo64⟩ := R_slice HO566.1; subst eo64; obtain ⟨Ao65, co65, eo65⟩ := R_slice HO574.1; subst eo65) | (go_at_call 14; (with_reducible refine (w_same.calls k _ _ t564 _ _ t572 true _ ?side1 ?side2 ?side3 ?side4 A12.1).mono ?_); (case side1 => refine (R_reads' (e := 9) (base := w.heap.size) (ok := fun k_ => (((True /\ some k_ ≠ (.slice Ao60 t548.length co60 : Value).ownBlock) /\ some k_ ≠ (.slice Ao61 t556.length co61 : Value).ownBlock) /\ some k_ ≠ (.slice Ao65 t572.length co65 : Value).ownBlock)) (n := t564.length) (c := co64) ?_).2.2; exact (rz (rf4 HO566 BK579 (by decide)))); (case side2 => exact (R_reads' HO566.1).2.1); (case side3 => refine (R_reads' (e := 9) (base := w.heap.size) (ok := fun k_ => (((True /\ some k_ ≠ (.slice Ao60 t548.length co60 : Value).ownBlock) /\ some k_ ≠ (.slice Ao61 t556.length co61 : Value).ownBlock) /\ some k_ ≠ (.slice Ao64 t564.length co64 : Value).ownBlock)) (n := t572.length) (c := co65) ?_).2.2; exact (rz (rf4 HO574 BK579 (by decide)))); (case side4 => exact (R_reads' HO574.1).2.1); rintro e w' ⟨rfl, ⟨nd, rfl⟩⟩; obtain ⟨hcz66_0, hcz66_1, hcz66_2, hcz66_3⟩ := cz BK571; obtain ⟨hfz66_0, hfz66_1, hfz66_2, hfz66_3⟩ := fz BK571))
   go_ret
   exact ⟨by first | rfl | (simp [errW_none, errW_some] <;> rfl) | (simp [*, errW_none, errW_some] <;> rfl), hh HB⟩
 rw [if_pos c14] at H
 have c14b0 : (t567 == t575 && (t568.toList == t576.toList && (t569 == t577 && (t570 == t578)))) = true := c14
 (try (have c14b1 : decide (t567 = t575 && (t568.toList == t576.toList && (t569 == t577 && (t570 == t578)))) = true := by simpa using c14))
 (try (have c14b2 : (t567 == t575 && (t568.toList == t576.toList && (t569 == t577 && (t570 == t578)))) = true := by simpa using c14))
 clear c14
 replace H := Option.bind_eq_some_iff.mp H
 obtain ⟨t582, A150, H⟩ := H
 try dsimp only at H
 have A15 := aM A150
 clear A150
 obtain rfl := Option.some.inj H
 go_enter Try.func4, Try.ntmps4
 go_wp2_with (first | ((with_reducible refine gate_callee (f := 8) rfl ?_); refine gL (some 14) rfl rfl Try.func8 (by kernel_rfl) rfl #[.slice A0 l0.length c0] rfl ?_; (with_reducible refine (w_small.calls k _ _ l0 true _ ?side1 ?side2 A3.1).mono ?_); (case side1 => exact ck HR0); (case side2 => exact HC0.1); rintro e w' ⟨rfl, ⟨nd, rfl⟩⟩; refine ⟨_, rfl, ?_⟩) | ((with_reducible refine gate_callee (f := 15) rfl ?_); refine gL (some 20) rfl rfl Try.func15 (by kernel_rfl) rfl #[.slice A0 l0.length c0, .string a1] rfl ?_; (with_reducible refine (m_Needs.calls k _ _ l0 a1 t548 t551 t552 t553 t554 _ ?side1 ?side2 A5.1).mono ?_); (case side1 => exact ck HR0); (case side2 => exact HC0.1); rintro e w16 ⟨v549, rfl, ho0, hb⟩; refine ⟨_, rfl, ?_⟩; have HO550 := aM (R_lower ho0 (below_size (hh HB))); replace HB := bs HB hb; clear hb ho0) | ((with_reducible refine gate_dst (N := 6) rfl ?_); refine be 6 rfl rfl #[.int .i64 0, .string (⟨#[]⟩ : ByteArray), .int .i64 0, .int .i64 0] 28 ?_; intro gb555 hg w17 hbox hb; have BK555 := aM hbox; have GE555 := gs hg HB; replace HO550 := rb HO550 hb; replace HB := bs HB hb; clear hb hbox hg; obtain ⟨hcz18_0, hcz18_1, hcz18_2, hcz18_3⟩ := cz BK555; obtain ⟨hfz18_0, hfz18_1, hfz18_2, hfz18_3⟩ := fz BK555) | ((with_reducible refine gate_callee (f := 16) rfl ?_); refine gL (some 26) rfl rfl Try.func16 (by kernel_rfl) rfl #[.slice A0 l0.length c0, .string a1] rfl ?_; (with_reducible refine (r_Needs.calls k _ _ l0 a1 t556 t559 t560 t561 t562 _ ?side1 ?side2 A6.1).mono ?_); (case side1 => exact C_below HR0.1 (hh HB)); (case side2 => exact HC0.1); rintro e w19 ⟨v557, rfl, ho0, hb⟩; refine ⟨_, rfl, ?_⟩; have HO558 := aM (R_lower (R_new' ho0 (R_lt (rz (rf4 HO550 BK555 (by decide))))) (below_size (hh HB))); replace HO550 := aM (R_elder' (rz (rf4 HO550 BK555 (by decide))) (R_base ho0) hb); replace BK555 := kg (o' := .cells #[.int .i64 t551, .string t552, .int .i64 t553, .int .i64 t554] 28 (0, 0)) BK555 hb; replace HB := bs HB hb; clear hb ho0) | ((with_reducible refine gate_dst (N := 8) rfl ?_); refine be 8 rfl rfl #[.int .i64 0, .string (⟨#[]⟩ : ByteArray), .int .i64 0, .int .i64 0] 28 ?_; intro gb563 hg w20 hbox hb; have BK563 := aM hbox; have GE563 := gs hg HB; have NB555_563 := nl hg BK555; have NB563_555 := nr hg BK555; replace HO550 := rb HO550 hb; replace HO558 := rb HO558 hb; replace BK555 := kb BK555 hb; replace HB := bs HB hb; clear hb hbox hg; have hnb21 := NB563_555.1; have hnc21 := NB555_563.1; obtain ⟨hcz22_0, hcz22_1, hcz22_2, hcz22_3⟩ := cz BK563; obtain ⟨hfz22_0, hfz22_1, hfz22_2, hfz22_3⟩ := fz BK563) | ((with_reducible refine gate_callee (f := 17) rfl ?_); refine gL (some 32) rfl rfl Try.func17 (by kernel_rfl) rfl #[.slice A0 l0.length c0, .string a1] rfl ?_; (with_reducible refine (m_Users.calls _ _ l0 a1 t564 t567 t568 t569 t570 _ ?side1 ?side2 A7.1).mono ?_); (case side1 => exact C_below HR0.1 (hh HB)); (case side2 => exact HC0.1); rintro e w23 ⟨v565, rfl, ho0, hb⟩; refine ⟨_, rfl, ?_⟩; have HO566 := aM (R_lower (R_new' (R_new' ho0 (R_lt (rz (rf4 HO550 BK563 (by decide))))) (R_lt (rz (rf4 HO558 BK563 (by decide))))) (below_size (hh HB))); replace HO550 := aM (R_elder' (rz (rf4 HO550 BK563 (by decide))) (R_base ho0) hb); replace HO558 := aM (R_elder' (rz (rf4 HO558 BK563 (by decide))) (R_base ho0) hb); replace BK555 := kg (o' := .cells #[.int .i64 t551, .string t552, .int .i64 t553, .int .i64 t554] 28 (0, 0)) BK555 hb; replace BK563 := kg (o' := .cells #[.int .i64 t559, .string t560, .int .i64 t561, .int .i64 t562] 28 (0, 0)) BK563 hb; replace HB := bs HB hb; clear hb ho0) | ((with_reducible refine gate_dst (N := 10) rfl ?_); refine be 10 rfl rfl #[.int .i64 0, .string (⟨#[]⟩ : ByteArray), .int .i64 0, .int .i64 0] 28 ?_; intro gb571 hg w24 hbox hb; have BK571 := aM hbox; have GE571 := gs hg HB; have NB555_571 := nl hg BK555; have NB571_555 := nr hg BK555; have NB563_571 := nl hg BK563; have NB571_563 := nr hg BK563; replace HO550 := rb HO550 hb; replace HO558 := rb HO558 hb; replace HO566 := rb HO566 hb; replace BK555 := kb BK555 hb; replace BK563 := kb BK563 hb; replace HB := bs HB hb; clear hb hbox hg; have hnb25 := NB571_555.1; have hnc25 := NB555_571.1; have hnb26 := NB571_563.1; have hnc26 := NB563_571.1; obtain ⟨hcz27_0, hcz27_1, hcz27_2, hcz27_3⟩ := cz BK571; obtain ⟨hfz27_0, hfz27_1, hfz27_2, hfz27_3⟩ := fz BK571) | ((with_reducible refine gate_callee (f := 18) rfl ?_); refine gL (some 38) rfl rfl Try.func18 (by kernel_rfl) rfl #[.slice A0 l0.length c0, .string a1] rfl ?_; (with_reducible refine (r_Users.calls k _ _ l0 a1 t572 t575 t576 t577 t578 _ ?side1 ?side2 A8.1).mono ?_); (case side1 => exact C_below HR0.1 (hh HB)); (case side2 => exact HC0.1); rintro e w28 ⟨v573, rfl, ho0, hb⟩; refine ⟨_, rfl, ?_⟩; have HO574 := aM (R_lower (R_new' (R_new' (R_new' ho0 (R_lt (rz (rf4 HO550 BK571 (by decide))))) (R_lt (rz (rf4 HO558 BK571 (by decide))))) (R_lt (rz (rf4 HO566 BK571 (by decide))))) (below_size (hh HB))); replace HO550 := aM (R_elder' (rz (rf4 HO550 BK571 (by decide))) (R_base ho0) hb); replace HO558 := aM (R_elder' (rz (rf4 HO558 BK571 (by decide))) (R_base ho0) hb); replace HO566 := aM (R_elder' (rz (rf4 HO566 BK571 (by decide))) (R_base ho0) hb); replace BK555 := kg (o' := .cells #[.int .i64 t551, .string t552, .int .i64 t553, .int .i64 t554] 28 (0, 0)) BK555 hb; replace BK563 := kg (o' := .cells #[.int .i64 t559, .string t560, .int .i64 t561, .int .i64 t562] 28 (0, 0)) BK563 hb; replace BK571 := kg (o' := .cells #[.int .i64 t567, .string t568, .int .i64 t569, .int .i64 t570] 28 (0, 0)) BK571 hb; replace HB := bs HB hb; clear hb ho0) | ((with_reducible refine gate_dst (N := 12) rfl ?_); refine be 12 rfl rfl #[.int .i64 0, .string (⟨#[]⟩ : ByteArray), .int .i64 0, .int .i64 0] 28 ?_; intro gb579 hg w29 hbox hb; have BK579 := aM hbox; have GE579 := gs hg HB; have NB555_579 := nl hg BK555; have NB579_555 := nr hg BK555; have NB563_579 := nl hg BK563; have NB579_563 := nr hg BK563; have NB571_579 := nl hg BK571; have NB579_571 := nr hg BK571; replace HO550 := rb HO550 hb; replace HO558 := rb HO558 hb; replace HO566 := rb HO566 hb; replace HO574 := rb HO574 hb; replace BK555 := kb BK555 hb; replace BK563 := kb BK563 hb; replace BK571 := kb BK571 hb; replace HB := bs HB hb; clear hb hbox hg; have hnb30 := NB579_555.1; have hnc30 := NB555_579.1; have hnb31 := NB579_563.1; have hnc31 := NB563_579.1; have hnb32 := NB579_571.1; have hnc32 := NB571_579.1; obtain ⟨hcz33_0, hcz33_1, hcz33_2, hcz33_3⟩ := cz BK579; obtain ⟨hfz33_0, hfz33_1, hfz33_2, hfz33_3⟩ := fz BK579; obtain ⟨Ao34, co34, eo34⟩ := R_slice HO550.1; subst eo34; obtain ⟨Ao35, co35, eo35⟩ := R_slice HO558.1; subst eo35) | ((with_reducible refine gate_callee (f := 14) rfl ?_); refine gL (some 43) rfl rfl Try.func14 (by kernel_rfl) rfl #[.slice Ao34 t548.length co34, .slice Ao35 t556.length co35] rfl ?_; (with_reducible refine (w_same.calls k _ _ t548 _ _ t556 true _ ?side1 ?side2 ?side3 ?side4 A9.1).mono ?_); (case side1 => refine (R_reads' (e := 9) (base := w.heap.size) (ok := fun k_ => (((True /\ some k_ ≠ (.slice Ao35 t556.length co35 : Value).ownBlock) /\ some k_ ≠ (v565 : Value).ownBlock) /\ some k_ ≠ (v573 : Value).ownBlock)) (n := t548.length) (c := co34) ?_).2.2; exact (rz (rf4 HO550 BK579 (by decide)))); (case side2 => exact (R_reads' HO550.1).2.1); (case side3 => refine (R_reads' (e := 9) (base := w.heap.size) (ok := fun k_ => (((True /\ some k_ ≠ (.slice Ao34 t548.length co34 : Value).ownBlock) /\ some k_ ≠ (v565 : Value).ownBlock) /\ some k_ ≠ (v573 : Value).ownBlock)) (n := t556.length) (c := co35) ?_).2.2; exact (rz (rf4 HO558 BK579 (by decide)))); (case side4 => exact (R_reads' HO558.1).2.1); rintro e w' ⟨rfl, ⟨nd, rfl⟩⟩; refine ⟨_, rfl, ?_⟩; obtain ⟨hcz36_0, hcz36_1, hcz36_2, hcz36_3⟩ := cz BK555; obtain ⟨hfz36_0, hfz36_1, hfz36_2, hfz36_3⟩ := fz BK555; obtain ⟨hcz37_0, hcz37_1, hcz37_2, hcz37_3⟩ := cz BK563; obtain ⟨hfz37_0, hfz37_1, hfz37_2, hfz37_3⟩ := fz BK563; obtain ⟨Ao38, co38, eo38⟩ := R_slice HO566.1; subst eo38; obtain ⟨Ao39, co39, eo39⟩ := R_slice HO574.1; subst eo39) | (go_at_call 14; (with_reducible refine (w_same.calls k _ _ t564 _ _ t572 true _ ?side1 ?side2 ?side3 ?side4 A12.1).mono ?_); (case side1 => refine (R_reads' (e := 9) (base := w.heap.size) (ok := fun k_ => (((True /\ some k_ ≠ (.slice Ao34 t548.length co34 : Value).ownBlock) /\ some k_ ≠ (.slice Ao35 t556.length co35 : Value).ownBlock) /\ some k_ ≠ (.slice Ao39 t572.length co39 : Value).ownBlock)) (n := t564.length) (c := co38) ?_).2.2; exact (rz (rf4 HO566 BK579 (by decide)))); (case side2 => exact (R_reads' HO566.1).2.1); (case side3 => refine (R_reads' (e := 9) (base := w.heap.size) (ok := fun k_ => (((True /\ some k_ ≠ (.slice Ao34 t548.length co34 : Value).ownBlock) /\ some k_ ≠ (.slice Ao35 t556.length co35 : Value).ownBlock) /\ some k_ ≠ (.slice Ao38 t564.length co38 : Value).ownBlock)) (n := t572.length) (c := co39) ?_).2.2; exact (rz (rf4 HO574 BK579 (by decide)))); (case side4 => exact (R_reads' HO574.1).2.1); rintro e w' ⟨rfl, ⟨nd, rfl⟩⟩; obtain ⟨hcz40_0, hcz40_1, hcz40_2, hcz40_3⟩ := cz BK571; obtain ⟨hfz40_0, hfz40_1, hfz40_2, hfz40_3⟩ := fz BK571) | (go_at_call 9; (with_reducible refine (w_awake.calls  t582 _ A15.1).mono ?_); rintro e w41 ⟨rfl, hb⟩; replace HO550 := aM (R_below (rz (rf4 HO550 BK579 (by decide))) hb); replace HO558 := aM (R_below (rz (rf4 HO558 BK579 (by decide))) hb); replace HO566 := aM (R_below (rz (rf4 HO566 BK579 (by decide))) hb); replace HO574 := aM (R_below (rz (rf4 HO574 BK579 (by decide))) hb); replace BK555 := kg (o' := .cells #[.int .i64 t551, .string t552, .int .i64 t553, .int .i64 t554] 28 (0, 0)) BK555 hb; replace BK563 := kg (o' := .cells #[.int .i64 t559, .string t560, .int .i64 t561, .int .i64 t562] 28 (0, 0)) BK563 hb; replace BK571 := kg (o' := .cells #[.int .i64 t567, .string t568, .int .i64 t569, .int .i64 t570] 28 (0, 0)) BK571 hb; replace BK579 := kg (o' := .cells #[.int .i64 t575, .string t576, .int .i64 t577, .int .i64 t578] 28 (0, 0)) BK579 hb; replace HB := bs HB hb; clear hb))
 go_ret
 exact ⟨by first | rfl | (simp [errW_none, errW_some] <;> rfl) | (simp [*, errW_none, errW_some] <;> rfl), hh HB⟩
end Go.Proofs.Ytmadhaccjmakdaa.P
namespace Go.Proofs.Ytmadhaccjmakdaa
open Go.RowKit Go.Proofs.Yw.A Go.Proofs.Yw.B Go.Proofs.Yw.C
namespace Tp
open Tj
def nd (es : List (List Int)) (v : Int) : Prop := 0 <= v /\ v < es.length
def Vld (es : List (List Int)) : Prop := ∀ v, nd es v -> ∀ w ∈ row es v, nd es w
inductive Rc (es : List (List Int)) : Int -> Int -> Prop
 | refl (v : Int) : Rc es v v
 | tail {a b c : Int} : Rc es a b -> c ∈ row es b -> Rc es a c
theorem Rc.trans {es : List (List Int)} {a b c : Int} (h : Rc es a b) (h2 : Rc es b c) : Rc es a c := by
 induction h2 with
 | refl => exact h
 | tail _ h3 ih => exact .tail ih h3
theorem Rc.edge {es : List (List Int)} {a b : Int} (h : b ∈ row es a) : Rc es a b := .tail (.refl a) h
theorem w64 (x : Int) (h0 : -9223372036854775808 <= x) (h1 : x < 9223372036854775808) : wrap64 x = x := by
 unfold wrap64
 omega
theorem rd_set (l : List Int) (u v x : Int) (hu : 0 <= u) (hl : u < l.length) (hv : 0 <= v) : rd (l.set u.toNat x) v = if v = u then x else rd l v := by
 unfold rd
 rw [List.getD_eq_getElem?_getD, List.getElem?_set, List.getD_eq_getElem?_getD]
 by_cases h : v = u
 rotate_left
 · rw [if_neg (by omega), if_neg h]
 subst h
 rw [if_pos rfl, if_pos (by omega), if_pos rfl]
 rfl
theorem rd_at (l : List Int) (i : Nat) (h : i < l.length) : rd l (i : Int) = l[i] := by
 unfold rd
 rw [Int.toNat_natCast, List.getD_eq_getElem?_getD, List.getElem?_eq_getElem h]
 rfl
theorem rd_mem (l : List Int) (v : Int) (h0 : 0 <= v) (h : v < l.length) : rd l v ∈ l := by
 obtain ⟨i, rfl⟩ := Int.eq_ofNat_of_zero_le h0
 rw [rd_at l i (by omega)]
 exact List.getElem_mem _
theorem mem_rd (l : List Int) (x : Int) (h : x ∈ l) : ∃ i : Nat, i < l.length /\ rd l (i : Int) = x := by
 obtain ⟨i, hi, e⟩ := List.mem_iff_getElem.1 h
 exact ⟨i, hi, by rw [rd_at l i hi]; exact e⟩
theorem rd_rep (n : Nat) (x v : Int) (h0 : 0 <= v) (h : v < n) : rd (List.replicate n x) v = x := by
 obtain ⟨i, rfl⟩ := Int.eq_ofNat_of_zero_le h0
 rw [rd_at _ i (by simp; omega)]
 simp
structure Inv (es : List (List Int)) (st : TS) : Prop where
 li : st.index.length = es.length
 ll : st.low.length = es.length
 lc : st.comp.length = es.length
 stk : ∀ x ∈ st.stack, nd es x /\ 0 < rd st.index x /\ rd st.comp x = -1
 ons : ∀ x, nd es x -> rd st.index x ≠ 0 -> rd st.comp x < 0 -> x ∈ st.stack
 unv : ∀ x, nd es x -> rd st.index x = 0 -> rd st.comp x = -1
 idx : ∀ x, nd es x -> 0 <= rd st.index x /\ rd st.index x <= st.count
 cmp : ∀ x, nd es x -> -1 <= rd st.comp x /\ rd st.comp x < st.comps
 inj : ∀ x y, nd es x -> nd es y -> rd st.index x = rd st.index y -> rd st.index x ≠ 0 -> x = y
 srt : st.stack.Pairwise fun x y => rd st.index x < rd st.index y
 back : ∀ u, nd es u -> 0 <= rd st.comp u -> ∀ w ∈ row es u, 0 <= rd st.comp w /\ rd st.comp w <= rd st.comp u
 same : ∀ u v, nd es u -> nd es v -> rd st.comp u = rd st.comp v -> 0 <= rd st.comp u -> Rc es u v
 onto : ∀ c, 0 <= c -> c < st.comps -> ∃ v, nd es v /\ rd st.comp v = c
 cnt : st.count + (st.index.count 0 : Nat) = es.length
 cps : 0 <= st.comps /\ st.comps + st.stack.length <= st.count
structure Ext (es : List (List Int)) (p : Int -> Prop) (st st' : TS) : Prop where
 idx : ∀ x, nd es x -> rd st.index x ≠ 0 -> rd st'.index x = rd st.index x
 low : ∀ x, nd es x -> rd st.index x ≠ 0 -> p x -> rd st'.low x = rd st.low x
 cmp : ∀ x, nd es x -> 0 <= rd st.comp x -> rd st'.comp x = rd st.comp x
 cnt : st.count <= st'.count
 new : ∀ x, nd es x -> rd st.index x = 0 -> rd st'.index x = 0 \/ st.count < rd st'.index x
theorem Ext.refl (es : List (List Int)) (p : Int -> Prop) (st : TS) : Ext es p st st := ⟨fun _ _ _ => rfl, fun _ _ _ _ => rfl, fun _ _ _ => rfl, Int.le_refl _, fun _ _ h => .inl h⟩
theorem Ext.trans {es : List (List Int)} {p : Int -> Prop} {a b c : TS} (h : Ext es p a b) (k : Ext es p b c) : Ext es p a c where
 idx x hx h0 := by rw [k.idx x hx (by rw [h.idx x hx h0]; exact h0), h.idx x hx h0]
 low x hx h0 hp := by rw [k.low x hx (by rw [h.idx x hx h0]; exact h0) hp, h.low x hx h0 hp]
 cmp x hx h0 := by rw [k.cmp x hx (by rw [h.cmp x hx h0]; exact h0), h.cmp x hx h0]
 cnt := Int.le_trans h.cnt k.cnt
 new x hx h0 := by
  rcases h.new x hx h0 with h1 | h1
  · rcases k.new x hx h1 with h2 | h2
    · exact .inl h2
    · exact .inr (by have := h.cnt; omega)
  · by_cases h2 : rd b.index x = 0
    · rcases k.new x hx h2 with h3 | h3
      · exact .inl h3
      · exact .inr (by have := h.cnt; omega)
    · rw [k.idx x hx h2]
      exact .inr h1
theorem Ext.imp {es : List (List Int)} {p q : Int -> Prop} {a b : TS} (h : Ext es p a b) (hq : ∀ x, q x -> p x) : Ext es q a b := ⟨h.idx, fun x hx h0 hp => h.low x hx h0 (hq x hp), h.cmp, h.cnt, h.new⟩
def Ok (st : TS) (m w : Int) : Prop := 0 <= rd st.comp w \/ (rd st.index w ≠ 0 /\ m <= rd st.index w)
structure Post (es : List (List Int)) (S0 : List Int) (v c0 : Int) (st : TS) : Prop where
 inv : Inv es st
 idx : rd st.index v = c0 + 1
 way : (st.stack = S0 /\ rd st.low v = c0 + 1 /\ 0 <= rd st.comp v) \/
  (∃ rest, st.stack = S0 ++ v :: rest /\ (∀ x ∈ v :: rest, Rc es x v /\ Rc es v x) /\ (∀ x ∈ v :: rest, ∀ w ∈ row es x, Ok st (rd st.low v) w) /\ rd st.low v < c0 + 1 /\ ∃ y ∈ S0, rd st.index y = rd st.low v /\ Rc es v y)
structure Lp (es : List (List Int)) (S0 : List Int) (v c0 : Int) (i : Nat) (st : TS) (rest : List Int) : Prop where
 inv : Inv es st
 nd : nd es v
 idx : rd st.index v = c0 + 1
 stk : st.stack = S0 ++ v :: rest
 tov : ∀ x ∈ st.stack, Rc es x v
 frm : ∀ x ∈ rest, Rc es v x
 low : rd st.low v <= rd st.index v
 wit : ∃ y ∈ st.stack, rd st.index y = rd st.low v /\ Rc es v y
 blk : ∀ x ∈ rest, ∀ w ∈ row es x, Ok st (rd st.low v) w
 done : ∀ j : Nat, j < i -> j < (row es v).length -> Ok st (rd st.low v) (rd (row es v) j)
theorem row_nd {es : List (List Int)} (hv : Vld es) {v : Int} (h : nd es v) (j : Nat) (hj : j < (row es v).length) : nd es (rd (row es v) j) := hv v h _ (by rw [rd_at _ j hj]; exact List.getElem_mem _)
theorem pop_run (es : List (List Int)) (v : Int) (S0 : List Int) : ∀ (m : Nat) (rest : List Int) (k : Nat) (st : TS), rest.length = m -> m < k -> st.stack = S0 ++ v :: rest -> v ∉ rest ->
 (∀ x ∈ v :: rest, nd es x) -> st.comp.length = es.length ->
 ∃ cm : List Int, pop k v st = some { st with stack := S0, comp := cm, comps := wrap64 (st.comps + 1) } /\ cm.length = es.length /\
  (∀ x ∈ v :: rest, rd cm x = st.comps) /\ (∀ x, nd es x -> x ∉ v :: rest -> rd cm x = rd st.comp x) := by
 intro m
 induction m with
 | zero =>
  intro rest k st hm hk hs hnv hnd hl
  obtain rfl : rest = [] := List.eq_nil_of_length_eq_zero hm
  obtain ⟨k, rfl⟩ : ∃ m, k = m + 1 := ⟨k - 1, by omega⟩
  have hv := hnd v (by simp)
  have hlen : st.stack.length = S0.length + 1 := by rw [hs]; simp
  have hx : rd st.stack ((st.stack.length : Int) - 1) = v := by
   rw [show ((st.stack.length : Int) - 1) = ((S0.length : Nat) : Int) by omega, rd_at _ _ (by omega)]
   simp [hs]
  have ht : st.stack.take (st.stack.length - 1) = S0 := by
   rw [hlen, Nat.add_sub_cancel, hs]; simp
  refine ⟨st.comp.set v.toNat st.comps, ?_, by simpa using hl, ?_, ?_⟩
  · unfold pop
    rw [if_pos (by omega)]
    simp only [hx, ht]
    rw [if_pos (by have := hv.1; have := hv.2; rw [hl]; omega), if_pos trivial]
  · intro x hx
    rw [List.mem_singleton] at hx
    subst hx
    rw [rd_set _ _ _ _ hv.1 (by rw [hl]; exact hv.2) hv.1, if_pos rfl]
  · intro x hx hne
    rw [rd_set _ _ _ _ hv.1 (by rw [hl]; exact hv.2) hx.1, if_neg (by simpa using hne)]
 | succ m ih =>
  intro rest k st hm hk hs hnv hnd hl
  obtain ⟨k, rfl⟩ : ∃ m, k = m + 1 := ⟨k - 1, by omega⟩
  obtain ⟨r0, z, rfl⟩ : ∃ r0 z, rest = r0 ++ [z] := ⟨rest.dropLast, rest.getLast (by intro e; rw [e] at hm; cases hm), (List.dropLast_concat_getLast _).symm⟩
  have hz := hnd z (by simp)
  have hlen : st.stack.length = S0.length + 1 + r0.length + 1 := by rw [hs]; simp; omega
  have hs2 : st.stack = (S0 ++ v :: r0) ++ [z] := by rw [hs]; simp
  have hx : rd st.stack ((st.stack.length : Int) - 1) = z := by
   rw [show ((st.stack.length : Int) - 1) = (((S0 ++ v :: r0).length : Nat) : Int) by simp; omega, rd_at _ _ (by simp; omega)]
   simp [hs2]
  have ht : st.stack.take (st.stack.length - 1) = S0 ++ v :: r0 := by
   rw [hlen, Nat.add_sub_cancel, hs2, List.take_left' (by simp; omega)]
  have hzv : z ≠ v := by rintro rfl; simp at hnv
  obtain ⟨cm, h1, h2, h3, h4⟩ := ih r0 k { st with stack := S0 ++ v :: r0, comp := st.comp.set z.toNat st.comps } (by simpa using hm) (by omega) rfl (by intro h; exact hnv (by simp [h]))
   (fun x hx => hnd x (by rcases List.mem_cons.1 hx with h | h <;> simp [h])) (by simpa using hl)
  refine ⟨cm, ?_, h2, ?_, ?_⟩
  · unfold pop
    rw [if_pos (by omega)]
    simp only [hx, ht]
    rw [if_pos (by have := hz.1; have := hz.2; rw [hl]; omega), if_neg hzv]
    exact h1
  · intro x hx
    by_cases h : x ∈ v :: r0
    · exact h3 x h
    have hxz : x = z := by
     simp at hx h
     grind
    subst hxz
    rw [h4 x hz h]
    rw [rd_set _ _ _ _ hz.1 (by rw [hl]; exact hz.2) hz.1, if_pos rfl]
  · intro x hx hne
    rw [h4 x hx (by simp at hne ⊢; grind)]
    show rd (st.comp.set z.toNat st.comps) x = _
    rw [rd_set _ _ _ _ hz.1 (by rw [hl]; exact hz.2) hx.1, if_neg (by simp at hne; grind)]
end Tp
namespace Tp
open Tj
theorem Inv.count_le {es : List (List Int)} {st : TS} (h : Inv es st) : 0 <= st.count /\ st.count <= es.length := by
 have := h.cnt
 have := h.cps
 omega
theorem count_set_lt (l : List Int) (u x : Int) (hu : 0 <= u) (hl : u < l.length) (h0 : rd l u = 0) (hx : x ≠ 0) : (l.set u.toNat x).count 0 + 1 = l.count 0 := by
 obtain ⟨i, rfl⟩ := Int.eq_ofNat_of_zero_le hu
 rw [rd_at l i (by omega)] at h0
 have hi : i < l.length := by omega
 have h1 : 0 < l.count 0 := List.count_pos_iff.2 (h0 ▸ List.getElem_mem hi)
 show (l.set i x).count 0 + 1 = l.count 0
 rw [List.count_set hi]
 simp [h0, hx]
 omega
theorem enter_inv {es : List (List Int)} {st : TS} {v : Int} (h : Inv es st) (hv : nd es v) (h0 : rd st.index v = 0) (hn : es.length < 1000000) :
 Inv es (enter v st) /\ (enter v st).count = st.count + 1 /\ (∀ x, nd es x -> rd (enter v st).index x = if x = v then st.count + 1 else rd st.index x) /\
  (∀ x, nd es x -> rd (enter v st).low x = if x = v then st.count + 1 else rd st.low x) /\ (enter v st).index.count 0 + 1 = st.index.count 0 := by
 have hc := h.count_le
 have hw : wrap64 (st.count + 1) = st.count + 1 := w64 _ (by omega) (by omega)
 have hix : ∀ x, nd es x -> rd (enter v st).index x = if x = v then st.count + 1 else rd st.index x := by
  intro x hx
  show rd (st.index.set v.toNat (wrap64 (st.count + 1))) x = _
  rw [hw, rd_set _ _ _ _ hv.1 (by rw [h.li]; exact hv.2) hx.1]
 have hlx : ∀ x, nd es x -> rd (enter v st).low x = if x = v then st.count + 1 else rd st.low x := by
  intro x hx
  show rd (st.low.set v.toNat (wrap64 (st.count + 1))) x = _
  rw [hw, rd_set _ _ _ _ hv.1 (by rw [h.ll]; exact hv.2) hx.1]
 have hcount : (enter v st).index.count 0 + 1 = st.index.count 0 := count_set_lt _ _ _ hv.1 (by rw [h.li]; exact hv.2) h0 (by rw [hw]; omega)
 have hcnt : (enter v st).count = st.count + 1 := hw
 have hnew : ∀ x ∈ st.stack, x ≠ v := by
  rintro x hx rfl
  have := (h.stk x hx).2.1
  omega
 refine ⟨⟨?_, ?_, h.lc, ?_, ?_, ?_, ?_, h.cmp, ?_, ?_, h.back, h.same, h.onto, ?_, ?_⟩, hcnt, hix, hlx, hcount⟩
 · show (st.index.set _ _).length = _
   rw [List.length_set]; exact h.li
 · show (st.low.set _ _).length = _
   rw [List.length_set]; exact h.ll
 · intro x hx
   rcases List.mem_append.1 (show x ∈ st.stack ++ [v] from hx) with h1 | h1
   · obtain ⟨a, b, c⟩ := h.stk x h1
     refine ⟨a, ?_, c⟩
     rw [hix x a, if_neg (hnew x h1)]
     exact b
   · rw [List.mem_singleton] at h1
     subst h1
     exact ⟨hv, by rw [hix x hv, if_pos rfl]; omega, h.unv x hv h0⟩
 · intro x hx hi hcx
   by_cases e : x = v
   · subst e; show x ∈ st.stack ++ [x]; simp
   rw [hix x hx, if_neg e] at hi
   exact List.mem_append.2 (.inl (h.ons x hx hi hcx))
 · intro x hx hi
   by_cases e : x = v
   · subst e; exact h.unv x hx h0
   rw [hix x hx, if_neg e] at hi
   exact h.unv x hx hi
 · intro x hx
   rw [hix x hx, hcnt]
   have := h.idx x hx
   split <;> omega
 · intro x y hx hy he hne
   rw [hix x hx] at he hne
   rw [hix y hy] at he
   have h1 := h.idx x hx
   have h2 := h.idx y hy
   by_cases ex : x = v
   · rw [if_pos ex] at he
     by_cases ey : y = v
     · rw [ex, ey]
     rw [if_neg ey] at he; omega
   rw [if_neg ex] at he hne
   by_cases ey : y = v
   · rw [if_pos ey] at he; omega
   rw [if_neg ey] at he
   exact h.inj x y hx hy he hne
 · show (st.stack ++ [v]).Pairwise _
   rw [List.pairwise_append]
   refine ⟨?_, by simp, ?_⟩
   · refine h.srt.imp_of_mem ?_
     intro a b ha hb hab
     rw [hix a (h.stk a ha).1, hix b (h.stk b hb).1, if_neg (hnew a ha), if_neg (hnew b hb)]
     exact hab
   · intro a ha b hb
     rw [List.mem_singleton] at hb
     subst hb
     rw [hix a (h.stk a ha).1, hix b hv, if_neg (hnew a ha), if_pos rfl]
     have := (h.idx a (h.stk a ha).1).2
     omega
 · rw [hcnt]
   have := h.cnt
   omega
 · rw [hcnt]
   have := h.cps
   refine ⟨this.1, ?_⟩
   show st.comps + ((st.stack ++ [v]).length : Int) <= _
   rw [List.length_append, List.length_singleton]
   omega
theorem lower_inv {es : List (List Int)} {st : TS} {v x : Int} (h : Inv es st) : Inv es (lower v x st) :=
 ⟨h.li, by show (st.low.set _ _).length = _; rw [List.length_set]; exact h.ll, h.lc, h.stk, h.ons, h.unv, h.idx, h.cmp, h.inj, h.srt, h.back, h.same, h.onto, h.cnt, h.cps⟩
theorem lower_low {es : List (List Int)} {st : TS} {v x : Int} (h : Inv es st) (hv : nd es v) (u : Int) (hu : nd es u) : rd (lower v x st).low u = if u = v then mn (rd st.low v) x else rd st.low u := by
 show rd (st.low.set _ _) u = _
 rw [rd_set _ _ _ _ hv.1 (by rw [h.ll]; exact hv.2) hu.1]
theorem mn_le (a b : Int) : mn a b <= a /\ mn a b <= b /\ (mn a b = a \/ mn a b = b) := by
 unfold mn
 split <;> omega
theorem lower_ext {es : List (List Int)} {st : TS} {v x : Int} (h : Inv es st) (hv : nd es v) : Ext es (· ≠ v) st (lower v x st) :=
 ⟨fun _ _ _ => rfl, fun u hu _ hp => by rw [lower_low h hv u hu, if_neg hp], fun _ _ _ => rfl, Int.le_refl _, fun _ _ h => .inl h⟩
theorem Lp.notin {es : List (List Int)} {S0 : List Int} {v c0 : Int} {i : Nat} {st : TS} {rest : List Int} (h : Lp es S0 v c0 i st rest) :
 v ∉ rest /\ (∀ x ∈ S0, rd st.index x < rd st.index v) /\ (∀ x ∈ rest, rd st.index v < rd st.index x) := by
 have hs := h.inv.srt
 rw [h.stk, List.pairwise_append] at hs
 obtain ⟨_, h2, h3⟩ := hs
 rw [List.pairwise_cons] at h2
 refine ⟨fun hm => ?_, fun x hx => h3 x hx v (by simp), h2.1⟩
 have := h2.1 v hm
 omega
theorem end_pop {es : List (List Int)} (hvld : Vld es) {S0 : List Int} {v c0 : Int} {i k : Nat} {st : TS} {rest : List Int} (h : Lp es S0 v c0 i st rest) (hi : (row es v).length <= i)
 (hlow : rd st.low v = rd st.index v) (hk : es.length < k) (hn : es.length < 1000000) :
 ∃ st', pop k v st = some st' /\ Post es S0 v c0 st' /\ Ext es (· ≠ v) st st' /\ st'.index = st.index := by
 obtain ⟨n1, n2, n3⟩ := h.notin
 have hI := h.inv
 have hcl := hI.count_le
 have hmem : ∀ x ∈ v :: rest, x ∈ st.stack := fun x hx => by rw [h.stk]; exact List.mem_append.2 (.inr hx)
 have hseg : ∀ x ∈ v :: rest, nd es x := fun x hx => (hI.stk x (hmem x hx)).1
 have hlen : st.stack.length = S0.length + rest.length + 1 := by rw [h.stk]; simp; omega
 obtain ⟨cm, h1, h2, h3, h4⟩ := pop_run es v S0 rest.length rest k st rfl (by have := hI.cps; omega) h.stk n1 hseg hI.lc
 have hw : wrap64 (st.comps + 1) = st.comps + 1 := w64 _ (by have := hI.cps; omega) (by have := hI.cps; omega)
 rw [hw] at h1
 refine ⟨_, h1, ?_, ?_, rfl⟩
 · have hS0 : ∀ x ∈ S0, x ∉ v :: rest := by
    intro x hx hm
    have a1 := n2 x hx
    rcases List.mem_cons.1 hm with e | e
    · rw [e] at a1; omega
    · have := n3 x e; omega
   have hold : ∀ x, nd es x -> 0 <= rd st.comp x -> x ∉ v :: rest := by
    intro x hx hc hm
    have := (hI.stk x (hmem x hm)).2.2
    omega
   have hsuc : ∀ u ∈ v :: rest, ∀ w ∈ row es u, Ok st (rd st.low v) w := by
    intro u hu w hw
    rcases List.mem_cons.1 hu with e | e
    · subst e
      obtain ⟨j, hj, rfl⟩ := mem_rd _ _ hw
      exact h.done j (by omega) hj
    · exact h.blk u e w hw
   refine ⟨⟨hI.li, hI.ll, h2, ?_, ?_, ?_, hI.idx, ?_, hI.inj, ?_, ?_, ?_, ?_, hI.cnt, ?_⟩, h.idx, .inl ⟨rfl, by rw [<- h.idx]; exact hlow, ?_⟩⟩
   · intro x hx
     obtain ⟨a, b, c⟩ := hI.stk x (by rw [h.stk]; exact List.mem_append.2 (.inl hx))
     exact ⟨a, b, by show rd cm x = _; rw [h4 x a (hS0 x hx)]; exact c⟩
   · intro x hx hi0 hc
     have hc' : rd cm x < 0 := hc
     have hns : x ∉ v :: rest := by
      intro hm
      rw [h3 x hm] at hc'
      have := hI.cps
      omega
     rw [h4 x hx hns] at hc'
     have := hI.ons x hx hi0 hc'
     rw [h.stk] at this
     rcases List.mem_append.1 this with e | e
     · exact e
     · exact absurd e hns
   · intro x hx hi0
     have hns : x ∉ v :: rest := by
      intro hm
      have := (hI.stk x (hmem x hm)).2.1
      have hi1 : rd st.index x = 0 := hi0
      omega
     show rd cm x = _
     rw [h4 x hx hns]
     exact hI.unv x hx hi0
   · intro x hx
     show -1 <= rd cm x /\ rd cm x < st.comps + 1
     by_cases hm : x ∈ v :: rest
     · rw [h3 x hm]; have := hI.cps; omega
     rw [h4 x hx hm]; have := hI.cmp x hx; omega
   · have := hI.srt
     rw [h.stk, List.pairwise_append] at this
     exact this.1
   · intro u hu hc w hwm
     show 0 <= rd cm w /\ rd cm w <= rd cm u
     have hc' : 0 <= rd cm u := hc
     have hwn : nd es w := hvld u hu w hwm
     by_cases hm : u ∈ v :: rest
     rotate_left
     · rw [h4 u hu hm] at hc' ⊢
       have hb := hI.back u hu hc' w hwm
       rw [h4 w hwn (hold w hwn hb.1)]
       exact hb
     rw [h3 u hm]
     by_cases hwm2 : w ∈ v :: rest
     · rw [h3 w hwm2]; have := hI.cps; omega
     rw [h4 w hwn hwm2]
     rcases hsuc u hm w hwm with e | ⟨e1, e2⟩
     · have := hI.cmp w hwn; omega
     · by_cases hcw : 0 <= rd st.comp w
       · have := hI.cmp w hwn; omega
       · have hst := hI.ons w hwn e1 (by omega)
         rw [h.stk] at hst
         rcases List.mem_append.1 hst with e | e
         · have := n2 w e; omega
         · exact absurd e hwm2
   · intro x y hx hy he hc
     have he' : rd cm x = rd cm y := he
     by_cases hm : x ∈ v :: rest
     rotate_left
     · by_cases hm2 : y ∈ v :: rest
       · rw [h3 y hm2, h4 x hx hm] at he'
         have := hI.cmp x hx
         omega
       · have hc' : 0 <= rd cm x := hc
         rw [h4 x hx hm] at hc'
         rw [h4 x hx hm, h4 y hy hm2] at he'
         exact hI.same x y hx hy he' hc'
     by_cases hm2 : y ∈ v :: rest
     rotate_left
     · rw [h3 x hm, h4 y hy hm2] at he'
       have := hI.cmp y hy
       omega
     have hxv : Rc es x v := h.tov x (hmem x hm)
     rcases List.mem_cons.1 hm2 with e | e
     · rw [e]; exact hxv
     · exact hxv.trans (h.frm y e)
   · intro c h0 hc
     have hc' : c < st.comps + 1 := hc
     by_cases e : c = st.comps
     · exact ⟨v, h.nd, by rw [e]; exact h3 v (by simp)⟩
     obtain ⟨u, hu, hcu⟩ := hI.onto c h0 (by omega)
     exact ⟨u, hu, by show rd cm u = c; rw [h4 u hu (hold u hu (by omega))]; exact hcu⟩
   · show 0 <= st.comps + 1 /\ st.comps + 1 + (S0.length : Int) <= st.count
     have := hI.cps
     omega
   · show 0 <= rd cm v
     rw [h3 v (by simp)]
     exact hI.cps.1
 · refine ⟨fun _ _ _ => rfl, fun _ _ _ _ => rfl, fun x hx hc => ?_, Int.le_refl _, fun _ _ e => .inl e⟩
   have hns : x ∉ v :: rest := by
    intro hm
    have := (hI.stk x (hmem x hm)).2.2
    omega
   exact h4 x hx hns
end Tp
namespace Tp
open Tj
def VisitOk (es : List (List Int)) (L k : Nat) : Prop := ∀ (v : Int) (st : TS), Inv es st -> nd es v -> rd st.index v = 0 -> (∀ x ∈ st.stack, Rc es x v) -> st.index.count 0 * (L + 2) + es.length + 2 <= k ->
 ∃ st', visit k es v st = some st' /\ Post es st.stack v st.count st' /\ Ext es (fun _ => True) st st' /\ st'.index.count 0 <= st.index.count 0
def EachOk (es : List (List Int)) (L k : Nat) : Prop := ∀ (S0 : List Int) (v c0 : Int) (i : Nat) (st : TS) (rest : List Int), Lp es S0 v c0 i st rest -> st.index.count 0 * (L + 2) + (L - i) + es.length + 2 <= k ->
 ∃ st', each k es v (row es v) i st = some st' /\ Post es S0 v c0 st' /\ Ext es (· ≠ v) st st' /\ st'.index.count 0 <= st.index.count 0
theorem unv_le {es : List (List Int)} {a b : TS} (ha : Inv es a) (hb : Inv es b) (h : a.count <= b.count) : b.index.count 0 <= a.index.count 0 := by
 have := ha.cnt
 have := hb.cnt
 omega
theorem Ok.ext {es : List (List Int)} {p : Int -> Prop} {a b : TS} (h : Ext es p a b) {m m' w : Int} (hw : nd es w) (hm : m' <= m) (ho : Ok a m w) : Ok b m' w := by
 rcases ho with e | ⟨e1, e2⟩
 · exact .inl (by rw [h.cmp w hw e]; exact e)
 · exact .inr (by rw [h.idx w hw e1]; exact ⟨e1, by omega⟩)
theorem visit_step {es : List (List Int)} (hvld : Vld es) {L k : Nat} (hL : ∀ v, (row es v).length <= L) (hn : es.length < 1000000) (he : EachOk es L k) : VisitOk es L (k + 1) := by
 intro v st hI hv h0 hto hk
 obtain ⟨hI1, hc1, hix, hlx, hct⟩ := enter_inv hI hv h0 hn
 have hcps := hI.cps
 have hcl := hI.count_le
 unfold visit
 rw [if_pos ⟨hv.1, hv.2, by omega⟩]
 have hlp : Lp es st.stack v st.count 0 (enter v st) [] := by
  refine ⟨hI1, hv, by rw [hix v hv, if_pos rfl], rfl, ?_, by simp, ?_, ?_, by simp, by intro j hj; omega⟩
  · intro x hx
    rcases List.mem_append.1 (show x ∈ st.stack ++ [v] from hx) with e | e
    · exact hto x e
    · rw [List.mem_singleton] at e; subst e; exact .refl _
  · rw [hlx v hv, hix v hv]; simp
  · exact ⟨v, by show v ∈ st.stack ++ [v]; simp, by rw [hlx v hv, hix v hv]; simp, .refl _⟩
 have hmul : st.index.count 0 * (L + 2) = (enter v st).index.count 0 * (L + 2) + (L + 2) := by
  rw [<- hct, Nat.add_mul, Nat.one_mul]
 obtain ⟨st', h1, h2, h3, h4⟩ := he st.stack v st.count 0 (enter v st) [] hlp (by omega)
 refine ⟨st', h1, h2, ?_, by omega⟩
 refine ⟨?_, ?_, ?_, ?_, ?_⟩
 · intro x hx hi
   have e : x ≠ v := by rintro rfl; exact hi h0
   have := hix x hx
   rw [if_neg e] at this
   rw [h3.idx x hx (by rw [this]; exact hi), this]
 · intro x hx hi _
   have e : x ≠ v := by rintro rfl; exact hi h0
   have := hix x hx
   rw [if_neg e] at this
   rw [h3.low x hx (by rw [this]; exact hi) e, hlx x hx, if_neg e]
 · exact h3.cmp
 · have := h3.cnt; omega
 · intro x hx hi
   by_cases e : x = v
   · subst e
     right
     rw [h2.idx]; omega
   have := hix x hx
   rw [if_neg e] at this
   rcases h3.new x hx (by rw [this]; exact hi) with e2 | e2
   · exact .inl e2
   · exact .inr (by omega)
theorem lp_next {es : List (List Int)} (hvld : Vld es) {S0 : List Int} {v c0 : Int} {i : Nat} {st st2 : TS} {rest r1 : List Int} (h : Lp es S0 v c0 i st rest) (hi : i < (row es v).length)
 (h2 : Inv es st2) (he : Ext es (fun _ => False) st st2) (hs : st2.stack = st.stack ++ r1) (hr : ∀ x ∈ r1, Rc es x v /\ Rc es v x) (hl : rd st2.low v <= rd st.low v)
 (hw : rd st2.low v = rd st.low v \/ ∃ y ∈ st2.stack, rd st2.index y = rd st2.low v /\ Rc es v y) (hb : ∀ x ∈ r1, ∀ u ∈ row es x, Ok st2 (rd st2.low v) u) (hd : Ok st2 (rd st2.low v) (rd (row es v) i)) :
 Lp es S0 v c0 (i + 1) st2 (rest ++ r1) := by
 have hI := h.inv
 have hvs : v ∈ st.stack := by rw [h.stk]; simp
 have hix : ∀ x ∈ st.stack, nd es x /\ rd st2.index x = rd st.index x := fun x hx => ⟨(hI.stk x hx).1, he.idx x (hI.stk x hx).1 (by have := (hI.stk x hx).2.1; omega)⟩
 refine ⟨h2, h.nd, by rw [(hix v hvs).2]; exact h.idx, by rw [hs, h.stk]; simp, ?_, ?_, by rw [(hix v hvs).2]; have := h.low; omega, ?_, ?_, ?_⟩
 · intro x hx
   rw [hs] at hx
   rcases List.mem_append.1 hx with e | e
   · exact h.tov x e
   · exact (hr x e).1
 · intro x hx
   rcases List.mem_append.1 hx with e | e
   · exact h.frm x e
   · exact (hr x e).2
 · rcases hw with e | e
   · obtain ⟨y, y1, y2, y3⟩ := h.wit
     exact ⟨y, by rw [hs]; exact List.mem_append.2 (.inl y1), by rw [(hix y y1).2, e]; exact y2, y3⟩
   · exact e
 · intro x hx u hu
   rcases List.mem_append.1 hx with e | e
   · exact Ok.ext he (hvld x (hI.stk x (by rw [h.stk]; simp [e])).1 u hu) hl (h.blk x e u hu)
   · exact hb x e u hu
 · intro j hj hjl
   by_cases e : j = i
   · rw [e]; exact hd
   exact Ok.ext he (row_nd hvld h.nd j hjl) hl (h.done j (by omega) hjl)
theorem each_step {es : List (List Int)} (hvld : Vld es) {L k : Nat} (hL : ∀ v, (row es v).length <= L) (hn : es.length < 1000000) (hv : VisitOk es L k) (he : EachOk es L k) : EachOk es L (k + 1) := by
 intro S0 v c0 i st rest h hk
 have hI := h.inv
 have hcl := hI.count_le
 have hiv := hI.idx v h.nd
 have hLv := hL v
 have hvs : v ∈ st.stack := by rw [h.stk]; simp
 have hvi : rd st.index v ≠ 0 := by have := (hI.stk v hvs).2.1; omega
 unfold each
 by_cases hi : i < (row es v).length
 rotate_left
 · rw [if_neg (by omega)]
   by_cases hlow : rd st.low v = rd st.index v
   · rw [if_pos hlow]
     obtain ⟨st', b1, b2, b3, b4⟩ := end_pop (k := k) hvld h (by omega) hlow (by omega) hn
     exact ⟨st', b1, b2, b3, by rw [b4]; exact Nat.le_refl _⟩
   rw [if_neg hlow]
   refine ⟨st, rfl, ⟨hI, h.idx, .inr ⟨rest, h.stk, ?_, ?_, ?_, ?_⟩⟩, Ext.refl _ _ _, Nat.le_refl _⟩
   · intro x hx
     refine ⟨h.tov x (by rw [h.stk]; exact List.mem_append.2 (.inr hx)), ?_⟩
     rcases List.mem_cons.1 hx with e | e
     · rw [e]; exact .refl _
     · exact h.frm x e
   · intro x hx u hu
     rcases List.mem_cons.1 hx with e | e
     · rw [e] at hu
       obtain ⟨j, hj, rfl⟩ := mem_rd _ _ hu
       exact h.done j (by omega) hj
     · exact h.blk x e u hu
   · have := h.low; have := h.idx; omega
   · obtain ⟨y, y1, y2, y3⟩ := h.wit
     refine ⟨y, ?_, y2, y3⟩
     have := h.low
     obtain ⟨n1, n2, n3⟩ := h.notin
     rw [h.stk] at y1
     rcases List.mem_append.1 y1 with e | e
     · exact e
     · rcases List.mem_cons.1 e with e | e
       · rw [e] at y2; omega
       · have := n3 y e; omega
 rw [if_pos (by omega)]
 have hw := row_nd hvld h.nd i hi
 have hmem : rd (row es v) i ∈ row es v := by rw [rd_at _ i hi]; exact List.getElem_mem _
 have hnx := @lp_next es hvld S0 v c0 i st
 generalize hwd : rd (row es v) i = w at *
 rw [if_pos ⟨hw.1, hw.2⟩, show (i : Int) + 1 = ((i + 1 : Nat) : Int) by omega]
 by_cases h0 : rd st.index w = 0
 rotate_left
 · rw [if_neg h0]
   by_cases hc : rd st.comp w < 0
   rotate_left
   · rw [if_neg hc]
     have hlp := hnx h hi (r1 := []) hI (Ext.refl _ _ _) (by simp) (by simp) (Int.le_refl _) (.inl rfl) (by simp) (.inl (by omega))
     obtain ⟨st', b1, b2, b3, b4⟩ := he S0 v c0 (i + 1) _ _ hlp (by omega)
     exact ⟨st', b1, b2, b3, b4⟩
   rw [if_pos hc]
   have hlv : rd (lower v (rd st.index w) st).low v = mn (rd st.low v) (rd st.index w) := by rw [lower_low hI h.nd v h.nd, if_pos rfl]
   have hmn := mn_le (rd st.low v) (rd st.index w)
   have hlp := hnx h hi (r1 := []) (lower_inv (v := v) (x := rd st.index w) hI) ((lower_ext hI h.nd).imp (fun _ h => h.elim)) (by show st.stack = _; simp) (by simp) (by rw [hlv]; exact hmn.1)
    (by
     rw [hlv]
     rcases hmn.2.2 with e | e
     · exact .inl e
     · exact .inr ⟨w, hI.ons w hw h0 hc, e.symm, Rc.edge hmem⟩) (by simp) (.inr ⟨h0, by rw [hlv]; exact hmn.2.1⟩)
   obtain ⟨st', b1, b2, b3, b4⟩ := he S0 v c0 (i + 1) _ _ hlp (by show st.index.count 0 * (L + 2) + _ + _ + _ <= _; omega)
   exact ⟨st', b1, b2, (lower_ext hI h.nd).trans b3, b4⟩
 rw [if_pos h0]
 obtain ⟨st1, a1, a2, a3, a4⟩ := hv w st hI hw h0 (fun x hx => (h.tov x hx).tail hmem) (by omega)
 rw [a1, Option.bind_some]
 have hI1 := a2.inv
 have hl1 : rd st1.low v = rd st.low v := a3.low v h.nd hvi trivial
 have hlv : rd (lower v (rd st1.low w) st1).low v = mn (rd st.low v) (rd st1.low w) := by rw [lower_low hI1 h.nd v h.nd, if_pos rfl, hl1]
 have hmn := mn_le (rd st.low v) (rd st1.low w)
 have hext : Ext es (· ≠ v) st (lower v (rd st1.low w) st1) := (a3.imp (fun _ _ => trivial)).trans (lower_ext hI1 h.nd)
 have hlow := h.low
 have next : ∃ rest2, Lp es S0 v c0 (i + 1) (lower v (rd st1.low w) st1) rest2 := by
  rcases a2.way with ⟨s1, s2, s3⟩ | ⟨r1, s1, s2, s3, s4, y, s5, s6, s7⟩
  · exact ⟨_, hnx h hi (r1 := []) (lower_inv hI1) (hext.imp (fun _ h => h.elim)) (by show st1.stack = _; rw [s1]; simp) (by simp) (by rw [hlv]; exact hmn.1) (.inl (by rw [hlv]; omega)) (by simp) (.inl s3)⟩
  · refine ⟨_, hnx h hi (r1 := w :: r1) (lower_inv hI1) (hext.imp (fun _ h => h.elim)) s1 (fun x hx => ?_) (by rw [hlv]; exact hmn.1) ?_ ?_ (.inr ?_)⟩
    · exact ⟨(s2 x hx).1.trans (s7.trans (h.tov y s5)), (Rc.edge hmem).trans (s2 x hx).2⟩
    · rw [hlv]
      rcases hmn.2.2 with e | e
      · exact .inl e
      · refine .inr ⟨y, by show y ∈ st1.stack; rw [s1]; exact List.mem_append.2 (.inl s5), ?_, (Rc.edge hmem).trans s7⟩
        rw [e]; exact s6
    · intro x hx u hu
      rcases s3 x hx u hu with e | ⟨e1, e2⟩
      · exact .inl e
      · exact .inr ⟨e1, by rw [hlv]; show _ <= rd st1.index u; omega⟩
    · have e1 : rd (lower v (rd st1.low w) st1).index w = st.count + 1 := a2.idx
      rw [e1, hlv]
      omega
 obtain ⟨rest2, hlp⟩ := next
 have hu := unv_le hI hI1 a3.cnt
 have hmul : st1.index.count 0 * (L + 2) <= st.index.count 0 * (L + 2) := Nat.mul_le_mul_right _ hu
 obtain ⟨st', b1, b2, b3, b4⟩ := he S0 v c0 (i + 1) _ rest2 hlp (by show st1.index.count 0 * (L + 2) + _ + _ + _ <= _; omega)
 exact ⟨st', b1, b2, hext.trans b3, by have : (lower v (rd st1.low w) st1).index = st1.index := rfl; rw [this] at b4; omega⟩
theorem both {es : List (List Int)} (hvld : Vld es) {L : Nat} (hL : ∀ v, (row es v).length <= L) (hn : es.length < 1000000) : ∀ k, VisitOk es L k /\ EachOk es L k := by
 intro k
 induction k with
 | zero => exact ⟨fun v st _ _ _ _ hk => by omega, fun S0 v c0 i st rest _ hk => by omega⟩
 | succ k ih => exact ⟨visit_step hvld hL hn ih.2, each_step hvld hL hn ih.1 ih.2⟩
structure Sol (es : List (List Int)) (cm : List Int) (n : Int) : Prop where
 len : cm.length = es.length
 n0 : 0 <= n /\ n <= es.length
 rng : ∀ v, nd es v -> 0 <= rd cm v /\ rd cm v < n
 back : ∀ u, nd es u -> ∀ w ∈ row es u, rd cm w <= rd cm u
 same : ∀ u v, nd es u -> nd es v -> rd cm u = rd cm v -> Rc es u v
 onto : ∀ c, 0 <= c -> c < n -> ∃ v, nd es v /\ rd cm v = c
theorem outer_run {es : List (List Int)} (hvld : Vld es) {L : Nat} (hL : ∀ v, (row es v).length <= L) (hn : es.length < 1000000) : ∀ (m : Nat) (k i : Nat) (st : TS), i + m = es.length -> es.length * (L + 2) + es.length + 2 + m < k ->
 Inv es st -> st.stack = [] -> (∀ x, nd es x -> x < i -> rd st.index x ≠ 0) -> ∃ st', outer k es i st = some st' /\ Inv es st' /\ st'.stack = [] /\ ∀ x, nd es x -> rd st'.index x ≠ 0 := by
 intro m
 induction m with
 | zero =>
  intro k i st hi hk hI hs hx
  obtain ⟨k, rfl⟩ : ∃ m, k = m + 1 := ⟨k - 1, by omega⟩
  unfold outer
  rw [if_neg (by omega)]
  exact ⟨st, rfl, hI, hs, fun x h => hx x h (by have := h.2; omega)⟩
 | succ m ih =>
  intro k i st hi hk hI hs hx
  obtain ⟨k, rfl⟩ : ∃ m, k = m + 1 := ⟨k - 1, by omega⟩
  have hnd : nd es (i : Int) := ⟨by omega, by omega⟩
  have hcl := hI.count_le
  unfold outer
  rw [if_pos (by omega), show (i : Int) + 1 = ((i + 1 : Nat) : Int) by omega]
  by_cases h0 : rd st.index i = 0
  rotate_left
  · rw [if_neg h0]
    refine ih k (i + 1) st (by omega) (by omega) hI hs ?_
    intro x h1 h2
    by_cases e : x = i
    · subst e; exact h0
    exact hx x h1 (by omega)
  rw [if_pos h0]
  have hu : st.index.count 0 <= es.length := by rw [<- hI.li]; exact List.count_le_length
  have hmul : st.index.count 0 * (L + 2) <= es.length * (L + 2) := Nat.mul_le_mul_right _ hu
  obtain ⟨st1, a1, a2, a3, a4⟩ := (both hvld hL hn k).1 i st hI hnd h0 (by rw [hs]; simp) (by omega)
  rw [a1, Option.bind_some]
  have hs1 : st1.stack = [] := by
   rcases a2.way with ⟨s1, _⟩ | ⟨_, _, _, _, _, y, s5, _⟩
   · rw [s1, hs]
   · rw [hs] at s5; cases s5
  refine ih k (i + 1) st1 (by omega) (by omega) a2.inv hs1 ?_
  intro x h1 h2
  by_cases e : x = i
  · subst e; rw [a2.idx]; omega
  have := hx x h1 (by omega)
  rw [a3.idx x h1 this]
  exact this
theorem init_inv (es : List (List Int)) : Inv es (init es.length) := by
 have hi : ∀ x, nd es x -> rd (init es.length).index x = 0 := fun x h => rd_rep _ _ _ h.1 h.2
 have hc : ∀ x, nd es x -> rd (init es.length).comp x = -1 := fun x h => rd_rep _ _ _ h.1 h.2
 refine ⟨by simp [init], by simp [init], by simp [init], (fun x hx => by cases hx), (fun x h h0 => absurd (hi x h) h0), (fun x h _ => hc x h), (fun x h => ?_), (fun x h => ?_),
  (fun x y h _ _ h0 => absurd (hi x h) h0), List.Pairwise.nil, (fun u h h0 => ?_), (fun u v h _ _ h0 => ?_), (fun c h0 h1 => ?_), ?_, ?_⟩
 · rw [hi x h]; simp [init]
 · rw [hc x h]; simp [init]
 · rw [hc u h] at h0; omega
 · rw [hc u h] at h0; omega
 · simp [init] at h1; omega
 · simp [init]
 · simp [init]
theorem strong_sol {es : List (List Int)} (hvld : Vld es) {L : Nat} (hL : ∀ v, (row es v).length <= L) (hn : es.length < 1000000) (k : Nat) (hk : es.length * (L + 2) + es.length + es.length + 3 <= k) :
 ∃ cm n, strongF k es = some (cm, n) /\ Sol es cm n := by
 obtain ⟨st, h1, h2, h3, h4⟩ := outer_run hvld hL hn es.length k 0 (init es.length) (by omega) (by omega) (init_inv es) rfl (fun x h h0 => by have := h.1; omega)
 refine ⟨st.comp, st.comps, ?_, ?_⟩
 · unfold strongF
   rw [if_pos (by omega)]
   show (outer k es ((0 : Nat) : Int) _).map _ = _
   rw [h1]
   rfl
 · have hr : ∀ v, nd es v -> 0 <= rd st.comp v := by
    intro v hv
    have h5 := h2.cmp v hv
    by_cases e : rd st.comp v < 0
    rotate_left
    · omega
    have := h2.ons v hv (h4 v hv) e
    rw [h3] at this
    cases this
   have hcl := h2.count_le
   have hcps := h2.cps
   exact ⟨h2.lc, by omega, fun v hv => ⟨hr v hv, (h2.cmp v hv).2⟩, fun u hu w hw => (h2.back u hu (hr u hu) w hw).2, fun u v hu hv he => h2.same u v hu hv he (hr u hu), h2.onto⟩
end Tp
end Go.Proofs.Ytmadhaccjmakdaa
namespace Go.Proofs.Ytmadhaccjmakdaa
open Go.RowKit Go.Proofs.Yw.A Go.Proofs.Yw.B Go.Proofs.Yw.C
namespace Tp
open Tj Rw Od
def iota (n : Nat) : List Int := (List.range n).map fun (i : Nat) => (i : Int)
theorem mem_iota {n : Nat} {x : Int} : x ∈ iota n ↔ 0 <= x /\ x < n := by
 unfold iota
 rw [List.mem_map]
 constructor
 · rintro ⟨i, hi, rfl⟩
   have := List.mem_range.1 hi
   omega
 · intro h
   exact ⟨x.toNat, List.mem_range.2 (by omega), by omega⟩
theorem iota_succ (n : Nat) : iota (n + 1) = iota n ++ [(n : Int)] := by
 unfold iota
 rw [List.range_succ, List.map_append]
 rfl
theorem iota_lt (n : Nat) : (iota n).Pairwise (· < ·) := by
 unfold iota
 rw [List.pairwise_map]
 exact List.pairwise_lt_range.imp (fun h => by omega)
theorem iota_length (n : Nat) : (iota n).length = n := by simp [iota]
theorem nodup_le : ∀ (n : Nat) (l : List Int), l.Nodup -> (∀ x ∈ l, 0 <= x /\ x < n) -> l.length <= n := by
 intro n
 induction n with
 | zero =>
  intro l _ h
  cases l with
  | nil => exact Nat.le_refl _
  | cons a l => have := h a (by simp); omega
 | succ n ih =>
  intro l hd h
  have h1 := ih (l.erase (n : Int)) (hd.erase _) (fun x hx => by
   have h2 := (hd.mem_erase_iff).1 hx
   have := h x h2.2
   have := h2.1
   omega)
  by_cases hm : (n : Int) ∈ l
  rotate_left
  · rw [List.erase_of_not_mem hm] at h1; omega
  rw [List.length_erase_of_mem hm] at h1; omega
theorem row_set (ms : List (List Int)) (c d : Int) (r : List Int) (h0 : 0 <= c) (h1 : c < ms.length) (hd : 0 <= d) : row (ms.set c.toNat r) d = if d = c then r else row ms d := by
 unfold row
 rw [List.getD_eq_getElem?_getD, List.getElem?_set, List.getD_eq_getElem?_getD]
 by_cases h : d = c
 rotate_left
 · rw [if_neg (by omega), if_neg h]
 subst h
 rw [if_pos rfl, if_pos (by omega), if_pos rfl]
 rfl
theorem row_app (ms : List (List Int)) (c d x : Int) (h0 : 0 <= c) (h1 : c < ms.length) (hd : 0 <= d) : row (app ms c x) d = if d = c then row ms c ++ [x] else row ms d := row_set ms c d _ h0 h1 hd
theorem app_length (ms : List (List Int)) (c x : Int) : (app ms c x).length = ms.length := by simp [app]
theorem row_rep (n : Nat) (c : Int) : row (List.replicate n []) c = [] := by
 unfold row
 rw [List.getD_eq_getElem?_getD]
 by_cases h : c.toNat < n
 rotate_left
 · rw [List.getElem?_eq_none (by simpa using h)]; rfl
 rw [List.getElem?_eq_getElem (by simpa using h)]; simp
theorem rd_rep0 (n : Nat) (c : Int) : rd (List.replicate n 0) c = 0 := by
 unfold rd
 rw [List.getD_eq_getElem?_getD]
 by_cases h : c.toNat < n
 rotate_left
 · rw [List.getElem?_eq_none (by simpa using h)]; rfl
 rw [List.getElem?_eq_getElem (by simpa using h)]; simp
theorem row_mem (ms : List (List Int)) (i : Nat) (h : i < ms.length) : row ms (i : Int) = ms[i] := by
 unfold row
 rw [Int.toNat_natCast, List.getD_eq_getElem?_getD, List.getElem?_eq_getElem h]
 rfl
def mem (cm : List Int) (c : Int) : List Int := (iota cm.length).filter fun v => rd cm v == c
theorem mem_mem {cm : List Int} {c x : Int} : x ∈ mem cm c ↔ (0 <= x /\ x < cm.length) /\ rd cm x = c := by
 unfold mem
 rw [List.mem_filter, mem_iota]
 simp
theorem mem_len (cm : List Int) (c : Int) : (mem cm c).length <= cm.length := by
 unfold mem
 exact Nat.le_trans (List.length_filter_le _ _) (by rw [iota_length]; exact Nat.le_refl _)
theorem grp_run {es : List (List Int)} {cm : List Int} {n : Int} (S : Sol es cm n) (hn : es.length < 1000000) : ∀ (m k i : Nat) (ms : List (List Int)), i + m = cm.length -> m < k -> (ms.length : Int) = n ->
 (∀ c, 0 <= c -> c < n -> row ms c = (iota i).filter fun v => rd cm v == c) -> ∃ ms', grp k cm i ms = some ms' /\ (ms'.length : Int) = n /\ ∀ c, 0 <= c -> c < n -> row ms' c = mem cm c := by
 intro m
 induction m with
 | zero =>
  intro k i ms hi hk hl h
  obtain ⟨k, rfl⟩ : ∃ m, k = m + 1 := ⟨k - 1, by omega⟩
  obtain rfl : i = cm.length := by omega
  unfold grp
  rw [if_neg (by omega)]
  exact ⟨ms, rfl, hl, h⟩
 | succ m ih =>
  intro k i ms hi hk hl h
  obtain ⟨k, rfl⟩ : ∃ m, k = m + 1 := ⟨k - 1, by omega⟩
  have hr := S.rng i ⟨by omega, by have := S.len; omega⟩
  have hlen : (row ms (rd cm i)).length <= i := by
   rw [h _ hr.1 hr.2]
   exact Nat.le_trans (List.length_filter_le _ _) (by rw [iota_length]; exact Nat.le_refl _)
  unfold grp
  rw [if_pos (by omega), if_pos ⟨hr.1, by omega, by have := S.len; omega⟩, show (i : Int) + 1 = ((i + 1 : Nat) : Int) by omega]
  refine ih k (i + 1) _ (by omega) (by omega) (by rw [app_length]; exact hl) ?_
  intro c h0 h1
  rw [row_app _ _ _ _ hr.1 (by omega) h0, iota_succ, List.filter_append, <- h c h0 h1]
  by_cases e : c = rd cm i
  · subst e
    rw [if_pos rfl]
    simp
  rw [if_neg e]
  have : (rd cm i == c) = false := by simpa using fun h => e h.symm
  simp [this]
def Dep (es : List (List Int)) (cm : List Int) (c d : Int) : Prop := c ≠ d /\ ∃ v ∈ mem cm c, ∃ w ∈ row es v, rd cm w = d
structure J (n : Int) (c : Int) (O0 : Int -> Int) (U0 : Int -> List Int) (u : US) : Prop where
 lo : (u.opn.length : Int) = n
 lu : (u.users.length : Int) = n
 nd : u.seen.Nodup
 hc : c ∈ u.seen
 rg : ∀ d ∈ u.seen, 0 <= d /\ d < n
 oo : ∀ d, 0 <= d -> d ≠ c -> rd u.opn d = O0 d
 oc : rd u.opn c = u.seen.length - 1
 us : ∀ d, 0 <= d -> d < n -> row u.users d = U0 d ++ (if d ∈ u.seen /\ d ≠ c then [c] else [])
theorem wf_small (x : Int) (h0 : 0 <= x) (h1 : x < 1000000) : (Lit.int .i64 x).wf = true := by
 have a : IntKind.i64.min = -9223372036854775808 := rfl
 have b : IntKind.i64.max = 9223372036854775807 := rfl
 simp only [Lit.wf, a, b, Bool.and_eq_true, decide_eq_true_eq]
 omega
theorem link_J {n c d : Int} {O0 : Int -> Int} {U0 : Int -> List Int} {u : US} (h : J n c O0 U0 u) (hn : n < 1000000) (hd0 : 0 <= d) (hd1 : d < n) (hs : d ∉ u.seen) : J n c O0 U0 (link c d u) := by
 have hc := h.rg c h.hc
 have hlo := h.lo
 have hlu := h.lu
 have hlen : u.seen.length <= n.toNat := nodup_le _ _ h.nd (fun x hx => by have := h.rg x hx; omega)
 have hdc : d ≠ c := by rintro rfl; exact hs h.hc
 refine ⟨?_, ?_, ?_, ?_, ?_, ?_, ?_, ?_⟩
 · show ((u.opn.set _ _).length : Int) = n
   rw [List.length_set]; exact h.lo
 · show ((app u.users d c).length : Int) = n
   rw [app_length]; exact h.lu
 · show (u.seen ++ [d]).Nodup
   rw [List.nodup_append]
   exact ⟨h.nd, by simp, fun a ha b hb e => by rw [List.mem_singleton] at hb; subst hb; subst e; exact hs ha⟩
 · exact List.mem_append.2 (.inl h.hc)
 · intro x hx
   rcases List.mem_append.1 (show x ∈ u.seen ++ [d] from hx) with e | e
   · exact h.rg x e
   · rw [List.mem_singleton] at e; subst e; exact ⟨hd0, hd1⟩
 · intro x h0 hx
   show rd (u.opn.set c.toNat _) x = _
   rw [rd_set _ _ _ _ hc.1 (by omega) h0, if_neg hx]
   exact h.oo x h0 hx
 · show rd (u.opn.set c.toNat _) c = ((u.seen ++ [d]).length : Int) - 1
   rw [rd_set _ _ _ _ hc.1 (by omega) hc.1, if_pos rfl, h.oc, w64 _ (by omega) (by omega), List.length_append, List.length_singleton]
   omega
 · intro x h0 h1
   show row (app u.users d c) x = U0 x ++ (if x ∈ u.seen ++ [d] /\ x ≠ c then [c] else [])
   rw [row_app _ _ _ _ hd0 (by omega) h0]
   by_cases e : x = d
   · subst e
     rw [if_pos rfl, h.us x h0 h1, if_neg (fun h => hs h.1), if_pos ⟨by simp, hdc⟩]
     simp
   rw [if_neg e, h.us x h0 h1]
   have : (x ∈ u.seen ++ [d]) ↔ x ∈ u.seen := by simp [e]
   simp only [this]
theorem ed3_run {es : List (List Int)} {cm : List Int} {n c : Int} {O0 : Int -> Int} {U0 : Int -> List Int} (S : Sol es cm n) (hn : es.length < 1000000) (hU : ∀ d, 0 <= d -> d < n -> (U0 d).length <= 1000000) (l : List Int) (hl : ∀ w ∈ l, nd es w) :
 ∀ (m k i : Nat) (u : US), i + m = l.length -> m < k -> J n c O0 U0 u -> ∃ u', ed3 k cm c l i u = some u' /\ J n c O0 U0 u' /\ ∀ x, x ∈ u'.seen ↔ x ∈ u.seen \/ ∃ w ∈ l.drop i, rd cm w = x := by
 intro m
 induction m with
 | zero =>
  intro k i u hi hk hJ
  obtain ⟨k, rfl⟩ : ∃ m, k = m + 1 := ⟨k - 1, by omega⟩
  unfold ed3
  rw [if_neg (by omega)]
  refine ⟨u, rfl, hJ, fun x => ?_⟩
  rw [List.drop_eq_nil_of_le (by omega)]
  simp
 | succ m ih =>
  intro k i u hi hk hJ
  obtain ⟨k, rfl⟩ : ∃ m, k = m + 1 := ⟨k - 1, by omega⟩
  have hil : i < l.length := by omega
  have hw : nd es (rd l i) := hl _ (by rw [rd_at l i hil]; exact List.getElem_mem _)
  have hr := S.rng _ hw
  have hN := S.n0
  have hdrop : l.drop i = rd l i :: l.drop (i + 1) := by rw [rd_at l i hil]; exact List.drop_eq_getElem_cons hil
  have hlen : u.seen.length <= n.toNat := nodup_le _ _ hJ.nd (fun x hx => by have := hJ.rg x hx; omega)
  have hlo := hJ.lo
  have hlu := hJ.lu
  have hcr := hJ.rg c hJ.hc
  unfold ed3
  rw [if_pos (by omega), if_pos ⟨hw.1, by rw [S.len]; exact hw.2, wf_small _ hr.1 (by omega)⟩, show (i : Int) + 1 = ((i + 1 : Nat) : Int) by omega]
  by_cases hs : rd cm (rd l i) ∈ u.seen
  · rw [if_pos (List.contains_iff_mem.2 hs)]
    obtain ⟨u', a1, a2, a3⟩ := ih k (i + 1) u (by omega) (by omega) hJ
    refine ⟨u', a1, a2, fun x => ?_⟩
    rw [a3, hdrop]
    simp only [List.mem_cons, exists_eq_or_imp]
    constructor
    · rintro (h | h)
      · exact .inl h
      · exact .inr (.inr h)
    · rintro (h | h | h)
      · exact .inl h
      · subst h; exact .inl hs
      · exact .inr h
  rw [if_neg (fun h => hs (List.contains_iff_mem.1 h))]
  have hrow := hJ.us _ hr.1 hr.2
  have hrl : (row u.users (rd cm (rd l i))).length <= 1000001 := by
   rw [hrow, List.length_append]
   have := hU _ hr.1 hr.2
   split <;> simp <;> omega
  rw [if_pos ⟨hcr.1, by omega, hr.1, by omega, by omega, by omega⟩]
  obtain ⟨u', a1, a2, a3⟩ := ih k (i + 1) _ (by omega) (by omega) (link_J hJ (by omega) hr.1 hr.2 hs)
  refine ⟨u', a1, a2, fun x => ?_⟩
  rw [a3, hdrop]
  show x ∈ u.seen ++ [rd cm (rd l i)] \/ _ ↔ _
  simp only [List.mem_cons, exists_eq_or_imp, List.mem_append, List.not_mem_nil, or_false]
  constructor
  · rintro ((h | h) | h)
    · exact .inl h
    · exact .inr (.inl h.symm)
    · exact .inr (.inr h)
  · rintro (h | h | h)
    · exact .inl (.inl h)
    · exact .inl (.inr h.symm)
    · exact .inr h
theorem ed2_run {es : List (List Int)} {cm : List Int} {n c : Int} {O0 : Int -> Int} {U0 : Int -> List Int} (hvld : Vld es) (S : Sol es cm n) (hn : es.length < 1000000) {L : Nat} (hL : ∀ v, (row es v).length <= L)
 (hU : ∀ d, 0 <= d -> d < n -> (U0 d).length <= 1000000) (l : List Int) (hl : ∀ w ∈ l, nd es w) :
 ∀ (m k i : Nat) (u : US), i + m = l.length -> m + L + 1 < k -> J n c O0 U0 u -> ∃ u', ed2 k es cm c l i u = some u' /\ J n c O0 U0 u' /\ ∀ x, x ∈ u'.seen ↔ x ∈ u.seen \/ ∃ v ∈ l.drop i, ∃ w ∈ row es v, rd cm w = x := by
 intro m
 induction m with
 | zero =>
  intro k i u hi hk hJ
  obtain ⟨k, rfl⟩ : ∃ m, k = m + 1 := ⟨k - 1, by omega⟩
  unfold ed2
  rw [if_neg (by omega)]
  refine ⟨u, rfl, hJ, fun x => ?_⟩
  rw [List.drop_eq_nil_of_le (by omega)]
  simp
 | succ m ih =>
  intro k i u hi hk hJ
  obtain ⟨k, rfl⟩ : ∃ m, k = m + 1 := ⟨k - 1, by omega⟩
  have hil : i < l.length := by omega
  have hw : nd es (rd l i) := hl _ (by rw [rd_at l i hil]; exact List.getElem_mem _)
  have hdrop : l.drop i = rd l i :: l.drop (i + 1) := by rw [rd_at l i hil]; exact List.drop_eq_getElem_cons hil
  unfold ed2
  rw [if_pos (by omega), if_pos ⟨hw.1, hw.2⟩, show (i : Int) + 1 = ((i + 1 : Nat) : Int) by omega]
  obtain ⟨u1, b1, b2, b3⟩ := ed3_run S hn hU (row es (rd l i)) (hvld _ hw) (row es (rd l i)).length k 0 u (by omega) (by have := hL (rd l i); omega) hJ
  rw [show ((0 : Int)) = ((0 : Nat) : Int) from rfl, b1, Option.bind_some]
  obtain ⟨u', a1, a2, a3⟩ := ih k (i + 1) u1 (by omega) (by omega) b2
  refine ⟨u', a1, a2, fun x => ?_⟩
  rw [a3, b3, hdrop]
  simp only [List.mem_cons, exists_eq_or_imp, List.drop_zero]
  exact or_assoc
structure K1 (es : List (List Int)) (cm : List Int) (n c : Int) (u : US) : Prop where
 lo : (u.opn.length : Int) = n
 lu : (u.users.length : Int) = n
 dn : ∀ d, 0 <= d -> d < c -> ∃ P : List Int, P.Nodup /\ (∀ x, x ∈ P ↔ Dep es cm d x) /\ rd u.opn d = P.length
 op : ∀ d, c <= d -> rd u.opn d = 0
 us : ∀ d, 0 <= d -> d < n -> (row u.users d).Nodup /\ ∀ x, x ∈ row u.users d ↔ (0 <= x /\ x < c) /\ Dep es cm x d
theorem ed1_run {es : List (List Int)} {cm : List Int} {n : Int} {ms : List (List Int)} (hvld : Vld es) (S : Sol es cm n) (hn : es.length < 1000000) {L : Nat} (hL : ∀ v, (row es v).length <= L) (hml : (ms.length : Int) = n) (hms : ∀ c, 0 <= c -> c < n -> row ms c = mem cm c) :
 ∀ (m k i : Nat) (u : US), i + m = ms.length -> m + es.length + L + 2 < k -> K1 es cm n i u -> ∃ u', ed1 k es cm ms i u = some u' /\ K1 es cm n n u' := by
 intro m
 induction m with
 | zero =>
  intro k i u hi hk hJ
  obtain ⟨k, rfl⟩ : ∃ m, k = m + 1 := ⟨k - 1, by omega⟩
  unfold ed1
  rw [if_neg (by omega)]
  exact ⟨u, rfl, by rw [<- hml, show ms.length = i by omega]; rw [<- hml] at hJ; rw [show ms.length = i by omega] at hJ; exact hJ⟩
 | succ m ih =>
  intro k i u hi hk hJ
  obtain ⟨k, rfl⟩ : ∃ m, k = m + 1 := ⟨k - 1, by omega⟩
  have hN := S.n0
  have hi0 : (0 : Int) <= i := by omega
  have hin : (i : Int) < n := by omega
  have hbound : ∀ d, 0 <= d -> d < n -> (row u.users d).length <= 1000000 := fun d h0 h1 => by
   have := nodup_le n.toNat _ (hJ.us d h0 h1).1 (fun x hx => by have := ((hJ.us d h0 h1).2 x).1 hx; omega)
   omega
  have hlm : (row ms (i : Int)).length <= es.length := by rw [hms _ hi0 hin, <- S.len]; exact mem_len _ _
  have hnd : ∀ w ∈ row ms (i : Int), nd es w := fun w hw => by
   rw [hms _ hi0 hin] at hw
   have := (mem_mem.1 hw).1
   rw [S.len] at this
   exact this
  have hJ0 : J n i (rd u.opn) (row u.users) { u with seen := [(i : Int)] } := by
   refine ⟨hJ.lo, hJ.lu, by simp, by simp, ?_, fun _ _ _ => rfl, ?_, ?_⟩
   · intro d hd
     rw [List.mem_singleton] at hd
     subst hd
     exact ⟨hi0, hin⟩
   · show rd u.opn i = _
     rw [hJ.op i (Int.le_refl _)]
     rfl
   · intro d h0 h1
     rw [if_neg (by simp)]
     simp
  unfold ed1
  rw [if_pos (by omega), if_pos (wf_small _ hi0 (by omega))]
  obtain ⟨u1, b1, b2, b3⟩ := ed2_run hvld S hn hL hbound (row ms i) hnd (row ms i).length k 0 _ (by omega) (by omega) hJ0
  rw [show ((0 : Int)) = ((0 : Nat) : Int) from rfl, b1, Option.bind_some, show (i : Int) + 1 = ((i + 1 : Nat) : Int) by omega]
  refine ih k (i + 1) u1 (by omega) (by omega) ?_
  have hseen : ∀ x, x ∈ u1.seen ↔ x = i \/ ∃ v ∈ mem cm i, ∃ w ∈ row es v, rd cm w = x := by
   intro x
   rw [b3, hms _ hi0 hin]
   simp
  have hdep : ∀ x, (x ∈ u1.seen /\ x ≠ i) ↔ Dep es cm i x := by
   intro x
   rw [hseen]
   unfold Dep
   constructor
   · rintro ⟨h | h, hx⟩
     · exact absurd h hx
     · exact ⟨Ne.symm hx, h⟩
   · rintro ⟨hx, h⟩
     exact ⟨.inr h, Ne.symm hx⟩
  refine ⟨b2.lo, b2.lu, ?_, ?_, ?_⟩
  · intro d h0 h1
    by_cases e : d = i
    rotate_left
    · rw [b2.oo d h0 e]
      exact hJ.dn d h0 (by omega)
    subst e
    refine ⟨u1.seen.erase i, b2.nd.erase _, fun x => ?_, ?_⟩
    · rw [b2.nd.mem_erase_iff, <- hdep]
      exact And.comm
    · rw [b2.oc, List.length_erase_of_mem b2.hc]
      have := List.length_pos_of_mem b2.hc
      omega
  · intro d hd
    rw [b2.oo d (by omega) (by omega)]
    exact hJ.op d (by omega)
  · intro d h0 h1
    have hu := hJ.us d h0 h1
    rw [b2.us d h0 h1]
    by_cases hx : d ∈ u1.seen /\ d ≠ i
    rotate_left
    · rw [if_neg hx, List.append_nil]
      refine ⟨hu.1, fun x => ?_⟩
      rw [hu.2]
      constructor
      · rintro ⟨h1, h2⟩; exact ⟨by omega, h2⟩
      · rintro ⟨h1, h2⟩
        refine ⟨?_, h2⟩
        by_cases e : x = i
        rotate_left
        · omega
        subst e; exact absurd ((hdep d).2 h2) hx
    rw [if_pos hx]
    refine ⟨?_, fun x => ?_⟩
    · rw [List.nodup_append]
      refine ⟨hu.1, by simp, fun a ha b hb e => ?_⟩
      rw [List.mem_singleton] at hb
      subst hb; subst e
      have := ((hu.2 _).1 ha).1
      omega
    · rw [List.mem_append, hu.2, List.mem_singleton]
      constructor
      · rintro (h | h)
        · exact ⟨by omega, h.2⟩
        · subst h; exact ⟨by omega, (hdep d).1 hx⟩
      · rintro ⟨h1, h2⟩
        by_cases e : x = i
        · exact .inr e
        exact .inl ⟨by omega, h2⟩
structure Rows (es : List (List Int)) (cm : List Int) (n : Int) (ms : List (List Int)) : Prop where
 len : (ms.length : Int) = n
 row : ∀ c, 0 <= c -> c < n -> row ms c = mem cm c
theorem mem_lt (cm : List Int) (c : Int) : (mem cm c).Pairwise (· < ·) := by
 unfold mem
 exact (iota_lt _).filter _
theorem fine_of {es : List (List Int)} {cm : List Int} {n : Int} {ms : List (List Int)} (S : Sol es cm n) (hn : es.length < 1000000) (R : Rows es cm n ms) {c : Int} (h0 : 0 <= c) (h1 : c < n) :
 Fine ms c /\ (nd es (first ms c) /\ rd cm (first ms c) = c) /\ ∀ v, nd es v -> rd cm v = c -> first ms c <= v := by
 have hl := R.len
 obtain ⟨v, hv, hvc⟩ := S.onto c h0 h1
 have hm : v ∈ row ms c := by rw [R.row c h0 h1, mem_mem, S.len]; exact ⟨hv, hvc⟩
 have hpos := List.length_pos_of_mem hm
 have hf : first ms c ∈ row ms c := rd_mem _ _ (Int.le_refl _) (by omega)
 have hf2 := hf
 rw [R.row c h0 h1, mem_mem, S.len] at hf2
 refine ⟨⟨h0, by omega, hpos, hf2.1.1, by omega⟩, ⟨hf2.1, hf2.2⟩, ?_⟩
 intro u hu huc
 have hum : u ∈ row ms c := by rw [R.row c h0 h1, mem_mem, S.len]; exact ⟨hu, huc⟩
 have hp : (row ms c).Pairwise (· < ·) := by rw [R.row c h0 h1]; exact mem_lt _ _
 unfold first
 generalize row ms c = l at *
 cases l with
 | nil => cases hum
 | cons a l =>
  show a <= u
  rcases List.mem_cons.1 hum with e | e
  · omega
  · have := (List.pairwise_cons.1 hp).1 u e
    omega
theorem first_inj {es : List (List Int)} {cm : List Int} {n : Int} {ms : List (List Int)} (S : Sol es cm n) (hn : es.length < 1000000) (R : Rows es cm n ms) {c d : Int} (h0 : 0 <= c) (h1 : c < n) (k0 : 0 <= d) (k1 : d < n)
 (h : first ms c = first ms d) : c = d := by
 rw [<- (fine_of S hn R h0 h1).2.1.2, <- (fine_of S hn R k0 k1).2.1.2, h]
structure Rdy (ms : List (List Int)) (n : Int) (p : Int -> Prop) (ready : List Int) : Prop where
 mem : ∀ x, x ∈ ready ↔ (0 <= x /\ x < n) /\ p x
 srt : ready.Pairwise fun a b => first ms a < first ms b
theorem ins_sorted {ms : List (List Int)} {c : Int} : ∀ (l : List Int), l.Pairwise (fun a b => first ms a < first ms b) -> (∀ x ∈ l, first ms x ≠ first ms c) ->
 (ins l (pos ms (first ms c) l) c).Pairwise (fun a b => first ms a < first ms b) /\ ∀ x, x ∈ ins l (pos ms (first ms c) l) c ↔ x = c \/ x ∈ l := by
 intro l
 induction l with
 | nil => intro _ _; simp [ins]
 | cons a l ih =>
  intro hp hne
  obtain ⟨h1, h2⟩ := List.pairwise_cons.1 hp
  by_cases ha : first ms a < first ms c
  rotate_left
  · have hca : first ms c < first ms a := by have := hne a (by simp); omega
    have hpos : pos ms (first ms c) (a :: l) = 0 := by
     unfold pos
     rw [List.countP_eq_zero]
     intro x hx
     rcases List.mem_cons.1 hx with e | e
     · rw [e]; simpa using ha
     · have := h1 x e
       simp
       omega
    have hins : ins (a :: l) (pos ms (first ms c) (a :: l)) c = c :: a :: l := by
     rw [hpos]; simp [ins]
    rw [hins]
    refine ⟨List.pairwise_cons.2 ⟨fun x hx => ?_, hp⟩, fun x => List.mem_cons⟩
    rcases List.mem_cons.1 hx with e | e
    · rw [e]; exact hca
    · have := h1 x e; omega
  have hpos : pos ms (first ms c) (a :: l) = pos ms (first ms c) l + 1 := by
   unfold pos
   rw [List.countP_cons, if_pos (by simpa using ha)]
  have hins : ins (a :: l) (pos ms (first ms c) (a :: l)) c = a :: ins l (pos ms (first ms c) l) c := by
   rw [hpos]; simp [ins]
  obtain ⟨i1, i2⟩ := ih h2 (fun x hx => hne x (by simp [hx]))
  rw [hins]
  refine ⟨List.pairwise_cons.2 ⟨fun x hx => ?_, i1⟩, fun x => ?_⟩
  · rcases (i2 x).1 hx with e | e
    · rw [e]; exact ha
    · exact h1 x e
  · rw [List.mem_cons, i2, List.mem_cons]
    constructor
    · rintro (h | h | h)
      · exact .inr (.inl h)
      · exact .inl h
      · exact .inr (.inr h)
    · rintro (h | h | h)
      · exact .inr (.inl h)
      · exact .inl h
      · exact .inr (.inr h)
theorem rdy_len {ms : List (List Int)} {n : Int} {p : Int -> Prop} {ready : List Int} (h : Rdy ms n p ready) : ready.length <= n.toNat :=
 nodup_le _ _ (h.srt.imp (fun h e => by subst e; omega)) (fun x hx => by have := (h.mem x).1 hx; omega)
theorem enter_rdy {es : List (List Int)} {cm : List Int} {n : Int} {ms : List (List Int)} (S : Sol es cm n) (hn : es.length < 1000000) (R : Rows es cm n ms) {p q : Int -> Prop} {ready : List Int} {c : Int} (h : Rdy ms n p ready)
 (h0 : 0 <= c) (h1 : c < n) (hc : ¬ p c) (hq : ∀ x, 0 <= x -> x < n -> (q x ↔ x = c \/ p x)) : ∃ r, enterF ms c ready = some r /\ Rdy ms n q r := by
 have hne : ∀ x ∈ ready, first ms x ≠ first ms c := by
  intro x hx e
  obtain ⟨a, b⟩ := (h.mem x).1 hx
  have := first_inj S hn R a.1 a.2 h0 h1 e
  subst this
  exact hc b
 obtain ⟨i1, i2⟩ := ins_sorted ready h.srt hne
 have hl := rdy_len h
 have hN := S.n0
 refine ⟨_, ?_, ⟨fun x => ?_, i1⟩⟩
 · unfold enterF
   rw [if_pos ⟨(fine_of S hn R h0 h1).1, fun d hd => (fine_of S hn R ((h.mem d).1 hd).1.1 ((h.mem d).1 hd).1.2).1, h.srt.imp (fun h => by omega), by omega⟩]
 · rw [i2]
   constructor
   · rintro (e | e)
     · subst e; exact ⟨⟨h0, h1⟩, (hq x h0 h1).2 (.inl rfl)⟩
     · obtain ⟨a, b⟩ := (h.mem x).1 e
       exact ⟨a, (hq x a.1 a.2).2 (.inr b)⟩
   · rintro ⟨a, b⟩
     rcases (hq x a.1 a.2).1 b with e | e
     · exact .inl e
     · exact .inr ((h.mem x).2 ⟨a, e⟩)
theorem Rdy.congr {ms : List (List Int)} {n : Int} {p q : Int -> Prop} {r : List Int} (h : Rdy ms n p r) (hq : ∀ x, 0 <= x -> x < n -> (q x ↔ p x)) : Rdy ms n q r :=
 ⟨fun x => by
  rw [h.mem]
  exact ⟨fun ⟨a, b⟩ => ⟨a, (hq x a.1 a.2).2 b⟩, fun ⟨a, b⟩ => ⟨a, (hq x a.1 a.2).1 b⟩⟩, h.srt⟩
theorem starts_run {es : List (List Int)} {cm : List Int} {n : Int} {ms : List (List Int)} (S : Sol es cm n) (hn : es.length < 1000000) (R : Rows es cm n ms) (opn : List Int) (ho : (opn.length : Int) = n) :
 ∀ (m k i : Nat) (ready : List Int), (i : Int) + m = n -> m < k -> Rdy ms n (fun x => x < i /\ rd opn x = 0) ready -> ∃ r, starts k ms n i opn ready = some r /\ Rdy ms n (fun x => rd opn x = 0) r := by
 intro m
 induction m with
 | zero =>
  intro k i ready hi hk h
  obtain ⟨k, rfl⟩ : ∃ m, k = m + 1 := ⟨k - 1, by omega⟩
  unfold starts
  rw [if_neg (by omega)]
  exact ⟨ready, rfl, h.congr (fun x h0 h1 => ⟨fun e => ⟨by omega, e⟩, fun e => e.2⟩)⟩
 | succ m ih =>
  intro k i ready hi hk h
  obtain ⟨k, rfl⟩ : ∃ m, k = m + 1 := ⟨k - 1, by omega⟩
  unfold starts
  rw [if_pos (by omega), if_pos ⟨by omega, by omega⟩, show (i : Int) + 1 = ((i + 1 : Nat) : Int) by omega]
  by_cases h0 : rd opn i = 0
  rotate_left
  · rw [if_neg h0]
    refine ih k (i + 1) ready (by omega) (by omega) (h.congr (fun x k0 k1 => ?_))
    constructor
    · rintro ⟨a, b⟩
      by_cases e : x = i
      rotate_left
      · exact ⟨by omega, b⟩
      subst e; exact absurd b h0
    · rintro ⟨a, b⟩
      exact ⟨by omega, b⟩
  rw [if_pos h0]
  obtain ⟨r, a1, a2⟩ := enter_rdy S hn R (c := (i : Int)) (q := fun x => x < ((i + 1 : Nat) : Int) /\ rd opn x = 0) h (by omega) (by omega) (by omega) (fun x k0 k1 => by
   constructor
   · rintro ⟨a, b⟩
     by_cases e : x = i
     · exact .inl e
     exact .inr ⟨by omega, b⟩
   · rintro (e | e)
     · subst e; exact ⟨by omega, h0⟩
     · exact ⟨by omega, e.2⟩)
  rw [a1, Option.bind_some]
  exact ih k (i + 1) r (by omega) (by omega) a2
inductive Seq (es : List (List Int)) (cm : List Int) (n : Int) (ms : List (List Int)) : List Int -> Prop
 | nil : Seq es cm n ms []
 | snoc {D : List Int} {c : Int} : Seq es cm n ms D -> 0 <= c -> c < n -> c ∉ D -> (∀ d, Dep es cm c d -> d ∈ D) -> (∀ x, 0 <= x -> x < n -> x ∉ D -> (∀ d, Dep es cm x d -> d ∈ D) -> first ms c <= first ms x) -> Seq es cm n ms (D ++ [c])
theorem Seq.rng {es : List (List Int)} {cm : List Int} {n : Int} {ms : List (List Int)} {D : List Int} (h : Seq es cm n ms D) : D.Nodup /\ (∀ x ∈ D, 0 <= x /\ x < n) /\ ∀ x ∈ D, ∀ d, Dep es cm x d -> d ∈ D := by
 induction h with
 | nil => simp
 | snoc _ h0 h1 h2 h3 h4 ih =>
  obtain ⟨i1, i2, i3⟩ := ih
  refine ⟨?_, ?_, ?_⟩
  · rw [List.nodup_append]
    exact ⟨i1, by simp, fun a ha b hb e => by rw [List.mem_singleton] at hb; subst hb; subst e; exact h2 ha⟩
  · intro x hx
    rcases List.mem_append.1 hx with e | e
    · exact i2 x e
    · rw [List.mem_singleton] at e; subst e; exact ⟨h0, h1⟩
  · intro x hx d hd
    rcases List.mem_append.1 hx with e | e
    · exact List.mem_append.2 (.inl (i3 x e d hd))
    · rw [List.mem_singleton] at e; subst e; exact List.mem_append.2 (.inl (h3 d hd))
def Cnt (n : Int) (q : Int -> Int -> Prop) (opn : List Int) : Prop := (opn.length : Int) = n /\ ∀ u, 0 <= u -> u < n -> ∃ P : List Int, P.Nodup /\ (∀ x ∈ P, 0 <= x /\ x < n) /\ (∀ x, x ∈ P ↔ q u x) /\ rd opn u = P.length
theorem Cnt.zero {n : Int} {q : Int -> Int -> Prop} {opn : List Int} (h : Cnt n q opn) {u : Int} (h0 : 0 <= u) (h1 : u < n) : rd opn u = 0 ↔ ∀ x, ¬ q u x := by
 obtain ⟨P, _, _, p3, p4⟩ := h.2 u h0 h1
 rw [p4]
 constructor
 · intro h x hx
   have := List.length_pos_of_mem ((p3 x).2 hx)
   omega
 · intro h
   cases P with
   | nil => rfl
   | cons a P => exact absurd ((p3 a).1 (by simp)) (h a)
theorem Cnt.congr {n : Int} {q q' : Int -> Int -> Prop} {opn : List Int} (h : Cnt n q opn) (hq : ∀ u x, 0 <= u -> u < n -> (q' u x ↔ q u x)) : Cnt n q' opn :=
 ⟨h.1, fun u h0 h1 => by
  obtain ⟨P, p1, p2, p3, p4⟩ := h.2 u h0 h1
  exact ⟨P, p1, p2, fun x => by rw [p3, hq u x h0 h1], p4⟩⟩
theorem dec_run {es : List (List Int)} {cm : List Int} {n : Int} {ms : List (List Int)} (S : Sol es cm n) (hn : es.length < 1000000) (R : Rows es cm n ms) {D : List Int} {c : Int} (hcD : c ∉ D) (l : List Int) (hnd : l.Nodup)
 (hl : ∀ x, x ∈ l ↔ (0 <= x /\ x < n) /\ Dep es cm x c) :
 ∀ (m k i : Nat) (opn ready : List Int), i + m = l.length -> m < k -> Cnt n (fun u x => Dep es cm u x /\ x ∉ D /\ (x = c -> u ∉ l.take i)) opn ->
  Rdy ms n (fun x => x ∉ D /\ x ≠ c /\ ∀ d, Dep es cm x d -> d ∈ D \/ (d = c /\ x ∈ l.take i)) ready -> (∀ x ∈ l, x ∉ D) ->
  ∃ opn' ready', dec k ms l i opn ready = some (opn', ready') /\ Cnt n (fun u x => Dep es cm u x /\ x ∉ D ++ [c]) opn' /\ Rdy ms n (fun x => x ∉ D ++ [c] /\ ∀ d, Dep es cm x d -> d ∈ D ++ [c]) ready' := by
 intro m
 induction m with
 | zero =>
  intro k i opn ready hi hk hc hr hlD
  obtain ⟨k, rfl⟩ : ∃ m, k = m + 1 := ⟨k - 1, by omega⟩
  unfold dec
  rw [if_neg (by omega)]
  have ht : l.take i = l := List.take_of_length_le (by omega)
  rw [ht] at hc hr
  refine ⟨opn, ready, rfl, hc.congr (fun u x h0 h1 => ?_), hr.congr (fun x h0 h1 => ?_)⟩
  · simp only [List.mem_append, List.mem_singleton, not_or]
    constructor
    · rintro ⟨a, b, d⟩; exact ⟨a, b, fun e => absurd e d⟩
    · rintro ⟨a, b, d⟩
      refine ⟨a, b, fun e => ?_⟩
      subst e
      exact d rfl ((hl u).2 ⟨⟨h0, h1⟩, a⟩)
  · simp only [List.mem_append, List.mem_singleton, not_or]
    constructor
    · rintro ⟨⟨a, b⟩, d⟩
      refine ⟨a, b, fun e he => ?_⟩
      rcases d e he with h | h
      · exact .inl h
      · subst h; exact .inr ⟨rfl, (hl x).2 ⟨⟨h0, h1⟩, he⟩⟩
    · rintro ⟨a, b, d⟩
      refine ⟨⟨a, b⟩, fun e he => ?_⟩
      rcases d e he with h | h
      · exact .inl h
      · exact .inr h.1
 | succ m ih =>
  intro k i opn ready hi hk hc hr hlD
  obtain ⟨k, rfl⟩ : ∃ m, k = m + 1 := ⟨k - 1, by omega⟩
  have hil : i < l.length := by omega
  have hN := S.n0
  have hum : rd l i ∈ l := by rw [rd_at l i hil]; exact List.getElem_mem _
  obtain ⟨hu, hdep⟩ := (hl _).1 hum
  have htake : l.take (i + 1) = l.take i ++ [rd l i] := by rw [rd_at l i hil]; exact List.take_succ_eq_append_getElem hil
  have hnt : rd l i ∉ l.take i := by
   intro h
   have h2 : (l.take (i + 1)).Nodup := hnd.sublist (List.take_sublist _ _)
   rw [htake, List.nodup_append] at h2
   exact h2.2.2 _ h _ (by simp) rfl
  obtain ⟨P, p1, p2, p3, p4⟩ := hc.2 _ hu.1 hu.2
  have hlen := hc.1
  have hcP : c ∈ P := (p3 c).2 ⟨hdep, hcD, fun _ => hnt⟩
  have hPl : P.length <= n.toNat := nodup_le _ _ p1 (fun x hx => by have := p2 x hx; omega)
  have hP0 := List.length_pos_of_mem hcP
  generalize hud : rd l i = u at *
  have hw : wrap64 (rd opn u - 1) = rd opn u - 1 := w64 _ (by omega) (by omega)
  have hc2 : Cnt n (fun u x => Dep es cm u x /\ x ∉ D /\ (x = c -> u ∉ l.take (i + 1))) (opn.set u.toNat (wrap64 (rd opn u - 1))) := by
   refine ⟨by rw [List.length_set]; exact hlen, fun y h0 h1 => ?_⟩
   rw [hw, rd_set _ _ _ _ hu.1 (by omega) h0]
   by_cases e : y = u
   rotate_left
   · rw [if_neg e]
     obtain ⟨P', q1, q2, q3, q4⟩ := hc.2 y h0 h1
     refine ⟨P', q1, q2, fun x => ?_, q4⟩
     rw [q3, htake]
     simp only [List.mem_append, List.mem_singleton, e, or_false]
   subst e
   refine ⟨P.erase c, p1.erase _, fun x hx => p2 x (List.mem_of_mem_erase hx), fun x => ?_, ?_⟩
   · rw [p1.mem_erase_iff, p3, htake]
     simp only [List.mem_append, List.mem_singleton]
     constructor
     · rintro ⟨a, b, d, _⟩; exact ⟨b, d, fun e => absurd e a⟩
     · rintro ⟨a, b, d⟩
       refine ⟨fun e => d e (.inr trivial), a, b, fun e => absurd e (fun e => d e (.inr trivial))⟩
   · rw [if_pos rfl, List.length_erase_of_mem hcP]
     omega
  have hz := hc2.zero hu.1 hu.2
  unfold dec
  rw [if_pos (by omega), hud, if_pos ⟨hu.1, by omega⟩, show (i : Int) + 1 = ((i + 1 : Nat) : Int) by omega]
  by_cases h0 : rd (opn.set u.toNat (wrap64 (rd opn u - 1))) u = 0
  rotate_left
  · rw [if_neg h0]
    have hsome : ∃ x, Dep es cm u x /\ x ∉ D /\ x ≠ c := by
     refine Classical.byContradiction fun hno => h0 (hz.2 fun x hx => hno ⟨x, hx.1, hx.2.1, fun e => ?_⟩)
     exact hx.2.2 e (by rw [htake]; simp)
    refine ih k (i + 1) _ ready (by omega) (by omega) hc2 (hr.congr (fun x k0 k1 => ?_)) hlD
    rw [htake]
    constructor
    · rintro ⟨a, b, d⟩
      refine ⟨a, b, fun y hy => ?_⟩
      rcases d y hy with h | ⟨h, h2⟩
      · exact .inl h
      · rcases List.mem_append.1 h2 with h3 | h3
        · exact .inr ⟨h, h3⟩
        · rw [List.mem_singleton] at h3
          subst h3
          obtain ⟨z, z1, z2, z3⟩ := hsome
          rcases d z z1 with h4 | h4
          · exact absurd h4 z2
          · exact absurd h4.1 z3
    · rintro ⟨a, b, d⟩
      refine ⟨a, b, fun y hy => ?_⟩
      rcases d y hy with h | ⟨h, h2⟩
      · exact .inl h
      · exact .inr ⟨h, List.mem_append.2 (.inl h2)⟩
  rw [if_pos h0]
  have hnone := hz.1 h0
  obtain ⟨r, a1, a2⟩ := enter_rdy S hn R (c := u) (q := fun x => x ∉ D /\ x ≠ c /\ ∀ d, Dep es cm x d -> d ∈ D \/ (d = c /\ x ∈ l.take (i + 1))) hr hu.1 hu.2
   (fun h => by
    rcases h.2.2 c hdep with e | e
    · exact hcD e
    · exact hnt e.2)
   (fun x k0 k1 => by
    rw [htake]
    constructor
    · rintro ⟨a, b, d⟩
      by_cases e : x = u
      · exact .inl e
      refine .inr ⟨a, b, fun y hy => ?_⟩
      rcases d y hy with h | ⟨h, h2⟩
      · exact .inl h
      · rcases List.mem_append.1 h2 with h3 | h3
        · exact .inr ⟨h, h3⟩
        · exact absurd (List.mem_singleton.1 h3) e
    · rintro (e | ⟨a, b, d⟩)
      · subst e
        refine ⟨hlD x hum, fun e => hdep.1 e, fun y hy => ?_⟩
        by_cases e : y ∈ D
        · exact .inl e
        by_cases e2 : y = c
        · exact .inr ⟨e2, by simp⟩
        exact absurd ⟨hy, e, fun e3 => absurd e3 e2⟩ (hnone y)
      · refine ⟨a, b, fun y hy => ?_⟩
        rcases d y hy with h | ⟨h, h2⟩
        · exact .inl h
        · exact .inr ⟨h, List.mem_append.2 (.inl h2)⟩)
  rw [a1, Option.bind_some]
  exact ih k (i + 1) _ r (by omega) (by omega) hc2 a2 hlD
theorem dep_lt {es : List (List Int)} {cm : List Int} {n : Int} (S : Sol es cm n) (hvld : Vld es) {x d : Int} (h : Dep es cm x d) : 0 <= d /\ d < x := by
 obtain ⟨h1, v, hv, w, hw, rfl⟩ := h
 obtain ⟨a, b⟩ := mem_mem.1 hv
 rw [S.len] at a
 have h2 := S.back v a w hw
 have h3 := S.rng w (hvld v a w hw)
 omega
theorem ready_ex {es : List (List Int)} {cm : List Int} {n : Int} (S : Sol es cm n) (hvld : Vld es) (D : List Int) : ∀ (m : Nat) (x : Int), x = m -> x < n -> x ∉ D -> ∃ y, 0 <= y /\ y < n /\ y ∉ D /\ ∀ d, Dep es cm y d -> d ∈ D := by
 intro m
 induction m using Nat.strongRecOn with
 | ind m ih =>
  intro x hx hxn hxD
  by_cases h : ∀ d, Dep es cm x d -> d ∈ D
  · exact ⟨x, by omega, hxn, hxD, h⟩
  obtain ⟨d, hd⟩ := Classical.not_forall.1 h
  obtain ⟨h1, h2⟩ := Classical.not_imp.1 hd
  have := dep_lt S hvld h1
  exact ih d.toNat (by omega) d (by omega) (by omega) h2
theorem drain_run {es : List (List Int)} {cm : List Int} {n : Int} {ms users : List (List Int)} (S : Sol es cm n) (hn : es.length < 1000000) (R : Rows es cm n ms) (hvld : Vld es) (hul : (users.length : Int) = n)
 (hus : ∀ d, 0 <= d -> d < n -> (row users d).Nodup /\ ∀ x, x ∈ row users d ↔ (0 <= x /\ x < n) /\ Dep es cm x d) :
 ∀ (m k : Nat) (D opn ready : List Int), D.length + m = n.toNat -> m + n.toNat + 1 < k -> Seq es cm n ms D -> Cnt n (fun u x => Dep es cm u x /\ x ∉ D) opn -> Rdy ms n (fun x => x ∉ D /\ ∀ d, Dep es cm x d -> d ∈ D) ready ->
  ∃ D', Od.drain k ms users opn ready (D.map (row ms)) = some (D'.map (row ms)) /\ Seq es cm n ms D' /\ ∀ c, 0 <= c -> c < n -> c ∈ D' := by
 intro m
 induction m with
 | zero =>
  intro k D opn ready hm hk hD hc hr
  obtain ⟨k, rfl⟩ : ∃ m, k = m + 1 := ⟨k - 1, by omega⟩
  obtain ⟨d1, d2, d3⟩ := hD.rng
  have hall : ∀ c, 0 <= c -> c < n -> c ∈ D := by
   intro c h0 h1
   refine Classical.byContradiction fun hcD => ?_
   have := nodup_le n.toNat (c :: D) (List.nodup_cons.2 ⟨hcD, d1⟩) (fun x hx => by
    rcases List.mem_cons.1 hx with e | e
    · omega
    · have := d2 x e; omega)
   simp at this
   omega
  have hr0 : ready = [] := by
   cases ready with
   | nil => rfl
   | cons a l =>
    obtain ⟨⟨h0, h1⟩, h2, _⟩ := (hr.mem a).1 (by simp)
    exact absurd (hall a h0 h1) h2
  subst hr0
  refine ⟨D, ?_, hD, hall⟩
  unfold Od.drain
  rw [if_neg (by simp)]
 | succ m ih =>
  intro k D opn ready hm hk hD hc hr
  obtain ⟨k, rfl⟩ : ∃ m, k = m + 1 := ⟨k - 1, by omega⟩
  obtain ⟨d1, d2, d3⟩ := hD.rng
  have hN := S.n0
  have hml := R.len
  cases ready with
  | nil =>
   refine ⟨D, by unfold Od.drain; rw [if_neg (by simp)], hD, fun c h0 h1 => ?_⟩
   refine Classical.byContradiction fun hcD => ?_
   obtain ⟨y, y0, y1, y2, y3⟩ := ready_ex S hvld D c.toNat c (by omega) h1 hcD
   have := (hr.mem y).2 ⟨⟨y0, y1⟩, y2, y3⟩
   cases this
  | cons c rest =>
   obtain ⟨⟨c0, c1⟩, c2, c3⟩ := (hr.mem c).1 (by simp)
   obtain ⟨s1, s2⟩ := List.pairwise_cons.1 hr.srt
   have hu := hus c c0 c1
   have hul2 := nodup_le n.toNat _ hu.1 (fun x hx => by have := ((hu.2 x).1 hx).1; omega)
   have hnc : ∀ x ∈ row users c, x ∉ D := by
    intro x hx hxD
    exact c2 (d3 x hxD c ((hu.2 x).1 hx).2)
   have hrest : Rdy ms n (fun x => x ∉ D /\ x ≠ c /\ ∀ d, Dep es cm x d -> d ∈ D \/ (d = c /\ x ∈ (row users c).take 0)) rest := by
    refine ⟨fun x => ?_, s2⟩
    constructor
    · intro hx
      obtain ⟨a, b, d⟩ := (hr.mem x).1 (List.mem_cons.2 (.inr hx))
      refine ⟨a, b, fun e => ?_, fun y hy => .inl (d y hy)⟩
      subst e
      have := s1 x hx
      omega
    · rintro ⟨a, b, e, d⟩
      rcases List.mem_cons.1 ((hr.mem x).2 ⟨a, b, fun y hy => by
       rcases d y hy with h | h
       · exact h
       · have := h.2; simp at this⟩) with h | h
      · exact absurd h e
      · exact h
   obtain ⟨opn', ready', e1, e2, e3⟩ := dec_run S hn R c2 (row users c) hu.1 hu.2 (row users c).length k 0 opn rest (by omega) (by omega)
    (hc.congr (fun u x _ _ => by simp)) hrest hnc
   have hseq : Seq es cm n ms (D ++ [c]) := by
    refine .snoc hD c0 c1 c2 c3 fun x h0 h1 h2 h3 => ?_
    rcases List.mem_cons.1 ((hr.mem x).2 ⟨⟨h0, h1⟩, h2, h3⟩) with e | e
    · rw [e]; exact Int.le_refl _
    · exact Int.le_of_lt (s1 x e)
   obtain ⟨D', f1, f2, f3⟩ := ih k (D ++ [c]) opn' ready' (by simp; omega) (by omega) hseq e2 e3
   refine ⟨D', ?_, f2, f3⟩
   unfold Od.drain
   have hrd : rd (c :: rest) 0 = c := rfl
   rw [if_pos (by simp), hrd, if_pos ⟨c0, by omega, by omega, by simp; omega⟩]
   show (dec k ms (row users c) ((0 : Nat) : Int) opn rest).bind _ = _
   rw [e1, Option.bind_some]
   rw [List.map_append] at f1
   exact f1
theorem ordered_run {es : List (List Int)} (hvld : Vld es) {L : Nat} (hL : ∀ v, (row es v).length <= L) (hn : es.length < 1000000) (k : Nat) (hk : es.length * (L + 2) + 3 * es.length + L + 9 <= k) :
 ∃ cm n ms D, Sol es cm n /\ Rows es cm n ms /\ orderedF k es = some (D.map (row ms)) /\ Seq es cm n ms D /\ ∀ c, 0 <= c -> c < n -> c ∈ D := by
 obtain ⟨cm, n, h1, S⟩ := strong_sol hvld hL hn k (by omega)
 have hN := S.n0
 have hlen := S.len
 obtain ⟨ms, g1, g2, g3⟩ := grp_run S hn cm.length k 0 (List.replicate n.toNat []) (by omega) (by omega) (by simp; omega) (fun c h0 h1 => by rw [row_rep]; rfl)
 have R : Rows es cm n ms := ⟨g2, g3⟩
 obtain ⟨u, u1, u2⟩ := ed1_run hvld S hn hL g2 g3 ms.length k 0 { opn := List.replicate n.toNat 0, users := List.replicate n.toNat [], seen := [] } (by omega) (by omega)
  ⟨by simp; omega, by simp; omega, fun d h0 h1 => by omega, fun d _ => rd_rep0 _ _, fun d h0 h1 => by rw [row_rep]; simp; omega⟩
 have hcnt : Cnt n (fun u x => Dep es cm u x) u.opn := ⟨u2.lo, fun d h0 h1 => by
  obtain ⟨P, p1, p2, p3⟩ := u2.dn d h0 h1
  exact ⟨P, p1, fun x hx => by have := dep_lt S hvld ((p2 x).1 hx); omega, p2, p3⟩⟩
 obtain ⟨ready, r1, r2⟩ := starts_run S hn R u.opn u2.lo n.toNat k 0 [] (by omega) (by omega) ⟨fun x => by simp; omega, List.Pairwise.nil⟩
 obtain ⟨D, d1, d2, d3⟩ := drain_run S hn R hvld u2.lu u2.us n.toNat k [] u.opn ready (by simp) (by omega) .nil (hcnt.congr (fun _ _ _ _ => by simp)) (r2.congr (fun x h0 h1 => by rw [hcnt.zero h0 h1]; simp))
 refine ⟨cm, n, ms, D, S, R, ?_, d2, d3⟩
 unfold orderedF
 rw [h1, Option.bind_some]
 show (if 0 <= n /\ n < 5864062014805 then _ else none) = _
 rw [if_pos (by omega)]
 show (grp k cm ((0 : Nat) : Int) _).bind _ = _
 rw [g1, Option.bind_some]
 show (ed1 k es cm ms ((0 : Nat) : Int) _).bind _ = _
 rw [u1, Option.bind_some]
 show (starts k ms n ((0 : Nat) : Int) u.opn []).bind _ = _
 rw [r1, Option.bind_some]
 exact d1
end Tp
end Go.Proofs.Ytmadhaccjmakdaa
namespace Go.Proofs.Ytmadhaccjmakdaa
open Go.RowKit Go.Proofs.Yw.A Go.Proofs.Yw.B Go.Proofs.Yw.C Go.Proofs.Ytmadhaccjmakdaa.P
namespace Tp
open Tj Rw Od
theorem succ_cast (i : Nat) (h : i < 1000000000) : wrap64 ((i : Int) + 1) = ((i + 1 : Nat) : Int) := by
 rw [w64 _ (by omega) (by omega)]
 omega
theorem L1_row (l : List (List Int)) (i : Int) : rd_L11 l i = row l i := rfl
theorem row_in (l : List (List Int)) (i : Nat) (h : i < l.length) : row l (i : Int) ∈ l := by
 rw [row_mem l i h]
 exact List.getElem_mem _
def Sm (l : List (List Int)) : Prop := l.length <= 60 /\ ∀ j : Nat, j < l.length -> (row l j).length <= 2000
theorem Sm.row {l : List (List Int)} (h : Sm l) (v : Int) : (row l v).length <= 2000 := by
 by_cases hv : v.toNat < l.length
 rotate_left
 · unfold Tj.row
   rw [List.getD_eq_getElem?_getD, List.getElem?_eq_none (by omega)]
   simp
 have := h.2 v.toNat hv
 unfold Tj.row at *
 rw [Int.toNat_natCast] at this
 exact this
def okn (n : Nat) (w : Int) : Bool := decide (0 <= w) && decide (w < n)
def vldB (l : List (List Int)) : Bool := l.all fun r => r.all (okn l.length)
theorem vldB_iff (l : List (List Int)) : vldB l = true ↔ Vld l := by
 unfold vldB Vld nd
 rw [List.all_eq_true]
 constructor
 · intro h v hv w hw
   obtain ⟨i, rfl⟩ := Int.eq_ofNat_of_zero_le hv.1
   have := List.all_eq_true.1 (h _ (row_in l i (by omega))) w hw
   simpa [okn] using this
 · intro h r hr
   obtain ⟨i, hi, rfl⟩ := List.mem_iff_getElem.1 hr
   rw [List.all_eq_true]
   intro w hw
   rw [<- row_mem l i hi] at hw
   have := h i ⟨by omega, by omega⟩ w hw
   simpa [okn] using this
theorem drop_row (r : List Int) (j : Nat) (hj : j < r.length) : r.drop j = rd r j :: r.drop (j + 1) := by
 rw [rd_at r j hj]
 exact List.drop_eq_getElem_cons hj
theorem drop_rows (l : List (List Int)) (i : Nat) (hi : i < l.length) : l.drop i = row l i :: l.drop (i + 1) := by
 rw [row_mem l i hi]
 exact List.drop_eq_getElem_cons hi
theorem gv_in (l : List (List Int)) (hs : Sm l) (i : Nat) (hi : i < l.length) (ih : ∀ i' : Nat, i' = i + 1 -> Ev (fun k => g_valid.l0 k l (l.length : Int) (i' : Int) l) ((l.drop i').all fun r => r.all (okn l.length))) : ∀ (m j : Nat), j + m = (row l i).length ->
 Ev (fun k => g_valid.l1 k l (l.length : Int) i (row l i) ((row l i).length : Int) j l) (((row l i).drop j).all (okn l.length) && (l.drop (i + 1)).all fun r => r.all (okn l.length)) := by
 have hrl := hs.2 i hi
 have hl := hs.1
 intro m
 induction m with
 | zero =>
  intro j hj
  refine Ev.step (fun k => ?_) (by rw [List.drop_eq_nil_of_le (by omega), List.all_nil, Bool.true_and]; exact ih _ rfl)
  simp only [g_valid.l1]
  (try rw [L1_row])
  rw [if_neg (by omega), succ_cast i (by omega)]
 | succ m ihm =>
  intro j hj
  have hjl : j < (row l i).length := by omega
  rw [drop_row _ j hjl, List.all_cons]
  by_cases hw : okn l.length (rd (row l i) j) = true
  · rw [hw, Bool.true_and]
    have hw2 : 0 <= rd (row l i) j /\ rd (row l i) j < l.length := by simpa [okn] using hw
    refine Ev.step (fun k => ?_) (ihm (j + 1) (by omega))
    simp only [g_valid.l1]
    (try rw [L1_row])
    rw [if_pos (by omega), if_pos (by omega), if_pos (by omega), if_neg (by omega), if_neg (by omega), succ_cast j (by omega)]
  have hf : okn l.length (rd (row l i) j) = false := by simpa using hw
  rw [hf, Bool.false_and, Bool.false_and]
  have hw2 : ¬ (0 <= rd (row l i) j /\ rd (row l i) j < l.length) := by simpa [okn] using hw
  refine Ev.step (fun k => ?_) (Ev.now _)
  simp only [g_valid.l1]
  (try rw [L1_row])
  rw [if_pos (by omega), if_pos (by omega), if_pos (by omega)]
  by_cases h0 : rd (row l i) j < 0
  · rw [if_pos h0]
  rw [if_neg h0, if_pos (by omega)]
theorem gv_out (l : List (List Int)) (hs : Sm l) : ∀ (m i : Nat), i + m = l.length -> Ev (fun k => g_valid.l0 k l (l.length : Int) i l) ((l.drop i).all fun r => r.all (okn l.length)) := by
 have hl := hs.1
 intro m
 induction m with
 | zero =>
  intro i hi
  rw [List.drop_eq_nil_of_le (by omega)]
  refine Ev.step (fun k => ?_) (Ev.now _)
  simp only [g_valid.l0]
  rw [if_neg (by omega)]
  rfl
 | succ m ih =>
  intro i hi
  have hil : i < l.length := by omega
  have h := gv_in l hs i hil (fun i' e => ih i' (by omega)) (row l i).length 0 (by omega)
  rw [drop_rows l i hil, List.all_cons]
  refine Ev.step (fun k => ?_) h
  simp only [g_valid.l0, L1_row]
  rw [if_pos (by omega), if_pos (by omega), if_pos (by omega)]
  rfl
theorem gv_ev (l : List (List Int)) (hs : Sm l) : Ev (fun k => g_valid.f k l) (vldB l) := gv_out l hs l.length 0 (by omega)
end Tp
end Go.Proofs.Ytmadhaccjmakdaa
namespace Go.Proofs.Ytmadhaccjmakdaa
open Go.RowKit Go.Proofs.Yw.A Go.Proofs.Yw.B Go.Proofs.Yw.C Go.Proofs.Ytmadhaccjmakdaa.P
namespace Tp
open Tj Rw Od
open Classical
theorem rdOf_set (l : List Bool) (u v : Int) (hu : 0 <= u) (hl : u < l.length) (hv : 0 <= v) : rdOf false (l.set u.toNat true) v = if v = u then true else rdOf false l v := by
 unfold rdOf
 rw [List.getD_eq_getElem?_getD, List.getElem?_set, List.getD_eq_getElem?_getD]
 by_cases h : v = u
 rotate_left
 · rw [if_neg (by omega), if_neg h]
 subst h
 rw [if_pos rfl, if_pos (by omega), if_pos rfl]
 rfl
theorem rdOf_at (l : List Bool) (i : Nat) (h : i < l.length) : rdOf false l (i : Int) = l[i] := by
 unfold rdOf
 rw [Int.toNat_natCast, List.getD_eq_getElem?_getD, List.getElem?_eq_getElem h]
 rfl
theorem count_setB (l : List Bool) (u : Int) (hu : 0 <= u) (hl : u < l.length) (h0 : rdOf false l u = false) : (l.set u.toNat true).count false + 1 = l.count false := by
 obtain ⟨i, rfl⟩ := Int.eq_ofNat_of_zero_le hu
 rw [rdOf_at l i (by omega)] at h0
 have hi : i < l.length := by omega
 have h1 : 0 < l.count false := List.count_pos_iff.2 (h0 ▸ List.getElem_mem hi)
 show (l.set i true).count false + 1 = l.count false
 rw [List.count_set hi]
 simp [h0]
 omega
theorem meas {c c' t y r M : Nat} (h : c' + 1 = c) (h1 : c * 2001 + t <= M + 1) (h2 : y + 1 = t) (h3 : r <= 2000) : c' * 2001 + (y + r) <= M := by
 rw [<- h, Nat.add_mul, Nat.one_mul] at h1
 generalize c' * 2001 = q at h1 ⊢
 omega
noncomputable def rch (l : List (List Int)) (starts : List Int) : List Bool := (iota l.length).map fun v => decide (∃ s ∈ starts, Rc l s v)
theorem rch_len (l : List (List Int)) (starts : List Int) : (rch l starts).length = l.length := by simp [rch, iota_length]
theorem rch_at (l : List (List Int)) (starts : List Int) (v : Int) (h : nd l v) : rdOf false (rch l starts) v = decide (∃ s ∈ starts, Rc l s v) := by
 obtain ⟨i, rfl⟩ := Int.eq_ofNat_of_zero_le h.1
 have hi : i < l.length := by have := h.2; omega
 rw [rdOf_at _ i (by rw [rch_len]; exact hi)]
 simp [rch, iota]
theorem rc_nd {l : List (List Int)} (hv : Vld l) {a b : Int} (h : Rc l a b) (ha : nd l a) : nd l b := by
 induction h with
 | refl => exact ha
 | tail _ h2 ih => exact hv _ ih _ h2
theorem rch_eq {l : List (List Int)} (hv : Vld l) {starts : List Int} (hst : ∀ s ∈ starts, nd l s) {seen : List Bool} (hlen : seen.length = l.length) (hs : ∀ v, nd l v -> rdOf false seen v = true -> ∃ s ∈ starts, Rc l s v)
 (hc : ∀ v, nd l v -> rdOf false seen v = true -> ∀ w ∈ row l v, rdOf false seen w = true) (h0 : ∀ s ∈ starts, rdOf false seen s = true) : seen = rch l starts := by
 refine List.ext_getElem (by rw [rch_len, hlen]) fun i h1 h2 => ?_
 have hnd : nd l (i : Int) := ⟨by omega, by omega⟩
 rw [<- rdOf_at seen i h1, <- rdOf_at _ i h2, rch_at l starts i hnd]
 by_cases h : ∃ s ∈ starts, Rc l s i
 rotate_left
 · rw [decide_eq_false h]
   exact Bool.eq_false_iff.2 fun e => h (hs _ hnd e)
 rw [decide_eq_true h]
 obtain ⟨s, hsm, hr⟩ := h
 have key : ∀ b, Rc l s b -> nd l b /\ rdOf false seen b = true := by
  intro b hb
  induction hb with
  | refl => exact ⟨hst s hsm, h0 s hsm⟩
  | tail _ h2 ih => exact ⟨hv _ ih.1 _ h2, hc _ ih.1 ih.2 _ h2⟩
 exact (key _ hr).2
noncomputable def rchL (l : List (List Int)) (starts : List Int) : List Int := (iota l.length).filter fun v => decide (∃ s ∈ starts, Rc l s v)
theorem mem_rchL {l : List (List Int)} {starts : List Int} {x : Int} : x ∈ rchL l starts ↔ nd l x /\ ∃ s ∈ starts, Rc l s x := by
 unfold rchL nd
 rw [List.mem_filter, mem_iota]
 simp
theorem last_take (todo : List Int) (h : 0 < todo.length) : rd todo ((todo.length : Int) - 1) ∈ todo /\ todo = todo.take (todo.length - 1) ++ [rd todo ((todo.length : Int) - 1)] := by
 rw [show ((todo.length : Int) - 1) = ((todo.length - 1 : Nat) : Int) by omega, rd_at _ _ (by omega)]
 refine ⟨List.getElem_mem _, ?_⟩
 rw [<- List.take_succ_eq_append_getElem (by omega), List.take_of_length_le (by omega)]
theorem gr_loop {l : List (List Int)} (hv : Vld l) (hsm : Sm l) {starts : List Int} (hst : ∀ s ∈ starts, nd l s) : ∀ (M : Nat) (seen : List Bool) (todo : List Int), seen.count false * 2001 + todo.length <= M -> M <= 1000000 -> seen.length = l.length -> (∀ v ∈ todo, nd l v) ->
 (∀ v, nd l v -> rdOf false seen v = true -> ∃ s ∈ starts, Rc l s v) -> (∀ v ∈ todo, ∃ s ∈ starts, Rc l s v) -> (∀ v, nd l v -> rdOf false seen v = true -> ∀ w ∈ row l v, rdOf false seen w = true \/ w ∈ todo) -> (∀ s ∈ starts, rdOf false seen s = true \/ s ∈ todo) ->
 Ev (fun k => g_reached.l0 k l seen todo) (rch l starts) := by
 have done : ∀ (seen : List Bool), seen.length = l.length -> (∀ v, nd l v -> rdOf false seen v = true -> ∃ s ∈ starts, Rc l s v) -> (∀ v, nd l v -> rdOf false seen v = true -> ∀ w ∈ row l v, rdOf false seen w = true \/ w ∈ ([] : List Int)) -> (∀ s ∈ starts, rdOf false seen s = true \/ s ∈ ([] : List Int)) ->
  Ev (fun k => g_reached.l0 k l seen ([] : List Int)) (rch l starts) := by
  intro seen h1 h2 h3 h4
  have he := rch_eq hv hst h1 h2 (fun v a b w c => by simpa using h3 v a b w c) (fun s a => by simpa using h4 s a)
  refine Ev.step (fun k => ?_) (Ev.now _)
  simp only [g_reached.l0]
  rw [if_neg (by simp)]
  rw [<- he]
 intro M
 induction M with
 | zero =>
  intro seen todo hM hM2 hlen htd h1 h2 h3 h4
  obtain rfl : todo = [] := List.eq_nil_of_length_eq_zero (by omega)
  exact done seen hlen h1 h3 h4
 | succ M ih =>
  intro seen todo hM hM2 hlen htd h1 h2 h3 h4
  by_cases h0 : 0 < todo.length
  case neg =>
   obtain rfl : todo = [] := List.eq_nil_of_length_eq_zero (by omega)
   exact done seen hlen h1 h3 h4
  obtain ⟨hvm, htt⟩ := last_take todo h0
  have hw : wrap64 ((todo.length : Int) - 1) = (todo.length : Int) - 1 := w64 _ (by omega) (by omega)
  have htn : ((todo.length : Int) - 1).toNat = todo.length - 1 := by omega
  have hnv := htd _ hvm
  have hrv := h2 _ hvm
  generalize hvd : rd todo ((todo.length : Int) - 1) = v at *
  have hyl : (todo.take (todo.length - 1)).length = todo.length - 1 := by simp
  have hym : ∀ x, x ∈ todo ↔ x ∈ todo.take (todo.length - 1) \/ x = v := fun x => by
   constructor
   · intro h
     rw [htt] at h
     rcases List.mem_append.1 h with e | e
     · exact .inl e
     · exact .inr (List.mem_singleton.1 e)
   · rintro (h | h)
     · exact List.mem_of_mem_take h
     · rw [h]; exact hvm
  generalize htk : todo.take (todo.length - 1) = y at *
  by_cases hsv : rdOf false seen v = true
  · refine Ev.step (fun k => ?_) (ih seen y (by omega) (by omega) hlen (fun x hx => htd x ((hym x).2 (.inl hx))) h1 (fun x hx => h2 x ((hym x).2 (.inl hx))) (fun x a b w c => ?_) (fun s a => ?_))
    · simp only [g_reached.l0]
      rw [if_pos (by omega), hw, htn, htk, hvd]
      simp only [Option.bind_some]
      rw [if_pos (show 0 <= (todo.length : Int) - 1 by omega), if_pos (show (todo.length : Int) - 1 < todo.length by omega), if_pos (show (todo.length : Int) - 1 <= todo.length by omega), if_pos hnv.1, if_pos (show v < (seen.length : Int) by have := hnv.2; omega), if_pos hsv]
    · rcases h3 x a b w c with e | e
      · exact .inl e
      · rcases (hym w).1 e with e | e
        · exact .inr e
        · rw [e]; exact .inl hsv
    · rcases h4 s a with e | e
      · exact .inl e
      · rcases (hym s).1 e with e | e
        · exact .inr e
        · rw [e]; exact .inl hsv
  have hsf : rdOf false seen v = false := by simpa using hsv
  have hct := count_setB seen v hnv.1 (by have := hnv.2; omega) hsf
  have hrl := hsm.row v
  have hset : ∀ u, 0 <= u -> rdOf false (seen.set v.toNat true) u = if u = v then true else rdOf false seen u := fun u hu => rdOf_set seen v u hnv.1 (by have := hnv.2; omega) hu
  refine Ev.step (fun k => ?_) (ih (seen.set v.toNat true) (y ++ row l v) (by rw [List.length_append]; exact meas hct hM (by omega) hrl) (by omega) (by rw [List.length_set]; exact hlen) (fun x hx => ?_) (fun x a b => ?_) (fun x hx => ?_) (fun x a b w c => ?_) (fun s a => ?_))
  · simp only [g_reached.l0]
    rw [if_pos (by omega), hw, htn, htk, hvd]
    simp only [Option.bind_some]
    rw [L1_row]
    rw [if_pos (show 0 <= (todo.length : Int) - 1 by omega), if_pos (show (todo.length : Int) - 1 < todo.length by omega), if_pos (show (todo.length : Int) - 1 <= todo.length by omega), if_pos hnv.1, if_pos (show v < (seen.length : Int) by have := hnv.2; omega), if_neg hsv, if_pos (show v < (l.length : Int) from hnv.2), if_pos (by omega)]
  · rcases List.mem_append.1 hx with e | e
    · exact htd x ((hym x).2 (.inl e))
    · exact hv v hnv x e
  · rw [hset x a.1] at b
    by_cases e : x = v
    · rw [e]; exact hrv
    rw [if_neg e] at b; exact h1 x a b
  · rcases List.mem_append.1 hx with e | e
    · exact h2 x ((hym x).2 (.inl e))
    · obtain ⟨s, s1, s2⟩ := hrv
      exact ⟨s, s1, s2.tail e⟩
  · have hwn := hv x a w c
    rw [hset x a.1] at b
    rw [hset w hwn.1]
    by_cases e : x = v
    · subst e
      exact .inr (List.mem_append.2 (.inr c))
    rw [if_neg e] at b
    by_cases e2 : w = v
    · rw [if_pos e2]; exact .inl rfl
    rw [if_neg e2]
    rcases h3 x a b w c with e3 | e3
    · exact .inl e3
    · rcases (hym w).1 e3 with e4 | e4
      · exact .inr (List.mem_append.2 (.inl e4))
      · exact absurd e4 e2
  · rw [hset s (hst s a).1]
    by_cases e2 : s = v
    · rw [if_pos e2]; exact .inl rfl
    rw [if_neg e2]
    rcases h4 s a with e3 | e3
    · exact .inl e3
    · rcases (hym s).1 e3 with e4 | e4
      · exact .inr (List.mem_append.2 (.inl e4))
      · exact absurd e4 e2
theorem gr_start {l : List (List Int)} (hv : Vld l) (hsm : Sm l) {starts : List Int} (hst : ∀ s ∈ starts, nd l s) (hsl : starts.length <= 2000) : Ev (fun k => g_reached.l0 k l (List.replicate l.length false) starts) (rch l starts) := by
 have h60 := hsm.1
 have hr : ∀ v, nd l v -> rdOf false (List.replicate l.length false) v = false := by
  intro v h
  obtain ⟨i, rfl⟩ := Int.eq_ofNat_of_zero_le h.1
  rw [rdOf_at _ i (by simp; have := h.2; omega)]
  simp
 refine gr_loop hv hsm hst 122060 _ _ ?_ (by omega) (by simp) hst (fun v a b => by rw [hr v a] at b; cases b) (fun v a => ⟨v, a, .refl v⟩) (fun v a b => by rw [hr v a] at b; cases b) (fun s a => .inr a)
 simp only [List.count_replicate_self]
 omega
theorem gr_ev {l : List (List Int)} (hv : Vld l) (hsm : Sm l) {starts : List Int} (hst : ∀ s ∈ starts, nd l s) (hsl : starts.length <= 2000) : Ev (fun k => g_reached.f k l starts) (rch l starts) := by
 have h60 := hsm.1
 refine Ev.congr (fun k => ?_) (gr_start hv hsm hst hsl)
 unfold g_reached.f slices_Clone_int.f
 rw [if_pos (by omega), if_pos (by omega), if_pos (by omega), Option.bind_some, Int.toNat_natCast]
theorem filt_snoc (p : Int -> Bool) (i : Nat) : (iota (i + 1)).filter p = (iota i).filter p ++ (if p i = true then [(i : Int)] else []) := by
 rw [iota_succ, List.filter_append]
 by_cases h : p i = true <;> simp [h]
theorem filt_len (p : Int -> Bool) (i : Nat) : ((iota i).filter p).length <= i := Nat.le_trans (List.length_filter_le _ _) (by rw [iota_length]; exact Nat.le_refl _)
theorem gc_ev (seen : List Bool) (hl : seen.length < 1000000) : Ev (fun k => g_Reach.l0 k ([] : List Int) seen (seen.length : Int) 0) ((iota seen.length).filter (rdOf false seen)) := by
 have key : ∀ (m i : Nat), i + m = seen.length -> Ev (fun k => g_Reach.l0 k ((iota i).filter (rdOf false seen)) seen (seen.length : Int) i) ((iota seen.length).filter (rdOf false seen)) := by
  intro m
  induction m with
  | zero =>
   intro i hi
   obtain rfl : i = seen.length := by omega
   refine Ev.step (fun k => ?_) (Ev.now _)
   simp only [g_Reach.l0]
   rw [if_neg (by omega)]
  | succ m ih =>
   intro i hi
   have h := ih (i + 1) (by omega)
   have hlen := filt_len (rdOf false seen) i
   rw [filt_snoc] at h
   refine Ev.step (fun k => ?_) h
   simp only [g_Reach.l0]
   rw [if_pos (by omega), if_pos (by omega), if_pos (by omega), succ_cast i (by omega)]
   by_cases hp : rdOf false seen i = true
   rotate_left
   · rw [if_neg hp, if_neg hp, List.append_nil]
   rw [if_pos hp, if_pos hp, if_pos (by omega)]
 exact key seen.length 0 (by omega)
theorem rchL_eq (l : List (List Int)) (starts : List Int) : (iota (rch l starts).length).filter (rdOf false (rch l starts)) = rchL l starts := by
 rw [rch_len]
 unfold rchL
 refine List.filter_congr fun x hx => ?_
 rw [mem_iota] at hx
 exact rch_at l starts x hx
noncomputable def reachM (l : List (List Int)) (i : Int) : List Int := if Vld l /\ nd l i then rchL l [i] else []
theorem reach_ev {l : List (List Int)} (hsm : Sm l) (i : Int) : Ev (fun k => g_Reach.f k l i) (reachM l i) := by
 have h60 := hsm.1
 have hb := gv_ev l hsm
 have hnil : Ev (fun k => g_Reach.j0 k i true l) [] := Ev.step (fun k => by simp only [g_Reach.j0]; rw [if_pos trivial]) (Ev.now _)
 by_cases hv : Vld l
 rotate_left
 · have hf : vldB l = false := Bool.eq_false_iff.2 fun e => hv ((vldB_iff l).1 e)
   rw [hf] at hb
   have hm : reachM l i = [] := by unfold reachM; rw [if_neg (fun h => hv h.1)]
   rw [hm]
   refine Ev.congr (fun k => ?_) (Ev.bind hb (f := fun k t => if t = true then (if i < 0 then g_Reach.j0 k i true l else g_Reach.j0 k i (decide (i >= (l.length : Int))) l) else g_Reach.j0 k i true l) hnil)
   unfold g_Reach.f
   rfl
 rw [(vldB_iff l).2 hv] at hb
 by_cases hi : nd l i
 rotate_left
 · have hm : reachM l i = [] := by unfold reachM; rw [if_neg (fun h => hi h.2)]
   rw [hm]
   refine Ev.congr (fun k => ?_) (Ev.bind hb (f := fun k t => g_Reach.j0 k i true l) hnil)
   unfold g_Reach.f
   congr 1
   funext t
   by_cases h0 : i < 0
   · rw [if_pos h0]; split <;> rfl
   have h4 : decide (i >= (l.length : Int)) = true := decide_eq_true (by unfold nd at hi; omega)
   rw [if_neg h0, h4]; split <;> rfl
 have hm : reachM l i = rchL l [i] := by unfold reachM; rw [if_pos ⟨hv, hi⟩]
 rw [hm]
 have h1 := gr_ev hv hsm (starts := [i]) (fun s hs => by rw [List.mem_singleton.1 hs]; exact hi) (by simp)
 have h2 := gc_ev (rch l [i]) (by rw [rch_len]; omega)
 rw [rchL_eq] at h2
 have h3 : Ev (fun k => g_Reach.j0 k i false l) (rchL l [i]) := Ev.step (fun k => by simp only [g_Reach.j0]; rw [if_neg (by simp)]) (Ev.bind h1 (f := fun k t => g_Reach.l0 k ([] : List Int) t (t.length : Int) 0) h2)
 refine Ev.congr (fun k => ?_) (Ev.bind hb (f := fun k t => if t = true then g_Reach.j0 k i false l else g_Reach.j0 k i true l) h3)
 unfold g_Reach.f
 have h4 : decide (i >= (l.length : Int)) = false := decide_eq_false (by have := hi.2; omega)
 rw [h4, if_neg (show ¬ i < 0 by have := hi.1; omega)]
theorem reachM_eq' {l : List (List Int)} {i : Int} (hv : Vld l) (hi : nd l i) : reachM l i = rchL l [i] := by
 unfold reachM
 rw [if_pos ⟨hv, hi⟩]
theorem nodup_sub : ∀ (a b : List Int), a.Nodup -> (∀ x ∈ a, x ∈ b) -> a.length <= b.length := by
 intro a
 induction a with
 | nil => intro b _ _; exact Nat.zero_le _
 | cons x a ih =>
  intro b hd h
  obtain ⟨h1, h2⟩ := List.nodup_cons.1 hd
  have hx := h x (by simp)
  have := ih (b.erase x) h2 (fun y hy => by
   have hne : y ≠ x := by rintro rfl; exact h1 hy
   exact (List.mem_erase_of_ne hne).2 (h y (by simp [hy])))
  rw [List.length_erase_of_mem hx] at this
  have := List.length_pos_of_mem hx
  rw [List.length_cons]
  omega
noncomputable def scc (es : List (List Int)) (m : Int) : List Int := (iota es.length).filter fun x => decide (Rc es m x /\ Rc es x m)
theorem mem_scc {es : List (List Int)} {m x : Int} : x ∈ scc es m ↔ nd es x /\ Rc es m x /\ Rc es x m := by
 unfold scc nd
 rw [List.mem_filter, mem_iota]
 simp
theorem scc_lt (es : List (List Int)) (m : Int) : (scc es m).Pairwise (· < ·) := (iota_lt _).filter _
def Ready (es : List (List Int)) (o : List (List Int)) (m : Int) : Prop := ∀ x, Rc es m x -> x ∈ o.flatten \/ Rc es x m
def Next (es : List (List Int)) (o : List (List Int)) (c : List Int) : Prop :=
 ∃ m, nd es m /\ m ∉ o.flatten /\ Ready es o m /\ (∀ x, nd es x -> x ∉ o.flatten -> Ready es o x -> m <= x) /\ c = scc es m
inductive Kahn (es : List (List Int)) : List (List Int) -> Prop
 | nil : Kahn es []
 | snoc {o : List (List Int)} {c : List Int} : Kahn es o -> Next es o c -> Kahn es (o ++ [c])
def Full (es : List (List Int)) (o : List (List Int)) : Prop := Kahn es o /\ ∀ v, nd es v -> v ∈ o.flatten
theorem next_unique {es o : List (List Int)} {c d : List Int} (h : Next es o c) (k : Next es o d) : c = d := by
 obtain ⟨m, m1, m2, m3, m4, rfl⟩ := h
 obtain ⟨x, x1, x2, x3, x4, rfl⟩ := k
 have h1 := m4 x x1 x2 x3
 have h2 := x4 m m1 m2 m3
 have : m = x := by omega
 rw [this]
theorem kahn_next {es o : List (List Int)} (h : Kahn es o) : ∀ i (hi : i < o.length), Next es (o.take i) o[i] := by
 induction h with
 | nil => intro i hi; cases hi
 | @snoc o c h1 h2 ih =>
  intro i hi
  rw [List.length_append, List.length_singleton] at hi
  by_cases e : i < o.length
  · rw [List.take_append_of_le_length (by omega), List.getElem_append_left e]
    exact ih i e
  have : i = o.length := by omega
  subst this
  simp only [List.take_left, List.getElem_concat_length]
  exact h2
theorem kahn_prefix {es o : List (List Int)} (h : Kahn es o) : ∀ o', Kahn es o' -> o.length <= o'.length -> o = o'.take o.length := by
 induction h with
 | nil => intro o' _ _; simp
 | @snoc o c h1 h2 ih =>
  intro o' ho hl
  rw [List.length_append, List.length_singleton] at hl ⊢
  have e := ih o' ho (by omega)
  have hn := kahn_next ho o.length (by omega)
  rw [<- e] at hn
  rw [List.take_succ_eq_append_getElem (by omega), <- e, next_unique h2 hn]
theorem full_unique {es o o' : List (List Int)} (h : Full es o) (k : Full es o') : o = o' := by
 have key : ∀ {a b : List (List Int)}, Full es a -> Full es b -> a.length <= b.length -> a = b := by
  intro a b ha hb hl
  have e := kahn_prefix ha.1 b hb.1 hl
  by_cases h2 : a.length < b.length
  rotate_left
  · rw [e, List.take_of_length_le (by omega)]
  obtain ⟨m, m1, m2, _⟩ := kahn_next hb.1 a.length h2
  rw [<- e] at m2
  exact absurd (ha.2 m m1) m2
 rcases Nat.le_total o.length o'.length with e | e
 · exact key h k e
 · exact (key k h e).symm
theorem rc_le {es : List (List Int)} {cm : List Int} {n : Int} (S : Sol es cm n) (hvld : Vld es) {a b : Int} (h : Rc es a b) (ha : nd es a) : rd cm b <= rd cm a := by
 induction h with
 | refl => exact Int.le_refl _
 | tail h1 h2 ih => exact Int.le_trans (S.back _ (rc_nd hvld h1 ha) _ h2) ih
theorem mut_iff {es : List (List Int)} {cm : List Int} {n : Int} (S : Sol es cm n) (hvld : Vld es) {a b : Int} (ha : nd es a) (hb : nd es b) : (Rc es a b /\ Rc es b a) ↔ rd cm b = rd cm a := by
 constructor
 · rintro ⟨h1, h2⟩
   have := rc_le S hvld h1 ha
   have := rc_le S hvld h2 hb
   omega
 · intro h
   exact ⟨S.same a b ha hb h.symm, S.same b a hb ha h⟩
theorem mem_scc_eq {es : List (List Int)} {cm : List Int} {n : Int} (S : Sol es cm n) (hvld : Vld es) {m : Int} (hm : nd es m) : mem cm (rd cm m) = scc es m := by
 unfold mem scc
 rw [S.len]
 refine List.filter_congr fun x hx => ?_
 rw [mem_iota] at hx
 rw [Bool.eq_iff_iff, beq_iff_eq, decide_eq_true_iff]
 exact (mut_iff S hvld hm hx).symm
theorem kahn_of_seq {es : List (List Int)} {cm : List Int} {n : Int} {ms : List (List Int)} (S : Sol es cm n) (hn : es.length < 1000000) (R : Rows es cm n ms) (hvld : Vld es) {D : List Int} (h : Seq es cm n ms D) :
 Kahn es (D.map (row ms)) /\ ∀ x, x ∈ (D.map (row ms)).flatten ↔ nd es x /\ rd cm x ∈ D := by
 have flat : ∀ {D : List Int}, Seq es cm n ms D -> ∀ x, x ∈ (D.map (row ms)).flatten ↔ nd es x /\ rd cm x ∈ D := by
  intro D hD x
  have hr := hD.rng.2.1
  rw [List.mem_flatten]
  constructor
  · rintro ⟨l, hl, hx⟩
    obtain ⟨c, hc, rfl⟩ := List.mem_map.1 hl
    rw [R.row c (hr c hc).1 (hr c hc).2, mem_mem, S.len] at hx
    exact ⟨hx.1, by rw [hx.2]; exact hc⟩
  · rintro ⟨h1, h2⟩
    refine ⟨_, List.mem_map.2 ⟨_, h2, rfl⟩, ?_⟩
    rw [R.row _ (hr _ h2).1 (hr _ h2).2, mem_mem, S.len]
    exact ⟨h1, rfl⟩
 have ready : ∀ {D : List Int}, Seq es cm n ms D -> ∀ m, nd es m -> (Ready es (D.map (row ms)) m ↔ ∀ d, Dep es cm (rd cm m) d -> d ∈ D) := by
  intro D hD m hm
  constructor
  · rintro h d ⟨hne, v, hv, w, hw, rfl⟩
    obtain ⟨v1, v2⟩ := mem_mem.1 hv
    rw [S.len] at v1
    have hwn := hvld v v1 w hw
    have hmv : Rc es m v := S.same m v hm v1 v2.symm
    rcases h w (hmv.tail hw) with e | e
    · exact ((flat hD w).1 e).2
    · have := (mut_iff S hvld hm hwn).1 ⟨hmv.tail hw, e⟩
      exact absurd this.symm hne
  · intro h x hx
    have key : nd es x /\ (rd cm x = rd cm m \/ rd cm x ∈ D) := by
     induction hx with
     | refl => exact ⟨hm, .inl rfl⟩
     | @tail b c h1 h2 ih =>
      obtain ⟨i1, i2⟩ := ih
      have hc := hvld _ i1 _ h2
      refine ⟨hc, ?_⟩
      by_cases e : rd cm c = rd cm b
      · rw [e]; exact i2
      have hd : Dep es cm (rd cm b) (rd cm c) := ⟨fun e2 => e e2.symm, b, mem_mem.2 ⟨by rw [S.len]; exact i1, rfl⟩, c, h2, rfl⟩
      rcases i2 with i2 | i2
      · rw [i2] at hd; exact .inr (h _ hd)
      · exact .inr (hD.rng.2.2 _ i2 _ hd)
    rcases key.2 with e | e
    · exact .inr ((mut_iff S hvld hm key.1).2 e).2
    · exact .inl ((flat hD x).2 ⟨key.1, e⟩)
 refine ⟨?_, flat h⟩
 induction h with
 | nil => exact .nil
 | @snoc D c hD c0 c1 c2 c3 c4 ih =>
  rw [List.map_append]
  obtain ⟨f1, ⟨f2, f3⟩, f4⟩ := fine_of S hn R c0 c1
  refine .snoc ih ⟨first ms c, f2, fun e => ?_, (ready hD _ f2).2 (by rw [f3]; exact c3), fun x hx hxD hxr => ?_, ?_⟩
  · have := ((flat hD _).1 e).2
    rw [f3] at this
    exact c2 this
  · have hr := S.rng x hx
    obtain ⟨_, _, g4⟩ := fine_of S hn R hr.1 hr.2
    have h1 := c4 (rd cm x) hr.1 hr.2 (fun e => hxD ((flat hD x).2 ⟨hx, e⟩)) ((ready hD x hx).1 hxr)
    have h2 := g4 x hx rfl
    omega
  · rw [R.row c c0 c1, <- mem_scc_eq S hvld f2, f3]
theorem ordered_ev {es : List (List Int)} (hvld : Vld es) {L : Nat} (hL : ∀ v, (row es v).length <= L) (hn : es.length < 1000000) : ∃ o, Full es o /\ g_ordered.f es = some o := by
 have key : ∀ k, es.length * (L + 2) + 3 * es.length + L + 9 <= k -> ∃ o, Full es o /\ orderedF k es = some o := by
  intro k hk
  obtain ⟨cm, n, ms, D, S, R, h1, h2, h3⟩ := ordered_run hvld hL hn k hk
  obtain ⟨k1, k2⟩ := kahn_of_seq S hn R hvld h2
  exact ⟨_, ⟨k1, fun v hv => (k2 v).2 ⟨hv, h3 _ (S.rng v hv).1 (S.rng v hv).2⟩⟩, h1⟩
 obtain ⟨o, o1, o2⟩ := key _ (Nat.le_refl _)
 refine ⟨o, o1, Od.lim_of (k0 := es.length * (L + 2) + 3 * es.length + L + 9) fun k hk => ?_⟩
 obtain ⟨o', p1, p2⟩ := key k hk
 rw [p2, full_unique p1 o1]
structure Parts (es o : List (List Int)) : Prop where
 asc : ∀ c ∈ o, c.Pairwise (· < ·)
 scc : ∀ c ∈ o, ∃ m, nd es m /\ c = scc es m
 one : o.flatten.Nodup
 back : ∀ (i : Nat) (c : List Int), o[i]? = some c -> ∀ u ∈ c, ∀ w ∈ row es u, ∃ (j : Nat) (d : List Int), j <= i /\ o[j]? = some d /\ w ∈ d
theorem kahn_parts {es o : List (List Int)} (hvld : Vld es) (h : Kahn es o) : Parts es o := by
 induction h with
 | nil => exact ⟨by simp, by simp, by simp, by simp⟩
 | @snoc o c h1 h2 ih =>
  obtain ⟨m, m1, m2, m3, m4, rfl⟩ := h2
  refine ⟨?_, ?_, ?_, ?_⟩
  · intro c hc
    rcases List.mem_append.1 hc with e | e
    · exact ih.asc c e
    · rw [List.mem_singleton] at e; rw [e]; exact scc_lt _ _
  · intro c hc
    rcases List.mem_append.1 hc with e | e
    · exact ih.scc c e
    · rw [List.mem_singleton] at e; exact ⟨m, m1, e⟩
  · rw [List.flatten_append, List.nodup_append]
    refine ⟨ih.one, by rw [List.flatten_cons, List.flatten_nil, List.append_nil]; exact (scc_lt es m).imp (fun h e => by subst e; omega), ?_⟩
    rintro a ha b hb rfl
    have hb' : a ∈ Tp.scc es m := by simpa using hb
    obtain ⟨_, b2, b3⟩ := mem_scc.1 hb'
    obtain ⟨d, hd, had⟩ := List.mem_flatten.1 ha
    obtain ⟨x, _, rfl⟩ := ih.scc d hd
    obtain ⟨_, a2, a3⟩ := mem_scc.1 had
    exact m2 (List.mem_flatten.2 ⟨_, hd, mem_scc.2 ⟨m1, a2.trans b3, b2.trans a3⟩⟩)
  · intro i c hi u hu w hw
    by_cases e : i < o.length
    · rw [List.getElem?_append_left e] at hi
      obtain ⟨j, d, j1, j2, j3⟩ := ih.back i c hi u hu w hw
      exact ⟨j, d, j1, by rw [List.getElem?_append_left (by omega)]; exact j2, j3⟩
    have hil := (List.getElem?_eq_some_iff.1 hi).1
    rw [List.length_append, List.length_singleton] at hil
    have e2 : i = o.length := by omega
    subst e2
    rw [List.getElem?_append_right (Nat.le_refl _), Nat.sub_self, List.getElem?_cons_zero] at hi
    obtain rfl := Option.some.inj hi
    obtain ⟨u1, u2, u3⟩ := mem_scc.1 hu
    have hwn := hvld u u1 w hw
    rcases m3 w (u2.tail hw) with e | e
    · obtain ⟨d, hd, hwd⟩ := List.mem_flatten.1 e
      obtain ⟨j, hj, rfl⟩ := List.mem_iff_getElem.1 hd
      exact ⟨j, _, by omega, by rw [List.getElem?_append_left hj, List.getElem?_eq_getElem hj], hwd⟩
    · exact ⟨o.length, _, Nat.le_refl _, by rw [List.getElem?_append_right (Nat.le_refl _), Nat.sub_self, List.getElem?_cons_zero], mem_scc.2 ⟨hwn, u2.tail hw, e⟩⟩
theorem full_len {l o : List (List Int)} (hv : Vld l) (h : Full l o) : o.flatten.length = l.length /\ o.length <= l.length /\ ∀ c ∈ o, c.length <= l.length := by
 have P := kahn_parts hv h.1
 have hsub : ∀ x ∈ o.flatten, x ∈ iota l.length := by
  intro x hx
  obtain ⟨c, hc, hxc⟩ := List.mem_flatten.1 hx
  obtain ⟨m, _, rfl⟩ := P.scc c hc
  exact mem_iota.2 (mem_scc.1 hxc).1
 have h1 := nodup_sub _ _ P.one hsub
 have h2 := nodup_sub (iota l.length) o.flatten ((iota_lt _).imp (fun h e => by subst e; omega)) (fun x hx => h.2 x (mem_iota.1 hx))
 rw [iota_length] at h1 h2
 refine ⟨by omega, ?_, fun c hc => ?_⟩
 · have key : ∀ (q : List (List Int)), (∀ c ∈ q, 0 < c.length) -> q.length <= q.flatten.length := by
    intro q
    induction q with
    | nil => intro _; simp
    | cons a q ih =>
     intro hq
     have := hq a (by simp)
     have := ih (fun c hc => hq c (by simp [hc]))
     rw [List.flatten_cons, List.length_append, List.length_cons]
     omega
   have := key o (fun c hc => by
    obtain ⟨m, m1, rfl⟩ := P.scc c hc
    exact List.length_pos_of_mem (mem_scc.2 ⟨m1, .refl m, .refl m⟩))
   omega
 · obtain ⟨m, m1, rfl⟩ := P.scc c hc
   unfold scc
   exact Nat.le_trans (List.length_filter_le _ _) (by rw [iota_length]; exact Nat.le_refl _)
end Tp
end Go.Proofs.Ytmadhaccjmakdaa
namespace Go.Proofs.Ytmadhaccjmakdaa
open Go.Maps Go.Sort Go.RowKit Go.Proofs.Yw.A Go.Proofs.Yw.B Go.Proofs.Yw.C Go.Proofs.Ytmadhaccjmakdaa.P
namespace Tp
open Tj Rw Od Mg
open Classical
abbrev Nm := List UInt8
theorem dat_bz (x : Nm) : dat (bz x) = x := bz_list x
theorem bz_dat (x : ByteArray) : bz (dat x) = x := by cases x; simp [bz, dat]
theorem toL_iff (x y : ByteArray) : x.toList = y.toList ↔ x = y := by
 rw [toL, toL]
 exact ⟨fun h => dat_inj h, fun h => by rw [h]⟩
theorem drop_strs (l : List ByteArray) (j : Nat) (h : j < l.length) : l.drop j = rdOf ByteArray.empty l j :: l.drop (j + 1) := by
 rw [List.drop_eq_getElem_cons h]
 congr 1
 simp [rdOf, List.getElem?_eq_getElem h]
theorem less_dat (x y : ByteArray) : Op.bytesLess x.toList y.toList = decide (dat x < dat y) := by
 rw [bytesLess_eq, toL, toL]
theorem has_ev (l : List ByteArray) (x : ByteArray) (hl : l.length < 1000000) : Ev (fun k => q_Has.f k l x) (decide (x ∈ l)) := by
 have key : ∀ (m j : Nat), j + m = l.length -> Ev (fun k => q_Has.l0 k l x j) (decide (x ∈ l.drop j)) := by
  intro m
  induction m with
  | zero =>
   intro j hj
   rw [List.drop_eq_nil_of_le (by omega)]
   refine Ev.step (fun k => ?_) (Ev.now _)
   simp only [q_Has.l0]
   rw [if_neg (by omega), show decide (x ∈ ([] : List ByteArray)) = false by simp]
  | succ m ih =>
   intro j hj
   rw [drop_strs l j (by omega)]
   by_cases h : rdOf ByteArray.empty l j = x
   · rw [show decide (x ∈ rdOf ByteArray.empty l j :: l.drop (j + 1)) = true by simp [h]]
     refine Ev.step (fun k => ?_) (Ev.now _)
     simp only [q_Has.l0]
     rw [if_pos (by omega), if_pos (by omega), if_pos ((toL_iff _ _).2 h)]
   rw [show decide (x ∈ rdOf ByteArray.empty l j :: l.drop (j + 1)) = decide (x ∈ l.drop (j + 1)) by have h' : ¬ x = rdOf ByteArray.empty l j := fun e => h e.symm; simp [h']]
   refine Ev.step (fun k => ?_) (ih (j + 1) (by omega))
   simp only [q_Has.l0]
   rw [if_pos (by omega), if_pos (by omega), if_neg (fun e => h ((toL_iff _ _).1 e)), succ_cast j (by omega)]
 exact key l.length 0 (by omega)
theorem same_ev (a b : List ByteArray) (hl : a.length < 1000000) : Ev (fun k => w_same.f k a b) (decide (a = b)) := by
 by_cases hlen : a.length = b.length
 rotate_left
 · rw [show decide (a = b) = false from decide_eq_false (fun e => hlen (by rw [e]))]
   refine Ev.congr (fun k => ?_) (Ev.now _)
   unfold w_same.f
   rw [if_neg (by omega)]
 have key : ∀ (m j : Nat), j + m = a.length -> Ev (fun k => w_same.l0 k a b j) (decide (a.drop j = b.drop j)) := by
  intro m
  induction m with
  | zero =>
   intro j hj
   rw [List.drop_eq_nil_of_le (by omega), List.drop_eq_nil_of_le (by omega)]
   refine Ev.step (fun k => ?_) (Ev.now _)
   simp only [w_same.l0]
   rw [if_neg (by omega)]
   rfl
  | succ m ih =>
   intro j hj
   rw [drop_strs a j (by omega), drop_strs b j (by omega)]
   by_cases h : rdOf ByteArray.empty a j = rdOf ByteArray.empty b j
   rotate_left
   · rw [show decide (rdOf ByteArray.empty a j :: a.drop (j + 1) = rdOf ByteArray.empty b j :: b.drop (j + 1)) = false by simp [h]]
     refine Ev.step (fun k => ?_) (Ev.now _)
     simp only [w_same.l0]
     rw [if_pos (by omega), if_pos (by omega), if_pos (by omega), if_neg (fun e => h ((toL_iff _ _).1 e))]
   rw [show decide (rdOf ByteArray.empty a j :: a.drop (j + 1) = rdOf ByteArray.empty b j :: b.drop (j + 1)) = decide (a.drop (j + 1) = b.drop (j + 1)) by simp [h]]
   refine Ev.step (fun k => ?_) (ih (j + 1) (by omega))
   simp only [w_same.l0]
   rw [if_pos (by omega), if_pos (by omega), if_pos (by omega), if_pos ((toL_iff _ _).2 h), succ_cast j (by omega)]
 refine Ev.congr (fun k => ?_) (key a.length 0 (by omega))
 unfold w_same.f
 rw [if_pos (by omega)]
 rfl
def insU (s : Nm) : List Nm -> List Nm
 | [] => [s]
 | x :: l => if s < x then s :: x :: l else if s = x then x :: l else x :: insU s l
theorem mem_insU {s x : Nm} : ∀ {l : List Nm}, x ∈ insU s l ↔ x = s \/ x ∈ l := by
 intro l
 induction l with
 | nil => simp [insU]
 | cons y l ih =>
  unfold insU
  split
  · simp
  · split
    · rename_i h; subst h; simp
    · simp only [List.mem_cons, ih]
      constructor
      · rintro (h | h | h)
        · exact .inr (.inl h)
        · exact .inl h
        · exact .inr (.inr h)
      · rintro (h | h | h)
        · exact .inr (.inl h)
        · exact .inl h
        · exact .inr (.inr h)
theorem insU_len (s : Nm) : ∀ (l : List Nm), (insU s l).length <= l.length + 1 := by
 intro l
 induction l with
 | nil => simp [insU]
 | cons y l ih =>
  unfold insU
  split
  · simp
  · split
    · simp
    · simp; omega
theorem insU_lt (s : Nm) : ∀ {l : List Nm}, l.Pairwise (· < ·) -> (insU s l).Pairwise (· < ·) := by
 intro l
 induction l with
 | nil => intro _; simp [insU]
 | cons y l ih =>
  intro h
  rw [List.pairwise_cons] at h
  unfold insU
  split
  · rename_i h1
    rw [List.pairwise_cons]
    refine ⟨fun z hz => ?_, List.pairwise_cons.2 h⟩
    rcases List.mem_cons.1 hz with rfl | hz
    · exact h1
    · exact List.lt_trans h1 (h.1 z hz)
  · split
    · exact List.pairwise_cons.2 h
    · rename_i h1 h2
      rw [List.pairwise_cons]
      refine ⟨fun z hz => ?_, ih h.2⟩
      rcases mem_insU.1 hz with rfl | hz
      · rcases Std.lt_trichotomy z y with h3 | h3 | h3
        · exact absurd h3 h1
        · exact absurd h3 h2
        · exact h3
      · exact h.1 z hz
theorem ins_copy (x0 : List ByteArray) (x1 : ByteArray) (hl : x0.length < 1000000) : ∀ (m j : Nat) (x5 : List ByteArray), j + m = x0.length -> x5.length <= 2 * j + 2 -> Ev (fun k => r_Insert.l0 k x0 x1 x5 true j) (x5 ++ x0.drop j) := by
 intro m
 induction m with
 | zero =>
  intro j x5 hj hx
  rw [List.drop_eq_nil_of_le (by omega), List.append_nil]
  refine Ev.step (fun k => ?_) (Ev.now _)
  simp only [r_Insert.l0]
  rw [if_neg (by omega), if_pos trivial]
 | succ m ih =>
  intro j x5 hj hx
  have h1 := ih (j + 1) (x5 ++ [rdOf ByteArray.empty x0 j]) (by omega) (by simp; omega)
  rw [drop_strs x0 j (by omega)]
  rw [List.append_assoc, List.singleton_append] at h1
  refine Ev.step (fun k => ?_) (Ev.step (g := fun k => r_Insert.j1 k x0 x1 x5 true j false) (fun k => ?_) h1)
  · simp only [r_Insert.l0]
    rw [if_pos (by omega), if_pos trivial]
  · simp only [r_Insert.j1]
    rw [if_neg (by simp), if_pos (by omega), if_pos (by omega), if_pos (by omega), succ_cast j (by omega)]
theorem ins_ev (L : List Nm) (s : ByteArray) (hl : L.length < 1000000) : Ev (fun k => r_Insert.f k (L.map bz) s) ((insU (dat s) L).map bz) := by
 have hrd : ∀ j : Nat, (h : j < L.length) -> rdOf ByteArray.empty (L.map bz) (j : Int) = bz L[j] := by
  intro j h
  simp [rdOf, List.getElem?_eq_getElem h]
 have key : ∀ (m j : Nat) (x5 : List ByteArray), j + m = L.length -> x5.length <= j -> Ev (fun k => r_Insert.l0 k (L.map bz) s x5 false j) (x5 ++ (insU (dat s) (L.drop j)).map bz) := by
  intro m
  induction m with
  | zero =>
   intro j x5 hj hx
   rw [List.drop_eq_nil_of_le (by omega)]
   refine Ev.step (fun k => ?_) (Ev.now _)
   simp only [r_Insert.l0]
   rw [if_neg (by rw [List.length_map]; omega), if_neg (by simp), if_pos (by omega)]
   simp [insU, bz_dat]
  | succ m ih =>
   intro j x5 hj hx
   have hjl : j < L.length := by omega
   have hjm : (j : Int) < ((L.map bz).length : Int) := by rw [List.length_map]; omega
   rw [List.drop_eq_getElem_cons hjl]
   have hr := hrd j hjl
   by_cases h1 : L[j] < dat s
   · have e : insU (dat s) (L[j] :: L.drop (j + 1)) = L[j] :: insU (dat s) (L.drop (j + 1)) := by
      rw [insU, if_neg (fun h => List.lt_irrefl _ (List.lt_trans h h1)), if_neg (fun h => by rw [h] at h1; exact List.lt_irrefl _ h1)]
     rw [e]
     have h2 := ih (j + 1) (x5 ++ [rdOf ByteArray.empty (L.map bz) j]) (by omega) (by simp; omega)
     rw [hr, List.append_assoc, List.singleton_append] at h2
     refine Ev.step (fun k => ?_) (Ev.step (g := fun k => r_Insert.j1 k (L.map bz) s x5 false j false) (fun k => ?_) h2)
     · simp only [r_Insert.l0]
       rw [if_pos hjm, if_neg (by simp), if_pos (by omega), less_dat, hr, dat_bz, decide_eq_true h1]
       rfl
     · simp only [r_Insert.j1]
       rw [if_neg (by simp), if_pos (by omega), if_pos hjm, if_pos (by omega), succ_cast j (by omega), hr]
   have hcond : (!(Op.bytesLess ((rdOf ByteArray.empty (L.map bz) (j : Int)).toList) s.toList)) = true := by rw [less_dat, hr, dat_bz, decide_eq_false h1]; rfl
   by_cases h2 : dat s < L[j]
   · have e : insU (dat s) (L[j] :: L.drop (j + 1)) = dat s :: L[j] :: L.drop (j + 1) := by rw [insU, if_pos h2]
     rw [e]
     have h3 := ins_copy (L.map bz) s (by rw [List.length_map]; omega) m (j + 1) ((x5 ++ [s]) ++ [rdOf ByteArray.empty (L.map bz) j]) (by rw [List.length_map]; omega) (by simp; omega)
     rw [hr, <- List.map_drop] at h3
     refine Ev.step (fun k => ?_) (Ev.step (g := fun k => r_Insert.j1 k (L.map bz) s x5 false j true) (fun k => ?_) (r := x5 ++ List.map bz (dat s :: L[j] :: List.drop (j + 1) L)) (f := fun k => r_Insert.l0 k (L.map bz) s ((x5 ++ [s]) ++ [bz L[j]]) true ((j + 1 : Nat) : Int)) ?_)
     · simp only [r_Insert.l0]
       rw [if_pos hjm, if_neg (by simp), if_pos (by omega), hcond]
     · simp only [r_Insert.j1]
       rw [if_pos trivial, if_pos (by omega), if_pos hjm, if_pos (by rw [less_dat, hr, dat_bz, decide_eq_true h2]), if_pos (by omega), Option.bind_some, if_pos (by simp; omega), succ_cast j (by omega), hr]
     · rw [List.map_cons, List.map_cons, bz_dat]
       simpa only [List.append_assoc, List.singleton_append, List.cons_append, List.nil_append] using h3
   have h4 : dat s = L[j] := by
    rcases Std.lt_trichotomy (dat s) L[j] with h | h | h
    · exact absurd h h2
    · exact h
    · exact absurd h h1
   have e : insU (dat s) (L[j] :: L.drop (j + 1)) = L[j] :: L.drop (j + 1) := by rw [insU, if_neg h2, if_pos h4]
   rw [e]
   have h3 := ins_copy (L.map bz) s (by rw [List.length_map]; omega) m (j + 1) (x5 ++ [rdOf ByteArray.empty (L.map bz) j]) (by rw [List.length_map]; omega) (by simp; omega)
   rw [hr, <- List.map_drop] at h3
   refine Ev.step (fun k => ?_) (Ev.step (g := fun k => r_Insert.j1 k (L.map bz) s x5 false j true) (fun k => ?_) (f := fun k => r_Insert.l0 k (L.map bz) s (x5 ++ [bz L[j]]) true ((j + 1 : Nat) : Int)) ?_)
   · simp only [r_Insert.l0]
     rw [if_pos hjm, if_neg (by simp), if_pos (by omega), hcond]
   · simp only [r_Insert.j1]
     rw [if_pos trivial, if_pos (by omega), if_pos hjm, if_neg (by rw [less_dat, hr, dat_bz, decide_eq_false h2]; simp), if_pos (by omega), succ_cast j (by omega), hr]
   · rw [List.map_cons]
     simpa only [List.append_assoc, List.singleton_append, List.cons_append, List.nil_append] using h3
 have h := key L.length 0 [] (by omega) (by simp)
 rw [List.drop_zero, List.nil_append] at h
 exact h
end Tp
end Go.Proofs.Ytmadhaccjmakdaa
