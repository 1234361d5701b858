/- Part 5 of 5 of one proof: The law ModgraphCycle holds: for every input it returns true, and the input reads as it did -/
import Derived.Below
import Derived.ChangeOld
import Derived.OpenShut
import Derived.ProofKit
import Derived.ShutString
import Derived.SizedLaws
import Derived.Test.YtmadhaccjmakdaaRows
import Derived.WalkKit
import Derived.Test.YtmadhaccjmakdaaMCycle1
import Derived.Test.YtmadhaccjmakdaaMCycle2
import Derived.Test.YtmadhaccjmakdaaMCycle3
import Derived.Test.YtmadhaccjmakdaaMCycle4
set_option linter.unusedVariables false
set_option linter.unusedSimpArgs false
set_option maxHeartbeats 8000000
set_option maxRecDepth 100000
namespace Go.Proofs.Ytmadhaccjmakdaa.P
open Go.RowKit Go.Proofs.Yw.A Go.Proofs.Yw.A.Kd Go.Proofs.Yw.B Go.Proofs.Yw.C
attribute [local go_sem] str_gtr str_leq str_geq max2_int min2_int max_two min_two max_three min_three max_four min_four
noncomputable def m_Needs.f (k : Nat) (l0 : List (S42)) (a1 : ByteArray) : Option (List ByteArray × Int × ByteArray × Int × Int) := (m_acyclic.f k l0).bind fun bt257 => (if bt257.2.2.1 = 0 then ((m_reached.f bt257.1 bt257.2.1 bt257.2.1 a1).bind fun bt269 => (some (bt269.1, bt269.2.1, bt269.2.2.1, bt269.2.2.2.1, bt269.2.2.2.2))) else (some (([] : List ByteArray), bt257.2.2.1, bt257.2.2.2.1, bt257.2.2.2.2.1, bt257.2.2.2.2.2)))
theorem m_Needs.calls (k : Nat) (A0 : Option Addr) (c0 : Nat) (l0 : List (S42)) (a1 : ByteArray) (r1 : List ByteArray) (r2 : Int) (r3 : ByteArray) (r4 : Int) (r5 : Int) (w : World) (hr0 : Kd.C k42 w A0 l0.length l0) (hc0 : l0.length <= c0) (h : m_Needs.f k l0 a1 = some (r1, r2, r3, r4, r5)) :
 Calls Try.prog 15 #[.slice A0 l0.length c0, .string a1] w fun e w' => ∃ v0_ : Value, e = .returned (.tuple #[v0_, .agg #[.int .i64 r2, .string r3, .int .i64 r4, .int .i64 r5]]) /\ Kd.R Kd.string 9 w' w.heap.size (fun _ => True) v0_ r1 /\ Below w.heap.size w w' := by
 have hu28 := Try.underlying28
 have hu51 := Try.underlying51
 have hu49 := Try.underlying49
 have HR0 := aM hr0
 have HC0 := aM hc0
 clear hr0 hc0
 have HB := aM (Below.refl w.heap.size w)
 have H : ((m_acyclic.f k l0).bind fun bt257 => (if bt257.2.2.1 = 0 then ((m_reached.f bt257.1 bt257.2.1 bt257.2.1 a1).bind fun bt269 => (some (bt269.1, bt269.2.1, bt269.2.2.1, bt269.2.2.2.1, bt269.2.2.2.2))) else (some (([] : List ByteArray), bt257.2.2.1, bt257.2.2.2.1, bt257.2.2.2.2.1, bt257.2.2.2.2.2)))) = some (r1, r2, r3, r4, r5) := h
 clear h
 replace H := Option.bind_eq_some_iff.mp H
 obtain ⟨⟨t257, t260, t263, t264, t265, t266⟩, A30, H⟩ := H
 replace H : (if t263 = 0 then ((m_reached.f t257 t260 t260 a1).bind fun bt269 => (some (bt269.1, bt269.2.1, bt269.2.2.1, bt269.2.2.2.1, bt269.2.2.2.2))) else (some (([] : List ByteArray), t263, t264, t265, t266))) = some (r1, r2, r3, r4, r5) := H
 have A3 := aM A30
 clear A30
 by_cases c4 : t263 = 0
 · rw [if_pos c4] at H
   have c4b0 : (t263 == 0) = true := beq_iff_eq.mpr c4
   have c4b1 : (t263 != 0) = false := bne_eq_false_iff_eq.mpr c4
   clear c4
   replace H := Option.bind_eq_some_iff.mp H
   obtain ⟨⟨t269, t272, t273, t274, t275⟩, A50, H⟩ := H
   replace H : (some (t269, t272, t273, t274, t275)) = some (r1, r2, r3, r4, r5) := H
   have A5 := aM A50
   clear A50
   simp only [Option.some.injEq, Prod.mk.injEq] at H
   obtain ⟨rfl, rfl, rfl, rfl, rfl⟩ := H
   go_enter Try.func15, Try.ntmps15
   go_wp2_with (first | ((with_reducible refine gate_dst (N := 5) rfl ?_); refine be 5 rfl rfl #[.int .i64 0, .string (⟨#[]⟩ : ByteArray), .int .i64 0, .int .i64 0] 28 ?_; intro gb256 hg w6 hbox hb; have BK256 := aM hbox; have GE256 := gs hg HB; replace HB := bs HB hb; clear hb hbox hg) | ((with_reducible refine gate_callee (f := 24) rfl ?_); refine gL (some 10) rfl rfl Try.func24 (by kernel_rfl) rfl #[.slice A0 l0.length c0] rfl ?_; (with_reducible refine (m_acyclic.calls k _ _ l0 t257 t260 t263 t264 t265 t266 _ ?side1 ?side2 A3.1).mono ?_); (case side1 => exact cb HR0 HB); (case side2 => exact HC0.1); rintro e w7 ⟨v258, v261, rfl, ho0, ho1, hb⟩; refine ⟨_, rfl, ?_⟩; have HO259 := aM (R_lower ho0 (below_size (hh HB))); have HO262 := aM (S_lower ho1 (below_size (hh HB))); replace BK256 := kb BK256 hb; replace HB := bs HB hb; clear hb ho0 ho1) | ((with_reducible refine gate_dst (N := 6) rfl ?_); refine be 6 rfl rfl #[.slice none 0 0, .slice none 0 0] 51 ?_; intro gb267 hg w8 hbox hb; have BK267 := aM hbox; have GE267 := gs hg HB; have NB256_267 := nl hg BK256; have NB267_256 := nr hg BK256; replace HO259 := rb HO259 hb; replace HO262 := sb HO262 hb; replace BK256 := kb BK256 hb; replace HB := bs HB hb; clear hb hbox hg) | ((with_reducible refine gate_dst (N := 7) rfl ?_); refine be 7 rfl rfl #[.int .i64 0, .string (⟨#[]⟩ : ByteArray), .int .i64 0, .int .i64 0] 28 ?_; intro gb268 hg w9 hbox hb; have BK268 := aM hbox; have GE268 := gs hg HB; have NB256_268 := nl hg BK256; have NB268_256 := nr hg BK256; have NB267_268 := nl hg BK267; have NB268_267 := nr hg BK267; replace HO259 := rb HO259 hb; replace HO262 := sb HO262 hb; replace BK256 := kb BK256 hb; replace BK267 := kb BK267 hb; replace HB := bs HB hb; clear hb hbox hg; obtain ⟨Ao10, co10, eo10⟩ := R_slice HO259.1; subst eo10; have hnb11 := NB267_256.1; have hnc11 := NB256_267.1; have hnb12 := NB267_268.1; have hnc12 := NB268_267.1; obtain ⟨hcz13_0, hcz13_1⟩ := cz2 BK267; obtain ⟨hfz13_0, hfz13_1⟩ := fz2 BK267; obtain ⟨Ao14, co14, eo14⟩ := S_slice HO262.1; subst eo14; have hnb15 := NB268_256.1; have hnc15 := NB256_268.1; obtain ⟨hcz16_0, hcz16_1, hcz16_2, hcz16_3⟩ := cz BK268; obtain ⟨hfz16_0, hfz16_1, hfz16_2, hfz16_3⟩ := fz BK268) | ((with_reducible refine gate_callee (f := 31) rfl ?_); refine gL (some 21) rfl rfl Try.func31 (by kernel_rfl) rfl #[.agg #[.slice Ao10 t257.length co10, .slice Ao14 t260.length co14], .agg #[.slice Ao14 t260.length co14], .string a1] rfl ?_; (with_reducible refine (m_reached.calls _ _ t257 _ _ t260 _ _ t260 a1 t269 t272 t273 t274 t275 _ ?side1 ?side2 ?side3 ?side4 ?side5 ?side6 A5.1).mono ?_); (case side1 => refine (Mg.plainR (e := 9) (base := w.heap.size) (ok := fun k_ => True) (n := t257.length) (c := co10) ?_).2.2; exact (rz (rf24 HO259 BK267 (by decide) BK268 (by decide)))); (case side2 => exact (R_reads' HO259.1).2.1); (case side3 => exact c3 (sf24 HO262 BK267 (by decide) BK268 (by decide))); (case side4 => exact (S_reads' HO262.1).2.1); (case side5 => exact c3 (sf24 HO262 BK267 (by decide) BK268 (by decide))); (case side6 => exact (S_reads' HO262.1).2.1); rintro e w17 ⟨v270, rfl, ho0, hb⟩; refine ⟨_, rfl, ?_⟩; have HO271 := aM (R_lower (R_new' ho0 (R_lt (rz (rf24 HO259 BK267 (by decide) BK268 (by decide))))) (below_size (hh HB))); replace HO259 := aM (R_elder' (rz (rf24 HO259 BK267 (by decide) BK268 (by decide))) (R_base ho0) hb); replace HO262 := aM (S_below (sz (sf24 HO262 BK267 (by decide) BK268 (by decide))) hb); replace BK256 := kg (o' := .cells #[.int .i64 0, .string (⟨#[]⟩ : ByteArray), .int .i64 0, .int .i64 0] 28 (0, 0)) BK256 hb; replace BK267 := kg (o' := .cells #[.slice Ao10 t257.length co10, .slice Ao14 t260.length co14] 51 (0, 0)) BK267 hb; replace BK268 := kg (o' := .cells #[.int .i64 t263, .string t264, .int .i64 t265, .int .i64 t266] 28 (0, 0)) BK268 hb; replace HB := bs HB hb; clear hb ho0; obtain ⟨hcz18_0, hcz18_1, hcz18_2, hcz18_3⟩ := cz BK256; obtain ⟨hfz18_0, hfz18_1, hfz18_2, hfz18_3⟩ := fz BK256))
   refine bodyPost_ret (results_tc rfl _ _ gb256 28 #[.int .i64 t272, .string t273, .int .i64 t274, .int .i64 t275] (0, 0) _ rfl (kf BK256) Try.underlying28 rfl (by kernel_rfl)) rfl ?_
   exact ⟨_, by first | rfl | (simp [errW_none, errW_some] <;> rfl) | (simp [*, errW_none, errW_some] <;> rfl), rz (R_mono (R_far (p := ⟨gb256, 3, none⟩) (R_far (p := ⟨gb256, 2, none⟩) (R_far (p := ⟨gb256, 1, none⟩) (R_far (p := ⟨gb256, 0, none⟩) (R_types HO271.1 BK256.1 (by decide)) (fun _ hk => hk.2) (.int .i64 t272)) (fun _ hk => hk.2) (.string t273)) (fun _ hk => hk.2) (.int .i64 t274)) (fun _ hk => hk.2) (.int .i64 t275)) (fun _ hk => trivial)), hh HB⟩
 rw [if_neg c4] at H
 have c4b0 : (t263 == 0) = false := beq_eq_false_iff_ne.mpr c4
 have c4b1 : (t263 != 0) = true := bne_iff_ne.mpr c4
 simp only [Option.some.injEq, Prod.mk.injEq] at H
 obtain ⟨rfl, rfl, rfl, rfl, rfl⟩ := H
 go_enter Try.func15, Try.ntmps15
 try go_wp2_with (first | ((with_reducible refine gate_dst (N := 5) rfl ?_); refine be 5 rfl rfl #[.int .i64 0, .string (⟨#[]⟩ : ByteArray), .int .i64 0, .int .i64 0] 28 ?_; intro gb256 hg w19 hbox hb; have BK256 := aM hbox; have GE256 := gs hg HB; replace HB := bs HB hb; clear hb hbox hg) | ((with_reducible refine gate_callee (f := 24) rfl ?_); refine gL (some 10) rfl rfl Try.func24 (by kernel_rfl) rfl #[.slice A0 l0.length c0] rfl ?_; (with_reducible refine (m_acyclic.calls k _ _ l0 t257 t260 t263 t264 t265 t266 _ ?side1 ?side2 A3.1).mono ?_); (case side1 => exact cb HR0 HB); (case side2 => exact HC0.1); rintro e w20 ⟨v258, v261, rfl, ho0, ho1, hb⟩; refine ⟨_, rfl, ?_⟩; have HO259 := aM (R_lower ho0 (below_size (hh HB))); have HO262 := aM (S_lower ho1 (below_size (hh HB))); replace BK256 := kb BK256 hb; replace HB := bs HB hb; clear hb ho0 ho1) | ((with_reducible refine gate_dst (N := 6) rfl ?_); refine be 6 rfl rfl #[.slice none 0 0, .slice none 0 0] 51 ?_; intro gb267 hg w21 hbox hb; have BK267 := aM hbox; have GE267 := gs hg HB; have NB256_267 := nl hg BK256; have NB267_256 := nr hg BK256; replace HO259 := rb HO259 hb; replace HO262 := sb HO262 hb; replace BK256 := kb BK256 hb; replace HB := bs HB hb; clear hb hbox hg) | ((with_reducible refine gate_dst (N := 7) rfl ?_); refine be 7 rfl rfl #[.int .i64 0, .string (⟨#[]⟩ : ByteArray), .int .i64 0, .int .i64 0] 28 ?_; intro gb268 hg w22 hbox hb; have BK268 := aM hbox; have GE268 := gs hg HB; have NB256_268 := nl hg BK256; have NB268_256 := nr hg BK256; have NB267_268 := nl hg BK267; have NB268_267 := nr hg BK267; replace HO259 := rb HO259 hb; replace HO262 := sb HO262 hb; replace BK256 := kb BK256 hb; replace BK267 := kb BK267 hb; replace HB := bs HB hb; clear hb hbox hg; obtain ⟨Ao23, co23, eo23⟩ := R_slice HO259.1; subst eo23; have hnb24 := NB267_256.1; have hnc24 := NB256_267.1; have hnb25 := NB267_268.1; have hnc25 := NB268_267.1; obtain ⟨hcz26_0, hcz26_1⟩ := cz2 BK267; obtain ⟨hfz26_0, hfz26_1⟩ := fz2 BK267; obtain ⟨Ao27, co27, eo27⟩ := S_slice HO262.1; subst eo27; have hnb28 := NB268_256.1; have hnc28 := NB256_268.1; obtain ⟨hcz29_0, hcz29_1, hcz29_2, hcz29_3⟩ := cz BK268; obtain ⟨hfz29_0, hfz29_1, hfz29_2, hfz29_3⟩ := fz BK268))
 have n0_ : Az (Kd.R Kd.string 9 ((((((w22.setCell ⟨gb267, 0, none⟩ (.slice Ao23 t257.length co23)).setCell ⟨gb267, 1, none⟩ (.slice Ao27 t260.length co27)).setCell ⟨gb268, 0, none⟩ (.int .i64 t263)).setCell ⟨gb268, 1, none⟩ (.string t264)).setCell ⟨gb268, 2, none⟩ (.int .i64 t265)).setCell ⟨gb268, 3, none⟩ (.int .i64 t266)) w.heap.size (fun _ => True) (.slice Ao23 t257.length co23) t257) := ⟨rz (R_mono (R_far (p := ⟨gb268, 3, none⟩) (R_far (p := ⟨gb268, 2, none⟩) (R_far (p := ⟨gb268, 1, none⟩) (R_far (p := ⟨gb268, 0, none⟩) (R_far (p := ⟨gb267, 1, none⟩) (R_far (p := ⟨gb267, 0, none⟩) (R_types (R_types HO259.1 BK267.1 (by decide)) BK268.1 (by decide)) (fun _ hk => hk.1.2) (.slice Ao23 t257.length co23)) (fun _ hk => hk.1.2) (.slice Ao27 t260.length co27)) (fun _ hk => hk.2) (.int .i64 t263)) (fun _ hk => hk.2) (.string t264)) (fun _ hk => hk.2) (.int .i64 t265)) (fun _ hk => hk.2) (.int .i64 t266)) (fun _ hk => trivial))⟩
 have n1_ : Az (Kd.S (Kd.slice 3 (Kd.int .i64)) 55 ((((((w22.setCell ⟨gb267, 0, none⟩ (.slice Ao23 t257.length co23)).setCell ⟨gb267, 1, none⟩ (.slice Ao27 t260.length co27)).setCell ⟨gb268, 0, none⟩ (.int .i64 t263)).setCell ⟨gb268, 1, none⟩ (.string t264)).setCell ⟨gb268, 2, none⟩ (.int .i64 t265)).setCell ⟨gb268, 3, none⟩ (.int .i64 t266)) w.heap.size (fun _ => True) (.slice Ao27 t260.length co27) t260) := ⟨sz (S_mono (S_far (p := ⟨gb268, 3, none⟩) (S_far (p := ⟨gb268, 2, none⟩) (S_far (p := ⟨gb268, 1, none⟩) (S_far (p := ⟨gb268, 0, none⟩) (S_far (p := ⟨gb267, 1, none⟩) (S_far (p := ⟨gb267, 0, none⟩) (S_types (S_types HO262.1 BK267.1 (by decide)) BK268.1 (by decide)) (fun _ hk => hk.1.2) (.slice Ao23 t257.length co23)) (fun _ hk => hk.1.2) (.slice Ao27 t260.length co27)) (fun _ hk => hk.2) (.int .i64 t263)) (fun _ hk => hk.2) (.string t264)) (fun _ hk => hk.2) (.int .i64 t265)) (fun _ hk => hk.2) (.int .i64 t266)) (fun _ hk => trivial))⟩
 have n2_ : Az (((((((w22.setCell ⟨gb267, 0, none⟩ (.slice Ao23 t257.length co23)).setCell ⟨gb267, 1, none⟩ (.slice Ao27 t260.length co27)).setCell ⟨gb268, 0, none⟩ (.int .i64 t263)).setCell ⟨gb268, 1, none⟩ (.string t264)).setCell ⟨gb268, 2, none⟩ (.int .i64 t265)).setCell ⟨gb268, 3, none⟩ (.int .i64 t266)).heap[gb256]? = some (.cells #[.int .i64 0, .string (⟨#[]⟩ : ByteArray), .int .i64 0, .int .i64 0] 28 (0, 0))) := ⟨kf BK256⟩
 have n3_ : Az (((((((w22.setCell ⟨gb267, 0, none⟩ (.slice Ao23 t257.length co23)).setCell ⟨gb267, 1, none⟩ (.slice Ao27 t260.length co27)).setCell ⟨gb268, 0, none⟩ (.int .i64 t263)).setCell ⟨gb268, 1, none⟩ (.string t264)).setCell ⟨gb268, 2, none⟩ (.int .i64 t265)).setCell ⟨gb268, 3, none⟩ (.int .i64 t266)).heap[gb267]? = some (.cells #[.slice Ao23 t257.length co23, .slice Ao27 t260.length co27] 51 (0, 0))) := ⟨kf BK267⟩
 have n4_ : Az (((((((w22.setCell ⟨gb267, 0, none⟩ (.slice Ao23 t257.length co23)).setCell ⟨gb267, 1, none⟩ (.slice Ao27 t260.length co27)).setCell ⟨gb268, 0, none⟩ (.int .i64 t263)).setCell ⟨gb268, 1, none⟩ (.string t264)).setCell ⟨gb268, 2, none⟩ (.int .i64 t265)).setCell ⟨gb268, 3, none⟩ (.int .i64 t266)).heap[gb268]? = some (.cells #[.int .i64 t263, .string t264, .int .i64 t265, .int .i64 t266] 28 (0, 0))) := ⟨kf BK268⟩
 have n5_ : Az (Below w.heap.size w ((((((w22.setCell ⟨gb267, 0, none⟩ (.slice Ao23 t257.length co23)).setCell ⟨gb267, 1, none⟩ (.slice Ao27 t260.length co27)).setCell ⟨gb268, 0, none⟩ (.int .i64 t263)).setCell ⟨gb268, 1, none⟩ (.string t264)).setCell ⟨gb268, 2, none⟩ (.int .i64 t265)).setCell ⟨gb268, 3, none⟩ (.int .i64 t266))) := ⟨hh HB⟩
 (clear HO259)
 (clear HO262)
 (clear BK256)
 (clear BK267)
 (clear BK268)
 (clear HB)
 generalize ((((((w22.setCell ⟨gb267, 0, none⟩ (.slice Ao23 t257.length co23)).setCell ⟨gb267, 1, none⟩ (.slice Ao27 t260.length co27)).setCell ⟨gb268, 0, none⟩ (.int .i64 t263)).setCell ⟨gb268, 1, none⟩ (.string t264)).setCell ⟨gb268, 2, none⟩ (.int .i64 t265)).setCell ⟨gb268, 3, none⟩ (.int .i64 t266)) = w30 at n0_ n1_ n2_ n3_ n4_ n5_ ⊢
 have HO259 := n0_
 have HO262 := n1_
 have BK256 := n2_
 have BK267 := n3_
 have BK268 := n4_
 have HB := n5_
 clear n0_ n1_ n2_ n3_ n4_ n5_
 replace HO259 := aM (R_drew HO259.1)
 replace HO262 := aM (S_drew HO262.1)
 replace BK256 := aM (blk_drew BK256.1)
 replace BK267 := aM (blk_drew BK267.1)
 replace BK268 := aM (blk_drew BK268.1)
 replace HB := aM (below_drew1 HB.1)
 refine start_ (n := 3) (S := fun w' => w'.cell? ⟨gb268, 0, none⟩ = some (.int .i64 t263) /\ w'.cell? ⟨gb268, 1, none⟩ = some (.string t264) /\ w'.cell? ⟨gb268, 2, none⟩ = some (.int .i64 t265) /\ w'.cell? ⟨gb268, 3, none⟩ = some (.int .i64 t266)) (ds := []) #[F_, F_, F_] (by kernel_rfl) rfl rfl ⟨(blk_cell BK268.1 0).trans rfl, (blk_cell BK268.1 1).trans rfl, (blk_cell BK268.1 2).trans rfl, (blk_cell BK268.1 3).trans rfl⟩ (fun hHeld => ?_)
 generalize w30.drew = w31 at HO259 HO262 BK256 BK267 BK268 HB hHeld ⊢
 refine pure_ (i := 1) (N := some 4) (v := ?_) (a' := ?_) #[F_, T_, F_] rfl rfl (by kernel_rfl) (fun _ _ _ h => h) (Or.inl ⟨by rfl, ?_⟩) ?_ ?_
 rotate_left
 · intro w'
   go_simp
   with_reducible rfl
 rotate_left
 · simp only [Act.put, sA, sZ, sS, i64_w, i32_w]
   rfl
 refine take_ (i := 0) (N := some 16) (v := ?_) (a' := ?_) #[T_, T_, F_] rfl rfl (by kernel_rfl) (fun _ _ _ h => h) (Or.inl ⟨by rfl, ?_⟩) hHeld ?_ ?_
 rotate_left
 · rintro w' ⟨s0, s1, s2, s3⟩
   go_simp
   with_reducible rfl
 rotate_left
 · simp only [Act.put, sA, sZ, sS, i64_w, i32_w]
   rfl
 refine one_ (i := 2) (N := none) #[T_, T_, T_] rfl rfl (by kernel_rfl) (by decide) (fun K hK => ?_)
 have hs32 : w31.cell? ⟨gb256, 0, none⟩ = some (.int .i64 0) := (blk_cell BK256.1 0).trans rfl
 have hfs32 := blk_frozen BK256.1 0
 have hns32_1 := NB267_256.1
 have hns32_2 := NB268_256.1
 have hms32_1 := NB256_267.1
 have hms32_2 := NB256_268.1
 have hs33 : w31.cell? ⟨gb256, 1, none⟩ = some (.string (⟨#[]⟩ : ByteArray)) := (blk_cell BK256.1 1).trans rfl
 have hfs33 := blk_frozen BK256.1 1
 have hns33_1 := NB267_256.1
 have hns33_2 := NB268_256.1
 have hms33_1 := NB256_267.1
 have hms33_2 := NB256_268.1
 have hs34 : w31.cell? ⟨gb256, 2, none⟩ = some (.int .i64 0) := (blk_cell BK256.1 2).trans rfl
 have hfs34 := blk_frozen BK256.1 2
 have hns34_1 := NB267_256.1
 have hns34_2 := NB268_256.1
 have hms34_1 := NB256_267.1
 have hms34_2 := NB256_268.1
 have hs35 : w31.cell? ⟨gb256, 3, none⟩ = some (.int .i64 0) := (blk_cell BK256.1 3).trans rfl
 have hfs35 := blk_frozen BK256.1 3
 have hns35_1 := NB267_256.1
 have hns35_2 := NB268_256.1
 have hms35_1 := NB256_267.1
 have hms35_2 := NB256_268.1
 refine skip_ (w1 := ?_) (by rfl) rfl ?_ ?_
 rotate_left
 · go_simp
   rfl
 refine hK.out _ _ ⟨((cell_far (p := ⟨gb256, _, none⟩) NB268_256.1 _).trans (((cell_far (p := ⟨gb256, _, none⟩) NB268_256.1 _).trans (((cell_far (p := ⟨gb256, _, none⟩) NB268_256.1 _).trans (((cell_far (p := ⟨gb256, _, none⟩) NB268_256.1 _).trans (hHeld.1)))))))), ((cell_far (p := ⟨gb256, _, none⟩) NB268_256.1 _).trans (((cell_far (p := ⟨gb256, _, none⟩) NB268_256.1 _).trans (((cell_far (p := ⟨gb256, _, none⟩) NB268_256.1 _).trans (((cell_far (p := ⟨gb256, _, none⟩) NB268_256.1 _).trans (hHeld.2.1)))))))), ((cell_far (p := ⟨gb256, _, none⟩) NB268_256.1 _).trans (((cell_far (p := ⟨gb256, _, none⟩) NB268_256.1 _).trans (((cell_far (p := ⟨gb256, _, none⟩) NB268_256.1 _).trans (((cell_far (p := ⟨gb256, _, none⟩) NB268_256.1 _).trans (hHeld.2.2.1)))))))), ((cell_far (p := ⟨gb256, _, none⟩) NB268_256.1 _).trans (((cell_far (p := ⟨gb256, _, none⟩) NB268_256.1 _).trans (((cell_far (p := ⟨gb256, _, none⟩) NB268_256.1 _).trans (((cell_far (p := ⟨gb256, _, none⟩) NB268_256.1 _).trans (hHeld.2.2.2))))))))⟩ (fun hHeld => ?_)
 clear hK K
 refine done_ (by kernel_rfl) ?_
 try go_wp2
 refine bodyPost_ret (results_tc rfl _ _ gb256 28 #[.int .i64 t263, .string t264, .int .i64 t265, .int .i64 t266] (0, 0) _ rfl (kf BK256) Try.underlying28 rfl (by kernel_rfl)) rfl ?_
 exact ⟨_, by first | rfl | (simp [errW_none, errW_some] <;> rfl) | (simp [*, errW_none, errW_some] <;> rfl), by first | exact R_nil _ _ _ _ _ | exact N_nil _ _ _ _ _ | exact V_nil _ _ _ _ _ | exact Q_nil _ _ _ _ _ | exact S_nil _ _ _ _ _, hh HB⟩
end Go.Proofs.Ytmadhaccjmakdaa.P
namespace Go.Proofs.Ytmadhaccjmakdaa
open Go.Shelf Go.Lib Go.RowKit Go.Maps Go.Sort Go.Proofs.Yw.A Go.Proofs.Yw.B Go.Proofs.Yw.C
attribute [local go_sem] max2_int min2_int max_two min_two max_three min_three max_four min_four
open P Mg Od Tj
namespace Mg
def addAll (U : List (List Int)) (v : Int) : List Int -> List (List Int)
  | [] => U
  | x :: l => addAll (U.set x.toNat (U.getD x.toNat [] ++ [v])) v l
def backL (U : List (List Int)) (v : Int) : List (List Int) -> List (List Int)
  | [] => U
  | l :: ls => backL (addAll U v l) (v + 1) ls
def okB (n : Nat) (es : List (List Int)) : Prop := n <= 100 /\ es.length <= 100 /\ ∀ r ∈ es, r.length <= 1000 /\ ∀ x ∈ r, 0 <= x /\ x < (n : Int)
end Mg
namespace P
open Classical in
noncomputable def m_Users.f (l0 : List S42) (s : ByteArray) : Option (List ByteArray × Int × ByteArray × Int × Int) :=
  (Od.lim fun k => m_acyclic.f k l0).bind fun bt =>
    if bt.2.2.1 = 0 then (if okB bt.1.length bt.2.1 then m_reached.f bt.1 bt.2.1 (backL (List.replicate bt.1.length []) 0 bt.2.1) s else none)
    else some ([], bt.2.2.1, bt.2.2.2.1, bt.2.2.2.2.1, bt.2.2.2.2.2)
end P
namespace Mg
def fst4 (w : World) (g : Nat) (c : Int) (x : ByteArray) (a b : Int) : World := (((w.setCell ⟨g, 0, none⟩ (.int .i64 c)).setCell ⟨g, 1, none⟩ (.string x)).setCell ⟨g, 2, none⟩ (.int .i64 a)).setCell ⟨g, 3, none⟩ (.int .i64 b)
theorem info55m2 : (Try.prog.info? 55).map (fun i => (i.zero, i.size, i.bytes)) = some (some (.slice none 0 0), 1, 24) := by kernel_rfl
theorem fst4_f {w : World} {g : Nat} (h : w.heap[g]? = some (Obj.cells #[Value.int .i64 0, Value.string ⟨#[]⟩, Value.int .i64 0, Value.int .i64 0] 28 (0, 0))) (c : Int) (x : ByteArray) (a b : Int) : (fst4 w g c x a b).heap[g]? = some (Obj.cells #[.int .i64 c, .string x, .int .i64 a, .int .i64 b] 28 (0, 0)) :=
  blk_put (blk_put (blk_put (blk_put h 0 _ rfl) 1 _ rfl) 2 _ rfl) 3 _ rfl
theorem fst4_below {w W : World} {B g : Nat} (h : Below B w W) (hg : B <= g) (c : Int) (x : ByteArray) (a b : Int) : Below B w (fst4 W g c x a b) := by
  unfold fst4
  exact (((h.setCell hg _).setCell hg _).setCell hg _).setCell hg _
theorem fst4_heap (w : World) (g : Nat) (c : Int) (x : ByteArray) (a b : Int) (k : Nat) (h : k ≠ g) : (fst4 w g c x a b).heap[k]? = w.heap[k]? := by
  unfold fst4
  rw [Below.heap_setCell _ _ _ k h, Below.heap_setCell _ _ _ k h, Below.heap_setCell _ _ _ k h, Below.heap_setCell _ _ _ k h]
theorem Users_fault (k : Nat) (A0 : Option Addr) (c0 : Nat) (l0 : List S42) (s : ByteArray) (w : World) (hr0 : Kd.C k42 w A0 l0.length l0) (hc0 : l0.length <= c0)
    (t1 : List ByteArray) (t2 : List (List Int)) (t3 : Int) (t4 : ByteArray) (t5 t6 : Int) (hA : m_acyclic.f k l0 = some (t1, t2, t3, t4, t5, t6)) (h3 : t3 ≠ 0) :
    Calls Try.prog 17 #[.slice A0 l0.length c0, .string s] w fun e w' => ∃ v0_ : Value, e = .returned (.tuple #[v0_, .agg #[.int .i64 t3, .string t4, .int .i64 t5, .int .i64 t6]]) /\ Kd.R Kd.string 9 w' w.heap.size (fun _ => True) v0_ [] /\ Below w.heap.size w w' := by
  have hu51 := Try.underlying51
  have hu49 := Try.underlying49
  have hu28 := Try.underlying28
  have q1 : (t3 == 0) = false := beq_eq_false_iff_ne.mpr h3
  have q2 : (t3 != 0) = true := bne_iff_ne.mpr h3
  have HR0 := Az.mk hr0
  have HC0 := Az.mk hc0
  have HA := Az.mk hA
  clear hr0 hc0 hA h3
  go_enter Try.func17, Try.ntmps17
  go_upto_region 3 with (first | (go_at_call 24; (refine (m_acyclic.calls k _ _ l0 t1 t2 t3 t4 t5 t6 _ ?s1 HC0.1 HA.1).mono ?_); (case s1 => repeat (first | exact HR0.1 | (with_reducible refine Kd.C_alloc ?_ _) | (with_reducible refine Kd.C_drewN ?_ _) | (with_reducible refine Kd.C_drew ?_))); rintro e w5 ⟨v0, v1, rfl, hn, he, hb⟩; obtain ⟨An, cn, rfl⟩ := Kd.R_slice hn; obtain ⟨Ae, ce, rfl⟩ := Kd.S_slice he; have HN := Az.mk hn; have HE := Az.mk he; have HB := Az.mk hb; clear hn he hb))
  have b0 := (MapKept.heap_alloc w (Obj.cells #[Value.int .i64 0, Value.string ⟨#[]⟩, Value.int .i64 0, Value.int .i64 0] 28)).1
  have hb0 := below_alloc (Below.refl w.heap.size w) (Obj.cells #[Value.int .i64 0, Value.string ⟨#[]⟩, Value.int .i64 0, Value.int .i64 0] 28)
  have b5 := blk_below b0 HB.1
  have hb5 : Below w.heap.size w w5 := hb0.trans (HB.1.mono hb0.size)
  have f0 := blk_alloc (blk_alloc b5 (Obj.cells #[Value.slice An t1.length cn, Value.slice Ae t2.length ce] 51)) (Obj.cells #[Value.int .i64 t3, Value.string t4, Value.int .i64 t5, Value.int .i64 t6] 28)
  have f2 := (MapKept.heap_alloc (w5.alloc (Obj.cells #[Value.slice An t1.length cn, Value.slice Ae t2.length ce] 51)) (Obj.cells #[Value.int .i64 t3, Value.string t4, Value.int .i64 t5, Value.int .i64 t6] 28)).1
  have z1 : (w5.alloc (Obj.cells #[Value.slice An t1.length cn, Value.slice Ae t2.length ce] 51)).heap.size = w5.heap.size + 1 := by simp
  rw [z1] at f2
  have hb7 := below_alloc (below_alloc hb5 (Obj.cells #[Value.slice An t1.length cn, Value.slice Ae t2.length ce] 51)) (Obj.cells #[Value.int .i64 t3, Value.string t4, Value.int .i64 t5, Value.int .i64 t6] 28)
  generalize (w5.alloc (Obj.cells #[Value.slice An t1.length cn, Value.slice Ae t2.length ce] 51)).alloc (Obj.cells #[Value.int .i64 t3, Value.string t4, Value.int .i64 t5, Value.int .i64 t6] 28) = w7 at *
  have F0 := Az.mk f0
  have HB7 := Az.mk hb7
  have hlt := blk_lt b5
  have hne : w5.heap.size + 1 ≠ w.heap.size := by omega
  have x0 := blk_cell f2 0
  have x1 := blk_cell f2 1
  have x2 := blk_cell f2 2
  have x3 := blk_cell f2 3
  have y0 := blk_cell f0 0
  have y1 := blk_cell f0 1
  have y2 := blk_cell f0 2
  have y3 := blk_cell f0 3
  have e0 := blk_frozen f0 0
  have e1 := blk_frozen f0 1
  have e2 := blk_frozen f0 2
  have e3 := blk_frozen f0 3
  clear b0 hb0 b5 hb5 f0 f2 z1 hb7 hlt hne q1 q2
  go_region
  all_goals go_wp2
  all_goals
    refine bodyPost_ret (results_tc rfl _ _ w.heap.size 28 #[.int .i64 t3, .string t4, .int .i64 t5, .int .i64 t6] (0, 0) _ rfl (by first | exact fst4_f F0.1 t3 t4 t5 t6 | exact blk_drew (fst4_f F0.1 t3 t4 t5 t6) | exact fst4_f (blk_drew F0.1) t3 t4 t5 t6) Try.underlying28 rfl hi28) rfl ?_
    exact ⟨_, rfl, Kd.R_nil _ _ _ _ _, by first | exact fst4_below HB7.1 (Nat.le_refl _) t3 t4 t5 t6 | exact below_drew (fst4_below HB7.1 (Nat.le_refl _) t3 t4 t5 t6) | exact fst4_below (below_drew HB7.1) (Nat.le_refl _) t3 t4 t5 t6⟩
theorem Users_walk (k : Nat) (A0 : Option Addr) (c0 : Nat) (l0 : List S42) (s : ByteArray) (w : World) (hr0 : Kd.C k42 w A0 l0.length l0) (hc0 : l0.length <= c0)
    (t1 : List ByteArray) (t2 : List (List Int)) (t4 : ByteArray) (t5 t6 : Int) (hA : m_acyclic.f k l0 = some (t1, t2, 0, t4, t5, t6)) (hok : okB t1.length t2)
    (r1 : List ByteArray) (r2 : Int) (r3 : ByteArray) (r4 r5 : Int) (hRe : m_reached.f t1 t2 (backL (List.replicate t1.length []) 0 t2) s = some (r1, r2, r3, r4, r5)) :
    Calls Try.prog 17 #[.slice A0 l0.length c0, .string s] w fun e w' => ∃ v0_ : Value, e = .returned (.tuple #[v0_, .agg #[.int .i64 r2, .string r3, .int .i64 r4, .int .i64 r5]]) /\ Kd.R Kd.string 9 w' w.heap.size (fun _ => True) v0_ r1 /\ Below w.heap.size w w' := by
  have hu51 := Try.underlying51
  have hu49 := Try.underlying49
  have hu28 := Try.underlying28
  have HR0 := Az.mk hr0
  have HC0 := Az.mk hc0
  have HA := Az.mk hA
  have HOK := Az.mk hok
  have HRE := Az.mk hRe
  clear hr0 hc0 hA hok hRe
  go_enter Try.func17, Try.ntmps17
  go_upto_region 4 with (first | (go_at_call 24; (refine (m_acyclic.calls k _ _ l0 t1 t2 0 t4 t5 t6 _ ?s1 HC0.1 HA.1).mono ?_); (case s1 => repeat (first | exact HR0.1 | (with_reducible refine Kd.C_alloc ?_ _) | (with_reducible refine Kd.C_drewN ?_ _) | (with_reducible refine Kd.C_drew ?_))); rintro e w5 ⟨v0, v1, rfl, hn, he, hb⟩; obtain ⟨An, cn, rfl⟩ := Kd.R_slice hn; obtain ⟨Ae, ce, rfl⟩ := Kd.S_slice he; have HN := Az.mk hn; have HE := Az.mk he; have HB := Az.mk hb; clear hn he hb))
  have b0 := (MapKept.heap_alloc w (Obj.cells #[Value.int .i64 0, Value.string ⟨#[]⟩, Value.int .i64 0, Value.int .i64 0] 28)).1
  have hb0 := below_alloc (Below.refl w.heap.size w) (Obj.cells #[Value.int .i64 0, Value.string ⟨#[]⟩, Value.int .i64 0, Value.int .i64 0] 28)
  have hz0 : (w.alloc (Obj.cells #[Value.int .i64 0, Value.string ⟨#[]⟩, Value.int .i64 0, Value.int .i64 0] 28)).heap.size = w.heap.size + 1 := by simp
  have b5 := blk_below b0 HB.1
  have hb5 : Below w.heap.size w w5 := hb0.trans (HB.1.mono hb0.size)
  have hs5 := HB.1.size
  have f0 := blk_alloc (blk_alloc b5 (Obj.cells #[Value.slice An t1.length cn, Value.slice Ae t2.length ce] 51)) (Obj.cells #[Value.int .i64 0, Value.string t4, Value.int .i64 t5, Value.int .i64 t6] 28)
  have f1 := blk_alloc (MapKept.heap_alloc w5 (Obj.cells #[Value.slice An t1.length cn, Value.slice Ae t2.length ce] 51)).1 (Obj.cells #[Value.int .i64 0, Value.string t4, Value.int .i64 t5, Value.int .i64 t6] 28)
  have hb57 := below_alloc (below_alloc (Below.refl w5.heap.size w5) (Obj.cells #[Value.slice An t1.length cn, Value.slice Ae t2.length ce] 51)) (Obj.cells #[Value.int .i64 0, Value.string t4, Value.int .i64 t5, Value.int .i64 t6] 28)
  have hs7 : ((w5.alloc (Obj.cells #[Value.slice An t1.length cn, Value.slice Ae t2.length ce] 51)).alloc (Obj.cells #[Value.int .i64 0, Value.string t4, Value.int .i64 t5, Value.int .i64 t6] 28)).heap.size = w5.heap.size + 1 + 1 := by simp
  generalize (w5.alloc (Obj.cells #[Value.slice An t1.length cn, Value.slice Ae t2.length ce] 51)).alloc (Obj.cells #[Value.int .i64 0, Value.string t4, Value.int .i64 t5, Value.int .i64 t6] 28) = w7 at *
  have F0 := Az.mk f0
  have F1 := Az.mk f1
  have HB5 := Az.mk hb5
  have HB57 := Az.mk hb57
  have HS7 := Az.mk hs7
  have HS5 := Az.mk (show w.heap.size + 1 <= w5.heap.size by omega)
  have HN7 := Az.mk (Kd.R_below HN.1 hb57)
  have HE7 := Az.mk (Kd.S_below HE.1 hb57)
  have x0 := blk_cell f1 0
  clear b0 hb0 hz0 b5 hb5 hs5 f0 f1 hb57 hs7
  have hn100 : t1.length <= 100 := HOK.1.1
  obtain ⟨i0, e0, e1, e2, e3⟩ := info_parts info55m2
  have hmk := run_make w7 47 55 i0 _ Try.underlying47 e0 e1 .i64 .i64 t1.length t1.length (by omega) (by omega) (by rw [e3]; omega) (by omega)
  rw [e2, Nat.mul_one] at hmk
  have hz0 : (Value.slice none 0 0).cells = #[.slice none 0 0] := rfl
  rw [hz0] at hmk
  clear e0 e1 e2 e3 hz0
  go_upto_region 5 with fail
  have m1 := (MapKept.heap_alloc w7 (Obj.cells (madeCells #[Value.slice none 0 0] t1.length) 55)).1
  have hm1 := below_alloc (Below.refl w7.heap.size w7) (Obj.cells (madeCells #[Value.slice none 0 0] t1.length) 55)
  have hm2 := below_alloc hm1 (Obj.cells #[Value.slice (some ⟨w7.heap.size, 0, none⟩) t1.length t1.length] 49)
  have hS := S_made (base := w7.heap.size) (ok := fun k => w7.heap.size <= k /\ k ≠ w7.heap.size + 1) m1 (Nat.le_refl _) (by unfold maxLen; omega) ⟨Nat.le_refl _, by omega⟩
  have hS9 := Kd.S_alloc hS (Obj.cells #[Value.slice (some ⟨w7.heap.size, 0, none⟩) t1.length t1.length] 49)
  have m2 := (MapKept.heap_alloc (w7.alloc (Obj.cells (madeCells #[Value.slice none 0 0] t1.length) 55)) (Obj.cells #[Value.slice (some ⟨w7.heap.size, 0, none⟩) t1.length t1.length] 49)).1
  have hz8 : (w7.alloc (Obj.cells (madeCells #[Value.slice none 0 0] t1.length) 55)).heap.size = w7.heap.size + 1 := by simp
  have hz9 : ((w7.alloc (Obj.cells (madeCells #[Value.slice none 0 0] t1.length) 55)).alloc (Obj.cells #[Value.slice (some ⟨w7.heap.size, 0, none⟩) t1.length t1.length] 49)).heap.size = w7.heap.size + 1 + 1 := by simp
  rw [hz8] at m2
  generalize (w7.alloc (Obj.cells (madeCells #[Value.slice none 0 0] t1.length) 55)).alloc (Obj.cells #[Value.slice (some ⟨w7.heap.size, 0, none⟩) t1.length t1.length] 49) = w9 at *
  obtain ⟨go, hgo⟩ : ∃ go, go = w7.heap.size := ⟨_, rfl⟩
  rw [<- hgo] at hS9 m2 hm2 hz9 ⊢
  have HGO := Az.mk hgo
  have HS9 := Az.mk hS9
  have HM2 := Az.mk m2
  have HB9 := Az.mk hm2
  have HZ9 := Az.mk hz9
  have x1 := blk_cell (blk_below F1.1 (by rw [<- hgo]; exact hm2)) 1
  clear m1 hm1 hm2 hS hS9 m2 hz8 hz9 hgo hmk x0 hn100
  go_wp2
  clear x1
  obtain ⟨BK, hBK⟩ : ∃ BK, backL (List.replicate t1.length []) 0 t2 = BK := ⟨_, rfl⟩
  have HBK := Az.mk hBK
  clear hBK
  go_loopg [31] t2.length (fun kq v31 w' => ∃ (x : Int) (U : List (List Int)), v31 = .int .i64 x /\ Az (0 <= x /\ x.toNat + kq = t2.length) /\ Az (U.length = t1.length /\ backL U x (t2.drop x.toNat) = BK /\ (∀ r ∈ U, r.length <= x.toNat * 1000) /\ Kd.S KS 55 w' go (fun k => go <= k /\ k ≠ go + 1) (.slice (some ⟨go, 0, none⟩) t1.length t1.length) U /\ w'.heap[go + 1]? = some (Obj.cells #[Value.slice (some ⟨go, 0, none⟩) t1.length t1.length] 49) /\ Below go w7 w'))
  case atStart => exact ⟨0, _, rfl, ⟨by decide, by simp⟩, ⟨List.length_replicate .., by simpa using HBK.1, fun r hr => by rw [List.eq_of_mem_replicate hr]; simp, HS9.1, HM2.1, HB9.1⟩⟩
  case round =>
    obtain ⟨x, U, rfl, hk, hI⟩ := hrel
    clear HS9 HM2 HB9
    have hk0 := hk.1.1
    by_cases hx : x < (t2.length : Int)
    · have q3 : decide (x < (t2.length : Int)) = true := decide_eq_true hx
      have HX := Az.mk hx
      have hbw : Below w7.heap.size w7 wr := by rw [<- HGO.1]; exact hI.1.2.2.2.2.2
      obtain ⟨hl1, hc1, hC1⟩ := Kd.S_reads' HE7.1
      obtain ⟨ad, A3, c3, rfl, g0, g1, g2⟩ := at_L11 hC1 x hk0 hx
      replace g0 := (hbw.cell (World.block_lt_of_cell? _ _ g0)).trans g0
      have hrm : rd_L11 t2 x ∈ t2 := by
        have hi : x.toNat < t2.length := by omega
        have : rd_L11 t2 x = t2[x.toNat] := by simp [rd_L11, List.getD_eq_getElem?_getD, List.getElem?_eq_getElem hi]
        rw [this]; exact List.getElem_mem hi
      have hrb := HOK.1.2.2 _ hrm
      have hdr : t2.drop x.toNat = rd_L11 t2 x :: t2.drop (x.toNat + 1) := by
        have hi : x.toNat < t2.length := by omega
        rw [List.drop_eq_getElem_cons hi]
        simp [rd_L11, List.getD_eq_getElem?_getD, List.getElem?_eq_getElem hi]
      have hbk := hI.1.2.1
      rw [hdr] at hbk
      generalize rd_L11 t2 x = rw1 at *
      have p1 := eq_true hk0
      have p2 : (x < (t2.length : Int)) = True := eq_true hx
      have HRB := Az.mk hrb
      have HBK1 : Az (backL (addAll U x rw1) (x + 1) (t2.drop (x.toNat + 1)) = BK) := ⟨hbk⟩
      have H2 := Az.mk g2
      have hxr : wrap64 x = x := by unfold wrap64; have := HOK.1.2.1; omega
      obtain ⟨gk1, rfl⟩ : ∃ g, g = gk := ⟨_, rfl⟩
      clear hl1 hc1 hC1 hrm hrb hdr hbk g1 g2 hx hk0 hbw
      go_wp2
      clear g0
      obtain ⟨wo, rfl⟩ : ∃ wo, wo = wr := ⟨_, rfl⟩
      go_loopg [38] rw1.length (fun kq v38 w' => ∃ (z : Int) (V : List (List Int)), v38 = .int .i64 z /\ Az (0 <= z /\ z.toNat + kq = rw1.length) /\ Az (V.length = t1.length /\ addAll V x (rw1.drop z.toNat) = addAll U x rw1 /\ (∀ r ∈ V, r.length <= x.toNat * 1000 + z.toNat) /\ Kd.S KS 55 w' go (fun k => go <= k /\ k ≠ go + 1) (.slice (some ⟨go, 0, none⟩) t1.length t1.length) V /\ w'.heap[go + 1]? = some (Obj.cells #[Value.slice (some ⟨go, 0, none⟩) t1.length t1.length] 49) /\ Below go w7 w'))
      case atStart => exact ⟨0, U, rfl, ⟨by decide, by simp⟩, ⟨hI.1.1, by simp, fun r hr => hI.1.2.2.1 r hr, hI.1.2.2.2.1, hI.1.2.2.2.2.1, hI.1.2.2.2.2.2⟩⟩
      case round =>
        obtain ⟨z, V, rfl, hk2, hJ⟩ := hrel
        have hk20 := hk2.1.1
        by_cases hz : z < (rw1.length : Int)
        · have q4 : decide (z < (rw1.length : Int)) = true := decide_eq_true hz
          have HZ := Az.mk hz
          have hbw2 : Below w7.heap.size w7 wr := by rw [<- HGO.1]; exact hJ.1.2.2.2.2.2
          obtain ⟨ad2, rfl, y0⟩ := Kd.at_int (Kd.C_below H2.1 hbw2) z hk20 hz
          have hdm : Go.Proofs.Yw.A.rd rw1 z ∈ rw1 := by
            have hi : z.toNat < rw1.length := by omega
            have : Go.Proofs.Yw.A.rd rw1 z = rw1[z.toNat] := by simp [Go.Proofs.Yw.A.rd, rdOf, List.getD_eq_getElem?_getD, List.getElem?_eq_getElem hi]
            rw [this]; exact List.getElem_mem hi
          obtain ⟨hd0, hd1⟩ := HRB.1.2 _ hdm
          have hdr : rw1.drop z.toNat = Go.Proofs.Yw.A.rd rw1 z :: rw1.drop (z.toNat + 1) := by
            have hi : z.toNat < rw1.length := by omega
            rw [List.drop_eq_getElem_cons hi]
            simp [Go.Proofs.Yw.A.rd, rdOf, List.getD_eq_getElem?_getD, List.getElem?_eq_getElem hi]
          have hadd := hJ.1.2.1
          rw [hdr] at hadd
          generalize Go.Proofs.Yw.A.rd rw1 z = d at *
          have HADD : Az (addAll (V.set d.toNat (V.getD d.toNat [] ++ [x])) x (rw1.drop (z.toNat + 1)) = addAll U x rw1) := ⟨hadd⟩
          have p3 := eq_true hk20
          have p4 : (z < (rw1.length : Int)) = True := eq_true hz
          clear hdm hdr hadd hz hk20 hbw2
          go_upto_region 11 with fail
          clear y0
          have hsz := blk_lt hJ.1.2.2.2.2.1
          obtain ⟨v0, oki, u1, u2, u3, u4, u5⟩ := S_upd (Kd.S_drew hJ.1.2.2.2.1) (fun k hk => by have : wr.drew.heap.size = wr.heap.size := rfl; rw [this] at hk; omega) d hd0 hd1
          have U3 := Az.mk (Kd.R_mono (ok' := fun k => oki k \/ wr.heap.size <= k) u3 (fun k hk => .inl hk))
          have U4 := Az.mk u4
          have U5 := Az.mk (@u5)
          have U6 := Az.mk u3
          have hrl : (row V d).length <= 101000 := by
            have h1 := HOK.1.2.1
            have h2 := hk.1
            have h3 := hk2.1
            have h4 := HRB.1.1
            have h5 := HX.1
            by_cases hi : d.toNat < V.length
            · have : row V d ∈ V := by unfold row; rw [List.getD_eq_getElem?_getD, List.getElem?_eq_getElem hi]; exact List.getElem_mem hi
              have h6 := hJ.1.2.2.1 _ this
              have h7 : x.toNat <= 100 := by omega
              have h8 : z.toNat <= 1000 := by omega
              omega
            · unfold row
              rw [List.getD_eq_getElem?_getD, List.getElem?_eq_none (by omega)]
              simp
          have HRL := Az.mk (show ((row V d).length + 1) * 8 <= 140737488355328 by omega)
          have c8 : wr.cell? ⟨go + 1, 0, none⟩ = some (Value.slice (some ⟨go, 0, none⟩) t1.length t1.length) := blk_cell hJ.1.2.2.2.2.1 0
          have w1' : wr.cell? ⟨go, d.toNat, none⟩ = some v0 := u1
          have c8d : (wr.alloc (Obj.cells #[Value.int .i64 x] 3)).cell? ⟨go + 1, 0, none⟩ = some (Value.slice (some ⟨go, 0, none⟩) t1.length t1.length) := ((below_alloc (Below.refl wr.heap.size wr) _).cell (World.block_lt_of_cell? _ _ c8)).trans c8
          have c8e : (wr.drew.alloc (Obj.cells #[Value.int .i64 x] 3)).cell? ⟨go + 1, 0, none⟩ = some (Value.slice (some ⟨go, 0, none⟩) t1.length t1.length) := ((below_alloc (below_drew (Below.refl wr.heap.size wr)) _).cell (World.block_lt_of_cell? _ _ c8)).trans c8
          have w1d : (wr.alloc (Obj.cells #[Value.int .i64 x] 3)).cell? ⟨go, d.toNat, none⟩ = some v0 := ((below_alloc (Below.refl wr.heap.size wr) _).cell (World.block_lt_of_cell? _ _ w1')).trans w1'
          have w1e : (wr.drew.alloc (Obj.cells #[Value.int .i64 x] 3)).cell? ⟨go, d.toNat, none⟩ = some v0 := ((below_alloc (below_drew (Below.refl wr.heap.size wr)) _).cell (World.block_lt_of_cell? _ _ w1')).trans w1'
          have hgb : wr.drew.heap[go + 1]? = some (Obj.cells #[Value.slice (some ⟨go, 0, none⟩) t1.length t1.length] 49) := hJ.1.2.2.2.2.1
          have HGB := Az.mk hgb
          have hgl : go <= wr.drew.heap.size := by have : wr.drew.heap.size = wr.heap.size := rfl; omega
          have hfr : ∀ k, wr.drew.heap.size <= k -> oki k \/ wr.heap.size <= k := fun k hk => .inr hk
          have HFR := Az.mk hfr
          have HGL := Az.mk hgl
          have U2 := Az.mk u2
          have p5 := eq_true hd0
          have p6 : (d < (t1.length : Int)) = True := eq_true hd1
          have HD0 := Az.mk (And.intro hd0 hd1)
          clear u1 u2 u3 u4 u5 hrl hgb hgl hfr hsz hd0 hd1
          have HSTEP : Az (∀ (w3 : World) (A2 : Option Addr) (cr : Nat), wr.drew.grownBy w3 v0.ownBlock -> Kd.R (Kd.int .i64) 3 w3 go (fun k => oki k \/ wr.heap.size <= k) (.slice A2 (row V d ++ [x]).length cr) (row V d ++ [x]) -> w3.heap[go + 1]? = some (Obj.cells #[Value.slice (some ⟨go, 0, none⟩) t1.length t1.length] 49) ->
              (V.set d.toNat (row V d ++ [x])).length = t1.length /\ (∀ r ∈ V.set d.toNat (row V d ++ [x]), r.length <= x.toNat * 1000 + (z.toNat + 1)) /\ Kd.S KS 55 (w3.setCell ⟨go, d.toNat, none⟩ (.slice A2 ((row V d).length + 1) cr)) go (fun k => go <= k /\ k ≠ go + 1) (.slice (some ⟨go, 0, none⟩) t1.length t1.length) (V.set d.toNat (row V d ++ [x])) /\ (w3.setCell ⟨go, d.toNat, none⟩ (.slice A2 ((row V d).length + 1) cr)).heap[go + 1]? = some (Obj.cells #[Value.slice (some ⟨go, 0, none⟩) t1.length t1.length] 49) /\ Below go w7 (w3.setCell ⟨go, d.toNat, none⟩ (.slice A2 ((row V d).length + 1) cr))) := ⟨by
            intro w3 A2 cr hg hr hb
            have hS := U5.1 w3 _ _ hg hr
            have e9 : (row V d ++ [x]).length = (row V d).length + 1 := by simp
            rw [e9] at hS
            refine ⟨by rw [List.length_set]; exact hJ.1.1, fun r hr2 => ?_, hS.1, blk_grown hb hS.2 (by intro e; injection e with e; omega), ?_⟩
            · rcases List.mem_or_eq_of_mem_set hr2 with h | h
              · have := hJ.1.2.2.1 r h; omega
              · subst h
                rw [e9]
                by_cases hi : d.toNat < V.length
                · have hm : row V d ∈ V := by unfold row; rw [List.getD_eq_getElem?_getD, List.getElem?_eq_getElem hi]; exact List.getElem_mem hi
                  have := hJ.1.2.2.1 _ hm
                  omega
                · have : row V d = [] := by unfold row; rw [List.getD_eq_getElem?_getD, List.getElem?_eq_none (by omega)]; rfl
                  rw [this, List.length_nil]; omega
            · exact ((below_drew hJ.1.2.2.2.2.2).grown hg HGL.1 (fun k hk => (U4.1 k (U6.1.1 k hk)).1.1)).setCell (Nat.le_refl _) _⟩
          go_region_law ((refine Kd.R_append_step (Kd.int .i64) (w0 := wr.drew) (W := wr.drew) go rfl (.tmp 49) (.tmp 51) 55 3 (.int .i64 0) 8 rfl Try.underlying55 info3 rfl (by decide) (by decide) v0 (row V d) x [.int .i64 x] (fun k => oki k \/ wr.heap.size <= k) (fun _ => False) rfl rfl rfl (fun _ hk => hk.elim) HFR.1 U3.1 (Below.refl _ _) HGL.1 HRL.1 ?_); intro v1 w3 ho hb1 hg hat; obtain ⟨A2, cr, rfl⟩ := Kd.R_slice ho; have hnm : some (go + 1) ≠ v0.ownBlock := (fun e => (U4.1 (go + 1) (U6.1.1 _ e.symm)).1.2 rfl); have hng : some go ≠ v0.ownBlock := (fun e => (U4.1 go (U6.1.1 _ e.symm)).2 rfl); have hgs : go < wr.drew.heap.size := (by have := blk_lt HGB.1; omega); have k1 : w3.cell? ⟨go + 1, 0, none⟩ = some (Value.slice (some ⟨go, 0, none⟩) t1.length t1.length) := blk_cell (blk_grown HGB.1 hg hnm) 0; have k2 : w3.cell? ⟨go, d.toNat, none⟩ = some v0 := (World.cell?_of_block (hg.block go hgs hng)).trans w1'; have k3 : w3.frozen? ⟨go, d.toNat, none⟩ = false := (World.frozen?_of_block (hg.block go hgs hng)).trans U2.1; have G1 := Az.mk hg; have R1 := Az.mk ho; have B1 := Az.mk (blk_grown HGB.1 hg hnm); clear hg ho hb1 hat hnm hng hgs)
          all_goals go_wp2
          all_goals go_roundg (gk - 1)
          all_goals first
            | (have h1 := hk2.1; have h2 := HZ.1; omega)
            | (have h1 := hk2.1
               have h2 := HZ.1
               have h4 := HRB.1.1
               have et : (z + 1).toNat = z.toNat + 1 := by omega
               have hst := HSTEP.1 _ _ _ G1.1 R1.1 B1.1
               exact ⟨z + 1, _, by rw [show wrap64 (z + 1) = z + 1 from by unfold wrap64; omega], ⟨by omega, by omega⟩, ⟨hst.1, by rw [et]; exact HADD.1, by rw [et]; exact hst.2.1, hst.2.2.1, hst.2.2.2.1, hst.2.2.2.2⟩⟩)
        · have q4 : decide (z < (rw1.length : Int)) = false := decide_eq_false hz
          have hd : rw1.drop z.toNat = [] := List.drop_of_length_le (by have := hk2.1; omega)
          have hJ2 := hJ.1
          rw [hd] at hJ2
          have HJ2 := Az.mk hJ2
          clear hd hJ2 hz hk20
          go_wp2
          go_roundg (gk1 - 1)
          case measure => have := hk.1; have := HX.1; omega
          case rel =>
            have h1 := hk.1
            have h2 := HX.1
            have h3 := hk2.1
            have h4 := HRB.1.1
            have h5 := HOK.1.2.1
            have et : (x + 1).toNat = x.toNat + 1 := by omega
            have hv : V = addAll U x rw1 := HJ2.1.2.1
            exact ⟨x + 1, V, by rw [show wrap64 (x + 1) = x + 1 from by unfold wrap64; omega], ⟨by omega, by omega⟩, ⟨HJ2.1.1, by rw [et, hv]; exact HBK1.1, fun r hr => by have := HJ2.1.2.2.1 r hr; omega, HJ2.1.2.2.2.1, HJ2.1.2.2.2.2.1, HJ2.1.2.2.2.2.2⟩⟩
    · have q3 : decide (x < (t2.length : Int)) = false := decide_eq_false hx
      have hd : t2.drop x.toNat = [] := List.drop_of_length_le (by have := hk.1; omega)
      have hI2 := hI.1
      rw [hd] at hI2
      obtain ⟨i1, rfl, i3, i4, i5, i6⟩ := hI2
      have hbw : Below w7.heap.size w7 wr := by rw [<- HGO.1]; exact i6
      have HBW := Az.mk hbw
      have f0 := blk_below F0.1 hbw
      have f1 := blk_below F1.1 hbw
      have HF0 := Az.mk f0
      have x0 := blk_cell f1 0
      have x1 := blk_cell f1 1
      have z0 := blk_cell i5 0
      have hN := plainR (Kd.R_below HN7.1 hbw)
      have hE := Kd.S_reads' (Kd.S_below HE7.1 hbw)
      have hU : t1.length = (backL U x []).length /\ t1.length <= t1.length /\ KS.C wr (some ⟨go, 0, none⟩) (backL U x []).length (backL U x []) := Kd.S_reads' i4
      have hbk := HBK.1
      have hre := HRE.1
      rw [hbk] at hre
      have hcall := m_reached.calls _ cn t1 _ ce t2 _ t1.length (backL U x []) s r1 r2 r3 r4 r5 wr hN.2.2 hN.2.1 hE.2.2 hE.2.1 hU.2.2 (by rw [<- hU.1]; exact Nat.le_refl _) hre
      rw [<- hU.1] at hcall
      have HCALL := Az.mk hcall
      clear hd i1 i3 i4 i5 i6 hbw f0 f1 hN hE hU hbk hre hcall hx hk0 hI
      go_wp2_with (go_at_call 31; (refine HCALL.1.mono ?_); rintro e w10 ⟨v10, rfl, hr10, hb10⟩; have HR10 := Az.mk hr10; have HB10 := Az.mk hb10; have g0 := blk_below HF0.1 hb10; have HG0 := Az.mk g0; have y0 := blk_cell g0 0; have y1 := blk_cell g0 1; have y2 := blk_cell g0 2; have y3 := blk_cell g0 3; have e0 := blk_frozen g0 0; have e1 := blk_frozen g0 1; have e2 := blk_frozen g0 2; have e3 := blk_frozen g0 3; clear hr10 hb10 g0)
      refine bodyPost_ret (results_tc rfl _ _ w.heap.size 28 #[.int .i64 r2, .string r3, .int .i64 r4, .int .i64 r5] (0, 0) _ rfl (fst4_f HG0.1 r2 r3 r4 r5) Try.underlying28 rfl hi28) rfl ?_
      have hlt : w.heap.size < wr.heap.size := by have h1 := blk_lt HF0.1; exact h1
      have hall : Below w.heap.size w w10 := ((HB5.1.trans (HB57.1.mono HB5.1.size)).trans (HBW.1.mono (by have := HB5.1.size; have := HB57.1.size; omega))).trans (HB10.1.mono (Nat.le_of_lt hlt))
      refine ⟨_, rfl, ?_, fst4_below hall (Nat.le_refl _) r2 r3 r4 r5⟩
      exact Kd.R_lower (Kd.R_mono (Kd.R_move (Kd.R_bound HR10.1) (fun k hk => fst4_heap w10 _ r2 r3 r4 r5 k (by have := hk.2.1; omega))) (fun _ _ => trivial)) (Nat.le_of_lt hlt)
end Mg
namespace P
theorem m_Users.calls (A0 : Option Addr) (c0 : Nat) (l0 : List S42) (a1 : ByteArray) (r1 : List ByteArray) (r2 : Int) (r3 : ByteArray) (r4 r5 : Int) (w : World) (hr0 : Kd.C k42 w A0 l0.length l0) (hc0 : l0.length <= c0) (h : m_Users.f l0 a1 = some (r1, r2, r3, r4, r5)) :
    Calls Try.prog 17 #[.slice A0 l0.length c0, .string a1] w fun e w' => ∃ v0_ : Value, e = .returned (.tuple #[v0_, .agg #[.int .i64 r2, .string r3, .int .i64 r4, .int .i64 r5]]) /\ Kd.R Kd.string 9 w' w.heap.size (fun _ => True) v0_ r1 /\ Below w.heap.size w w' := by
  unfold m_Users.f at h
  obtain ⟨⟨t1, t2, t3, t4, t5, t6⟩, hl, h⟩ := Option.bind_eq_some_iff.mp h
  obtain ⟨k0, hk0⟩ := Od.lim_some hl
  have hA := hk0 k0 (Nat.le_refl _)
  simp only [] at h
  by_cases h3 : t3 = 0
  · rw [if_pos h3] at h
    by_cases ho : okB t1.length t2
    · rw [if_pos ho] at h
      subst h3
      exact Users_walk k0 A0 c0 l0 a1 w hr0 hc0 t1 t2 t4 t5 t6 hA ho r1 r2 r3 r4 r5 h
    · rw [if_neg ho] at h; cases h
  · rw [if_neg h3] at h
    simp only [Option.some.injEq, Prod.mk.injEq] at h
    obtain ⟨rfl, rfl, rfl, rfl, rfl⟩ := h
    exact Users_fault k0 A0 c0 l0 a1 w hr0 hc0 t1 t2 t3 t4 t5 t6 hA h3
end P
end Go.Proofs.Ytmadhaccjmakdaa
namespace Go.Proofs.Ytmadhaccjmakdaa.P
open Go.RowKit Go.Proofs.Yw.A Go.Proofs.Yw.B Go.Proofs.Yw.C Mg
theorem ord_x : g_ordered.f [[1], [], []] = some [[1], [0], [2]] := Od.lim_of (k0 := 40) (fun k hk => by
 obtain ⟨m, rfl⟩ : ∃ m, k = m + 40 := ⟨k - 40, by omega⟩
 kernel_rfl)
theorem lev_x : g_Levels.f [[1], [], []] = some ([[1, 2], [0]], 0) := Od.lim_of (k0 := 40) (fun k hk => by
 obtain ⟨m, rfl⟩ : ∃ m, k = m + 40 := ⟨k - 40, by omega⟩
 unfold Lv.levelsF
 rw [ord_x]
 kernel_rfl)
theorem acy_x {l : List S42} (h : l.map key = [([65], [[66]]), ([66], []), ([67], [])]) : m_acyclic.f 40 l = some ([bz [65], bz [66], bz [67]], [[1], [], []], 0, ⟨#[]⟩, 0, 0) := by
 unfold m_acyclic.f
 rw [made_abc h]
 kernel_rfl
theorem order_x {l : List S42} (h : l.map key = [([65], [[66]]), ([66], []), ([67], [])]) : m_Order.f 40 l = some ([bz [66], bz [65], bz [67]], 0, ⟨#[]⟩, 0, 0) := by
 unfold m_Order.f
 rw [acy_x h]
 simp only [Option.bind_some, if_true]
 unfold g_Components.f
 rw [ord_x]
 kernel_rfl
theorem levels_x {l : List S42} (h : l.map key = [([65], [[66]]), ([66], []), ([67], [])]) : m_Levels.f 40 l = some ([[bz [66], bz [67]], [bz [65]]], 0, ⟨#[]⟩, 0, 0) := by
 unfold m_Levels.f
 rw [acy_x h]
 simp only [Option.bind_some, if_true]
 rw [lev_x]
 kernel_rfl
theorem reach_x : m_reached.f [bz [65], bz [66], bz [67]] [[1], [], []] [[1], [], []] (bz [65]) = some ([bz [66]], 0, ⟨#[]⟩, 0, 0) := by
 have hL : (Od.lim fun k => (g_Reach.f k [[1], [], []] (rank ([bz [65], bz [66], bz [67]].map dat) (dat (bz [65])) : Nat)).bind fun t => p_named.f k [bz [65], bz [66], bz [67]] [[1], [], []] t) = some [bz [65], bz [66]] := Od.lim_of (k0 := 40) (fun k hk => by
  obtain ⟨m, rfl⟩ : ∃ m, k = m + 40 := ⟨k - 40, by omega⟩
  kernel_rfl)
 unfold m_reached.f
 rw [if_pos (by decide), if_pos (by decide), hL]
 have hf : [bz [65], bz [66]].filter (fun x => !but (bz [65]) x) = [bz [66]] := by kernel_rfl
 show some (List.filter (fun x => !but (bz [65]) x) [bz [65], bz [66]], (0 : Int), (⟨#[]⟩ : ByteArray), (0 : Int), (0 : Int)) = _
 rw [hf]
theorem needs_x {l : List S42} (h : l.map key = [([65], [[66]]), ([66], []), ([67], [])]) : m_Needs.f 40 l (bz [65]) = some ([bz [66]], 0, ⟨#[]⟩, 0, 0) := by
 unfold m_Needs.f
 rw [acy_x h]
 simp only [Option.bind_some, if_true]
 rw [reach_x]
 rfl
theorem cycle_x {l : List S42} (h : l.map key = [([65], [[66]]), ([66], [[65], [67]]), ([67], [[66]])]) : m_Cycle.f 100 l = some [bz [65], bz [66]] := by
 unfold m_Cycle.f
 rw [made_cyc h]
 kernel_rfl
theorem missI_bz (K : List (List UInt8)) : ∀ l : List S66, missI K l = ((l.map im).find? (fun x => !K.contains x)).map bz := by
 intro l
 induction l with
 | nil => rfl
 | cons i l ih =>
  unfold missI
  by_cases h : K.contains (im i) = true
  · rw [if_pos h, ih, List.map_cons, List.find?_cons_of_neg (by simpa using h)]
  rw [if_neg h, List.map_cons, List.find?_cons_of_pos (by simpa using h)]
  rfl
theorem made_x {l : List S42} (h : l.map key = [([65], [[88]])]) : m_made.f l = some ([], [], 16, bz [88], 0, 0) := by
 have hk := nm_key l
 rw [h] at hk
 have hlen : l.length = 1 := by have := congrArg List.length h; simpa using this
 obtain ⟨m, rfl⟩ : ∃ m, l = [m] := List.length_eq_one_iff.1 hlen
 have hkm : key m = ([65], [[88]]) := by simpa using h
 have hi : m.f3.map im = [[88]] := congrArg Prod.snd hkm
 unfold m_made.f
 rw [if_neg (by simp), if_pos (okSizes_key (by rw [h]; decide)), twice_of _ [] (by rw [hk]; decide)]
 simp only []
 rw [hk]
 unfold miss
 rw [missI_bz, hi]
 rfl
theorem order_miss {l : List S42} (h : l.map key = [([65], [[88]])]) : m_Order.f 40 l = some ([], 16, bz [88], 0, 0) := by
 unfold m_Order.f m_acyclic.f
 rw [made_x h]
 rfl
theorem reach_y : m_reached.f [bz [65], bz [66], bz [67]] [[1], [], []] [[], [0], []] (bz [66]) = some ([bz [65]], 0, ⟨#[]⟩, 0, 0) := by
 have hL : (Od.lim fun k => (g_Reach.f k [[], [0], []] (rank ([bz [65], bz [66], bz [67]].map dat) (dat (bz [66])) : Nat)).bind fun t => p_named.f k [bz [65], bz [66], bz [67]] [[1], [], []] t) = some [bz [65], bz [66]] := Od.lim_of (k0 := 40) (fun k hk => by
  obtain ⟨m, rfl⟩ : ∃ m, k = m + 40 := ⟨k - 40, by omega⟩
  kernel_rfl)
 unfold m_reached.f
 rw [if_pos (by decide), if_pos (by decide), hL]
 have hf : [bz [65], bz [66]].filter (fun x => !but (bz [66]) x) = [bz [65]] := by kernel_rfl
 show some (List.filter (fun x => !but (bz [66]) x) [bz [65], bz [66]], (0 : Int), (⟨#[]⟩ : ByteArray), (0 : Int), (0 : Int)) = _
 rw [hf]
theorem users_x {l : List S42} (h : l.map key = [([65], [[66]]), ([66], []), ([67], [])]) : m_Users.f l (bz [66]) = some ([bz [65]], 0, ⟨#[]⟩, 0, 0) := by
 have hL : (Od.lim fun k => m_acyclic.f k l) = some ([bz [65], bz [66], bz [67]], [[1], [], []], 0, ⟨#[]⟩, 0, 0) := Od.lim_of (k0 := 40) (fun k hk => by
  obtain ⟨m, rfl⟩ : ∃ m, k = m + 40 := ⟨k - 40, by omega⟩
  unfold m_acyclic.f
  rw [made_abc h]
  kernel_rfl)
 have hb : backL (List.replicate [bz [65], bz [66], bz [67]].length []) 0 [[1], [], []] = [[], [0], []] := by kernel_rfl
 have ho : okB [bz [65], bz [66], bz [67]].length [[1], [], []] := by unfold okB; decide
 unfold m_Users.f
 rw [hL]
 simp only [Option.bind_some, if_true]
 rw [if_pos ho, hb]
 exact reach_y
end Go.Proofs.Ytmadhaccjmakdaa.P
namespace Go.Proofs.Ytmadhaccjmakdaa.P
open Go.RowKit Go.Proofs.Yw.A Go.Proofs.Yw.A.Kd Go.Proofs.Yw.B Go.Proofs.Yw.C
attribute [local go_sem] str_gtr str_leq str_geq max2_int min2_int max_two min_two max_three min_three max_four min_four
theorem eqA28 (d : Nat) (w : World) (x0 y0 : Int) (x1 y1 : ByteArray) (x2 y2 : Int) (x3 y3 : Int) :
 (Op.equalIn (d + 2) 28 (.agg #[.int .i64 x0, .string x1, .int .i64 x2, .int .i64 x3]) (.agg #[.int .i64 y0, .string y1, .int .i64 y2, .int .i64 y3])).run Try.prog w = .ok (x0 == y0 && (x1.toList == y1.toList && (x2 == y2 && (x3 == y3)))) w := by
 refine eqA_of Try.underlying28 (by kernel_rfl) ?_
 refine eqf_cons (by rfl) (by go_simp; rfl) (by go_simp; rfl) (by go_simp) ?_
 refine eqf_cons (by rfl) (by go_simp; rfl) (by go_simp; rfl) (by go_simp) ?_
 refine eqf_cons (by rfl) (by go_simp; rfl) (by go_simp; rfl) (by go_simp) ?_
 exact eqf_last (by rfl) (by go_simp; rfl) (by go_simp; rfl) (by go_simp)
end Go.Proofs.Ytmadhaccjmakdaa.P
namespace Go.Proofs.Ytmadhaccjmakdaa
open Go.RowKit Go.Proofs.Yw.A Go.Proofs.Yw.B Go.Proofs.Yw.C
attribute [local go_sem] str_gtr str_leq str_geq max2_int min2_int max_two min_two max_three min_three max_four min_four
open P Mg
attribute [local go_sem high] eqA28
namespace Aw
def Stab (p : World -> Prop) : Prop := ∀ w w1, Below w.heap.size w w1 -> p w -> p w1
theorem stab_and {p q : World -> Prop} (hp : Stab p) (hq : Stab q) : Stab fun w => p w /\ q w := fun w w1 hb h => ⟨hp w w1 hb h.1, hq w w1 hb h.2⟩
theorem stab_c {α : Type} (d : Kd α) (A : Option Addr) (n : Nat) (xs : List α) : Stab fun w => d.C w A n xs := fun w w1 hb h => Kd.C_below h hb
theorem stab_k {α : Type} (d : Kd α) (x : α) (cs : List Value) : Stab fun w => d.K w x cs := fun w w1 hb h => d.K_below hb h
theorem stab_b (w0 : World) : Stab fun w => Below w0.heap.size w0 w := fun w w1 hb h => below_step h hb
theorem stab_x (g : Nat) (cs : Array Value) (t : TypeId) : Stab fun w => w.heap[g]? = some (.cells cs t (0, 0)) := fun w w1 hb h => blk_below h hb
theorem C_lit {α : Type} (d : Kd α) (w : World) {xs : List α} {inner : List Value} (e : TypeId) (hrep : Reps (d.K w) d.sz xs inner) (hm : xs.length <= 9223372036854775807) (hl : inner.length = xs.length * d.sz) :
 d.C (w.alloc (.cells inner.toArray e)) (some ⟨w.heap.size, 0, none⟩) xs.length xs := by
 refine ⟨rfl, hm, fun _ => ⟨_, rfl, fun j p hj => ⟨_, ?_, d.K_below (below_alloc (Below.refl _ _) _) (hrep.2 j p hj), fun i u hu => ?_⟩⟩⟩
 · exact d.K_len (hrep.2 j p hj)
 · have hb := (MapKept.heap_alloc w (.cells inner.toArray e)).1
   have hu' : inner[j * d.sz + i]? = some u := by
    rw [List.getElem?_take] at hu
    split at hu
    · rw [List.getElem?_drop] at hu; exact hu
    · cases hu
   have hadd : (⟨w.heap.size, 0, none⟩ : Addr).add (j * d.sz + i) = ⟨w.heap.size, j * d.sz + i, none⟩ := by
    unfold Addr.add
    split
    · rename_i h0; rw [h0]
    · simp
   rw [hadd, blk_cell hb]
   simpa using hu'
def i66 (x : ByteArray) : S66 := ⟨x, false, ⟨#[]⟩, false, false, []⟩
def mm (x : ByteArray) (l : List ByteArray) : S42 := ⟨x, false, [], l.map i66, RawS.nil⟩
theorem mod_ex (s : ByteArray) (l1 : List ByteArray) (x : S42) (h : w_module.f 40 s l1 = some (x.f0, x.f1, x.f2, x.f3, x.f4)) (A1 : Option Addr) (c1 : Nat) (w : World) (hr1 : Kd.C Kd.string w A1 l1.length l1) (hc1 : l1.length <= c1) :
 Calls Try.prog 23 #[.string s, .slice A1 l1.length c1] w fun e w' => ∃ A2 c2 A3 c3, e = .returned (.agg #[.string x.f0, .bool x.f1, .slice A2 x.f2.length c2, .slice A3 x.f3.length c3, .slice x.f4.a x.f4.n x.f4.c]) /\
  k42.K w' x [.string x.f0, .bool x.f1, .slice A2 x.f2.length c2, .slice A3 x.f3.length c3, .slice x.f4.a x.f4.n x.f4.c] /\ Below w.heap.size w w' := by
 refine (w_module.calls 40 s A1 c1 l1 _ _ _ _ _ w hr1 hc1 h).mono ?_
 rintro e w' ⟨v2, v3, rfl, h2, h3, hb⟩
 obtain ⟨A2, c2, rfl, l2, g2⟩ := Kd.S_reads h2
 obtain ⟨A3, c3, rfl, l3, g3⟩ := Kd.R_reads h3
 exact ⟨A2, c2, A3, c3, rfl, k42_mk w' x l2 g2 l3 g3, hb⟩
end Aw
namespace Aw
theorem rS1 (w : World) (x : ByteArray) : Reps (Kd.string.K w) 1 [x] [.string x] := Reps.one (show Kd.K Kd.string w x [.string x] from rfl) (Reps.none _ _)
theorem sC1 (w : World) (x : ByteArray) : Kd.string.C (w.alloc (.cells #[.string x] 9)) (some ⟨w.heap.size, 0, none⟩) 1 [x] := C_lit Kd.string w 9 (rS1 w x) (by simp) rfl
theorem sC2 (w : World) (x y : ByteArray) : Kd.string.C (w.alloc (.cells #[.string x, .string y] 9)) (some ⟨w.heap.size, 0, none⟩) 2 [x, y] :=
 C_lit Kd.string w 9 (Reps.one (show Kd.K Kd.string w x [.string x] from rfl) (rS1 w y)) (by simp) rfl
theorem sC3 (w : World) (x y z : ByteArray) : Kd.string.C (w.alloc (.cells #[.string x, .string y, .string z] 9)) (some ⟨w.heap.size, 0, none⟩) 3 [x, y, z] :=
 C_lit Kd.string w 9 (Reps.one (show Kd.K Kd.string w x [.string x] from rfl) (Reps.one (show Kd.K Kd.string w y [.string y] from rfl) (rS1 w z))) (by simp) rfl
theorem mod0_ex (s : ByteArray) (w : World) : Calls Try.prog 23 #[.string s, .slice none 0 0] w fun e w' => ∃ A2 c2 A3 c3, e = .returned (.agg #[.string s, .bool false, .slice A2 0 c2, .slice A3 0 c3, .slice none 0 0]) /\
 k42.K w' (mm s []) [.string s, .bool false, .slice A2 0 c2, .slice A3 0 c3, .slice none 0 0] /\ Below w.heap.size w w' :=
 mod_ex s [] (mm s []) (by rfl) none 0 w (Kd.C_nil _ _) (Nat.le_refl _)
theorem mod1_ex (s x : ByteArray) (w : World) : Calls Try.prog 23 #[.string s, .slice (some ⟨w.heap.size, 0, none⟩) 1 1] (w.alloc (.cells #[.string x] 9)) fun e w' => ∃ A2 c2 A3 c3, e = .returned (.agg #[.string s, .bool false, .slice A2 0 c2, .slice A3 1 c3, .slice none 0 0]) /\
 k42.K w' (mm s [x]) [.string s, .bool false, .slice A2 0 c2, .slice A3 1 c3, .slice none 0 0] /\ Below w.heap.size w w' :=
 (mod_ex s [x] (mm s [x]) (by kernel_rfl) _ 1 _ (sC1 w x) (Nat.le_refl _)).mono fun e w' ⟨A2, c2, A3, c3, h1, h2, h3⟩ => ⟨A2, c2, A3, c3, h1, h2, below_step (below_alloc (Below.refl _ _) _) h3⟩
theorem mod2_ex (s x y : ByteArray) (w : World) : Calls Try.prog 23 #[.string s, .slice (some ⟨w.heap.size, 0, none⟩) 2 2] (w.alloc (.cells #[.string x, .string y] 9)) fun e w' => ∃ A2 c2 A3 c3, e = .returned (.agg #[.string s, .bool false, .slice A2 0 c2, .slice A3 2 c3, .slice none 0 0]) /\
 k42.K w' (mm s [x, y]) [.string s, .bool false, .slice A2 0 c2, .slice A3 2 c3, .slice none 0 0] /\ Below w.heap.size w w' :=
 (mod_ex s [x, y] (mm s [x, y]) (by kernel_rfl) _ 2 _ (sC2 w x y) (Nat.le_refl _)).mono fun e w' ⟨A2, c2, A3, c3, h1, h2, h3⟩ => ⟨A2, c2, A3, c3, h1, h2, below_step (below_alloc (Below.refl _ _) _) h3⟩
def L1 : List S42 := [mm (bz [65]) [bz [66]], mm (bz [66]) [], mm (bz [67]) []]
def L2 : List S42 := [mm (bz [65]) [bz [88]]]
def L3 : List S42 := [mm (bz [65]) [bz [66]], mm (bz [66]) [bz [65], bz [67]], mm (bz [67]) [bz [66]]]
theorem key1 : L1.map key = [([65], [[66]]), ([66], []), ([67], [])] := by kernel_rfl
theorem key2 : L2.map key = [([65], [[88]])] := by kernel_rfl
theorem key3 : L3.map key = [([65], [[66]]), ([66], [[65], [67]]), ([67], [[66]])] := by kernel_rfl
theorem ord_ex (A : Option Addr) (c : Nat) (w : World) (h : k42.C w A 3 L1) (hc : 3 <= c) : Calls Try.prog 10 #[.slice A 3 c] w fun e w' => ∃ A2 c2, e = .returned (.tuple #[.slice A2 3 c2, .agg #[.int .i64 0, .string ⟨#[]⟩, .int .i64 0, .int .i64 0]]) /\
 Kd.string.C w' A2 3 [(⟨#[66]⟩ : ByteArray), (⟨#[65]⟩ : ByteArray), (⟨#[67]⟩ : ByteArray)] /\ 3 <= c2 /\ Below w.heap.size w w' := by
 refine (m_Order.calls 40 A c L1 _ _ _ _ _ w h hc (order_x key1)).mono ?_
 rintro e w' ⟨v, rfl, hr, hb⟩
 obtain ⟨A2, c2, rfl, l2, g2⟩ := Kd.R_reads hr
 exact ⟨A2, c2, rfl, g2, l2, hb⟩
theorem lev_ex (A : Option Addr) (c : Nat) (w : World) (h : k42.C w A 3 L1) (hc : 3 <= c) : Calls Try.prog 12 #[.slice A 3 c] w fun e w' => ∃ A2 c2, e = .returned (.tuple #[.slice A2 2 c2, .agg #[.int .i64 0, .string ⟨#[]⟩, .int .i64 0, .int .i64 0]]) /\
 (Kd.slice 9 Kd.string).C w' A2 2 [[(⟨#[66]⟩ : ByteArray), (⟨#[67]⟩ : ByteArray)], [(⟨#[65]⟩ : ByteArray)]] /\ 2 <= c2 /\ Below w.heap.size w w' := by
 refine (m_Levels.calls 40 A c L1 _ _ _ _ _ w h hc (levels_x key1)).mono ?_
 rintro e w' ⟨v, rfl, hr, hb⟩
 obtain ⟨A2, c2, rfl, l2, g2⟩ := Kd.S_reads hr
 exact ⟨A2, c2, rfl, g2, l2, hb⟩
theorem needs_ex (A : Option Addr) (c : Nat) (w : World) (h : k42.C w A 3 L1) (hc : 3 <= c) : Calls Try.prog 15 #[.slice A 3 c, .string ⟨#[65]⟩] w fun e w' => ∃ A2 c2, e = .returned (.tuple #[.slice A2 1 c2, .agg #[.int .i64 0, .string ⟨#[]⟩, .int .i64 0, .int .i64 0]]) /\
 Kd.string.C w' A2 1 [(⟨#[66]⟩ : ByteArray)] /\ 1 <= c2 /\ Below w.heap.size w w' := by
 refine (m_Needs.calls 40 A c L1 _ _ _ _ _ _ w h hc (needs_x key1)).mono ?_
 rintro e w' ⟨v, rfl, hr, hb⟩
 obtain ⟨A2, c2, rfl, l2, g2⟩ := Kd.R_reads hr
 exact ⟨A2, c2, rfl, g2, l2, hb⟩
theorem users_ex (A : Option Addr) (c : Nat) (w : World) (h : k42.C w A 3 L1) (hc : 3 <= c) : Calls Try.prog 17 #[.slice A 3 c, .string ⟨#[66]⟩] w fun e w' => ∃ A2 c2, e = .returned (.tuple #[.slice A2 1 c2, .agg #[.int .i64 0, .string ⟨#[]⟩, .int .i64 0, .int .i64 0]]) /\
 Kd.string.C w' A2 1 [(⟨#[65]⟩ : ByteArray)] /\ 1 <= c2 /\ Below w.heap.size w w' := by
 refine (m_Users.calls A c L1 _ _ _ _ _ _ w h hc (users_x key1)).mono ?_
 rintro e w' ⟨v, rfl, hr, hb⟩
 obtain ⟨A2, c2, rfl, l2, g2⟩ := Kd.R_reads hr
 exact ⟨A2, c2, rfl, g2, l2, hb⟩
theorem miss_ex (A : Option Addr) (c : Nat) (w : World) (h : k42.C w A 1 L2) (hc : 1 <= c) : Calls Try.prog 10 #[.slice A 1 c] w fun e w' => ∃ A2 c2, e = .returned (.tuple #[.slice A2 0 c2, .agg #[.int .i64 16, .string ⟨#[88]⟩, .int .i64 0, .int .i64 0]]) /\ Below w.heap.size w w' := by
 refine (m_Order.calls 40 A c L2 _ _ _ _ _ w h hc (order_miss key2)).mono ?_
 rintro e w' ⟨v, rfl, hr, hb⟩
 obtain ⟨A2, c2, rfl, l2, g2⟩ := Kd.R_reads hr
 exact ⟨A2, c2, rfl, hb⟩
theorem cyc_ex (A : Option Addr) (c : Nat) (w : World) (h : k42.C w A 3 L3) (hc : 3 <= c) : Calls Try.prog 19 #[.slice A 3 c] w fun e w' => ∃ A2 c2, e = .returned (.slice A2 2 c2) /\ Kd.string.C w' A2 2 [(⟨#[65]⟩ : ByteArray), (⟨#[66]⟩ : ByteArray)] /\ 2 <= c2 /\ Below w.heap.size w w' := by
 refine (m_Cycle.calls 100 A c L3 _ w h hc (cycle_x key3)).mono ?_
 rintro e w' ⟨v, rfl, hr, hb⟩
 obtain ⟨A2, c2, rfl, l2, g2⟩ := Kd.R_reads hr
 exact ⟨A2, c2, rfl, g2, l2, hb⟩
theorem same_ex (l : List ByteArray) (hl : w_same.f 40 l l = some true) (A1 A2 : Option Addr) (c1 c2 n : Nat) (w : World) (hn : l.length = n) (h1 : Kd.string.C w A1 n l) (h2 : Kd.string.C w A2 n l) (hc1 : n <= c1) (hc2 : n <= c2) :
 Calls Try.prog 14 #[.slice A1 n c1, .slice A2 n c2] w fun e w' => e = .returned (.bool true) /\ Drawn0 w w' := by
 subst hn
 exact w_same.calls 40 A1 c1 l A2 c2 l true w h1 hc1 h2 hc2 hl
theorem same1 : w_same.f 40 [bz [66], bz [65], bz [67]] [bz [66], bz [65], bz [67]] = some true := by kernel_rfl
theorem same2 : w_same.f 40 [bz [66], bz [67]] [bz [66], bz [67]] = some true := by kernel_rfl
theorem same3 : w_same.f 40 [bz [66]] [bz [66]] = some true := by kernel_rfl
theorem same4 : w_same.f 40 [bz [65]] [bz [65]] = some true := by kernel_rfl
theorem same5 : w_same.f 40 [bz [65], bz [66]] [bz [65], bz [66]] = some true := by kernel_rfl
theorem box_x (W : World) (cs : Array Value) : ∃ W1 g, W.alloc (.cells cs 28) = W1 /\ W.heap.size = g /\ W1.heap[g]? = some (.cells cs 28 (0, 0)) /\ Below W.heap.size W W1 := ⟨_, _, rfl, rfl, blk_new W _, below_alloc (Below.refl _ _) _⟩
theorem L1_lit {w : World} {A0 A1 A2 A3 A4 A5 : Option Addr} {c0 c1 c2 c3 c4 c5 : Nat} (h0 : k42.K w (mm ⟨#[65]⟩ [⟨#[66]⟩]) [.string ⟨#[65]⟩, .bool false, .slice A0 0 c0, .slice A1 1 c1, .slice none 0 0])
 (h1 : k42.K w (mm ⟨#[66]⟩ []) [.string ⟨#[66]⟩, .bool false, .slice A2 0 c2, .slice A3 0 c3, .slice none 0 0]) (h2 : k42.K w (mm ⟨#[67]⟩ []) [.string ⟨#[67]⟩, .bool false, .slice A4 0 c4, .slice A5 0 c5, .slice none 0 0]) :
 k42.C (w.alloc (.cells #[.string ⟨#[65]⟩, .bool false, .slice A0 0 c0, .slice A1 1 c1, .slice none 0 0, .string ⟨#[66]⟩, .bool false, .slice A2 0 c2, .slice A3 0 c3, .slice none 0 0, .string ⟨#[67]⟩, .bool false, .slice A4 0 c4, .slice A5 0 c5, .slice none 0 0] 42)) (some ⟨w.heap.size, 0, none⟩) 3 L1 :=
 C_lit k42 w 42 (Reps.c5 h0 (Reps.c5 h1 (Reps.c5 h2 (Reps.none _ _)))) (by decide) rfl
theorem L2_lit {w : World} {A0 A1 : Option Addr} {c0 c1 : Nat} (h0 : k42.K w (mm ⟨#[65]⟩ [⟨#[88]⟩]) [.string ⟨#[65]⟩, .bool false, .slice A0 0 c0, .slice A1 1 c1, .slice none 0 0]) :
 k42.C (w.alloc (.cells #[.string ⟨#[65]⟩, .bool false, .slice A0 0 c0, .slice A1 1 c1, .slice none 0 0] 42)) (some ⟨w.heap.size, 0, none⟩) 1 L2 :=
 C_lit k42 w 42 (Reps.c5 h0 (Reps.none _ _)) (by decide) rfl
theorem L3_lit {w : World} {A0 A1 A2 A3 A4 A5 : Option Addr} {c0 c1 c2 c3 c4 c5 : Nat} (h0 : k42.K w (mm ⟨#[65]⟩ [⟨#[66]⟩]) [.string ⟨#[65]⟩, .bool false, .slice A0 0 c0, .slice A1 1 c1, .slice none 0 0])
 (h1 : k42.K w (mm ⟨#[66]⟩ [⟨#[65]⟩, ⟨#[67]⟩]) [.string ⟨#[66]⟩, .bool false, .slice A2 0 c2, .slice A3 2 c3, .slice none 0 0]) (h2 : k42.K w (mm ⟨#[67]⟩ [⟨#[66]⟩]) [.string ⟨#[67]⟩, .bool false, .slice A4 0 c4, .slice A5 1 c5, .slice none 0 0]) :
 k42.C (w.alloc (.cells #[.string ⟨#[65]⟩, .bool false, .slice A0 0 c0, .slice A1 1 c1, .slice none 0 0, .string ⟨#[66]⟩, .bool false, .slice A2 0 c2, .slice A3 2 c3, .slice none 0 0, .string ⟨#[67]⟩, .bool false, .slice A4 0 c4, .slice A5 1 c5, .slice none 0 0] 42)) (some ⟨w.heap.size, 0, none⟩) 3 L3 :=
 C_lit k42 w 42 (Reps.c5 h0 (Reps.c5 h1 (Reps.c5 h2 (Reps.none _ _)))) (by decide) rfl
theorem stab_cell (a : Addr) (v : Value) : Stab fun w => w.cell? a = some v := fun w w1 hb h => pw_cell_below hb h
theorem box4 {w : World} {g : Nat} {a b c d : Value} {t : TypeId} (h : w.heap[g]? = some (.cells #[a, b, c, d] t (0, 0))) : w.cell? ⟨g, 0, none⟩ = some a /\ w.cell? ⟨g, 1, none⟩ = some b /\ w.cell? ⟨g, 2, none⟩ = some c /\ w.cell? ⟨g, 3, none⟩ = some d :=
 ⟨blk_cell h 0, blk_cell h 1, blk_cell h 2, blk_cell h 3⟩
theorem lev0 {w : World} {A : Option Addr} (h : (Kd.slice 9 Kd.string).C w A 2 [[(⟨#[66]⟩ : ByteArray), (⟨#[67]⟩ : ByteArray)], [(⟨#[65]⟩ : ByteArray)]]) : ∃ ad X f, A = some ad /\ w.cell? ad = some (.slice X 2 f) /\ 2 <= f /\ Kd.string.C w X 2 [(⟨#[66]⟩ : ByteArray), (⟨#[67]⟩ : ByteArray)] := by
 obtain ⟨ad, X, f, h1, h2, h3, h4⟩ := at_L2 h 0 (by decide) (by decide)
 exact ⟨ad, X, f, h1, by have h5 : w.cell? (ad.add 0) = some (.slice X 2 f) := h2; simpa [Addr.add] using h5, h3, h4⟩
theorem sm1 (A1 A2 : Option Addr) (c1 c2 : Nat) (w : World) (h1 : Kd.string.C w A1 3 [(⟨#[66]⟩ : ByteArray), (⟨#[65]⟩ : ByteArray), (⟨#[67]⟩ : ByteArray)]) (h2 : Kd.string.C w A2 3 [(⟨#[66]⟩ : ByteArray), (⟨#[65]⟩ : ByteArray), (⟨#[67]⟩ : ByteArray)]) (hc1 : 3 <= c1) (hc2 : 3 <= c2) : Calls Try.prog 14 #[.slice A1 3 c1, .slice A2 3 c2] w fun e w' => e = .returned (.bool true) /\ Drawn0 w w' := same_ex _ same1 A1 A2 c1 c2 3 w rfl h1 h2 hc1 hc2
theorem sm2 (A1 A2 : Option Addr) (c1 c2 : Nat) (w : World) (h1 : Kd.string.C w A1 2 [(⟨#[66]⟩ : ByteArray), (⟨#[67]⟩ : ByteArray)]) (h2 : Kd.string.C w A2 2 [(⟨#[66]⟩ : ByteArray), (⟨#[67]⟩ : ByteArray)]) (hc1 : 2 <= c1) (hc2 : 2 <= c2) : Calls Try.prog 14 #[.slice A1 2 c1, .slice A2 2 c2] w fun e w' => e = .returned (.bool true) /\ Drawn0 w w' := same_ex _ same2 A1 A2 c1 c2 2 w rfl h1 h2 hc1 hc2
theorem sm3 (A1 A2 : Option Addr) (c1 c2 : Nat) (w : World) (h1 : Kd.string.C w A1 1 [(⟨#[66]⟩ : ByteArray)]) (h2 : Kd.string.C w A2 1 [(⟨#[66]⟩ : ByteArray)]) (hc1 : 1 <= c1) (hc2 : 1 <= c2) : Calls Try.prog 14 #[.slice A1 1 c1, .slice A2 1 c2] w fun e w' => e = .returned (.bool true) /\ Drawn0 w w' := same_ex _ same3 A1 A2 c1 c2 1 w rfl h1 h2 hc1 hc2
theorem sm4 (A1 A2 : Option Addr) (c1 c2 : Nat) (w : World) (h1 : Kd.string.C w A1 1 [(⟨#[65]⟩ : ByteArray)]) (h2 : Kd.string.C w A2 1 [(⟨#[65]⟩ : ByteArray)]) (hc1 : 1 <= c1) (hc2 : 1 <= c2) : Calls Try.prog 14 #[.slice A1 1 c1, .slice A2 1 c2] w fun e w' => e = .returned (.bool true) /\ Drawn0 w w' := same_ex _ same4 A1 A2 c1 c2 1 w rfl h1 h2 hc1 hc2
theorem sm5 (A1 A2 : Option Addr) (c1 c2 : Nat) (w : World) (h1 : Kd.string.C w A1 2 [(⟨#[65]⟩ : ByteArray), (⟨#[66]⟩ : ByteArray)]) (h2 : Kd.string.C w A2 2 [(⟨#[65]⟩ : ByteArray), (⟨#[66]⟩ : ByteArray)]) (hc1 : 2 <= c1) (hc2 : 2 <= c2) : Calls Try.prog 14 #[.slice A1 2 c1, .slice A2 2 c2] w fun e w' => e = .returned (.bool true) /\ Drawn0 w w' := same_ex _ same5 A1 A2 c1 c2 2 w rfl h1 h2 hc1 hc2
theorem awake_calls (w : World) : Calls Try.prog 9 #[] w fun e w' => e = .returned (.bool true) /\ Below w.heap.size w w' := by
 have hu28 := Try.underlying28
 have hu22 := Try.underlying22
 have hu25 := Try.underlying25
 have HS := Az.mk (stab_b w)
 have HP := Az.mk (Below.refl w.heap.size w)
 go_enter Try.func9, Try.ntmps9
 go_upto_region 2 with (first | (go_at_call 23; (with_reducible refine (mod1_ex ⟨#[65]⟩ ⟨#[66]⟩ _).mono ?_); rintro e w1 ⟨A0, c0, A1, c1, rfl, hk, hb⟩; have n0 := Az.mk (HS.1 _ _ hb HP.1); clear HP; have HP := n0; clear n0; have HK0 := Az.mk hk; clear hk hb) | (go_at_call 23; (with_reducible refine (mod0_ex ⟨#[66]⟩ _).mono ?_); rintro e w2 ⟨A2, c2, A3, c3, rfl, hk, hb⟩; have n0 := Az.mk (HS.1 _ _ hb HP.1); clear HP; have HP := n0; clear n0; have n0 := Az.mk (stab_k _ _ _ _ _ hb HK0.1); clear HK0; have HK0 := n0; clear n0; have HK1 := Az.mk hk; clear hk hb) | (go_at_call 23; (with_reducible refine (mod0_ex ⟨#[67]⟩ _).mono ?_); rintro e w3 ⟨A4, c4, A5, c5, rfl, hk, hb⟩; have n0 := Az.mk (HS.1 _ _ hb HP.1); clear HP; have HP := n0; clear n0; have n0 := Az.mk (stab_k _ _ _ _ _ hb HK0.1); clear HK0; have HK0 := n0; clear n0; have n0 := Az.mk (stab_k _ _ _ _ _ hb HK1.1); clear HK1; have HK1 := n0; clear n0; have HK2 := Az.mk hk; clear hk hb))
 have hl := L1_lit HK0.1 HK1.1 HK2.1
 have hb := below_alloc (Below.refl w3.heap.size w3) (.cells #[Value.string ⟨#[65]⟩, Value.bool false, Value.slice A0 0 c0, Value.slice A1 1 c1, Value.slice none 0 0, Value.string ⟨#[66]⟩, Value.bool false, Value.slice A2 0 c2, Value.slice A3 0 c3, Value.slice none 0 0, Value.string ⟨#[67]⟩, Value.bool false, Value.slice A4 0 c4, Value.slice A5 0 c5, Value.slice none 0 0] 42)
 generalize w3.alloc (.cells #[Value.string ⟨#[65]⟩, Value.bool false, Value.slice A0 0 c0, Value.slice A1 1 c1, Value.slice none 0 0, Value.string ⟨#[66]⟩, Value.bool false, Value.slice A2 0 c2, Value.slice A3 0 c3, Value.slice none 0 0, Value.string ⟨#[67]⟩, Value.bool false, Value.slice A4 0 c4, Value.slice A5 0 c5, Value.slice none 0 0] 42) = W4 at *
 have HP1 := Az.mk (And.intro (HS.1 _ _ hb HP.1) hl)
 have HS1 := Az.mk (stab_and HS.1 (stab_c k42 (some ⟨w3.heap.size, 0, none⟩) 3 L1))
 clear HP HS hb hl HK0 HK1 HK2
 generalize (some (⟨w3.heap.size, 0, none⟩ : Addr)) = AL at *
 go_upto_region 3 with (first | (go_at_call 10; (with_reducible refine (ord_ex _ _ _ HP1.1.2 (Nat.le_refl _)).mono ?_); rintro e w4 ⟨B2, d2, rfl, hc, hl2, hb⟩; have HX := Az.mk (HS1.1 _ _ hb HP1.1); clear HP1; have HP1 := HX; clear HX; have HC := Az.mk hc; clear hc; clear hb))
 obtain ⟨W12, g2, e1, e2, hx, hb⟩ := box_x w4 #[.int .i64 0, .string ⟨#[]⟩, .int .i64 0, .int .i64 0]
 rw [e1, e2]
 clear e1 e2
 have HQ := Az.mk (And.intro (HS1.1 _ _ hb HP1.1) (And.intro (Kd.C_below HC.1 hb) hx))
 have HT := Az.mk (stab_and HS1.1 (stab_and (stab_c Kd.string B2 3 [(⟨#[66]⟩ : ByteArray), (⟨#[65]⟩ : ByteArray), (⟨#[67]⟩ : ByteArray)]) (stab_x g2 #[.int .i64 0, .string ⟨#[]⟩, .int .i64 0, .int .i64 0] 28)))
 clear HP1 HS1 hb hx HC
 have HP2 := HQ
 have HS2 := HT
 clear HQ HT
 go_upto_region 4 with (first | (go_at_call 12; (with_reducible refine (lev_ex _ _ _ HP2.1.1.2 (Nat.le_refl _)).mono ?_); rintro e w5 ⟨B3, d3, rfl, hc, hl3, hb⟩; have HX := Az.mk (HS2.1 _ _ hb HP2.1); clear HP2; have HP2 := HX; clear HX; have HC := Az.mk hc; clear hc; clear hb))
 obtain ⟨W13, g3, e1, e2, hx, hb⟩ := box_x w5 #[.int .i64 0, .string ⟨#[]⟩, .int .i64 0, .int .i64 0]
 rw [e1, e2]
 clear e1 e2
 have HQ := Az.mk (And.intro (HS2.1 _ _ hb HP2.1) (And.intro (Kd.C_below HC.1 hb) hx))
 have HT := Az.mk (stab_and HS2.1 (stab_and (stab_c (Kd.slice 9 Kd.string) B3 2 [[(⟨#[66]⟩ : ByteArray), (⟨#[67]⟩ : ByteArray)], [(⟨#[65]⟩ : ByteArray)]]) (stab_x g3 #[.int .i64 0, .string ⟨#[]⟩, .int .i64 0, .int .i64 0] 28)))
 clear HP2 HS2 hb hx HC
 have HP3 := HQ
 have HS3 := HT
 clear HQ HT
 go_upto_region 5 with (first | (go_at_call 15; (with_reducible refine (needs_ex _ _ _ HP3.1.1.1.2 (Nat.le_refl _)).mono ?_); rintro e w6 ⟨B4, d4, rfl, hc, hl4, hb⟩; have HX := Az.mk (HS3.1 _ _ hb HP3.1); clear HP3; have HP3 := HX; clear HX; have HC := Az.mk hc; clear hc; clear hb))
 obtain ⟨W14, g4, e1, e2, hx, hb⟩ := box_x w6 #[.int .i64 0, .string ⟨#[]⟩, .int .i64 0, .int .i64 0]
 rw [e1, e2]
 clear e1 e2
 have HQ := Az.mk (And.intro (HS3.1 _ _ hb HP3.1) (And.intro (Kd.C_below HC.1 hb) hx))
 have HT := Az.mk (stab_and HS3.1 (stab_and (stab_c Kd.string B4 1 [(⟨#[66]⟩ : ByteArray)]) (stab_x g4 #[.int .i64 0, .string ⟨#[]⟩, .int .i64 0, .int .i64 0] 28)))
 clear HP3 HS3 hb hx HC
 have HP4 := HQ
 have HS4 := HT
 clear HQ HT
 go_upto_region 6 with (first | (go_at_call 17; (with_reducible refine (users_ex _ _ _ HP4.1.1.1.1.2 (Nat.le_refl _)).mono ?_); rintro e w7 ⟨B5, d5, rfl, hc, hl5, hb⟩; have HX := Az.mk (HS4.1 _ _ hb HP4.1); clear HP4; have HP4 := HX; clear HX; have HC := Az.mk hc; clear hc; clear hb))
 obtain ⟨W15, g5, e1, e2, hx, hb⟩ := box_x w7 #[.int .i64 0, .string ⟨#[]⟩, .int .i64 0, .int .i64 0]
 rw [e1, e2]
 clear e1 e2
 have HQ := Az.mk (And.intro (HS4.1 _ _ hb HP4.1) (And.intro (Kd.C_below HC.1 hb) hx))
 have HT := Az.mk (stab_and HS4.1 (stab_and (stab_c Kd.string B5 1 [(⟨#[65]⟩ : ByteArray)]) (stab_x g5 #[.int .i64 0, .string ⟨#[]⟩, .int .i64 0, .int .i64 0] 28)))
 clear HP4 HS4 hb hx HC
 have HP5 := HQ
 have HS5 := HT
 clear HQ HT
 go_upto_region 7 with (first | (go_at_call 23; (with_reducible refine (mod1_ex ⟨#[65]⟩ ⟨#[88]⟩ _).mono ?_); rintro e w8 ⟨E0, f0, E1, f1, rfl, hk, hb⟩; have n0 := Az.mk (HS5.1 _ _ hb HP5.1); clear HP5; have HP5 := n0; clear n0; have HK0 := Az.mk hk; clear hk hb) | (go_at_call 10; (with_reducible refine (miss_ex _ _ _ (L2_lit HK0.1) (Nat.le_refl _)).mono ?_); rintro e w9 ⟨E2, f2, rfl, hb⟩; have n0 := Az.mk (HS5.1 _ _ (below_step (below_alloc (Below.refl _ _) _) hb) HP5.1); clear HP5; have HP5 := n0; clear n0; clear hb HK0))
 obtain ⟨W16, g6, e1, e2, hx, hb⟩ := box_x w9 #[.int .i64 16, .string ⟨#[88]⟩, .int .i64 0, .int .i64 0]
 rw [e1, e2]
 clear e1 e2
 have HQ := Az.mk (And.intro (HS5.1 _ _ hb HP5.1) hx)
 have HT := Az.mk (stab_and HS5.1 (stab_x g6 #[.int .i64 16, .string ⟨#[88]⟩, .int .i64 0, .int .i64 0] 28))
 clear HP5 HS5 hb hx
 have HP6 := HQ
 have HS6 := HT
 clear HQ HT
 go_upto_region 8 with (first | (go_at_call 23; (with_reducible refine (mod1_ex ⟨#[65]⟩ ⟨#[66]⟩ _).mono ?_); rintro e wa ⟨G0, h0, G1, h1, rfl, hk, hb⟩; have n0 := Az.mk (HS6.1 _ _ hb HP6.1); clear HP6; have HP6 := n0; clear n0; have HK0 := Az.mk hk; clear hk hb) | (go_at_call 23; (with_reducible refine (mod2_ex ⟨#[66]⟩ ⟨#[65]⟩ ⟨#[67]⟩ _).mono ?_); rintro e wb ⟨G2, h2, G3, h3, rfl, hk, hb⟩; have n0 := Az.mk (HS6.1 _ _ hb HP6.1); clear HP6; have HP6 := n0; clear n0; have n0 := Az.mk (stab_k _ _ _ _ _ hb HK0.1); clear HK0; have HK0 := n0; clear n0; have HK1 := Az.mk hk; clear hk hb) | (go_at_call 23; (with_reducible refine (mod1_ex ⟨#[67]⟩ ⟨#[66]⟩ _).mono ?_); rintro e wc ⟨G4, h4, G5, h5, rfl, hk, hb⟩; have n0 := Az.mk (HS6.1 _ _ hb HP6.1); clear HP6; have HP6 := n0; clear n0; have n0 := Az.mk (stab_k _ _ _ _ _ hb HK0.1); clear HK0; have HK0 := n0; clear n0; have n0 := Az.mk (stab_k _ _ _ _ _ hb HK1.1); clear HK1; have HK1 := n0; clear n0; have HK2 := Az.mk hk; clear hk hb) | (go_at_call 19; (with_reducible refine (cyc_ex _ _ _ (L3_lit HK0.1 HK1.1 HK2.1) (Nat.le_refl _)).mono ?_); rintro e wd ⟨B7, d7, rfl, hc, hl7, hb⟩; have n0 := Az.mk (And.intro (HS6.1 _ _ (below_step (below_alloc (Below.refl _ _) _) hb) HP6.1) hc); clear HP6; have HP7 := n0; clear n0; have HS7 := Az.mk (stab_and HS6.1 (stab_c Kd.string B7 2 [(⟨#[65]⟩ : ByteArray), (⟨#[66]⟩ : ByteArray)])); clear hb hc HK0 HK1 HK2 HS6))
 go_upto_region 9 with fail
 obtain ⟨W18, g8, e1, e2, hx, hb⟩ := box_x wd #[.int .i64 0, .string ⟨#[]⟩, .int .i64 0, .int .i64 0]
 rw [e1, e2]
 clear e1 e2
 have HQ := Az.mk (And.intro (HS7.1 _ _ hb HP7.1) hx)
 have HT := Az.mk (stab_and HS7.1 (stab_x g8 #[.int .i64 0, .string ⟨#[]⟩, .int .i64 0, .int .i64 0] 28))
 clear HP7 HS7 hb hx
 have HP8 := HQ
 have HS8 := HT
 clear HQ HT
 obtain ⟨ad3, X3, f3, rfl, hx3, hfl, hX⟩ := lev0 HP8.1.1.1.1.1.1.2.1
 have HQ := Az.mk (And.intro HP8.1 (And.intro hx3 hX))
 have HT := Az.mk (stab_and HS8.1 (stab_and (stab_cell ad3 (.slice X3 2 f3)) (stab_c Kd.string X3 2 [(⟨#[66]⟩ : ByteArray), (⟨#[67]⟩ : ByteArray)])))
 clear HP8 HS8 hx3 hX
 have HP9 := HQ
 have HS9 := HT
 clear HQ HT
 obtain ⟨x20, x21, x22, x23⟩ := box4 HP9.1.1.1.1.1.1.1.1.2.2
 obtain ⟨x30, x31, x32, x33⟩ := box4 HP9.1.1.1.1.1.1.1.2.2
 obtain ⟨x40, x41, x42, x43⟩ := box4 HP9.1.1.1.1.1.1.2.2
 obtain ⟨x50, x51, x52, x53⟩ := box4 HP9.1.1.1.1.1.2.2
 obtain ⟨x80, x81, x82, x83⟩ := box4 HP9.1.1.2
 go_wp2_with (first | (go_at_call 14; (with_reducible refine (sm1 _ _ _ _ _ (Kd.C_alloc HP9.1.1.1.1.1.1.1.1.2.1 _) (sC3 _ _ _ _) hl2 (Nat.le_refl _)).mono ?_); rintro e w20 ⟨rfl, hd⟩; have n0 := Az.mk (HS9.1 _ _ (below_step (below_alloc (Below.refl _ _) _) hd.below) HP9.1); clear HP9; have HP9 := n0; clear n0 hd x20 x21 x22 x23 x30 x31 x32 x33 x40 x41 x42 x43 x50 x51 x52 x53 x80 x81 x82 x83; have yy := HP9.1.2.1) | (go_at_call 14; (with_reducible refine (sm2 _ _ _ _ _ (Kd.C_alloc HP9.1.2.2 _) (sC2 _ _ _) hfl (Nat.le_refl _)).mono ?_); rintro e w21 ⟨rfl, hd⟩; have n0 := Az.mk (HS9.1 _ _ (below_step (below_alloc (Below.refl _ _) _) hd.below) HP9.1); clear HP9; have HP9 := n0; clear n0 hd yy) | (go_at_call 14; (with_reducible refine (sm3 _ _ _ _ _ (Kd.C_alloc HP9.1.1.1.1.1.1.2.1 _) (sC1 _ _) hl4 (Nat.le_refl _)).mono ?_); rintro e w22 ⟨rfl, hd⟩; have n0 := Az.mk (HS9.1 _ _ (below_step (below_alloc (Below.refl _ _) _) hd.below) HP9.1); clear HP9; have HP9 := n0; clear n0 hd) | (go_at_call 14; (with_reducible refine (sm4 _ _ _ _ _ (Kd.C_alloc HP9.1.1.1.1.1.2.1 _) (sC1 _ _) hl5 (Nat.le_refl _)).mono ?_); rintro e w23 ⟨rfl, hd⟩; have n0 := Az.mk (HS9.1 _ _ (below_step (below_alloc (Below.refl _ _) _) hd.below) HP9.1); clear HP9; have HP9 := n0; clear n0 hd; obtain ⟨x60, x61, x62, x63⟩ := box4 HP9.1.1.1.1.2) | (go_at_call 14; (with_reducible refine (sm5 _ _ _ _ _ (Kd.C_alloc HP9.1.1.1.2 _) (sC2 _ _ _) hl7 (Nat.le_refl _)).mono ?_); rintro e w24 ⟨rfl, hd⟩; have n0 := Az.mk (HS9.1 _ _ (below_step (below_alloc (Below.refl _ _) _) hd.below) HP9.1); clear HP9; have HP9 := n0; clear n0 hd x60 x61 x62 x63))
 go_ret
 exact ⟨rfl, HP9.1.1.1.1.1.1.1.1.1.1⟩
end Aw
namespace P
noncomputable def w_awake.f : Option Bool := some true
theorem w_awake.calls (r : Bool) (w : World) (h : w_awake.f = some r) : Calls Try.prog 9 #[] w fun e w' => e = .returned (.bool r) /\ Below w.heap.size w w' := by
 obtain rfl := Option.some.inj h
 exact Aw.awake_calls w
end P
end Go.Proofs.Ytmadhaccjmakdaa
namespace Go.Proofs.Ytmadhaccjmakdaa.P
open Go.RowKit Go.Proofs.Yw.A Go.Proofs.Yw.A.Kd Go.Proofs.Yw.B Go.Proofs.Yw.C
attribute [local go_sem] str_gtr str_leq str_geq max2_int min2_int max_two min_two max_three min_three max_four min_four
noncomputable def w_ModgraphCycle.j0 : Nat -> List (S42) -> Bool -> Option (Bool)
 | 0, _, _ => none
 | k + 1, x0, x15 => if x15 = true then ((w_awake.f).bind fun t584 => (some t584)) else ((m_Cycle.f k x0).bind fun t585 => ((r_Cycle.f k x0).bind fun t588 => ((w_same.f k t585 t588).bind fun t591 => (if t591 = true then ((w_awake.f).bind fun t592 => (some t592)) else (some false)))))
noncomputable def w_ModgraphCycle.f (k : Nat) (l0 : List (S42)) : Option (Bool) := (w_small.f k l0).bind fun t583 => (if t583 = true then (if (l0.length : Int) > 8 then (w_ModgraphCycle.j0 k l0 (decide ((l0.length : Int) <= 32))) else (w_ModgraphCycle.j0 k l0 false)) else (w_ModgraphCycle.j0 k l0 true))
theorem w_ModgraphCycle.calls (k : Nat) (A0 : Option Addr) (c0 : Nat) (l0 : List (S42)) (r : Bool) (w : World) (hr0 : Kd.C k42 w A0 l0.length l0) (hc0 : l0.length <= c0) (h : w_ModgraphCycle.f k l0 = some r) :
 Calls Try.prog 5 #[.slice A0 l0.length c0] w fun e w' => e = .returned (.bool r) /\ Below w.heap.size w w' := by
 have HR0 := aM hr0
 have HC0 := aM hc0
 clear hr0 hc0
 have HB := aM (Below.refl w.heap.size w)
 have H : ((w_small.f k l0).bind fun t583 => (if t583 = true then (if (l0.length : Int) > 8 then (w_ModgraphCycle.j0 k l0 (decide ((l0.length : Int) <= 32))) else (w_ModgraphCycle.j0 k l0 false)) else (w_ModgraphCycle.j0 k l0 true))) = some r := h
 clear h
 have HC2 := aM H
 clear H
 go_enter Try.func5, Try.ntmps5
 go_upto_region 1 with (fail)
 go_cut [15] (fun v15 wc => ∃ (kq : Nat) (x15_1 : Bool), v15 = .bool x15_1 /\ Az (w_ModgraphCycle.j0 kq l0 x15_1 = some r) /\ Az (kq <= k) /\ Az (Below w.heap.size w wc))
 case first =>
  have H := HC2.1
  clear HC2
  replace H := Option.bind_eq_some_iff.mp H
  obtain ⟨t583, A30, H⟩ := H
  try dsimp only at H
  have A3 := aM A30
  clear A30
  by_cases c4 : t583 = true
  rotate_left
  · replace c4 := Bool.eq_false_iff.mpr c4
    subst c4
    rw [if_neg (show ¬ (false = true) by decide)] at H
    have H' := aM H
    clear H
    go_wp2_with (first | ((with_reducible refine gate_callee (f := 8) rfl ?_); refine gL (some 4) rfl rfl Try.func8 (by kernel_rfl) rfl #[.slice A0 l0.length c0] rfl ?_; (with_reducible refine (w_small.calls k _ _ l0 false _ ?side1 ?side2 A3.1).mono ?_); (case side1 => exact cb HR0 HB); (case side2 => exact HC0.1); rintro e w' ⟨rfl, ⟨nd, rfl⟩⟩; refine ⟨_, rfl, ?_⟩))
    go_meet
    case rel => exact ⟨_, (true), rr, H', ⟨by first | omega | exact Nat.le_refl _⟩, ⟨hh HB⟩⟩
  subst c4
  rw [if_pos rfl] at H
  by_cases c5 : (l0.length : Int) > 8
  rotate_left
  · rw [if_neg c5] at H
    have c5b0 : decide (8 < (l0.length : Int)) = false := decide_eq_false c5
    have c5b1 : decide (8 < l0.length) = false := decide_eq_false (by omega)
    clear c5
    (first | rw [c5b0] | (simp only [i64_w, i32_w]; rw [c5b0]) | skip)
    have H' := aM H
    clear H
    go_wp2_with (first | ((with_reducible refine gate_callee (f := 8) rfl ?_); refine gL (some 4) rfl rfl Try.func8 (by kernel_rfl) rfl #[.slice A0 l0.length c0] rfl ?_; (with_reducible refine (w_small.calls k _ _ l0 true _ ?side1 ?side2 A3.1).mono ?_); (case side1 => exact cb HR0 HB); (case side2 => exact HC0.1); rintro e w' ⟨rfl, ⟨nd, rfl⟩⟩; refine ⟨_, rfl, ?_⟩))
    go_meet
    case rel => exact ⟨_, (false), rr, H', ⟨by first | omega | exact Nat.le_refl _⟩, ⟨hh HB⟩⟩
  rw [if_pos c5] at H
  have c5b0 : decide (8 < (l0.length : Int)) = true := decide_eq_true c5
  have c5b1 : decide (8 < l0.length) = true := decide_eq_true (by omega)
  clear c5
  (first | rw [c5b0] | (simp only [i64_w, i32_w]; rw [c5b0]) | skip)
  have H' := aM H
  clear H
  go_wp2_with (first | ((with_reducible refine gate_callee (f := 8) rfl ?_); refine gL (some 4) rfl rfl Try.func8 (by kernel_rfl) rfl #[.slice A0 l0.length c0] rfl ?_; (with_reducible refine (w_small.calls k _ _ l0 true _ ?side1 ?side2 A3.1).mono ?_); (case side1 => exact cb HR0 HB); (case side2 => exact HC0.1); rintro e w' ⟨rfl, ⟨nd, rfl⟩⟩; refine ⟨_, rfl, ?_⟩))
  go_meet
  case rel => exact ⟨_, (decide ((l0.length : Int) <= 32)), rr, H', ⟨by first | omega | exact Nat.le_refl _⟩, ⟨hh HB⟩⟩
 case rest =>
  clear HC2
  obtain ⟨kq, x15_1, rfl, HA, HJ1, HB⟩ := hcut
  cases kq with
  | zero => exact absurd HA.1 (by simp [w_ModgraphCycle.j0])
  | succ kj1 =>
   have H := HA.1
   clear HA
   simp only [w_ModgraphCycle.j0] at H
   by_cases c6 : x15_1 = true
   · subst c6
     rw [if_pos rfl] at H
     replace H := Option.bind_eq_some_iff.mp H
     obtain ⟨t584, A70, H⟩ := H
     try dsimp only at H
     have A7 := aM A70
     clear A70
     obtain rfl := Option.some.inj H
     go_wp2_with (first | ((with_reducible refine gate_callee (f := 9) rfl ?_); refine gL (some 16) rfl rfl Try.func9 (by kernel_rfl) rfl #[] rfl ?_; (with_reducible refine (w_awake.calls  t584 _ A7.1).mono ?_); rintro e w8 ⟨rfl, hb⟩; refine ⟨_, rfl, ?_⟩; replace HB := bs HB hb; clear hb))
     go_ret
     exact ⟨by first | rfl | (simp [errW_none, errW_some] <;> rfl) | (simp [*, errW_none, errW_some] <;> rfl), hh HB⟩
   replace c6 := Bool.eq_false_iff.mpr c6
   subst c6
   rw [if_neg (show ¬ (false = true) by decide)] at H
   replace H := Option.bind_eq_some_iff.mp H
   obtain ⟨t585, A90, H⟩ := H
   try dsimp only at H
   have A9 := aM A90
   clear A90
   replace H := Option.bind_eq_some_iff.mp H
   obtain ⟨t588, A100, H⟩ := H
   try dsimp only at H
   have A10 := aM A100
   clear A100
   replace H := Option.bind_eq_some_iff.mp H
   obtain ⟨t591, A110, H⟩ := H
   try dsimp only at H
   have A11 := aM A110
   clear A110
   by_cases c12 : t591 = true
   rotate_left
   · replace c12 := Bool.eq_false_iff.mpr c12
     subst c12
     rw [if_neg (show ¬ (false = true) by decide)] at H
     obtain rfl := Option.some.inj H
     go_wp2_with (first | ((with_reducible refine gate_callee (f := 19) rfl ?_); refine gL (some 18) rfl rfl Try.func19 (by kernel_rfl) rfl #[.slice A0 l0.length c0] rfl ?_; (with_reducible refine (m_Cycle.calls kj1 _ _ l0 t585 _ ?side1 ?side2 A9.1).mono ?_); (case side1 => exact cb HR0 HB); (case side2 => exact HC0.1); rintro e w19 ⟨v586, rfl, ho0, hb⟩; refine ⟨_, rfl, ?_⟩; have HO587 := aM (R_lower ho0 (below_size (hh HB))); replace HB := bs HB hb; clear hb ho0) | ((with_reducible refine gate_callee (f := 20) rfl ?_); refine gL (some 20) rfl rfl Try.func20 (by kernel_rfl) rfl #[.slice A0 l0.length c0] rfl ?_; (with_reducible refine (r_Cycle.calls kj1 _ _ l0 t588 _ ?side1 ?side2 A10.1).mono ?_); (case side1 => exact cb HR0 HB); (case side2 => exact HC0.1); rintro e w20 ⟨v589, rfl, ho0, hb⟩; refine ⟨_, rfl, ?_⟩; have HO590 := aM (R_lower (R_new' ho0 (R_lt (rk HO587))) (below_size (hh HB))); replace HO587 := aM (R_elder' (rk HO587) (R_base ho0) hb); replace HB := bs HB hb; clear hb ho0; obtain ⟨Ao21, co21, eo21⟩ := R_slice HO587.1; subst eo21; obtain ⟨Ao22, co22, eo22⟩ := R_slice HO590.1; subst eo22) | ((with_reducible refine gate_callee (f := 14) rfl ?_); refine gL (some 21) rfl rfl Try.func14 (by kernel_rfl) rfl #[.slice Ao21 t585.length co21, .slice Ao22 t588.length co22] rfl ?_; (with_reducible refine (w_same.calls kj1 _ _ t585 _ _ t588 false _ ?side1 ?side2 ?side3 ?side4 A11.1).mono ?_); (case side1 => exact cr HO587); (case side2 => exact (R_reads' HO587.1).2.1); (case side3 => exact cr HO590); (case side4 => exact (R_reads' HO590.1).2.1); rintro e w' ⟨rfl, ⟨nd, rfl⟩⟩; refine ⟨_, rfl, ?_⟩))
     go_ret
     exact ⟨by first | rfl | (simp [errW_none, errW_some] <;> rfl) | (simp [*, errW_none, errW_some] <;> rfl), hh HB⟩
   subst c12
   rw [if_pos rfl] at H
   replace H := Option.bind_eq_some_iff.mp H
   obtain ⟨t592, A130, H⟩ := H
   try dsimp only at H
   have A13 := aM A130
   clear A130
   obtain rfl := Option.some.inj H
   go_wp2_with (first | ((with_reducible refine gate_callee (f := 19) rfl ?_); refine gL (some 18) rfl rfl Try.func19 (by kernel_rfl) rfl #[.slice A0 l0.length c0] rfl ?_; (with_reducible refine (m_Cycle.calls kj1 _ _ l0 t585 _ ?side1 ?side2 A9.1).mono ?_); (case side1 => exact cb HR0 HB); (case side2 => exact HC0.1); rintro e w14 ⟨v586, rfl, ho0, hb⟩; refine ⟨_, rfl, ?_⟩; have HO587 := aM (R_lower ho0 (below_size (hh HB))); replace HB := bs HB hb; clear hb ho0) | ((with_reducible refine gate_callee (f := 20) rfl ?_); refine gL (some 20) rfl rfl Try.func20 (by kernel_rfl) rfl #[.slice A0 l0.length c0] rfl ?_; (with_reducible refine (r_Cycle.calls kj1 _ _ l0 t588 _ ?side1 ?side2 A10.1).mono ?_); (case side1 => exact cb HR0 HB); (case side2 => exact HC0.1); rintro e w15 ⟨v589, rfl, ho0, hb⟩; refine ⟨_, rfl, ?_⟩; have HO590 := aM (R_lower (R_new' ho0 (R_lt (rk HO587))) (below_size (hh HB))); replace HO587 := aM (R_elder' (rk HO587) (R_base ho0) hb); replace HB := bs HB hb; clear hb ho0; obtain ⟨Ao16, co16, eo16⟩ := R_slice HO587.1; subst eo16; obtain ⟨Ao17, co17, eo17⟩ := R_slice HO590.1; subst eo17) | ((with_reducible refine gate_callee (f := 14) rfl ?_); refine gL (some 21) rfl rfl Try.func14 (by kernel_rfl) rfl #[.slice Ao16 t585.length co16, .slice Ao17 t588.length co17] rfl ?_; (with_reducible refine (w_same.calls kj1 _ _ t585 _ _ t588 true _ ?side1 ?side2 ?side3 ?side4 A11.1).mono ?_); (case side1 => exact cr HO587); (case side2 => exact (R_reads' HO587.1).2.1); (case side3 => exact cr HO590); (case side4 => exact (R_reads' HO590.1).2.1); rintro e w' ⟨rfl, ⟨nd, rfl⟩⟩; refine ⟨_, rfl, ?_⟩) | (go_at_call 9; (with_reducible refine (w_awake.calls  t592 _ A13.1).mono ?_); rintro e w18 ⟨rfl, hb⟩; replace HO587 := rb HO587 hb; replace HO590 := rb HO590 hb; replace HB := bs HB hb; clear hb))
   go_ret
   exact ⟨by first | rfl | (simp [errW_none, errW_some] <;> rfl) | (simp [*, errW_none, errW_some] <;> rfl), hh HB⟩
end Go.Proofs.Ytmadhaccjmakdaa.P
namespace Go.Proofs.Ytmadhaccjmakdaa
open Go.RowKit Go.Proofs.Yw.A Go.Proofs.Yw.B Go.Proofs.Yw.C
namespace Tp
open Tj
def nd (es : List (List Int)) (v : Int) : Prop := 0 <= v /\ v < es.length
def Vld (es : List (List Int)) : Prop := ∀ v, nd es v -> ∀ w ∈ row es v, nd es w
inductive Rc (es : List (List Int)) : Int -> Int -> Prop
 | refl (v : Int) : Rc es v v
 | tail {a b c : Int} : Rc es a b -> c ∈ row es b -> Rc es a c
theorem Rc.trans {es : List (List Int)} {a b c : Int} (h : Rc es a b) (h2 : Rc es b c) : Rc es a c := by
 induction h2 with
 | refl => exact h
 | tail _ h3 ih => exact .tail ih h3
theorem w64 (x : Int) (h0 : -9223372036854775808 <= x) (h1 : x < 9223372036854775808) : wrap64 x = x := by
 unfold wrap64
 omega
theorem rd_set (l : List Int) (u v x : Int) (hu : 0 <= u) (hl : u < l.length) (hv : 0 <= v) : rd (l.set u.toNat x) v = if v = u then x else rd l v := by
 unfold rd
 rw [List.getD_eq_getElem?_getD, List.getElem?_set, List.getD_eq_getElem?_getD]
 by_cases h : v = u
 rotate_left
 · rw [if_neg (by omega), if_neg h]
 subst h
 rw [if_pos rfl, if_pos (by omega), if_pos rfl]
 rfl
theorem rd_at (l : List Int) (i : Nat) (h : i < l.length) : rd l (i : Int) = l[i] := by
 unfold rd
 rw [Int.toNat_natCast, List.getD_eq_getElem?_getD, List.getElem?_eq_getElem h]
 rfl
theorem mem_rd (l : List Int) (x : Int) (h : x ∈ l) : ∃ i : Nat, i < l.length /\ rd l (i : Int) = x := by
 obtain ⟨i, hi, e⟩ := List.mem_iff_getElem.1 h
 exact ⟨i, hi, by rw [rd_at l i hi]; exact e⟩
theorem rd_rep (n : Nat) (x v : Int) (h0 : 0 <= v) (h : v < n) : rd (List.replicate n x) v = x := by
 obtain ⟨i, rfl⟩ := Int.eq_ofNat_of_zero_le h0
 rw [rd_at _ i (by simp; omega)]
 simp
structure Inv (es : List (List Int)) (st : TS) : Prop where
 li : st.index.length = es.length
 ll : st.low.length = es.length
 lc : st.comp.length = es.length
 stk : ∀ x ∈ st.stack, nd es x /\ 0 < rd st.index x /\ rd st.comp x = -1
 ons : ∀ x, nd es x -> rd st.index x ≠ 0 -> rd st.comp x < 0 -> x ∈ st.stack
 unv : ∀ x, nd es x -> rd st.index x = 0 -> rd st.comp x = -1
 idx : ∀ x, nd es x -> 0 <= rd st.index x /\ rd st.index x <= st.count
 cmp : ∀ x, nd es x -> -1 <= rd st.comp x /\ rd st.comp x < st.comps
 inj : ∀ x y, nd es x -> nd es y -> rd st.index x = rd st.index y -> rd st.index x ≠ 0 -> x = y
 srt : st.stack.Pairwise fun x y => rd st.index x < rd st.index y
 back : ∀ u, nd es u -> 0 <= rd st.comp u -> ∀ w ∈ row es u, 0 <= rd st.comp w /\ rd st.comp w <= rd st.comp u
 same : ∀ u v, nd es u -> nd es v -> rd st.comp u = rd st.comp v -> 0 <= rd st.comp u -> Rc es u v
 onto : ∀ c, 0 <= c -> c < st.comps -> ∃ v, nd es v /\ rd st.comp v = c
 cnt : st.count + (st.index.count 0 : Nat) = es.length
 cps : 0 <= st.comps /\ st.comps + st.stack.length <= st.count
structure Ext (es : List (List Int)) (p : Int -> Prop) (st st' : TS) : Prop where
 idx : ∀ x, nd es x -> rd st.index x ≠ 0 -> rd st'.index x = rd st.index x
 low : ∀ x, nd es x -> rd st.index x ≠ 0 -> p x -> rd st'.low x = rd st.low x
 cmp : ∀ x, nd es x -> 0 <= rd st.comp x -> rd st'.comp x = rd st.comp x
 cnt : st.count <= st'.count
 new : ∀ x, nd es x -> rd st.index x = 0 -> rd st'.index x = 0 \/ st.count < rd st'.index x
theorem Ext.refl (es : List (List Int)) (p : Int -> Prop) (st : TS) : Ext es p st st := ⟨fun _ _ _ => rfl, fun _ _ _ _ => rfl, fun _ _ _ => rfl, Int.le_refl _, fun _ _ h => .inl h⟩
theorem Ext.trans {es : List (List Int)} {p : Int -> Prop} {a b c : TS} (h : Ext es p a b) (k : Ext es p b c) : Ext es p a c where
 idx x hx h0 := by rw [k.idx x hx (by rw [h.idx x hx h0]; exact h0), h.idx x hx h0]
 low x hx h0 hp := by rw [k.low x hx (by rw [h.idx x hx h0]; exact h0) hp, h.low x hx h0 hp]
 cmp x hx h0 := by rw [k.cmp x hx (by rw [h.cmp x hx h0]; exact h0), h.cmp x hx h0]
 cnt := Int.le_trans h.cnt k.cnt
 new x hx h0 := by
  rcases h.new x hx h0 with h1 | h1
  · rcases k.new x hx h1 with h2 | h2
    · exact .inl h2
    · exact .inr (by have := h.cnt; omega)
  · by_cases h2 : rd b.index x = 0
    · rcases k.new x hx h2 with h3 | h3
      · exact .inl h3
      · exact .inr (by have := h.cnt; omega)
    · rw [k.idx x hx h2]
      exact .inr h1
theorem Ext.imp {es : List (List Int)} {p q : Int -> Prop} {a b : TS} (h : Ext es p a b) (hq : ∀ x, q x -> p x) : Ext es q a b := ⟨h.idx, fun x hx h0 hp => h.low x hx h0 (hq x hp), h.cmp, h.cnt, h.new⟩
def Ok (st : TS) (m w : Int) : Prop := 0 <= rd st.comp w \/ (rd st.index w ≠ 0 /\ m <= rd st.index w)
structure Post (es : List (List Int)) (S0 : List Int) (v c0 : Int) (st : TS) : Prop where
 inv : Inv es st
 idx : rd st.index v = c0 + 1
 way : (st.stack = S0 /\ rd st.low v = c0 + 1 /\ 0 <= rd st.comp v) \/
  (∃ rest, st.stack = S0 ++ v :: rest /\ (∀ x ∈ v :: rest, Rc es x v /\ Rc es v x) /\ (∀ x ∈ v :: rest, ∀ w ∈ row es x, Ok st (rd st.low v) w) /\ rd st.low v < c0 + 1 /\ ∃ y ∈ S0, rd st.index y = rd st.low v /\ Rc es v y)
structure Lp (es : List (List Int)) (S0 : List Int) (v c0 : Int) (i : Nat) (st : TS) (rest : List Int) : Prop where
 inv : Inv es st
 nd : nd es v
 idx : rd st.index v = c0 + 1
 stk : st.stack = S0 ++ v :: rest
 tov : ∀ x ∈ st.stack, Rc es x v
 frm : ∀ x ∈ rest, Rc es v x
 low : rd st.low v <= rd st.index v
 wit : ∃ y ∈ st.stack, rd st.index y = rd st.low v /\ Rc es v y
 blk : ∀ x ∈ rest, ∀ w ∈ row es x, Ok st (rd st.low v) w
 done : ∀ j : Nat, j < i -> j < (row es v).length -> Ok st (rd st.low v) (rd (row es v) j)
end Tp
namespace Tp
open Tj
theorem Inv.count_le {es : List (List Int)} {st : TS} (h : Inv es st) : 0 <= st.count /\ st.count <= es.length := by
 have := h.cnt
 have := h.cps
 omega
theorem count_set_lt (l : List Int) (u x : Int) (hu : 0 <= u) (hl : u < l.length) (h0 : rd l u = 0) (hx : x ≠ 0) : (l.set u.toNat x).count 0 + 1 = l.count 0 := by
 obtain ⟨i, rfl⟩ := Int.eq_ofNat_of_zero_le hu
 rw [rd_at l i (by omega)] at h0
 have hi : i < l.length := by omega
 have h1 : 0 < l.count 0 := List.count_pos_iff.2 (h0 ▸ List.getElem_mem hi)
 show (l.set i x).count 0 + 1 = l.count 0
 rw [List.count_set hi]
 simp [h0, hx]
 omega
theorem enter_inv {es : List (List Int)} {st : TS} {v : Int} (h : Inv es st) (hv : nd es v) (h0 : rd st.index v = 0) (hn : es.length < 1000000) :
 Inv es (enter v st) /\ (enter v st).count = st.count + 1 /\ (∀ x, nd es x -> rd (enter v st).index x = if x = v then st.count + 1 else rd st.index x) /\
  (∀ x, nd es x -> rd (enter v st).low x = if x = v then st.count + 1 else rd st.low x) /\ (enter v st).index.count 0 + 1 = st.index.count 0 := by
 have hc := h.count_le
 have hw : wrap64 (st.count + 1) = st.count + 1 := w64 _ (by omega) (by omega)
 have hix : ∀ x, nd es x -> rd (enter v st).index x = if x = v then st.count + 1 else rd st.index x := by
  intro x hx
  show rd (st.index.set v.toNat (wrap64 (st.count + 1))) x = _
  rw [hw, rd_set _ _ _ _ hv.1 (by rw [h.li]; exact hv.2) hx.1]
 have hlx : ∀ x, nd es x -> rd (enter v st).low x = if x = v then st.count + 1 else rd st.low x := by
  intro x hx
  show rd (st.low.set v.toNat (wrap64 (st.count + 1))) x = _
  rw [hw, rd_set _ _ _ _ hv.1 (by rw [h.ll]; exact hv.2) hx.1]
 have hcount : (enter v st).index.count 0 + 1 = st.index.count 0 := count_set_lt _ _ _ hv.1 (by rw [h.li]; exact hv.2) h0 (by rw [hw]; omega)
 have hcnt : (enter v st).count = st.count + 1 := hw
 have hnew : ∀ x ∈ st.stack, x ≠ v := by
  rintro x hx rfl
  have := (h.stk x hx).2.1
  omega
 refine ⟨⟨?_, ?_, h.lc, ?_, ?_, ?_, ?_, h.cmp, ?_, ?_, h.back, h.same, h.onto, ?_, ?_⟩, hcnt, hix, hlx, hcount⟩
 · show (st.index.set _ _).length = _
   rw [List.length_set]; exact h.li
 · show (st.low.set _ _).length = _
   rw [List.length_set]; exact h.ll
 · intro x hx
   rcases List.mem_append.1 (show x ∈ st.stack ++ [v] from hx) with h1 | h1
   · obtain ⟨a, b, c⟩ := h.stk x h1
     refine ⟨a, ?_, c⟩
     rw [hix x a, if_neg (hnew x h1)]
     exact b
   · rw [List.mem_singleton] at h1
     subst h1
     exact ⟨hv, by rw [hix x hv, if_pos rfl]; omega, h.unv x hv h0⟩
 · intro x hx hi hcx
   by_cases e : x = v
   · subst e; show x ∈ st.stack ++ [x]; simp
   rw [hix x hx, if_neg e] at hi
   exact List.mem_append.2 (.inl (h.ons x hx hi hcx))
 · intro x hx hi
   by_cases e : x = v
   · subst e; exact h.unv x hx h0
   rw [hix x hx, if_neg e] at hi
   exact h.unv x hx hi
 · intro x hx
   rw [hix x hx, hcnt]
   have := h.idx x hx
   split <;> omega
 · intro x y hx hy he hne
   rw [hix x hx] at he hne
   rw [hix y hy] at he
   have h1 := h.idx x hx
   have h2 := h.idx y hy
   by_cases ex : x = v
   · rw [if_pos ex] at he
     by_cases ey : y = v
     · rw [ex, ey]
     rw [if_neg ey] at he; omega
   rw [if_neg ex] at he hne
   by_cases ey : y = v
   · rw [if_pos ey] at he; omega
   rw [if_neg ey] at he
   exact h.inj x y hx hy he hne
 · show (st.stack ++ [v]).Pairwise _
   rw [List.pairwise_append]
   refine ⟨?_, by simp, ?_⟩
   · refine h.srt.imp_of_mem ?_
     intro a b ha hb hab
     rw [hix a (h.stk a ha).1, hix b (h.stk b hb).1, if_neg (hnew a ha), if_neg (hnew b hb)]
     exact hab
   · intro a ha b hb
     rw [List.mem_singleton] at hb
     subst hb
     rw [hix a (h.stk a ha).1, hix b hv, if_neg (hnew a ha), if_pos rfl]
     have := (h.idx a (h.stk a ha).1).2
     omega
 · rw [hcnt]
   have := h.cnt
   omega
 · rw [hcnt]
   have := h.cps
   refine ⟨this.1, ?_⟩
   show st.comps + ((st.stack ++ [v]).length : Int) <= _
   rw [List.length_append, List.length_singleton]
   omega
end Tp
namespace Tp
open Tj
def VisitOk (es : List (List Int)) (L k : Nat) : Prop := ∀ (v : Int) (st : TS), Inv es st -> nd es v -> rd st.index v = 0 -> (∀ x ∈ st.stack, Rc es x v) -> st.index.count 0 * (L + 2) + es.length + 2 <= k ->
 ∃ st', visit k es v st = some st' /\ Post es st.stack v st.count st' /\ Ext es (fun _ => True) st st' /\ st'.index.count 0 <= st.index.count 0
def EachOk (es : List (List Int)) (L k : Nat) : Prop := ∀ (S0 : List Int) (v c0 : Int) (i : Nat) (st : TS) (rest : List Int), Lp es S0 v c0 i st rest -> st.index.count 0 * (L + 2) + (L - i) + es.length + 2 <= k ->
 ∃ st', each k es v (row es v) i st = some st' /\ Post es S0 v c0 st' /\ Ext es (· ≠ v) st st' /\ st'.index.count 0 <= st.index.count 0
theorem Ok.ext {es : List (List Int)} {p : Int -> Prop} {a b : TS} (h : Ext es p a b) {m m' w : Int} (hw : nd es w) (hm : m' <= m) (ho : Ok a m w) : Ok b m' w := by
 rcases ho with e | ⟨e1, e2⟩
 · exact .inl (by rw [h.cmp w hw e]; exact e)
 · exact .inr (by rw [h.idx w hw e1]; exact ⟨e1, by omega⟩)
theorem visit_step {es : List (List Int)} (hvld : Vld es) {L k : Nat} (hL : ∀ v, (row es v).length <= L) (hn : es.length < 1000000) (he : EachOk es L k) : VisitOk es L (k + 1) := by
 intro v st hI hv h0 hto hk
 obtain ⟨hI1, hc1, hix, hlx, hct⟩ := enter_inv hI hv h0 hn
 have hcps := hI.cps
 have hcl := hI.count_le
 unfold visit
 rw [if_pos ⟨hv.1, hv.2, by omega⟩]
 have hlp : Lp es st.stack v st.count 0 (enter v st) [] := by
  refine ⟨hI1, hv, by rw [hix v hv, if_pos rfl], rfl, ?_, by simp, ?_, ?_, by simp, by intro j hj; omega⟩
  · intro x hx
    rcases List.mem_append.1 (show x ∈ st.stack ++ [v] from hx) with e | e
    · exact hto x e
    · rw [List.mem_singleton] at e; subst e; exact .refl _
  · rw [hlx v hv, hix v hv]; simp
  · exact ⟨v, by show v ∈ st.stack ++ [v]; simp, by rw [hlx v hv, hix v hv]; simp, .refl _⟩
 have hmul : st.index.count 0 * (L + 2) = (enter v st).index.count 0 * (L + 2) + (L + 2) := by
  rw [<- hct, Nat.add_mul, Nat.one_mul]
 obtain ⟨st', h1, h2, h3, h4⟩ := he st.stack v st.count 0 (enter v st) [] hlp (by omega)
 refine ⟨st', h1, h2, ?_, by omega⟩
 refine ⟨?_, ?_, ?_, ?_, ?_⟩
 · intro x hx hi
   have e : x ≠ v := by rintro rfl; exact hi h0
   have := hix x hx
   rw [if_neg e] at this
   rw [h3.idx x hx (by rw [this]; exact hi), this]
 · intro x hx hi _
   have e : x ≠ v := by rintro rfl; exact hi h0
   have := hix x hx
   rw [if_neg e] at this
   rw [h3.low x hx (by rw [this]; exact hi) e, hlx x hx, if_neg e]
 · exact h3.cmp
 · have := h3.cnt; omega
 · intro x hx hi
   by_cases e : x = v
   · subst e
     right
     rw [h2.idx]; omega
   have := hix x hx
   rw [if_neg e] at this
   rcases h3.new x hx (by rw [this]; exact hi) with e2 | e2
   · exact .inl e2
   · exact .inr (by omega)
structure Sol (es : List (List Int)) (cm : List Int) (n : Int) : Prop where
 len : cm.length = es.length
 n0 : 0 <= n /\ n <= es.length
 rng : ∀ v, nd es v -> 0 <= rd cm v /\ rd cm v < n
 back : ∀ u, nd es u -> ∀ w ∈ row es u, rd cm w <= rd cm u
 same : ∀ u v, nd es u -> nd es v -> rd cm u = rd cm v -> Rc es u v
 onto : ∀ c, 0 <= c -> c < n -> ∃ v, nd es v /\ rd cm v = c
end Tp
end Go.Proofs.Ytmadhaccjmakdaa
namespace Go.Proofs.Ytmadhaccjmakdaa
open Go.RowKit Go.Proofs.Yw.A Go.Proofs.Yw.B Go.Proofs.Yw.C
namespace Tp
open Tj Rw Od
def iota (n : Nat) : List Int := (List.range n).map fun (i : Nat) => (i : Int)
theorem iota_length (n : Nat) : (iota n).length = n := by simp [iota]
theorem nodup_le : ∀ (n : Nat) (l : List Int), l.Nodup -> (∀ x ∈ l, 0 <= x /\ x < n) -> l.length <= n := by
 intro n
 induction n with
 | zero =>
  intro l _ h
  cases l with
  | nil => exact Nat.le_refl _
  | cons a l => have := h a (by simp); omega
 | succ n ih =>
  intro l hd h
  have h1 := ih (l.erase (n : Int)) (hd.erase _) (fun x hx => by
   have h2 := (hd.mem_erase_iff).1 hx
   have := h x h2.2
   have := h2.1
   omega)
  by_cases hm : (n : Int) ∈ l
  rotate_left
  · rw [List.erase_of_not_mem hm] at h1; omega
  rw [List.length_erase_of_mem hm] at h1; omega
theorem row_mem (ms : List (List Int)) (i : Nat) (h : i < ms.length) : row ms (i : Int) = ms[i] := by
 unfold row
 rw [Int.toNat_natCast, List.getD_eq_getElem?_getD, List.getElem?_eq_getElem h]
 rfl
def mem (cm : List Int) (c : Int) : List Int := (iota cm.length).filter fun v => rd cm v == c
def Dep (es : List (List Int)) (cm : List Int) (c d : Int) : Prop := c ≠ d /\ ∃ v ∈ mem cm c, ∃ w ∈ row es v, rd cm w = d
structure J (n : Int) (c : Int) (O0 : Int -> Int) (U0 : Int -> List Int) (u : US) : Prop where
 lo : (u.opn.length : Int) = n
 lu : (u.users.length : Int) = n
 nd : u.seen.Nodup
 hc : c ∈ u.seen
 rg : ∀ d ∈ u.seen, 0 <= d /\ d < n
 oo : ∀ d, 0 <= d -> d ≠ c -> rd u.opn d = O0 d
 oc : rd u.opn c = u.seen.length - 1
 us : ∀ d, 0 <= d -> d < n -> row u.users d = U0 d ++ (if d ∈ u.seen /\ d ≠ c then [c] else [])
structure K1 (es : List (List Int)) (cm : List Int) (n c : Int) (u : US) : Prop where
 lo : (u.opn.length : Int) = n
 lu : (u.users.length : Int) = n
 dn : ∀ d, 0 <= d -> d < c -> ∃ P : List Int, P.Nodup /\ (∀ x, x ∈ P ↔ Dep es cm d x) /\ rd u.opn d = P.length
 op : ∀ d, c <= d -> rd u.opn d = 0
 us : ∀ d, 0 <= d -> d < n -> (row u.users d).Nodup /\ ∀ x, x ∈ row u.users d ↔ (0 <= x /\ x < c) /\ Dep es cm x d
structure Rows (es : List (List Int)) (cm : List Int) (n : Int) (ms : List (List Int)) : Prop where
 len : (ms.length : Int) = n
 row : ∀ c, 0 <= c -> c < n -> row ms c = mem cm c
structure Rdy (ms : List (List Int)) (n : Int) (p : Int -> Prop) (ready : List Int) : Prop where
 mem : ∀ x, x ∈ ready ↔ (0 <= x /\ x < n) /\ p x
 srt : ready.Pairwise fun a b => first ms a < first ms b
theorem Rdy.congr {ms : List (List Int)} {n : Int} {p q : Int -> Prop} {r : List Int} (h : Rdy ms n p r) (hq : ∀ x, 0 <= x -> x < n -> (q x ↔ p x)) : Rdy ms n q r :=
 ⟨fun x => by
  rw [h.mem]
  exact ⟨fun ⟨a, b⟩ => ⟨a, (hq x a.1 a.2).2 b⟩, fun ⟨a, b⟩ => ⟨a, (hq x a.1 a.2).1 b⟩⟩, h.srt⟩
inductive Seq (es : List (List Int)) (cm : List Int) (n : Int) (ms : List (List Int)) : List Int -> Prop
 | nil : Seq es cm n ms []
 | snoc {D : List Int} {c : Int} : Seq es cm n ms D -> 0 <= c -> c < n -> c ∉ D -> (∀ d, Dep es cm c d -> d ∈ D) -> (∀ x, 0 <= x -> x < n -> x ∉ D -> (∀ d, Dep es cm x d -> d ∈ D) -> first ms c <= first ms x) -> Seq es cm n ms (D ++ [c])
theorem Seq.rng {es : List (List Int)} {cm : List Int} {n : Int} {ms : List (List Int)} {D : List Int} (h : Seq es cm n ms D) : D.Nodup /\ (∀ x ∈ D, 0 <= x /\ x < n) /\ ∀ x ∈ D, ∀ d, Dep es cm x d -> d ∈ D := by
 induction h with
 | nil => simp
 | snoc _ h0 h1 h2 h3 h4 ih =>
  obtain ⟨i1, i2, i3⟩ := ih
  refine ⟨?_, ?_, ?_⟩
  · rw [List.nodup_append]
    exact ⟨i1, by simp, fun a ha b hb e => by rw [List.mem_singleton] at hb; subst hb; subst e; exact h2 ha⟩
  · intro x hx
    rcases List.mem_append.1 hx with e | e
    · exact i2 x e
    · rw [List.mem_singleton] at e; subst e; exact ⟨h0, h1⟩
  · intro x hx d hd
    rcases List.mem_append.1 hx with e | e
    · exact List.mem_append.2 (.inl (i3 x e d hd))
    · rw [List.mem_singleton] at e; subst e; exact List.mem_append.2 (.inl (h3 d hd))
def Cnt (n : Int) (q : Int -> Int -> Prop) (opn : List Int) : Prop := (opn.length : Int) = n /\ ∀ u, 0 <= u -> u < n -> ∃ P : List Int, P.Nodup /\ (∀ x ∈ P, 0 <= x /\ x < n) /\ (∀ x, x ∈ P ↔ q u x) /\ rd opn u = P.length
theorem Cnt.zero {n : Int} {q : Int -> Int -> Prop} {opn : List Int} (h : Cnt n q opn) {u : Int} (h0 : 0 <= u) (h1 : u < n) : rd opn u = 0 ↔ ∀ x, ¬ q u x := by
 obtain ⟨P, _, _, p3, p4⟩ := h.2 u h0 h1
 rw [p4]
 constructor
 · intro h x hx
   have := List.length_pos_of_mem ((p3 x).2 hx)
   omega
 · intro h
   cases P with
   | nil => rfl
   | cons a P => exact absurd ((p3 a).1 (by simp)) (h a)
theorem Cnt.congr {n : Int} {q q' : Int -> Int -> Prop} {opn : List Int} (h : Cnt n q opn) (hq : ∀ u x, 0 <= u -> u < n -> (q' u x ↔ q u x)) : Cnt n q' opn :=
 ⟨h.1, fun u h0 h1 => by
  obtain ⟨P, p1, p2, p3, p4⟩ := h.2 u h0 h1
  exact ⟨P, p1, p2, fun x => by rw [p3, hq u x h0 h1], p4⟩⟩
end Tp
end Go.Proofs.Ytmadhaccjmakdaa
namespace Go.Proofs.Ytmadhaccjmakdaa
open Go.RowKit Go.Proofs.Yw.A Go.Proofs.Yw.B Go.Proofs.Yw.C Go.Proofs.Ytmadhaccjmakdaa.P
namespace Tp
open Tj Rw Od
theorem succ_cast (i : Nat) (h : i < 1000000000) : wrap64 ((i : Int) + 1) = ((i + 1 : Nat) : Int) := by
 rw [w64 _ (by omega) (by omega)]
 omega
theorem L1_row (l : List (List Int)) (i : Int) : rd_L11 l i = row l i := rfl
def Sm (l : List (List Int)) : Prop := l.length <= 60 /\ ∀ j : Nat, j < l.length -> (row l j).length <= 2000
theorem Sm.row {l : List (List Int)} (h : Sm l) (v : Int) : (row l v).length <= 2000 := by
 by_cases hv : v.toNat < l.length
 rotate_left
 · unfold Tj.row
   rw [List.getD_eq_getElem?_getD, List.getElem?_eq_none (by omega)]
   simp
 have := h.2 v.toNat hv
 unfold Tj.row at *
 rw [Int.toNat_natCast] at this
 exact this
theorem drop_row (r : List Int) (j : Nat) (hj : j < r.length) : r.drop j = rd r j :: r.drop (j + 1) := by
 rw [rd_at r j hj]
 exact List.drop_eq_getElem_cons hj
end Tp
end Go.Proofs.Ytmadhaccjmakdaa
namespace Go.Proofs.Ytmadhaccjmakdaa
open Go.RowKit Go.Proofs.Yw.A Go.Proofs.Yw.B Go.Proofs.Yw.C Go.Proofs.Ytmadhaccjmakdaa.P
namespace Tp
open Tj Rw Od
open Classical
noncomputable def scc (es : List (List Int)) (m : Int) : List Int := (iota es.length).filter fun x => decide (Rc es m x /\ Rc es x m)
def Ready (es : List (List Int)) (o : List (List Int)) (m : Int) : Prop := ∀ x, Rc es m x -> x ∈ o.flatten \/ Rc es x m
def Next (es : List (List Int)) (o : List (List Int)) (c : List Int) : Prop :=
 ∃ m, nd es m /\ m ∉ o.flatten /\ Ready es o m /\ (∀ x, nd es x -> x ∉ o.flatten -> Ready es o x -> m <= x) /\ c = scc es m
inductive Kahn (es : List (List Int)) : List (List Int) -> Prop
 | nil : Kahn es []
 | snoc {o : List (List Int)} {c : List Int} : Kahn es o -> Next es o c -> Kahn es (o ++ [c])
structure Parts (es o : List (List Int)) : Prop where
 asc : ∀ c ∈ o, c.Pairwise (· < ·)
 scc : ∀ c ∈ o, ∃ m, nd es m /\ c = scc es m
 one : o.flatten.Nodup
 back : ∀ (i : Nat) (c : List Int), o[i]? = some c -> ∀ u ∈ c, ∀ w ∈ row es u, ∃ (j : Nat) (d : List Int), j <= i /\ o[j]? = some d /\ w ∈ d
end Tp
end Go.Proofs.Ytmadhaccjmakdaa
namespace Go.Proofs.Ytmadhaccjmakdaa
open Go.Maps Go.Sort Go.RowKit Go.Proofs.Yw.A Go.Proofs.Yw.B Go.Proofs.Yw.C Go.Proofs.Ytmadhaccjmakdaa.P
namespace Tp
open Tj Rw Od Mg
open Classical
abbrev Nm := List UInt8
theorem dat_bz (x : Nm) : dat (bz x) = x := bz_list x
theorem bz_dat (x : ByteArray) : bz (dat x) = x := by cases x; simp [bz, dat]
theorem toL_iff (x y : ByteArray) : x.toList = y.toList ↔ x = y := by
 rw [toL, toL]
 exact ⟨fun h => dat_inj h, fun h => by rw [h]⟩
theorem drop_strs (l : List ByteArray) (j : Nat) (h : j < l.length) : l.drop j = rdOf ByteArray.empty l j :: l.drop (j + 1) := by
 rw [List.drop_eq_getElem_cons h]
 congr 1
 simp [rdOf, List.getElem?_eq_getElem h]
theorem less_dat (x y : ByteArray) : Op.bytesLess x.toList y.toList = decide (dat x < dat y) := by
 rw [bytesLess_eq, toL, toL]
theorem has_ev (l : List ByteArray) (x : ByteArray) (hl : l.length < 1000000) : Ev (fun k => q_Has.f k l x) (decide (x ∈ l)) := by
 have key : ∀ (m j : Nat), j + m = l.length -> Ev (fun k => q_Has.l0 k l x j) (decide (x ∈ l.drop j)) := by
  intro m
  induction m with
  | zero =>
   intro j hj
   rw [List.drop_eq_nil_of_le (by omega)]
   refine Ev.step (fun k => ?_) (Ev.now _)
   simp only [q_Has.l0]
   rw [if_neg (by omega), show decide (x ∈ ([] : List ByteArray)) = false by simp]
  | succ m ih =>
   intro j hj
   rw [drop_strs l j (by omega)]
   by_cases h : rdOf ByteArray.empty l j = x
   · rw [show decide (x ∈ rdOf ByteArray.empty l j :: l.drop (j + 1)) = true by simp [h]]
     refine Ev.step (fun k => ?_) (Ev.now _)
     simp only [q_Has.l0]
     rw [if_pos (by omega), if_pos (by omega), if_pos ((toL_iff _ _).2 h)]
   rw [show decide (x ∈ rdOf ByteArray.empty l j :: l.drop (j + 1)) = decide (x ∈ l.drop (j + 1)) by have h' : ¬ x = rdOf ByteArray.empty l j := fun e => h e.symm; simp [h']]
   refine Ev.step (fun k => ?_) (ih (j + 1) (by omega))
   simp only [q_Has.l0]
   rw [if_pos (by omega), if_pos (by omega), if_neg (fun e => h ((toL_iff _ _).1 e)), succ_cast j (by omega)]
 exact key l.length 0 (by omega)
theorem same_ev (a b : List ByteArray) (hl : a.length < 1000000) : Ev (fun k => w_same.f k a b) (decide (a = b)) := by
 by_cases hlen : a.length = b.length
 rotate_left
 · rw [show decide (a = b) = false from decide_eq_false (fun e => hlen (by rw [e]))]
   refine Ev.congr (fun k => ?_) (Ev.now _)
   unfold w_same.f
   rw [if_neg (by omega)]
 have key : ∀ (m j : Nat), j + m = a.length -> Ev (fun k => w_same.l0 k a b j) (decide (a.drop j = b.drop j)) := by
  intro m
  induction m with
  | zero =>
   intro j hj
   rw [List.drop_eq_nil_of_le (by omega), List.drop_eq_nil_of_le (by omega)]
   refine Ev.step (fun k => ?_) (Ev.now _)
   simp only [w_same.l0]
   rw [if_neg (by omega)]
   rfl
  | succ m ih =>
   intro j hj
   rw [drop_strs a j (by omega), drop_strs b j (by omega)]
   by_cases h : rdOf ByteArray.empty a j = rdOf ByteArray.empty b j
   rotate_left
   · rw [show decide (rdOf ByteArray.empty a j :: a.drop (j + 1) = rdOf ByteArray.empty b j :: b.drop (j + 1)) = false by simp [h]]
     refine Ev.step (fun k => ?_) (Ev.now _)
     simp only [w_same.l0]
     rw [if_pos (by omega), if_pos (by omega), if_pos (by omega), if_neg (fun e => h ((toL_iff _ _).1 e))]
   rw [show decide (rdOf ByteArray.empty a j :: a.drop (j + 1) = rdOf ByteArray.empty b j :: b.drop (j + 1)) = decide (a.drop (j + 1) = b.drop (j + 1)) by simp [h]]
   refine Ev.step (fun k => ?_) (ih (j + 1) (by omega))
   simp only [w_same.l0]
   rw [if_pos (by omega), if_pos (by omega), if_pos (by omega), if_pos ((toL_iff _ _).2 h), succ_cast j (by omega)]
 refine Ev.congr (fun k => ?_) (key a.length 0 (by omega))
 unfold w_same.f
 rw [if_pos (by omega)]
 rfl
def insU (s : Nm) : List Nm -> List Nm
 | [] => [s]
 | x :: l => if s < x then s :: x :: l else if s = x then x :: l else x :: insU s l
theorem mem_insU {s x : Nm} : ∀ {l : List Nm}, x ∈ insU s l ↔ x = s \/ x ∈ l := by
 intro l
 induction l with
 | nil => simp [insU]
 | cons y l ih =>
  unfold insU
  split
  · simp
  · split
    · rename_i h; subst h; simp
    · simp only [List.mem_cons, ih]
      constructor
      · rintro (h | h | h)
        · exact .inr (.inl h)
        · exact .inl h
        · exact .inr (.inr h)
      · rintro (h | h | h)
        · exact .inr (.inl h)
        · exact .inl h
        · exact .inr (.inr h)
theorem insU_len (s : Nm) : ∀ (l : List Nm), (insU s l).length <= l.length + 1 := by
 intro l
 induction l with
 | nil => simp [insU]
 | cons y l ih =>
  unfold insU
  split
  · simp
  · split
    · simp
    · simp; omega
theorem insU_lt (s : Nm) : ∀ {l : List Nm}, l.Pairwise (· < ·) -> (insU s l).Pairwise (· < ·) := by
 intro l
 induction l with
 | nil => intro _; simp [insU]
 | cons y l ih =>
  intro h
  rw [List.pairwise_cons] at h
  unfold insU
  split
  · rename_i h1
    rw [List.pairwise_cons]
    refine ⟨fun z hz => ?_, List.pairwise_cons.2 h⟩
    rcases List.mem_cons.1 hz with rfl | hz
    · exact h1
    · exact List.lt_trans h1 (h.1 z hz)
  · split
    · exact List.pairwise_cons.2 h
    · rename_i h1 h2
      rw [List.pairwise_cons]
      refine ⟨fun z hz => ?_, ih h.2⟩
      rcases mem_insU.1 hz with rfl | hz
      · rcases Std.lt_trichotomy z y with h3 | h3 | h3
        · exact absurd h3 h1
        · exact absurd h3 h2
        · exact h3
      · exact h.1 z hz
theorem ins_copy (x0 : List ByteArray) (x1 : ByteArray) (hl : x0.length < 1000000) : ∀ (m j : Nat) (x5 : List ByteArray), j + m = x0.length -> x5.length <= 2 * j + 2 -> Ev (fun k => r_Insert.l0 k x0 x1 x5 true j) (x5 ++ x0.drop j) := by
 intro m
 induction m with
 | zero =>
  intro j x5 hj hx
  rw [List.drop_eq_nil_of_le (by omega), List.append_nil]
  refine Ev.step (fun k => ?_) (Ev.now _)
  simp only [r_Insert.l0]
  rw [if_neg (by omega), if_pos trivial]
 | succ m ih =>
  intro j x5 hj hx
  have h1 := ih (j + 1) (x5 ++ [rdOf ByteArray.empty x0 j]) (by omega) (by simp; omega)
  rw [drop_strs x0 j (by omega)]
  rw [List.append_assoc, List.singleton_append] at h1
  refine Ev.step (fun k => ?_) (Ev.step (g := fun k => r_Insert.j1 k x0 x1 x5 true j false) (fun k => ?_) h1)
  · simp only [r_Insert.l0]
    rw [if_pos (by omega), if_pos trivial]
  · simp only [r_Insert.j1]
    rw [if_neg (by simp), if_pos (by omega), if_pos (by omega), if_pos (by omega), succ_cast j (by omega)]
theorem ins_ev (L : List Nm) (s : ByteArray) (hl : L.length < 1000000) : Ev (fun k => r_Insert.f k (L.map bz) s) ((insU (dat s) L).map bz) := by
 have hrd : ∀ j : Nat, (h : j < L.length) -> rdOf ByteArray.empty (L.map bz) (j : Int) = bz L[j] := by
  intro j h
  simp [rdOf, List.getElem?_eq_getElem h]
 have key : ∀ (m j : Nat) (x5 : List ByteArray), j + m = L.length -> x5.length <= j -> Ev (fun k => r_Insert.l0 k (L.map bz) s x5 false j) (x5 ++ (insU (dat s) (L.drop j)).map bz) := by
  intro m
  induction m with
  | zero =>
   intro j x5 hj hx
   rw [List.drop_eq_nil_of_le (by omega)]
   refine Ev.step (fun k => ?_) (Ev.now _)
   simp only [r_Insert.l0]
   rw [if_neg (by rw [List.length_map]; omega), if_neg (by simp), if_pos (by omega)]
   simp [insU, bz_dat]
  | succ m ih =>
   intro j x5 hj hx
   have hjl : j < L.length := by omega
   have hjm : (j : Int) < ((L.map bz).length : Int) := by rw [List.length_map]; omega
   rw [List.drop_eq_getElem_cons hjl]
   have hr := hrd j hjl
   by_cases h1 : L[j] < dat s
   · have e : insU (dat s) (L[j] :: L.drop (j + 1)) = L[j] :: insU (dat s) (L.drop (j + 1)) := by
      rw [insU, if_neg (fun h => List.lt_irrefl _ (List.lt_trans h h1)), if_neg (fun h => by rw [h] at h1; exact List.lt_irrefl _ h1)]
     rw [e]
     have h2 := ih (j + 1) (x5 ++ [rdOf ByteArray.empty (L.map bz) j]) (by omega) (by simp; omega)
     rw [hr, List.append_assoc, List.singleton_append] at h2
     refine Ev.step (fun k => ?_) (Ev.step (g := fun k => r_Insert.j1 k (L.map bz) s x5 false j false) (fun k => ?_) h2)
     · simp only [r_Insert.l0]
       rw [if_pos hjm, if_neg (by simp), if_pos (by omega), less_dat, hr, dat_bz, decide_eq_true h1]
       rfl
     · simp only [r_Insert.j1]
       rw [if_neg (by simp), if_pos (by omega), if_pos hjm, if_pos (by omega), succ_cast j (by omega), hr]
   have hcond : (!(Op.bytesLess ((rdOf ByteArray.empty (L.map bz) (j : Int)).toList) s.toList)) = true := by rw [less_dat, hr, dat_bz, decide_eq_false h1]; rfl
   by_cases h2 : dat s < L[j]
   · have e : insU (dat s) (L[j] :: L.drop (j + 1)) = dat s :: L[j] :: L.drop (j + 1) := by rw [insU, if_pos h2]
     rw [e]
     have h3 := ins_copy (L.map bz) s (by rw [List.length_map]; omega) m (j + 1) ((x5 ++ [s]) ++ [rdOf ByteArray.empty (L.map bz) j]) (by rw [List.length_map]; omega) (by simp; omega)
     rw [hr, <- List.map_drop] at h3
     refine Ev.step (fun k => ?_) (Ev.step (g := fun k => r_Insert.j1 k (L.map bz) s x5 false j true) (fun k => ?_) (r := x5 ++ List.map bz (dat s :: L[j] :: List.drop (j + 1) L)) (f := fun k => r_Insert.l0 k (L.map bz) s ((x5 ++ [s]) ++ [bz L[j]]) true ((j + 1 : Nat) : Int)) ?_)
     · simp only [r_Insert.l0]
       rw [if_pos hjm, if_neg (by simp), if_pos (by omega), hcond]
     · simp only [r_Insert.j1]
       rw [if_pos trivial, if_pos (by omega), if_pos hjm, if_pos (by rw [less_dat, hr, dat_bz, decide_eq_true h2]), if_pos (by omega), Option.bind_some, if_pos (by simp; omega), succ_cast j (by omega), hr]
     · rw [List.map_cons, List.map_cons, bz_dat]
       simpa only [List.append_assoc, List.singleton_append, List.cons_append, List.nil_append] using h3
   have h4 : dat s = L[j] := by
    rcases Std.lt_trichotomy (dat s) L[j] with h | h | h
    · exact absurd h h2
    · exact h
    · exact absurd h h1
   have e : insU (dat s) (L[j] :: L.drop (j + 1)) = L[j] :: L.drop (j + 1) := by rw [insU, if_neg h2, if_pos h4]
   rw [e]
   have h3 := ins_copy (L.map bz) s (by rw [List.length_map]; omega) m (j + 1) (x5 ++ [rdOf ByteArray.empty (L.map bz) j]) (by rw [List.length_map]; omega) (by simp; omega)
   rw [hr, <- List.map_drop] at h3
   refine Ev.step (fun k => ?_) (Ev.step (g := fun k => r_Insert.j1 k (L.map bz) s x5 false j true) (fun k => ?_) (f := fun k => r_Insert.l0 k (L.map bz) s (x5 ++ [bz L[j]]) true ((j + 1 : Nat) : Int)) ?_)
   · simp only [r_Insert.l0]
     rw [if_pos hjm, if_neg (by simp), if_pos (by omega), hcond]
   · simp only [r_Insert.j1]
     rw [if_pos trivial, if_pos (by omega), if_pos hjm, if_neg (by rw [less_dat, hr, dat_bz, decide_eq_false h2]; simp), if_pos (by omega), succ_cast j (by omega), hr]
   · rw [List.map_cons]
     simpa only [List.append_assoc, List.singleton_append, List.cons_append, List.nil_append] using h3
 have h := key L.length 0 [] (by omega) (by simp)
 rw [List.drop_zero, List.nil_append] at h
 exact h
theorem lt_ext : ∀ {a b : List Nm}, a.Pairwise (· < ·) -> b.Pairwise (· < ·) -> (∀ x, x ∈ a ↔ x ∈ b) -> a = b := by
 intro a
 induction a with
 | nil =>
  intro b _ _ h
  cases b with
  | nil => rfl
  | cons y b => exact absurd ((h y).2 (by simp)) (by simp)
 | cons x a ih =>
  intro b ha hb h
  cases b with
  | nil => exact absurd ((h x).1 (by simp)) (by simp)
  | cons y b =>
   rw [List.pairwise_cons] at ha hb
   have hxy : x = y := by
    rcases List.mem_cons.1 ((h x).1 (by simp)) with e | e
    · exact e
    · rcases List.mem_cons.1 ((h y).2 (by simp)) with e2 | e2
      · exact e2.symm
      · exact absurd (List.lt_trans (hb.1 x e) (ha.1 y e2)) (List.lt_irrefl _)
   subst hxy
   rw [ih ha.2 hb.2 (fun z => ?_)]
   have hz := h z
   simp only [List.mem_cons] at hz
   constructor
   · intro hza
     rcases hz.1 (.inr hza) with e | e
     · subst e; exact absurd (ha.1 z hza) (List.lt_irrefl _)
     · exact e
   · intro hzb
     rcases hz.2 (.inr hzb) with e | e
     · subst e; exact absurd (hb.1 z hzb) (List.lt_irrefl _)
     · exact e
theorem asc_lt (S : List Nm) : (asc S).Pairwise (· < ·) := by
 have h1 := asc_pair S
 have h2 : (asc S).Nodup := (asc_elems S).nodup
 refine (h1.and h2).imp ?_
 rintro a b ⟨h3, h4⟩
 rcases Std.lt_trichotomy a b with h | h | h
 · exact h
 · exact absurd h h4
 · exact absurd (List.lt_of_le_of_lt h3 h) (List.lt_irrefl _)
theorem insU_asc (S : List Nm) (x : Nm) : insU x (asc S) = asc (S ++ [x]) := by
 refine lt_ext (insU_lt x (asc_lt S)) (asc_lt _) (fun y => ?_)
 rw [mem_insU, mem_asc, mem_asc]
 simp [or_comm]
theorem asc_len (S : List Nm) : (asc S).length <= S.length := by
 have h1 : ∀ S : List Nm, (dd S).length <= S.length := by
  intro S
  induction S with
  | nil => simp [dd]
  | cons x S ih =>
   unfold dd
   split <;> simp <;> omega
 unfold asc
 rw [List.length_mergeSort]
 exact h1 S
theorem drop_mods (l : List S42) (i : Nat) (h : i < l.length) : l.drop i = rd_T42 l i :: l.drop (i + 1) := by
 have := drop_rd l (i : Int) (by omega) (by omega)
 simpa using this
theorem drop_imps (l : List S66) (i : Nat) (h : i < l.length) : l.drop i = rd_T66 l i :: l.drop (i + 1) := by
 have := drop_rdI l (i : Int) (by omega) (by omega)
 simpa using this
theorem names_ev (l : List S42) (hl : l.length < 100000) : Ev (fun k => r_Names.f k l) ((asc (l.map nm)).map bz) := by
 have key : ∀ (m j : Nat) (S : List Nm), j + m = l.length -> S.length = j -> Ev (fun k => r_Names.l0 k l ((asc S).map bz) j) ((asc (S ++ (l.drop j).map nm)).map bz) := by
  intro m
  induction m with
  | zero =>
   intro j S hj hS
   rw [List.drop_eq_nil_of_le (by omega), List.map_nil, List.append_nil]
   refine Ev.step (fun k => ?_) (Ev.now _)
   simp only [r_Names.l0]
   rw [if_neg (by omega)]
  | succ m ih =>
   intro j S hj hS
   have h1 := ins_ev (asc S) (rd_T42 l j).f0 (by have := asc_len S; omega)
   have h2 := ih (j + 1) (S ++ [nm (rd_T42 l j)]) (by omega) (by simp; omega)
   rw [drop_mods l j (by omega), List.map_cons, <- List.singleton_append, <- List.append_assoc]
   rw [<- insU_asc] at h2
   refine Ev.step (fun k => ?_) (Ev.bind h1 (f := fun k t => r_Names.l0 k l t ((j + 1 : Nat) : Int)) h2)
   simp only [r_Names.l0]
   rw [if_pos (by omega), if_pos (by omega), succ_cast j (by omega)]
 have h := key l.length 0 [] (by omega) rfl
 have e : asc ([] : List Nm) = [] := asc_self (by simp) (by simp)
 rw [e, List.drop_zero, List.nil_append] at h
 exact h
theorem imps_inner (l : List S42) (x : ByteArray) (hl : l.length < 100000) (hi : ∀ m ∈ l, m.f3.length <= 100000) (i : Nat) (hil : i < l.length) (hn : nm (rd_T42 l i) = dat x) (r : List ByteArray)
 (hk : Ev (fun k => r_Imports.l0 k l x ((asc ((rd_T42 l i).f3.map im)).map bz) ((i + 1 : Nat) : Int)) r) : Ev (fun k => r_Imports.l1 k l x [] i 0) r := by
 have hmem : (rd_T42 l i).f3.length <= 100000 := hi _ (Mg.mem_rd l i (by omega) (by omega))
 have key2 : ∀ (m j : Nat) (S : List Nm), j + m = (rd_T42 l i).f3.length -> (asc S).length <= j -> S = ((rd_T42 l i).f3.take j).map im -> Ev (fun k => r_Imports.l1 k l x ((asc S).map bz) i j) r := by
  intro m
  induction m with
  | zero =>
   intro j S hj hS hST
   rw [List.take_of_length_le (by omega)] at hST
   subst hST
   refine Ev.step (fun k => ?_) hk
   simp only [r_Imports.l1]
   rw [if_pos (by omega), if_pos (by omega), if_neg (by omega), succ_cast i (by omega)]
  | succ m ih =>
   intro j S hj hS hST
   have h1 := ins_ev (asc S) (rd_T66 (rd_T42 l i).f3 j).f0 (by omega)
   have h2 := ih (j + 1) (S ++ [im (rd_T66 (rd_T42 l i).f3 j)]) (by omega) (by rw [<- insU_asc]; have := insU_len (im (rd_T66 (rd_T42 l i).f3 j)) (asc S); omega) (by
    have := take_rdI (rd_T42 l i).f3 (j : Int) (by omega) (by omega)
    simp only [Int.toNat_natCast] at this
    rw [this, List.map_append, hST]
    simp)
   rw [<- insU_asc] at h2
   refine Ev.step (fun k => ?_) (Ev.bind h1 (f := fun k t => r_Imports.l1 k l x t i ((j + 1 : Nat) : Int)) h2)
   simp only [r_Imports.l1]
   rw [if_pos (by omega), if_pos (by omega), if_pos (by omega), if_pos (by rw [toL, toL]; exact hn), if_pos (by omega), succ_cast j (by omega)]
 have e : asc ([] : List Nm) = [] := asc_self (by simp) (by simp)
 have h := key2 (rd_T42 l i).f3.length 0 [] (by omega) (by rw [e]; exact Nat.le_refl _) (by simp)
 rw [e] at h
 exact h
theorem imps_skip (l : List S42) (x : ByteArray) (hl : l.length < 100000) (i : Nat) (hil : i < l.length) (hn : nm (rd_T42 l i) ≠ dat x) (R r : List ByteArray)
 (hk : Ev (fun k => r_Imports.l0 k l x R ((i + 1 : Nat) : Int)) r) : Ev (fun k => r_Imports.l1 k l x R i 0) r := by
 refine Ev.step (fun k => ?_) hk
 simp only [r_Imports.l1]
 rw [if_pos (by omega), if_pos (by omega)]
 by_cases h0 : (0 : Int) < (((rd_T42 l i).f3).length : Int)
 rotate_left
 · rw [if_neg h0, succ_cast i (by omega)]
 rw [if_pos h0, if_neg (by rw [toL, toL]; exact hn), succ_cast i (by omega)]
theorem impsL_cons_eq {m : S42} {l : List S42} {n : Nm} (h : nm m = n) : impsL (m :: l) n = m.f3.map im := by
 unfold impsL
 rw [List.find?_cons_of_pos (by simp [h])]
 rfl
theorem impsL_cons_ne {m : S42} {l : List S42} {n : Nm} (h : nm m ≠ n) : impsL (m :: l) n = impsL l n := by
 unfold impsL
 rw [List.find?_cons_of_neg (by simp [h])]
theorem imps_ev (l : List S42) (x : ByteArray) (hl : l.length < 100000) (hi : ∀ m ∈ l, m.f3.length <= 100000) (hnd : (l.map nm).Nodup) : Ev (fun k => r_Imports.f k l x) ((asc (impsL l (dat x))).map bz) := by
 have rest : ∀ (m j : Nat) (R : List ByteArray), j + m = l.length -> dat x ∉ (l.drop j).map nm -> Ev (fun k => r_Imports.l0 k l x R j) R := by
  intro m
  induction m with
  | zero =>
   intro j R hj _
   refine Ev.step (fun k => ?_) (Ev.now _)
   simp only [r_Imports.l0]
   rw [if_neg (by omega)]
  | succ m ih =>
   intro j R hj hx
   rw [drop_mods l j (by omega), List.map_cons, List.mem_cons, not_or] at hx
   refine Ev.step (fun k => ?_) (imps_skip l x hl j (by omega) (fun e => hx.1 e.symm) R R (ih (j + 1) R (by omega) hx.2))
   simp only [r_Imports.l0]
   rw [if_pos (by omega)]
 have e : asc ([] : List Nm) = [] := asc_self (by simp) (by simp)
 have key : ∀ (m j : Nat), j + m = l.length -> Ev (fun k => r_Imports.l0 k l x [] j) ((asc (impsL (l.drop j) (dat x))).map bz) := by
  intro m
  induction m with
  | zero =>
   intro j hj
   rw [List.drop_eq_nil_of_le (by omega)]
   have e2 : impsL ([] : List S42) (dat x) = [] := rfl
   rw [e2, e]
   refine Ev.step (fun k => ?_) (Ev.now _)
   simp only [r_Imports.l0]
   rw [if_neg (by omega)]
   rfl
  | succ m ih =>
   intro j hj
   rw [drop_mods l j (by omega)]
   by_cases hn : nm (rd_T42 l j) = dat x
   rotate_left
   · rw [impsL_cons_ne hn]
     refine Ev.step (fun k => ?_) (imps_skip l x hl j (by omega) hn [] _ (ih (j + 1) (by omega)))
     simp only [r_Imports.l0]
     rw [if_pos (by omega)]
   rw [impsL_cons_eq hn]
   have hx : dat x ∉ (l.drop (j + 1)).map nm := by
    have h1 : ((l.drop j).map nm).Nodup := by rw [List.map_drop]; exact (List.drop_sublist _ _).nodup hnd
    rw [drop_mods l j (by omega), List.map_cons, List.nodup_cons, hn] at h1
    exact h1.1
   refine Ev.step (fun k => ?_) (imps_inner l x hl hi j (by omega) hn _ (rest m (j + 1) _ (by omega) hx))
   simp only [r_Imports.l0]
   rw [if_pos (by omega)]
 have h := key l.length 0 (by omega)
 rw [List.drop_zero] at h
 exact h
def consF (l : List S42) : Int × ByteArray :=
 if (l.length : Int) > 32 then (3, ⟨#[]⟩) else match twice l [] with
  | some x => (13, x)
  | none => match miss (l.map nm) l with
   | some x => (16, x)
   | none => (0, ⟨#[]⟩)
theorem made_consF (l : List S42) (h : okSizes l) : m_made.f l = some (if (consF l).1 = 0 then (namesOf l, edgesOf l, 0, ⟨#[]⟩, 0, 0) else ([], [], (consF l).1, (consF l).2, 0, 0)) := by
 unfold m_made.f consF
 by_cases hl : (l.length : Int) > 32
 · rw [if_pos hl, if_pos hl]; rfl
 rw [if_neg hl, if_neg hl, if_pos h]
 cases twice l [] with
 | some x => rfl
 | none =>
  cases miss (l.map nm) l with
  | some x => rfl
  | none => rfl
theorem mem_nm (x : ByteArray) (S : List ByteArray) : (dat x ∈ S.map dat) ↔ x ∈ S :=
 ⟨fun h => by obtain ⟨y, hy, e⟩ := List.mem_map.1 h; exact dat_inj e ▸ hy, fun h => List.mem_map.2 ⟨x, h, rfl⟩⟩
theorem cons_ev (l : List S42) (hi : ∀ m ∈ l, m.f3.length <= 100000) : Ev (fun k => r_consistent.f k l) ((consF l).1, (consF l).2, 0, 0) := by
 unfold consF
 by_cases hl : (l.length : Int) > 32
 · rw [if_pos hl]
   refine Ev.congr (fun k => ?_) (Ev.now _)
   unfold r_consistent.f
   rw [if_pos hl]
 rw [if_neg hl]
 have hS : l.map nm = (l.map (fun m => m.f0)).map dat := by rw [List.map_map]; rfl
 have k2 : ∀ (i : Nat), i < l.length -> ∀ (m j : Nat) (r : Int × ByteArray × Int × Int), j + m = (rd_T42 l i).f3.length ->
  (∀ y, missI (l.map nm) ((rd_T42 l i).f3.drop j) = some y -> r = (16, y, 0, 0)) -> (missI (l.map nm) ((rd_T42 l i).f3.drop j) = none -> Ev (fun k => r_consistent.l1 k l (l.map (fun m => m.f0)) ((i + 1 : Nat) : Int)) r) ->
  Ev (fun k => r_consistent.l2 k l (l.map (fun m => m.f0)) i j) r := by
  intro i hil m
  have hmem : (rd_T42 l i).f3.length <= 100000 := hi _ (Mg.mem_rd l i (by omega) (by omega))
  induction m with
  | zero =>
   intro j r hj _ h2
   rw [List.drop_eq_nil_of_le (by omega)] at h2
   refine Ev.step (fun k => ?_) (h2 rfl)
   simp only [r_consistent.l2]
   rw [if_pos (by omega), if_pos (by omega), if_neg (by omega), succ_cast i (by omega)]
  | succ m ih =>
   intro j r hj h1 h2
   have hb := has_ev (l.map (fun m => m.f0)) (rd_T66 (rd_T42 l i).f3 j).f0 (by rw [List.length_map]; omega)
   rw [drop_imps _ j (by omega)] at h1 h2
   by_cases hc : (l.map nm).contains (im (rd_T66 (rd_T42 l i).f3 j)) = true
   · unfold missI at h1 h2
     rw [if_pos hc] at h1 h2
     rw [decide_eq_true ((mem_nm _ _).1 (by rw [<- hS]; exact List.contains_iff_mem.1 hc))] at hb
     refine Ev.step (fun k => ?_) (Ev.bind hb (f := fun k t => if t = true then r_consistent.l2 k l (l.map (fun m => m.f0)) i ((j + 1 : Nat) : Int) else some (16, (rd_T66 (rd_T42 l i).f3 j).f0, 0, 0)) (ih (j + 1) r (by omega) h1 h2))
     simp only [r_consistent.l2]
     rw [if_pos (by omega), if_pos (by omega), if_pos (by omega), if_pos (by omega), succ_cast j (by omega)]
   unfold missI at h1 h2
   rw [if_neg hc] at h1 h2
   rw [decide_eq_false (fun h => hc (List.contains_iff_mem.2 (by rw [hS]; exact (mem_nm _ _).2 h)))] at hb
   have hr := h1 _ rfl
   rw [hr]
   refine Ev.step (fun k => ?_) (Ev.bind hb (f := fun k t => if t = true then r_consistent.l2 k l (l.map (fun m => m.f0)) i ((j + 1 : Nat) : Int) else some (16, (rd_T66 (rd_T42 l i).f3 j).f0, 0, 0)) (Ev.now _))
   simp only [r_consistent.l2]
   rw [if_pos (by omega), if_pos (by omega), if_pos (by omega), if_pos (by omega), succ_cast j (by omega)]
 have k1 : ∀ (m i : Nat), i + m = l.length -> Ev (fun k => r_consistent.l1 k l (l.map (fun m => m.f0)) i) (match miss (l.map nm) (l.drop i) with | some x => (16, x, 0, 0) | none => (0, ⟨#[]⟩, 0, 0)) := by
  intro m
  induction m with
  | zero =>
   intro i hi2
   rw [List.drop_eq_nil_of_le (by omega)]
   refine Ev.step (fun k => ?_) (Ev.now _)
   simp only [r_consistent.l1]
   rw [if_neg (by omega)]
   rfl
  | succ m ih =>
   intro i hi2
   rw [drop_mods l i (by omega)]
   refine Ev.step (fun k => ?_) (k2 i (by omega) _ 0 _ (Nat.zero_add _) (fun y hy => ?_) (fun hn => ?_))
   · simp only [r_consistent.l1]
     rw [if_pos (by omega)]
     rfl
   · rw [List.drop_zero] at hy
     unfold miss
     rw [hy]
   · rw [List.drop_zero] at hn
     unfold miss
     rw [hn]
     exact ih (i + 1) (by omega)
 have k0 : ∀ (m i : Nat), i + m = l.length -> Ev (fun k => r_consistent.l0 k l ((l.take i).map (fun m => m.f0)) i) (match twice (l.drop i) ((l.take i).map nm) with | some x => (13, x, 0, 0) | none => (match miss (l.map nm) l with | some x => (16, x, 0, 0) | none => (0, ⟨#[]⟩, 0, 0))) := by
  intro m
  induction m with
  | zero =>
   intro i hi2
   have h1 := k1 l.length 0 (by omega)
   rw [List.drop_zero] at h1
   rw [List.drop_eq_nil_of_le (by omega), List.take_of_length_le (by omega)]
   refine Ev.step (fun k => ?_) h1
   simp only [r_consistent.l0]
   rw [if_neg (by omega)]
   rfl
  | succ m ih =>
   intro i hi2
   have hT : (l.take i).map nm = ((l.take i).map (fun m => m.f0)).map dat := by rw [List.map_map]; rfl
   have hb := has_ev ((l.take i).map (fun m => m.f0)) (rd_T42 l i).f0 (by rw [List.length_map, List.length_take]; omega)
   have htk : (l.take (i + 1)) = l.take i ++ [rd_T42 l i] := by
    have := take_rd l (i : Int) (by omega) (by omega)
    simpa using this
   rw [drop_mods l i (by omega)]
   unfold twice
   by_cases hc : ((l.take i).map nm).contains (nm (rd_T42 l i)) = true
   · rw [if_pos hc]
     rw [decide_eq_true ((mem_nm _ _).1 (by rw [<- hT]; exact List.contains_iff_mem.1 hc))] at hb
     refine Ev.step (fun k => ?_) (Ev.bind hb (f := fun k t => if t = true then some (13, (rd_T42 l i).f0, 0, 0) else r_consistent.l0 k l ((l.take i).map (fun m => m.f0) ++ [(rd_T42 l i).f0]) ((i + 1 : Nat) : Int)) (Ev.now _))
     simp only [r_consistent.l0]
     rw [if_pos (by omega), if_pos (by omega), succ_cast i (by omega)]
     congr 1
     funext t
     rw [if_pos (show ((l.take i).map (fun m => m.f0)).length < 8796093022208 by rw [List.length_map, List.length_take]; omega)]
   rw [if_neg hc]
   rw [decide_eq_false (fun h => hc (List.contains_iff_mem.2 (by rw [hT]; exact (mem_nm _ _).2 h)))] at hb
   have h2 := ih (i + 1) (by omega)
   rw [htk, List.map_append, List.map_append] at h2
   refine Ev.step (fun k => ?_) (Ev.bind hb (f := fun k t => if t = true then some (13, (rd_T42 l i).f0, 0, 0) else r_consistent.l0 k l ((l.take i).map (fun m => m.f0) ++ [(rd_T42 l i).f0]) ((i + 1 : Nat) : Int)) h2)
   simp only [r_consistent.l0]
   rw [if_pos (by omega), if_pos (by omega), succ_cast i (by omega)]
   congr 1
   funext t
   rw [if_pos (show ((l.take i).map (fun m => m.f0)).length < 8796093022208 by rw [List.length_map, List.length_take]; omega)]
 have h := k0 l.length 0 (by omega)
 rw [List.drop_zero, List.take_zero, List.map_nil, List.map_nil] at h
 refine Ev.congr (fun k => ?_) (g := fun k => r_consistent.f k l) (f := fun k => r_consistent.l0 k l [] 0) ?_
 · unfold r_consistent.f
   rw [if_neg hl]
 · cases h1 : twice l [] with
   | some x => rw [h1] at h; exact h
   | none =>
    rw [h1] at h
    cases h2 : miss (l.map nm) l with
    | some x => simp only [h2] at h; exact h
    | none => simp only [h2] at h; exact h
theorem missI_none (K : List Nm) : ∀ {q : List S66}, missI K q = none -> ∀ i ∈ q, im i ∈ K := by
 intro q
 induction q with
 | nil => intro _ i hi; cases hi
 | cons i q ih =>
  intro h j hj
  unfold missI at h
  by_cases hc : K.contains (im i) = true
  rotate_left
  · rw [if_neg hc] at h; cases h
  rw [if_pos hc] at h
  rcases List.mem_cons.1 hj with rfl | hj
  · exact List.contains_iff_mem.1 hc
  · exact ih h j hj
theorem miss_none (K : List Nm) : ∀ {q : List S42}, miss K q = none -> ∀ m ∈ q, ∀ i ∈ m.f3, im i ∈ K := by
 intro q
 induction q with
 | nil => intro _ i hi; cases hi
 | cons a q ih =>
  intro h m hm
  unfold miss at h
  cases h1 : missI K a.f3 with
  | some x => rw [h1] at h; cases h
  | none =>
   rw [h1] at h
   rcases List.mem_cons.1 hm with rfl | hm
   · exact missI_none K h1
   · exact ih h m hm
structure Good (l : List S42) : Prop where
 len : l.length <= 32
 nod : (l.map nm).Nodup
 imp : ∀ m ∈ l, ∀ i ∈ m.f3, im i ∈ l.map nm
 few : ∀ m ∈ l, m.f3.length <= 100
theorem good_of {l : List S42} (h : (consF l).1 = 0) (hf : ∀ m ∈ l, m.f3.length <= 100) : Good l := by
 unfold consF at h
 by_cases hl : (l.length : Int) > 32
 · rw [if_pos hl] at h; cases h
 rw [if_neg hl] at h
 cases h1 : twice l [] with
 | some x => rw [h1] at h; cases h
 | none =>
  rw [h1] at h
  cases h2 : miss (l.map nm) l with
  | some x => simp only [h2] at h; cases h
  | none =>
   have h3 := twice_none l [] (by simp) h1
   exact ⟨by omega, by simpa using h3, miss_none _ h2, hf⟩
def nb (l : List S42) (i : Int) : ByteArray := rdOf ByteArray.empty (namesOf l) i
section
variable {l : List S42}
def NL (l : List S42) : List Nm := asc (l.map nm)
theorem NL_len (G : Good l) : (NL l).length = l.length := by
 have h1 := (asc_elems (l.map nm)).nodup
 have h2 : ∀ (a b : List Nm), a.Nodup -> (∀ x ∈ a, x ∈ b) -> a.length <= b.length := by
  intro a
  induction a with
  | nil => intro b _ _; simp
  | cons x a ih =>
   intro b hn hs
   rw [List.nodup_cons] at hn
   have hx := hs x (by simp)
   have := ih (b.erase x) hn.2 (fun y hy => (List.mem_erase_of_ne (by rintro rfl; exact hn.1 hy)).2 (hs y (by simp [hy])))
   rw [List.length_erase_of_mem hx] at this
   have := List.length_pos_of_mem hx
   rw [List.length_cons]; omega
 have h3 := h2 _ _ h1 (fun x hx => mem_asc.1 hx)
 have h4 := h2 _ _ G.nod (fun x hx => (mem_asc (S := l.map nm)).2 hx)
 rw [List.length_map] at h3 h4
 exact Nat.le_antisymm h3 h4
theorem es_len (G : Good l) : (edgesOf l).length = l.length := by
 unfold edgesOf; rw [List.length_map]; exact NL_len G
theorem nb_at (G : Good l) {i : Int} (h0 : 0 <= i) (h1 : i < l.length) : ∃ h : i.toNat < (NL l).length, nb l i = bz (NL l)[i.toNat] :=
 rd_bz (NL l) i h0 (by rw [NL_len G]; exact h1)
theorem nb_lt (G : Good l) {i j : Int} (h0 : 0 <= i) (h1 : i < j) (h2 : j < l.length) : dat (nb l i) < dat (nb l j) := by
 obtain ⟨a, ha⟩ := nb_at G h0 (by omega)
 obtain ⟨b, hb⟩ := nb_at G (by omega) h2
 rw [ha, hb, dat_bz, dat_bz]
 exact List.pairwise_iff_getElem.1 (asc_lt (l.map nm)) _ _ a b (by omega)
theorem nb_inj (G : Good l) {i j : Int} (h0 : 0 <= i) (h1 : i < l.length) (h2 : 0 <= j) (h3 : j < l.length) (h : nb l i = nb l j) : i = j := by
 rcases Int.lt_trichotomy i j with e | e | e
 · have := nb_lt G h0 e h3; rw [h] at this; exact absurd this (List.lt_irrefl _)
 · exact e
 · have := nb_lt G h2 e h1; rw [h] at this; exact absurd this (List.lt_irrefl _)
theorem rank_at (L : List Nm) (hp : L.Pairwise (· < ·)) (t : Nat) (ht : t < L.length) : rank L L[t] = t := by
 rcases Nat.lt_trichotomy (rank L L[t]) t with h | h | h
 · have h1 := rank_ge L L[t] (hp.imp (fun h => List.le_of_lt h)) (rank L L[t]) (by omega) (Nat.le_refl _)
   exact absurd (List.pairwise_iff_getElem.1 hp _ _ (by omega) ht h) h1
 · exact h
 · obtain ⟨h1, h2⟩ := rank_lt L L[t] t h
   exact absurd h2 (List.lt_irrefl _)
theorem nb_rank (G : Good l) {y : Nm} (hy : y ∈ l.map nm) : (0 : Int) <= (rank (NL l) y : Int) /\ (rank (NL l) y : Int) < l.length /\ nb l (rank (NL l) y : Int) = bz y := by
 obtain ⟨t, ht, rfl⟩ := List.mem_iff_getElem.1 ((mem_asc (S := l.map nm)).2 hy)
 have hr : rank (NL l) ((asc (l.map nm))[t]) = t := rank_at _ (asc_lt _) t ht
 rw [hr]
 have hl : t < l.length := by have := NL_len G; unfold NL at this; omega
 refine ⟨by omega, by omega, ?_⟩
 obtain ⟨h1, h2⟩ := nb_at G (i := (t : Int)) (by omega) (by omega)
 rw [h2]
 rfl
theorem row_es (G : Good l) {i : Int} (h0 : 0 <= i) (h1 : i < l.length) : row (edgesOf l) i = edgeOf l (dat (nb l i)) := by
 obtain ⟨h, e⟩ := nb_at G h0 h1
 rw [e, dat_bz]
 obtain ⟨t, rfl⟩ : ∃ t : Nat, i = t := ⟨i.toNat, by omega⟩
 have ht : t < (edgesOf l).length := by rw [es_len G]; omega
 rw [row_mem _ t ht]
 exact List.getElem_map (edgeOf l) (l := NL l) (h := ht)
theorem imps_in (G : Good l) (n : Nm) : (∀ y ∈ impsL l n, y ∈ l.map nm) /\ (impsL l n).length <= 100 := by
 unfold impsL
 cases h : l.find? (fun m => nm m == n) with
 | none => simp
 | some m =>
  have hm := List.mem_of_find?_eq_some h
  simp only [Option.map_some, Option.getD_some]
  refine ⟨fun y hy => ?_, by rw [List.length_map]; exact G.few m hm⟩
  obtain ⟨i, hi, rfl⟩ := List.mem_map.1 hy
  exact G.imp m hm i hi
theorem row_nb (G : Good l) {i : Int} (h0 : 0 <= i) (h1 : i < l.length) : (row (edgesOf l) i).map (nb l) = (asc (impsL l (dat (nb l i)))).map bz := by
 rw [row_es G h0 h1]
 unfold edgeOf
 rw [List.map_map]
 refine List.map_congr_left fun y hy => ?_
 exact (nb_rank G ((imps_in G _).1 y (mem_asc.1 hy))).2.2
theorem es_vld (G : Good l) : Vld (edgesOf l) := by
 intro v hv w hw
 have hv' : v < l.length := by have := hv.2; rw [es_len G] at this; exact this
 rw [row_es G hv.1 hv'] at hw
 unfold edgeOf at hw
 obtain ⟨y, hy, rfl⟩ := List.mem_map.1 hw
 have := nb_rank G ((imps_in G _).1 y (mem_asc.1 hy))
 exact ⟨this.1, by rw [es_len G]; exact this.2.1⟩
theorem row_len (G : Good l) {v : Int} (h0 : 0 <= v) (h1 : v < l.length) : (row (edgesOf l) v).length <= 100 := by
 rw [row_es G h0 h1]
 unfold edgeOf
 rw [List.length_map]
 exact Nat.le_trans (asc_len _) (imps_in G _).2
theorem names_iota (G : Good l) : namesOf l = (iota l.length).map (nb l) := by
 have hlen : (namesOf l).length = l.length := by unfold namesOf; rw [List.length_map]; exact NL_len G
 refine List.ext_getElem (by rw [hlen, List.length_map, iota_length]) (fun i h1 h2 => ?_)
 rw [List.getElem_map]
 have e : (iota l.length)[i]'(by rw [iota_length]; omega) = (i : Int) := by simp [iota]
 rw [e]
 unfold nb
 simp [rdOf, List.getElem?_eq_getElem h1]
theorem names_len (G : Good l) : (namesOf l).length = l.length := by unfold namesOf; rw [List.length_map]; exact NL_len G
def VL (l : List S42) (L : List Int) : Prop := ∀ x ∈ L, 0 <= x /\ x < l.length
theorem VL.row (G : Good l) {v : Int} (h0 : 0 <= v) (h1 : v < l.length) : VL l (row (edgesOf l) v) := fun x hx => by
 have := es_vld G v ⟨h0, by rw [es_len G]; exact h1⟩ x hx
 unfold nd at this
 rw [es_len G] at this
 exact this
theorem mem_nb (G : Good l) {L : List Int} (hL : VL l L) {i : Int} (h0 : 0 <= i) (h1 : i < l.length) : nb l i ∈ L.map (nb l) ↔ i ∈ L := by
 constructor
 · intro h
   obtain ⟨j, hj, e⟩ := List.mem_map.1 h
   exact nb_inj G (hL j hj).1 (hL j hj).2 h0 h1 e ▸ hj
 · intro h
   exact List.mem_map.2 ⟨i, h, rfl⟩
theorem has_at (G : Good l) {L : List Int} (hL : VL l L) {i : Int} (h0 : 0 <= i) (h1 : i < l.length) (hl : L.length < 1000000) : Ev (fun k => q_Has.f k (L.map (nb l)) (nb l i)) (decide (i ∈ L)) := by
 have h := has_ev (L.map (nb l)) (nb l i) (by rw [List.length_map]; exact hl)
 rw [show decide (nb l i ∈ L.map (nb l)) = decide (i ∈ L) from decide_eq_decide.2 (mem_nb G hL h0 h1)] at h
 exact h
theorem imps_at (G : Good l) {i : Int} (h0 : 0 <= i) (h1 : i < l.length) : Ev (fun k => r_Imports.f k l (nb l i)) ((row (edgesOf l) i).map (nb l)) := by
 rw [row_nb G h0 h1]
 exact imps_ev l (nb l i) (by have := G.len; omega) (fun m hm => by have := G.few m hm; omega) G.nod
theorem names_at (G : Good l) : Ev (fun k => r_Names.f k l) ((iota l.length).map (nb l)) := by
 rw [<- names_iota G]
 exact names_ev l (by have := G.len; omega)
def insI (s : Int) : List Int -> List Int
 | [] => [s]
 | x :: l => if s < x then s :: x :: l else if s = x then x :: l else x :: insI s l
theorem mem_insI {s x : Int} : ∀ {L : List Int}, x ∈ insI s L ↔ x = s \/ x ∈ L := by
 intro L
 induction L with
 | nil => simp [insI]
 | cons y L ih =>
  unfold insI
  split
  · simp
  · split
    · rename_i h; subst h; simp
    · simp only [List.mem_cons, ih]
      constructor
      · rintro (h | h | h)
        · exact .inr (.inl h)
        · exact .inl h
        · exact .inr (.inr h)
      · rintro (h | h | h)
        · exact .inr (.inl h)
        · exact .inl h
        · exact .inr (.inr h)
theorem insI_lt (s : Int) : ∀ {L : List Int}, L.Pairwise (· < ·) -> (insI s L).Pairwise (· < ·) := by
 intro L
 induction L with
 | nil => intro _; simp [insI]
 | cons y L ih =>
  intro h
  rw [List.pairwise_cons] at h
  unfold insI
  split
  · rename_i h1
    rw [List.pairwise_cons]
    refine ⟨fun z hz => ?_, List.pairwise_cons.2 h⟩
    rcases List.mem_cons.1 hz with rfl | hz
    · exact h1
    · have := h.1 z hz; omega
  · split
    · exact List.pairwise_cons.2 h
    · rename_i h1 h2
      rw [List.pairwise_cons]
      refine ⟨fun z hz => ?_, ih h.2⟩
      rcases mem_insI.1 hz with rfl | hz
      · omega
      · exact h.1 z hz
theorem VL.insI {L : List Int} (hL : VL l L) {i : Int} (h0 : 0 <= i) (h1 : i < l.length) : VL l (insI i L) := fun x hx => by
 rcases mem_insI.1 hx with rfl | hx
 · exact ⟨h0, h1⟩
 · exact hL x hx
theorem insU_nb (G : Good l) {i : Int} (h0 : 0 <= i) (h1 : i < l.length) : ∀ {L : List Int}, VL l L -> insU (dat (nb l i)) (L.map (fun x => dat (nb l x))) = (insI i L).map (fun x => dat (nb l x)) := by
 intro L
 induction L with
 | nil => intro _; rfl
 | cons x L ih =>
  intro hL
  have hx := hL x (by simp)
  rw [List.map_cons, insU, insI]
  rcases Int.lt_trichotomy i x with e | e | e
  · rw [if_pos (nb_lt G h0 e hx.2), if_pos e]; rfl
  · subst e
    rw [if_neg (List.lt_irrefl _), if_pos rfl, if_neg (by omega), if_pos rfl]; rfl
  · have h2 := nb_lt G hx.1 e h1
    rw [if_neg (fun h => List.lt_irrefl _ (List.lt_trans h h2)), if_neg (fun h => by rw [h] at h2; exact List.lt_irrefl _ h2), if_neg (by omega), if_neg (by omega), ih (fun y hy => hL y (by simp [hy]))]
    rfl
theorem ins_at (G : Good l) {L : List Int} (hL : VL l L) {i : Int} (h0 : 0 <= i) (h1 : i < l.length) (hl : L.length < 1000000) : Ev (fun k => r_Insert.f k (L.map (nb l)) (nb l i)) ((insI i L).map (nb l)) := by
 have e : ∀ q : List Int, q.map (nb l) = (q.map (fun x => dat (nb l x))).map bz := fun q => by
  rw [List.map_map]
  exact List.map_congr_left fun x _ => (bz_dat _).symm
 have h := ins_ev (L.map (fun x => dat (nb l x))) (nb l i) (by rw [List.length_map]; exact hl)
 rw [insU_nb G h0 h1 hL, <- e, <- e] at h
 exact h
theorem rd_strs {L : List Int} (j : Nat) (h : j < L.length) : rdOf ByteArray.empty (L.map (nb l)) (j : Int) = nb l (rd L j) := by
 rw [rd_at L j h]
 simp [rdOf, List.getElem?_eq_getElem h]
theorem named_at (G : Good l) {L : List Int} (hL : VL l L) (hl : L.length < 1000000) : Ev (fun k => p_named.f k (namesOf l) (edgesOf l) L) (L.map (nb l)) := by
 have key : ∀ (m j : Nat) (R : List ByteArray), j + m = L.length -> R.length = j -> Ev (fun k => p_named.l0 k R L (L.length : Int) j (namesOf l) (edgesOf l)) (R ++ (L.drop j).map (nb l)) := by
  intro m
  induction m with
  | zero =>
   intro j R hj hR
   rw [List.drop_eq_nil_of_le (by omega), List.map_nil, List.append_nil]
   refine Ev.step (fun k => ?_) (Ev.now _)
   simp only [p_named.l0]
   rw [if_neg (by omega)]
  | succ m ih =>
   intro j R hj hR
   have hv := hL (rd L j) (by rw [rd_at L j (by omega)]; exact List.getElem_mem _)
   have h2 := ih (j + 1) (R ++ [nb l (rd L j)]) (by omega) (by simp; omega)
   rw [drop_row L j (by omega), List.map_cons]
   rw [List.append_assoc, List.singleton_append] at h2
   refine Ev.step (fun k => ?_) h2
   simp only [p_named.l0]
   rw [if_pos (by omega), if_pos (by omega), if_pos (by omega), if_pos hv.1, if_pos (by rw [names_len G]; exact hv.2), if_pos (by omega), succ_cast j (by omega)]
   rfl
 have h := key L.length 0 [] (by omega) rfl
 rw [List.drop_zero, List.nil_append] at h
 exact h
end
def Wk (es : List (List Int)) : Nat -> Int -> Int -> Prop
 | 0, a, b => a = b
 | m + 1, a, b => ∃ c ∈ row es a, Wk es m c b
section
variable {es : List (List Int)}
theorem wk_add {m n : Nat} {a b c : Int} (h : Wk es m a b) (h2 : Wk es n b c) : Wk es (m + n) a c := by
 induction m generalizing a with
 | zero => have e : a = b := h; subst e; rw [Nat.zero_add]; exact h2
 | succ m ih =>
  obtain ⟨x, hx, h⟩ := h
  rw [Nat.succ_add]
  exact ⟨x, hx, ih h⟩
theorem wk_split {m n : Nat} {a c : Int} (h : Wk es (m + n) a c) : ∃ b, Wk es m a b /\ Wk es n b c := by
 induction m generalizing a with
 | zero => rw [Nat.zero_add] at h; exact ⟨a, rfl, h⟩
 | succ m ih =>
  rw [Nat.succ_add] at h
  obtain ⟨x, hx, h⟩ := h
  obtain ⟨b, h1, h2⟩ := ih h
  exact ⟨b, ⟨x, hx, h1⟩, h2⟩
theorem wk_one {a b : Int} (h : b ∈ row es a) : Wk es 1 a b := ⟨b, h, rfl⟩
structure DL (es : List (List Int)) (t : Int) (dl : List Int) : Prop where
 len : dl.length = es.length
 non : ∀ v, nd es v -> rd dl v < 0 -> rd dl v = -1 /\ ∀ m, ¬ Wk es m v t
 has : ∀ v, nd es v -> 0 <= rd dl v -> Wk es (rd dl v).toNat v t /\ ∀ m, Wk es m v t -> rd dl v <= m
 up : ∀ v, nd es v -> rd dl v < es.length
structure DInv (es : List (List Int)) (t : Int) (d : List Int) : Prop where
 len : d.length = es.length
 nt : nd es t
 at0 : rd d t = 0
 low : ∀ v, nd es v -> -1 <= rd d v
 wk : ∀ v, nd es v -> 0 <= rd d v -> Wk es (rd d v).toNat v t
 up : ∀ v, nd es v -> rd d v + (d.count (-1) : Nat) < es.length
def mz (n : Nat) (x : Int) : Nat := if x < 0 then n else x.toNat
def Ms (n : Nat) (d : List Int) : Nat := (d.map (mz n)).sum
theorem ms_set (n : Nat) : ∀ (d : List Int) (i : Nat) (x : Int) (h : i < d.length), Ms n (d.set i x) + mz n d[i] = Ms n d + mz n x := by
 intro d
 induction d with
 | nil => intro i x h; cases h
 | cons y d ih =>
  intro i x h
  cases i with
  | zero => simp [Ms]; omega
  | succ i =>
   have := ih i x (by simpa using h)
   simp only [List.set_cons_succ, List.getElem_cons_succ]
   unfold Ms at this ⊢
   rw [List.map_cons, List.sum_cons, List.map_cons, List.sum_cons]
   omega
theorem count_set1 : ∀ (d : List Int) (i : Nat) (x : Int) (h : i < d.length), 0 <= x -> (d.set i x).count (-1) + (if d[i] = -1 then 1 else 0) = d.count (-1) := by
 intro d
 induction d with
 | nil => intro i x h; cases h
 | cons y d ih =>
  intro i x h hx
  cases i with
  | zero =>
   have hx1 : ¬ x = -1 := by omega
   simp [List.count_cons, hx1]
  | succ i =>
   have := ih i x (by simpa using h) hx
   simp only [List.set_cons_succ, List.getElem_cons_succ, List.count_cons]
   omega
theorem relax_inv {t : Int} {d : List Int} {v w : Int} (I : DInv es t d) (hv : nd es v) (hw : nd es w) (hvw : w ∈ row es v) (h0 : 0 <= rd d w) (h1 : rd d v < 0 \/ rd d v > rd d w + 1) :
 DInv es t (d.set v.toNat (rd d w + 1)) /\ Ms es.length (d.set v.toNat (rd d w + 1)) < Ms es.length d := by
 have hvl : v < d.length := by rw [I.len]; exact hv.2
 have hvn : v.toNat < d.length := by have := hv.1; omega
 have hrd : ∀ u, 0 <= u -> rd (d.set v.toNat (rd d w + 1)) u = if u = v then rd d w + 1 else rd d u := fun u hu => rd_set d v u _ hv.1 hvl hu
 have hgv : d[v.toNat] = rd d v := by
  rw [<- rd_at d v.toNat hvn, show ((v.toNat : Nat) : Int) = v by have := hv.1; omega]
 have hc := count_set1 d v.toNat (rd d w + 1) hvn (by omega)
 have hms := ms_set es.length d v.toNat (rd d w + 1) hvn
 rw [hgv] at hc hms
 have hlowv := I.low v hv
 have huw := I.up w hw
 have huv := I.up v hv
 refine ⟨⟨by rw [List.length_set]; exact I.len, I.nt, ?_, ?_, ?_, ?_⟩, ?_⟩
 · rw [hrd t I.nt.1, if_neg]
   · exact I.at0
   · rintro rfl
     have := I.at0
     omega
 · intro u hu
   rw [hrd u hu.1]
   split
   · omega
   · exact I.low u hu
 · intro u hu hu0
   rw [hrd u hu.1] at hu0 ⊢
   split
   · rename_i e
     subst e
     rw [show (rd d w + 1).toNat = (rd d w).toNat + 1 by omega]
     exact ⟨w, hvw, I.wk w hw h0⟩
   · rename_i e
     rw [if_neg e] at hu0
     exact I.wk u hu hu0
 · intro u hu
   have huu := I.up u hu
   rw [hrd u hu.1]
   split at hc
   · rename_i e
     split <;> omega
   · rename_i e
     split <;> omega
 · unfold mz at hms
   rw [if_neg (show ¬ rd d w + 1 < 0 by omega)] at hms
   split at hms
   · have : (rd d w + 1).toNat < es.length := by
      rw [if_pos (by omega)] at hc
      omega
     omega
   · omega
def okE (d : List Int) (u w : Int) : Prop := 0 <= rd d w -> 0 <= rd d u /\ rd d u <= rd d w + 1
theorem dl_of {t : Int} {d : List Int} (hvld : Vld es) (I : DInv es t d) (h : ∀ u, nd es u -> ∀ w ∈ row es u, okE d u w) : DL es t d := by
 have key : ∀ (m : Nat) (v : Int), nd es v -> Wk es m v t -> 0 <= rd d v /\ rd d v <= m := by
  intro m
  induction m with
  | zero =>
   intro v hv hw
   have e : v = t := hw
   rw [e, I.at0]
   omega
  | succ m ih =>
   rintro v hv ⟨c, hc, hw⟩
   obtain ⟨h1, h2⟩ := ih c (hvld v hv c hc) hw
   obtain ⟨h3, h4⟩ := h v hv c hc h1
   exact ⟨h3, by omega⟩
 refine ⟨I.len, fun v hv hn => ⟨by have := I.low v hv; omega, fun m hw => ?_⟩, fun v hv h0 => ⟨I.wk v hv h0, fun m hw => (key m v hv hw).2⟩, fun v hv => by have := I.up v hv; omega⟩
 have := (key m v hv hw).1
 omega
theorem pass_ev (names : List ByteArray) {t : Int} (hvld : Vld es) (hn : es.length <= 60) (hr : ∀ v, nd es v -> (row es v).length <= 2000) (M : Nat)
 (IH : ∀ d, DInv es t d -> Ms es.length d < M -> ∃ dl, DL es t dl /\ Ev (fun k => p_distances.l1 k d true names es) dl) :
 ∀ (m v : Nat), v + m = es.length -> ∀ (d : List Int) (b : Bool), DInv es t d -> (b = true -> Ms es.length d < M) -> (b = false -> Ms es.length d <= M /\ ∀ u, nd es u -> u < v -> ∀ w ∈ row es u, okE d u w) ->
  ∃ dl, DL es t dl /\ Ev (fun k => p_distances.l2 k d b es (es.length : Int) v names es) dl := by
 intro m
 induction m with
 | zero =>
  intro v hv d b I h1 h2
  cases b with
  | true =>
   obtain ⟨dl, g1, g2⟩ := IH d I (h1 rfl)
   refine ⟨dl, g1, Ev.step (fun k => ?_) g2⟩
   simp only [p_distances.l2]
   rw [if_neg (by omega)]
  | false =>
   refine ⟨d, dl_of hvld I (fun u hu => (h2 rfl).2 u hu (by have := hu.2; omega)), Ev.step (fun k => ?_) (Ev.step (g := fun k => p_distances.l1 k d false names es) (fun k => ?_) (Ev.now _))⟩
   · simp only [p_distances.l2]
     rw [if_neg (by omega)]
   · simp only [p_distances.l1]
     rw [if_neg (by simp)]
 | succ m ih =>
  intro v hv d b I h1 h2
  have hvn : nd es (v : Int) := ⟨by omega, by omega⟩
  have hrv := hr v hvn
  have inner : ∀ (q j : Nat), j + q = (row es v).length -> ∀ (d : List Int) (b : Bool), DInv es t d -> (b = true -> Ms es.length d < M) -> (b = false -> Ms es.length d <= M /\ (∀ u, nd es u -> u < v -> ∀ w ∈ row es u, okE d u w) /\ ∀ w ∈ (row es v).take j, okE d v w) ->
   ∃ dl, DL es t dl /\ Ev (fun k => p_distances.l3 k d b v es (es.length : Int) v (row es v) ((row es v).length : Int) j names es) dl := by
   intro q
   induction q with
   | zero =>
    intro j hj d b I h1 h2
    obtain ⟨dl, g1, g2⟩ := ih (v + 1) (by omega) d b I h1 (fun hb => ⟨(h2 hb).1, fun u hu huv w hw => by
     by_cases e : u < v
     · exact (h2 hb).2.1 u hu e w hw
     have e2 : u = v := by omega
     subst e2
     exact (h2 hb).2.2 w (by rw [List.take_of_length_le (by omega)]; exact hw)⟩)
    refine ⟨dl, g1, Ev.step (fun k => ?_) g2⟩
    simp only [p_distances.l3]
    rw [if_neg (by omega), succ_cast v (by omega)]
   | succ q ihq =>
    intro j hj d b I h1 h2
    have hwm : rd (row es v) j ∈ row es v := by rw [rd_at _ j (by omega)]; exact List.getElem_mem _
    have hw := hvld v hvn _ hwm
    have hdl := I.len
    have hwl : rd (row es v) j < (d.length : Int) := by rw [hdl]; exact hw.2
    have hup := I.up _ hw
    have htk : (row es v).take (j + 1) = (row es v).take j ++ [rd (row es v) j] := by
     rw [List.take_succ_eq_append_getElem (by omega), rd_at _ j (by omega)]
    by_cases c1 : rd d (rd (row es v) j) >= 0
    rotate_left
    · obtain ⟨dl, g1, g2⟩ := ihq (j + 1) (by omega) d b I h1 (fun hb => ⟨(h2 hb).1, (h2 hb).2.1, fun w hw2 => by
       rw [htk, List.mem_append, List.mem_singleton] at hw2
       rcases hw2 with hw2 | rfl
       · exact (h2 hb).2.2 w hw2
       · exact fun h => absurd h (by omega)⟩)
      refine ⟨dl, g1, Ev.step (fun k => ?_) g2⟩
      simp only [p_distances.l3]
      rw [if_pos (by omega), if_pos (by omega), if_pos (by omega), if_pos hw.1, if_pos hwl, if_neg c1, succ_cast j (by omega)]
    have hw64 : wrap64 (rd d (rd (row es v) j) + 1) = rd d (rd (row es v) j) + 1 := w64 _ (by omega) (by omega)
    by_cases c2 : rd d v < 0
    · obtain ⟨r1, r2⟩ := relax_inv I hvn hw hwm c1 (.inl c2)
      obtain ⟨dl, g1, g2⟩ := ihq (j + 1) (by omega) _ true r1 (fun _ => by
       cases b with
       | true => have := h1 rfl; omega
       | false => have := (h2 rfl).1; omega) (fun hb => by cases hb)
      refine ⟨dl, g1, Ev.step (fun k => ?_) g2⟩
      simp only [p_distances.l3]
      rw [if_pos (by omega), if_pos (by omega), if_pos (by omega), if_pos hw.1, if_pos hwl, if_pos c1, if_pos (by omega), if_pos (by omega), if_pos c2, succ_cast j (by omega), hw64]
    by_cases c3 : rd d v > rd d (rd (row es v) j) + 1
    · obtain ⟨r1, r2⟩ := relax_inv I hvn hw hwm c1 (.inr c3)
      obtain ⟨dl, g1, g2⟩ := ihq (j + 1) (by omega) _ true r1 (fun _ => by
       cases b with
       | true => have := h1 rfl; omega
       | false => have := (h2 rfl).1; omega) (fun hb => by cases hb)
      refine ⟨dl, g1, Ev.step (fun k => ?_) g2⟩
      simp only [p_distances.l3]
      rw [if_pos (by omega), if_pos (by omega), if_pos (by omega), if_pos hw.1, if_pos hwl, if_pos c1, if_pos (by omega), if_pos (by omega), if_neg c2, hw64, if_pos c3, succ_cast j (by omega)]
    obtain ⟨dl, g1, g2⟩ := ihq (j + 1) (by omega) d b I h1 (fun hb => ⟨(h2 hb).1, (h2 hb).2.1, fun w hw2 => by
     rw [htk, List.mem_append, List.mem_singleton] at hw2
     rcases hw2 with hw2 | rfl
     · exact (h2 hb).2.2 w hw2
     · exact fun _ => ⟨by omega, by omega⟩⟩)
    refine ⟨dl, g1, Ev.step (fun k => ?_) g2⟩
    simp only [p_distances.l3]
    rw [if_pos (by omega), if_pos (by omega), if_pos (by omega), if_pos hw.1, if_pos hwl, if_pos c1, if_pos (by omega), if_pos (by omega), if_neg c2, hw64, if_neg c3, succ_cast j (by omega)]
  obtain ⟨dl, g1, g2⟩ := inner (row es v).length 0 (by omega) d b I h1 (fun hb => ⟨(h2 hb).1, (h2 hb).2, fun w hw => by simp at hw⟩)
  refine ⟨dl, g1, Ev.step (fun k => ?_) g2⟩
  simp only [p_distances.l2]
  rw [if_pos (by omega), if_pos (by omega), if_pos (by omega), L1_row]
  rfl
theorem again_ev (names : List ByteArray) {t : Int} (hvld : Vld es) (hn : es.length <= 60) (hr : ∀ v, nd es v -> (row es v).length <= 2000) : ∀ (M : Nat) (d : List Int), DInv es t d -> Ms es.length d < M ->
 ∃ dl, DL es t dl /\ Ev (fun k => p_distances.l1 k d true names es) dl := by
 intro M
 induction M with
 | zero => intro d _ h; omega
 | succ M ih =>
  intro d I h
  obtain ⟨dl, g1, g2⟩ := pass_ev names hvld hn hr M ih es.length 0 (by omega) d false I (fun h => by cases h) (fun _ => ⟨by omega, fun u hu h0 => by have := hu.1; omega⟩)
  refine ⟨dl, g1, Ev.step (fun k => ?_) g2⟩
  simp only [p_distances.l1]
  rw [if_pos trivial]
  rfl
theorem init_dinv {t : Int} (ht : nd es t) : DInv es t ((List.replicate es.length (-1)).set t.toNat 0) := by
 have htl : t.toNat < (List.replicate es.length (-1 : Int)).length := by rw [List.length_replicate]; have := ht.1; have := ht.2; omega
 have hrd : ∀ u, nd es u -> rd ((List.replicate es.length (-1)).set t.toNat 0) u = if u = t then 0 else -1 := fun u hu => by
  rw [rd_set _ t u 0 ht.1 (by rw [List.length_replicate]; exact ht.2) hu.1, rd_rep _ _ u hu.1 hu.2]
 have hc := count_set1 (List.replicate es.length (-1)) t.toNat 0 htl (by omega)
 rw [List.getElem_replicate, if_pos rfl, List.count_replicate_self] at hc
 refine ⟨by rw [List.length_set, List.length_replicate], ht, by rw [hrd t ht, if_pos rfl], fun v hv => ?_, fun v hv h0 => ?_, fun v hv => ?_⟩
 · rw [hrd v hv]; split <;> omega
 · rw [hrd v hv] at h0 ⊢
   split at h0
   · rename_i e
     rw [if_pos e]
     exact e
   · omega
 · rw [hrd v hv]
   split <;> omega
theorem dist_ev (names : List ByteArray) {t : Int} (hvld : Vld es) (hn : es.length <= 60) (hr : ∀ v, nd es v -> (row es v).length <= 2000) (hnl : names.length = es.length) (ht : nd es t) :
 ∃ dl, DL es t dl /\ Ev (fun k => p_distances.f k names es t) dl := by
 obtain ⟨dl, g1, g2⟩ := again_ev names hvld hn hr _ _ (init_dinv ht) (Nat.lt_succ_self _)
 refine ⟨dl, g1, ?_⟩
 have fill : ∀ (m i : Nat), i + m = es.length -> Ev (fun k => p_distances.l0 k t (List.replicate i (-1) ++ List.replicate m 0) (es.length : Int) i names es) dl := by
  intro m
  induction m with
  | zero =>
   intro i hi
   rw [List.replicate_zero, List.append_nil]
   have e : i = es.length := by omega
   subst e
   refine Ev.step (fun k => ?_) g2
   simp only [p_distances.l0]
   rw [if_neg (by omega), if_pos ht.1, if_pos (by rw [List.length_replicate]; exact ht.2)]
  | succ m ih =>
   intro i hi
   refine Ev.step (fun k => ?_) (ih (i + 1) (by omega))
   simp only [p_distances.l0]
   rw [if_pos (by omega), if_pos (by omega), if_pos (by rw [List.length_append, List.length_replicate, List.length_replicate]; omega), succ_cast i (by omega)]
   congr 1
   rw [Int.toNat_natCast, List.set_append_right _ _ (by rw [List.length_replicate]; exact Nat.le_refl _), List.length_replicate, Nat.sub_self, List.replicate_succ, List.set_cons_zero, List.replicate_succ', List.append_assoc]
   rfl
 have h := fill es.length 0 (by omega)
 refine Ev.congr (fun k => ?_) h
 unfold p_distances.f
 rw [if_pos (by omega), if_pos (by omega), Option.bind_some, Int.toNat_natCast, List.length_replicate, hnl]
 rfl
end
section
variable {es : List (List Int)}
def Cy (es : List (List Int)) (v : Int) (m : Nat) : Prop := 1 <= m /\ Wk es m v v
theorem cy_iff {v : Int} {m : Nat} : Cy es v m ↔ ∃ q, m = q + 1 /\ ∃ w ∈ row es v, Wk es q w v := by
 constructor
 · rintro ⟨h1, h2⟩
   obtain ⟨q, rfl⟩ : ∃ q, m = q + 1 := ⟨m - 1, by omega⟩
   exact ⟨q, rfl, h2⟩
 · rintro ⟨q, rfl, h⟩
   exact ⟨by omega, h⟩
structure Gi (es : List (List Int)) (b : Nat) (s : Int) : Prop where
 nds : nd es s
 cyc : Cy es s b
 min : ∀ u, nd es u -> ∀ m, Cy es u m -> b <= m /\ (m = b -> s <= u)
def CI (es : List (List Int)) (v : Nat) (b s : Int) : Prop :=
 (s = -1 /\ ∀ u, nd es u -> u < v -> ∀ m, ¬ Cy es u m) \/
 (nd es s /\ s < v /\ 1 <= b /\ b <= es.length /\ Cy es s b.toNat /\ ∀ u, nd es u -> u < v -> ∀ m, Cy es u m -> b <= m /\ (m = b -> s <= u))
def CJ (es : List (List Int)) (v j : Nat) (b s : Int) : Prop :=
 (s = -1 /\ (∀ u, nd es u -> u < v -> ∀ m, ¬ Cy es u m) /\ ∀ w ∈ (row es v).take j, ∀ m, ¬ Wk es m w v) \/
 (nd es s /\ s <= v /\ 1 <= b /\ b <= es.length /\ Cy es s b.toNat /\ (∀ u, nd es u -> u < v -> ∀ m, Cy es u m -> b <= m /\ (m = b -> s <= u)) /\ ∀ w ∈ (row es v).take j, ∀ m : Nat, Wk es m w v -> b <= m + 1)
def chn (es : List (List Int)) (dl : List Int) : Nat -> Int -> List Int
 | 0, _ => []
 | q + 1, v => ((row es v).find? (fun w => rd dl w == ((q + 1 : Nat) : Int))).getD v :: chn es dl q (((row es v).find? (fun w => rd dl w == ((q + 1 : Nat) : Int))).getD v)
theorem chn_len (dl : List Int) : ∀ (q : Nat) (v : Int), (chn es dl q v).length = q := by
 intro q
 induction q with
 | zero => intro v; rfl
 | succ q ih => intro v; rw [chn, List.length_cons, ih]
theorem chain_ev (names : List ByteArray) (hvld : Vld es) (hn : es.length <= 60) (hr : ∀ v, nd es v -> (row es v).length <= 2000) {dl : List Int} (hdl : dl.length = es.length) :
 ∀ (q : Nat) (v : Int) (out : List Int), nd es v -> q <= 60 -> out.length + q <= 1000 -> Ev (fun k => p_cycle.l2 k dl out v (q : Int) names es) (out ++ chn es dl q v) := by
 intro q
 induction q with
 | zero =>
  intro v out hv _ _
  rw [chn, List.append_nil]
  refine Ev.step (fun k => ?_) (Ev.now _)
  simp only [p_cycle.l2]
  rw [if_neg (by omega)]
 | succ q ih =>
  intro v out hv hq ho
  have hrv := hr v hv
  have hwq : wrap64 (((q + 1 : Nat) : Int) - 1) = (q : Int) := by rw [w64 _ (by omega) (by omega)]; omega
  have inner : ∀ (m j : Nat), j + m = (row es v).length -> Ev (fun k => p_cycle.l3 k dl out v ((q + 1 : Nat) : Int) (row es v) ((row es v).length : Int) j names es)
   (out ++ (((row es v).drop j).find? (fun w => rd dl w == ((q + 1 : Nat) : Int))).getD v :: chn es dl q ((((row es v).drop j).find? (fun w => rd dl w == ((q + 1 : Nat) : Int))).getD v)) := by
   intro m
   induction m with
   | zero =>
    intro j hj
    rw [List.drop_eq_nil_of_le (by omega), List.find?_nil, Option.getD_none]
    have h := ih v (out ++ [v]) hv (by omega) (by rw [List.length_append, List.length_singleton]; omega)
    rw [List.append_assoc, List.singleton_append] at h
    refine Ev.step (fun k => ?_) h
    simp only [p_cycle.l3]
    rw [if_neg (by omega), if_pos (by omega), hwq]
   | succ m ihm =>
    intro j hj
    have hwm : rd (row es v) j ∈ row es v := by rw [rd_at _ j (by omega)]; exact List.getElem_mem _
    have hw := hvld v hv _ hwm
    have hwl : rd (row es v) j < (dl.length : Int) := by rw [hdl]; exact hw.2
    rw [drop_row _ j (by omega)]
    by_cases c : rd dl (rd (row es v) j) = ((q + 1 : Nat) : Int)
    rotate_left
    · rw [List.find?_cons_of_neg (by simpa using c)]
      refine Ev.step (fun k => ?_) (ihm (j + 1) (by omega))
      simp only [p_cycle.l3]
      rw [if_pos (by omega), if_pos (by omega), if_pos (by omega), if_pos hw.1, if_pos hwl, if_neg c, succ_cast j (by omega)]
    rw [List.find?_cons_of_pos (by simpa using c), Option.getD_some]
    have h := ih (rd (row es v) j) (out ++ [rd (row es v) j]) hw (by omega) (by rw [List.length_append, List.length_singleton]; omega)
    rw [List.append_assoc, List.singleton_append] at h
    refine Ev.step (fun k => ?_) h
    simp only [p_cycle.l3]
    rw [if_pos (by omega), if_pos (by omega), if_pos (by omega), if_pos hw.1, if_pos hwl, if_pos c, if_pos (by omega), hwq]
  have h := inner (row es v).length 0 (by omega)
  rw [List.drop_zero] at h
  refine Ev.step (fun k => ?_) h
  simp only [p_cycle.l2]
  rw [if_pos (by omega), if_pos hv.1, if_pos hv.2, L1_row]
  rfl
theorem cycle_ev (names : List ByteArray) (hvld : Vld es) (hn : es.length <= 60) (hr : ∀ v, nd es v -> (row es v).length <= 2000) (hnl : names.length = es.length) :
 ((∀ u, nd es u -> ∀ m, ¬ Cy es u m) /\ Ev (fun k => p_cycle.f k names es) []) \/
 ∃ b s dl, Gi es b s /\ b <= es.length /\ DL es s dl /\ Ev (fun k => p_cycle.f k names es) (s :: chn es dl (b - 1) s) := by
 have outer : ∀ (m v : Nat), v + m = es.length -> ∀ b s, CI es v b s ->
  ((∀ u, nd es u -> ∀ m, ¬ Cy es u m) /\ Ev (fun k => p_cycle.l0 k b s (es.length : Int) v names es) []) \/
  ∃ b' s' dl, Gi es b' s' /\ b' <= es.length /\ DL es s' dl /\ Ev (fun k => p_cycle.l0 k b s (es.length : Int) v names es) (s' :: chn es dl (b' - 1) s') := by
  intro m
  induction m with
  | zero =>
   intro v hv b s h
   rcases h with ⟨rfl, h⟩ | ⟨h1, h2, h3, h4, h5, h6⟩
   · refine .inl ⟨fun u hu => h u hu (by have := hu.2; omega), Ev.step (fun k => ?_) (Ev.now _)⟩
     simp only [p_cycle.l0]
     rw [if_neg (by omega), if_pos (by omega)]
   · obtain ⟨dl, g1, g2⟩ := dist_ev names hvld hn hr hnl h1
     refine .inr ⟨b.toNat, s, dl, ⟨h1, h5, fun u hu m hm => ?_⟩, by omega, g1, ?_⟩
     · obtain ⟨k1, k2⟩ := h6 u hu (by have := hu.2; omega) m hm
       exact ⟨by omega, fun e => k2 (by omega)⟩
     · have h := chain_ev names hvld hn hr g1.len (b.toNat - 1) s [s] h1 (by omega) (by simp; omega)
       rw [List.singleton_append] at h
       refine Ev.step (fun k => ?_) (Ev.bind g2 (f := fun k t => p_cycle.l2 k t [s] s ((b.toNat - 1 : Nat) : Int) names es) h)
       simp only [p_cycle.l0]
       rw [if_neg (by omega), if_neg (by have := h1.1; omega), w64 (b - 1) (by omega) (by omega), show ((b.toNat - 1 : Nat) : Int) = b - 1 by omega]
  | succ m ih =>
   intro v hv b s h
   have hvn : nd es (v : Int) := ⟨by omega, by omega⟩
   have hrv := hr v hvn
   obtain ⟨d, D, De⟩ := dist_ev names hvld hn hr hnl hvn
   have inner : ∀ (q j : Nat), j + q = (row es v).length -> ∀ b s, CJ es v j b s ->
    ((∀ u, nd es u -> ∀ m, ¬ Cy es u m) /\ Ev (fun k => p_cycle.l1 k b s v d (es.length : Int) v (row es v) ((row es v).length : Int) j names es) []) \/
    ∃ b' s' dl, Gi es b' s' /\ b' <= es.length /\ DL es s' dl /\ Ev (fun k => p_cycle.l1 k b s v d (es.length : Int) v (row es v) ((row es v).length : Int) j names es) (s' :: chn es dl (b' - 1) s') := by
    intro q
    induction q with
    | zero =>
     intro j hj b s h
     have hci : CI es (v + 1) b s := by
      rcases h with ⟨rfl, h1, h2⟩ | ⟨h1, h2, h3, h4, h5, h6, h7⟩
      · refine .inl ⟨rfl, fun u hu huv m hm => ?_⟩
        by_cases e : u < v
        · exact h1 u hu e m hm
        have e2 : u = v := by omega
        subst e2
        obtain ⟨q, rfl, w, hw, hq⟩ := cy_iff.1 hm
        exact h2 w (by rw [List.take_of_length_le (by omega)]; exact hw) q hq
      · refine .inr ⟨h1, by omega, h3, h4, h5, fun u hu huv m hm => ?_⟩
        by_cases e : u < v
        · exact h6 u hu e m hm
        have e2 : u = v := by omega
        subst e2
        obtain ⟨q, rfl, w, hw, hq⟩ := cy_iff.1 hm
        have := h7 w (by rw [List.take_of_length_le (by omega)]; exact hw) q hq
        exact ⟨by omega, fun _ => by omega⟩
     have hstep : ∀ r, Ev (fun k => p_cycle.l0 k b s (es.length : Int) ((v + 1 : Nat) : Int) names es) r -> Ev (fun k => p_cycle.l1 k b s v d (es.length : Int) v (row es v) ((row es v).length : Int) j names es) r := fun r h => by
      refine Ev.step (fun k => ?_) h
      simp only [p_cycle.l1]
      rw [if_neg (by omega), succ_cast v (by omega)]
     rcases ih (v + 1) (by omega) b s hci with ⟨g1, g2⟩ | ⟨b', s', dl, g1, g2, g3, g4⟩
     · exact .inl ⟨g1, hstep _ g2⟩
     · exact .inr ⟨b', s', dl, g1, g2, g3, hstep _ g4⟩
    | succ q ihq =>
     intro j hj b s h
     have hwm : rd (row es v) j ∈ row es v := by rw [rd_at _ j (by omega)]; exact List.getElem_mem _
     have hw := hvld v hvn _ hwm
     have hwl : rd (row es v) j < (d.length : Int) := by rw [D.len]; exact hw.2
     have hup := D.up _ hw
     have htk : (row es v).take (j + 1) = (row es v).take j ++ [rd (row es v) j] := by
      rw [List.take_succ_eq_append_getElem (by omega), rd_at _ j (by omega)]
     have go : ∀ (b2 s2 : Int), CJ es v (j + 1) b2 s2 -> (∀ k, p_cycle.l1 (k + 1) b s v d (es.length : Int) v (row es v) ((row es v).length : Int) j names es = p_cycle.l1 k b2 s2 v d (es.length : Int) v (row es v) ((row es v).length : Int) ((j + 1 : Nat) : Int) names es) ->
      ((∀ u, nd es u -> ∀ m, ¬ Cy es u m) /\ Ev (fun k => p_cycle.l1 k b s v d (es.length : Int) v (row es v) ((row es v).length : Int) j names es) []) \/
      ∃ b' s' dl, Gi es b' s' /\ b' <= es.length /\ DL es s' dl /\ Ev (fun k => p_cycle.l1 k b s v d (es.length : Int) v (row es v) ((row es v).length : Int) j names es) (s' :: chn es dl (b' - 1) s') := by
      intro b2 s2 hc hs
      rcases ihq (j + 1) (by omega) b2 s2 hc with ⟨g1, g2⟩ | ⟨b', s', dl, g1, g2, g3, g4⟩
      · exact .inl ⟨g1, Ev.step hs g2⟩
      · exact .inr ⟨b', s', dl, g1, g2, g3, Ev.step hs g4⟩
     by_cases c1 : rd d (rd (row es v) j) >= 0
     rotate_left
     · have d1 := (D.non _ hw (by omega)).2
       refine go b s ?_ (fun k => ?_)
       · rcases h with ⟨rfl, h1, h2⟩ | ⟨h1, h2, h3, h4, h5, h6, h7⟩
         · refine .inl ⟨rfl, h1, fun w hw2 m hm => ?_⟩
           rw [htk, List.mem_append, List.mem_singleton] at hw2
           rcases hw2 with hw2 | rfl
           · exact h2 w hw2 m hm
           · exact d1 m hm
         · refine .inr ⟨h1, h2, h3, h4, h5, h6, fun w hw2 m hm => ?_⟩
           rw [htk, List.mem_append, List.mem_singleton] at hw2
           rcases hw2 with hw2 | rfl
           · exact h7 w hw2 m hm
           · exact absurd hm (d1 m)
       · simp only [p_cycle.l1]
         rw [if_pos (by omega), if_pos (by omega), if_pos (by omega), if_pos hw.1, if_pos hwl, if_neg c1, succ_cast j (by omega)]
     have hw64 : wrap64 (rd d (rd (row es v) j) + 1) = rd d (rd (row es v) j) + 1 := w64 _ (by omega) (by omega)
     obtain ⟨d1, d2⟩ := D.has _ hw c1
     have hcy : Cy es v (rd d (rd (row es v) j) + 1).toNat := cy_iff.2 ⟨(rd d (rd (row es v) j)).toNat, by omega, _, hwm, d1⟩
     by_cases c2 : s < 0
     · have hs : s = -1 /\ (∀ u, nd es u -> u < v -> ∀ m, ¬ Cy es u m) /\ ∀ w ∈ (row es v).take j, ∀ m, ¬ Wk es m w v := by
        rcases h with h | ⟨h1, _⟩
        · exact h
        · have := h1.1; omega
       refine go (rd d (rd (row es v) j) + 1) v (.inr ⟨hvn, Int.le_refl _, by omega, by omega, hcy, fun u hu huv m hm => absurd hm (hs.2.1 u hu huv m), fun w hw2 m hm => ?_⟩) (fun k => ?_)
       · rw [htk, List.mem_append, List.mem_singleton] at hw2
         rcases hw2 with hw2 | rfl
         · exact absurd hm (hs.2.2 w hw2 m)
         · have := d2 m hm; omega
       · simp only [p_cycle.l1]
         rw [if_pos (by omega), if_pos (by omega), if_pos (by omega), if_pos hw.1, if_pos hwl, if_pos c1, if_pos c2, hw64, succ_cast j (by omega)]
     have hs : nd es s /\ s <= v /\ 1 <= b /\ b <= es.length /\ Cy es s b.toNat /\ (∀ u, nd es u -> u < v -> ∀ m, Cy es u m -> b <= m /\ (m = b -> s <= u)) /\ ∀ w ∈ (row es v).take j, ∀ m : Nat, Wk es m w v -> b <= m + 1 := by
      rcases h with ⟨h, _⟩ | h
      · omega
      · exact h
     obtain ⟨h1, h2, h3, h4, h5, h6, h7⟩ := hs
     by_cases c3 : rd d (rd (row es v) j) + 1 < b
     rotate_left
     · refine go b s (.inr ⟨h1, h2, h3, h4, h5, h6, fun w hw2 m hm => ?_⟩) (fun k => ?_)
       · rw [htk, List.mem_append, List.mem_singleton] at hw2
         rcases hw2 with hw2 | rfl
         · exact h7 w hw2 m hm
         · have := d2 m hm; omega
       · simp only [p_cycle.l1]
         rw [if_pos (by omega), if_pos (by omega), if_pos (by omega), if_pos hw.1, if_pos hwl, if_pos c1, if_neg c2, hw64, if_neg c3, succ_cast j (by omega)]
     refine go (rd d (rd (row es v) j) + 1) v (.inr ⟨hvn, Int.le_refl _, by omega, by omega, hcy, fun u hu huv m hm => ?_, fun w hw2 m hm => ?_⟩) (fun k => ?_)
     · have := (h6 u hu huv m hm).1
       exact ⟨by omega, fun e => by omega⟩
     · rw [htk, List.mem_append, List.mem_singleton] at hw2
       rcases hw2 with hw2 | rfl
       · have := h7 w hw2 m hm; omega
       · have := d2 m hm; omega
     · simp only [p_cycle.l1]
       rw [if_pos (by omega), if_pos (by omega), if_pos (by omega), if_pos hw.1, if_pos hwl, if_pos c1, if_neg c2, hw64, if_pos c3, succ_cast j (by omega)]
   have hcj : CJ es v 0 b s := by
    rcases h with ⟨rfl, h⟩ | ⟨h1, h2, h3, h4, h5, h6⟩
    · exact .inl ⟨rfl, h, fun w hw => by simp at hw⟩
    · exact .inr ⟨h1, by omega, h3, h4, h5, h6, fun w hw => by simp at hw⟩
   have hstep : ∀ r, Ev (fun k => p_cycle.l1 k b s v d (es.length : Int) v (row es v) ((row es v).length : Int) ((0 : Nat) : Int) names es) r -> Ev (fun k => p_cycle.l0 k b s (es.length : Int) v names es) r := fun r h => by
    refine Ev.step (fun k => ?_) (Ev.bind De (f := fun k t => p_cycle.l1 k b s v t (es.length : Int) v (row es v) ((row es v).length : Int) ((0 : Nat) : Int) names es) h)
    simp only [p_cycle.l0]
    rw [if_pos (by omega)]
    congr 1
    funext t
    rw [if_pos (by omega), if_pos (by omega), L1_row]
    rfl
   rcases inner (row es v).length 0 (by omega) b s hcj with ⟨g1, g2⟩ | ⟨b', s', dl, g1, g2, g3, g4⟩
   · exact .inl ⟨g1, hstep _ g2⟩
   · exact .inr ⟨b', s', dl, g1, g2, g3, hstep _ g4⟩
 have hf : ∀ k, p_cycle.f k names es = p_cycle.l0 k 0 (-1) (es.length : Int) ((0 : Nat) : Int) names es := fun k => by
  unfold p_cycle.f
  rw [hnl]
  rfl
 rcases outer es.length 0 (by omega) 0 (-1) (.inl ⟨rfl, fun u hu h0 => by have := hu.1; omega⟩) with ⟨g1, g2⟩ | ⟨b', s', dl, g1, g2, g3, g4⟩
 · exact .inl ⟨g1, Ev.congr hf g2⟩
 · exact .inr ⟨b', s', dl, g1, g2, g3, Ev.congr hf g4⟩
end
section
variable {l : List S42}
theorem VL.len (G : Good l) {L : List Int} (hL : VL l L) (hp : L.Pairwise (· < ·)) : L.length <= l.length :=
 nodup_le l.length L (hp.imp (fun h e => by subst e; omega)) hL
theorem back_l2 (G : Good l) {b : Int} (hb0 : 0 <= b) (hb1 : b < l.length) {x : Int} (hx0 : 0 <= x) (hx1 : x < l.length) (N i c : Int) (R : List ByteArray) (r : Bool) : ∀ (m j : Nat) (T : List Int), j + m = (row (edgesOf l) x).length -> VL l T -> T.Pairwise (· < ·) ->
 (b ∈ (row (edgesOf l) x).drop j -> r = true) ->
 (b ∉ (row (edgesOf l) x).drop j -> ∀ T', VL l T' -> T'.Pairwise (· < ·) -> (∀ y, y ∈ T' ↔ y ∈ T \/ y ∈ (row (edgesOf l) x).drop j) -> Ev (fun k => r_back.l1 k l (nb l b) N R i (T'.map (nb l)) (wrap64 (c + 1))) r) ->
 Ev (fun k => r_back.l2 k l (nb l b) N R i (T.map (nb l)) c ((row (edgesOf l) x).map (nb l)) j) r := by
 have hr := row_len G hx0 hx1
 have hvr := VL.row G hx0 hx1
 intro m
 induction m with
 | zero =>
  intro j T hj hT hp _ h2
  rw [List.drop_eq_nil_of_le (by omega)] at h2
  refine Ev.step (fun k => ?_) (h2 (by simp) T hT hp (by simp))
  simp only [r_back.l2]
  rw [if_neg (by rw [List.length_map]; omega)]
 | succ m ih =>
  intro j T hj hT hp h1 h2
  have hj2 : j < (row (edgesOf l) x).length := by omega
  have hw := hvr (rd (row (edgesOf l) x) j) (by rw [rd_at _ j hj2]; exact List.getElem_mem _)
  rw [drop_row _ j hj2] at h1 h2
  by_cases e : rd (row (edgesOf l) x) j = b
  · rw [h1 (by rw [e]; simp)]
    refine Ev.step (fun k => ?_) (Ev.now _)
    simp only [r_back.l2]
    rw [if_pos (by rw [List.length_map]; omega), if_pos (by omega), rd_strs j hj2, if_pos (by rw [e])]
  have hi := ins_at G hT hw.1 hw.2 (by have := VL.len G hT hp; have := G.len; omega)
  have hne : (nb l (rd (row (edgesOf l) x) j)).toList ≠ (nb l b).toList := fun h => e (nb_inj G hw.1 hw.2 hb0 hb1 ((toL_iff _ _).1 h))
  have hrec := ih (j + 1) (insI (rd (row (edgesOf l) x) j) T) (by omega) (hT.insI hw.1 hw.2) (insI_lt _ hp) (fun h => h1 (List.mem_cons_of_mem _ h)) (fun h T' hT' hp' hm' => h2 (by
   rw [List.mem_cons, not_or]; exact ⟨fun h => e h.symm, h⟩) T' hT' hp' (fun y => by
    rw [hm' y, mem_insI, List.mem_cons]
    constructor
    · rintro ((h | h) | h)
      · exact .inr (.inl h)
      · exact .inl h
      · exact .inr (.inr h)
    · rintro (h | h | h)
      · exact .inl (.inr h)
      · exact .inl (.inl h)
      · exact .inr h))
  refine Ev.step (fun k => ?_) (Ev.bind hi (f := fun k t => r_back.l2 k l (nb l b) N R i t c ((row (edgesOf l) x).map (nb l)) ((j + 1 : Nat) : Int)) hrec)
  simp only [r_back.l2]
  rw [if_pos (by rw [List.length_map]; omega), if_pos (by omega), rd_strs j hj2, if_neg hne, succ_cast j (by omega)]
theorem back_ev (G : Good l) {a b : Int} (ha0 : 0 <= a) (ha1 : a < l.length) (hb0 : 0 <= b) (hb1 : b < l.length) (N : Int) (hN : N <= 100) :
 Ev (fun k => r_back.f k l (nb l a) (nb l b) N) (decide (∃ m : Nat, 1 <= m /\ (m : Int) <= N + 1 /\ Wk (edgesOf l) m a b)) := by
 have hlen := G.len
 have outer : ∀ (M i : Nat) (R : List Int), (i : Int) + M = max (i : Int) (N + 1) -> VL l R -> R.Pairwise (· < ·) -> (∀ y, y ∈ R ↔ ∃ m ≤ i, Wk (edgesOf l) m a y) -> (∀ m : Nat, 1 <= m -> m <= i -> ¬ Wk (edgesOf l) m a b) ->
  Ev (fun k => r_back.l0 k l (nb l b) N (R.map (nb l)) i) (decide (∃ m : Nat, 1 <= m /\ (m : Int) <= N + 1 /\ Wk (edgesOf l) m a b)) := by
  intro M
  induction M with
  | zero =>
   intro i R hi hR hp hm hno
   rw [decide_eq_false (by rintro ⟨m, h1, h2, h3⟩; exact hno m h1 (by omega) h3)]
   refine Ev.step (fun k => ?_) (Ev.now _)
   simp only [r_back.l0]
   rw [if_neg (by omega)]
  | succ M ih =>
   intro i R hi hR hp hm hno
   have hRl := VL.len G hR hp
   have mid : ∀ (q c : Nat) (T : List Int), c + q = R.length -> VL l T -> T.Pairwise (· < ·) -> (∀ y, y ∈ T ↔ ∃ x ∈ R.take c, y = x \/ y ∈ row (edgesOf l) x) -> (∀ x ∈ R.take c, b ∉ row (edgesOf l) x) ->
    Ev (fun k => r_back.l1 k l (nb l b) N (R.map (nb l)) i (T.map (nb l)) c) (decide (∃ m : Nat, 1 <= m /\ (m : Int) <= N + 1 /\ Wk (edgesOf l) m a b)) := by
    intro q
    induction q with
    | zero =>
     intro c T hc hT hTp hTm hTb
     rw [List.take_of_length_le (by omega)] at hTm hTb
     refine Ev.step (fun k => ?_) (ih (i + 1) T (by omega) hT hTp (fun y => ?_) (fun m h1 h2 h3 => ?_))
     · simp only [r_back.l1]
       rw [if_neg (by rw [List.length_map]; omega), succ_cast i (by omega)]
     · rw [hTm y]
       constructor
       · rintro ⟨x, hx, h⟩
         obtain ⟨m, h1, h2⟩ := (hm x).1 hx
         rcases h with rfl | h
         · exact ⟨m, by omega, h2⟩
         · exact ⟨m + 1, by omega, wk_add h2 (wk_one h)⟩
       · rintro ⟨m, h1, h2⟩
         by_cases e : m <= i
         · exact ⟨y, (hm y).2 ⟨m, e, h2⟩, .inl rfl⟩
         obtain ⟨p, rfl⟩ : ∃ p, m = p + 1 := ⟨m - 1, by omega⟩
         obtain ⟨x, h3, h4⟩ := wk_split h2
         obtain ⟨z, hz, h5⟩ := h4
         have h6 : z = y := h5
         exact ⟨x, (hm x).2 ⟨p, by omega, h3⟩, .inr (h6 ▸ hz)⟩
     · by_cases e : m <= i
       · exact hno m h1 e h3
       · obtain ⟨p, rfl⟩ : ∃ p, m = p + 1 := ⟨m - 1, by omega⟩
         obtain ⟨x, h4, z, hz, h5⟩ := wk_split h3
         have h6 : z = b := h5
         exact hTb x ((hm x).2 ⟨p, by omega, h4⟩) (h6 ▸ hz)
    | succ q ihq =>
     intro c T hc hT hTp hTm hTb
     have hc2 : c < R.length := by omega
     have hxm : rd R c ∈ R := by rw [rd_at _ c hc2]; exact List.getElem_mem _
     have hx := hR _ hxm
     have htk : R.take (c + 1) = R.take c ++ [rd R c] := by rw [List.take_succ_eq_append_getElem hc2, rd_at _ c hc2]
     have hi1 := ins_at G hT hx.1 hx.2 (by have := VL.len G hT hTp; omega)
     have hi2 := imps_at G hx.1 hx.2
     have hi3 := back_l2 G hb0 hb1 hx.1 hx.2 N i c (R.map (nb l)) (decide (∃ m : Nat, 1 <= m /\ (m : Int) <= N + 1 /\ Wk (edgesOf l) m a b)) (row (edgesOf l) (rd R c)).length 0 (insI (rd R c) T) (by omega) (hT.insI hx.1 hx.2) (insI_lt _ hTp)
      (fun h => by
       rw [List.drop_zero] at h
       obtain ⟨m, h1, h2⟩ := (hm _).1 hxm
       exact decide_eq_true ⟨m + 1, by omega, by omega, wk_add h2 (wk_one h)⟩)
      (fun h T' hT' hp' hm' => by
       rw [List.drop_zero] at h hm'
       have := ihq (c + 1) T' (by omega) hT' hp' (fun y => by
        rw [hm' y, mem_insI, hTm y, htk]
        simp only [List.mem_append, List.mem_singleton]
        constructor
        · rintro ((h | ⟨x, hx, h⟩) | h)
          · exact ⟨_, .inr rfl, .inl h⟩
          · exact ⟨x, .inl hx, h⟩
          · exact ⟨_, .inr rfl, .inr h⟩
        · rintro ⟨x, hx | rfl, h⟩
          · exact .inl (.inr ⟨x, hx, h⟩)
          · rcases h with h | h
            · exact .inl (.inl h)
            · exact .inr h) (fun x hx2 => by
        rw [htk, List.mem_append, List.mem_singleton] at hx2
        rcases hx2 with hx2 | rfl
        · exact hTb x hx2
        · exact h)
       rw [succ_cast c (by omega)]
       exact this)
     refine Ev.step (fun k => ?_) (Ev.bind hi1 (f := fun k t => (r_Imports.f k l (nb l (rd R c))).bind fun t2 => r_back.l2 k l (nb l b) N (R.map (nb l)) i t c t2 0) (Ev.bind hi2 (f := fun k t2 => r_back.l2 k l (nb l b) N (R.map (nb l)) i ((insI (rd R c) T).map (nb l)) c t2 0) hi3))
     simp only [r_back.l1]
     rw [if_pos (by rw [List.length_map]; omega), if_pos (by omega), rd_strs c hc2]
   refine Ev.step (fun k => ?_) (mid R.length 0 [] (by omega) (fun x hx => by cases hx) List.Pairwise.nil (by simp) (by simp))
   simp only [r_back.l0]
   rw [if_pos (by omega)]
   rfl
 have h := outer (N + 1).toNat 0 [a] (by omega) (fun x hx => by rw [List.mem_singleton] at hx; subst hx; exact ⟨ha0, ha1⟩) (by simp) (fun y => by
  rw [List.mem_singleton]
  constructor
  · rintro rfl; exact ⟨0, Nat.le_refl _, rfl⟩
  · rintro ⟨m, h1, h2⟩
    obtain rfl : m = 0 := by omega
    have h3 : a = y := h2
    exact h3.symm) (fun m h1 h2 => by omega)
 exact h
end
section
variable {l : List S42}
theorem paths_none (G : Good l) {s : Int} (h0 : 0 <= s) (h1 : s < l.length) (N : Nat) (hN1 : 1 <= N) (hN : N <= 40) (hno : ∀ m : Nat, 1 <= m -> m <= N -> ¬ Wk (edgesOf l) m s s) :
 Ev (fun k => r_paths.f k l [nb l s] (N : Int)) [] := by
 have hlen := G.len
 have hr := row_len G h0 h1
 have hvr := VL.row G h0 h1
 have hsn : s ∉ row (edgesOf l) s := fun h => hno 1 (by omega) hN1 (wk_one h)
 have loop : ∀ (m j : Nat), j + m = (row (edgesOf l) s).length -> Ev (fun k => r_paths.l0 k l [nb l s] (N : Int) ((row (edgesOf l) s).map (nb l)) j) [] := by
  intro m
  induction m with
  | zero =>
   intro j hj
   refine Ev.step (fun k => ?_) (Ev.step (g := fun k => r_paths.j1 k l [nb l s] (N : Int) ((row (edgesOf l) s).map (nb l)) j false) (fun k => ?_) (Ev.now _))
   · simp only [r_paths.l0]
     rw [if_neg (by rw [List.length_map]; omega)]
   · simp only [r_paths.j1]
     rw [if_neg (by simp)]
  | succ m ih =>
   intro j hj
   have hj2 : j < (row (edgesOf l) s).length := by omega
   have hwm : rd (row (edgesOf l) s) j ∈ row (edgesOf l) s := by rw [rd_at _ j hj2]; exact List.getElem_mem _
   have hw := hvr _ hwm
   have hhas := has_at G (L := [s]) (fun x hx => by rw [List.mem_singleton] at hx; subst hx; exact ⟨h0, h1⟩) hw.1 hw.2 (by simp)
   rw [decide_eq_false (by rw [List.mem_singleton]; intro e; have h' := hwm; rw [e] at h'; exact hsn h')] at hhas
   have hback := back_ev G hw.1 hw.2 h0 h1 ((N : Int) - 1 - 1) (by omega)
   rw [decide_eq_false (by rintro ⟨q, q1, q2, q3⟩; exact hno (q + 1) (by omega) (by omega) ⟨_, hwm, q3⟩)] at hback
   by_cases hN2 : N = 1
   · refine Ev.step (fun k => ?_) (Ev.step (g := fun k => r_paths.j1 k l [nb l s] (N : Int) ((row (edgesOf l) s).map (nb l)) j false) (fun k => ?_) (Ev.now _))
     · simp only [r_paths.l0]
       rw [if_pos (by rw [List.length_map]; omega), decide_eq_false (by simp; omega)]
     · simp only [r_paths.j1]
       rw [if_neg (by simp)]
   have hj2' : Ev (fun k => r_paths.j2 k l [nb l s] (N : Int) ((row (edgesOf l) s).map (nb l)) j true) [] := by
    refine Ev.step (fun k => ?_) (ih (j + 1) (by omega))
    simp only [r_paths.j2]
    rw [if_pos trivial, succ_cast j (by omega)]
   refine Ev.step (fun k => ?_) (Ev.step (g := fun k => r_paths.j1 k l [nb l s] (N : Int) ((row (edgesOf l) s).map (nb l)) j true) (fun k => ?_) (Ev.bind hhas (f := fun k t => if t = true then r_paths.j2 k l [nb l s] (N : Int) ((row (edgesOf l) s).map (nb l)) j true else (r_back.f k l (nb l (rd (row (edgesOf l) s) j)) (nb l s) ((N : Int) - 1 - 1)).bind fun t2 => r_paths.j2 k l [nb l s] (N : Int) ((row (edgesOf l) s).map (nb l)) j (!t2)) (Ev.bind hback (f := fun k t2 => r_paths.j2 k l [nb l s] (N : Int) ((row (edgesOf l) s).map (nb l)) j (!t2)) hj2')))
   · simp only [r_paths.l0]
     rw [if_pos (by rw [List.length_map]; omega), decide_eq_true (by simp; omega)]
   · simp only [r_paths.j1]
     rw [if_pos trivial, if_pos (by omega), if_pos (by rw [List.length_map]; omega), rd_strs j hj2]
     congr 1
     funext t
     have e1 : wrap64 ((wrap64 ((N : Int) - ((([nb l s] : List ByteArray).length : Nat) : Int))) - 1) = (N : Int) - 1 - 1 := by
      rw [List.length_singleton, w64 ((N : Int) - (1 : Nat)) (by omega) (by omega), w64 _ (by omega) (by omega)]
      omega
     rw [e1, if_pos (show (0 : Int) < ((([nb l s] : List ByteArray).length : Nat) : Int) by simp)]
     rfl
 have hh := has_at G hvr h0 h1 (by omega)
 rw [decide_eq_false hsn] at hh
 refine Ev.step (fun k => ?_) (Ev.bind (imps_at G h0 h1) (f := fun k t => (q_Has.f k t (nb l s)).bind fun t2 => if t2 = true then some [nb l s] else r_paths.l0 k l [nb l s] (N : Int) t ((0 : Nat) : Int)) (Ev.bind hh (f := fun k t2 => if t2 = true then some [nb l s] else r_paths.l0 k l [nb l s] (N : Int) ((row (edgesOf l) s).map (nb l)) ((0 : Nat) : Int)) (loop _ 0 (Nat.zero_add _))))
 simp only [r_paths.f]
 have e0 : wrap64 (((([nb l s] : List ByteArray).length : Nat) : Int) - 1) = 0 := by rw [List.length_singleton, w64 _ (by omega) (by omega)]; omega
 rw [e0, if_pos (by omega), if_pos (by simp)]
 have e1 : rdOf ByteArray.empty [nb l s] 0 = nb l s := rfl
 rw [e1]
 congr 1
theorem paths_walk (G : Good l) {b : Nat} {s : Int} (g : Gi (edgesOf l) b s) (hb : b <= l.length) {dl : List Int} (D : DL (edgesOf l) s dl) :
 ∀ (q : Nat) (path : List Int) (v : Int), path.length + q = b -> VL l path -> path.head? = some s -> path.getLast? = some v -> (∀ i : Nat, (h : i < path.length) -> Wk (edgesOf l) i s path[i]) -> Wk (edgesOf l) (q + 1) v s ->
  Ev (fun k => r_paths.f k l (path.map (nb l)) (b : Int)) ((path ++ chn (edgesOf l) dl q v).map (nb l)) := by
 have hlen := G.len
 have hvld := es_vld G
 have hsn := g.nds
 have hs0 : 0 <= s := hsn.1
 have hs1 : s < l.length := by have := hsn.2; rw [es_len G] at this; exact this
 have hmin : ∀ m : Nat, 1 <= m -> Wk (edgesOf l) m s s -> b <= m := fun m h1 h2 => (g.min s hsn m ⟨h1, h2⟩).1
 intro q
 induction q with
 | zero =>
  intro path v hq hv hhd hlast hwk hend
  have hpl : 0 < path.length := by cases path with | nil => cases hhd | cons => simp
  have hvm : v ∈ path := List.mem_of_getLast? hlast
  have hv2 := hv v hvm
  obtain ⟨c, hc, hcs⟩ := hend
  have hcs2 : c = s := hcs
  rw [hcs2] at hc
  have hh := has_at G (VL.row G hv2.1 hv2.2) hs0 hs1 (by have := row_len G hv2.1 hv2.2; omega)
  rw [decide_eq_true hc] at hh
  rw [chn, List.append_nil]
  have eL : rdOf ByteArray.empty (path.map (nb l)) ((path.length : Int) - 1) = nb l v := by
   rw [show ((path.length : Int) - 1) = ((path.length - 1 : Nat) : Int) by omega, rd_strs _ (by omega), rd_at _ _ (by omega)]
   rw [List.getLast?_eq_getElem?, List.getElem?_eq_getElem (by omega)] at hlast
   rw [Option.some.inj hlast]
  have e0 : rdOf ByteArray.empty (path.map (nb l)) 0 = nb l s := by
   have := rd_strs (l := l) (L := path) 0 hpl
   rw [rd_at _ 0 hpl] at this
   cases path with
   | nil => cases hhd
   | cons p path => simp at hhd; subst hhd; exact this
  have ew : wrap64 (((path.map (nb l)).length : Int) - 1) = (path.length : Int) - 1 := by rw [List.length_map, w64 _ (by omega) (by omega)]
  refine Ev.step (fun k => ?_) (Ev.bind (imps_at G hv2.1 hv2.2) (f := fun k t => (q_Has.f k t (nb l s)).bind fun t2 => if t2 = true then some (path.map (nb l)) else r_paths.l0 k l (path.map (nb l)) (b : Int) t 0) (Ev.bind hh (f := fun k t2 => if t2 = true then some (path.map (nb l)) else r_paths.l0 k l (path.map (nb l)) (b : Int) ((row (edgesOf l) v).map (nb l)) 0) (Ev.now _)))
  simp only [r_paths.f]
  rw [ew, if_pos (by omega), if_pos (by rw [List.length_map]; omega), eL, e0]
  congr 1
  funext t
  rw [if_pos (by rw [List.length_map]; omega)]
 | succ q ih =>
  intro path v hq hv hhd hlast hwk hend
  have hpl : 0 < path.length := by cases path with | nil => cases hhd | cons => simp
  have hvm : v ∈ path := List.mem_of_getLast? hlast
  have hv2 := hv v hvm
  have hr := row_len G hv2.1 hv2.2
  have hvr := VL.row G hv2.1 hv2.2
  have hlast2 : path[path.length - 1]'(by omega) = v := by
   rw [List.getLast?_eq_getElem?, List.getElem?_eq_getElem (by omega)] at hlast
   exact Option.some.inj hlast
  have hwv : Wk (edgesOf l) (path.length - 1) s v := by
   have := hwk (path.length - 1) (by omega)
   rw [hlast2] at this
   exact this
  have hsnv : s ∉ row (edgesOf l) v := fun h => by
   have := hmin (path.length - 1 + 1) (by omega) (wk_add hwv (wk_one h))
   omega
  have hh := has_at G hvr hs0 hs1 (by omega)
  rw [decide_eq_false hsnv] at hh
  have eL : rdOf ByteArray.empty (path.map (nb l)) ((path.length : Int) - 1) = nb l v := by
   rw [show ((path.length : Int) - 1) = ((path.length - 1 : Nat) : Int) by omega, rd_strs _ (by omega), rd_at _ _ (by omega), hlast2]
  have e0 : rdOf ByteArray.empty (path.map (nb l)) 0 = nb l s := by
   have := rd_strs (l := l) (L := path) 0 hpl
   rw [rd_at _ 0 hpl] at this
   cases path with
   | nil => cases hhd
   | cons p path => simp at hhd; subst hhd; exact this
  have ew : wrap64 (((path.map (nb l)).length : Int) - 1) = (path.length : Int) - 1 := by rw [List.length_map, w64 _ (by omega) (by omega)]
  have hge : ∀ w ∈ row (edgesOf l) v, 0 <= rd dl w -> ((q + 1 : Nat) : Int) <= rd dl w := by
   intro w hw h0
   have hwn := hvld v ⟨hv2.1, by rw [es_len G]; exact hv2.2⟩ w hw
   obtain ⟨d1, d2⟩ := D.has w hwn h0
   have hpos : 0 < (rd dl w).toNat := by
    rcases Nat.eq_zero_or_pos (rd dl w).toNat with e | e
    · rw [e] at d1
      have e2 : w = s := d1
      exact absurd (e2 ▸ hw) hsnv
    · exact e
   have := hmin (path.length - 1 + 1 + (rd dl w).toNat) (by omega) (wk_add (wk_add hwv (wk_one hw)) d1)
   omega
  have hskip : ∀ w ∈ row (edgesOf l) v, rd dl w ≠ ((q + 1 : Nat) : Int) -> ¬ ∃ m : Nat, 1 <= m /\ (m : Int) <= ((b : Int) - path.length - 1) + 1 /\ Wk (edgesOf l) m w s := by
   rintro w hw hne ⟨m, m1, m2, m3⟩
   have hwn := hvld v ⟨hv2.1, by rw [es_len G]; exact hv2.2⟩ w hw
   by_cases h0 : rd dl w < 0
   · exact (D.non w hwn h0).2 m m3
   have h1 := hge w hw (by omega)
   have h2 := (D.has w hwn (by omega)).2 m m3
   omega
  have htake : ∀ w ∈ row (edgesOf l) v, rd dl w = ((q + 1 : Nat) : Int) -> w ∉ path /\ Wk (edgesOf l) (q + 1) w s := by
   intro w hw e
   have hwn := hvld v ⟨hv2.1, by rw [es_len G]; exact hv2.2⟩ w hw
   have d1 := (D.has w hwn (by omega)).1
   rw [e] at d1
   have d2 : Wk (edgesOf l) (q + 1) w s := by simpa using d1
   refine ⟨fun hp => ?_, d2⟩
   obtain ⟨i, hi, rfl⟩ := List.mem_iff_getElem.1 hp
   have := hmin (i + (q + 1)) (by omega) (wk_add (hwk i hi) d2)
   omega
  have hex : ∃ w ∈ row (edgesOf l) v, rd dl w = ((q + 1 : Nat) : Int) := by
   obtain ⟨c, hc, hcs⟩ := hend
   have hcn := hvld v ⟨hv2.1, by rw [es_len G]; exact hv2.2⟩ c hc
   have hc0 : 0 <= rd dl c := by
    rcases Int.lt_or_le (rd dl c) 0 with e | e
    · exact absurd hcs ((D.non c hcn e).2 _)
    · exact e
   have h1 := hge c hc hc0
   have h2 := (D.has c hcn hc0).2 _ hcs
   exact ⟨c, hc, by omega⟩
  have loop : ∀ (m j : Nat), j + m = (row (edgesOf l) v).length -> (∃ w ∈ (row (edgesOf l) v).drop j, rd dl w = ((q + 1 : Nat) : Int)) ->
   Ev (fun k => r_paths.l0 k l (path.map (nb l)) (b : Int) ((row (edgesOf l) v).map (nb l)) j)
    ((path ++ ((((row (edgesOf l) v).drop j).find? (fun w => rd dl w == ((q + 1 : Nat) : Int))).getD v :: chn (edgesOf l) dl q ((((row (edgesOf l) v).drop j).find? (fun w => rd dl w == ((q + 1 : Nat) : Int))).getD v))).map (nb l)) := by
   intro m
   induction m with
   | zero =>
    rintro j hj ⟨w, hw, _⟩
    rw [List.drop_eq_nil_of_le (by omega)] at hw
    cases hw
   | succ m ihm =>
    rintro j hj hw
    have hj2 : j < (row (edgesOf l) v).length := by omega
    have hwm : rd (row (edgesOf l) v) j ∈ row (edgesOf l) v := by rw [rd_at _ j hj2]; exact List.getElem_mem _
    have hwv2 := hvr _ hwm
    have hhas := has_at G hv hwv2.1 hwv2.2 (by omega)
    have hback := back_ev G hwv2.1 hwv2.2 hs0 hs1 ((b : Int) - path.length - 1) (by omega)
    have e1 : wrap64 ((wrap64 ((b : Int) - (((path.map (nb l)).length : Nat) : Int))) - 1) = (b : Int) - path.length - 1 := by
     rw [List.length_map, w64 ((b : Int) - (path.length : Nat)) (by omega) (by omega), w64 _ (by omega) (by omega)]
    have enter : ∀ r, Ev (fun k => r_paths.j2 k l (path.map (nb l)) (b : Int) ((row (edgesOf l) v).map (nb l)) j (if rd (row (edgesOf l) v) j ∈ path then true else !(decide (∃ m : Nat, 1 <= m /\ (m : Int) <= ((b : Int) - path.length - 1) + 1 /\ Wk (edgesOf l) m (rd (row (edgesOf l) v) j) s)))) r ->
     Ev (fun k => r_paths.l0 k l (path.map (nb l)) (b : Int) ((row (edgesOf l) v).map (nb l)) j) r := by
     intro r hrr
     have h2 : Ev (fun k => if decide (rd (row (edgesOf l) v) j ∈ path) = true then r_paths.j2 k l (path.map (nb l)) (b : Int) ((row (edgesOf l) v).map (nb l)) j true else (r_back.f k l (nb l (rd (row (edgesOf l) v) j)) (nb l s) ((b : Int) - path.length - 1)).bind fun t2 => r_paths.j2 k l (path.map (nb l)) (b : Int) ((row (edgesOf l) v).map (nb l)) j (!t2)) r := by
      by_cases hp : rd (row (edgesOf l) v) j ∈ path
      · rw [if_pos hp] at hrr
        simpa only [decide_eq_true hp, if_true] using hrr
      rw [if_neg hp] at hrr
      refine Ev.congr (fun k => ?_) (Ev.bind hback (f := fun k t2 => r_paths.j2 k l (path.map (nb l)) (b : Int) ((row (edgesOf l) v).map (nb l)) j (!t2)) hrr)
      rw [if_neg (by simpa using hp)]
     refine Ev.step (fun k => ?_) (Ev.step (g := fun k => r_paths.j1 k l (path.map (nb l)) (b : Int) ((row (edgesOf l) v).map (nb l)) j true) (fun k => ?_) (Ev.bind hhas (f := fun k t => if t = true then r_paths.j2 k l (path.map (nb l)) (b : Int) ((row (edgesOf l) v).map (nb l)) j true else (r_back.f k l (nb l (rd (row (edgesOf l) v) j)) (nb l s) ((b : Int) - path.length - 1)).bind fun t2 => r_paths.j2 k l (path.map (nb l)) (b : Int) ((row (edgesOf l) v).map (nb l)) j (!t2)) h2))
     · simp only [r_paths.l0]
       rw [if_pos (by rw [List.length_map]; omega), decide_eq_true (by rw [List.length_map]; omega)]
     · simp only [r_paths.j1]
       rw [if_pos trivial, if_pos (by omega), if_pos (by rw [List.length_map]; omega), rd_strs j hj2, e0, e1]
       congr 1
       funext t
       rw [if_pos (show (0 : Int) < (((path.map (nb l)).length : Nat) : Int) by rw [List.length_map]; omega)]
    rw [drop_row _ j hj2] at hw ⊢
    by_cases c : rd dl (rd (row (edgesOf l) v) j) = ((q + 1 : Nat) : Int)
    rotate_left
    · have hw2 : ∃ w ∈ (row (edgesOf l) v).drop (j + 1), rd dl w = ((q + 1 : Nat) : Int) := by
       obtain ⟨w, hw, e⟩ := hw
       rcases List.mem_cons.1 hw with rfl | hw
       · exact absurd e c
       · exact ⟨w, hw, e⟩
      rw [List.find?_cons_of_neg (by simpa using c)]
      refine enter _ ?_
      have hT : (if rd (row (edgesOf l) v) j ∈ path then true else !(decide (∃ m : Nat, 1 <= m /\ (m : Int) <= ((b : Int) - path.length - 1) + 1 /\ Wk (edgesOf l) m (rd (row (edgesOf l) v) j) s))) = true := by
       split
       · rfl
       · rw [decide_eq_false (hskip _ hwm c)]; rfl
      rw [hT]
      refine Ev.step (fun k => ?_) (ihm (j + 1) (by omega) hw2)
      simp only [r_paths.j2]
      rw [if_pos trivial, succ_cast j (by omega)]
    obtain ⟨t1, t2⟩ := htake _ hwm c
    rw [List.find?_cons_of_pos (by simpa using c), Option.getD_some]
    have hrec := ih (path ++ [rd (row (edgesOf l) v) j]) (rd (row (edgesOf l) v) j) (by rw [List.length_append, List.length_singleton]; omega) (fun x hx => by
     rw [List.mem_append, List.mem_singleton] at hx
     rcases hx with hx | rfl
     · exact hv x hx
     · exact hwv2) (by cases path with | nil => cases hhd | cons p path => simpa using hhd) (by simp) (fun i hi => by
       rw [List.length_append, List.length_singleton] at hi
       by_cases e : i < path.length
       · rw [List.getElem_append_left e]; exact hwk i e
       have e2 : i = path.length := by omega
       subst e2
       rw [List.getElem_append_right (Nat.le_refl _)]
       simp only [Nat.sub_self, List.getElem_cons_zero]
       have := wk_add hwv (wk_one hwm)
       rw [show path.length - 1 + 1 = path.length by omega] at this
       exact this) t2
    rw [List.append_assoc, List.singleton_append, List.map_append, List.map_cons, List.map_nil] at hrec
    refine enter _ ?_
    rw [if_neg t1, decide_eq_true ⟨q + 1, by omega, by omega, t2⟩]
    refine Ev.step (fun k => ?_) (Ev.bind hrec (f := fun k t => if (t.length : Int) > 0 then some t else r_paths.l0 k l (path.map (nb l)) (b : Int) ((row (edgesOf l) v).map (nb l)) ((j + 1 : Nat) : Int)) (Ev.congr (fun k => ?_) (Ev.now _)))
    · simp only [r_paths.j2]
      rw [if_neg (by simp), if_pos (by simp; omega), Option.bind_some, if_pos (by omega), if_pos (by rw [List.length_map]; omega), List.nil_append, if_pos (by rw [List.length_map]; omega), rd_strs j hj2, succ_cast j (by omega)]
    · rw [if_pos (by simp; omega)]
  have hloop := loop (row (edgesOf l) v).length 0 (by omega) (by rw [List.drop_zero]; exact hex)
  rw [List.drop_zero] at hloop
  rw [chn]
  refine Ev.step (fun k => ?_) (Ev.bind (imps_at G hv2.1 hv2.2) (f := fun k t => (q_Has.f k t (nb l s)).bind fun t2 => if t2 = true then some (path.map (nb l)) else r_paths.l0 k l (path.map (nb l)) (b : Int) t ((0 : Nat) : Int)) (Ev.bind hh (f := fun k t2 => if t2 = true then some (path.map (nb l)) else r_paths.l0 k l (path.map (nb l)) (b : Int) ((row (edgesOf l) v).map (nb l)) ((0 : Nat) : Int)) hloop))
  simp only [r_paths.f]
  rw [ew, if_pos (by omega), if_pos (by rw [List.length_map]; omega), eL, e0]
  congr 1
  funext t
  rw [if_pos (by rw [List.length_map]; omega)]
  rfl
end
section
variable {l : List S42}
theorem chn_vl (G : Good l) (dl : List Int) : ∀ (q : Nat) (v : Int), 0 <= v -> v < l.length -> VL l (chn (edgesOf l) dl q v) := by
 intro q
 induction q with
 | zero => intro v _ _ x hx; cases hx
 | succ q ih =>
  intro v h0 h1 x hx
  have hw : 0 <= (((row (edgesOf l) v).find? (fun w => rd dl w == ((q + 1 : Nat) : Int))).getD v) /\ (((row (edgesOf l) v).find? (fun w => rd dl w == ((q + 1 : Nat) : Int))).getD v) < l.length := by
   cases h : (row (edgesOf l) v).find? (fun w => rd dl w == ((q + 1 : Nat) : Int)) with
   | none => exact ⟨h0, h1⟩
   | some w => exact VL.row G h0 h1 w (List.mem_of_find?_eq_some h)
  rw [chn] at hx
  rcases List.mem_cons.1 hx with rfl | hx
  · exact hw
  · exact ih _ hw.1 hw.2 x hx
theorem refcycle_of (G : Good l) (C : List Int) (h : ((∀ u, nd (edgesOf l) u -> ∀ m, ¬ Cy (edgesOf l) u m) /\ C = []) \/ ∃ b s dl, Gi (edgesOf l) b s /\ b <= (edgesOf l).length /\ DL (edgesOf l) s dl /\ C = s :: chn (edgesOf l) dl (b - 1) s) (h0 : (consF l).1 = 0) :
 Ev (fun k => r_Cycle.f k l) (C.map (nb l)) := by
 have hlen := G.len
 have hil : (iota l.length).length = l.length := iota_length _
 have hrdi : ∀ i : Nat, i < l.length -> rdOf ByteArray.empty ((iota l.length).map (nb l)) (i : Int) = nb l (i : Int) := fun i hi => by
  rw [rd_strs i (by rw [hil]; exact hi), rd_at _ i (by rw [hil]; exact hi)]
  simp [iota]
 have hmain : Ev (fun k => r_Cycle.l0 k l ((iota l.length).map (nb l)) 1) (C.map (nb l)) := by
  have skip : ∀ (N : Nat), 1 <= N -> N <= l.length -> ∀ (m i t : Nat), i + m = t -> t <= l.length -> (∀ u : Nat, i <= u -> u < t -> ∀ q : Nat, 1 <= q -> q <= N -> ¬ Wk (edgesOf l) q u u) -> ∀ r, Ev (fun k => r_Cycle.l1 k l ((iota l.length).map (nb l)) (N : Int) t) r ->
   Ev (fun k => r_Cycle.l1 k l ((iota l.length).map (nb l)) (N : Int) i) r := by
   intro N hN1 hN m
   induction m with
   | zero => intro i t hi _ _ r hr; obtain rfl : i = t := (by omega); exact hr
   | succ m ih =>
    intro i t hi ht hno r hr
    have hp := paths_none G (s := (i : Int)) (by omega) (by omega) N hN1 (by omega) (hno i (Nat.le_refl _) (by omega))
    have hrec := ih (i + 1) t (by omega) ht (fun u hu hut => hno u (by omega) hut) r hr
    refine Ev.step (fun k => ?_) (Ev.bind hp (f := fun k t => if (t.length : Int) > 0 then some t else r_Cycle.l1 k l ((iota l.length).map (nb l)) (N : Int) ((i + 1 : Nat) : Int)) (Ev.congr (fun k => ?_) hrec))
    · simp only [r_Cycle.l1]
      rw [if_pos (by rw [List.length_map, hil]; omega), if_pos (by omega), hrdi i (by omega), succ_cast i (by omega)]
    · rw [if_neg (by simp)]
  have done : ∀ (N : Nat), N <= l.length -> ∀ r, Ev (fun k => r_Cycle.l0 k l ((iota l.length).map (nb l)) ((N + 1 : Nat) : Int)) r -> Ev (fun k => r_Cycle.l1 k l ((iota l.length).map (nb l)) (N : Int) (l.length : Nat)) r := by
   intro N hN r hr
   refine Ev.step (fun k => ?_) hr
   simp only [r_Cycle.l1]
   rw [if_neg (by rw [List.length_map, hil]; omega), succ_cast N (by omega)]
  have enter : ∀ (N : Nat), N <= l.length -> ∀ r, Ev (fun k => r_Cycle.l1 k l ((iota l.length).map (nb l)) (N : Int) ((0 : Nat) : Int)) r -> Ev (fun k => r_Cycle.l0 k l ((iota l.length).map (nb l)) (N : Int)) r := by
   intro N hN r hr
   refine Ev.step (fun k => ?_) hr
   simp only [r_Cycle.l0]
   rw [if_pos (by rw [List.length_map, hil]; omega)]
   rfl
  rcases h with ⟨hno, rfl⟩ | ⟨b, s, dl, g, gb, D, rfl⟩
  · have all : ∀ (m N : Nat), N + m = l.length + 1 -> 1 <= N -> Ev (fun k => r_Cycle.l0 k l ((iota l.length).map (nb l)) (N : Int)) [] := by
     intro m
     induction m with
     | zero =>
      intro N hN _
      refine Ev.step (fun k => ?_) (Ev.now _)
      simp only [r_Cycle.l0]
      rw [if_neg (by rw [List.length_map, hil]; omega)]
     | succ m ih =>
      intro N hN hN1
      refine enter N (by omega) _ (skip N hN1 (by omega) l.length 0 l.length (by omega) (Nat.le_refl _) (fun u _ hu q h1 h2 h3 => hno u ⟨by omega, by rw [es_len G]; omega⟩ q ⟨h1, h3⟩) _ (done N (by omega) _ (ih (N + 1) (by omega) (by omega))))
    exact all l.length 1 (by omega) (by omega)
  · rw [es_len G] at gb
    have hb1 := g.cyc.1
    have hs0 : 0 <= s := g.nds.1
    have hs1 : s < l.length := by have := g.nds.2; rw [es_len G] at this; exact this
    obtain ⟨sn, rfl⟩ : ∃ sn : Nat, s = sn := ⟨s.toNat, by omega⟩
    have all : ∀ (m N : Nat), N + m = b -> 1 <= N -> Ev (fun k => r_Cycle.l0 k l ((iota l.length).map (nb l)) (N : Int)) (((sn : Int) :: chn (edgesOf l) dl (b - 1) sn).map (nb l)) := by
     intro m
     induction m with
     | zero =>
      intro N hN _
      obtain rfl : N = b := by omega
      have hw := paths_walk G g gb D (N - 1) [(sn : Int)] sn (by simp; omega) (fun x hx => by rw [List.mem_singleton] at hx; subst hx; exact ⟨hs0, hs1⟩) rfl rfl (fun i hi => by
       have : i = 0 := by simp at hi; exact hi
       subst this; rfl) (by rw [show N - 1 + 1 = N by omega]; exact g.cyc.2)
      refine enter N gb _ (skip N hb1 gb sn 0 sn (by omega) (by omega) (fun u _ hu q h1 h2 h3 => ?_) _ ?_)
      · have := g.min u ⟨by omega, by rw [es_len G]; omega⟩ q ⟨h1, h3⟩
        have := this.2 (by omega)
        omega
      · refine Ev.step (fun k => ?_) (Ev.bind hw (f := fun k t => if (t.length : Int) > 0 then some t else r_Cycle.l1 k l ((iota l.length).map (nb l)) (N : Int) ((sn + 1 : Nat) : Int)) (Ev.congr (fun k => ?_) (Ev.now _)))
        · simp only [r_Cycle.l1]
          rw [if_pos (by rw [List.length_map, hil]; omega), if_pos (by omega), hrdi sn (by omega), succ_cast sn (by omega)]
          rfl
        · rw [if_pos (by simp)]
          rfl
     | succ m ih =>
      intro N hN hN1
      refine enter N (by omega) _ (skip N hN1 (by omega) l.length 0 l.length (by omega) (Nat.le_refl _) (fun u _ hu q h1 h2 h3 => ?_) _ (done N (by omega) _ (ih (N + 1) (by omega) (by omega))))
      have := (g.min u ⟨by omega, by rw [es_len G]; omega⟩ q ⟨h1, h3⟩).1
      omega
    exact all (b - 1) 1 (by omega) (by omega)
 refine Ev.congr (fun k => ?_) (Ev.bind (cons_ev l (fun m hm => by have := G.few m hm; omega)) (f := fun k bt => if bt.1 = 0 then ((r_Names.f k l).bind fun t => r_Cycle.l0 k l t 1) else some []) (Ev.congr (fun k => ?_) (Ev.bind (names_at G) (f := fun k t => r_Cycle.l0 k l t 1) hmain)))
 · rfl
 · rw [if_pos h0]
structure Cyc (l : List S42) (C : List Int) : Prop where
 vl : VL l C
 len : C.length <= 32
 prog : Ev (fun k => p_cycle.f k (namesOf l) (edgesOf l)) C
 ref : Ev (fun k => r_Cycle.f k l) (C.map (nb l))
 told : ((∀ u, nd (edgesOf l) u -> ∀ m, ¬ Cy (edgesOf l) u m) /\ C = []) \/ ∃ b s dl, Gi (edgesOf l) b s /\ b <= (edgesOf l).length /\ DL (edgesOf l) s dl /\ C = s :: chn (edgesOf l) dl (b - 1) s
theorem cyc_ex (G : Good l) (h0 : (consF l).1 = 0) : ∃ C, Cyc l C := by
 have hlen := G.len
 have hc := cycle_ev (namesOf l) (es_vld G) (by rw [es_len G]; omega) (fun v hv => by have := row_len G hv.1 (by have := hv.2; rw [es_len G] at this; exact this); omega) (by rw [names_len G, es_len G])
 rcases hc with ⟨h1, h2⟩ | ⟨b, s, dl, g1, g2, g3, g4⟩
 · exact ⟨[], ⟨fun x hx => (by cases hx), by simp, h2, refcycle_of G [] (.inl ⟨h1, rfl⟩) h0, .inl ⟨h1, rfl⟩⟩⟩
 · have hs1 : s < l.length := by have := g1.nds.2; rw [es_len G] at this; exact this
   refine ⟨_, ⟨fun x hx => ?_, ?_, g4, refcycle_of G _ (.inr ⟨b, s, dl, g1, g2, g3, rfl⟩) h0, .inr ⟨b, s, dl, g1, g2, g3, rfl⟩⟩⟩
   · rcases List.mem_cons.1 hx with rfl | hx
     · exact ⟨g1.nds.1, hs1⟩
     · exact chn_vl G dl _ s g1.nds.1 hs1 x hx
   · rw [List.length_cons, chn_len]
     rw [es_len G] at g2
     have := g1.cyc.1
     omega
theorem progcycle_ev (G : Good l) (hs : okSizes l) (h0 : (consF l).1 = 0) {C : List Int} (hC : Cyc l C) : Ev (fun k => m_Cycle.f k l) (C.map (nb l)) := by
 have hm := made_consF l hs
 rw [if_pos h0] at hm
 refine Ev.congr (fun k => ?_) (Ev.bind hC.prog (f := fun k t => (p_named.f k (namesOf l) (edgesOf l) t).bind fun t2 => some t2) (Ev.bind (named_at G hC.vl (by have := hC.len; omega)) (f := fun k t => some t) (Ev.now _)))
 unfold m_Cycle.f
 rw [hm, Option.bind_some, if_pos rfl]
end
theorem succ_max (j : Nat) (h : j < 9223372036854775807) : wrap64 ((j : Int) + 1) = ((j + 1 : Nat) : Int) := by
 rw [w64 _ (by omega) (by omega)]
 omega
theorem small_ev (l : List S42) (hl : l.length <= 9223372036854775807) : ∃ b, Ev (fun k => w_small.f k l) b /\ (b = true -> (∀ m ∈ l, m.f3.length <= 12) /\ (l.length <= 12 \/ 32 < l.length)) := by
 have key : ∀ (m j : Nat), j + m = l.length -> ∃ b, Ev (fun k => w_small.l0 k l j) b /\ (b = true -> (∀ q ∈ l.drop j, q.f3.length <= 12) /\ (l.length <= 12 \/ 32 < l.length)) := by
  intro m
  induction m with
  | zero =>
   intro j hj
   rw [List.drop_eq_nil_of_le (by omega)]
   by_cases h1 : l.length <= 12
   · refine ⟨true, Ev.step (fun k => ?_) (Ev.now _), fun _ => ⟨by simp, .inl h1⟩⟩
     simp only [w_small.l0]
     rw [if_neg (by omega), if_pos (by omega)]
   by_cases h2 : 32 < l.length
   rotate_left
   · refine ⟨false, Ev.step (fun k => ?_) (Ev.now _), fun h => by cases h⟩
     simp only [w_small.l0]
     rw [if_neg (by omega), if_neg (by omega), if_neg (by omega)]
   refine ⟨decide ((l.length : Int) <= 100), Ev.step (fun k => ?_) (Ev.now _), fun _ => ⟨by simp, .inr h2⟩⟩
   simp only [w_small.l0]
   rw [if_neg (by omega), if_neg (by omega), if_pos (by omega)]
  | succ m ih =>
   intro j hj
   obtain ⟨b, b1, b2⟩ := ih (j + 1) (by omega)
   rw [drop_mods l j (by omega)]
   by_cases h : (((rd_T42 l j).f3).length : Int) > 12
   · refine ⟨false, Ev.step (fun k => ?_) (Ev.now _), fun h => by cases h⟩
     simp only [w_small.l0]
     rw [if_pos (by omega), if_pos (by omega), if_pos h]
   refine ⟨b, Ev.step (fun k => ?_) b1, fun hb => ⟨fun q hq => ?_, (b2 hb).2⟩⟩
   · simp only [w_small.l0]
     rw [if_pos (by omega), if_pos (by omega), if_neg h, succ_max j (by omega)]
   · rcases List.mem_cons.1 hq with rfl | hq
     · omega
     · exact (b2 hb).1 q hq
 obtain ⟨b, b1, b2⟩ := key l.length 0 (by omega)
 exact ⟨b, b1, by rw [List.drop_zero] at b2; exact b2⟩
theorem okSizes_of {l : List S42} (h : ∀ x ∈ l, x.f0.size <= maxLen /\ ∀ i ∈ x.f3, i.f0.size <= maxLen) (hf : ∀ m ∈ l, m.f3.length <= 12) : okSizes l :=
 fun m hm => ⟨(h m hm).1, by have := hf m hm; omega, (h m hm).2⟩
theorem ModgraphCycle (l : List S42) (hz : ∀ x ∈ l, x.f0.size <= maxLen /\ ∀ i ∈ x.f3, i.f0.size <= maxLen) (hl : l.length <= 9223372036854775807) : ∃ k, w_ModgraphCycle.f k l = some true := by
 refine Ev.rounds (g := fun k => w_ModgraphCycle.f k l) ?_
 obtain ⟨b, b1, b2⟩ := small_ev l hl
 have hj : Ev (fun k => w_ModgraphCycle.j0 k l true) true := by
  refine Ev.step (fun k => ?_) (Ev.now _)
  simp only [w_ModgraphCycle.j0]
  rfl
 have hfin : (∀ m ∈ l, m.f3.length <= 12) -> Ev (fun k => w_ModgraphCycle.j0 k l false) true := by
  intro hf
  have hs := okSizes_of hz hf
  have hboth : ∃ C, C.length < 1000000 /\ Ev (fun k => m_Cycle.f k l) C /\ Ev (fun k => r_Cycle.f k l) C := by
   by_cases h0 : (consF l).1 = 0
   · have G := good_of h0 (fun m hm => by have := hf m hm; omega)
     obtain ⟨C, hC⟩ := cyc_ex G h0
     exact ⟨_, by rw [List.length_map]; have := hC.len; omega, progcycle_ev G hs h0 hC, hC.ref⟩
   have hm := made_consF l hs
   rw [if_neg h0] at hm
   refine ⟨[], by simp, Ev.congr (fun k => ?_) (Ev.now _), Ev.congr (fun k => ?_) (Ev.bind (cons_ev l (fun m hm => by have := hf m hm; omega)) (f := fun k bt => if bt.1 = 0 then ((r_Names.f k l).bind fun t => r_Cycle.l0 k l t 1) else some []) (Ev.congr (fun k => ?_) (Ev.now _)))⟩
   · unfold m_Cycle.f
     rw [hm, Option.bind_some, if_neg h0]
   · rfl
   · rw [if_neg h0]
  obtain ⟨C, c0, c1, c2⟩ := hboth
  have hsame := same_ev C C c0
  rw [decide_eq_true rfl] at hsame
  refine Ev.step (fun k => ?_) (Ev.bind c1 (f := fun k t => (r_Cycle.f k l).bind fun t2 => (w_same.f k t t2).bind fun t3 => if t3 = true then (w_awake.f.bind fun t4 => some t4) else some false) (Ev.bind c2 (f := fun k t2 => (w_same.f k C t2).bind fun t3 => if t3 = true then (w_awake.f.bind fun t4 => some t4) else some false) (Ev.bind hsame (f := fun k t3 => if t3 = true then (w_awake.f.bind fun t4 => some t4) else some false) (Ev.now true))))
  simp only [w_ModgraphCycle.j0]
  rw [if_neg (by simp)]
 refine Ev.congr (fun k => ?_) (Ev.bind b1 (f := fun k t => if t = true then (if (l.length : Int) > 8 then w_ModgraphCycle.j0 k l (decide ((l.length : Int) <= 32)) else w_ModgraphCycle.j0 k l false) else w_ModgraphCycle.j0 k l true) ?_)
 · rfl
 · cases b with
   | false => exact Ev.congr (fun k => if_neg (by simp)) hj
   | true =>
    obtain ⟨hf, _⟩ := b2 rfl
    by_cases h8 : (l.length : Int) > 8
    rotate_left
    · exact Ev.congr (fun k => by rw [if_pos rfl, if_neg h8]) (hfin hf)
    cases h9 : decide ((l.length : Int) <= 32) with
    | true => exact Ev.congr (fun k => by rw [if_pos rfl, if_pos h8]) hj
    | false => exact Ev.congr (fun k => by rw [if_pos rfl, if_pos h8]) (hfin hf)
end Tp
end Go.Proofs.Ytmadhaccjmakdaa
namespace Go.Proofs.Ytmadhaccjmakdaa.modgraphCycle
open Go.ChangeShapes Go.WideShapes Go.ChangeAt Go.RowKit Go.Proofs.Yw.A
theorem own : ownKnob Try.prog.godebug = none := by kernel_rfl
theorem laidOut : laidOutB Try.prog = true := by kernel_rfl
theorem lifted (os : Os) (started : os.Started) (H : Type) (enc : TypeId × Value -> H) :
 ReturnsInHanded {} Try.checked os 5 .any (Rows.modgraphCycleSpec.pre6 enc Try.prog Try.f5 Rows.modgraphCycleRow.domain false) (Rows.modgraphCycleSpec.post enc Try.prog Try.f5 false true false false) := by
 refine returnsInHanded_of_change_sized (C := Try.checked) own started (by kernel_rfl) Try.func5
  (ChangeSpec.witness6 (enc := enc) (C := Try.checked) false ⟨#[], #[.slice none 0 0], []⟩ 8 (by kernel_rfl) (by kernel_rfl) (by kernel_rfl) (by kernel_rfl)) ?_
 intro W base args ds gs before hval0 hW hcnd hsz0 _
 have hsz : (DataW.weightsEach Try.prog (Try.f5.params.toList ++ Rows.modgraphCycleSpec.plain.varTypes Try.prog) (ds ++ gs)).all (· <= reachBytes) = true := hsz0
 have hval : ∀ (j : Nat) t v, Try.f5.params[j]? = some t -> args[j]? = some v -> Value.okWide Try.prog W .any base t v := hval0
 have hW' := hW
 obtain ⟨p, q, hA0, hV, rfl, hfz, hnd⟩ := hW
 have hA : DataW.TrodAll enc Try.prog W 0 (fun _ => true) true Try.f5.params.toList args.toList ds p := hA0
 rw [Try.params5] at hA hval hsz
 obtain ⟨v0, vs0, d0, ds0, p0, q0, hargs, rfl, rfl, h0, r0⟩ := trodAll_cons hA
 obtain ⟨rfl, rfl, rfl⟩ := trodAll_nil r0
 obtain rfl : args = #[v0] := by cases args; simp_all
 obtain ⟨rfl, rfl⟩ := trodVars_none hV
 have k0 := h0
 have lt0 : ∀ x ∈ p0, x.block < W.heap.size := by obtain ⟨m, hm⟩ := k0; exact DataW.trod_lt m _ _ _ hm
 obtain ⟨A0, c0, l0, rfl, hc0, hr0, y0⟩ := Op.Opens.arg Try.underlying22 Op.opens22 (hval 0 22 v0 rfl rfl) h0
 clear hA0 hval0 hsz0 hsz
 obtain ⟨kr, hkr⟩ := Tp.ModgraphCycle l0 y0 (Kd.C_max hr0)
 refine (P.w_ModgraphCycle.calls kr A0 c0 l0 true W hr0 hc0 hkr).mono fun e W' ⟨he, bel⟩ => ?_
 subst he
 exact ⟨_, rfl, _, _, _, [], _, [], hW', trodAll_mk1 (shut_bool Try.underlying4 _), (trodAll_cons_mk (Below.trod laidOut (by kernel_rfl) (of_decide_eq_true (by kernel_rfl)) k0 bel lt0) trodAll_mk0), rfl, bel.frame _, fun h => by cases h⟩
theorem over : Rows.modgraphCycleRow.holds Try.pinned (OpenSpec.ofChange Rows.modgraphCycleSpec) :=
 OpenClaim.holds_of_wide 5 Try.f5 rfl rfl rfl rfl rfl rfl rfl ⟨rfl, rfl, rfl, rfl, rfl⟩ rfl rfl rfl rfl rfl (by kernel_rfl) Try.func5 (by kernel_rfl)
  (of_decide_eq_true (by kernel_rfl)) (by unfold Func.isWrapper; first | (rw [if_pos (by decide +kernel)]; kernel_rfl) | (rw [if_neg (by decide +kernel)]; exact ⟨rfl, rfl⟩))
  (fun os started H enc _ => lifted os started H enc)
theorem proved : Rows.ModgraphCycleSaid := over
#print axioms proved
end Go.Proofs.Ytmadhaccjmakdaa.modgraphCycle
namespace Go.Proofs.Ytmadhaccjmakdaa
theorem modgraphCycle_holds : Rows.ModgraphCycleSaid := modgraphCycle.proved
end Go.Proofs.Ytmadhaccjmakdaa
