/- Part 4 of 6 of one proof: graph.Levels in the form in which printed texts call it -/
import Derived.Test.YtmadhaccjmakdaaMNeeds1
import Derived.Test.YtmadhaccjmakdaaMNeeds2
import Derived.Test.YtmadhaccjmakdaaMNeeds3
set_option linter.unusedVariables false
set_option linter.unusedSimpArgs false
set_option maxHeartbeats 8000000
set_option maxRecDepth 100000
namespace Go.Proofs.Ytmadhaccjmakdaa.P
open Go.RowKit Go.Proofs.Yw.A Go.Proofs.Yw.A.Kd Go.Proofs.Yw.B Go.Proofs.Yw.C
attribute [local go_sem] str_gtr str_leq str_geq max2_int min2_int max_two min_two max_three min_three max_four min_four
mutual
noncomputable def r_consistent.l0 : Nat -> List (S42) -> List ByteArray -> Int -> Option (Int × ByteArray × Int × Int)
 | 0, _, _, _ => none
 | k + 1, x0, x3, x4 => if x4 < (x0.length : Int) then (if 0 <= x4 then ((q_Has.f k x3 ((rd_T42 x0 x4).f0)).bind fun t334 => (if t334 = true then (some (13, (rd_T42 x0 x4).f0, 0, 0)) else (if x3.length < 8796093022208 then (r_consistent.l0 k x0 (x3 ++ [(rd_T42 x0 x4).f0]) (wrap64 (x4 + 1))) else (none)))) else (none)) else (r_consistent.l1 k x0 x3 0)
noncomputable def r_consistent.l1 : Nat -> List (S42) -> List ByteArray -> Int -> Option (Int × ByteArray × Int × Int)
 | 0, _, _, _ => none
 | k + 1, x0, x3, x5 => if x5 < (x0.length : Int) then (r_consistent.l2 k x0 x3 x5 0) else (some (0, (⟨#[]⟩ : ByteArray), 0, 0))
noncomputable def r_consistent.l2 : Nat -> List (S42) -> List ByteArray -> Int -> Int -> Option (Int × ByteArray × Int × Int)
 | 0, _, _, _, _ => none
 | k + 1, x0, x3, x5, x6 => if 0 <= x5 then (if x5 < (x0.length : Int) then (if x6 < (((rd_T42 x0 x5).f3).length : Int) then (if 0 <= x6 then ((q_Has.f k x3 ((rd_T66 ((rd_T42 x0 x5).f3) x6).f0)).bind fun t343 => (if t343 = true then (r_consistent.l2 k x0 x3 x5 (wrap64 (x6 + 1))) else (some (16, (rd_T66 ((rd_T42 x0 x5).f3) x6).f0, 0, 0)))) else (none)) else (r_consistent.l1 k x0 x3 (wrap64 (x5 + 1)))) else (none)) else (none)
end
noncomputable def r_consistent.f (k : Nat) (l0 : List (S42)) : Option (Int × ByteArray × Int × Int) := if (l0.length : Int) > 32 then (some (3, (⟨#[]⟩ : ByteArray), 0, 0)) else (r_consistent.l0 k l0 ([] : List ByteArray) 0)
theorem r_consistent.calls (k : Nat) (A0 : Option Addr) (c0 : Nat) (l0 : List (S42)) (r1 : Int) (r2 : ByteArray) (r3 : Int) (r4 : Int) (w : World) (hr0 : Kd.C k42 w A0 l0.length l0) (hc0 : l0.length <= c0) (h : r_consistent.f k l0 = some (r1, r2, r3, r4)) :
 Calls Try.prog 36 #[.slice A0 l0.length c0] w fun e w' => e = .returned (.agg #[.int .i64 r1, .string r2, .int .i64 r3, .int .i64 r4]) /\ Below w.heap.size w w' := by
 have hu28 := Try.underlying28
 have HR0 := aM hr0
 have HC0 := aM hc0
 clear hr0 hc0
 have HB := aM (Below.refl w.heap.size w)
 have H : (if (l0.length : Int) > 32 then (some (3, (⟨#[]⟩ : ByteArray), 0, 0)) else (r_consistent.l0 k l0 ([] : List ByteArray) 0)) = some (r1, r2, r3, r4) := h
 clear h
 by_cases c2 : (l0.length : Int) > 32
 · rw [if_pos c2] at H
   have c2b0 : decide (32 < (l0.length : Int)) = true := decide_eq_true c2
   have c2b1 : decide (32 < l0.length) = true := decide_eq_true (by omega)
   clear c2
   simp only [Option.some.injEq, Prod.mk.injEq] at H
   obtain ⟨rfl, rfl, rfl, rfl⟩ := H
   go_enter Try.func36, Try.ntmps36
   go_wp2_with (first | ((with_reducible refine gate_dst (N := 2) rfl ?_); refine be 2 rfl rfl #[.int .i64 0, .string (⟨#[]⟩ : ByteArray), .int .i64 0, .int .i64 0] 28 ?_; intro gb332 hg w3 hbox hb; have BK332 := aM hbox; have GE332 := gs hg HB; replace HB := bs HB hb; clear hb hbox hg; obtain ⟨hcz4_0, hcz4_1, hcz4_2, hcz4_3⟩ := cz BK332; obtain ⟨hfz4_0, hfz4_1, hfz4_2, hfz4_3⟩ := fz BK332))
   refine bodyPost_ret (results_cell_row rfl _ _ gb332 28 #[.int .i64 3, .string (⟨#[]⟩ : ByteArray), .int .i64 0, .int .i64 0] (0, 0) _ rfl (kf BK332) Try.underlying28 rfl (by kernel_rfl)) rfl ?_
   exact ⟨by first | rfl | (simp [errW_none, errW_some] <;> rfl) | (simp [*, errW_none, errW_some] <;> rfl), hh HB⟩
 rw [if_neg c2] at H
 have c2b0 : decide (32 < (l0.length : Int)) = false := decide_eq_false c2
 have c2b1 : decide (32 < l0.length) = false := decide_eq_false (by omega)
 clear c2
 have H' := aM H
 clear H
 go_enter Try.func36, Try.ntmps36
 go_wp2_with (first | ((with_reducible refine gate_dst (N := 2) rfl ?_); refine be 2 rfl rfl #[.int .i64 0, .string (⟨#[]⟩ : ByteArray), .int .i64 0, .int .i64 0] 28 ?_; intro gb332 hg w5 hbox hb; have BK332 := aM hbox; have GE332 := gs hg HB; replace HB := bs HB hb; clear hb hbox hg))
 go_loopg [3, 4] k (fun kq v3 v4 w' => ∃ (x3_1 : List ByteArray) (x4_1 : Int) (x333000_1 : Int) (x333001_1 : ByteArray) (x333002_1 : Int) (x333003_1 : Int), v4 = .int .i64 x4_1 /\ Az (r_consistent.l0 kq l0 x3_1 x4_1 = some (r1, r2, r3, r4)) /\ Az (kq <= k) /\ Az (Kd.R Kd.string 9 w' w.heap.size (fun _ => True) v3 x3_1) /\ Az (w'.heap[gb332]? = some (.cells #[.int .i64 x333000_1, .string x333001_1, .int .i64 x333002_1, .int .i64 x333003_1] 28 (0, 0))) /\ Az (Below w.heap.size w w'))
 case atStart => exact ⟨(([] : List ByteArray)), (0), (0), ((⟨#[]⟩ : ByteArray)), (0), (0), rr, H', ⟨Nat.le_refl _⟩, ⟨by first | exact R_nil _ _ _ _ _ | exact N_nil _ _ _ _ _ | exact V_nil _ _ _ _ _ | exact Q_nil _ _ _ _ _ | exact S_nil _ _ _ _ _⟩, ⟨kk BK332⟩, ⟨hh HB⟩⟩
 case round =>
  clear H'
  clear c2b0 c2b1
  obtain ⟨x3_1, x4_1, x333000_1, x333001_1, x333002_1, x333003_1, rfl, HA, HK1, HO_3, BK332, HB⟩ := hrel
  cases gk with
  | zero => exact absurd HA.1 (by simp [r_consistent.l0])
  | succ k1 =>
   have H := HA.1
   clear HA
   simp only [r_consistent.l0] at H
   by_cases c6 : x4_1 < (l0.length : Int)
   · rw [if_pos c6] at H
     have c6b0 : decide (x4_1 < (l0.length : Int)) = true := decide_eq_true c6
     clear c6
     by_cases c7 : 0 <= x4_1
     rotate_left
     · rw [if_neg c7] at H
       exact absurd H (by simp)
     rw [if_pos c7] at H
     have c7b0 : decide (0 <= x4_1) = true := decide_eq_true c7
     clear c7
     replace H := Option.bind_eq_some_iff.mp H
     obtain ⟨t334, A80, H⟩ := H
     replace H : (if t334 = true then (some (13, (rd_T42 l0 x4_1).f0, 0, 0)) else (if x3_1.length < 8796093022208 then (r_consistent.l0 k1 l0 (x3_1 ++ [(rd_T42 l0 x4_1).f0]) (wrap64 (x4_1 + 1))) else (none))) = some (r1, r2, r3, r4) := H
     have A8 := aM A80
     clear A80
     by_cases c9 : t334 = true
     · subst c9
       have H1 : (some (13, (rd_T42 l0 x4_1).f0, 0, 0)) = some (r1, r2, r3, r4) := by rw [if_pos rfl] at H; exact H
       clear H
       have H := H1
       clear H1
       simp only [Option.some.injEq, Prod.mk.injEq] at H
       obtain ⟨rfl, rfl, rfl, rfl⟩ := H
       have p333 : 0 <= (x4_1 : Int) := dt
       have q333 : x4_1 < (l0.length : Int) := dt
       obtain ⟨ad333, A333_2, c333_2, A333_3, c333_3, e333, hx333_0, hx333_1, hx333_2, hx333_3, hx333_4, hl333_2, hi333_2, hl333_3, hi333_3⟩ := at_T42 HR0.1 x4_1 p333 q333
       cases e333
       replace hx333_0 := hx HB hx333_0
       replace hx333_1 := hx HB hx333_1
       have hw_ea333_2 := aM hx333_2; replace hx333_2 := hx HB hx333_2
       have hw_ea333_3 := aM hx333_3; replace hx333_3 := hx HB hx333_3
       replace hx333_4 := hx HB hx333_4
       have HR333_2 := aM hi333_2
       have HC333_2 := aM hl333_2
       clear hi333_2 hl333_2
       have HR333_3 := aM hi333_3
       have HC333_3 := aM hl333_3
       clear hi333_3 hl333_3
       replace p333 := eq_true p333
       replace q333 := eq_true q333
       obtain ⟨Ao10, co10, eo10⟩ := R_slice HO_3.1
       subst eo10
       go_wp2_with (first | ((with_reducible refine gate_callee (f := 21) rfl ?_); refine gL (some 23) rfl rfl Try.func21 (by kernel_rfl) rfl #[.slice Ao10 x3_1.length co10, .string ((rd_T42 l0 x4_1).f0)] rfl ?_; (with_reducible refine (q_Has.calls k1 _ _ x3_1 ((rd_T42 l0 x4_1).f0) true _ ?side1 ?side2 A8.1).mono ?_); (case side1 => exact cr HO_3); (case side2 => exact (R_reads' HO_3.1).2.1); rintro e w' ⟨rfl, ⟨nd, rfl⟩⟩; refine ⟨_, rfl, ?_⟩; (try (rw [drewN_self wr]; generalize hq_ : World.drewN wr _ = wr; have n0_ : Az (Kd.R Kd.string 9 wr w.heap.size (fun _ => True) (.slice Ao10 x3_1.length co10) x3_1) := ⟨by rw [<- hq_]; exact (rk HO_3)⟩; have n1_ : Az (wr.heap[gb332]? = some (.cells #[.int .i64 x333000_1, .string x333001_1, .int .i64 x333002_1, .int .i64 x333003_1] 28 (0, 0))) := ⟨by rw [<- hq_]; exact (kk BK332)⟩; have n2_ : Az (Below w.heap.size w wr) := ⟨by rw [<- hq_]; exact (hh HB)⟩; clear HO_3 BK332 HB hq_; have HO_3 := n0_; have BK332 := n1_; have HB := n2_; clear n0_ n1_ n2_)); have p335 : 0 <= (x4_1 : Int) := dt; have q335 : x4_1 < (l0.length : Int) := dt; obtain ⟨ad335, A335_2, c335_2, A335_3, c335_3, e335, hx335_0, hx335_1, hx335_2, hx335_3, hx335_4, hl335_2, hi335_2, hl335_3, hi335_3⟩ := at_T42 HR0.1 x4_1 p335 q335; obtain rfl : ad333 = ad335 := (by injection e335); replace hx335_0 := hx HB hx335_0; replace hx335_1 := hx HB hx335_1; have hw_ea335_2 := aM hx335_2; replace hx335_2 := hx HB hx335_2; have hw_ea335_3 := aM hx335_3; replace hx335_3 := hx HB hx335_3; replace hx335_4 := hx HB hx335_4; have HR335_2 := aM hi335_2; have HC335_2 := aM hl335_2; clear hi335_2 hl335_2; have HR335_3 := aM hi335_3; have HC335_3 := aM hl335_3; clear hi335_3 hl335_3; replace p335 := eq_true p335; replace q335 := eq_true q335; have ea_ := Option.some.inj (by first | exact hx333_2.symm.trans hx335_2 | exact hw_ea333_2.1.symm.trans hw_ea335_2.1); injection ea_ with ea_ en_ ec_; subst ea_; subst ec_; clear en_; have ea_ := Option.some.inj (by first | exact hx333_3.symm.trans hx335_3 | exact hw_ea333_3.1.symm.trans hw_ea335_3.1); injection ea_ with ea_ en_ ec_; subst ea_; subst ec_; clear en_; obtain ⟨hcz11_0, hcz11_1, hcz11_2, hcz11_3⟩ := cz BK332; obtain ⟨hfz11_0, hfz11_1, hfz11_2, hfz11_3⟩ := fz BK332))
       refine bodyPost_ret (results_cell_row rfl _ _ gb332 28 #[.int .i64 13, .string ((rd_T42 l0 x4_1).f0), .int .i64 0, .int .i64 0] (0, 0) _ rfl (kf BK332) Try.underlying28 rfl (by kernel_rfl)) rfl ?_
       exact ⟨by first | rfl | (simp [errW_none, errW_some] <;> rfl) | (simp [*, errW_none, errW_some] <;> rfl), hh HB⟩
     replace c9 := Bool.eq_false_iff.mpr c9
     subst c9
     have H1 : (if x3_1.length < 8796093022208 then (r_consistent.l0 k1 l0 (x3_1 ++ [(rd_T42 l0 x4_1).f0]) (wrap64 (x4_1 + 1))) else (none)) = some (r1, r2, r3, r4) := by rw [if_neg (show ¬ (false = true) by decide)] at H; exact H
     clear H
     have H := H1
     clear H1
     by_cases c12 : x3_1.length < 8796093022208
     rotate_left
     · rw [if_neg c12] at H
       exact absurd H (by simp)
     rw [if_pos c12] at H
     have LMc12 := aM c12
     clear c12
     obtain ⟨y337, hy337⟩ : ∃ y_ : List ByteArray, y_ = (x3_1 ++ [(rd_T42 l0 x4_1).f0]) := ⟨_, rfl⟩
     replace H : (r_consistent.l0 k1 l0 y337 (wrap64 (x4_1 + 1))) = some (r1, r2, r3, r4) := by first | (rw [hy337]; with_reducible exact H) | (have H2_ := (Option.bind_some _ _).symm.trans H; rw [hy337]; with_reducible exact H2_) | (have H2_ := (Option.bind_some _ _).symm.trans H; with_reducible exact H2_) | with_reducible exact H | (rw [hy337]; exact H) | exact H
     have Ny337 := aM hy337
     clear hy337
     have H' := aM H
     clear H
     have p333 : 0 <= (x4_1 : Int) := dt
     have q333 : x4_1 < (l0.length : Int) := dt
     obtain ⟨ad333, A333_2, c333_2, A333_3, c333_3, e333, hx333_0, hx333_1, hx333_2, hx333_3, hx333_4, hl333_2, hi333_2, hl333_3, hi333_3⟩ := at_T42 HR0.1 x4_1 p333 q333
     cases e333
     replace hx333_0 := hx HB hx333_0
     replace hx333_1 := hx HB hx333_1
     have hw_ea333_2 := aM hx333_2; replace hx333_2 := hx HB hx333_2
     have hw_ea333_3 := aM hx333_3; replace hx333_3 := hx HB hx333_3
     replace hx333_4 := hx HB hx333_4
     have HR333_2 := aM hi333_2
     have HC333_2 := aM hl333_2
     clear hi333_2 hl333_2
     have HR333_3 := aM hi333_3
     have HC333_3 := aM hl333_3
     clear hi333_3 hl333_3
     replace p333 := eq_true p333
     replace q333 := eq_true q333
     obtain ⟨Ao13, co13, eo13⟩ := R_slice HO_3.1
     subst eo13
     go_wp2_with (first | ((with_reducible refine gate_callee (f := 21) rfl ?_); refine gL (some 23) rfl rfl Try.func21 (by kernel_rfl) rfl #[.slice Ao13 x3_1.length co13, .string ((rd_T42 l0 x4_1).f0)] rfl ?_; (with_reducible refine (q_Has.calls k1 _ _ x3_1 ((rd_T42 l0 x4_1).f0) false _ ?side1 ?side2 A8.1).mono ?_); (case side1 => exact cr HO_3); (case side2 => exact (R_reads' HO_3.1).2.1); rintro e w' ⟨rfl, ⟨nd, rfl⟩⟩; refine ⟨_, rfl, ?_⟩; have p336 : 0 <= (x4_1 : Int) := dt; have q336 : x4_1 < (l0.length : Int) := dt; obtain ⟨ad336, A336_2, c336_2, A336_3, c336_3, e336, hx336_0, hx336_1, hx336_2, hx336_3, hx336_4, hl336_2, hi336_2, hl336_3, hi336_3⟩ := at_T42 HR0.1 x4_1 p336 q336; obtain rfl : ad333 = ad336 := (by injection e336); replace hx336_0 := hx HB hx336_0; replace hx336_1 := hx HB hx336_1; have hw_ea336_2 := aM hx336_2; replace hx336_2 := hx HB hx336_2; have hw_ea336_3 := aM hx336_3; replace hx336_3 := hx HB hx336_3; replace hx336_4 := hx HB hx336_4; have HR336_2 := aM hi336_2; have HC336_2 := aM hl336_2; clear hi336_2 hl336_2; have HR336_3 := aM hi336_3; have HC336_3 := aM hl336_3; clear hi336_3 hl336_3; replace p336 := eq_true p336; replace q336 := eq_true q336; have ea_ := Option.some.inj (by first | exact hx333_2.symm.trans hx336_2 | exact hw_ea333_2.1.symm.trans hw_ea336_2.1); injection ea_ with ea_ en_ ec_; subst ea_; subst ec_; clear en_; have ea_ := Option.some.inj (by first | exact hx333_3.symm.trans hx336_3 | exact hw_ea333_3.1.symm.trans hw_ea336_3.1); injection ea_ with ea_ en_ ec_; subst ea_; subst ec_; clear en_) | ((with_reducible refine gate_builtin (b := .append) (xs := #[.tmp 30, .tmp 36]) rfl ?_); at_builtin; refine R_append Kd.string (w0 := w) w.heap.size rfl (.tmp 30) (.tmp 36) 25 9 (.string ⟨#[]⟩) 16 rfl Try.underlying25 info9 rfl (by decide) (by omega) (.slice Ao13 x3_1.length co13) x3_1 ((rd_T42 l0 x4_1).f0) [.string ((rd_T42 l0 x4_1).f0)] (fun _ => True) (fun _ => False) rfl rfl ?aP (fun _ hk => hk.elim) ?aF ?aO ?aB ?aS ?aL ?_; (case aP => exact rfl); (case aB => exact (hh HB)); (case aF => exact (fun _ _ => trivial)); (case aO => exact (rk HO_3)); (case aS => exact (below_size (hh HB))); (case aL => have := LMc12.1; omega); intro v338 w14 ho hb hg hat; rw [<- Ny337.1] at ho; have HO339 := aM (ho); replace BK332 := aM (blk_grown (g := gb332) (o := .cells #[.int .i64 x333000_1, .string x333001_1, .int .i64 x333002_1, .int .i64 x333003_1] 28 (0, 0)) (kk BK332) hg (R_ne HO_3.1 BK332.1 (by decide))); replace HB := aM (hb); clear HO_3; clear ho hb hg hat))
     go_roundg k1
     case measure => have := HK1.1; omega
     case rel => exact ⟨(y337), (wrap64 (x4_1 + 1)), (x333000_1), (x333001_1), (x333002_1), (x333003_1), rr, H', ⟨by have := HK1.1; omega⟩, ⟨rk HO339⟩, ⟨kk BK332⟩, ⟨hh HB⟩⟩
   rw [if_neg c6] at H
   have c6b0 : decide (x4_1 < (l0.length : Int)) = false := decide_eq_false c6
   clear c6
   have H' := aM H
   clear H
   go_wp2
   go_loopg [5] k1 (fun kq v5 w' => ∃ (x5_2 : Int) (x333000_2 : Int) (x333001_2 : ByteArray) (x333002_2 : Int) (x333003_2 : Int), v5 = .int .i64 x5_2 /\ Az (r_consistent.l1 kq l0 x3_1 x5_2 = some (r1, r2, r3, r4)) /\ Az (kq <= k1) /\ Az (Kd.R Kd.string 9 w' w.heap.size (fun _ => True) u3 x3_1) /\ Az (w'.heap[gb332]? = some (.cells #[.int .i64 x333000_2, .string x333001_2, .int .i64 x333002_2, .int .i64 x333003_2] 28 (0, 0))) /\ Az (Below w.heap.size w w'))
   case atStart => exact ⟨(0), (x333000_1), (x333001_1), (x333002_1), (x333003_1), rr, H', ⟨Nat.le_refl _⟩, ⟨rk HO_3⟩, ⟨kk BK332⟩, ⟨hh HB⟩⟩
   case round =>
    clear H'
    clear c6b0
    obtain ⟨x5_2, x333000_2, x333001_2, x333002_2, x333003_2, rfl, HA, HK2, HO_3, BK332, HB⟩ := hrel
    cases gk with
    | zero => exact absurd HA.1 (by simp [r_consistent.l1])
    | succ k2 =>
     have H := HA.1
     clear HA
     simp only [r_consistent.l1] at H
     by_cases c15 : x5_2 < (l0.length : Int)
     rotate_left
     · rw [if_neg c15] at H
       have c15b0 : decide (x5_2 < (l0.length : Int)) = false := decide_eq_false c15
       clear c15
       simp only [Option.some.injEq, Prod.mk.injEq] at H
       obtain ⟨rfl, rfl, rfl, rfl⟩ := H
       obtain ⟨hcz25_0, hcz25_1, hcz25_2, hcz25_3⟩ := cz BK332
       obtain ⟨hfz25_0, hfz25_1, hfz25_2, hfz25_3⟩ := fz BK332
       go_wp2
       refine bodyPost_ret (results_cell_row rfl _ _ gb332 28 #[.int .i64 0, .string (⟨#[]⟩ : ByteArray), .int .i64 0, .int .i64 0] (0, 0) _ rfl (kf BK332) Try.underlying28 rfl (by kernel_rfl)) rfl ?_
       exact ⟨by first | rfl | (simp [errW_none, errW_some] <;> rfl) | (simp [*, errW_none, errW_some] <;> rfl), hh HB⟩
     rw [if_pos c15] at H
     have c15b0 : decide (x5_2 < (l0.length : Int)) = true := decide_eq_true c15
     clear c15
     have H' := aM H
     clear H
     go_wp2
     go_loopg [6] k2 (fun kq v6 w' => ∃ (x6_3 : Int) (x333000_3 : Int) (x333001_3 : ByteArray) (x333002_3 : Int) (x333003_3 : Int), v6 = .int .i64 x6_3 /\ Az (r_consistent.l2 kq l0 x3_1 x5_2 x6_3 = some (r1, r2, r3, r4)) /\ Az (kq <= k2) /\ Az (Kd.R Kd.string 9 w' w.heap.size (fun _ => True) u3 x3_1) /\ Az (w'.heap[gb332]? = some (.cells #[.int .i64 x333000_3, .string x333001_3, .int .i64 x333002_3, .int .i64 x333003_3] 28 (0, 0))) /\ Az (Below w.heap.size w w'))
     case atStart => exact ⟨(0), (x333000_2), (x333001_2), (x333002_2), (x333003_2), rr, H', ⟨Nat.le_refl _⟩, ⟨rk HO_3⟩, ⟨kk BK332⟩, ⟨hh HB⟩⟩
     case round =>
      clear H'
      clear c15b0
      obtain ⟨x6_3, x333000_3, x333001_3, x333002_3, x333003_3, rfl, HA, HK3, HO_3, BK332, HB⟩ := hrel
      cases gk with
      | zero => exact absurd HA.1 (by simp [r_consistent.l2])
      | succ k3 =>
       have H := HA.1
       clear HA
       simp only [r_consistent.l2] at H
       by_cases c16 : 0 <= x5_2
       rotate_left
       · rw [if_neg c16] at H
         exact absurd H (by simp)
       rw [if_pos c16] at H
       have c16b0 : decide (0 <= x5_2) = true := decide_eq_true c16
       clear c16
       by_cases c17 : x5_2 < (l0.length : Int)
       rotate_left
       · rw [if_neg c17] at H
         exact absurd H (by simp)
       rw [if_pos c17] at H
       have c17b0 : decide (x5_2 < (l0.length : Int)) = true := decide_eq_true c17
       clear c17
       by_cases c18 : x6_3 < (((rd_T42 l0 x5_2).f3).length : Int)
       rotate_left
       · rw [if_neg c18] at H
         have c18b0 : decide (x6_3 < (((rd_T42 l0 x5_2).f3).length : Int)) = false := decide_eq_false c18
         clear c18
         have H' := aM H
         clear H
         have p340 : 0 <= (x5_2 : Int) := dt
         have q340 : x5_2 < (l0.length : Int) := dt
         obtain ⟨ad340, A340_2, c340_2, A340_3, c340_3, e340, hx340_0, hx340_1, hx340_2, hx340_3, hx340_4, hl340_2, hi340_2, hl340_3, hi340_3⟩ := at_T42 HR0.1 x5_2 p340 q340
         cases e340
         replace hx340_0 := hx HB hx340_0
         replace hx340_1 := hx HB hx340_1
         have hw_ea340_2 := aM hx340_2; replace hx340_2 := hx HB hx340_2
         have hw_ea340_3 := aM hx340_3; replace hx340_3 := hx HB hx340_3
         replace hx340_4 := hx HB hx340_4
         have HR340_2 := aM hi340_2
         have HC340_2 := aM hl340_2
         clear hi340_2 hl340_2
         have HR340_3 := aM hi340_3
         have HC340_3 := aM hl340_3
         clear hi340_3 hl340_3
         replace p340 := eq_true p340
         replace q340 := eq_true q340
         go_wp2
         go_roundg k3
         case measure => have := HK1.1; have := HK2.1; have := HK3.1; omega
         case rel => exact ⟨(wrap64 (x5_2 + 1)), (x333000_3), (x333001_3), (x333002_3), (x333003_3), rr, H', ⟨by have := HK1.1; have := HK2.1; have := HK3.1; omega⟩, ⟨rk HO_3⟩, ⟨kk BK332⟩, ⟨hh HB⟩⟩
       rw [if_pos c18] at H
       have c18b0 : decide (x6_3 < (((rd_T42 l0 x5_2).f3).length : Int)) = true := decide_eq_true c18
       clear c18
       by_cases c19 : 0 <= x6_3
       rotate_left
       · rw [if_neg c19] at H
         exact absurd H (by simp)
       rw [if_pos c19] at H
       have c19b0 : decide (0 <= x6_3) = true := decide_eq_true c19
       clear c19
       replace H := Option.bind_eq_some_iff.mp H
       obtain ⟨t343, A200, H⟩ := H
       replace H : (if t343 = true then (r_consistent.l2 k3 l0 x3_1 x5_2 (wrap64 (x6_3 + 1))) else (some (16, (rd_T66 ((rd_T42 l0 x5_2).f3) x6_3).f0, 0, 0))) = some (r1, r2, r3, r4) := H
       have A20 := aM A200
       clear A200
       by_cases c21 : t343 = true
       · subst c21
         have H1 : (r_consistent.l2 k3 l0 x3_1 x5_2 (wrap64 (x6_3 + 1))) = some (r1, r2, r3, r4) := by rw [if_pos rfl] at H; exact H
         clear H
         have H := H1
         clear H1
         have H' := aM H
         clear H
         have p340 : 0 <= (x5_2 : Int) := dt
         have q340 : x5_2 < (l0.length : Int) := dt
         obtain ⟨ad340, A340_2, c340_2, A340_3, c340_3, e340, hx340_0, hx340_1, hx340_2, hx340_3, hx340_4, hl340_2, hi340_2, hl340_3, hi340_3⟩ := at_T42 HR0.1 x5_2 p340 q340
         cases e340
         replace hx340_0 := hx HB hx340_0
         replace hx340_1 := hx HB hx340_1
         have hw_ea340_2 := aM hx340_2; replace hx340_2 := hx HB hx340_2
         have hw_ea340_3 := aM hx340_3; replace hx340_3 := hx HB hx340_3
         replace hx340_4 := hx HB hx340_4
         have HR340_2 := aM hi340_2
         have HC340_2 := aM hl340_2
         clear hi340_2 hl340_2
         have HR340_3 := aM hi340_3
         have HC340_3 := aM hl340_3
         clear hi340_3 hl340_3
         replace p340 := eq_true p340
         replace q340 := eq_true q340
         have p341 : 0 <= (x5_2 : Int) := dt
         have q341 : x5_2 < (l0.length : Int) := dt
         obtain ⟨ad341, A341_2, c341_2, A341_3, c341_3, e341, hx341_0, hx341_1, hx341_2, hx341_3, hx341_4, hl341_2, hi341_2, hl341_3, hi341_3⟩ := at_T42 HR0.1 x5_2 p341 q341
         obtain rfl : ad340 = ad341 := (by injection e341)
         replace hx341_0 := hx HB hx341_0
         replace hx341_1 := hx HB hx341_1
         have hw_ea341_2 := aM hx341_2; replace hx341_2 := hx HB hx341_2
         have hw_ea341_3 := aM hx341_3; replace hx341_3 := hx HB hx341_3
         replace hx341_4 := hx HB hx341_4
         have HR341_2 := aM hi341_2
         have HC341_2 := aM hl341_2
         clear hi341_2 hl341_2
         have HR341_3 := aM hi341_3
         have HC341_3 := aM hl341_3
         clear hi341_3 hl341_3
         replace p341 := eq_true p341
         replace q341 := eq_true q341
         have ea_ := Option.some.inj (by first | exact hx340_2.symm.trans hx341_2 | exact hw_ea340_2.1.symm.trans hw_ea341_2.1)
         injection ea_ with ea_ en_ ec_
         subst ea_
         subst ec_
         clear en_
         have ea_ := Option.some.inj (by first | exact hx340_3.symm.trans hx341_3 | exact hw_ea340_3.1.symm.trans hw_ea341_3.1)
         injection ea_ with ea_ en_ ec_
         subst ea_
         subst ec_
         clear en_
         have p342 : 0 <= (x6_3 : Int) := dt
         have q342 : x6_3 < (((rd_T42 l0 x5_2).f3).length : Int) := dt
         obtain ⟨ad342, A342_5, c342_5, e342, hx342_0, hx342_1, hx342_2, hx342_3, hx342_4, hx342_5, hl342_5, hi342_5⟩ := at_T66 HR341_3.1 x6_3 p342 q342
         cases e342
         replace hx342_0 := hx HB hx342_0
         replace hx342_1 := hx HB hx342_1
         replace hx342_2 := hx HB hx342_2
         replace hx342_3 := hx HB hx342_3
         replace hx342_4 := hx HB hx342_4
         replace hx342_5 := hx HB hx342_5
         have HR342_5 := aM hi342_5
         have HC342_5 := aM hl342_5
         clear hi342_5 hl342_5
         replace p342 := eq_true p342
         replace q342 := eq_true q342
         obtain ⟨Ao22, co22, eo22⟩ := R_slice HO_3.1
         subst eo22
         go_wp2_with (first | ((with_reducible refine gate_callee (f := 21) rfl ?_); refine gL (some 64) rfl rfl Try.func21 (by kernel_rfl) rfl #[.slice Ao22 x3_1.length co22, .string ((rd_T66 ((rd_T42 l0 x5_2).f3) x6_3).f0)] rfl ?_; (with_reducible refine (q_Has.calls k3 _ _ x3_1 ((rd_T66 ((rd_T42 l0 x5_2).f3) x6_3).f0) true _ ?side1 ?side2 A20.1).mono ?_); (case side1 => exact cr HO_3); (case side2 => exact (R_reads' HO_3.1).2.1); rintro e w' ⟨rfl, ⟨nd, rfl⟩⟩; refine ⟨_, rfl, ?_⟩))
         go_roundg k3
         case measure => have := HK1.1; have := HK2.1; have := HK3.1; omega
         case rel => exact ⟨(wrap64 (x6_3 + 1)), (x333000_3), (x333001_3), (x333002_3), (x333003_3), rr, H', ⟨by have := HK1.1; have := HK2.1; have := HK3.1; omega⟩, ⟨rk HO_3⟩, ⟨kk BK332⟩, ⟨hh HB⟩⟩
       replace c21 := Bool.eq_false_iff.mpr c21
       subst c21
       have H1 : (some (16, (rd_T66 ((rd_T42 l0 x5_2).f3) x6_3).f0, 0, 0)) = some (r1, r2, r3, r4) := by rw [if_neg (show ¬ (false = true) by decide)] at H; exact H
       clear H
       have H := H1
       clear H1
       simp only [Option.some.injEq, Prod.mk.injEq] at H
       obtain ⟨rfl, rfl, rfl, rfl⟩ := H
       have p340 : 0 <= (x5_2 : Int) := dt
       have q340 : x5_2 < (l0.length : Int) := dt
       obtain ⟨ad340, A340_2, c340_2, A340_3, c340_3, e340, hx340_0, hx340_1, hx340_2, hx340_3, hx340_4, hl340_2, hi340_2, hl340_3, hi340_3⟩ := at_T42 HR0.1 x5_2 p340 q340
       cases e340
       replace hx340_0 := hx HB hx340_0
       replace hx340_1 := hx HB hx340_1
       have hw_ea340_2 := aM hx340_2; replace hx340_2 := hx HB hx340_2
       have hw_ea340_3 := aM hx340_3; replace hx340_3 := hx HB hx340_3
       replace hx340_4 := hx HB hx340_4
       have HR340_2 := aM hi340_2
       have HC340_2 := aM hl340_2
       clear hi340_2 hl340_2
       have HR340_3 := aM hi340_3
       have HC340_3 := aM hl340_3
       clear hi340_3 hl340_3
       replace p340 := eq_true p340
       replace q340 := eq_true q340
       have p341 : 0 <= (x5_2 : Int) := dt
       have q341 : x5_2 < (l0.length : Int) := dt
       obtain ⟨ad341, A341_2, c341_2, A341_3, c341_3, e341, hx341_0, hx341_1, hx341_2, hx341_3, hx341_4, hl341_2, hi341_2, hl341_3, hi341_3⟩ := at_T42 HR0.1 x5_2 p341 q341
       obtain rfl : ad340 = ad341 := (by injection e341)
       replace hx341_0 := hx HB hx341_0
       replace hx341_1 := hx HB hx341_1
       have hw_ea341_2 := aM hx341_2; replace hx341_2 := hx HB hx341_2
       have hw_ea341_3 := aM hx341_3; replace hx341_3 := hx HB hx341_3
       replace hx341_4 := hx HB hx341_4
       have HR341_2 := aM hi341_2
       have HC341_2 := aM hl341_2
       clear hi341_2 hl341_2
       have HR341_3 := aM hi341_3
       have HC341_3 := aM hl341_3
       clear hi341_3 hl341_3
       replace p341 := eq_true p341
       replace q341 := eq_true q341
       have ea_ := Option.some.inj (by first | exact hx340_2.symm.trans hx341_2 | exact hw_ea340_2.1.symm.trans hw_ea341_2.1)
       injection ea_ with ea_ en_ ec_
       subst ea_
       subst ec_
       clear en_
       have ea_ := Option.some.inj (by first | exact hx340_3.symm.trans hx341_3 | exact hw_ea340_3.1.symm.trans hw_ea341_3.1)
       injection ea_ with ea_ en_ ec_
       subst ea_
       subst ec_
       clear en_
       have p342 : 0 <= (x6_3 : Int) := dt
       have q342 : x6_3 < (((rd_T42 l0 x5_2).f3).length : Int) := dt
       obtain ⟨ad342, A342_5, c342_5, e342, hx342_0, hx342_1, hx342_2, hx342_3, hx342_4, hx342_5, hl342_5, hi342_5⟩ := at_T66 HR341_3.1 x6_3 p342 q342
       cases e342
       replace hx342_0 := hx HB hx342_0
       replace hx342_1 := hx HB hx342_1
       replace hx342_2 := hx HB hx342_2
       replace hx342_3 := hx HB hx342_3
       replace hx342_4 := hx HB hx342_4
       replace hx342_5 := hx HB hx342_5
       have HR342_5 := aM hi342_5
       have HC342_5 := aM hl342_5
       clear hi342_5 hl342_5
       replace p342 := eq_true p342
       replace q342 := eq_true q342
       obtain ⟨Ao23, co23, eo23⟩ := R_slice HO_3.1
       subst eo23
       go_wp2_with (first | ((with_reducible refine gate_callee (f := 21) rfl ?_); refine gL (some 64) rfl rfl Try.func21 (by kernel_rfl) rfl #[.slice Ao23 x3_1.length co23, .string ((rd_T66 ((rd_T42 l0 x5_2).f3) x6_3).f0)] rfl ?_; (with_reducible refine (q_Has.calls k3 _ _ x3_1 ((rd_T66 ((rd_T42 l0 x5_2).f3) x6_3).f0) false _ ?side1 ?side2 A20.1).mono ?_); (case side1 => exact cr HO_3); (case side2 => exact (R_reads' HO_3.1).2.1); rintro e w' ⟨rfl, ⟨nd, rfl⟩⟩; refine ⟨_, rfl, ?_⟩; (try (rw [drewN_self wr]; generalize hq_ : World.drewN wr _ = wr; have n0_ : Az (Kd.R Kd.string 9 wr w.heap.size (fun _ => True) (.slice Ao23 x3_1.length co23) x3_1) := ⟨by rw [<- hq_]; exact (rk HO_3)⟩; have n1_ : Az (wr.heap[gb332]? = some (.cells #[.int .i64 x333000_3, .string x333001_3, .int .i64 x333002_3, .int .i64 x333003_3] 28 (0, 0))) := ⟨by rw [<- hq_]; exact (kk BK332)⟩; have n2_ : Az (Below w.heap.size w wr) := ⟨by rw [<- hq_]; exact (hh HB)⟩; clear HO_3 BK332 HB hq_; have HO_3 := n0_; have BK332 := n1_; have HB := n2_; clear n0_ n1_ n2_)); have p344 : 0 <= (x5_2 : Int) := dt; have q344 : x5_2 < (l0.length : Int) := dt; obtain ⟨ad344, A344_2, c344_2, A344_3, c344_3, e344, hx344_0, hx344_1, hx344_2, hx344_3, hx344_4, hl344_2, hi344_2, hl344_3, hi344_3⟩ := at_T42 HR0.1 x5_2 p344 q344; obtain rfl : ad340 = ad344 := (by injection e344); replace hx344_0 := hx HB hx344_0; replace hx344_1 := hx HB hx344_1; have hw_ea344_2 := aM hx344_2; replace hx344_2 := hx HB hx344_2; have hw_ea344_3 := aM hx344_3; replace hx344_3 := hx HB hx344_3; replace hx344_4 := hx HB hx344_4; have HR344_2 := aM hi344_2; have HC344_2 := aM hl344_2; clear hi344_2 hl344_2; have HR344_3 := aM hi344_3; have HC344_3 := aM hl344_3; clear hi344_3 hl344_3; replace p344 := eq_true p344; replace q344 := eq_true q344; have ea_ := Option.some.inj (by first | exact hx340_2.symm.trans hx344_2 | exact hw_ea340_2.1.symm.trans hw_ea344_2.1); injection ea_ with ea_ en_ ec_; subst ea_; subst ec_; clear en_; have ea_ := Option.some.inj (by first | exact hx340_3.symm.trans hx344_3 | exact hw_ea340_3.1.symm.trans hw_ea344_3.1); injection ea_ with ea_ en_ ec_; subst ea_; subst ec_; clear en_; have p345 : 0 <= (x6_3 : Int) := dt; have q345 : x6_3 < (((rd_T42 l0 x5_2).f3).length : Int) := dt; obtain ⟨ad345, A345_5, c345_5, e345, hx345_0, hx345_1, hx345_2, hx345_3, hx345_4, hx345_5, hl345_5, hi345_5⟩ := at_T66 HR344_3.1 x6_3 p345 q345; cases e345; replace hx345_0 := hx HB hx345_0; replace hx345_1 := hx HB hx345_1; replace hx345_2 := hx HB hx345_2; replace hx345_3 := hx HB hx345_3; replace hx345_4 := hx HB hx345_4; replace hx345_5 := hx HB hx345_5; have HR345_5 := aM hi345_5; have HC345_5 := aM hl345_5; clear hi345_5 hl345_5; replace p345 := eq_true p345; replace q345 := eq_true q345; obtain ⟨hcz24_0, hcz24_1, hcz24_2, hcz24_3⟩ := cz BK332; obtain ⟨hfz24_0, hfz24_1, hfz24_2, hfz24_3⟩ := fz BK332))
       refine bodyPost_ret (results_cell_row rfl _ _ gb332 28 #[.int .i64 16, .string ((rd_T66 ((rd_T42 l0 x5_2).f3) x6_3).f0), .int .i64 0, .int .i64 0] (0, 0) _ rfl (kf BK332) Try.underlying28 rfl (by kernel_rfl)) rfl ?_
       exact ⟨by first | rfl | (simp [errW_none, errW_some] <;> rfl) | (simp [*, errW_none, errW_some] <;> rfl), hh HB⟩
mutual
noncomputable def r_back.l0 : Nat -> List (S42) -> ByteArray -> Int -> List ByteArray -> Int -> Option (Bool)
 | 0, _, _, _, _, _ => none
 | k + 1, x0, x2, x3, x9, x10 => if x10 <= x3 then (r_back.l1 k x0 x2 x3 x9 x10 ([] : List ByteArray) 0) else (some false)
noncomputable def r_back.l1 : Nat -> List (S42) -> ByteArray -> Int -> List ByteArray -> Int -> List ByteArray -> Int -> Option (Bool)
 | 0, _, _, _, _, _, _, _ => none
 | k + 1, x0, x2, x3, x9, x10, x11, x12 => if x12 < (x9.length : Int) then (if 0 <= x12 then ((r_Insert.f k x11 (rdOf ByteArray.empty x9 x12)).bind fun t350 => ((r_Imports.f k x0 (rdOf ByteArray.empty x9 x12)).bind fun t354 => (r_back.l2 k x0 x2 x3 x9 x10 t350 x12 t354 0))) else (none)) else (r_back.l0 k x0 x2 x3 x11 (wrap64 (x10 + 1)))
noncomputable def r_back.l2 : Nat -> List (S42) -> ByteArray -> Int -> List ByteArray -> Int -> List ByteArray -> Int -> List ByteArray -> Int -> Option (Bool)
 | 0, _, _, _, _, _, _, _, _, _ => none
 | k + 1, x0, x2, x3, x9, x10, x11, x12, x13, x14 => if x14 < (x13.length : Int) then (if 0 <= x14 then (if (rdOf ByteArray.empty x13 x14).toList = x2.toList then (some true) else ((r_Insert.f k x11 (rdOf ByteArray.empty x13 x14)).bind fun t359 => (r_back.l2 k x0 x2 x3 x9 x10 t359 x12 x13 (wrap64 (x14 + 1))))) else (none)) else (r_back.l1 k x0 x2 x3 x9 x10 x11 (wrap64 (x12 + 1)))
end
noncomputable def r_back.f (k : Nat) (l0 : List (S42)) (a1 : ByteArray) (a2 : ByteArray) (a3 : Int) : Option (Bool) := r_back.l0 k l0 a2 a3 (([a1] : List ByteArray)) 0
theorem r_back.calls (k : Nat) (A0 : Option Addr) (c0 : Nat) (l0 : List (S42)) (a1 : ByteArray) (a2 : ByteArray) (a3 : Int) (r : Bool) (w : World) (hr0 : Kd.C k42 w A0 l0.length l0) (hc0 : l0.length <= c0) (h : r_back.f k l0 a1 a2 a3 = some r) :
 Calls Try.prog 49 #[.slice A0 l0.length c0, .string a1, .string a2, .int .i64 a3] w fun e w' => e = .returned (.bool r) /\ Below w.heap.size w w' := by
 have HR0 := aM hr0
 have HC0 := aM hc0
 clear hr0 hc0
 have HB := aM (Below.refl w.heap.size w)
 have H : (r_back.l0 k l0 a2 a3 (([a1] : List ByteArray)) 0) = some r := h
 clear h
 obtain ⟨y346, hy346⟩ : ∃ y_ : List ByteArray, y_ = (([a1] : List ByteArray)) := ⟨_, rfl⟩
 replace H : (r_back.l0 k l0 a2 a3 y346 0) = some r := by first | (rw [hy346]; with_reducible exact H) | (have H2_ := (Option.bind_some _ _).symm.trans H; rw [hy346]; with_reducible exact H2_) | (have H2_ := (Option.bind_some _ _).symm.trans H; with_reducible exact H2_) | with_reducible exact H | (rw [hy346]; exact H) | exact H
 have Ny346 := aM hy346
 clear hy346
 have H' := aM H
 clear H
 go_enter Try.func49, Try.ntmps49
 go_wp2_with (first | ((with_reducible refine gate_dst (N := 16) rfl ?_); refine R_lit Kd.string _ 9 ?hg (N := 16) ?hd (xs := ([a1] : List ByteArray)) (inner := [.string a1]) (ok := fun _ => True) (okp := fun _ => True) ?hr ?hp (fun _ hk => hk) trivial (Below.refl _ _) (Nat.le_refl _) (by simp) ?_; (case hd => rfl); (case hg => rfl); (case hr => first | (go_simp; done) | (go_simp; rfl)); (case hp => exact (Reps.one (show Kd.M Kd.string _ _ _ a1 [.string a1] from rfl) (Reps.none _ _))); intro v347 w5 ho6 hb hg_ hnew_; clear hg_ hnew_; (first | rw [<- Ny346.1] at ho6 | (simp only [Int.reduceToNat] at ho6; rw [<- Ny346.1] at ho6)); have HO348 := aM (R_lower ho6 (below_size (hh HB))); replace HB := bs HB hb; clear hb ho6))
 go_loopg [9, 10] k (fun kq v9 v10 w' => ∃ (x9_1 : List ByteArray) (x10_1 : Int), v10 = .int .i64 x10_1 /\ Az (r_back.l0 kq l0 a2 a3 x9_1 x10_1 = some r) /\ Az (kq <= k) /\ Az (Kd.R Kd.string 9 w' w.heap.size (fun _ => True) v9 x9_1) /\ Az (Below w.heap.size w w'))
 case atStart => exact ⟨(y346), (0), rr, H', ⟨Nat.le_refl _⟩, ⟨rk HO348⟩, ⟨hh HB⟩⟩
 case round =>
  clear H'
  obtain ⟨x9_1, x10_1, rfl, HA, HK1, HO_9, HB⟩ := hrel
  cases gk with
  | zero => exact absurd HA.1 (by simp [r_back.l0])
  | succ k1 =>
   have H := HA.1
   clear HA
   simp only [r_back.l0] at H
   by_cases c7 : x10_1 <= a3
   rotate_left
   · rw [if_neg c7] at H
     have c7b0 : decide (x10_1 <= a3) = false := decide_eq_false c7
     clear c7
     obtain rfl := Option.some.inj H
     go_wp2
     go_ret
     exact ⟨by first | rfl | (simp [errW_none, errW_some] <;> rfl) | (simp [*, errW_none, errW_some] <;> rfl), hh HB⟩
   rw [if_pos c7] at H
   have c7b0 : decide (x10_1 <= a3) = true := decide_eq_true c7
   clear c7
   have H' := aM H
   clear H
   go_wp2
   go_loopg [11, 12] k1 (fun kq v11 v12 w' => ∃ (x11_2 : List ByteArray) (x12_2 : Int), v12 = .int .i64 x12_2 /\ Az (r_back.l1 kq l0 a2 a3 x9_1 x10_1 x11_2 x12_2 = some r) /\ Az (kq <= k1) /\ Az (Kd.R Kd.string 9 w' w.heap.size (fun k_ => some k_ ≠ (v11 : Value).ownBlock) u9 x9_1) /\ Az (Kd.R Kd.string 9 w' w.heap.size (fun k_ => some k_ ≠ (u9 : Value).ownBlock) v11 x11_2) /\ Az (Below w.heap.size w w'))
   case atStart => exact ⟨(([] : List ByteArray)), (0), rr, H', ⟨Nat.le_refl _⟩, ⟨rz (R_mono HO_9.1 (fun _ hk => (by simp [Value.ownBlock])))⟩, ⟨by first | exact R_nil _ _ _ _ _ | exact N_nil _ _ _ _ _ | exact V_nil _ _ _ _ _ | exact Q_nil _ _ _ _ _ | exact S_nil _ _ _ _ _⟩, ⟨hh HB⟩⟩
   case round =>
    clear H'
    clear c7b0
    obtain ⟨x11_2, x12_2, rfl, HA, HK2, HO_9, HO_11, HB⟩ := hrel
    cases gk with
    | zero => exact absurd HA.1 (by simp [r_back.l1])
    | succ k2 =>
     have H := HA.1
     clear HA
     simp only [r_back.l1] at H
     by_cases c8 : x12_2 < (x9_1.length : Int)
     rotate_left
     · rw [if_neg c8] at H
       have c8b0 : decide (x12_2 < (x9_1.length : Int)) = false := decide_eq_false c8
       clear c8
       have H' := aM H
       clear H
       obtain ⟨Ao25, co25, eo25⟩ := R_slice HO_9.1
       subst eo25
       go_wp2
       go_roundg k2
       case measure => have := HK1.1; have := HK2.1; omega
       case rel => exact ⟨(x11_2), (wrap64 (x10_1 + 1)), rr, H', ⟨by have := HK1.1; have := HK2.1; omega⟩, ⟨rz (R_mono HO_11.1 (fun _ hk => trivial))⟩, ⟨hh HB⟩⟩
     rw [if_pos c8] at H
     have c8b0 : decide (x12_2 < (x9_1.length : Int)) = true := decide_eq_true c8
     clear c8
     by_cases c9 : 0 <= x12_2
     rotate_left
     · rw [if_neg c9] at H
       exact absurd H (by simp)
     rw [if_pos c9] at H
     have c9b0 : decide (0 <= x12_2) = true := decide_eq_true c9
     clear c9
     replace H := Option.bind_eq_some_iff.mp H
     obtain ⟨t350, A100, H⟩ := H
     try dsimp only at H
     have A10 := aM A100
     clear A100
     replace H := Option.bind_eq_some_iff.mp H
     obtain ⟨t354, A110, H⟩ := H
     try dsimp only at H
     have A11 := aM A110
     clear A110
     have H' := aM H
     clear H
     obtain ⟨Ao12, co12, eo12⟩ := R_slice HO_9.1
     subst eo12
     have p349 : 0 <= (x12_2 : Int) := dt
     have q349 : x12_2 < (x9_1.length : Int) := dt
     obtain ⟨ad349, e349, hx349_0⟩ := Kd.at_string (R_reads' HO_9.1).2.2 x12_2 p349 q349
     cases e349
     replace p349 := eq_true p349
     replace q349 := eq_true q349
     obtain ⟨Ao13, co13, eo13⟩ := R_slice HO_11.1
     subst eo13
     go_wp2_with (first | ((with_reducible refine gate_callee (f := 38) rfl ?_); refine gL (some 33) rfl rfl Try.func38 (by kernel_rfl) rfl #[.slice Ao13 x11_2.length co13, .string (rdOf ByteArray.empty x9_1 x12_2)] rfl ?_; (with_reducible refine (r_Insert.calls k2 _ _ x11_2 (rdOf ByteArray.empty x9_1 x12_2) t350 _ ?side1 ?side2 A10.1).mono ?_); (case side1 => exact cr HO_11); (case side2 => exact (R_reads' HO_11.1).2.1); rintro e w14 ⟨v351, rfl, ho0, hb⟩; refine ⟨_, rfl, ?_⟩; have HO352 := aM (R_lower (R_new' (R_new' ho0 (R_lt (rk HO_9))) (R_lt (rk HO_11))) (below_size (hh HB))); replace HO_9 := aM (R_elder' (rk HO_9) (R_base ho0) hb); replace HO_11 := aM (R_elder' (rk HO_11) (R_base ho0) hb); replace HB := bs HB hb; clear hb ho0; have p353 : 0 <= (x12_2 : Int) := dt; have q353 : x12_2 < (x9_1.length : Int) := dt; obtain ⟨ad353, e353, hx353_0⟩ := Kd.at_string (R_reads' HO_9.1).2.2 x12_2 p353 q353; obtain rfl : ad349 = ad353 := (by injection e353); replace p353 := eq_true p353; replace q353 := eq_true q353) | ((with_reducible refine gate_callee (f := 22) rfl ?_); refine gL (some 39) rfl rfl Try.func22 (by kernel_rfl) rfl #[.slice A0 l0.length c0, .string (rdOf ByteArray.empty x9_1 x12_2)] rfl ?_; (with_reducible refine (r_Imports.calls k2 _ _ l0 (rdOf ByteArray.empty x9_1 x12_2) t354 _ ?side1 ?side2 A11.1).mono ?_); (case side1 => exact cb HR0 HB); (case side2 => exact HC0.1); rintro e w15 ⟨v355, rfl, ho0, hb⟩; refine ⟨_, rfl, ?_⟩; have HO356 := aM (R_lower (R_new' (R_new' (R_new' ho0 (R_lt (rk HO_9))) (R_lt (rk HO_11))) (R_lt (rk HO352))) (below_size (hh HB))); replace HO_9 := aM (R_elder' (rk HO_9) (R_base ho0) hb); replace HO_11 := aM (R_elder' (rk HO_11) (R_base ho0) hb); replace HO352 := aM (R_elder' (rk HO352) (R_base ho0) hb); replace HB := bs HB hb; clear hb ho0))
     go_loopg [11, 14] k2 (fun kq v11 v14 w' => ∃ (x11_3 : List ByteArray) (x14_3 : Int), v14 = .int .i64 x14_3 /\ Az (r_back.l2 kq l0 a2 a3 x9_1 x10_1 x11_3 x12_2 t354 x14_3 = some r) /\ Az (kq <= k2) /\ Az (Kd.R Kd.string 9 w' w.heap.size (fun k_ => some k_ ≠ (v11 : Value).ownBlock /\ some k_ ≠ (v355 : Value).ownBlock) (.slice (some ad349) x9_1.length co12) x9_1) /\ Az (Kd.R Kd.string 9 w' w.heap.size (fun k_ => some k_ ≠ ((.slice (some ad349) x9_1.length co12) : Value).ownBlock /\ some k_ ≠ (v355 : Value).ownBlock) v11 x11_3) /\ Az (Kd.R Kd.string 9 w' w.heap.size (fun k_ => some k_ ≠ ((.slice (some ad349) x9_1.length co12) : Value).ownBlock /\ some k_ ≠ (v11 : Value).ownBlock) v355 t354) /\ Az (Below w.heap.size w w'))
     case atStart => exact ⟨(t350), (0), rr, H', ⟨Nat.le_refl _⟩, ⟨rz (R_mono HO_9.1 (fun _ hk => ⟨hk.1.2, hk.2⟩))⟩, ⟨rz (R_mono HO352.1 (fun _ hk => ⟨hk.1.1.2, hk.2⟩))⟩, ⟨rz (R_mono HO356.1 (fun _ hk => ⟨hk.1.1.2, hk.2⟩))⟩, ⟨hh HB⟩⟩
     case round =>
      clear H'
      clear c8b0 c9b0 hx349_0 hx353_0 p349 p353 q349 q353
      obtain ⟨x11_3, x14_3, rfl, HA, HK3, HO_9, HO_11, HO_13, HB⟩ := hrel
      cases gk with
      | zero => exact absurd HA.1 (by simp [r_back.l2])
      | succ k3 =>
       have H := HA.1
       clear HA
       simp only [r_back.l2] at H
       by_cases c16 : x14_3 < (t354.length : Int)
       rotate_left
       · rw [if_neg c16] at H
         have c16b0 : decide (x14_3 < (t354.length : Int)) = false := decide_eq_false c16
         clear c16
         have H' := aM H
         clear H
         obtain ⟨Ao24, co24, eo24⟩ := R_slice HO_13.1
         subst eo24
         go_wp2
         go_roundg k3
         case measure => have := HK1.1; have := HK2.1; have := HK3.1; omega
         case rel => exact ⟨(x11_3), (wrap64 (x12_2 + 1)), rr, H', ⟨by have := HK1.1; have := HK2.1; have := HK3.1; omega⟩, ⟨rz (R_mono HO_9.1 (fun _ hk => hk.1))⟩, ⟨rz (R_mono HO_11.1 (fun _ hk => hk.1))⟩, ⟨hh HB⟩⟩
       rw [if_pos c16] at H
       have c16b0 : decide (x14_3 < (t354.length : Int)) = true := decide_eq_true c16
       clear c16
       by_cases c17 : 0 <= x14_3
       rotate_left
       · rw [if_neg c17] at H
         exact absurd H (by simp)
       rw [if_pos c17] at H
       have c17b0 : decide (0 <= x14_3) = true := decide_eq_true c17
       clear c17
       by_cases c18 : (rdOf ByteArray.empty t354 x14_3).toList = a2.toList
       · rw [if_pos c18] at H
         have c18b0 : ((rdOf ByteArray.empty t354 x14_3).toList == a2.toList) = true := beq_iff_eq.mpr c18
         have c18b1 : ((rdOf ByteArray.empty t354 x14_3).toList != a2.toList) = false := bne_eq_false_iff_eq.mpr c18
         clear c18
         obtain rfl := Option.some.inj H
         obtain ⟨Ao19, co19, eo19⟩ := R_slice HO_13.1
         subst eo19
         have p357 : 0 <= (x14_3 : Int) := dt
         have q357 : x14_3 < (t354.length : Int) := dt
         obtain ⟨ad357, e357, hx357_0⟩ := Kd.at_string (R_reads' HO_13.1).2.2 x14_3 p357 q357
         cases e357
         replace p357 := eq_true p357
         replace q357 := eq_true q357
         go_wp2
         go_ret
         exact ⟨by first | rfl | (simp [errW_none, errW_some] <;> rfl) | (simp [*, errW_none, errW_some] <;> rfl), hh HB⟩
       rw [if_neg c18] at H
       have c18b0 : ((rdOf ByteArray.empty t354 x14_3).toList == a2.toList) = false := beq_eq_false_iff_ne.mpr c18
       have c18b1 : ((rdOf ByteArray.empty t354 x14_3).toList != a2.toList) = true := bne_iff_ne.mpr c18
       replace H := Option.bind_eq_some_iff.mp H
       obtain ⟨t359, A200, H⟩ := H
       try dsimp only at H
       have A20 := aM A200
       clear A200
       have H' := aM H
       clear H
       obtain ⟨Ao21, co21, eo21⟩ := R_slice HO_13.1
       subst eo21
       have p357 : 0 <= (x14_3 : Int) := dt
       have q357 : x14_3 < (t354.length : Int) := dt
       obtain ⟨ad357, e357, hx357_0⟩ := Kd.at_string (R_reads' HO_13.1).2.2 x14_3 p357 q357
       cases e357
       replace p357 := eq_true p357
       replace q357 := eq_true q357
       have p358 : 0 <= (x14_3 : Int) := dt
       have q358 : x14_3 < (t354.length : Int) := dt
       obtain ⟨ad358, e358, hx358_0⟩ := Kd.at_string (R_reads' HO_13.1).2.2 x14_3 p358 q358
       obtain rfl : ad357 = ad358 := (by injection e358)
       replace p358 := eq_true p358
       replace q358 := eq_true q358
       obtain ⟨Ao22, co22, eo22⟩ := R_slice HO_11.1
       subst eo22
       go_wp2_with (first | ((with_reducible refine gate_callee (f := 38) rfl ?_); refine gL (some 57) rfl rfl Try.func38 (by kernel_rfl) rfl #[.slice Ao22 x11_3.length co22, .string (rdOf ByteArray.empty t354 x14_3)] rfl ?_; (with_reducible refine (r_Insert.calls k3 _ _ x11_3 (rdOf ByteArray.empty t354 x14_3) t359 _ ?side1 ?side2 A20.1).mono ?_); (case side1 => exact cr HO_11); (case side2 => exact (R_reads' HO_11.1).2.1); rintro e w23 ⟨v360, rfl, ho0, hb⟩; refine ⟨_, rfl, ?_⟩; have HO361 := aM (R_lower (R_new' (R_new' (R_new' ho0 (R_lt (rk HO_9))) (R_lt (rk HO_11))) (R_lt (rk HO_13))) (below_size (hh HB))); replace HO_9 := aM (R_elder' (rk HO_9) (R_base ho0) hb); replace HO_11 := aM (R_elder' (rk HO_11) (R_base ho0) hb); replace HO_13 := aM (R_elder' (rk HO_13) (R_base ho0) hb); replace HB := bs HB hb; clear hb ho0))
       go_roundg k3
       case measure => have := HK1.1; have := HK2.1; have := HK3.1; omega
       case rel => exact ⟨(t359), (wrap64 (x14_3 + 1)), rr, H', ⟨by have := HK1.1; have := HK2.1; have := HK3.1; omega⟩, ⟨rz (R_mono HO_9.1 (fun _ hk => ⟨hk.2, hk.1.2⟩))⟩, ⟨rz (R_mono HO361.1 (fun _ hk => ⟨hk.1.1.2, hk.2⟩))⟩, ⟨rz (R_mono HO_13.1 (fun _ hk => ⟨hk.1.1, hk.2⟩))⟩, ⟨hh HB⟩⟩
mutual
noncomputable def r_paths.l0 : Nat -> List (S42) -> List ByteArray -> Int -> List ByteArray -> Int -> Option (List ByteArray)
 | 0, _, _, _, _, _ => none
 | k + 1, x0, x1, x2, x7, x8 => if x8 < (x7.length : Int) then (r_paths.j1 k x0 x1 x2 x7 x8 (decide ((x1.length : Int) < x2))) else (r_paths.j1 k x0 x1 x2 x7 x8 false)
noncomputable def r_paths.j1 : Nat -> List (S42) -> List ByteArray -> Int -> List ByteArray -> Int -> Bool -> Option (List ByteArray)
 | 0, _, _, _, _, _, _ => none
 | k + 1, x0, x1, x2, x7, x8, x34 => if x34 = true then (if 0 <= x8 then (if x8 < (x7.length : Int) then ((q_Has.f k x1 (rdOf ByteArray.empty x7 x8)).bind fun t369 => (if t369 = true then (r_paths.j2 k x0 x1 x2 x7 x8 true) else (if 0 < (x1.length : Int) then ((r_back.f k x0 (rdOf ByteArray.empty x7 x8) (rdOf ByteArray.empty x1 0) (wrap64 ((wrap64 (x2 - (x1.length : Int))) - 1))).bind fun t372 => (r_paths.j2 k x0 x1 x2 x7 x8 (!t372))) else (none)))) else (none)) else (none)) else (some ([] : List ByteArray))
noncomputable def r_paths.j2 : Nat -> List (S42) -> List ByteArray -> Int -> List ByteArray -> Int -> Bool -> Option (List ByteArray)
 | 0, _, _, _, _, _, _ => none
 | k + 1, x0, x1, x2, x7, x8, x59 => if x59 = true then (r_paths.l0 k x0 x1 x2 x7 (wrap64 (x8 + 1))) else (if ([] : List ByteArray).length + x1.length < 8796093022208 then ((some (([] : List ByteArray) ++ x1 : List ByteArray)).bind fun y373 => (if 0 <= x8 then (if x8 < (x7.length : Int) then (if y373.length < 8796093022208 then ((r_paths.f k x0 (y373 ++ [rdOf ByteArray.empty x7 x8]) x2).bind fun t380 => (if (t380.length : Int) > 0 then (some t380) else (r_paths.l0 k x0 x1 x2 x7 (wrap64 (x8 + 1))))) else (none)) else (none)) else (none))) else (none))
noncomputable def r_paths.f : Nat -> List (S42) -> List ByteArray -> Int -> Option (List ByteArray)
 | 0, _, _, _ => none
 | k + 1, l0, l1, a2 => if 0 <= (wrap64 ((l1.length : Int) - 1)) then (if (wrap64 ((l1.length : Int) - 1)) < (l1.length : Int) then ((r_Imports.f k l0 (rdOf ByteArray.empty l1 (wrap64 ((l1.length : Int) - 1)))).bind fun t363 => (if 0 < (l1.length : Int) then ((q_Has.f k t363 (rdOf ByteArray.empty l1 0)).bind fun t367 => (if t367 = true then (some l1) else (r_paths.l0 k l0 l1 a2 t363 0))) else (none))) else (none)) else (none)
end
noncomputable def r_paths.T7 : Bool × List (List Nat × List Nat) := (true, [([], []), ([], []), ([], []), ([1, 2], [1, 2]), ([3], [3]), ([0, 4], [0, 4]), ([5, 5], [5]), ([6], [6]), ([6], [6]), ([6], [6]), ([8, 9, 6], [6, 8, 9]), ([10, 6], [6, 10]), ([6], [6]), ([12, 6], [6, 12]), ([13, 6], [6, 13]), ([6], [6]), ([6], [6]), ([16, 6], [6, 16]), ([15, 17, 6], [6, 15, 17]), ([18, 6], [6, 18]), ([7, 11, 14, 19, 6, 6], [6, 7, 11, 14, 19]), ([20, 6], [6, 20]), ([6, 21], [6, 21])])
noncomputable def r_paths.B7 : List Nat := [0, 0, 0, 6, 14, 31, 63, 127, 127, 127, 895, 1919, 127, 4223, 12415, 127, 127, 65663, 229503, 491647, 1048575, 2097151, 4194303]
theorem r_paths.tab7 : rtab .any (opsOf Try.f37 7) = r_paths.T7 := by kernel_rfl
theorem r_paths.bits7 : waitsOk r_paths.T7.2 r_paths.B7 = true := by kernel_rfl
theorem r_paths.calls (k : Nat) : ∀ (A0 : Option Addr) (c0 : Nat) (l0 : List (S42)) (P1_ : Nat -> Prop) (u9000_ : Value) (l1 : List ByteArray) (a2 : Int) (r : List ByteArray) (w0 w : World) (hB : Below w0.heap.size w0 w) (hr0 : ∀ W_, Kept w W_ (fun k_ => P1_ k_) -> Kd.C k42 W_ A0 l0.length l0) (hc0 : l0.length <= c0) (ho1 : Kd.R Kd.string 9 w w0.heap.size P1_ u9000_ l1) (h : r_paths.f k l0 l1 a2 = some r),
 Calls Try.prog 37 #[.slice A0 l0.length c0, u9000_, .int .i64 a2] w fun e w' => ∃ v0_ : Value, e = .returned (v0_) /\ Kd.R Kd.string 9 w' w0.heap.size (fun k_ => (P1_ k_ \/ w.heap.size <= k_)) v0_ r /\ Below w0.heap.size w0 w' /\ Kept w w' (fun k_ => P1_ k_) := by
 induction k using Nat.strongRecOn with
 | _ k ih =>
 intro A0 c0 l0 P1_ u9000_ l1 a2 r w0 w hB hr0 hc0 ho1 h
 cases k with
 | zero => exact absurd h (by simp [r_paths.f])
 | succ k =>
 simp only [r_paths.f] at h
 have HR0 := aM hr0
 have HC0 := aM hc0
 clear hr0 hc0
 have HO1 := aM (show Kd.R Kd.string 9 w w0.heap.size (fun k_ => (P1_ k_ \/ w.heap.size <= k_)) u9000_ l1 from R_mono ho1 (fun k_ hk => (.inl hk)))
 have HK := aM (Kept.refl w (fun k_ => P1_ k_))
 have HW0 := aM hB.size
 have HB := aM hB
 clear hB
 have H : (if 0 <= (wrap64 ((l1.length : Int) - 1)) then (if (wrap64 ((l1.length : Int) - 1)) < (l1.length : Int) then ((r_Imports.f k l0 (rdOf ByteArray.empty l1 (wrap64 ((l1.length : Int) - 1)))).bind fun t363 => (if 0 < (l1.length : Int) then ((q_Has.f k t363 (rdOf ByteArray.empty l1 0)).bind fun t367 => (if t367 = true then (some l1) else (r_paths.l0 k l0 l1 a2 t363 0))) else (none))) else (none)) else (none)) = some r := h
 clear h
 obtain ⟨ji4, hji4⟩ : ∃ j_ : Int, (wrap64 ((l1.length : Int) - 1)) = j_ := ⟨_, rfl⟩
 replace H : (if 0 <= (ji4) then (if (ji4) < (l1.length : Int) then ((r_Imports.f k l0 (rdOf ByteArray.empty l1 (ji4))).bind fun t363 => (if 0 < (l1.length : Int) then ((q_Has.f k t363 (rdOf ByteArray.empty l1 0)).bind fun t367 => (if t367 = true then (some l1) else (r_paths.l0 k l0 l1 a2 t363 0))) else (none))) else (none)) else (none)) = some r := by first | (rw [hji4] at H; exact H) | (simp only [hji4] at H ⊢; exact H)
 have hji4w : (IntKind.i64.wrap ((l1.length : Int) - 1)) = ji4 := (i64_w _).trans hji4
 by_cases c5 : 0 <= (ji4)
 rotate_left
 · rw [if_neg c5] at H
   exact absurd H (by simp)
 rw [if_pos c5] at H
 have c5b0 : decide (0 <= (ji4)) = true := decide_eq_true c5
 clear c5
 by_cases c6 : (ji4) < (l1.length : Int)
 rotate_left
 · rw [if_neg c6] at H
   exact absurd H (by simp)
 rw [if_pos c6] at H
 have c6b0 : decide ((ji4) < (l1.length : Int)) = true := decide_eq_true c6
 clear c6
 replace H := Option.bind_eq_some_iff.mp H
 obtain ⟨t363, A70, H⟩ := H
 try dsimp only at H
 have A7 := aM A70
 clear A70
 by_cases c8 : 0 < (l1.length : Int)
 rotate_left
 · rw [if_neg c8] at H
   exact absurd H (by simp)
 rw [if_pos c8] at H
 have c8b0 : decide (0 < (l1.length : Int)) = true := decide_eq_true c8
 have c8b1 : decide (0 < l1.length) = true := decide_eq_true (by omega)
 clear c8
 replace H := Option.bind_eq_some_iff.mp H
 obtain ⟨t367, A90, H⟩ := H
 try dsimp only at H
 have A9 := aM A90
 clear A90
 by_cases c10 : t367 = true
 · subst c10
   rw [if_pos rfl] at H
   obtain rfl := Option.some.inj H
   obtain ⟨Ao11, co11, eo11⟩ := R_slice HO1.1
   subst eo11
   have p362 : 0 <= ((ji4) : Int) := dt
   have q362 : (ji4) < (l1.length : Int) := dt
   obtain ⟨ad362, e362, hx362_0⟩ := Kd.at_string (R_reads' HO1.1).2.2 (ji4) p362 q362
   cases e362
   replace p362 := eq_true p362
   replace q362 := eq_true q362
   go_enter Try.func37, Try.ntmps37
   go_wp2_with (first | ((with_reducible refine gate_callee (f := 22) rfl ?_); refine goesL_ (some 18) rfl rfl Try.func22 (by kernel_rfl) rfl #[.slice A0 l0.length c0, .string (rdOf ByteArray.empty l1 (ji4))] rfl (by (try simp only [List.map_toArray, List.map_cons, List.map_nil]); first | done | (simp only [hji4]; rfl) | rfl | (simp only [List.length_drop, List.length_take]; rfl)) ?_; (with_reducible refine (r_Imports.calls k _ _ l0 (rdOf ByteArray.empty l1 (ji4)) t363 _ ?side1 ?side2 A7.1).mono ?_); (case side1 => exact C_kept_now HR0.1 (hk HK)); (case side2 => exact HC0.1); rintro e w12 ⟨v364, rfl, ho0, hb⟩; refine ⟨_, rfl, ?_⟩; have HO365 := aM (R_lower (R_new' (R_newM (M := fun k_ => (P1_ k_ \/ w.heap.size <= k_)) ho0 (by first | exact HK.1.1 | exact (show Kept w _ (fun k_ => P1_ k_) from hk HK).1) (fun k_ h_ => .inr h_)) (R_lt (rk HO1))) (below_size (hh HB))); replace HO1 := aM (R_elder' (rk HO1) (R_base ho0) hb); replace HK := aM (Kept.below (S := (fun k_ => P1_ k_)) (hk HK) hb); replace HB := bs HB hb; clear hb ho0; have p366 : 0 <= (0 : Int) := (by omega); have q366 : 0 < (l1.length : Int) := dt; obtain ⟨ad366, e366, hx366_0⟩ := Kd.at_string (R_reads' HO1.1).2.2 0 p366 q366; obtain rfl : ad362 = ad366 := (by injection e366); have qi366 : (0 < l1.length) = True := eq_true (by omega); (try rw [show ((0 : Int)).toNat = 0 from rfl] at hx366_0); (try rw [Addr.add_zero'] at hx366_0); replace p366 := eq_true p366; replace q366 := eq_true q366; obtain ⟨Ao13, co13, eo13⟩ := R_slice HO365.1; subst eo13) | ((with_reducible refine gate_callee (f := 21) rfl ?_); refine gL (some 23) rfl rfl Try.func21 (by kernel_rfl) rfl #[.slice Ao13 t363.length co13, .string (rdOf ByteArray.empty l1 0)] rfl ?_; (with_reducible refine (q_Has.calls k _ _ t363 (rdOf ByteArray.empty l1 0) true _ ?side1 ?side2 A9.1).mono ?_); (case side1 => exact cr HO365); (case side2 => exact (R_reads' HO365.1).2.1); rintro e w' ⟨rfl, ⟨nd, rfl⟩⟩; refine ⟨_, rfl, ?_⟩))
   go_ret
   exact ⟨_, by first | rfl | (simp [errW_none, errW_some] <;> rfl) | (simp only [<- hji4]; first | rfl | (simp [errW_none, errW_some] <;> rfl)) | (simp [*, errW_none, errW_some] <;> rfl), rz (R_mono HO1.1 (fun _ hk => hk.1)), hh HB, hk HK⟩
 replace c10 := Bool.eq_false_iff.mpr c10
 subst c10
 rw [if_neg (show ¬ (false = true) by decide)] at H
 have H' := aM H
 clear H
 obtain ⟨Ao14, co14, eo14⟩ := R_slice HO1.1
 subst eo14
 have p362 : 0 <= ((ji4) : Int) := dt
 have q362 : (ji4) < (l1.length : Int) := dt
 obtain ⟨ad362, e362, hx362_0⟩ := Kd.at_string (R_reads' HO1.1).2.2 (ji4) p362 q362
 cases e362
 replace p362 := eq_true p362
 replace q362 := eq_true q362
 go_enter Try.func37, Try.ntmps37
 go_wp2_with (first | ((with_reducible refine gate_callee (f := 22) rfl ?_); refine goesL_ (some 18) rfl rfl Try.func22 (by kernel_rfl) rfl #[.slice A0 l0.length c0, .string (rdOf ByteArray.empty l1 (ji4))] rfl (by (try simp only [List.map_toArray, List.map_cons, List.map_nil]); first | done | (simp only [hji4]; rfl) | rfl | (simp only [List.length_drop, List.length_take]; rfl)) ?_; (with_reducible refine (r_Imports.calls k _ _ l0 (rdOf ByteArray.empty l1 (ji4)) t363 _ ?side1 ?side2 A7.1).mono ?_); (case side1 => exact C_kept_now HR0.1 (hk HK)); (case side2 => exact HC0.1); rintro e w15 ⟨v364, rfl, ho0, hb⟩; refine ⟨_, rfl, ?_⟩; have HO365 := aM (R_lower (R_new' (R_newM (M := fun k_ => (P1_ k_ \/ w.heap.size <= k_)) ho0 (by first | exact HK.1.1 | exact (show Kept w _ (fun k_ => P1_ k_) from hk HK).1) (fun k_ h_ => .inr h_)) (R_lt (rk HO1))) (below_size (hh HB))); replace HO1 := aM (R_elder' (rk HO1) (R_base ho0) hb); replace HK := aM (Kept.below (S := (fun k_ => P1_ k_)) (hk HK) hb); replace HB := bs HB hb; clear hb ho0; have p366 : 0 <= (0 : Int) := (by omega); have q366 : 0 < (l1.length : Int) := dt; obtain ⟨ad366, e366, hx366_0⟩ := Kd.at_string (R_reads' HO1.1).2.2 0 p366 q366; obtain rfl : ad362 = ad366 := (by injection e366); have qi366 : (0 < l1.length) = True := eq_true (by omega); (try rw [show ((0 : Int)).toNat = 0 from rfl] at hx366_0); (try rw [Addr.add_zero'] at hx366_0); replace p366 := eq_true p366; replace q366 := eq_true q366; obtain ⟨Ao16, co16, eo16⟩ := R_slice HO365.1; subst eo16) | ((with_reducible refine gate_callee (f := 21) rfl ?_); refine gL (some 23) rfl rfl Try.func21 (by kernel_rfl) rfl #[.slice Ao16 t363.length co16, .string (rdOf ByteArray.empty l1 0)] rfl ?_; (with_reducible refine (q_Has.calls k _ _ t363 (rdOf ByteArray.empty l1 0) false _ ?side1 ?side2 A9.1).mono ?_); (case side1 => exact cr HO365); (case side2 => exact (R_reads' HO365.1).2.1); rintro e w' ⟨rfl, ⟨nd, rfl⟩⟩; refine ⟨_, rfl, ?_⟩))
 go_loopg [8] k (fun kq v8 w' => ∃ (x8_1 : Int), v8 = .int .i64 x8_1 /\ Az (r_paths.l0 kq l0 l1 a2 t363 x8_1 = some r) /\ Az (kq <= k) /\ Az (Kd.R Kd.string 9 w' w0.heap.size (fun k_ => (P1_ k_ \/ w.heap.size <= k_) /\ some k_ ≠ ((.slice Ao16 t363.length co16) : Value).ownBlock) (.slice (some ad362) l1.length co14) l1) /\ Az (Kd.R Kd.string 9 w' w0.heap.size (fun k_ => (P1_ k_ \/ w.heap.size <= k_) /\ some k_ ≠ ((.slice (some ad362) l1.length co14) : Value).ownBlock) (.slice Ao16 t363.length co16) t363) /\ Az (Kept w w' (fun k_ => P1_ k_)) /\ Az (Below w0.heap.size w0 w'))
 case atStart => exact ⟨(0), rr, H', ⟨Nat.le_refl _⟩, ⟨rk HO1⟩, ⟨rz (R_mono HO365.1 (fun _ hk => ⟨hk.1.1, hk.2⟩))⟩, ⟨hk HK⟩, ⟨hh HB⟩⟩
 case round =>
  clear H'
  clear c5b0 c6b0 c8b0 c8b1 hx362_0 hx366_0 p362 p366 q362 q366
  obtain ⟨x8_1, rfl, HA, HK1, HO_1, HO_7, HK, HB⟩ := hrel
  cases gk with
  | zero => exact absurd HA.1 (by simp [r_paths.l0])
  | succ k1 =>
   have H := HA.1
   clear HA
   simp only [r_paths.l0] at H
   have HC17 := aM H
   clear H
   go_upto_region 5 with (fail)
   go_cut [34] (fun v34 wc => ∃ (kq : Nat) (x34_16 : Bool), v34 = .bool x34_16 /\ Az (r_paths.j1 kq l0 l1 a2 t363 x8_1 x34_16 = some r) /\ Az (kq <= k1) /\ Az (Kd.R Kd.string 9 wc w0.heap.size (fun k_ => (P1_ k_ \/ w.heap.size <= k_) /\ some k_ ≠ ((.slice Ao16 t363.length co16) : Value).ownBlock) (.slice (some ad362) l1.length co14) l1) /\ Az (Kd.R Kd.string 9 wc w0.heap.size (fun k_ => (P1_ k_ \/ w.heap.size <= k_) /\ some k_ ≠ ((.slice (some ad362) l1.length co14) : Value).ownBlock) (.slice Ao16 t363.length co16) t363) /\ Az (Kept w wc (fun k_ => P1_ k_)) /\ Az (Below w0.heap.size w0 wc))
   case first =>
    have H := HC17.1
    clear HC17
    by_cases c18 : x8_1 < (t363.length : Int)
    rotate_left
    · rw [if_neg c18] at H
      have c18b0 : decide (x8_1 < (t363.length : Int)) = false := decide_eq_false c18
      clear c18
      (first | rw [c18b0] | (simp only [i64_w, i32_w]; rw [c18b0]) | skip)
      have H' := aM H
      clear H
      go_wp2
      go_meet
      case rel => exact ⟨_, (false), rr, H', (ol HK1), ⟨rk HO_1⟩, ⟨rk HO_7⟩, ⟨hk HK⟩, ⟨hh HB⟩⟩
    rw [if_pos c18] at H
    have c18b0 : decide (x8_1 < (t363.length : Int)) = true := decide_eq_true c18
    clear c18
    (first | rw [c18b0] | (simp only [i64_w, i32_w]; rw [c18b0]) | skip)
    have H' := aM H
    clear H
    go_wp2
    go_meet
    case rel => exact ⟨_, (decide ((l1.length : Int) < a2)), rr, H', (ol HK1), ⟨rk HO_1⟩, ⟨rk HO_7⟩, ⟨hk HK⟩, ⟨hh HB⟩⟩
   case rest =>
    clear HC17
    obtain ⟨kq, x34_16, rfl, HA, HJ16, HO_1, HO_7, HK, HB⟩ := hcut
    cases kq with
    | zero => exact absurd HA.1 (by simp [r_paths.j1])
    | succ kj16 =>
     have H := HA.1
     clear HA
     simp only [r_paths.j1] at H
     by_cases c19 : x34_16 = true
     rotate_left
     · replace c19 := Bool.eq_false_iff.mpr c19
       subst c19
       rw [if_neg (show ¬ (false = true) by decide)] at H
       obtain rfl := Option.some.inj H
       go_wp2
       go_ret
       exact ⟨_, by first | rfl | (simp [errW_none, errW_some] <;> rfl) | (simp only [<- hji4]; first | rfl | (simp [errW_none, errW_some] <;> rfl)) | (simp [*, errW_none, errW_some] <;> rfl), by first | exact R_nil _ _ _ _ _ | exact N_nil _ _ _ _ _ | exact V_nil _ _ _ _ _ | exact Q_nil _ _ _ _ _ | exact S_nil _ _ _ _ _, hh HB, hk HK⟩
     subst c19
     rw [if_pos rfl] at H
     have HC20 := aM H
     clear H
     go_upto_region 7 with (fail)
     go_cut [59] (fun v59 wc => ∃ (kq : Nat) (x59_19 : Bool), v59 = .bool x59_19 /\ Az (r_paths.j2 kq l0 l1 a2 t363 x8_1 x59_19 = some r) /\ Az (kq <= kj16) /\ Az (Kd.R Kd.string 9 wc w0.heap.size (fun k_ => (P1_ k_ \/ w.heap.size <= k_) /\ some k_ ≠ ((.slice Ao16 t363.length co16) : Value).ownBlock) (.slice (some ad362) l1.length co14) l1) /\ Az (Kd.R Kd.string 9 wc w0.heap.size (fun k_ => (P1_ k_ \/ w.heap.size <= k_) /\ some k_ ≠ ((.slice (some ad362) l1.length co14) : Value).ownBlock) (.slice Ao16 t363.length co16) t363) /\ Az (Kept w wc (fun k_ => P1_ k_)) /\ Az (Below w0.heap.size w0 wc))
     case first =>
      have H := HC20.1
      clear HC20
      by_cases c21 : 0 <= x8_1
      rotate_left
      · rw [if_neg c21] at H
        exact absurd H (by simp)
      rw [if_pos c21] at H
      have c21b0 : decide (0 <= x8_1) = true := decide_eq_true c21
      clear c21
      (first | rw [c21b0] | (simp only [i64_w, i32_w]; rw [c21b0]) | skip)
      by_cases c22 : x8_1 < (t363.length : Int)
      rotate_left
      · rw [if_neg c22] at H
        exact absurd H (by simp)
      rw [if_pos c22] at H
      have c22b0 : decide (x8_1 < (t363.length : Int)) = true := decide_eq_true c22
      clear c22
      replace H := Option.bind_eq_some_iff.mp H
      obtain ⟨t369, A230, H⟩ := H
      try dsimp only at H
      have A23 := aM A230
      clear A230
      by_cases c24 : t369 = true
      · subst c24
        rw [if_pos rfl] at H
        have H' := aM H
        clear H
        try go_wp2
        replace HO_1 := aM (R_drew HO_1.1)
        replace HO_7 := aM (R_drew HO_7.1)
        replace HK := aM (Kept.drew HK.1)
        replace HB := aM (below_drew1 HB.1)
        have p368 : 0 <= (x8_1 : Int) := dt
        have q368 : x8_1 < (t363.length : Int) := dt
        obtain ⟨ad368, e368, hx368_0⟩ := Kd.at_string (R_reads' HO_7.1).2.2 x8_1 p368 q368
        cases e368
        replace p368 := eq_true p368
        replace q368 := eq_true q368
        refine start_ (n := 23) (S := fun w' => w'.cell? (ad368.add (x8_1).toNat) = some (.string (rdOf ByteArray.empty t363 x8_1))) (ds := []) #[F_, F_, F_, F_, F_, F_, F_, F_, F_, F_, F_, F_, F_, F_, F_, F_, F_, F_, F_, F_, F_, F_, F_] (by kernel_rfl) rfl rfl (hx368_0) (fun hHeld => ?_); refine with_tabW r_paths.tab7 r_paths.bits7 (fun HT_ HW_ => ?_)
        generalize wc.drew = w25 at HO_1 HO_7 HK HB hx368_0 hHeld ⊢
        refine pure_ (i := 0) (N := some 37) (v := ?_) (a' := ?_) #[T_, F_, F_, F_, F_, F_, F_, F_, F_, F_, F_, F_, F_, F_, F_, F_, F_, F_, F_, F_, F_, F_, F_] rfl rfl (any_of HT_.1 (by kernel_rfl)) (fun _ _ _ h => h) (Or.inl ⟨by rfl, ?_⟩) ?_ ?_
        rotate_left
        · intro w'
          go_simp
          with_reducible rfl
        rotate_left
        · simp only [Act.put, sA, sZ, sS, i64_w, i32_w]
          rfl
        refine pure_ (i := 1) (N := some 38) (v := ?_) (a' := ?_) #[T_, T_, F_, F_, F_, F_, F_, F_, F_, F_, F_, F_, F_, F_, F_, F_, F_, F_, F_, F_, F_, F_, F_] rfl rfl (any_of HT_.1 (by kernel_rfl)) (fun _ _ _ h => h) (Or.inl ⟨by rfl, ?_⟩) ?_ ?_
        rotate_left
        · intro w'
          go_simp
          with_reducible rfl
        rotate_left
        · simp only [Act.put, sA, sZ, sS, i64_w, i32_w]
          rfl
        refine pure_ (i := 2) (N := some 39) (v := ?_) (a' := ?_) #[T_, T_, T_, F_, F_, F_, F_, F_, F_, F_, F_, F_, F_, F_, F_, F_, F_, F_, F_, F_, F_, F_, F_] rfl rfl (any_of HT_.1 (by kernel_rfl)) (fun _ _ _ h => h) (Or.inl ⟨by rfl, ?_⟩) ?_ ?_
        rotate_left
        · intro w'
          go_simp
          with_reducible rfl
        rotate_left
        · simp only [Act.put, sA, sZ, sS, i64_w, i32_w]
          rfl
        refine pure_ (i := 3) (N := some 40) (v := ?_) (a' := ?_) #[T_, T_, T_, T_, F_, F_, F_, F_, F_, F_, F_, F_, F_, F_, F_, F_, F_, F_, F_, F_, F_, F_, F_] rfl rfl (any_of HT_.1 (by kernel_rfl)) (fun _ _ _ h => h) (Or.inl ⟨by rfl, ?_⟩) ?_ ?_
        rotate_left
        · intro w'
          go_simp
          with_reducible rfl
        rotate_left
        · simp only [Act.put, sA, sZ, sS, i64_w, i32_w]
          rfl
        refine take_ (i := 4) (N := some 41) (v := ?_) (a' := ?_) #[T_, T_, T_, T_, T_, F_, F_, F_, F_, F_, F_, F_, F_, F_, F_, F_, F_, F_, F_, F_, F_, F_, F_] rfl rfl (take_ofW HT_.1 HW_.1 (by kernel_rfl)) (fun _ _ _ h => h) (Or.inl ⟨by rfl, ?_⟩) hHeld ?_ ?_
        rotate_left
        · intro w' s0
          go_simp
          with_reducible rfl
        rotate_left
        · simp only [Act.put, sA, sZ, sS, i64_w, i32_w]
          rfl
        refine one_ (i := 5) (N := some 42) #[T_, T_, T_, T_, T_, T_, F_, F_, F_, F_, F_, F_, F_, F_, F_, F_, F_, F_, F_, F_, F_, F_, F_] rfl rfl (one_of HT_.1 (by kernel_rfl)) (by decide) (fun K hK => ?_)
        refine goes_ Try.func21 (by kernel_rfl) rfl #[.slice (some ad362) l1.length co14, .string (rdOf ByteArray.empty t363 x8_1)] (by rfl) rfl rfl (by (try simp only [List.map_toArray, List.map_cons, List.map_nil]); first | done | rfl | (simp only [List.length_drop, List.length_take]; rfl)) ?_
        with_reducible refine (q_Has.calls kj16 _ _ l1 (rdOf ByteArray.empty t363 x8_1) true _ ?side1 ?side2 A23.1).mono ?_
        (case side1 => exact cr HO_1)
        (case side2 => exact (R_reads' HO_1.1).2.1)
        rintro e w' ⟨rfl, ⟨nd, rfl⟩⟩
        refine ⟨_, rfl, ?_⟩
        refine hK.out _ _ (hHeld) (fun hHeld => ?_)
        clear hK K
        refine norm_ (a' := ?_) ?_ ?_
        rotate_left
        · show Act.put _ (some 42) _ = _
          simp only [Act.put, sA, sZ, sS, i64_w, i32_w]
          rfl
        refine pure_ (i := 6) (N := some 43) (v := ?_) (a' := ?_) #[T_, T_, T_, T_, T_, T_, T_, F_, F_, F_, F_, F_, F_, F_, F_, F_, F_, F_, F_, F_, F_, F_, F_] rfl rfl (any_of HT_.1 (by kernel_rfl)) (fun _ _ _ h => h) (Or.inl ⟨by rfl, ?_⟩) ?_ ?_
        rotate_left
        · intro w'
          go_simp
          with_reducible rfl
        rotate_left
        · simp only [Act.put, sA, sZ, sS, i64_w, i32_w]
          rfl
        refine pure_ (i := 7) (N := some 44) (v := undef) (a' := ?_) #[T_, T_, T_, T_, T_, T_, T_, T_, F_, F_, F_, F_, F_, F_, F_, F_, F_, F_, F_, F_, F_, F_, F_] rfl rfl (any_of HT_.1 (by kernel_rfl)) (fun _ _ _ h => h) (Or.inr ⟨by rfl, rfl⟩) ?_ ?_
        rotate_left
        · simp only [Act.put, sA, sZ, sS, i64_w, i32_w]
          rfl
        refine pure_ (i := 8) (N := some 45) (v := undef) (a' := ?_) #[T_, T_, T_, T_, T_, T_, T_, T_, T_, F_, F_, F_, F_, F_, F_, F_, F_, F_, F_, F_, F_, F_, F_] rfl rfl (any_of HT_.1 (by kernel_rfl)) (fun _ _ _ h => h) (Or.inr ⟨by rfl, rfl⟩) ?_ ?_
        rotate_left
        · simp only [Act.put, sA, sZ, sS, i64_w, i32_w]
          rfl
        refine pure_ (i := 9) (N := some 46) (v := undef) (a' := ?_) #[T_, T_, T_, T_, T_, T_, T_, T_, T_, T_, F_, F_, F_, F_, F_, F_, F_, F_, F_, F_, F_, F_, F_] rfl rfl (any_of HT_.1 (by kernel_rfl)) (fun _ _ _ h => h) (Or.inr ⟨by rfl, rfl⟩) ?_ ?_
        rotate_left
        · simp only [Act.put, sA, sZ, sS, i64_w, i32_w]
          rfl
        refine pure_ (i := 10) (N := some 47) (v := undef) (a' := ?_) #[T_, T_, T_, T_, T_, T_, T_, T_, T_, T_, T_, F_, F_, F_, F_, F_, F_, F_, F_, F_, F_, F_, F_] rfl rfl (any_of HT_.1 (by kernel_rfl)) (fun _ _ _ h => h) (Or.inr ⟨by rfl, rfl⟩) ?_ ?_
        rotate_left
        · simp only [Act.put, sA, sZ, sS, i64_w, i32_w]
          rfl
        refine pure_ (i := 11) (N := some 48) (v := undef) (a' := ?_) #[T_, T_, T_, T_, T_, T_, T_, T_, T_, T_, T_, T_, F_, F_, F_, F_, F_, F_, F_, F_, F_, F_, F_] rfl rfl (any_of HT_.1 (by kernel_rfl)) (fun _ _ _ h => h) (Or.inr ⟨by rfl, rfl⟩) ?_ ?_
        rotate_left
        · simp only [Act.put, sA, sZ, sS, i64_w, i32_w]
          rfl
        refine pure_ (i := 12) (N := some 49) (v := undef) (a' := ?_) #[T_, T_, T_, T_, T_, T_, T_, T_, T_, T_, T_, T_, T_, F_, F_, F_, F_, F_, F_, F_, F_, F_, F_] rfl rfl (any_of HT_.1 (by kernel_rfl)) (fun _ _ _ h => h) (Or.inr ⟨by rfl, rfl⟩) ?_ ?_
        rotate_left
        · simp only [Act.put, sA, sZ, sS, i64_w, i32_w]
          rfl
        refine pure_ (i := 13) (N := some 50) (v := undef) (a' := ?_) #[T_, T_, T_, T_, T_, T_, T_, T_, T_, T_, T_, T_, T_, T_, F_, F_, F_, F_, F_, F_, F_, F_, F_] rfl rfl (any_of HT_.1 (by kernel_rfl)) (fun _ _ _ h => h) (Or.inr ⟨by rfl, rfl⟩) ?_ ?_
        rotate_left
        · simp only [Act.put, sA, sZ, sS, i64_w, i32_w]
          rfl
        refine pure_ (i := 14) (N := some 51) (v := undef) (a' := ?_) #[T_, T_, T_, T_, T_, T_, T_, T_, T_, T_, T_, T_, T_, T_, T_, F_, F_, F_, F_, F_, F_, F_, F_] rfl rfl (any_of HT_.1 (by kernel_rfl)) (fun _ _ _ h => h) (Or.inr ⟨by rfl, rfl⟩) ?_ ?_
        rotate_left
        · simp only [Act.put, sA, sZ, sS, i64_w, i32_w]
          rfl
        refine pure_ (i := 15) (N := some 52) (v := undef) (a' := ?_) #[T_, T_, T_, T_, T_, T_, T_, T_, T_, T_, T_, T_, T_, T_, T_, T_, F_, F_, F_, F_, F_, F_, F_] rfl rfl (any_of HT_.1 (by kernel_rfl)) (fun _ _ _ h => h) (Or.inr ⟨by rfl, rfl⟩) ?_ ?_
        rotate_left
        · simp only [Act.put, sA, sZ, sS, i64_w, i32_w]
          rfl
        refine pure_ (i := 16) (N := some 53) (v := undef) (a' := ?_) #[T_, T_, T_, T_, T_, T_, T_, T_, T_, T_, T_, T_, T_, T_, T_, T_, T_, F_, F_, F_, F_, F_, F_] rfl rfl (any_of HT_.1 (by kernel_rfl)) (fun _ _ _ h => h) (Or.inr ⟨by rfl, rfl⟩) ?_ ?_
        rotate_left
        · simp only [Act.put, sA, sZ, sS, i64_w, i32_w]
          rfl
        refine pure_ (i := 17) (N := some 54) (v := undef) (a' := ?_) #[T_, T_, T_, T_, T_, T_, T_, T_, T_, T_, T_, T_, T_, T_, T_, T_, T_, T_, F_, F_, F_, F_, F_] rfl rfl (any_of HT_.1 (by kernel_rfl)) (fun _ _ _ h => h) (Or.inr ⟨by rfl, rfl⟩) ?_ ?_
        rotate_left
        · simp only [Act.put, sA, sZ, sS, i64_w, i32_w]
          rfl
        refine pure_ (i := 18) (N := some 55) (v := undef) (a' := ?_) #[T_, T_, T_, T_, T_, T_, T_, T_, T_, T_, T_, T_, T_, T_, T_, T_, T_, T_, T_, F_, F_, F_, F_] rfl rfl (any_of HT_.1 (by kernel_rfl)) (fun _ _ _ h => h) (Or.inr ⟨by rfl, rfl⟩) ?_ ?_
        rotate_left
        · simp only [Act.put, sA, sZ, sS, i64_w, i32_w]
          rfl
        refine pure_ (i := 19) (N := some 56) (v := undef) (a' := ?_) #[T_, T_, T_, T_, T_, T_, T_, T_, T_, T_, T_, T_, T_, T_, T_, T_, T_, T_, T_, T_, F_, F_, F_] rfl rfl (any_of HT_.1 (by kernel_rfl)) (fun _ _ _ h => h) (Or.inr ⟨by rfl, rfl⟩) ?_ ?_
        rotate_left
        · simp only [Act.put, sA, sZ, sS, i64_w, i32_w]
          rfl
        refine pure_ (i := 20) (N := some 57) (v := undef) (a' := ?_) #[T_, T_, T_, T_, T_, T_, T_, T_, T_, T_, T_, T_, T_, T_, T_, T_, T_, T_, T_, T_, T_, F_, F_] rfl rfl (any_of HT_.1 (by kernel_rfl)) (fun _ _ _ h => h) (Or.inr ⟨by rfl, rfl⟩) ?_ ?_
        rotate_left
        · simp only [Act.put, sA, sZ, sS, i64_w, i32_w]
          rfl
        refine pure_ (i := 21) (N := some 58) (v := undef) (a' := ?_) #[T_, T_, T_, T_, T_, T_, T_, T_, T_, T_, T_, T_, T_, T_, T_, T_, T_, T_, T_, T_, T_, T_, F_] rfl rfl (any_of HT_.1 (by kernel_rfl)) (fun _ _ _ h => h) (Or.inr ⟨by rfl, rfl⟩) ?_ ?_
        rotate_left
        · simp only [Act.put, sA, sZ, sS, i64_w, i32_w]
          rfl
        refine pure_ (i := 22) (N := some 59) (v := ?_) (a' := ?_) #[T_, T_, T_, T_, T_, T_, T_, T_, T_, T_, T_, T_, T_, T_, T_, T_, T_, T_, T_, T_, T_, T_, T_] rfl rfl (any_of HT_.1 (by kernel_rfl)) (fun _ _ _ h => h) (Or.inl ⟨by rfl, ?_⟩) ?_ ?_
        rotate_left
        · intro w'
          go_simp
          with_reducible rfl
        rotate_left
        · simp only [Act.put, sA, sZ, sS, i64_w, i32_w]
          rfl
        refine done_ (done_of HT_.1 (by kernel_rfl)) ?_
        try go_wp2
        go_meet
        case rel => exact ⟨_, (true), rr, H', ⟨by have := HK1.1; have := HJ16.1; first | omega | exact Nat.le_refl _⟩, ⟨rk HO_1⟩, ⟨rk HO_7⟩, ⟨hk HK⟩, ⟨hh HB⟩⟩
      replace c24 := Bool.eq_false_iff.mpr c24
      subst c24
      rw [if_neg (show ¬ (false = true) by decide)] at H
      by_cases c26 : 0 < (l1.length : Int)
      rotate_left
      · rw [if_neg c26] at H
        exact absurd H (by simp)
      rw [if_pos c26] at H
      have c26b0 : decide (0 < (l1.length : Int)) = true := decide_eq_true c26
      have c26b1 : decide (0 < l1.length) = true := decide_eq_true (by omega)
      clear c26
      replace H := Option.bind_eq_some_iff.mp H
      obtain ⟨t372, A270, H⟩ := H
      try dsimp only at H
      have A27 := aM A270
      clear A270
      have H' := aM H
      clear H
      try go_wp2
      replace HO_1 := aM (R_drew HO_1.1)
      replace HO_7 := aM (R_drew HO_7.1)
      replace HK := aM (Kept.drew HK.1)
      replace HB := aM (below_drew1 HB.1)
      have p368 : 0 <= (x8_1 : Int) := dt
      have q368 : x8_1 < (t363.length : Int) := dt
      obtain ⟨ad368, e368, hx368_0⟩ := Kd.at_string (R_reads' HO_7.1).2.2 x8_1 p368 q368
      cases e368
      replace p368 := eq_true p368
      replace q368 := eq_true q368
      have p370 : 0 <= (x8_1 : Int) := dt
      have q370 : x8_1 < (t363.length : Int) := dt
      obtain ⟨ad370, e370, hx370_0⟩ := Kd.at_string (R_reads' HO_7.1).2.2 x8_1 p370 q370
      obtain rfl : ad368 = ad370 := (by injection e370)
      replace p370 := eq_true p370
      replace q370 := eq_true q370
      have p371 : 0 <= (0 : Int) := (by omega)
      have q371 : 0 < (l1.length : Int) := dt
      obtain ⟨ad371, e371, hx371_0⟩ := Kd.at_string (R_reads' HO_1.1).2.2 0 p371 q371
      obtain rfl : ad362 = ad371 := (by injection e371)
      have qi371 : (0 < l1.length) = True := eq_true (by omega)
      (try rw [show ((0 : Int)).toNat = 0 from rfl] at hx371_0)
      (try rw [Addr.add_zero'] at hx371_0)
      replace p371 := eq_true p371
      replace q371 := eq_true q371
      refine start_ (n := 23) (S := fun w' => w'.cell? (ad368.add (x8_1).toNat) = some (.string (rdOf ByteArray.empty t363 x8_1)) /\ w'.cell? (ad368.add (x8_1).toNat) = some (.string (rdOf ByteArray.empty t363 x8_1)) /\ w'.cell? ad362 = some (.string (rdOf ByteArray.empty l1 0))) (ds := []) #[F_, F_, F_, F_, F_, F_, F_, F_, F_, F_, F_, F_, F_, F_, F_, F_, F_, F_, F_, F_, F_, F_, F_] (by kernel_rfl) rfl rfl ⟨hx368_0, hx370_0, hx371_0⟩ (fun hHeld => ?_); refine with_tabW r_paths.tab7 r_paths.bits7 (fun HT_ HW_ => ?_)
      generalize wc.drew = w28 at HO_1 HO_7 HK HB hx368_0 hx370_0 hx371_0 hHeld ⊢
      refine pure_ (i := 0) (N := some 37) (v := ?_) (a' := ?_) #[T_, F_, F_, F_, F_, F_, F_, F_, F_, F_, F_, F_, F_, F_, F_, F_, F_, F_, F_, F_, F_, F_, F_] rfl rfl (any_of HT_.1 (by kernel_rfl)) (fun _ _ _ h => h) (Or.inl ⟨by rfl, ?_⟩) ?_ ?_
      rotate_left
      · intro w'
        go_simp
        with_reducible rfl
      rotate_left
      · simp only [Act.put, sA, sZ, sS, i64_w, i32_w]
        rfl
      refine pure_ (i := 1) (N := some 38) (v := ?_) (a' := ?_) #[T_, T_, F_, F_, F_, F_, F_, F_, F_, F_, F_, F_, F_, F_, F_, F_, F_, F_, F_, F_, F_, F_, F_] rfl rfl (any_of HT_.1 (by kernel_rfl)) (fun _ _ _ h => h) (Or.inl ⟨by rfl, ?_⟩) ?_ ?_
      rotate_left
      · intro w'
        go_simp
        with_reducible rfl
      rotate_left
      · simp only [Act.put, sA, sZ, sS, i64_w, i32_w]
        rfl
      refine pure_ (i := 2) (N := some 39) (v := ?_) (a' := ?_) #[T_, T_, T_, F_, F_, F_, F_, F_, F_, F_, F_, F_, F_, F_, F_, F_, F_, F_, F_, F_, F_, F_, F_] rfl rfl (any_of HT_.1 (by kernel_rfl)) (fun _ _ _ h => h) (Or.inl ⟨by rfl, ?_⟩) ?_ ?_
      rotate_left
      · intro w'
        go_simp
        with_reducible rfl
      rotate_left
      · simp only [Act.put, sA, sZ, sS, i64_w, i32_w]
        rfl
      refine pure_ (i := 3) (N := some 40) (v := ?_) (a' := ?_) #[T_, T_, T_, T_, F_, F_, F_, F_, F_, F_, F_, F_, F_, F_, F_, F_, F_, F_, F_, F_, F_, F_, F_] rfl rfl (any_of HT_.1 (by kernel_rfl)) (fun _ _ _ h => h) (Or.inl ⟨by rfl, ?_⟩) ?_ ?_
      rotate_left
      · intro w'
        go_simp
        with_reducible rfl
      rotate_left
      · simp only [Act.put, sA, sZ, sS, i64_w, i32_w]
        rfl
      refine take_ (i := 4) (N := some 41) (v := ?_) (a' := ?_) #[T_, T_, T_, T_, T_, F_, F_, F_, F_, F_, F_, F_, F_, F_, F_, F_, F_, F_, F_, F_, F_, F_, F_] rfl rfl (take_ofW HT_.1 HW_.1 (by kernel_rfl)) (fun _ _ _ h => h) (Or.inl ⟨by rfl, ?_⟩) hHeld ?_ ?_
      rotate_left
      · rintro w' ⟨s0, s1, s2⟩
        go_simp
        with_reducible rfl
      rotate_left
      · simp only [Act.put, sA, sZ, sS, i64_w, i32_w]
        rfl
      refine one_ (i := 5) (N := some 42) #[T_, T_, T_, T_, T_, T_, F_, F_, F_, F_, F_, F_, F_, F_, F_, F_, F_, F_, F_, F_, F_, F_, F_] rfl rfl (one_of HT_.1 (by kernel_rfl)) (by decide) (fun K hK => ?_)
      refine goes_ Try.func21 (by kernel_rfl) rfl #[.slice (some ad362) l1.length co14, .string (rdOf ByteArray.empty t363 x8_1)] (by rfl) rfl rfl (by (try simp only [List.map_toArray, List.map_cons, List.map_nil]); first | done | rfl | (simp only [List.length_drop, List.length_take]; rfl)) ?_
      with_reducible refine (q_Has.calls kj16 _ _ l1 (rdOf ByteArray.empty t363 x8_1) false _ ?side1 ?side2 A23.1).mono ?_
      (case side1 => exact cr HO_1)
      (case side2 => exact (R_reads' HO_1.1).2.1)
      rintro e w' ⟨rfl, ⟨nd, rfl⟩⟩
      refine ⟨_, rfl, ?_⟩
      refine hK.out _ _ ⟨hHeld.1, hHeld.2.1, hHeld.2.2⟩ (fun hHeld => ?_)
      clear hK K
      refine norm_ (a' := ?_) ?_ ?_
      rotate_left
      · show Act.put _ (some 42) _ = _
        simp only [Act.put, sA, sZ, sS, i64_w, i32_w]
        rfl
      refine pure_ (i := 6) (N := some 43) (v := ?_) (a' := ?_) #[T_, T_, T_, T_, T_, T_, T_, F_, F_, F_, F_, F_, F_, F_, F_, F_, F_, F_, F_, F_, F_, F_, F_] rfl rfl (any_of HT_.1 (by kernel_rfl)) (fun _ _ _ h => h) (Or.inl ⟨by rfl, ?_⟩) ?_ ?_
      rotate_left
      · intro w'
        go_simp
        with_reducible rfl
      rotate_left
      · simp only [Act.put, sA, sZ, sS, i64_w, i32_w]
        rfl
      refine pure_ (i := 7) (N := some 44) (v := ?_) (a' := ?_) #[T_, T_, T_, T_, T_, T_, T_, T_, F_, F_, F_, F_, F_, F_, F_, F_, F_, F_, F_, F_, F_, F_, F_] rfl rfl (any_of HT_.1 (by kernel_rfl)) (fun _ _ _ h => h) (Or.inl ⟨by rfl, ?_⟩) ?_ ?_
      rotate_left
      · intro w'
        go_simp
        with_reducible rfl
      rotate_left
      · simp only [Act.put, sA, sZ, sS, i64_w, i32_w]
        rfl
      refine pure_ (i := 8) (N := some 45) (v := ?_) (a' := ?_) #[T_, T_, T_, T_, T_, T_, T_, T_, T_, F_, F_, F_, F_, F_, F_, F_, F_, F_, F_, F_, F_, F_, F_] rfl rfl (any_of HT_.1 (by kernel_rfl)) (fun _ _ _ h => h) (Or.inl ⟨by rfl, ?_⟩) ?_ ?_
      rotate_left
      · intro w'
        go_simp
        with_reducible rfl
      rotate_left
      · simp only [Act.put, sA, sZ, sS, i64_w, i32_w]
        rfl
      refine pure_ (i := 9) (N := some 46) (v := ?_) (a' := ?_) #[T_, T_, T_, T_, T_, T_, T_, T_, T_, T_, F_, F_, F_, F_, F_, F_, F_, F_, F_, F_, F_, F_, F_] rfl rfl (any_of HT_.1 (by kernel_rfl)) (fun _ _ _ h => h) (Or.inl ⟨by rfl, ?_⟩) ?_ ?_
      rotate_left
      · intro w'
        go_simp
        with_reducible rfl
      rotate_left
      · simp only [Act.put, sA, sZ, sS, i64_w, i32_w]
        rfl
      refine pure_ (i := 10) (N := some 47) (v := ?_) (a' := ?_) #[T_, T_, T_, T_, T_, T_, T_, T_, T_, T_, T_, F_, F_, F_, F_, F_, F_, F_, F_, F_, F_, F_, F_] rfl rfl (any_of HT_.1 (by kernel_rfl)) (fun _ _ _ h => h) (Or.inl ⟨by rfl, ?_⟩) ?_ ?_
      rotate_left
      · intro w'
        go_simp
        with_reducible rfl
      rotate_left
      · simp only [Act.put, sA, sZ, sS, i64_w, i32_w]
        rfl
      refine pure_ (i := 12) (N := some 49) (v := ?_) (a' := ?_) #[T_, T_, T_, T_, T_, T_, T_, T_, T_, T_, T_, F_, T_, F_, F_, F_, F_, F_, F_, F_, F_, F_, F_] rfl rfl (any_of HT_.1 (by kernel_rfl)) (fun _ _ _ h => h) (Or.inl ⟨by rfl, ?_⟩) ?_ ?_
      rotate_left
      · intro w'
        go_simp
        with_reducible rfl
      rotate_left
      · simp only [Act.put, sA, sZ, sS, i64_w, i32_w]
        rfl
      refine pure_ (i := 13) (N := some 50) (v := ?_) (a' := ?_) #[T_, T_, T_, T_, T_, T_, T_, T_, T_, T_, T_, F_, T_, T_, F_, F_, F_, F_, F_, F_, F_, F_, F_] rfl rfl (any_of HT_.1 (by kernel_rfl)) (fun _ _ _ h => h) (Or.inl ⟨by rfl, ?_⟩) ?_ ?_
      rotate_left
      · intro w'
        go_simp
        with_reducible rfl
      rotate_left
      · simp only [Act.put, sA, sZ, sS, i64_w, i32_w]
        rfl
      refine pure_ (i := 15) (N := some 52) (v := ?_) (a' := ?_) #[T_, T_, T_, T_, T_, T_, T_, T_, T_, T_, T_, F_, T_, T_, F_, T_, F_, F_, F_, F_, F_, F_, F_] rfl rfl (any_of HT_.1 (by kernel_rfl)) (fun _ _ _ h => h) (Or.inl ⟨by rfl, ?_⟩) ?_ ?_
      rotate_left
      · intro w'
        go_simp
        with_reducible rfl
      rotate_left
      · simp only [Act.put, sA, sZ, sS, i64_w, i32_w]
        rfl
      refine pure_ (i := 16) (N := some 53) (v := ?_) (a' := ?_) #[T_, T_, T_, T_, T_, T_, T_, T_, T_, T_, T_, F_, T_, T_, F_, T_, T_, F_, F_, F_, F_, F_, F_] rfl rfl (any_of HT_.1 (by kernel_rfl)) (fun _ _ _ h => h) (Or.inl ⟨by rfl, ?_⟩) ?_ ?_
      rotate_left
      · intro w'
        go_simp
        with_reducible rfl
      rotate_left
      · simp only [Act.put, sA, sZ, sS, i64_w, i32_w]
        rfl
      refine pure_ (i := 17) (N := some 54) (v := ?_) (a' := ?_) #[T_, T_, T_, T_, T_, T_, T_, T_, T_, T_, T_, F_, T_, T_, F_, T_, T_, T_, F_, F_, F_, F_, F_] rfl rfl (any_of HT_.1 (by kernel_rfl)) (fun _ _ _ h => h) (Or.inl ⟨by rfl, ?_⟩) ?_ ?_
      rotate_left
      · intro w'
        go_simp
        with_reducible rfl
      rotate_left
      · simp only [Act.put, sA, sZ, sS, i64_w, i32_w]
        rfl
      refine pure_ (i := 18) (N := some 55) (v := ?_) (a' := ?_) #[T_, T_, T_, T_, T_, T_, T_, T_, T_, T_, T_, F_, T_, T_, F_, T_, T_, T_, T_, F_, F_, F_, F_] rfl rfl (any_of HT_.1 (by kernel_rfl)) (fun _ _ _ h => h) (Or.inl ⟨by rfl, ?_⟩) ?_ ?_
      rotate_left
      · intro w'
        go_simp
        with_reducible rfl
      rotate_left
      · simp only [Act.put, sA, sZ, sS, i64_w, i32_w]
        rfl
      refine pure_ (i := 19) (N := some 56) (v := ?_) (a' := ?_) #[T_, T_, T_, T_, T_, T_, T_, T_, T_, T_, T_, F_, T_, T_, F_, T_, T_, T_, T_, T_, F_, F_, F_] rfl rfl (any_of HT_.1 (by kernel_rfl)) (fun _ _ _ h => h) (Or.inl ⟨by rfl, ?_⟩) ?_ ?_
      rotate_left
      · intro w'
        go_simp
        with_reducible rfl
      rotate_left
      · simp only [Act.put, sA, sZ, sS, i64_w, i32_w]
        rfl
      refine take_ (i := 11) (N := some 48) (v := ?_) (a' := ?_) #[T_, T_, T_, T_, T_, T_, T_, T_, T_, T_, T_, T_, T_, T_, F_, T_, T_, T_, T_, T_, F_, F_, F_] rfl rfl (take_ofW HT_.1 HW_.1 (by kernel_rfl)) (fun _ _ _ h => h) (Or.inl ⟨by rfl, ?_⟩) hHeld ?_ ?_
      rotate_left
      · rintro w' ⟨s0, s1, s2⟩
        go_simp
        with_reducible rfl
      rotate_left
      · simp only [Act.put, sA, sZ, sS, i64_w, i32_w]
        rfl
      refine take_ (i := 14) (N := some 51) (v := ?_) (a' := ?_) #[T_, T_, T_, T_, T_, T_, T_, T_, T_, T_, T_, T_, T_, T_, T_, T_, T_, T_, T_, T_, F_, F_, F_] rfl rfl (take_ofW HT_.1 HW_.1 (by kernel_rfl)) (fun _ _ _ h => h) (Or.inl ⟨by rfl, ?_⟩) hHeld ?_ ?_
      rotate_left
      · rintro w' ⟨s0, s1, s2⟩
        go_simp
        with_reducible rfl
      rotate_left
      · simp only [Act.put, sA, sZ, sS, i64_w, i32_w]
        rfl
      refine one_ (i := 20) (N := some 57) #[T_, T_, T_, T_, T_, T_, T_, T_, T_, T_, T_, T_, T_, T_, T_, T_, T_, T_, T_, T_, T_, F_, F_] rfl rfl (one_of HT_.1 (by kernel_rfl)) (by decide) (fun K hK => ?_)
      refine goes_ Try.func49 (by kernel_rfl) rfl #[.slice A0 l0.length c0, .string (rdOf ByteArray.empty t363 x8_1), .string (rdOf ByteArray.empty l1 0), .int .i64 (wrap64 ((wrap64 (a2 - (l1.length : Int))) - 1))] (by rfl) rfl rfl (by (try simp only [List.map_toArray, List.map_cons, List.map_nil]); first | done | rfl | (simp only [List.length_drop, List.length_take]; rfl)) ?_
      with_reducible refine (r_back.calls kj16 _ _ l0 (rdOf ByteArray.empty t363 x8_1) (rdOf ByteArray.empty l1 0) (wrap64 ((wrap64 (a2 - (l1.length : Int))) - 1)) t372 _ ?side1 ?side2 A27.1).mono ?_
      (case side1 => exact C_kept_now HR0.1 (hk HK))
      (case side2 => exact HC0.1)
      rintro e w29 ⟨rfl, hb⟩
      have HS0_ := (hb.cell (World.block_lt_of_cell? _ _ (hHeld.1))).trans (hHeld.1)
      have HS1_ := (hb.cell (World.block_lt_of_cell? _ _ (hHeld.2.1))).trans (hHeld.2.1)
      have HS2_ := (hb.cell (World.block_lt_of_cell? _ _ (hHeld.2.2))).trans (hHeld.2.2)
      refine ⟨_, rfl, ?_⟩
      replace HO_1 := rb HO_1 hb
      replace HO_7 := rb HO_7 hb
      replace HK := aM (Kept.below (S := (fun k_ => P1_ k_)) (hk HK) hb)
      replace HB := bs HB hb
      (clear hb)
      skip
      skip
      skip
      refine hK.out _ _ ⟨HS0_, HS1_, HS2_⟩ (fun hHeld => ?_)
      clear hK K
      refine norm_ (a' := ?_) ?_ ?_
      rotate_left
      · show Act.put _ (some 57) _ = _
        simp only [Act.put, sA, sZ, sS, i64_w, i32_w]
        rfl
      refine pure_ (i := 21) (N := some 58) (v := ?_) (a' := ?_) #[T_, T_, T_, T_, T_, T_, T_, T_, T_, T_, T_, T_, T_, T_, T_, T_, T_, T_, T_, T_, T_, T_, F_] rfl rfl (any_of HT_.1 (by kernel_rfl)) (fun _ _ _ h => h) (Or.inl ⟨by rfl, ?_⟩) ?_ ?_
      rotate_left
      · intro w'
        go_simp
        with_reducible rfl
      rotate_left
      · simp only [Act.put, sA, sZ, sS, i64_w, i32_w]
        rfl
      refine pure_ (i := 22) (N := some 59) (v := ?_) (a' := ?_) #[T_, T_, T_, T_, T_, T_, T_, T_, T_, T_, T_, T_, T_, T_, T_, T_, T_, T_, T_, T_, T_, T_, T_] rfl rfl (any_of HT_.1 (by kernel_rfl)) (fun _ _ _ h => h) (Or.inl ⟨by rfl, ?_⟩) ?_ ?_
      rotate_left
      · intro w'
        go_simp
        with_reducible rfl
      rotate_left
      · simp only [Act.put, sA, sZ, sS, i64_w, i32_w]
        rfl
      refine done_ (done_of HT_.1 (by kernel_rfl)) ?_
      try go_wp2
      go_meet
      case rel => exact ⟨_, (!t372), rr, H', ⟨by have := HK1.1; have := HJ16.1; first | omega | exact Nat.le_refl _⟩, ⟨rk HO_1⟩, ⟨rk HO_7⟩, ⟨hk HK⟩, ⟨hh HB⟩⟩
     case rest =>
      clear HC20
      obtain ⟨kq, x59_19, rfl, HA, HJ19, HO_1, HO_7, HK, HB⟩ := hcut
      cases kq with
      | zero => exact absurd HA.1 (by simp [r_paths.j2])
      | succ kj19 =>
       have H := HA.1
       clear HA
       simp only [r_paths.j2] at H
       by_cases c30 : x59_19 = true
       · subst c30
         rw [if_pos rfl] at H
         have H' := aM H
         clear H
         go_wp2
         go_roundg kj19
         case measure => have := HK1.1; have := HJ16.1; have := HJ19.1; omega
         case rel => exact ⟨(wrap64 (x8_1 + 1)), rr, H', ⟨by have := HK1.1; have := HJ16.1; have := HJ19.1; omega⟩, ⟨rk HO_1⟩, ⟨rk HO_7⟩, ⟨hk HK⟩, ⟨hh HB⟩⟩
       replace c30 := Bool.eq_false_iff.mpr c30
       subst c30
       rw [if_neg (show ¬ (false = true) by decide)] at H
       by_cases c31 : ([] : List ByteArray).length + l1.length < 8796093022208
       rotate_left
       · rw [if_neg c31] at H
         exact absurd H (by simp)
       rw [if_pos c31] at H
       have LMc31 := aM c31
       clear c31
       obtain ⟨y373, hy373⟩ : ∃ y_ : List ByteArray, y_ = (([] : List ByteArray) ++ l1) := ⟨_, rfl⟩
       replace H : (if 0 <= x8_1 then (if x8_1 < (t363.length : Int) then (if y373.length < 8796093022208 then ((r_paths.f kj19 l0 (y373 ++ [rdOf ByteArray.empty t363 x8_1]) a2).bind fun t380 => (if (t380.length : Int) > 0 then (some t380) else (r_paths.l0 kj19 l0 l1 a2 t363 (wrap64 (x8_1 + 1))))) else (none)) else (none)) else (none)) = some r := by first | (rw [hy373]; with_reducible exact H) | (have H2_ := (Option.bind_some _ _).symm.trans H; rw [hy373]; with_reducible exact H2_) | (have H2_ := (Option.bind_some _ _).symm.trans H; with_reducible exact H2_) | with_reducible exact H | (rw [hy373]; exact H) | exact H
       have Ny373 := aM hy373
       clear hy373
       by_cases c32 : 0 <= x8_1
       rotate_left
       · rw [if_neg c32] at H
         exact absurd H (by simp)
       rw [if_pos c32] at H
       have c32b0 : decide (0 <= x8_1) = true := decide_eq_true c32
       clear c32
       by_cases c33 : x8_1 < (t363.length : Int)
       rotate_left
       · rw [if_neg c33] at H
         exact absurd H (by simp)
       rw [if_pos c33] at H
       have c33b0 : decide (x8_1 < (t363.length : Int)) = true := decide_eq_true c33
       clear c33
       by_cases c34 : y373.length < 8796093022208
       rotate_left
       · rw [if_neg c34] at H
         exact absurd H (by simp)
       rw [if_pos c34] at H
       have LMc34 := aM c34
       clear c34
       obtain ⟨y377, hy377⟩ : ∃ y_ : List ByteArray, y_ = (y373 ++ [rdOf ByteArray.empty t363 x8_1]) := ⟨_, rfl⟩
       replace H : ((r_paths.f kj19 l0 y377 a2).bind fun t380 => (if (t380.length : Int) > 0 then (some t380) else (r_paths.l0 kj19 l0 l1 a2 t363 (wrap64 (x8_1 + 1))))) = some r := by first | (rw [hy377]; with_reducible exact H) | (have H2_ := (Option.bind_some _ _).symm.trans H; rw [hy377]; with_reducible exact H2_) | (have H2_ := (Option.bind_some _ _).symm.trans H; with_reducible exact H2_) | with_reducible exact H | (rw [hy377]; exact H) | exact H
       have Ny377 := aM hy377
       clear hy377
       replace H := Option.bind_eq_some_iff.mp H
       obtain ⟨t380, A350, H⟩ := H
       try dsimp only at H
       have A35 := aM A350
       clear A350
       by_cases c36 : (t380.length : Int) > 0
       · rw [if_pos c36] at H
         have c36b0 : decide (0 < (t380.length : Int)) = true := decide_eq_true c36
         have c36b1 : decide (0 < t380.length) = true := decide_eq_true (by omega)
         clear c36
         obtain rfl := Option.some.inj H
         go_wp2_with (first | ((with_reducible refine gate_builtin (b := .append) (xs := #[.tmp 60, .tmp 61]) rfl ?_); (try (refine gate_guard (by rfl) ?_; dsimp only)); at_builtin; refine R_append_rows Kd.string (w0 := w0) w0.heap.size rfl (.tmp 60) (.tmp 61) 25 9 (.string ⟨#[]⟩) 16 rfl Try.underlying25 info9 rfl (by decide) (by omega) (.slice none 0 0) ([] : List ByteArray) l1 _ _ _ (fun k_ => (P1_ k_ \/ w.heap.size <= k_) /\ some k_ ≠ (.slice (some ad362) l1.length co14 : Value).ownBlock /\ some k_ ≠ (.slice Ao16 t363.length co16 : Value).ownBlock) (fun _ => False) rfl rfl ?aO ?aR (fun _ _ h => h) (fun _ h => h.elim) ?aF ?aB ?aS ?aL ?_; (case aR => exact cr HO_1); (case aB => exact (hh HB)); (case aF => exact (fun k_ hk => ⟨(.inr (Nat.le_trans (by first | exact HK.1.1 | exact (show Kept w _ (fun k_ => P1_ k_) from hk HK).1) hk)), Kd.fresh' (R_lt (rk HO_1)) k_ hk, Kd.fresh' (R_lt (rk HO_7)) k_ hk⟩)); (case aO => exact ((R_nil _ _ _ _ (fun k_ => (P1_ k_ \/ w.heap.size <= k_) /\ some k_ ≠ (.slice (some ad362) l1.length co14 : Value).ownBlock /\ some k_ ≠ (.slice Ao16 t363.length co16 : Value).ownBlock)))); (case aS => exact (below_size (hh HB))); (case aL => have := LMc31.1; omega); intro v374 w37 ho hb hg hat; rw [<- Ny373.1] at ho; have HO375 := aM (ho); replace HO_1 := aM (R_after (R_apart_nil (rk HO_1)) hg hat); replace HO_7 := aM (R_after (R_apart_nil (rk HO_7)) hg hat); replace HB := aM (hb); replace HK := aM (Kept.of_grown (S := (fun k_ => P1_ k_)) hg (hk HK) (fun k_ e_ => by simp [Value.ownBlock] at e_)); clear ho hb hg hat; have p376 : 0 <= (x8_1 : Int) := dt; have q376 : x8_1 < (t363.length : Int) := dt; obtain ⟨ad376, e376, hx376_0⟩ := Kd.at_string (R_reads' HO_7.1).2.2 x8_1 p376 q376; cases e376; replace p376 := eq_true p376; replace q376 := eq_true q376) | ((with_reducible refine gate_builtin (b := .append) (xs := #[.tmp 63, .tmp 68]) rfl ?_); (try (refine gate_guard (by rfl) ?_; dsimp only)); at_builtin; refine R_append Kd.string (w0 := w0) w0.heap.size rfl (.tmp 63) (.tmp 68) 25 9 (.string ⟨#[]⟩) 16 rfl Try.underlying25 info9 rfl (by decide) (by omega) v374 y373 (rdOf ByteArray.empty t363 x8_1) [.string (rdOf ByteArray.empty t363 x8_1)] (fun k_ => (P1_ k_ \/ w.heap.size <= k_) /\ some k_ ≠ (.slice (some ad362) l1.length co14 : Value).ownBlock /\ some k_ ≠ (.slice (some ad376) t363.length co16 : Value).ownBlock) (fun _ => False) rfl rfl ?aP (fun _ hk => hk.elim) ?aF ?aO ?aB ?aS ?aL ?_; (case aP => exact rfl); (case aB => exact (hh HB)); (case aF => exact (fun k_ hk => ⟨(.inr (Nat.le_trans (by first | exact HK.1.1 | exact (show Kept w _ (fun k_ => P1_ k_) from hk HK).1) hk)), Kd.fresh' (R_lt (rk HO_1)) k_ hk, Kd.fresh' (R_lt (rk HO_7)) k_ hk⟩)); (case aO => exact (rk HO375)); (case aS => exact (below_size (hh HB))); (case aL => have := LMc34.1; omega); intro v378 w38 ho hb hg hat; rw [<- Ny377.1] at ho; have HO379 := aM (ho); replace HO_1 := aM (R_after (ok := (fun k_ => (P1_ k_ \/ w.heap.size <= k_) /\ some k_ ≠ (.slice (some ad376) t363.length co16 : Value).ownBlock)) (rk HO_1) hg hat); replace HO_7 := aM (R_after (ok := (fun k_ => (P1_ k_ \/ w.heap.size <= k_) /\ some k_ ≠ (.slice (some ad362) l1.length co14 : Value).ownBlock)) (rk HO_7) hg hat); replace HB := aM (hb); replace HK := aM (Kept.of_grown (S := (fun k_ => P1_ k_)) hg (hk HK) (fun k_ e_ => (HO375.1.1 k_ e_).1)); clear HO375; clear ho hb hg hat; obtain ⟨Ao39, co39, eo39⟩ := R_slice HO379.1; subst eo39) | ((with_reducible refine gate_callee (f := 37) rfl ?_); refine gL (some 73) rfl rfl Try.func37 (by kernel_rfl) rfl #[.slice A0 l0.length c0, .slice Ao39 y377.length co39, .int .i64 a2] rfl ?_; (with_reducible refine (ih kj19 (by have := HK1.1; have := HJ16.1; have := HJ19.1; omega) _ _ l0 (fun k_ => some k_ = (.slice Ao39 y377.length co39 : Value).ownBlock) (.slice Ao39 y377.length co39) y377 a2 t380 w0 _ ?side1 ?side2 ?side3 ?side4 A35.1).mono ?_); (case side1 => repeat (first | (with_reducible first | exact HB.1 | apply bA | apply bN | apply bD) | exact HB.1)); (case side2 => exact C_kept_call HR0.1 (hk HK) (fun k_ hs_ => (fun e_ => (HO379.1.1 k_ e_.symm).1) hs_)); (case side3 => exact HC0.1); (case side4 => exact R_tight rfl HO379.1); rintro e w40 ⟨v381, rfl, ho0, hb, hkp⟩; refine ⟨_, rfl, ?_⟩; have HO382 := aM (R_mono (ok' := fun k_ => (P1_ k_ \/ w.heap.size <= k_) /\ some k_ ≠ (.slice (some ad362) l1.length co14 : Value).ownBlock /\ some k_ ≠ (.slice (some ad376) t363.length co16 : Value).ownBlock) ho0 (fun k_ hk_ => ⟨Or.elim hk_ (fun hs_ => (HO379.1.1 k_ (hs_).symm).1) (fun hn_ => (.inr (Nat.le_trans (by first | exact HK.1.1 | exact (show Kept w _ (fun k_ => P1_ k_) from hk HK).1) hn_))), Or.elim hk_ (fun hs_ => fun e_ => (((HO_1.1).1 k_ e_.symm).2) hs_) (fun hn_ => (Kd.fresh' (R_lt (rk HO_1)) k_ hn_)), Or.elim hk_ (fun hs_ => fun e_ => (((HO_7.1).1 k_ e_.symm).2) hs_) (fun hn_ => (Kd.fresh' (R_lt (rk HO_7)) k_ hn_))⟩)); replace HO_1 := aM (R_mono (ok' := fun k_ => (P1_ k_ \/ w.heap.size <= k_) /\ some k_ ≠ (.slice (some ad376) t363.length co16 : Value).ownBlock /\ some k_ ≠ (v381 : Value).ownBlock) (R_keptB (HO_1.1) hkp (fun k_ hk_ hs_ => (hk_.2) hs_)) (fun k_ hk_ => ⟨hk_.1.1.1, hk_.1.1.2, fun e_ => Or.elim (ho0.1 k_ e_.symm) (fun hs_ => hk_.2.1 hs_) (fun hn_ => Nat.not_le.2 hk_.2.2 hn_)⟩)); replace HO_7 := aM (R_mono (ok' := fun k_ => (P1_ k_ \/ w.heap.size <= k_) /\ some k_ ≠ (.slice (some ad362) l1.length co14 : Value).ownBlock /\ some k_ ≠ (v381 : Value).ownBlock) (R_keptB (HO_7.1) hkp (fun k_ hk_ hs_ => (hk_.2) hs_)) (fun k_ hk_ => ⟨hk_.1.1.1, hk_.1.1.2, fun e_ => Or.elim (ho0.1 k_ e_.symm) (fun hs_ => hk_.2.1 hs_) (fun hn_ => Nat.not_le.2 hk_.2.2 hn_)⟩)); replace HK := aM (Kept.then_ (S := (fun k_ => P1_ k_)) (hk HK) hkp (fun k_ hs_ => (fun e_ => (HO379.1.1 k_ e_.symm).1) hs_)); replace HB := aM (hb); clear HO379; clear hb hkp ho0; obtain ⟨Ao41, co41, eo41⟩ := R_slice HO382.1; subst eo41))
         go_ret
         exact ⟨_, by first | rfl | (simp [errW_none, errW_some] <;> rfl) | (simp only [<- hji4]; first | rfl | (simp [errW_none, errW_some] <;> rfl)) | (simp [*, errW_none, errW_some] <;> rfl), rz (R_mono HO382.1 (fun _ hk => hk.1)), hh HB, hk HK⟩
       rw [if_neg c36] at H
       have c36b0 : decide (0 < (t380.length : Int)) = false := decide_eq_false c36
       have c36b1 : decide (0 < t380.length) = false := decide_eq_false (by omega)
       clear c36
       have H' := aM H
       clear H
       go_wp2_with (first | ((with_reducible refine gate_builtin (b := .append) (xs := #[.tmp 60, .tmp 61]) rfl ?_); (try (refine gate_guard (by rfl) ?_; dsimp only)); at_builtin; refine R_append_rows Kd.string (w0 := w0) w0.heap.size rfl (.tmp 60) (.tmp 61) 25 9 (.string ⟨#[]⟩) 16 rfl Try.underlying25 info9 rfl (by decide) (by omega) (.slice none 0 0) ([] : List ByteArray) l1 _ _ _ (fun k_ => (P1_ k_ \/ w.heap.size <= k_) /\ some k_ ≠ (.slice (some ad362) l1.length co14 : Value).ownBlock /\ some k_ ≠ (.slice Ao16 t363.length co16 : Value).ownBlock) (fun _ => False) rfl rfl ?aO ?aR (fun _ _ h => h) (fun _ h => h.elim) ?aF ?aB ?aS ?aL ?_; (case aR => exact cr HO_1); (case aB => exact (hh HB)); (case aF => exact (fun k_ hk => ⟨(.inr (Nat.le_trans (by first | exact HK.1.1 | exact (show Kept w _ (fun k_ => P1_ k_) from hk HK).1) hk)), Kd.fresh' (R_lt (rk HO_1)) k_ hk, Kd.fresh' (R_lt (rk HO_7)) k_ hk⟩)); (case aO => exact ((R_nil _ _ _ _ (fun k_ => (P1_ k_ \/ w.heap.size <= k_) /\ some k_ ≠ (.slice (some ad362) l1.length co14 : Value).ownBlock /\ some k_ ≠ (.slice Ao16 t363.length co16 : Value).ownBlock)))); (case aS => exact (below_size (hh HB))); (case aL => have := LMc31.1; omega); intro v374 w42 ho hb hg hat; rw [<- Ny373.1] at ho; have HO375 := aM (ho); replace HO_1 := aM (R_after (R_apart_nil (rk HO_1)) hg hat); replace HO_7 := aM (R_after (R_apart_nil (rk HO_7)) hg hat); replace HB := aM (hb); replace HK := aM (Kept.of_grown (S := (fun k_ => P1_ k_)) hg (hk HK) (fun k_ e_ => by simp [Value.ownBlock] at e_)); clear ho hb hg hat; have p376 : 0 <= (x8_1 : Int) := dt; have q376 : x8_1 < (t363.length : Int) := dt; obtain ⟨ad376, e376, hx376_0⟩ := Kd.at_string (R_reads' HO_7.1).2.2 x8_1 p376 q376; cases e376; replace p376 := eq_true p376; replace q376 := eq_true q376) | ((with_reducible refine gate_builtin (b := .append) (xs := #[.tmp 63, .tmp 68]) rfl ?_); (try (refine gate_guard (by rfl) ?_; dsimp only)); at_builtin; refine R_append Kd.string (w0 := w0) w0.heap.size rfl (.tmp 63) (.tmp 68) 25 9 (.string ⟨#[]⟩) 16 rfl Try.underlying25 info9 rfl (by decide) (by omega) v374 y373 (rdOf ByteArray.empty t363 x8_1) [.string (rdOf ByteArray.empty t363 x8_1)] (fun k_ => (P1_ k_ \/ w.heap.size <= k_) /\ some k_ ≠ (.slice (some ad362) l1.length co14 : Value).ownBlock /\ some k_ ≠ (.slice (some ad376) t363.length co16 : Value).ownBlock) (fun _ => False) rfl rfl ?aP (fun _ hk => hk.elim) ?aF ?aO ?aB ?aS ?aL ?_; (case aP => exact rfl); (case aB => exact (hh HB)); (case aF => exact (fun k_ hk => ⟨(.inr (Nat.le_trans (by first | exact HK.1.1 | exact (show Kept w _ (fun k_ => P1_ k_) from hk HK).1) hk)), Kd.fresh' (R_lt (rk HO_1)) k_ hk, Kd.fresh' (R_lt (rk HO_7)) k_ hk⟩)); (case aO => exact (rk HO375)); (case aS => exact (below_size (hh HB))); (case aL => have := LMc34.1; omega); intro v378 w43 ho hb hg hat; rw [<- Ny377.1] at ho; have HO379 := aM (ho); replace HO_1 := aM (R_after (ok := (fun k_ => (P1_ k_ \/ w.heap.size <= k_) /\ some k_ ≠ (.slice (some ad376) t363.length co16 : Value).ownBlock)) (rk HO_1) hg hat); replace HO_7 := aM (R_after (ok := (fun k_ => (P1_ k_ \/ w.heap.size <= k_) /\ some k_ ≠ (.slice (some ad362) l1.length co14 : Value).ownBlock)) (rk HO_7) hg hat); replace HB := aM (hb); replace HK := aM (Kept.of_grown (S := (fun k_ => P1_ k_)) hg (hk HK) (fun k_ e_ => (HO375.1.1 k_ e_).1)); clear HO375; clear ho hb hg hat; obtain ⟨Ao44, co44, eo44⟩ := R_slice HO379.1; subst eo44) | ((with_reducible refine gate_callee (f := 37) rfl ?_); refine gL (some 73) rfl rfl Try.func37 (by kernel_rfl) rfl #[.slice A0 l0.length c0, .slice Ao44 y377.length co44, .int .i64 a2] rfl ?_; (with_reducible refine (ih kj19 (by have := HK1.1; have := HJ16.1; have := HJ19.1; omega) _ _ l0 (fun k_ => some k_ = (.slice Ao44 y377.length co44 : Value).ownBlock) (.slice Ao44 y377.length co44) y377 a2 t380 w0 _ ?side1 ?side2 ?side3 ?side4 A35.1).mono ?_); (case side1 => repeat (first | (with_reducible first | exact HB.1 | apply bA | apply bN | apply bD) | exact HB.1)); (case side2 => exact C_kept_call HR0.1 (hk HK) (fun k_ hs_ => (fun e_ => (HO379.1.1 k_ e_.symm).1) hs_)); (case side3 => exact HC0.1); (case side4 => exact R_tight rfl HO379.1); rintro e w45 ⟨v381, rfl, ho0, hb, hkp⟩; refine ⟨_, rfl, ?_⟩; have HO382 := aM (R_mono (ok' := fun k_ => (P1_ k_ \/ w.heap.size <= k_) /\ some k_ ≠ (.slice (some ad362) l1.length co14 : Value).ownBlock /\ some k_ ≠ (.slice (some ad376) t363.length co16 : Value).ownBlock) ho0 (fun k_ hk_ => ⟨Or.elim hk_ (fun hs_ => (HO379.1.1 k_ (hs_).symm).1) (fun hn_ => (.inr (Nat.le_trans (by first | exact HK.1.1 | exact (show Kept w _ (fun k_ => P1_ k_) from hk HK).1) hn_))), Or.elim hk_ (fun hs_ => fun e_ => (((HO_1.1).1 k_ e_.symm).2) hs_) (fun hn_ => (Kd.fresh' (R_lt (rk HO_1)) k_ hn_)), Or.elim hk_ (fun hs_ => fun e_ => (((HO_7.1).1 k_ e_.symm).2) hs_) (fun hn_ => (Kd.fresh' (R_lt (rk HO_7)) k_ hn_))⟩)); replace HO_1 := aM (R_mono (ok' := fun k_ => (P1_ k_ \/ w.heap.size <= k_) /\ some k_ ≠ (.slice (some ad376) t363.length co16 : Value).ownBlock /\ some k_ ≠ (v381 : Value).ownBlock) (R_keptB (HO_1.1) hkp (fun k_ hk_ hs_ => (hk_.2) hs_)) (fun k_ hk_ => ⟨hk_.1.1.1, hk_.1.1.2, fun e_ => Or.elim (ho0.1 k_ e_.symm) (fun hs_ => hk_.2.1 hs_) (fun hn_ => Nat.not_le.2 hk_.2.2 hn_)⟩)); replace HO_7 := aM (R_mono (ok' := fun k_ => (P1_ k_ \/ w.heap.size <= k_) /\ some k_ ≠ (.slice (some ad362) l1.length co14 : Value).ownBlock /\ some k_ ≠ (v381 : Value).ownBlock) (R_keptB (HO_7.1) hkp (fun k_ hk_ hs_ => (hk_.2) hs_)) (fun k_ hk_ => ⟨hk_.1.1.1, hk_.1.1.2, fun e_ => Or.elim (ho0.1 k_ e_.symm) (fun hs_ => hk_.2.1 hs_) (fun hn_ => Nat.not_le.2 hk_.2.2 hn_)⟩)); replace HK := aM (Kept.then_ (S := (fun k_ => P1_ k_)) (hk HK) hkp (fun k_ hs_ => (fun e_ => (HO379.1.1 k_ e_.symm).1) hs_)); replace HB := aM (hb); clear HO379; clear hb hkp ho0; obtain ⟨Ao46, co46, eo46⟩ := R_slice HO382.1; subst eo46))
       go_roundg kj19
       case measure => have := HK1.1; have := HJ16.1; have := HJ19.1; omega
       case rel => exact ⟨(wrap64 (x8_1 + 1)), rr, H', ⟨by have := HK1.1; have := HJ16.1; have := HJ19.1; omega⟩, ⟨rz (R_mono HO_1.1 (fun _ hk => ⟨hk.1, hk.2.1⟩))⟩, ⟨rz (R_mono HO_7.1 (fun _ hk => ⟨hk.1, hk.2.1⟩))⟩, ⟨hk HK⟩, ⟨hh HB⟩⟩
mutual
noncomputable def r_Cycle.l0 : Nat -> List (S42) -> List ByteArray -> Int -> Option (List ByteArray)
 | 0, _, _, _ => none
 | k + 1, x0, x3, x4 => if x4 <= (x3.length : Int) then (r_Cycle.l1 k x0 x3 x4 0) else (some ([] : List ByteArray))
noncomputable def r_Cycle.l1 : Nat -> List (S42) -> List ByteArray -> Int -> Int -> Option (List ByteArray)
 | 0, _, _, _, _ => none
 | k + 1, x0, x3, x4, x5 => if x5 < (x3.length : Int) then (if 0 <= x5 then ((r_paths.f k x0 (([rdOf ByteArray.empty x3 x5] : List ByteArray)) x4).bind fun t394 => (if (t394.length : Int) > 0 then (some t394) else (r_Cycle.l1 k x0 x3 x4 (wrap64 (x5 + 1))))) else (none)) else (r_Cycle.l0 k x0 x3 (wrap64 (x4 + 1)))
end
noncomputable def r_Cycle.f (k : Nat) (l0 : List (S42)) : Option (List ByteArray) := (r_consistent.f k l0).bind fun bt383 => (if bt383.1 = 0 then ((r_Names.f k l0).bind fun t387 => (r_Cycle.l0 k l0 t387 1)) else (some ([] : List ByteArray)))
theorem r_Cycle.calls (k : Nat) (A0 : Option Addr) (c0 : Nat) (l0 : List (S42)) (r : List ByteArray) (w : World) (hr0 : Kd.C k42 w A0 l0.length l0) (hc0 : l0.length <= c0) (h : r_Cycle.f k l0 = some r) :
 Calls Try.prog 20 #[.slice A0 l0.length c0] w fun e w' => ∃ v0_ : Value, e = .returned (v0_) /\ Kd.R Kd.string 9 w' w.heap.size (fun _ => True) v0_ r /\ Below w.heap.size w w' := by
 have hu28 := Try.underlying28
 have HR0 := aM hr0
 have HC0 := aM hc0
 clear hr0 hc0
 have HB := aM (Below.refl w.heap.size w)
 have H : ((r_consistent.f k l0).bind fun bt383 => (if bt383.1 = 0 then ((r_Names.f k l0).bind fun t387 => (r_Cycle.l0 k l0 t387 1)) else (some ([] : List ByteArray)))) = some r := h
 clear h
 replace H := Option.bind_eq_some_iff.mp H
 obtain ⟨⟨t383, t384, t385, t386⟩, A20, H⟩ := H
 try dsimp only at H
 have A2 := aM A20
 clear A20
 by_cases c3 : t383 = 0
 rotate_left
 · rw [if_neg c3] at H
   have c3b0 : (t383 == 0) = false := beq_eq_false_iff_ne.mpr c3
   have c3b1 : (t383 != 0) = true := bne_iff_ne.mpr c3
   obtain rfl := Option.some.inj H
   go_enter Try.func20, Try.ntmps20
   go_wp2_with (first | ((with_reducible refine gate_callee (f := 36) rfl ?_); refine gL (some 8) rfl rfl Try.func36 (by kernel_rfl) rfl #[.slice A0 l0.length c0] rfl ?_; (with_reducible refine (r_consistent.calls k _ _ l0 t383 t384 t385 t386 _ ?side1 ?side2 A2.1).mono ?_); (case side1 => exact ck HR0); (case side2 => exact HC0.1); rintro e w24 ⟨rfl, hb⟩; refine ⟨_, rfl, ?_⟩; replace HB := bs HB hb; clear hb))
   go_ret
   exact ⟨_, by first | rfl | (simp [errW_none, errW_some] <;> rfl) | (simp [*, errW_none, errW_some] <;> rfl), by first | exact R_nil _ _ _ _ _ | exact N_nil _ _ _ _ _ | exact V_nil _ _ _ _ _ | exact Q_nil _ _ _ _ _ | exact S_nil _ _ _ _ _, hh HB⟩
 rw [if_pos c3] at H
 have c3b0 : (t383 == 0) = true := beq_iff_eq.mpr c3
 have c3b1 : (t383 != 0) = false := bne_eq_false_iff_eq.mpr c3
 clear c3
 replace H := Option.bind_eq_some_iff.mp H
 obtain ⟨t387, A40, H⟩ := H
 try dsimp only at H
 have A4 := aM A40
 clear A40
 have H' := aM H
 clear H
 go_enter Try.func20, Try.ntmps20
 go_wp2_with (first | ((with_reducible refine gate_callee (f := 36) rfl ?_); refine gL (some 8) rfl rfl Try.func36 (by kernel_rfl) rfl #[.slice A0 l0.length c0] rfl ?_; (with_reducible refine (r_consistent.calls k _ _ l0 t383 t384 t385 t386 _ ?side1 ?side2 A2.1).mono ?_); (case side1 => exact ck HR0); (case side2 => exact HC0.1); rintro e w5 ⟨rfl, hb⟩; refine ⟨_, rfl, ?_⟩; replace HB := bs HB hb; clear hb) | ((with_reducible refine gate_callee (f := 28) rfl ?_); refine gL (some 12) rfl rfl Try.func28 (by kernel_rfl) rfl #[.slice A0 l0.length c0] rfl ?_; (with_reducible refine (r_Names.calls k _ _ l0 t387 _ ?side1 ?side2 A4.1).mono ?_); (case side1 => exact cb HR0 HB); (case side2 => exact HC0.1); rintro e w6 ⟨v388, rfl, ho0, hb⟩; refine ⟨_, rfl, ?_⟩; have HO389 := aM (R_lower ho0 (below_size (hh HB))); replace HB := bs HB hb; clear hb ho0))
 go_loopg [4] k (fun kq v4 w' => ∃ (x4_1 : Int), v4 = .int .i64 x4_1 /\ Az (r_Cycle.l0 kq l0 t387 x4_1 = some r) /\ Az (kq <= k) /\ Az (Kd.R Kd.string 9 w' w.heap.size (fun _ => True) v388 t387) /\ Az (Below w.heap.size w w'))
 case atStart => exact ⟨(1), rr, H', ⟨Nat.le_refl _⟩, ⟨rk HO389⟩, ⟨hh HB⟩⟩
 case round =>
  clear H'
  clear c3b0 c3b1
  obtain ⟨x4_1, rfl, HA, HK1, HO_3, HB⟩ := hrel
  cases gk with
  | zero => exact absurd HA.1 (by simp [r_Cycle.l0])
  | succ k1 =>
   have H := HA.1
   clear HA
   simp only [r_Cycle.l0] at H
   by_cases c7 : x4_1 <= (t387.length : Int)
   rotate_left
   · rw [if_neg c7] at H
     have c7b0 : decide (x4_1 <= (t387.length : Int)) = false := decide_eq_false c7
     clear c7
     obtain rfl := Option.some.inj H
     obtain ⟨Ao23, co23, eo23⟩ := R_slice HO_3.1
     subst eo23
     go_wp2
     go_ret
     exact ⟨_, by first | rfl | (simp [errW_none, errW_some] <;> rfl) | (simp [*, errW_none, errW_some] <;> rfl), by first | exact R_nil _ _ _ _ _ | exact N_nil _ _ _ _ _ | exact V_nil _ _ _ _ _ | exact Q_nil _ _ _ _ _ | exact S_nil _ _ _ _ _, hh HB⟩
   rw [if_pos c7] at H
   have c7b0 : decide (x4_1 <= (t387.length : Int)) = true := decide_eq_true c7
   clear c7
   have H' := aM H
   clear H
   obtain ⟨Ao8, co8, eo8⟩ := R_slice HO_3.1
   subst eo8
   go_wp2
   go_loopg [5] k1 (fun kq v5 w' => ∃ (x5_2 : Int), v5 = .int .i64 x5_2 /\ Az (r_Cycle.l1 kq l0 t387 x4_1 x5_2 = some r) /\ Az (kq <= k1) /\ Az (Kd.R Kd.string 9 w' w.heap.size (fun _ => True) (.slice Ao8 t387.length co8) t387) /\ Az (Below w.heap.size w w'))
   case atStart => exact ⟨(0), rr, H', ⟨Nat.le_refl _⟩, ⟨rk HO_3⟩, ⟨hh HB⟩⟩
   case round =>
    clear H'
    clear c7b0
    obtain ⟨x5_2, rfl, HA, HK2, HO_3, HB⟩ := hrel
    cases gk with
    | zero => exact absurd HA.1 (by simp [r_Cycle.l1])
    | succ k2 =>
     have H := HA.1
     clear HA
     simp only [r_Cycle.l1] at H
     by_cases c9 : x5_2 < (t387.length : Int)
     rotate_left
     · rw [if_neg c9] at H
       have c9b0 : decide (x5_2 < (t387.length : Int)) = false := decide_eq_false c9
       clear c9
       have H' := aM H
       clear H
       go_wp2
       go_roundg k2
       case measure => have := HK1.1; have := HK2.1; omega
       case rel => exact ⟨(wrap64 (x4_1 + 1)), rr, H', ⟨by have := HK1.1; have := HK2.1; omega⟩, ⟨rk HO_3⟩, ⟨hh HB⟩⟩
     rw [if_pos c9] at H
     have c9b0 : decide (x5_2 < (t387.length : Int)) = true := decide_eq_true c9
     clear c9
     by_cases c10 : 0 <= x5_2
     rotate_left
     · rw [if_neg c10] at H
       exact absurd H (by simp)
     rw [if_pos c10] at H
     have c10b0 : decide (0 <= x5_2) = true := decide_eq_true c10
     clear c10
     obtain ⟨y391, hy391⟩ : ∃ y_ : List ByteArray, y_ = (([rdOf ByteArray.empty t387 x5_2] : List ByteArray)) := ⟨_, rfl⟩
     replace H : ((r_paths.f k2 l0 y391 x4_1).bind fun t394 => (if (t394.length : Int) > 0 then (some t394) else (r_Cycle.l1 k2 l0 t387 x4_1 (wrap64 (x5_2 + 1))))) = some r := by first | (rw [hy391]; with_reducible exact H) | (have H2_ := (Option.bind_some _ _).symm.trans H; rw [hy391]; with_reducible exact H2_) | (have H2_ := (Option.bind_some _ _).symm.trans H; with_reducible exact H2_) | with_reducible exact H | (rw [hy391]; exact H) | exact H
     have Ny391 := aM hy391
     clear hy391
     replace H := Option.bind_eq_some_iff.mp H
     obtain ⟨t394, A110, H⟩ := H
     try dsimp only at H
     have A11 := aM A110
     clear A110
     by_cases c12 : (t394.length : Int) > 0
     · rw [if_pos c12] at H
       have c12b0 : decide (0 < (t394.length : Int)) = true := decide_eq_true c12
       have c12b1 : decide (0 < t394.length) = true := decide_eq_true (by omega)
       clear c12
       obtain rfl := Option.some.inj H
       have p390 : 0 <= (x5_2 : Int) := dt
       have q390 : x5_2 < (t387.length : Int) := dt
       obtain ⟨ad390, e390, hx390_0⟩ := Kd.at_string (R_reads' HO_3.1).2.2 x5_2 p390 q390
       cases e390
       replace p390 := eq_true p390
       replace q390 := eq_true q390
       go_wp2_with (first | ((with_reducible refine gate_dst (N := 30) rfl ?_); refine R_lit Kd.string _ 9 ?hg (N := 30) ?hd (xs := ([rdOf ByteArray.empty t387 x5_2] : List ByteArray)) (inner := [.string (rdOf ByteArray.empty t387 x5_2)]) (ok := fun _ => True) (okp := fun _ => True) ?hr ?hp (fun _ hk => hk) trivial (Below.refl _ _) (Nat.le_refl _) (by simp) ?_; (case hd => rfl); (case hg => rfl); (case hr => first | (go_simp; done) | (go_simp; rfl)); (case hp => exact (Reps.one (show Kd.M Kd.string _ _ _ (rdOf ByteArray.empty t387 x5_2) [.string (rdOf ByteArray.empty t387 x5_2)] from rfl) (Reps.none _ _))); intro v392 w13 ho14 hb hg_ hnew_; clear hg_ hnew_; (first | rw [<- Ny391.1] at ho14 | (simp only [Int.reduceToNat] at ho14; rw [<- Ny391.1] at ho14)); have HO393 := aM (R_lower (R_new' ho14 (R_lt (rk HO_3))) (below_size (hh HB))); replace HO_3 := aM (R_elder' (rk HO_3) (R_base ho14) hb); replace HB := bs HB hb; clear hb ho14; obtain ⟨Ao15, co15, eo15⟩ := R_slice HO393.1; subst eo15) | ((with_reducible refine gate_callee (f := 37) rfl ?_); refine gL (some 32) rfl rfl Try.func37 (by kernel_rfl) rfl #[.slice A0 l0.length c0, .slice Ao15 y391.length co15, .int .i64 x4_1] rfl ?_; (with_reducible refine (r_paths.calls k2 _ _ l0 (fun k_ => some k_ = (.slice Ao15 y391.length co15 : Value).ownBlock) (.slice Ao15 y391.length co15) y391 x4_1 t394 w _ ?side1 ?side2 ?side3 ?side4 A11.1).mono ?_); (case side1 => repeat (first | (with_reducible first | exact HB.1 | apply bA | apply bN | apply bD) | exact HB.1)); (case side2 => exact C_kept_came k42_heap HR0.1 (hh HB) (fun k_ hs_ => (fun e_ => R_base HO393.1 k_ e_.symm) hs_)); (case side3 => exact HC0.1); (case side4 => exact R_tight rfl HO393.1); rintro e w16 ⟨v395, rfl, ho0, hb, hkp⟩; refine ⟨_, rfl, ?_⟩; have HO396 := aM (R_mono (ok' := fun k_ => some k_ ≠ (.slice (some ad390) t387.length co8 : Value).ownBlock) ho0 (fun k_ hk_ => Or.elim hk_ (fun hs_ => fun e_ => (((HO_3.1).1 k_ e_.symm).2) hs_) (fun hn_ => (Kd.fresh' (R_lt (rk HO_3)) k_ hn_)))); replace HO_3 := aM (R_mono (ok' := fun k_ => some k_ ≠ (v395 : Value).ownBlock) (R_keptB (HO_3.1) hkp (fun k_ hk_ hs_ => (hk_.2) hs_)) (fun k_ hk_ => fun e_ => Or.elim (ho0.1 k_ e_.symm) (fun hs_ => hk_.2.1 hs_) (fun hn_ => Nat.not_le.2 hk_.2.2 hn_))); replace HB := aM (hb); clear HO393; clear hb hkp ho0; obtain ⟨Ao17, co17, eo17⟩ := R_slice HO396.1; subst eo17))
       go_ret
       exact ⟨_, by first | rfl | (simp [errW_none, errW_some] <;> rfl) | (simp [*, errW_none, errW_some] <;> rfl), rz (R_mono HO396.1 (fun _ hk => trivial)), hh HB⟩
     rw [if_neg c12] at H
     have c12b0 : decide (0 < (t394.length : Int)) = false := decide_eq_false c12
     have c12b1 : decide (0 < t394.length) = false := decide_eq_false (by omega)
     clear c12
     have H' := aM H
     clear H
     have p390 : 0 <= (x5_2 : Int) := dt
     have q390 : x5_2 < (t387.length : Int) := dt
     obtain ⟨ad390, e390, hx390_0⟩ := Kd.at_string (R_reads' HO_3.1).2.2 x5_2 p390 q390
     cases e390
     replace p390 := eq_true p390
     replace q390 := eq_true q390
     go_wp2_with (first | ((with_reducible refine gate_dst (N := 30) rfl ?_); refine R_lit Kd.string _ 9 ?hg (N := 30) ?hd (xs := ([rdOf ByteArray.empty t387 x5_2] : List ByteArray)) (inner := [.string (rdOf ByteArray.empty t387 x5_2)]) (ok := fun _ => True) (okp := fun _ => True) ?hr ?hp (fun _ hk => hk) trivial (Below.refl _ _) (Nat.le_refl _) (by simp) ?_; (case hd => rfl); (case hg => rfl); (case hr => first | (go_simp; done) | (go_simp; rfl)); (case hp => exact (Reps.one (show Kd.M Kd.string _ _ _ (rdOf ByteArray.empty t387 x5_2) [.string (rdOf ByteArray.empty t387 x5_2)] from rfl) (Reps.none _ _))); intro v392 w18 ho19 hb hg_ hnew_; clear hg_ hnew_; (first | rw [<- Ny391.1] at ho19 | (simp only [Int.reduceToNat] at ho19; rw [<- Ny391.1] at ho19)); have HO393 := aM (R_lower (R_new' ho19 (R_lt (rk HO_3))) (below_size (hh HB))); replace HO_3 := aM (R_elder' (rk HO_3) (R_base ho19) hb); replace HB := bs HB hb; clear hb ho19; obtain ⟨Ao20, co20, eo20⟩ := R_slice HO393.1; subst eo20) | ((with_reducible refine gate_callee (f := 37) rfl ?_); refine gL (some 32) rfl rfl Try.func37 (by kernel_rfl) rfl #[.slice A0 l0.length c0, .slice Ao20 y391.length co20, .int .i64 x4_1] rfl ?_; (with_reducible refine (r_paths.calls k2 _ _ l0 (fun k_ => some k_ = (.slice Ao20 y391.length co20 : Value).ownBlock) (.slice Ao20 y391.length co20) y391 x4_1 t394 w _ ?side1 ?side2 ?side3 ?side4 A11.1).mono ?_); (case side1 => repeat (first | (with_reducible first | exact HB.1 | apply bA | apply bN | apply bD) | exact HB.1)); (case side2 => exact C_kept_came k42_heap HR0.1 (hh HB) (fun k_ hs_ => (fun e_ => R_base HO393.1 k_ e_.symm) hs_)); (case side3 => exact HC0.1); (case side4 => exact R_tight rfl HO393.1); rintro e w21 ⟨v395, rfl, ho0, hb, hkp⟩; refine ⟨_, rfl, ?_⟩; have HO396 := aM (R_mono (ok' := fun k_ => some k_ ≠ (.slice (some ad390) t387.length co8 : Value).ownBlock) ho0 (fun k_ hk_ => Or.elim hk_ (fun hs_ => fun e_ => (((HO_3.1).1 k_ e_.symm).2) hs_) (fun hn_ => (Kd.fresh' (R_lt (rk HO_3)) k_ hn_)))); replace HO_3 := aM (R_mono (ok' := fun k_ => some k_ ≠ (v395 : Value).ownBlock) (R_keptB (HO_3.1) hkp (fun k_ hk_ hs_ => (hk_.2) hs_)) (fun k_ hk_ => fun e_ => Or.elim (ho0.1 k_ e_.symm) (fun hs_ => hk_.2.1 hs_) (fun hn_ => Nat.not_le.2 hk_.2.2 hn_))); replace HB := aM (hb); clear HO393; clear hb hkp ho0; obtain ⟨Ao22, co22, eo22⟩ := R_slice HO396.1; subst eo22))
     go_roundg k2
     case measure => have := HK1.1; have := HK2.1; omega
     case rel => exact ⟨(wrap64 (x5_2 + 1)), rr, H', ⟨by have := HK1.1; have := HK2.1; omega⟩, ⟨rz (R_mono HO_3.1 (fun _ hk => trivial))⟩, ⟨hh HB⟩⟩
noncomputable def r_fault.f (k : Nat) (l0 : List (S42)) : Option (Int × ByteArray × Int × Int) := (r_consistent.f k l0).bind fun bt398 => (if bt398.1 = 0 then ((r_Cycle.f k l0).bind fun t403 => (if (t403.length : Int) > 0 then (if 0 < (t403.length : Int) then (some (18, rdOf ByteArray.empty t403 0, 0, 0)) else (none)) else (some (bt398.1, bt398.2.1, bt398.2.2.1, bt398.2.2.2)))) else (some (bt398.1, bt398.2.1, bt398.2.2.1, bt398.2.2.2)))
theorem r_fault.calls (k : Nat) (A0 : Option Addr) (c0 : Nat) (l0 : List (S42)) (r1 : Int) (r2 : ByteArray) (r3 : Int) (r4 : Int) (w : World) (hr0 : Kd.C k42 w A0 l0.length l0) (hc0 : l0.length <= c0) (h : r_fault.f k l0 = some (r1, r2, r3, r4)) :
 Calls Try.prog 27 #[.slice A0 l0.length c0] w fun e w' => e = .returned (.agg #[.int .i64 r1, .string r2, .int .i64 r3, .int .i64 r4]) /\ Below w.heap.size w w' := by
 have hu28 := Try.underlying28
 have HR0 := aM hr0
 have HC0 := aM hc0
 clear hr0 hc0
 have HB := aM (Below.refl w.heap.size w)
 have H : ((r_consistent.f k l0).bind fun bt398 => (if bt398.1 = 0 then ((r_Cycle.f k l0).bind fun t403 => (if (t403.length : Int) > 0 then (if 0 < (t403.length : Int) then (some (18, rdOf ByteArray.empty t403 0, 0, 0)) else (none)) else (some (bt398.1, bt398.2.1, bt398.2.2.1, bt398.2.2.2)))) else (some (bt398.1, bt398.2.1, bt398.2.2.1, bt398.2.2.2)))) = some (r1, r2, r3, r4) := h
 clear h
 replace H := Option.bind_eq_some_iff.mp H
 obtain ⟨⟨t398, t399, t400, t401⟩, A20, H⟩ := H
 replace H : (if t398 = 0 then ((r_Cycle.f k l0).bind fun t403 => (if (t403.length : Int) > 0 then (if 0 < (t403.length : Int) then (some (18, rdOf ByteArray.empty t403 0, 0, 0)) else (none)) else (some (t398, t399, t400, t401)))) else (some (t398, t399, t400, t401))) = some (r1, r2, r3, r4) := H
 have A2 := aM A20
 clear A20
 by_cases c3 : t398 = 0
 rotate_left
 · rw [if_neg c3] at H
   have c3b0 : (t398 == 0) = false := beq_eq_false_iff_ne.mpr c3
   have c3b1 : (t398 != 0) = true := bne_iff_ne.mpr c3
   simp only [Option.some.injEq, Prod.mk.injEq] at H
   obtain ⟨rfl, rfl, rfl, rfl⟩ := H
   go_enter Try.func27, Try.ntmps27
   go_wp2_with (first | ((with_reducible refine gate_dst (N := 2) rfl ?_); refine be 2 rfl rfl #[.int .i64 0, .string (⟨#[]⟩ : ByteArray), .int .i64 0, .int .i64 0] 28 ?_; intro gb397 hg w24 hbox hb; have BK397 := aM hbox; have GE397 := gs hg HB; replace HB := bs HB hb; clear hb hbox hg) | ((with_reducible refine gate_callee (f := 36) rfl ?_); refine gL (some 6) rfl rfl Try.func36 (by kernel_rfl) rfl #[.slice A0 l0.length c0] rfl ?_; (with_reducible refine (r_consistent.calls k _ _ l0 t398 t399 t400 t401 _ ?side1 ?side2 A2.1).mono ?_); (case side1 => exact cb HR0 HB); (case side2 => exact HC0.1); rintro e w25 ⟨rfl, hb⟩; refine ⟨_, rfl, ?_⟩; replace BK397 := kb BK397 hb; replace HB := bs HB hb; clear hb) | ((with_reducible refine gate_dst (N := 3) rfl ?_); refine be 3 rfl rfl #[.int .i64 0, .string (⟨#[]⟩ : ByteArray), .int .i64 0, .int .i64 0] 28 ?_; intro gb402 hg w26 hbox hb; have BK402 := aM hbox; have GE402 := gs hg HB; have NB397_402 := nl hg BK397; have NB402_397 := nr hg BK397; replace BK397 := kb BK397 hb; replace HB := bs HB hb; clear hb hbox hg; have hnb27 := NB402_397.1; have hnc27 := NB397_402.1; obtain ⟨hcz28_0, hcz28_1, hcz28_2, hcz28_3⟩ := cz BK402; obtain ⟨hfz28_0, hfz28_1, hfz28_2, hfz28_3⟩ := fz BK402; obtain ⟨hcz29_0, hcz29_1, hcz29_2, hcz29_3⟩ := cz BK397; obtain ⟨hfz29_0, hfz29_1, hfz29_2, hfz29_3⟩ := fz BK397))
   refine bodyPost_ret (results_cell_row rfl _ _ gb397 28 #[.int .i64 t398, .string t399, .int .i64 t400, .int .i64 t401] (0, 0) _ rfl (kf BK397) Try.underlying28 rfl (by kernel_rfl)) rfl ?_
   exact ⟨by first | rfl | (simp [errW_none, errW_some] <;> rfl) | (simp [*, errW_none, errW_some] <;> rfl), hh HB⟩
 rw [if_pos c3] at H
 have c3b0 : (t398 == 0) = true := beq_iff_eq.mpr c3
 have c3b1 : (t398 != 0) = false := bne_eq_false_iff_eq.mpr c3
 clear c3
 replace H := Option.bind_eq_some_iff.mp H
 obtain ⟨t403, A40, H⟩ := H
 replace H : (if (t403.length : Int) > 0 then (if 0 < (t403.length : Int) then (some (18, rdOf ByteArray.empty t403 0, 0, 0)) else (none)) else (some (t398, t399, t400, t401))) = some (r1, r2, r3, r4) := H
 have A4 := aM A40
 clear A40
 by_cases c5 : (t403.length : Int) > 0
 rotate_left
 · rw [if_neg c5] at H
   have c5b0 : decide (0 < (t403.length : Int)) = false := decide_eq_false c5
   have c5b1 : decide (0 < t403.length) = false := decide_eq_false (by omega)
   clear c5
   simp only [Option.some.injEq, Prod.mk.injEq] at H
   obtain ⟨rfl, rfl, rfl, rfl⟩ := H
   go_enter Try.func27, Try.ntmps27
   go_wp2_with (first | ((with_reducible refine gate_dst (N := 2) rfl ?_); refine be 2 rfl rfl #[.int .i64 0, .string (⟨#[]⟩ : ByteArray), .int .i64 0, .int .i64 0] 28 ?_; intro gb397 hg w15 hbox hb; have BK397 := aM hbox; have GE397 := gs hg HB; replace HB := bs HB hb; clear hb hbox hg) | ((with_reducible refine gate_callee (f := 36) rfl ?_); refine gL (some 6) rfl rfl Try.func36 (by kernel_rfl) rfl #[.slice A0 l0.length c0] rfl ?_; (with_reducible refine (r_consistent.calls k _ _ l0 t398 t399 t400 t401 _ ?side1 ?side2 A2.1).mono ?_); (case side1 => exact cb HR0 HB); (case side2 => exact HC0.1); rintro e w16 ⟨rfl, hb⟩; refine ⟨_, rfl, ?_⟩; replace BK397 := kb BK397 hb; replace HB := bs HB hb; clear hb) | ((with_reducible refine gate_dst (N := 3) rfl ?_); refine be 3 rfl rfl #[.int .i64 0, .string (⟨#[]⟩ : ByteArray), .int .i64 0, .int .i64 0] 28 ?_; intro gb402 hg w17 hbox hb; have BK402 := aM hbox; have GE402 := gs hg HB; have NB397_402 := nl hg BK397; have NB402_397 := nr hg BK397; replace BK397 := kb BK397 hb; replace HB := bs HB hb; clear hb hbox hg; have hnb18 := NB402_397.1; have hnc18 := NB397_402.1; obtain ⟨hcz19_0, hcz19_1, hcz19_2, hcz19_3⟩ := cz BK402; obtain ⟨hfz19_0, hfz19_1, hfz19_2, hfz19_3⟩ := fz BK402) | ((with_reducible refine gate_callee (f := 20) rfl ?_); refine gL (some 12) rfl rfl Try.func20 (by kernel_rfl) rfl #[.slice A0 l0.length c0] rfl ?_; (with_reducible refine (r_Cycle.calls k _ _ l0 t403 _ ?side1 ?side2 A4.1).mono ?_); (case side1 => exact C_below HR0.1 (hh HB)); (case side2 => exact HC0.1); rintro e w20 ⟨v404, rfl, ho0, hb⟩; refine ⟨_, rfl, ?_⟩; have HO405 := aM (R_lower ho0 (below_size (hh HB))); replace BK397 := kg (o' := .cells #[.int .i64 0, .string (⟨#[]⟩ : ByteArray), .int .i64 0, .int .i64 0] 28 (0, 0)) BK397 hb; replace BK402 := kg (o' := .cells #[.int .i64 t398, .string t399, .int .i64 t400, .int .i64 t401] 28 (0, 0)) BK402 hb; replace HB := bs HB hb; clear hb ho0; obtain ⟨Ao21, co21, eo21⟩ := R_slice HO405.1; subst eo21; obtain ⟨hcz22_0, hcz22_1, hcz22_2, hcz22_3⟩ := cz BK402; obtain ⟨hfz22_0, hfz22_1, hfz22_2, hfz22_3⟩ := fz BK402; obtain ⟨hcz23_0, hcz23_1, hcz23_2, hcz23_3⟩ := cz BK397; obtain ⟨hfz23_0, hfz23_1, hfz23_2, hfz23_3⟩ := fz BK397))
   refine bodyPost_ret (results_cell_row rfl _ _ gb397 28 #[.int .i64 t398, .string t399, .int .i64 t400, .int .i64 t401] (0, 0) _ rfl (kf BK397) Try.underlying28 rfl (by kernel_rfl)) rfl ?_
   exact ⟨by first | rfl | (simp [errW_none, errW_some] <;> rfl) | (simp [*, errW_none, errW_some] <;> rfl), hh HB⟩
 rw [if_pos c5] at H
 have c5b0 : decide (0 < (t403.length : Int)) = true := decide_eq_true c5
 have c5b1 : decide (0 < t403.length) = true := decide_eq_true (by omega)
 clear c5
 by_cases c6 : 0 < (t403.length : Int)
 rotate_left
 · rw [if_neg c6] at H
   exact absurd H (by simp)
 rw [if_pos c6] at H
 have c6b0 : decide (0 < (t403.length : Int)) = true := decide_eq_true c6
 have c6b1 : decide (0 < t403.length) = true := decide_eq_true (by omega)
 clear c6
 simp only [Option.some.injEq, Prod.mk.injEq] at H
 obtain ⟨rfl, rfl, rfl, rfl⟩ := H
 go_enter Try.func27, Try.ntmps27
 go_wp2_with (first | ((with_reducible refine gate_dst (N := 2) rfl ?_); refine be 2 rfl rfl #[.int .i64 0, .string (⟨#[]⟩ : ByteArray), .int .i64 0, .int .i64 0] 28 ?_; intro gb397 hg w7 hbox hb; have BK397 := aM hbox; have GE397 := gs hg HB; replace HB := bs HB hb; clear hb hbox hg) | ((with_reducible refine gate_callee (f := 36) rfl ?_); refine gL (some 6) rfl rfl Try.func36 (by kernel_rfl) rfl #[.slice A0 l0.length c0] rfl ?_; (with_reducible refine (r_consistent.calls k _ _ l0 t398 t399 t400 t401 _ ?side1 ?side2 A2.1).mono ?_); (case side1 => exact cb HR0 HB); (case side2 => exact HC0.1); rintro e w8 ⟨rfl, hb⟩; refine ⟨_, rfl, ?_⟩; replace BK397 := kb BK397 hb; replace HB := bs HB hb; clear hb) | ((with_reducible refine gate_dst (N := 3) rfl ?_); refine be 3 rfl rfl #[.int .i64 0, .string (⟨#[]⟩ : ByteArray), .int .i64 0, .int .i64 0] 28 ?_; intro gb402 hg w9 hbox hb; have BK402 := aM hbox; have GE402 := gs hg HB; have NB397_402 := nl hg BK397; have NB402_397 := nr hg BK397; replace BK397 := kb BK397 hb; replace HB := bs HB hb; clear hb hbox hg; have hnb10 := NB402_397.1; have hnc10 := NB397_402.1; obtain ⟨hcz11_0, hcz11_1, hcz11_2, hcz11_3⟩ := cz BK402; obtain ⟨hfz11_0, hfz11_1, hfz11_2, hfz11_3⟩ := fz BK402) | ((with_reducible refine gate_callee (f := 20) rfl ?_); refine gL (some 12) rfl rfl Try.func20 (by kernel_rfl) rfl #[.slice A0 l0.length c0] rfl ?_; (with_reducible refine (r_Cycle.calls k _ _ l0 t403 _ ?side1 ?side2 A4.1).mono ?_); (case side1 => exact C_below HR0.1 (hh HB)); (case side2 => exact HC0.1); rintro e w12 ⟨v404, rfl, ho0, hb⟩; refine ⟨_, rfl, ?_⟩; have HO405 := aM (R_lower ho0 (below_size (hh HB))); replace BK397 := kg (o' := .cells #[.int .i64 0, .string (⟨#[]⟩ : ByteArray), .int .i64 0, .int .i64 0] 28 (0, 0)) BK397 hb; replace BK402 := kg (o' := .cells #[.int .i64 t398, .string t399, .int .i64 t400, .int .i64 t401] 28 (0, 0)) BK402 hb; replace HB := bs HB hb; clear hb ho0; obtain ⟨Ao13, co13, eo13⟩ := R_slice HO405.1; subst eo13; have p406 : 0 <= (0 : Int) := (by omega); have q406 : 0 < (t403.length : Int) := dt; obtain ⟨ad406, e406, hx406_0⟩ := Kd.at_string (R_reads' HO405.1).2.2 0 p406 q406; cases e406; have qi406 : (0 < t403.length) = True := eq_true (by omega); (try rw [show ((0 : Int)).toNat = 0 from rfl] at hx406_0); (try rw [Addr.add_zero'] at hx406_0); replace p406 := eq_true p406; replace q406 := eq_true q406; obtain ⟨hcz14_0, hcz14_1, hcz14_2, hcz14_3⟩ := cz BK397; obtain ⟨hfz14_0, hfz14_1, hfz14_2, hfz14_3⟩ := fz BK397))
 refine bodyPost_ret (results_cell_row rfl _ _ gb397 28 #[.int .i64 18, .string (rdOf ByteArray.empty t403 0), .int .i64 0, .int .i64 0] (0, 0) _ rfl (kf BK397) Try.underlying28 rfl (by kernel_rfl)) rfl ?_
 exact ⟨by first | rfl | (simp [errW_none, errW_some] <;> rfl) | (simp [*, errW_none, errW_some] <;> rfl), hh HB⟩
noncomputable def r_named.f (k : Nat) (l0 : List (S42)) (a1 : ByteArray) : Option (Int × ByteArray × Int × Int) := (r_fault.f k l0).bind fun bt495 => (if bt495.1 = 0 then ((r_Names.f k l0).bind fun t500 => ((q_Has.f k t500 a1).bind fun t503 => (if t503 = true then (some (bt495.1, bt495.2.1, bt495.2.2.1, bt495.2.2.2)) else (some (16, a1, 0, 0))))) else (some (bt495.1, bt495.2.1, bt495.2.2.1, bt495.2.2.2)))
theorem r_named.calls (k : Nat) (A0 : Option Addr) (c0 : Nat) (l0 : List (S42)) (a1 : ByteArray) (r1 : Int) (r2 : ByteArray) (r3 : Int) (r4 : Int) (w : World) (hr0 : Kd.C k42 w A0 l0.length l0) (hc0 : l0.length <= c0) (h : r_named.f k l0 a1 = some (r1, r2, r3, r4)) :
 Calls Try.prog 32 #[.slice A0 l0.length c0, .string a1] w fun e w' => e = .returned (.agg #[.int .i64 r1, .string r2, .int .i64 r3, .int .i64 r4]) /\ Below w.heap.size w w' := by
 have hu28 := Try.underlying28
 have HR0 := aM hr0
 have HC0 := aM hc0
 clear hr0 hc0
 have HB := aM (Below.refl w.heap.size w)
 have H : ((r_fault.f k l0).bind fun bt495 => (if bt495.1 = 0 then ((r_Names.f k l0).bind fun t500 => ((q_Has.f k t500 a1).bind fun t503 => (if t503 = true then (some (bt495.1, bt495.2.1, bt495.2.2.1, bt495.2.2.2)) else (some (16, a1, 0, 0))))) else (some (bt495.1, bt495.2.1, bt495.2.2.1, bt495.2.2.2)))) = some (r1, r2, r3, r4) := h
 clear h
 replace H := Option.bind_eq_some_iff.mp H
 obtain ⟨⟨t495, t496, t497, t498⟩, A30, H⟩ := H
 replace H : (if t495 = 0 then ((r_Names.f k l0).bind fun t500 => ((q_Has.f k t500 a1).bind fun t503 => (if t503 = true then (some (t495, t496, t497, t498)) else (some (16, a1, 0, 0))))) else (some (t495, t496, t497, t498))) = some (r1, r2, r3, r4) := H
 have A3 := aM A30
 clear A30
 by_cases c4 : t495 = 0
 rotate_left
 · rw [if_neg c4] at H
   have c4b0 : (t495 == 0) = false := beq_eq_false_iff_ne.mpr c4
   have c4b1 : (t495 != 0) = true := bne_iff_ne.mpr c4
   simp only [Option.some.injEq, Prod.mk.injEq] at H
   obtain ⟨rfl, rfl, rfl, rfl⟩ := H
   go_enter Try.func32, Try.ntmps32
   go_wp2_with (first | ((with_reducible refine gate_dst (N := 4) rfl ?_); refine be 4 rfl rfl #[.int .i64 0, .string (⟨#[]⟩ : ByteArray), .int .i64 0, .int .i64 0] 28 ?_; intro gb494 hg w25 hbox hb; have BK494 := aM hbox; have GE494 := gs hg HB; replace HB := bs HB hb; clear hb hbox hg) | ((with_reducible refine gate_callee (f := 27) rfl ?_); refine gL (some 7) rfl rfl Try.func27 (by kernel_rfl) rfl #[.slice A0 l0.length c0] rfl ?_; (with_reducible refine (r_fault.calls k _ _ l0 t495 t496 t497 t498 _ ?side1 ?side2 A3.1).mono ?_); (case side1 => exact cb HR0 HB); (case side2 => exact HC0.1); rintro e w26 ⟨rfl, hb⟩; refine ⟨_, rfl, ?_⟩; replace BK494 := kb BK494 hb; replace HB := bs HB hb; clear hb) | ((with_reducible refine gate_dst (N := 5) rfl ?_); refine be 5 rfl rfl #[.int .i64 0, .string (⟨#[]⟩ : ByteArray), .int .i64 0, .int .i64 0] 28 ?_; intro gb499 hg w27 hbox hb; have BK499 := aM hbox; have GE499 := gs hg HB; have NB494_499 := nl hg BK494; have NB499_494 := nr hg BK494; replace BK494 := kb BK494 hb; replace HB := bs HB hb; clear hb hbox hg; have hnb28 := NB499_494.1; have hnc28 := NB494_499.1; obtain ⟨hcz29_0, hcz29_1, hcz29_2, hcz29_3⟩ := cz BK499; obtain ⟨hfz29_0, hfz29_1, hfz29_2, hfz29_3⟩ := fz BK499; obtain ⟨hcz30_0, hcz30_1, hcz30_2, hcz30_3⟩ := cz BK494; obtain ⟨hfz30_0, hfz30_1, hfz30_2, hfz30_3⟩ := fz BK494))
   refine bodyPost_ret (results_cell_row rfl _ _ gb494 28 #[.int .i64 t495, .string t496, .int .i64 t497, .int .i64 t498] (0, 0) _ rfl (kf BK494) Try.underlying28 rfl (by kernel_rfl)) rfl ?_
   exact ⟨by first | rfl | (simp [errW_none, errW_some] <;> rfl) | (simp [*, errW_none, errW_some] <;> rfl), hh HB⟩
 rw [if_pos c4] at H
 have c4b0 : (t495 == 0) = true := beq_iff_eq.mpr c4
 have c4b1 : (t495 != 0) = false := bne_eq_false_iff_eq.mpr c4
 clear c4
 replace H := Option.bind_eq_some_iff.mp H
 obtain ⟨t500, A50, H⟩ := H
 replace H : ((q_Has.f k t500 a1).bind fun t503 => (if t503 = true then (some (t495, t496, t497, t498)) else (some (16, a1, 0, 0)))) = some (r1, r2, r3, r4) := H
 have A5 := aM A50
 clear A50
 replace H := Option.bind_eq_some_iff.mp H
 obtain ⟨t503, A60, H⟩ := H
 replace H : (if t503 = true then (some (t495, t496, t497, t498)) else (some (16, a1, 0, 0))) = some (r1, r2, r3, r4) := H
 have A6 := aM A60
 clear A60
 by_cases c7 : t503 = true
 rotate_left
 · replace c7 := Bool.eq_false_iff.mpr c7
   subst c7
   have H1 : (some (16, a1, 0, 0)) = some (r1, r2, r3, r4) := by rw [if_neg (show ¬ (false = true) by decide)] at H; exact H
   clear H
   have H := H1
   clear H1
   simp only [Option.some.injEq, Prod.mk.injEq] at H
   obtain ⟨rfl, rfl, rfl, rfl⟩ := H
   go_enter Try.func32, Try.ntmps32
   go_wp2_with (first | ((with_reducible refine gate_dst (N := 4) rfl ?_); refine be 4 rfl rfl #[.int .i64 0, .string (⟨#[]⟩ : ByteArray), .int .i64 0, .int .i64 0] 28 ?_; intro gb494 hg w17 hbox hb; have BK494 := aM hbox; have GE494 := gs hg HB; replace HB := bs HB hb; clear hb hbox hg) | ((with_reducible refine gate_callee (f := 27) rfl ?_); refine gL (some 7) rfl rfl Try.func27 (by kernel_rfl) rfl #[.slice A0 l0.length c0] rfl ?_; (with_reducible refine (r_fault.calls k _ _ l0 t495 t496 t497 t498 _ ?side1 ?side2 A3.1).mono ?_); (case side1 => exact cb HR0 HB); (case side2 => exact HC0.1); rintro e w18 ⟨rfl, hb⟩; refine ⟨_, rfl, ?_⟩; replace BK494 := kb BK494 hb; replace HB := bs HB hb; clear hb) | ((with_reducible refine gate_dst (N := 5) rfl ?_); refine be 5 rfl rfl #[.int .i64 0, .string (⟨#[]⟩ : ByteArray), .int .i64 0, .int .i64 0] 28 ?_; intro gb499 hg w19 hbox hb; have BK499 := aM hbox; have GE499 := gs hg HB; have NB494_499 := nl hg BK494; have NB499_494 := nr hg BK494; replace BK494 := kb BK494 hb; replace HB := bs HB hb; clear hb hbox hg; have hnb20 := NB499_494.1; have hnc20 := NB494_499.1; obtain ⟨hcz21_0, hcz21_1, hcz21_2, hcz21_3⟩ := cz BK499; obtain ⟨hfz21_0, hfz21_1, hfz21_2, hfz21_3⟩ := fz BK499) | (go_at_call 28; (with_reducible refine (r_Names.calls k _ _ l0 t500 _ ?side1 ?side2 A5.1).mono ?_); (case side1 => exact C_below HR0.1 (hh HB)); (case side2 => exact HC0.1); rintro e w22 ⟨v501, rfl, ho0, hb⟩; have HO502 := aM (R_lower ho0 (below_size (hh HB))); replace BK494 := kg (o' := .cells #[.int .i64 0, .string (⟨#[]⟩ : ByteArray), .int .i64 0, .int .i64 0] 28 (0, 0)) BK494 hb; replace BK499 := kg (o' := .cells #[.int .i64 t495, .string t496, .int .i64 t497, .int .i64 t498] 28 (0, 0)) BK499 hb; replace HB := bs HB hb; clear hb ho0; obtain ⟨Ao23, co23, eo23⟩ := R_slice HO502.1; subst eo23) | (go_at_call 21; (with_reducible refine (q_Has.calls k _ _ t500 a1 false _ ?side1 ?side2 A6.1).mono ?_); (case side1 => exact cr HO502); (case side2 => exact (R_reads' HO502.1).2.1); rintro e w' ⟨rfl, ⟨nd, rfl⟩⟩; (try (rw [drewN_self w22]; generalize hq_ : World.drewN w22 _ = w22; have n0_ : Az (Kd.R Kd.string 9 w22 w.heap.size (fun _ => True) (.slice Ao23 t500.length co23) t500) := ⟨by rw [<- hq_]; exact (rk HO502)⟩; have n1_ : Az (w22.heap[gb494]? = some (.cells #[.int .i64 0, .string (⟨#[]⟩ : ByteArray), .int .i64 0, .int .i64 0] 28 (0, 0))) := ⟨by rw [<- hq_]; exact (kk BK494)⟩; have n2_ : Az (w22.heap[gb499]? = some (.cells #[.int .i64 t495, .string t496, .int .i64 t497, .int .i64 t498] 28 (0, 0))) := ⟨by rw [<- hq_]; exact (kk BK499)⟩; have n3_ : Az (Below w.heap.size w w22) := ⟨by rw [<- hq_]; exact (hh HB)⟩; clear HO502 BK494 BK499 HB hq_; have HO502 := n0_; have BK494 := n1_; have BK499 := n2_; have HB := n3_; clear n0_ n1_ n2_ n3_)); obtain ⟨hcz24_0, hcz24_1, hcz24_2, hcz24_3⟩ := cz BK494; obtain ⟨hfz24_0, hfz24_1, hfz24_2, hfz24_3⟩ := fz BK494))
   refine bodyPost_ret (results_cell_row rfl _ _ gb494 28 #[.int .i64 16, .string a1, .int .i64 0, .int .i64 0] (0, 0) _ rfl (kf BK494) Try.underlying28 rfl (by kernel_rfl)) rfl ?_
   exact ⟨by first | rfl | (simp [errW_none, errW_some] <;> rfl) | (simp [*, errW_none, errW_some] <;> rfl), hh HB⟩
 subst c7
 have H1 : (some (t495, t496, t497, t498)) = some (r1, r2, r3, r4) := by rw [if_pos rfl] at H; exact H
 clear H
 have H := H1
 clear H1
 simp only [Option.some.injEq, Prod.mk.injEq] at H
 obtain ⟨rfl, rfl, rfl, rfl⟩ := H
 go_enter Try.func32, Try.ntmps32
 go_wp2_with (first | ((with_reducible refine gate_dst (N := 4) rfl ?_); refine be 4 rfl rfl #[.int .i64 0, .string (⟨#[]⟩ : ByteArray), .int .i64 0, .int .i64 0] 28 ?_; intro gb494 hg w8 hbox hb; have BK494 := aM hbox; have GE494 := gs hg HB; replace HB := bs HB hb; clear hb hbox hg) | ((with_reducible refine gate_callee (f := 27) rfl ?_); refine gL (some 7) rfl rfl Try.func27 (by kernel_rfl) rfl #[.slice A0 l0.length c0] rfl ?_; (with_reducible refine (r_fault.calls k _ _ l0 t495 t496 t497 t498 _ ?side1 ?side2 A3.1).mono ?_); (case side1 => exact cb HR0 HB); (case side2 => exact HC0.1); rintro e w9 ⟨rfl, hb⟩; refine ⟨_, rfl, ?_⟩; replace BK494 := kb BK494 hb; replace HB := bs HB hb; clear hb) | ((with_reducible refine gate_dst (N := 5) rfl ?_); refine be 5 rfl rfl #[.int .i64 0, .string (⟨#[]⟩ : ByteArray), .int .i64 0, .int .i64 0] 28 ?_; intro gb499 hg w10 hbox hb; have BK499 := aM hbox; have GE499 := gs hg HB; have NB494_499 := nl hg BK494; have NB499_494 := nr hg BK494; replace BK494 := kb BK494 hb; replace HB := bs HB hb; clear hb hbox hg; have hnb11 := NB499_494.1; have hnc11 := NB494_499.1; obtain ⟨hcz12_0, hcz12_1, hcz12_2, hcz12_3⟩ := cz BK499; obtain ⟨hfz12_0, hfz12_1, hfz12_2, hfz12_3⟩ := fz BK499) | (go_at_call 28; (with_reducible refine (r_Names.calls k _ _ l0 t500 _ ?side1 ?side2 A5.1).mono ?_); (case side1 => exact C_below HR0.1 (hh HB)); (case side2 => exact HC0.1); rintro e w13 ⟨v501, rfl, ho0, hb⟩; have HO502 := aM (R_lower ho0 (below_size (hh HB))); replace BK494 := kg (o' := .cells #[.int .i64 0, .string (⟨#[]⟩ : ByteArray), .int .i64 0, .int .i64 0] 28 (0, 0)) BK494 hb; replace BK499 := kg (o' := .cells #[.int .i64 t495, .string t496, .int .i64 t497, .int .i64 t498] 28 (0, 0)) BK499 hb; replace HB := bs HB hb; clear hb ho0; obtain ⟨Ao14, co14, eo14⟩ := R_slice HO502.1; subst eo14) | (go_at_call 21; (with_reducible refine (q_Has.calls k _ _ t500 a1 true _ ?side1 ?side2 A6.1).mono ?_); (case side1 => exact cr HO502); (case side2 => exact (R_reads' HO502.1).2.1); rintro e w' ⟨rfl, ⟨nd, rfl⟩⟩; (try (rw [drewN_self w13]; generalize hq_ : World.drewN w13 _ = w13; have n0_ : Az (Kd.R Kd.string 9 w13 w.heap.size (fun _ => True) (.slice Ao14 t500.length co14) t500) := ⟨by rw [<- hq_]; exact (rk HO502)⟩; have n1_ : Az (w13.heap[gb494]? = some (.cells #[.int .i64 0, .string (⟨#[]⟩ : ByteArray), .int .i64 0, .int .i64 0] 28 (0, 0))) := ⟨by rw [<- hq_]; exact (kk BK494)⟩; have n2_ : Az (w13.heap[gb499]? = some (.cells #[.int .i64 t495, .string t496, .int .i64 t497, .int .i64 t498] 28 (0, 0))) := ⟨by rw [<- hq_]; exact (kk BK499)⟩; have n3_ : Az (Below w.heap.size w w13) := ⟨by rw [<- hq_]; exact (hh HB)⟩; clear HO502 BK494 BK499 HB hq_; have HO502 := n0_; have BK494 := n1_; have BK499 := n2_; have HB := n3_; clear n0_ n1_ n2_ n3_)); obtain ⟨hcz15_0, hcz15_1, hcz15_2, hcz15_3⟩ := cz BK499; obtain ⟨hfz15_0, hfz15_1, hfz15_2, hfz15_3⟩ := fz BK499; obtain ⟨hcz16_0, hcz16_1, hcz16_2, hcz16_3⟩ := cz BK494; obtain ⟨hfz16_0, hfz16_1, hfz16_2, hfz16_3⟩ := fz BK494))
 refine bodyPost_ret (results_cell_row rfl _ _ gb494 28 #[.int .i64 t495, .string t496, .int .i64 t497, .int .i64 t498] (0, 0) _ rfl (kf BK494) Try.underlying28 rfl (by kernel_rfl)) rfl ?_
 exact ⟨by first | rfl | (simp [errW_none, errW_some] <;> rfl) | (simp [*, errW_none, errW_some] <;> rfl), hh HB⟩
mutual
noncomputable def r_reach.l0 : Nat -> List (S42) -> List ByteArray -> List ByteArray -> Int -> Option (List ByteArray)
 | 0, _, _, _, _ => none
 | k + 1, x0, x5, x6, x7 => if x7 < (x6.length : Int) then (if 0 <= x7 then ((r_Insert.f k x5 (rdOf ByteArray.empty x6 x7)).bind fun t508 => ((r_reach.f k x0 (rdOf ByteArray.empty x6 x7)).bind fun t512 => (r_reach.l1 k x0 t508 x6 x7 t512 0))) else (none)) else (some x5)
noncomputable def r_reach.l1 : Nat -> List (S42) -> List ByteArray -> List ByteArray -> Int -> List ByteArray -> Int -> Option (List ByteArray)
 | 0, _, _, _, _, _, _ => none
 | k + 1, x0, x5, x6, x7, x8, x9 => if x9 < (x8.length : Int) then (if 0 <= x9 then ((r_Insert.f k x5 (rdOf ByteArray.empty x8 x9)).bind fun t516 => (r_reach.l1 k x0 t516 x6 x7 x8 (wrap64 (x9 + 1)))) else (none)) else (r_reach.l0 k x0 x5 x6 (wrap64 (x7 + 1)))
noncomputable def r_reach.f : Nat -> List (S42) -> ByteArray -> Option (List ByteArray)
 | 0, _, _ => none
 | k + 1, l0, a1 => (r_Imports.f k l0 a1).bind fun t504 => (r_reach.l0 k l0 ([] : List ByteArray) t504 0)
end
theorem r_reach.calls (k : Nat) : ∀ (A0 : Option Addr) (c0 : Nat) (l0 : List (S42)) (a1 : ByteArray) (r : List ByteArray) (w : World) (hr0 : Kd.C k42 w A0 l0.length l0) (hc0 : l0.length <= c0) (h : r_reach.f k l0 a1 = some r),
 Calls Try.prog 33 #[.slice A0 l0.length c0, .string a1] w fun e w' => ∃ v0_ : Value, e = .returned (v0_) /\ Kd.R Kd.string 9 w' w.heap.size (fun _ => True) v0_ r /\ Below w.heap.size w w' := by
 have hu28 := Try.underlying28
 induction k using Nat.strongRecOn with
 | _ k ih =>
 intro A0 c0 l0 a1 r w hr0 hc0 h
 cases k with
 | zero => exact absurd h (by simp [r_reach.f])
 | succ k =>
 simp only [r_reach.f] at h
 have HR0 := aM hr0
 have HC0 := aM hc0
 clear hr0 hc0
 have HB := aM (Below.refl w.heap.size w)
 have H : ((r_Imports.f k l0 a1).bind fun t504 => (r_reach.l0 k l0 ([] : List ByteArray) t504 0)) = some r := h
 clear h
 replace H := Option.bind_eq_some_iff.mp H
 obtain ⟨t504, A30, H⟩ := H
 try dsimp only at H
 have A3 := aM A30
 clear A30
 have H' := aM H
 clear H
 go_enter Try.func33, Try.ntmps33
 go_wp2_with (first | ((with_reducible refine gate_callee (f := 22) rfl ?_); refine gL (some 12) rfl rfl Try.func22 (by kernel_rfl) rfl #[.slice A0 l0.length c0, .string a1] rfl ?_; (with_reducible refine (r_Imports.calls k _ _ l0 a1 t504 _ ?side1 ?side2 A3.1).mono ?_); (case side1 => exact ck HR0); (case side2 => exact HC0.1); rintro e w4 ⟨v505, rfl, ho0, hb⟩; refine ⟨_, rfl, ?_⟩; have HO506 := aM (R_lower ho0 (below_size (hh HB))); replace HB := bs HB hb; clear hb ho0))
 go_loopg [5, 7] k (fun kq v5 v7 w' => ∃ (x5_1 : List ByteArray) (x7_1 : Int), v7 = .int .i64 x7_1 /\ Az (r_reach.l0 kq l0 x5_1 t504 x7_1 = some r) /\ Az (kq <= k) /\ Az (Kd.R Kd.string 9 w' w.heap.size (fun k_ => some k_ ≠ (v505 : Value).ownBlock) v5 x5_1) /\ Az (Kd.R Kd.string 9 w' w.heap.size (fun k_ => some k_ ≠ (v5 : Value).ownBlock) v505 t504) /\ Az (Below w.heap.size w w'))
 case atStart => exact ⟨(([] : List ByteArray)), (0), rr, H', ⟨Nat.le_refl _⟩, ⟨by first | exact R_nil _ _ _ _ _ | exact N_nil _ _ _ _ _ | exact V_nil _ _ _ _ _ | exact Q_nil _ _ _ _ _ | exact S_nil _ _ _ _ _⟩, ⟨rz (R_mono HO506.1 (fun _ hk => (by simp [Value.ownBlock])))⟩, ⟨hh HB⟩⟩
 case round =>
  clear H'
  obtain ⟨x5_1, x7_1, rfl, HA, HK1, HO_5, HO_6, HB⟩ := hrel
  cases gk with
  | zero => exact absurd HA.1 (by simp [r_reach.l0])
  | succ k1 =>
   have H := HA.1
   clear HA
   simp only [r_reach.l0] at H
   by_cases c5 : x7_1 < (t504.length : Int)
   rotate_left
   · rw [if_neg c5] at H
     have c5b0 : decide (x7_1 < (t504.length : Int)) = false := decide_eq_false c5
     clear c5
     obtain rfl := Option.some.inj H
     obtain ⟨Ao20, co20, eo20⟩ := R_slice HO_6.1
     subst eo20
     go_wp2
     go_ret
     exact ⟨_, by first | rfl | (simp [errW_none, errW_some] <;> rfl) | (simp [*, errW_none, errW_some] <;> rfl), rz (R_mono HO_5.1 (fun _ hk => trivial)), hh HB⟩
   rw [if_pos c5] at H
   have c5b0 : decide (x7_1 < (t504.length : Int)) = true := decide_eq_true c5
   clear c5
   by_cases c6 : 0 <= x7_1
   rotate_left
   · rw [if_neg c6] at H
     exact absurd H (by simp)
   rw [if_pos c6] at H
   have c6b0 : decide (0 <= x7_1) = true := decide_eq_true c6
   clear c6
   replace H := Option.bind_eq_some_iff.mp H
   obtain ⟨t508, A70, H⟩ := H
   try dsimp only at H
   have A7 := aM A70
   clear A70
   replace H := Option.bind_eq_some_iff.mp H
   obtain ⟨t512, A80, H⟩ := H
   try dsimp only at H
   have A8 := aM A80
   clear A80
   have H' := aM H
   clear H
   obtain ⟨Ao9, co9, eo9⟩ := R_slice HO_6.1
   subst eo9
   have p507 : 0 <= (x7_1 : Int) := dt
   have q507 : x7_1 < (t504.length : Int) := dt
   obtain ⟨ad507, e507, hx507_0⟩ := Kd.at_string (R_reads' HO_6.1).2.2 x7_1 p507 q507
   cases e507
   replace p507 := eq_true p507
   replace q507 := eq_true q507
   obtain ⟨Ao10, co10, eo10⟩ := R_slice HO_5.1
   subst eo10
   go_wp2_with (first | ((with_reducible refine gate_callee (f := 38) rfl ?_); refine gL (some 24) rfl rfl Try.func38 (by kernel_rfl) rfl #[.slice Ao10 x5_1.length co10, .string (rdOf ByteArray.empty t504 x7_1)] rfl ?_; (with_reducible refine (r_Insert.calls k1 _ _ x5_1 (rdOf ByteArray.empty t504 x7_1) t508 _ ?side1 ?side2 A7.1).mono ?_); (case side1 => exact cr HO_5); (case side2 => exact (R_reads' HO_5.1).2.1); rintro e w11 ⟨v509, rfl, ho0, hb⟩; refine ⟨_, rfl, ?_⟩; have HO510 := aM (R_lower (R_new' (R_new' ho0 (R_lt (rk HO_5))) (R_lt (rk HO_6))) (below_size (hh HB))); replace HO_5 := aM (R_elder' (rk HO_5) (R_base ho0) hb); replace HO_6 := aM (R_elder' (rk HO_6) (R_base ho0) hb); replace HB := bs HB hb; clear hb ho0; have p511 : 0 <= (x7_1 : Int) := dt; have q511 : x7_1 < (t504.length : Int) := dt; obtain ⟨ad511, e511, hx511_0⟩ := Kd.at_string (R_reads' HO_6.1).2.2 x7_1 p511 q511; obtain rfl : ad507 = ad511 := (by injection e511); replace p511 := eq_true p511; replace q511 := eq_true q511) | ((with_reducible refine gate_callee (f := 33) rfl ?_); refine gL (some 30) rfl rfl Try.func33 (by kernel_rfl) rfl #[.slice A0 l0.length c0, .string (rdOf ByteArray.empty t504 x7_1)] rfl ?_; (with_reducible refine (ih k1 (by have := HK1.1; omega) _ _ l0 (rdOf ByteArray.empty t504 x7_1) t512 _ ?side1 ?side2 A8.1).mono ?_); (case side1 => exact cb HR0 HB); (case side2 => exact HC0.1); rintro e w12 ⟨v513, rfl, ho0, hb⟩; refine ⟨_, rfl, ?_⟩; have HO514 := aM (R_lower (R_new' (R_new' (R_new' ho0 (R_lt (rk HO_5))) (R_lt (rk HO_6))) (R_lt (rk HO510))) (below_size (hh HB))); replace HO_5 := aM (R_elder' (rk HO_5) (R_base ho0) hb); replace HO_6 := aM (R_elder' (rk HO_6) (R_base ho0) hb); replace HO510 := aM (R_elder' (rk HO510) (R_base ho0) hb); replace HB := bs HB hb; clear hb ho0))
   go_loopg [5, 9] k1 (fun kq v5 v9 w' => ∃ (x5_2 : List ByteArray) (x9_2 : Int), v9 = .int .i64 x9_2 /\ Az (r_reach.l1 kq l0 x5_2 t504 x7_1 t512 x9_2 = some r) /\ Az (kq <= k1) /\ Az (Kd.R Kd.string 9 w' w.heap.size (fun k_ => some k_ ≠ ((.slice (some ad507) t504.length co9) : Value).ownBlock /\ some k_ ≠ (v513 : Value).ownBlock) v5 x5_2) /\ Az (Kd.R Kd.string 9 w' w.heap.size (fun k_ => some k_ ≠ (v5 : Value).ownBlock /\ some k_ ≠ (v513 : Value).ownBlock) (.slice (some ad507) t504.length co9) t504) /\ Az (Kd.R Kd.string 9 w' w.heap.size (fun k_ => some k_ ≠ (v5 : Value).ownBlock /\ some k_ ≠ ((.slice (some ad507) t504.length co9) : Value).ownBlock) v513 t512) /\ Az (Below w.heap.size w w'))
   case atStart => exact ⟨(t508), (0), rr, H', ⟨Nat.le_refl _⟩, ⟨rz (R_mono HO510.1 (fun _ hk => ⟨hk.1.2, hk.2⟩))⟩, ⟨rz (R_mono HO_6.1 (fun _ hk => ⟨hk.1.2, hk.2⟩))⟩, ⟨rz (R_mono HO514.1 (fun _ hk => ⟨hk.2, hk.1.2⟩))⟩, ⟨hh HB⟩⟩
   case round =>
    clear H'
    clear c5b0 c6b0 hx507_0 hx511_0 p507 p511 q507 q511
    obtain ⟨x5_2, x9_2, rfl, HA, HK2, HO_5, HO_6, HO_8, HB⟩ := hrel
    cases gk with
    | zero => exact absurd HA.1 (by simp [r_reach.l1])
    | succ k2 =>
     have H := HA.1
     clear HA
     simp only [r_reach.l1] at H
     by_cases c13 : x9_2 < (t512.length : Int)
     rotate_left
     · rw [if_neg c13] at H
       have c13b0 : decide (x9_2 < (t512.length : Int)) = false := decide_eq_false c13
       clear c13
       have H' := aM H
       clear H
       obtain ⟨Ao19, co19, eo19⟩ := R_slice HO_8.1
       subst eo19
       go_wp2
       go_roundg k2
       case measure => have := HK1.1; have := HK2.1; omega
       case rel => exact ⟨(x5_2), (wrap64 (x7_1 + 1)), rr, H', ⟨by have := HK1.1; have := HK2.1; omega⟩, ⟨rz (R_mono HO_5.1 (fun _ hk => hk.1))⟩, ⟨rz (R_mono HO_6.1 (fun _ hk => hk.1))⟩, ⟨hh HB⟩⟩
     rw [if_pos c13] at H
     have c13b0 : decide (x9_2 < (t512.length : Int)) = true := decide_eq_true c13
     clear c13
     by_cases c14 : 0 <= x9_2
     rotate_left
     · rw [if_neg c14] at H
       exact absurd H (by simp)
     rw [if_pos c14] at H
     have c14b0 : decide (0 <= x9_2) = true := decide_eq_true c14
     clear c14
     replace H := Option.bind_eq_some_iff.mp H
     obtain ⟨t516, A150, H⟩ := H
     try dsimp only at H
     have A15 := aM A150
     clear A150
     have H' := aM H
     clear H
     obtain ⟨Ao16, co16, eo16⟩ := R_slice HO_8.1
     subst eo16
     have p515 : 0 <= (x9_2 : Int) := dt
     have q515 : x9_2 < (t512.length : Int) := dt
     obtain ⟨ad515, e515, hx515_0⟩ := Kd.at_string (R_reads' HO_8.1).2.2 x9_2 p515 q515
     cases e515
     replace p515 := eq_true p515
     replace q515 := eq_true q515
     obtain ⟨Ao17, co17, eo17⟩ := R_slice HO_5.1
     subst eo17
     go_wp2_with (first | ((with_reducible refine gate_callee (f := 38) rfl ?_); refine gL (some 42) rfl rfl Try.func38 (by kernel_rfl) rfl #[.slice Ao17 x5_2.length co17, .string (rdOf ByteArray.empty t512 x9_2)] rfl ?_; (with_reducible refine (r_Insert.calls k2 _ _ x5_2 (rdOf ByteArray.empty t512 x9_2) t516 _ ?side1 ?side2 A15.1).mono ?_); (case side1 => exact cr HO_5); (case side2 => exact (R_reads' HO_5.1).2.1); rintro e w18 ⟨v517, rfl, ho0, hb⟩; refine ⟨_, rfl, ?_⟩; have HO518 := aM (R_lower (R_new' (R_new' (R_new' ho0 (R_lt (rk HO_5))) (R_lt (rk HO_6))) (R_lt (rk HO_8))) (below_size (hh HB))); replace HO_5 := aM (R_elder' (rk HO_5) (R_base ho0) hb); replace HO_6 := aM (R_elder' (rk HO_6) (R_base ho0) hb); replace HO_8 := aM (R_elder' (rk HO_8) (R_base ho0) hb); replace HB := bs HB hb; clear hb ho0))
     go_roundg k2
     case measure => have := HK1.1; have := HK2.1; omega
     case rel => exact ⟨(t516), (wrap64 (x9_2 + 1)), rr, H', ⟨by have := HK1.1; have := HK2.1; omega⟩, ⟨rz (R_mono HO518.1 (fun _ hk => ⟨hk.1.2, hk.2⟩))⟩, ⟨rz (R_mono HO_6.1 (fun _ hk => ⟨hk.2, hk.1.2⟩))⟩, ⟨rz (R_mono HO_8.1 (fun _ hk => ⟨hk.2, hk.1.2⟩))⟩, ⟨hh HB⟩⟩
noncomputable def r_Needs.f (k : Nat) (l0 : List (S42)) (a1 : ByteArray) : Option (List ByteArray × Int × ByteArray × Int × Int) := (r_named.f k l0 a1).bind fun bt520 => (if bt520.1 = 0 then ((r_reach.f k l0 a1).bind fun t525 => (some (t525, bt520.1, bt520.2.1, bt520.2.2.1, bt520.2.2.2))) else (some (([] : List ByteArray), bt520.1, bt520.2.1, bt520.2.2.1, bt520.2.2.2)))
theorem r_Needs.calls (k : Nat) (A0 : Option Addr) (c0 : Nat) (l0 : List (S42)) (a1 : ByteArray) (r1 : List ByteArray) (r2 : Int) (r3 : ByteArray) (r4 : Int) (r5 : Int) (w : World) (hr0 : Kd.C k42 w A0 l0.length l0) (hc0 : l0.length <= c0) (h : r_Needs.f k l0 a1 = some (r1, r2, r3, r4, r5)) :
 Calls Try.prog 16 #[.slice A0 l0.length c0, .string a1] w fun e w' => ∃ v0_ : Value, e = .returned (.tuple #[v0_, .agg #[.int .i64 r2, .string r3, .int .i64 r4, .int .i64 r5]]) /\ Kd.R Kd.string 9 w' w.heap.size (fun _ => True) v0_ r1 /\ Below w.heap.size w w' := by
 have hu28 := Try.underlying28
 have HR0 := aM hr0
 have HC0 := aM hc0
 clear hr0 hc0
 have HB := aM (Below.refl w.heap.size w)
 have H : ((r_named.f k l0 a1).bind fun bt520 => (if bt520.1 = 0 then ((r_reach.f k l0 a1).bind fun t525 => (some (t525, bt520.1, bt520.2.1, bt520.2.2.1, bt520.2.2.2))) else (some (([] : List ByteArray), bt520.1, bt520.2.1, bt520.2.2.1, bt520.2.2.2)))) = some (r1, r2, r3, r4, r5) := h
 clear h
 replace H := Option.bind_eq_some_iff.mp H
 obtain ⟨⟨t520, t521, t522, t523⟩, A30, H⟩ := H
 replace H : (if t520 = 0 then ((r_reach.f k l0 a1).bind fun t525 => (some (t525, t520, t521, t522, t523))) else (some (([] : List ByteArray), t520, t521, t522, t523))) = some (r1, r2, r3, r4, r5) := H
 have A3 := aM A30
 clear A30
 by_cases c4 : t520 = 0
 rotate_left
 · rw [if_neg c4] at H
   have c4b0 : (t520 == 0) = false := beq_eq_false_iff_ne.mpr c4
   have c4b1 : (t520 != 0) = true := bne_iff_ne.mpr c4
   simp only [Option.some.injEq, Prod.mk.injEq] at H
   obtain ⟨rfl, rfl, rfl, rfl, rfl⟩ := H
   go_enter Try.func16, Try.ntmps16
   try go_wp2_with (first | ((with_reducible refine gate_dst (N := 5) rfl ?_); refine be 5 rfl rfl #[.int .i64 0, .string (⟨#[]⟩ : ByteArray), .int .i64 0, .int .i64 0] 28 ?_; intro gb519 hg w18 hbox hb; have BK519 := aM hbox; have GE519 := gs hg HB; replace HB := bs HB hb; clear hb hbox hg) | ((with_reducible refine gate_callee (f := 32) rfl ?_); refine gL (some 9) rfl rfl Try.func32 (by kernel_rfl) rfl #[.slice A0 l0.length c0, .string a1] rfl ?_; (with_reducible refine (r_named.calls k _ _ l0 a1 t520 t521 t522 t523 _ ?side1 ?side2 A3.1).mono ?_); (case side1 => exact cb HR0 HB); (case side2 => exact HC0.1); rintro e w19 ⟨rfl, hb⟩; refine ⟨_, rfl, ?_⟩; replace BK519 := kb BK519 hb; replace HB := bs HB hb; clear hb) | ((with_reducible refine gate_dst (N := 6) rfl ?_); refine be 6 rfl rfl #[.int .i64 0, .string (⟨#[]⟩ : ByteArray), .int .i64 0, .int .i64 0] 28 ?_; intro gb524 hg w20 hbox hb; have BK524 := aM hbox; have GE524 := gs hg HB; have NB519_524 := nl hg BK519; have NB524_519 := nr hg BK519; replace BK519 := kb BK519 hb; replace HB := bs HB hb; clear hb hbox hg; have hnb21 := NB524_519.1; have hnc21 := NB519_524.1; obtain ⟨hcz22_0, hcz22_1, hcz22_2, hcz22_3⟩ := cz BK524; obtain ⟨hfz22_0, hfz22_1, hfz22_2, hfz22_3⟩ := fz BK524))
   have n0_ : Az (((((w20.setCell ⟨gb524, 0, none⟩ (.int .i64 t520)).setCell ⟨gb524, 1, none⟩ (.string t521)).setCell ⟨gb524, 2, none⟩ (.int .i64 t522)).setCell ⟨gb524, 3, none⟩ (.int .i64 t523)).heap[gb519]? = some (.cells #[.int .i64 0, .string (⟨#[]⟩ : ByteArray), .int .i64 0, .int .i64 0] 28 (0, 0))) := ⟨kf BK519⟩
   have n1_ : Az (((((w20.setCell ⟨gb524, 0, none⟩ (.int .i64 t520)).setCell ⟨gb524, 1, none⟩ (.string t521)).setCell ⟨gb524, 2, none⟩ (.int .i64 t522)).setCell ⟨gb524, 3, none⟩ (.int .i64 t523)).heap[gb524]? = some (.cells #[.int .i64 t520, .string t521, .int .i64 t522, .int .i64 t523] 28 (0, 0))) := ⟨kf BK524⟩
   have n2_ : Az (Below w.heap.size w ((((w20.setCell ⟨gb524, 0, none⟩ (.int .i64 t520)).setCell ⟨gb524, 1, none⟩ (.string t521)).setCell ⟨gb524, 2, none⟩ (.int .i64 t522)).setCell ⟨gb524, 3, none⟩ (.int .i64 t523))) := ⟨hh HB⟩
   (clear BK519)
   (clear BK524)
   (clear HB)
   generalize ((((w20.setCell ⟨gb524, 0, none⟩ (.int .i64 t520)).setCell ⟨gb524, 1, none⟩ (.string t521)).setCell ⟨gb524, 2, none⟩ (.int .i64 t522)).setCell ⟨gb524, 3, none⟩ (.int .i64 t523)) = w23 at n0_ n1_ n2_ ⊢
   have BK519 := n0_
   have BK524 := n1_
   have HB := n2_
   clear n0_ n1_ n2_
   replace BK519 := aM (blk_drew BK519.1)
   replace BK524 := aM (blk_drew BK524.1)
   replace HB := aM (below_drew1 HB.1)
   refine start_ (n := 3) (S := fun w' => w'.cell? ⟨gb524, 0, none⟩ = some (.int .i64 t520) /\ w'.cell? ⟨gb524, 1, none⟩ = some (.string t521) /\ w'.cell? ⟨gb524, 2, none⟩ = some (.int .i64 t522) /\ w'.cell? ⟨gb524, 3, none⟩ = some (.int .i64 t523)) (ds := []) #[F_, F_, F_] (by kernel_rfl) rfl rfl ⟨(blk_cell BK524.1 0).trans rfl, (blk_cell BK524.1 1).trans rfl, (blk_cell BK524.1 2).trans rfl, (blk_cell BK524.1 3).trans rfl⟩ (fun hHeld => ?_)
   generalize w23.drew = w24 at BK519 BK524 HB hHeld ⊢
   refine pure_ (i := 1) (N := some 4) (v := ?_) (a' := ?_) #[F_, T_, F_] rfl rfl (by kernel_rfl) (fun _ _ _ h => h) (Or.inl ⟨by rfl, ?_⟩) ?_ ?_
   rotate_left
   · intro w'
     go_simp
     with_reducible rfl
   rotate_left
   · simp only [Act.put, sA, sZ, sS, i64_w, i32_w]
     rfl
   refine take_ (i := 0) (N := some 13) (v := ?_) (a' := ?_) #[T_, T_, F_] rfl rfl (by kernel_rfl) (fun _ _ _ h => h) (Or.inl ⟨by rfl, ?_⟩) hHeld ?_ ?_
   rotate_left
   · rintro w' ⟨s0, s1, s2, s3⟩
     go_simp
     with_reducible rfl
   rotate_left
   · simp only [Act.put, sA, sZ, sS, i64_w, i32_w]
     rfl
   refine one_ (i := 2) (N := none) #[T_, T_, T_] rfl rfl (by kernel_rfl) (by decide) (fun K hK => ?_)
   have hs25 : w24.cell? ⟨gb519, 0, none⟩ = some (.int .i64 0) := (blk_cell BK519.1 0).trans rfl
   have hfs25 := blk_frozen BK519.1 0
   have hns25_1 := NB524_519.1
   have hms25_1 := NB519_524.1
   have hs26 : w24.cell? ⟨gb519, 1, none⟩ = some (.string (⟨#[]⟩ : ByteArray)) := (blk_cell BK519.1 1).trans rfl
   have hfs26 := blk_frozen BK519.1 1
   have hns26_1 := NB524_519.1
   have hms26_1 := NB519_524.1
   have hs27 : w24.cell? ⟨gb519, 2, none⟩ = some (.int .i64 0) := (blk_cell BK519.1 2).trans rfl
   have hfs27 := blk_frozen BK519.1 2
   have hns27_1 := NB524_519.1
   have hms27_1 := NB519_524.1
   have hs28 : w24.cell? ⟨gb519, 3, none⟩ = some (.int .i64 0) := (blk_cell BK519.1 3).trans rfl
   have hfs28 := blk_frozen BK519.1 3
   have hns28_1 := NB524_519.1
   have hms28_1 := NB519_524.1
   refine skip_ (w1 := ?_) (by rfl) rfl ?_ ?_
   rotate_left
   · go_simp
     rfl
   refine hK.out _ _ ⟨((cell_far (p := ⟨gb519, _, none⟩) NB524_519.1 _).trans (((cell_far (p := ⟨gb519, _, none⟩) NB524_519.1 _).trans (((cell_far (p := ⟨gb519, _, none⟩) NB524_519.1 _).trans (((cell_far (p := ⟨gb519, _, none⟩) NB524_519.1 _).trans (hHeld.1)))))))), ((cell_far (p := ⟨gb519, _, none⟩) NB524_519.1 _).trans (((cell_far (p := ⟨gb519, _, none⟩) NB524_519.1 _).trans (((cell_far (p := ⟨gb519, _, none⟩) NB524_519.1 _).trans (((cell_far (p := ⟨gb519, _, none⟩) NB524_519.1 _).trans (hHeld.2.1)))))))), ((cell_far (p := ⟨gb519, _, none⟩) NB524_519.1 _).trans (((cell_far (p := ⟨gb519, _, none⟩) NB524_519.1 _).trans (((cell_far (p := ⟨gb519, _, none⟩) NB524_519.1 _).trans (((cell_far (p := ⟨gb519, _, none⟩) NB524_519.1 _).trans (hHeld.2.2.1)))))))), ((cell_far (p := ⟨gb519, _, none⟩) NB524_519.1 _).trans (((cell_far (p := ⟨gb519, _, none⟩) NB524_519.1 _).trans (((cell_far (p := ⟨gb519, _, none⟩) NB524_519.1 _).trans (((cell_far (p := ⟨gb519, _, none⟩) NB524_519.1 _).trans (hHeld.2.2.2))))))))⟩ (fun hHeld => ?_)
   clear hK K
   refine done_ (by kernel_rfl) ?_
   try go_wp2
   refine bodyPost_ret (results_tc rfl _ _ gb519 28 #[.int .i64 t520, .string t521, .int .i64 t522, .int .i64 t523] (0, 0) _ rfl (kf BK519) Try.underlying28 rfl (by kernel_rfl)) rfl ?_
   exact ⟨_, by first | rfl | (simp [errW_none, errW_some] <;> rfl) | (simp [*, errW_none, errW_some] <;> rfl), by first | exact R_nil _ _ _ _ _ | exact N_nil _ _ _ _ _ | exact V_nil _ _ _ _ _ | exact Q_nil _ _ _ _ _ | exact S_nil _ _ _ _ _, hh HB⟩
 rw [if_pos c4] at H
 have c4b0 : (t520 == 0) = true := beq_iff_eq.mpr c4
 have c4b1 : (t520 != 0) = false := bne_eq_false_iff_eq.mpr c4
 clear c4
 replace H := Option.bind_eq_some_iff.mp H
 obtain ⟨t525, A50, H⟩ := H
 replace H : (some (t525, t520, t521, t522, t523)) = some (r1, r2, r3, r4, r5) := H
 have A5 := aM A50
 clear A50
 simp only [Option.some.injEq, Prod.mk.injEq] at H
 obtain ⟨rfl, rfl, rfl, rfl, rfl⟩ := H
 go_enter Try.func16, Try.ntmps16
 try go_wp2_with (first | ((with_reducible refine gate_dst (N := 5) rfl ?_); refine be 5 rfl rfl #[.int .i64 0, .string (⟨#[]⟩ : ByteArray), .int .i64 0, .int .i64 0] 28 ?_; intro gb519 hg w6 hbox hb; have BK519 := aM hbox; have GE519 := gs hg HB; replace HB := bs HB hb; clear hb hbox hg) | ((with_reducible refine gate_callee (f := 32) rfl ?_); refine gL (some 9) rfl rfl Try.func32 (by kernel_rfl) rfl #[.slice A0 l0.length c0, .string a1] rfl ?_; (with_reducible refine (r_named.calls k _ _ l0 a1 t520 t521 t522 t523 _ ?side1 ?side2 A3.1).mono ?_); (case side1 => exact cb HR0 HB); (case side2 => exact HC0.1); rintro e w7 ⟨rfl, hb⟩; refine ⟨_, rfl, ?_⟩; replace BK519 := kb BK519 hb; replace HB := bs HB hb; clear hb) | ((with_reducible refine gate_dst (N := 6) rfl ?_); refine be 6 rfl rfl #[.int .i64 0, .string (⟨#[]⟩ : ByteArray), .int .i64 0, .int .i64 0] 28 ?_; intro gb524 hg w8 hbox hb; have BK524 := aM hbox; have GE524 := gs hg HB; have NB519_524 := nl hg BK519; have NB524_519 := nr hg BK519; replace BK519 := kb BK519 hb; replace HB := bs HB hb; clear hb hbox hg; have hnb9 := NB524_519.1; have hnc9 := NB519_524.1; obtain ⟨hcz10_0, hcz10_1, hcz10_2, hcz10_3⟩ := cz BK524; obtain ⟨hfz10_0, hfz10_1, hfz10_2, hfz10_3⟩ := fz BK524))
 have n0_ : Az (((((w8.setCell ⟨gb524, 0, none⟩ (.int .i64 t520)).setCell ⟨gb524, 1, none⟩ (.string t521)).setCell ⟨gb524, 2, none⟩ (.int .i64 t522)).setCell ⟨gb524, 3, none⟩ (.int .i64 t523)).heap[gb519]? = some (.cells #[.int .i64 0, .string (⟨#[]⟩ : ByteArray), .int .i64 0, .int .i64 0] 28 (0, 0))) := ⟨kf BK519⟩
 have n1_ : Az (((((w8.setCell ⟨gb524, 0, none⟩ (.int .i64 t520)).setCell ⟨gb524, 1, none⟩ (.string t521)).setCell ⟨gb524, 2, none⟩ (.int .i64 t522)).setCell ⟨gb524, 3, none⟩ (.int .i64 t523)).heap[gb524]? = some (.cells #[.int .i64 t520, .string t521, .int .i64 t522, .int .i64 t523] 28 (0, 0))) := ⟨kf BK524⟩
 have n2_ : Az (Below w.heap.size w ((((w8.setCell ⟨gb524, 0, none⟩ (.int .i64 t520)).setCell ⟨gb524, 1, none⟩ (.string t521)).setCell ⟨gb524, 2, none⟩ (.int .i64 t522)).setCell ⟨gb524, 3, none⟩ (.int .i64 t523))) := ⟨hh HB⟩
 (clear BK519)
 (clear BK524)
 (clear HB)
 generalize ((((w8.setCell ⟨gb524, 0, none⟩ (.int .i64 t520)).setCell ⟨gb524, 1, none⟩ (.string t521)).setCell ⟨gb524, 2, none⟩ (.int .i64 t522)).setCell ⟨gb524, 3, none⟩ (.int .i64 t523)) = w11 at n0_ n1_ n2_ ⊢
 have BK519 := n0_
 have BK524 := n1_
 have HB := n2_
 clear n0_ n1_ n2_
 replace BK519 := aM (blk_drew BK519.1)
 replace BK524 := aM (blk_drew BK524.1)
 replace HB := aM (below_drew1 HB.1)
 refine start_ (n := 6) (S := fun w' => w'.cell? ⟨gb524, 0, none⟩ = some (.int .i64 t520) /\ w'.cell? ⟨gb524, 1, none⟩ = some (.string t521) /\ w'.cell? ⟨gb524, 2, none⟩ = some (.int .i64 t522) /\ w'.cell? ⟨gb524, 3, none⟩ = some (.int .i64 t523)) (ds := []) #[F_, F_, F_, F_, F_, F_] (by kernel_rfl) rfl rfl ⟨(blk_cell BK524.1 0).trans rfl, (blk_cell BK524.1 1).trans rfl, (blk_cell BK524.1 2).trans rfl, (blk_cell BK524.1 3).trans rfl⟩ (fun hHeld => ?_)
 generalize w11.drew = w12 at BK519 BK524 HB hHeld ⊢
 refine pure_ (i := 0) (N := some 14) (v := ?_) (a' := ?_) #[T_, F_, F_, F_, F_, F_] rfl rfl (by kernel_rfl) (fun _ _ _ h => h) (Or.inl ⟨by rfl, ?_⟩) ?_ ?_
 rotate_left
 · intro w'
   go_simp
   with_reducible rfl
 rotate_left
 · simp only [Act.put, sA, sZ, sS, i64_w, i32_w]
   rfl
 refine pure_ (i := 1) (N := some 15) (v := ?_) (a' := ?_) #[T_, T_, F_, F_, F_, F_] rfl rfl (by kernel_rfl) (fun _ _ _ h => h) (Or.inl ⟨by rfl, ?_⟩) ?_ ?_
 rotate_left
 · intro w'
   go_simp
   with_reducible rfl
 rotate_left
 · simp only [Act.put, sA, sZ, sS, i64_w, i32_w]
   rfl
 refine take_ (i := 3) (N := some 17) (v := ?_) (a' := ?_) #[T_, T_, F_, T_, F_, F_] rfl rfl (by kernel_rfl) (fun _ _ _ h => h) (Or.inl ⟨by rfl, ?_⟩) hHeld ?_ ?_
 rotate_left
 · rintro w' ⟨s0, s1, s2, s3⟩
   go_simp
   with_reducible rfl
 rotate_left
 · simp only [Act.put, sA, sZ, sS, i64_w, i32_w]
   rfl
 refine one_ (i := 2) (N := some 16) #[T_, T_, T_, T_, F_, F_] rfl rfl (by kernel_rfl) (by decide) (fun K hK => ?_)
 refine goes_ Try.func33 (by kernel_rfl) rfl #[.slice A0 l0.length c0, .string a1] (by rfl) rfl rfl (by (try simp only [List.map_toArray, List.map_cons, List.map_nil]); first | done | rfl | (simp only [List.length_drop, List.length_take]; rfl)) ?_
 with_reducible refine (r_reach.calls k _ _ l0 a1 t525 _ ?side1 ?side2 A5.1).mono ?_
 (case side1 => exact cb HR0 HB)
 (case side2 => exact HC0.1)
 rintro e w13 ⟨v526, rfl, ho0, hb⟩
 refine ⟨_, rfl, ?_⟩
 have HO527 := aM (R_lower ho0 (below_size (hh HB)))
 replace BK519 := kb BK519 hb
 replace BK524 := kb BK524 hb
 replace HB := bs HB hb
 (clear hb)
 skip
 skip
 skip
 (clear ho0)
 refine hK.out _ _ ⟨(blk_cell BK524.1 0).trans rfl, (blk_cell BK524.1 1).trans rfl, (blk_cell BK524.1 2).trans rfl, (blk_cell BK524.1 3).trans rfl⟩ (fun hHeld => ?_)
 clear hK K
 refine norm_ (a' := ?_) ?_ ?_
 rotate_left
 · show Act.put _ (some 16) _ = _
   simp only [Act.put, sA, sZ, sS, i64_w, i32_w]
   rfl
 refine pure_ (i := 4) (N := some 4) (v := ?_) (a' := ?_) #[T_, T_, T_, T_, T_, F_] rfl rfl (by kernel_rfl) (fun _ _ _ h => h) (Or.inl ⟨by rfl, ?_⟩) ?_ ?_
 rotate_left
 · intro w'
   go_simp
   with_reducible rfl
 rotate_left
 · simp only [Act.put, sA, sZ, sS, i64_w, i32_w]
   rfl
 refine one_ (i := 5) (N := none) #[T_, T_, T_, T_, T_, T_] rfl rfl (by kernel_rfl) (by decide) (fun K hK => ?_)
 have hs14 : w13.cell? ⟨gb519, 0, none⟩ = some (.int .i64 0) := (blk_cell BK519.1 0).trans rfl
 have hfs14 := blk_frozen BK519.1 0
 have hns14_1 := NB524_519.1
 have hms14_1 := NB519_524.1
 have hs15 : w13.cell? ⟨gb519, 1, none⟩ = some (.string (⟨#[]⟩ : ByteArray)) := (blk_cell BK519.1 1).trans rfl
 have hfs15 := blk_frozen BK519.1 1
 have hns15_1 := NB524_519.1
 have hms15_1 := NB519_524.1
 have hs16 : w13.cell? ⟨gb519, 2, none⟩ = some (.int .i64 0) := (blk_cell BK519.1 2).trans rfl
 have hfs16 := blk_frozen BK519.1 2
 have hns16_1 := NB524_519.1
 have hms16_1 := NB519_524.1
 have hs17 : w13.cell? ⟨gb519, 3, none⟩ = some (.int .i64 0) := (blk_cell BK519.1 3).trans rfl
 have hfs17 := blk_frozen BK519.1 3
 have hns17_1 := NB524_519.1
 have hms17_1 := NB519_524.1
 refine skip_ (w1 := ?_) (by rfl) rfl ?_ ?_
 rotate_left
 · go_simp
   rfl
 refine hK.out _ _ ⟨((cell_far (p := ⟨gb519, _, none⟩) NB524_519.1 _).trans (((cell_far (p := ⟨gb519, _, none⟩) NB524_519.1 _).trans (((cell_far (p := ⟨gb519, _, none⟩) NB524_519.1 _).trans (((cell_far (p := ⟨gb519, _, none⟩) NB524_519.1 _).trans (hHeld.1)))))))), ((cell_far (p := ⟨gb519, _, none⟩) NB524_519.1 _).trans (((cell_far (p := ⟨gb519, _, none⟩) NB524_519.1 _).trans (((cell_far (p := ⟨gb519, _, none⟩) NB524_519.1 _).trans (((cell_far (p := ⟨gb519, _, none⟩) NB524_519.1 _).trans (hHeld.2.1)))))))), ((cell_far (p := ⟨gb519, _, none⟩) NB524_519.1 _).trans (((cell_far (p := ⟨gb519, _, none⟩) NB524_519.1 _).trans (((cell_far (p := ⟨gb519, _, none⟩) NB524_519.1 _).trans (((cell_far (p := ⟨gb519, _, none⟩) NB524_519.1 _).trans (hHeld.2.2.1)))))))), ((cell_far (p := ⟨gb519, _, none⟩) NB524_519.1 _).trans (((cell_far (p := ⟨gb519, _, none⟩) NB524_519.1 _).trans (((cell_far (p := ⟨gb519, _, none⟩) NB524_519.1 _).trans (((cell_far (p := ⟨gb519, _, none⟩) NB524_519.1 _).trans (hHeld.2.2.2))))))))⟩ (fun hHeld => ?_)
 clear hK K
 refine done_ (by kernel_rfl) ?_
 try go_wp2
 refine bodyPost_ret (results_tc rfl _ _ gb519 28 #[.int .i64 t520, .string t521, .int .i64 t522, .int .i64 t523] (0, 0) _ rfl (kf BK519) Try.underlying28 rfl (by kernel_rfl)) rfl ?_
 exact ⟨_, by first | rfl | (simp [errW_none, errW_some] <;> rfl) | (simp [*, errW_none, errW_some] <;> rfl), rz (R_mono (R_far (p := ⟨gb519, 3, none⟩) (R_far (p := ⟨gb519, 2, none⟩) (R_far (p := ⟨gb519, 1, none⟩) (R_far (p := ⟨gb519, 0, none⟩) (R_types HO527.1 BK519.1 (by decide)) (fun _ hk => hk.2) (.int .i64 t520)) (fun _ hk => hk.2) (.string t521)) (fun _ hk => hk.2) (.int .i64 t522)) (fun _ hk => hk.2) (.int .i64 t523)) (fun _ hk => trivial)), hh HB⟩
noncomputable def r_Users.l0 : Nat -> List (S42) -> ByteArray -> List ByteArray -> List ByteArray -> Int -> Int -> ByteArray -> Int -> Int -> Option (List ByteArray × Int × ByteArray × Int × Int)
 | 0, _, _, _, _, _, _, _, _, _ => none
 | k + 1, x0, x1, x7, x8, x9, x534000, x534001, x534002, x534003 => if x9 < (x8.length : Int) then (if 0 <= x9 then ((r_reach.f k x0 (rdOf ByteArray.empty x8 x9)).bind fun t538 => ((q_Has.f k t538 x1).bind fun t541 => (if t541 = true then (if x7.length < 8796093022208 then (r_Users.l0 k x0 x1 (x7 ++ [rdOf ByteArray.empty x8 x9]) x8 (wrap64 (x9 + 1)) x534000 x534001 x534002 x534003) else (none)) else (r_Users.l0 k x0 x1 x7 x8 (wrap64 (x9 + 1)) x534000 x534001 x534002 x534003)))) else (none)) else (some (x7, x534000, x534001, x534002, x534003))
noncomputable def r_Users.f (k : Nat) (l0 : List (S42)) (a1 : ByteArray) : Option (List ByteArray × Int × ByteArray × Int × Int) := (r_named.f k l0 a1).bind fun bt529 => (if bt529.1 = 0 then ((r_Names.f k l0).bind fun t534 => (r_Users.l0 k l0 a1 ([] : List ByteArray) t534 0 bt529.1 bt529.2.1 bt529.2.2.1 bt529.2.2.2)) else (some (([] : List ByteArray), bt529.1, bt529.2.1, bt529.2.2.1, bt529.2.2.2)))
theorem r_Users.calls (k : Nat) (A0 : Option Addr) (c0 : Nat) (l0 : List (S42)) (a1 : ByteArray) (r1 : List ByteArray) (r2 : Int) (r3 : ByteArray) (r4 : Int) (r5 : Int) (w : World) (hr0 : Kd.C k42 w A0 l0.length l0) (hc0 : l0.length <= c0) (h : r_Users.f k l0 a1 = some (r1, r2, r3, r4, r5)) :
 Calls Try.prog 18 #[.slice A0 l0.length c0, .string a1] w fun e w' => ∃ v0_ : Value, e = .returned (.tuple #[v0_, .agg #[.int .i64 r2, .string r3, .int .i64 r4, .int .i64 r5]]) /\ Kd.R Kd.string 9 w' w.heap.size (fun _ => True) v0_ r1 /\ Below w.heap.size w w' := by
 have hu28 := Try.underlying28
 have HR0 := aM hr0
 have HC0 := aM hc0
 clear hr0 hc0
 have HB := aM (Below.refl w.heap.size w)
 have H : ((r_named.f k l0 a1).bind fun bt529 => (if bt529.1 = 0 then ((r_Names.f k l0).bind fun t534 => (r_Users.l0 k l0 a1 ([] : List ByteArray) t534 0 bt529.1 bt529.2.1 bt529.2.2.1 bt529.2.2.2)) else (some (([] : List ByteArray), bt529.1, bt529.2.1, bt529.2.2.1, bt529.2.2.2)))) = some (r1, r2, r3, r4, r5) := h
 clear h
 replace H := Option.bind_eq_some_iff.mp H
 obtain ⟨⟨t529, t530, t531, t532⟩, A30, H⟩ := H
 replace H : (if t529 = 0 then ((r_Names.f k l0).bind fun t534 => (r_Users.l0 k l0 a1 ([] : List ByteArray) t534 0 t529 t530 t531 t532)) else (some (([] : List ByteArray), t529, t530, t531, t532))) = some (r1, r2, r3, r4, r5) := H
 have A3 := aM A30
 clear A30
 by_cases c4 : t529 = 0
 rotate_left
 · rw [if_neg c4] at H
   have c4b0 : (t529 == 0) = false := beq_eq_false_iff_ne.mpr c4
   have c4b1 : (t529 != 0) = true := bne_iff_ne.mpr c4
   simp only [Option.some.injEq, Prod.mk.injEq] at H
   obtain ⟨rfl, rfl, rfl, rfl, rfl⟩ := H
   go_enter Try.func18, Try.ntmps18
   try go_wp2_with (first | ((with_reducible refine gate_dst (N := 5) rfl ?_); refine be 5 rfl rfl #[.int .i64 0, .string (⟨#[]⟩ : ByteArray), .int .i64 0, .int .i64 0] 28 ?_; intro gb528 hg w31 hbox hb; have BK528 := aM hbox; have GE528 := gs hg HB; replace HB := bs HB hb; clear hb hbox hg) | ((with_reducible refine gate_callee (f := 32) rfl ?_); refine gL (some 12) rfl rfl Try.func32 (by kernel_rfl) rfl #[.slice A0 l0.length c0, .string a1] rfl ?_; (with_reducible refine (r_named.calls k _ _ l0 a1 t529 t530 t531 t532 _ ?side1 ?side2 A3.1).mono ?_); (case side1 => exact cb HR0 HB); (case side2 => exact HC0.1); rintro e w32 ⟨rfl, hb⟩; refine ⟨_, rfl, ?_⟩; replace BK528 := kb BK528 hb; replace HB := bs HB hb; clear hb) | ((with_reducible refine gate_dst (N := 6) rfl ?_); refine be 6 rfl rfl #[.int .i64 0, .string (⟨#[]⟩ : ByteArray), .int .i64 0, .int .i64 0] 28 ?_; intro gb533 hg w33 hbox hb; have BK533 := aM hbox; have GE533 := gs hg HB; have NB528_533 := nl hg BK528; have NB533_528 := nr hg BK528; replace BK528 := kb BK528 hb; replace HB := bs HB hb; clear hb hbox hg; have hnb34 := NB533_528.1; have hnc34 := NB528_533.1; obtain ⟨hcz35_0, hcz35_1, hcz35_2, hcz35_3⟩ := cz BK533; obtain ⟨hfz35_0, hfz35_1, hfz35_2, hfz35_3⟩ := fz BK533))
   have n0_ : Az (((((w33.setCell ⟨gb533, 0, none⟩ (.int .i64 t529)).setCell ⟨gb533, 1, none⟩ (.string t530)).setCell ⟨gb533, 2, none⟩ (.int .i64 t531)).setCell ⟨gb533, 3, none⟩ (.int .i64 t532)).heap[gb528]? = some (.cells #[.int .i64 0, .string (⟨#[]⟩ : ByteArray), .int .i64 0, .int .i64 0] 28 (0, 0))) := ⟨kf BK528⟩
   have n1_ : Az (((((w33.setCell ⟨gb533, 0, none⟩ (.int .i64 t529)).setCell ⟨gb533, 1, none⟩ (.string t530)).setCell ⟨gb533, 2, none⟩ (.int .i64 t531)).setCell ⟨gb533, 3, none⟩ (.int .i64 t532)).heap[gb533]? = some (.cells #[.int .i64 t529, .string t530, .int .i64 t531, .int .i64 t532] 28 (0, 0))) := ⟨kf BK533⟩
   have n2_ : Az (Below w.heap.size w ((((w33.setCell ⟨gb533, 0, none⟩ (.int .i64 t529)).setCell ⟨gb533, 1, none⟩ (.string t530)).setCell ⟨gb533, 2, none⟩ (.int .i64 t531)).setCell ⟨gb533, 3, none⟩ (.int .i64 t532))) := ⟨hh HB⟩
   (clear BK528)
   (clear BK533)
   (clear HB)
   generalize ((((w33.setCell ⟨gb533, 0, none⟩ (.int .i64 t529)).setCell ⟨gb533, 1, none⟩ (.string t530)).setCell ⟨gb533, 2, none⟩ (.int .i64 t531)).setCell ⟨gb533, 3, none⟩ (.int .i64 t532)) = w36 at n0_ n1_ n2_ ⊢
   have BK528 := n0_
   have BK533 := n1_
   have HB := n2_
   clear n0_ n1_ n2_
   replace BK528 := aM (blk_drew BK528.1)
   replace BK533 := aM (blk_drew BK533.1)
   replace HB := aM (below_drew1 HB.1)
   refine start_ (n := 3) (S := fun w' => w'.cell? ⟨gb533, 0, none⟩ = some (.int .i64 t529) /\ w'.cell? ⟨gb533, 1, none⟩ = some (.string t530) /\ w'.cell? ⟨gb533, 2, none⟩ = some (.int .i64 t531) /\ w'.cell? ⟨gb533, 3, none⟩ = some (.int .i64 t532)) (ds := []) #[F_, F_, F_] (by kernel_rfl) rfl rfl ⟨(blk_cell BK533.1 0).trans rfl, (blk_cell BK533.1 1).trans rfl, (blk_cell BK533.1 2).trans rfl, (blk_cell BK533.1 3).trans rfl⟩ (fun hHeld => ?_)
   generalize w36.drew = w37 at BK528 BK533 HB hHeld ⊢
   refine pure_ (i := 1) (N := some 4) (v := ?_) (a' := ?_) #[F_, T_, F_] rfl rfl (by kernel_rfl) (fun _ _ _ h => h) (Or.inl ⟨by rfl, ?_⟩) ?_ ?_
   rotate_left
   · intro w'
     go_simp
     with_reducible rfl
   rotate_left
   · simp only [Act.put, sA, sZ, sS, i64_w, i32_w]
     rfl
   refine take_ (i := 0) (N := some 16) (v := ?_) (a' := ?_) #[T_, T_, F_] rfl rfl (by kernel_rfl) (fun _ _ _ h => h) (Or.inl ⟨by rfl, ?_⟩) hHeld ?_ ?_
   rotate_left
   · rintro w' ⟨s0, s1, s2, s3⟩
     go_simp
     with_reducible rfl
   rotate_left
   · simp only [Act.put, sA, sZ, sS, i64_w, i32_w]
     rfl
   refine one_ (i := 2) (N := none) #[T_, T_, T_] rfl rfl (by kernel_rfl) (by decide) (fun K hK => ?_)
   have hs38 : w37.cell? ⟨gb528, 0, none⟩ = some (.int .i64 0) := (blk_cell BK528.1 0).trans rfl
   have hfs38 := blk_frozen BK528.1 0
   have hns38_1 := NB533_528.1
   have hms38_1 := NB528_533.1
   have hs39 : w37.cell? ⟨gb528, 1, none⟩ = some (.string (⟨#[]⟩ : ByteArray)) := (blk_cell BK528.1 1).trans rfl
   have hfs39 := blk_frozen BK528.1 1
   have hns39_1 := NB533_528.1
   have hms39_1 := NB528_533.1
   have hs40 : w37.cell? ⟨gb528, 2, none⟩ = some (.int .i64 0) := (blk_cell BK528.1 2).trans rfl
   have hfs40 := blk_frozen BK528.1 2
   have hns40_1 := NB533_528.1
   have hms40_1 := NB528_533.1
   have hs41 : w37.cell? ⟨gb528, 3, none⟩ = some (.int .i64 0) := (blk_cell BK528.1 3).trans rfl
   have hfs41 := blk_frozen BK528.1 3
   have hns41_1 := NB533_528.1
   have hms41_1 := NB528_533.1
   refine skip_ (w1 := ?_) (by rfl) rfl ?_ ?_
   rotate_left
   · go_simp
     rfl
   refine hK.out _ _ ⟨((cell_far (p := ⟨gb528, _, none⟩) NB533_528.1 _).trans (((cell_far (p := ⟨gb528, _, none⟩) NB533_528.1 _).trans (((cell_far (p := ⟨gb528, _, none⟩) NB533_528.1 _).trans (((cell_far (p := ⟨gb528, _, none⟩) NB533_528.1 _).trans (hHeld.1)))))))), ((cell_far (p := ⟨gb528, _, none⟩) NB533_528.1 _).trans (((cell_far (p := ⟨gb528, _, none⟩) NB533_528.1 _).trans (((cell_far (p := ⟨gb528, _, none⟩) NB533_528.1 _).trans (((cell_far (p := ⟨gb528, _, none⟩) NB533_528.1 _).trans (hHeld.2.1)))))))), ((cell_far (p := ⟨gb528, _, none⟩) NB533_528.1 _).trans (((cell_far (p := ⟨gb528, _, none⟩) NB533_528.1 _).trans (((cell_far (p := ⟨gb528, _, none⟩) NB533_528.1 _).trans (((cell_far (p := ⟨gb528, _, none⟩) NB533_528.1 _).trans (hHeld.2.2.1)))))))), ((cell_far (p := ⟨gb528, _, none⟩) NB533_528.1 _).trans (((cell_far (p := ⟨gb528, _, none⟩) NB533_528.1 _).trans (((cell_far (p := ⟨gb528, _, none⟩) NB533_528.1 _).trans (((cell_far (p := ⟨gb528, _, none⟩) NB533_528.1 _).trans (hHeld.2.2.2))))))))⟩ (fun hHeld => ?_)
   clear hK K
   refine done_ (by kernel_rfl) ?_
   try go_wp2
   refine bodyPost_ret (results_tc rfl _ _ gb528 28 #[.int .i64 t529, .string t530, .int .i64 t531, .int .i64 t532] (0, 0) _ rfl (kf BK528) Try.underlying28 rfl (by kernel_rfl)) rfl ?_
   exact ⟨_, by first | rfl | (simp [errW_none, errW_some] <;> rfl) | (simp [*, errW_none, errW_some] <;> rfl), by first | exact R_nil _ _ _ _ _ | exact N_nil _ _ _ _ _ | exact V_nil _ _ _ _ _ | exact Q_nil _ _ _ _ _ | exact S_nil _ _ _ _ _, hh HB⟩
 rw [if_pos c4] at H
 have c4b0 : (t529 == 0) = true := beq_iff_eq.mpr c4
 have c4b1 : (t529 != 0) = false := bne_eq_false_iff_eq.mpr c4
 clear c4
 replace H := Option.bind_eq_some_iff.mp H
 obtain ⟨t534, A50, H⟩ := H
 replace H : (r_Users.l0 k l0 a1 ([] : List ByteArray) t534 0 t529 t530 t531 t532) = some (r1, r2, r3, r4, r5) := H
 have A5 := aM A50
 clear A50
 have H' := aM H
 clear H
 go_enter Try.func18, Try.ntmps18
 go_wp2_with (first | ((with_reducible refine gate_dst (N := 5) rfl ?_); refine be 5 rfl rfl #[.int .i64 0, .string (⟨#[]⟩ : ByteArray), .int .i64 0, .int .i64 0] 28 ?_; intro gb528 hg w6 hbox hb; have BK528 := aM hbox; have GE528 := gs hg HB; replace HB := bs HB hb; clear hb hbox hg) | ((with_reducible refine gate_callee (f := 32) rfl ?_); refine gL (some 12) rfl rfl Try.func32 (by kernel_rfl) rfl #[.slice A0 l0.length c0, .string a1] rfl ?_; (with_reducible refine (r_named.calls k _ _ l0 a1 t529 t530 t531 t532 _ ?side1 ?side2 A3.1).mono ?_); (case side1 => exact cb HR0 HB); (case side2 => exact HC0.1); rintro e w7 ⟨rfl, hb⟩; refine ⟨_, rfl, ?_⟩; replace BK528 := kb BK528 hb; replace HB := bs HB hb; clear hb) | ((with_reducible refine gate_dst (N := 6) rfl ?_); refine be 6 rfl rfl #[.int .i64 0, .string (⟨#[]⟩ : ByteArray), .int .i64 0, .int .i64 0] 28 ?_; intro gb533 hg w8 hbox hb; have BK533 := aM hbox; have GE533 := gs hg HB; have NB528_533 := nl hg BK528; have NB533_528 := nr hg BK528; replace BK528 := kb BK528 hb; replace HB := bs HB hb; clear hb hbox hg; have hnb9 := NB533_528.1; have hnc9 := NB528_533.1; obtain ⟨hcz10_0, hcz10_1, hcz10_2, hcz10_3⟩ := cz BK533; obtain ⟨hfz10_0, hfz10_1, hfz10_2, hfz10_3⟩ := fz BK533) | ((with_reducible refine gate_callee (f := 28) rfl ?_); refine gL (some 18) rfl rfl Try.func28 (by kernel_rfl) rfl #[.slice A0 l0.length c0] rfl ?_; (with_reducible refine (r_Names.calls k _ _ l0 t534 _ ?side1 ?side2 A5.1).mono ?_); (case side1 => exact C_below HR0.1 (hh HB)); (case side2 => exact HC0.1); rintro e w11 ⟨v535, rfl, ho0, hb⟩; refine ⟨_, rfl, ?_⟩; have HO536 := aM (R_lower ho0 (below_size (hh HB))); replace BK528 := kg (o' := .cells #[.int .i64 0, .string (⟨#[]⟩ : ByteArray), .int .i64 0, .int .i64 0] 28 (0, 0)) BK528 hb; replace BK533 := kg (o' := .cells #[.int .i64 t529, .string t530, .int .i64 t531, .int .i64 t532] 28 (0, 0)) BK533 hb; replace HB := bs HB hb; clear hb ho0))
 go_loopg [7, 9] k (fun kq v7 v9 w' => ∃ (x7_1 : List ByteArray) (x9_1 : Int), v9 = .int .i64 x9_1 /\ Az (r_Users.l0 kq l0 a1 x7_1 t534 x9_1 t529 t530 t531 t532 = some (r1, r2, r3, r4, r5)) /\ Az (kq <= k) /\ Az (Kd.R Kd.string 9 w' w.heap.size (fun k_ => some k_ ≠ (v535 : Value).ownBlock) v7 x7_1) /\ Az (Kd.R Kd.string 9 w' w.heap.size (fun k_ => some k_ ≠ (v7 : Value).ownBlock) v535 t534) /\ Az (w'.heap[gb528]? = some (.cells #[.int .i64 0, .string (⟨#[]⟩ : ByteArray), .int .i64 0, .int .i64 0] 28 (0, 0))) /\ Az (w'.heap[gb533]? = some (.cells #[.int .i64 t529, .string t530, .int .i64 t531, .int .i64 t532] 28 (0, 0))) /\ Az (Below w.heap.size w w'))
 case atStart => exact ⟨(([] : List ByteArray)), (0), rr, H', ⟨Nat.le_refl _⟩, ⟨by first | exact R_nil _ _ _ _ _ | exact N_nil _ _ _ _ _ | exact V_nil _ _ _ _ _ | exact Q_nil _ _ _ _ _ | exact S_nil _ _ _ _ _⟩, ⟨rz (R_mono HO536.1 (fun _ hk => (by simp [Value.ownBlock])))⟩, ⟨kk BK528⟩, ⟨kk BK533⟩, ⟨hh HB⟩⟩
 case round =>
  clear H'
  clear c4b0 c4b1 hcz10_0 hcz10_1 hcz10_2 hcz10_3 hfz10_0 hfz10_1 hfz10_2 hfz10_3
  obtain ⟨x7_1, x9_1, rfl, HA, HK1, HO_7, HO_8, BK528, BK533, HB⟩ := hrel
  cases gk with
  | zero => exact absurd HA.1 (by simp [r_Users.l0])
  | succ k1 =>
   have H := HA.1
   clear HA
   simp only [r_Users.l0] at H
   by_cases c12 : x9_1 < (t534.length : Int)
   rotate_left
   · rw [if_neg c12] at H
     have c12b0 : decide (x9_1 < (t534.length : Int)) = false := decide_eq_false c12
     clear c12
     simp only [Option.some.injEq, Prod.mk.injEq] at H
     obtain ⟨rfl, rfl, rfl, rfl, rfl⟩ := H
     obtain ⟨Ao25, co25, eo25⟩ := R_slice HO_8.1
     subst eo25
     try go_wp2
     replace HO_7 := aM (R_drew HO_7.1)
     replace HO_8 := aM (R_drew HO_8.1)
     replace BK528 := aM (blk_drew BK528.1)
     replace BK533 := aM (blk_drew BK533.1)
     replace HB := aM (below_drew1 HB.1)
     refine start_ (n := 4) (S := fun w' => w'.cell? ⟨gb533, 0, none⟩ = some (.int .i64 t529) /\ w'.cell? ⟨gb533, 1, none⟩ = some (.string t530) /\ w'.cell? ⟨gb533, 2, none⟩ = some (.int .i64 t531) /\ w'.cell? ⟨gb533, 3, none⟩ = some (.int .i64 t532)) (ds := []) #[F_, F_, F_, F_] (by kernel_rfl) rfl rfl ⟨(blk_cell BK533.1 0).trans rfl, (blk_cell BK533.1 1).trans rfl, (blk_cell BK533.1 2).trans rfl, (blk_cell BK533.1 3).trans rfl⟩ (fun hHeld => ?_)
     generalize wr.drew = w26 at HO_7 HO_8 BK528 BK533 HB hHeld ⊢
     refine pure_ (i := 0) (N := some 40) (v := ?_) (a' := ?_) #[T_, F_, F_, F_] rfl rfl (by kernel_rfl) (fun _ _ _ h => h) (Or.inl ⟨by rfl, ?_⟩) ?_ ?_
     rotate_left
     · intro w'
       go_simp
       with_reducible rfl
     rotate_left
     · simp only [Act.put, sA, sZ, sS, i64_w, i32_w]
       rfl
     refine pure_ (i := 2) (N := some 4) (v := ?_) (a' := ?_) #[T_, F_, T_, F_] rfl rfl (by kernel_rfl) (fun _ _ _ h => h) (Or.inl ⟨by rfl, ?_⟩) ?_ ?_
     rotate_left
     · intro w'
       go_simp
       with_reducible rfl
     rotate_left
     · simp only [Act.put, sA, sZ, sS, i64_w, i32_w]
       rfl
     refine take_ (i := 1) (N := some 41) (v := ?_) (a' := ?_) #[T_, T_, T_, F_] rfl rfl (by kernel_rfl) (fun _ _ _ h => h) (Or.inl ⟨by rfl, ?_⟩) hHeld ?_ ?_
     rotate_left
     · rintro w' ⟨s0, s1, s2, s3⟩
       go_simp
       with_reducible rfl
     rotate_left
     · simp only [Act.put, sA, sZ, sS, i64_w, i32_w]
       rfl
     refine one_ (i := 3) (N := none) #[T_, T_, T_, T_] rfl rfl (by kernel_rfl) (by decide) (fun K hK => ?_)
     have hs27 : w26.cell? ⟨gb528, 0, none⟩ = some (.int .i64 0) := (blk_cell BK528.1 0).trans rfl
     have hfs27 := blk_frozen BK528.1 0
     have hns27_1 := NB533_528.1
     have hms27_1 := NB528_533.1
     have hs28 : w26.cell? ⟨gb528, 1, none⟩ = some (.string (⟨#[]⟩ : ByteArray)) := (blk_cell BK528.1 1).trans rfl
     have hfs28 := blk_frozen BK528.1 1
     have hns28_1 := NB533_528.1
     have hms28_1 := NB528_533.1
     have hs29 : w26.cell? ⟨gb528, 2, none⟩ = some (.int .i64 0) := (blk_cell BK528.1 2).trans rfl
     have hfs29 := blk_frozen BK528.1 2
     have hns29_1 := NB533_528.1
     have hms29_1 := NB528_533.1
     have hs30 : w26.cell? ⟨gb528, 3, none⟩ = some (.int .i64 0) := (blk_cell BK528.1 3).trans rfl
     have hfs30 := blk_frozen BK528.1 3
     have hns30_1 := NB533_528.1
     have hms30_1 := NB528_533.1
     refine skip_ (w1 := ?_) (by rfl) rfl ?_ ?_
     rotate_left
     · go_simp
       rfl
     refine hK.out _ _ ⟨((cell_far (p := ⟨gb528, _, none⟩) NB533_528.1 _).trans (((cell_far (p := ⟨gb528, _, none⟩) NB533_528.1 _).trans (((cell_far (p := ⟨gb528, _, none⟩) NB533_528.1 _).trans (((cell_far (p := ⟨gb528, _, none⟩) NB533_528.1 _).trans (hHeld.1)))))))), ((cell_far (p := ⟨gb528, _, none⟩) NB533_528.1 _).trans (((cell_far (p := ⟨gb528, _, none⟩) NB533_528.1 _).trans (((cell_far (p := ⟨gb528, _, none⟩) NB533_528.1 _).trans (((cell_far (p := ⟨gb528, _, none⟩) NB533_528.1 _).trans (hHeld.2.1)))))))), ((cell_far (p := ⟨gb528, _, none⟩) NB533_528.1 _).trans (((cell_far (p := ⟨gb528, _, none⟩) NB533_528.1 _).trans (((cell_far (p := ⟨gb528, _, none⟩) NB533_528.1 _).trans (((cell_far (p := ⟨gb528, _, none⟩) NB533_528.1 _).trans (hHeld.2.2.1)))))))), ((cell_far (p := ⟨gb528, _, none⟩) NB533_528.1 _).trans (((cell_far (p := ⟨gb528, _, none⟩) NB533_528.1 _).trans (((cell_far (p := ⟨gb528, _, none⟩) NB533_528.1 _).trans (((cell_far (p := ⟨gb528, _, none⟩) NB533_528.1 _).trans (hHeld.2.2.2))))))))⟩ (fun hHeld => ?_)
     clear hK K
     refine done_ (by kernel_rfl) ?_
     try go_wp2
     refine bodyPost_ret (results_tc rfl _ _ gb528 28 #[.int .i64 t529, .string t530, .int .i64 t531, .int .i64 t532] (0, 0) _ rfl (kf BK528) Try.underlying28 rfl (by kernel_rfl)) rfl ?_
     exact ⟨_, by first | rfl | (simp [errW_none, errW_some] <;> rfl) | (simp [*, errW_none, errW_some] <;> rfl), rz (R_mono (R_far (p := ⟨gb528, 3, none⟩) (R_far (p := ⟨gb528, 2, none⟩) (R_far (p := ⟨gb528, 1, none⟩) (R_far (p := ⟨gb528, 0, none⟩) (R_types HO_7.1 BK528.1 (by decide)) (fun _ hk => hk.2) (.int .i64 t529)) (fun _ hk => hk.2) (.string t530)) (fun _ hk => hk.2) (.int .i64 t531)) (fun _ hk => hk.2) (.int .i64 t532)) (fun _ hk => trivial)), hh HB⟩
   rw [if_pos c12] at H
   have c12b0 : decide (x9_1 < (t534.length : Int)) = true := decide_eq_true c12
   clear c12
   by_cases c13 : 0 <= x9_1
   rotate_left
   · rw [if_neg c13] at H
     exact absurd H (by simp)
   rw [if_pos c13] at H
   have c13b0 : decide (0 <= x9_1) = true := decide_eq_true c13
   clear c13
   replace H := Option.bind_eq_some_iff.mp H
   obtain ⟨t538, A140, H⟩ := H
   replace H : ((q_Has.f k1 t538 a1).bind fun t541 => (if t541 = true then (if x7_1.length < 8796093022208 then (r_Users.l0 k1 l0 a1 (x7_1 ++ [rdOf ByteArray.empty t534 x9_1]) t534 (wrap64 (x9_1 + 1)) t529 t530 t531 t532) else (none)) else (r_Users.l0 k1 l0 a1 x7_1 t534 (wrap64 (x9_1 + 1)) t529 t530 t531 t532))) = some (r1, r2, r3, r4, r5) := H
   have A14 := aM A140
   clear A140
   replace H := Option.bind_eq_some_iff.mp H
   obtain ⟨t541, A150, H⟩ := H
   replace H : (if t541 = true then (if x7_1.length < 8796093022208 then (r_Users.l0 k1 l0 a1 (x7_1 ++ [rdOf ByteArray.empty t534 x9_1]) t534 (wrap64 (x9_1 + 1)) t529 t530 t531 t532) else (none)) else (r_Users.l0 k1 l0 a1 x7_1 t534 (wrap64 (x9_1 + 1)) t529 t530 t531 t532)) = some (r1, r2, r3, r4, r5) := H
   have A15 := aM A150
   clear A150
   by_cases c16 : t541 = true
   rotate_left
   · replace c16 := Bool.eq_false_iff.mpr c16
     subst c16
     have H1 : (r_Users.l0 k1 l0 a1 x7_1 t534 (wrap64 (x9_1 + 1)) t529 t530 t531 t532) = some (r1, r2, r3, r4, r5) := by rw [if_neg (show ¬ (false = true) by decide)] at H; exact H
     clear H
     have H := H1
     clear H1
     have H' := aM H
     clear H
     obtain ⟨Ao22, co22, eo22⟩ := R_slice HO_8.1
     subst eo22
     have p537 : 0 <= (x9_1 : Int) := dt
     have q537 : x9_1 < (t534.length : Int) := dt
     obtain ⟨ad537, e537, hx537_0⟩ := Kd.at_string (R_reads' HO_8.1).2.2 x9_1 p537 q537
     cases e537
     replace p537 := eq_true p537
     replace q537 := eq_true q537
     go_wp2_with (first | ((with_reducible refine gate_callee (f := 33) rfl ?_); refine gL (some 30) rfl rfl Try.func33 (by kernel_rfl) rfl #[.slice A0 l0.length c0, .string (rdOf ByteArray.empty t534 x9_1)] rfl ?_; (with_reducible refine (r_reach.calls k1 _ _ l0 (rdOf ByteArray.empty t534 x9_1) t538 _ ?side1 ?side2 A14.1).mono ?_); (case side1 => exact cb HR0 HB); (case side2 => exact HC0.1); rintro e w23 ⟨v539, rfl, ho0, hb⟩; refine ⟨_, rfl, ?_⟩; have HO540 := aM (R_lower (R_new' (R_new' ho0 (R_lt (rk HO_7))) (R_lt (rk HO_8))) (below_size (hh HB))); replace HO_7 := aM (R_elder' (rk HO_7) (R_base ho0) hb); replace HO_8 := aM (R_elder' (rk HO_8) (R_base ho0) hb); replace BK528 := kb BK528 hb; replace BK533 := kb BK533 hb; replace HB := bs HB hb; clear hb ho0; obtain ⟨Ao24, co24, eo24⟩ := R_slice HO540.1; subst eo24) | ((with_reducible refine gate_callee (f := 21) rfl ?_); refine gL (some 32) rfl rfl Try.func21 (by kernel_rfl) rfl #[.slice Ao24 t538.length co24, .string a1] rfl ?_; (with_reducible refine (q_Has.calls k1 _ _ t538 a1 false _ ?side1 ?side2 A15.1).mono ?_); (case side1 => exact cr HO540); (case side2 => exact (R_reads' HO540.1).2.1); rintro e w' ⟨rfl, ⟨nd, rfl⟩⟩; refine ⟨_, rfl, ?_⟩))
     go_roundg k1
     case measure => have := HK1.1; omega
     case rel => exact ⟨(x7_1), (wrap64 (x9_1 + 1)), rr, H', ⟨by have := HK1.1; omega⟩, ⟨rz (R_mono HO_7.1 (fun _ hk => hk.1))⟩, ⟨rz (R_mono HO_8.1 (fun _ hk => hk.1))⟩, ⟨kk BK528⟩, ⟨kk BK533⟩, ⟨hh HB⟩⟩
   subst c16
   have H1 : (if x7_1.length < 8796093022208 then (r_Users.l0 k1 l0 a1 (x7_1 ++ [rdOf ByteArray.empty t534 x9_1]) t534 (wrap64 (x9_1 + 1)) t529 t530 t531 t532) else (none)) = some (r1, r2, r3, r4, r5) := by rw [if_pos rfl] at H; exact H
   clear H
   have H := H1
   clear H1
   by_cases c17 : x7_1.length < 8796093022208
   rotate_left
   · rw [if_neg c17] at H
     exact absurd H (by simp)
   rw [if_pos c17] at H
   have LMc17 := aM c17
   clear c17
   obtain ⟨y543, hy543⟩ : ∃ y_ : List ByteArray, y_ = (x7_1 ++ [rdOf ByteArray.empty t534 x9_1]) := ⟨_, rfl⟩
   replace H : (r_Users.l0 k1 l0 a1 y543 t534 (wrap64 (x9_1 + 1)) t529 t530 t531 t532) = some (r1, r2, r3, r4, r5) := by first | (rw [hy543]; with_reducible exact H) | (have H2_ := (Option.bind_some _ _).symm.trans H; rw [hy543]; with_reducible exact H2_) | (have H2_ := (Option.bind_some _ _).symm.trans H; with_reducible exact H2_) | with_reducible exact H | (rw [hy543]; exact H) | exact H
   have Ny543 := aM hy543
   clear hy543
   have H' := aM H
   clear H
   obtain ⟨Ao18, co18, eo18⟩ := R_slice HO_8.1
   subst eo18
   have p537 : 0 <= (x9_1 : Int) := dt
   have q537 : x9_1 < (t534.length : Int) := dt
   obtain ⟨ad537, e537, hx537_0⟩ := Kd.at_string (R_reads' HO_8.1).2.2 x9_1 p537 q537
   cases e537
   replace p537 := eq_true p537
   replace q537 := eq_true q537
   go_wp2_with (first | ((with_reducible refine gate_callee (f := 33) rfl ?_); refine gL (some 30) rfl rfl Try.func33 (by kernel_rfl) rfl #[.slice A0 l0.length c0, .string (rdOf ByteArray.empty t534 x9_1)] rfl ?_; (with_reducible refine (r_reach.calls k1 _ _ l0 (rdOf ByteArray.empty t534 x9_1) t538 _ ?side1 ?side2 A14.1).mono ?_); (case side1 => exact cb HR0 HB); (case side2 => exact HC0.1); rintro e w19 ⟨v539, rfl, ho0, hb⟩; refine ⟨_, rfl, ?_⟩; have HO540 := aM (R_lower (R_new' (R_new' ho0 (R_lt (rk HO_7))) (R_lt (rk HO_8))) (below_size (hh HB))); replace HO_7 := aM (R_elder' (rk HO_7) (R_base ho0) hb); replace HO_8 := aM (R_elder' (rk HO_8) (R_base ho0) hb); replace BK528 := kb BK528 hb; replace BK533 := kb BK533 hb; replace HB := bs HB hb; clear hb ho0; obtain ⟨Ao20, co20, eo20⟩ := R_slice HO540.1; subst eo20) | ((with_reducible refine gate_callee (f := 21) rfl ?_); refine gL (some 32) rfl rfl Try.func21 (by kernel_rfl) rfl #[.slice Ao20 t538.length co20, .string a1] rfl ?_; (with_reducible refine (q_Has.calls k1 _ _ t538 a1 true _ ?side1 ?side2 A15.1).mono ?_); (case side1 => exact cr HO540); (case side2 => exact (R_reads' HO540.1).2.1); rintro e w' ⟨rfl, ⟨nd, rfl⟩⟩; refine ⟨_, rfl, ?_⟩; have p542 : 0 <= (x9_1 : Int) := dt; have q542 : x9_1 < (t534.length : Int) := dt; obtain ⟨ad542, e542, hx542_0⟩ := Kd.at_string (R_reads' HO_8.1).2.2 x9_1 p542 q542; obtain rfl : ad537 = ad542 := (by injection e542); replace p542 := eq_true p542; replace q542 := eq_true q542) | ((with_reducible refine gate_builtin (b := .append) (xs := #[.tmp 33, .tmp 38]) rfl ?_); at_builtin; refine R_append Kd.string (w0 := w) w.heap.size rfl (.tmp 33) (.tmp 38) 25 9 (.string ⟨#[]⟩) 16 rfl Try.underlying25 info9 rfl (by decide) (by omega) u7 x7_1 (rdOf ByteArray.empty t534 x9_1) [.string (rdOf ByteArray.empty t534 x9_1)] (fun k_ => some k_ ≠ (.slice (some ad537) t534.length co18 : Value).ownBlock /\ some k_ ≠ (.slice Ao20 t538.length co20 : Value).ownBlock) (fun _ => False) rfl rfl ?aP (fun _ hk => hk.elim) ?aF ?aO ?aB ?aS ?aL ?_; (case aP => exact rfl); (case aB => exact (hh HB)); (case aF => exact (fun k_ hk => ⟨Kd.fresh' (R_lt (rk HO_8)) k_ hk, Kd.fresh' (R_lt (rk HO540)) k_ hk⟩)); (case aO => exact (rk HO_7)); (case aS => exact (below_size (hh HB))); (case aL => have := LMc17.1; omega); intro v544 w21 ho hb hg hat; rw [<- Ny543.1] at ho; have HO545 := aM (ho); replace HO_8 := aM (R_after (ok := (fun k_ => some k_ ≠ (.slice Ao20 t538.length co20 : Value).ownBlock)) (rz (R_mono HO_8.1 (fun _ hk => ⟨hk.2, hk.1⟩))) hg hat); replace BK528 := aM (blk_grown (g := gb528) (o := .cells #[.int .i64 0, .string (⟨#[]⟩ : ByteArray), .int .i64 0, .int .i64 0] 28 (0, 0)) (kk BK528) hg (R_ne HO_7.1 BK528.1 (by decide))); replace BK533 := aM (blk_grown (g := gb533) (o := .cells #[.int .i64 t529, .string t530, .int .i64 t531, .int .i64 t532] 28 (0, 0)) (kk BK533) hg (R_ne HO_7.1 BK533.1 (by decide))); replace HO540 := aM (R_after (ok := (fun k_ => some k_ ≠ (.slice (some ad537) t534.length co18 : Value).ownBlock)) (rz (R_mono HO540.1 (fun _ hk => ⟨hk.2, hk.1.2⟩))) hg hat); replace HB := aM (hb); clear HO_7; clear ho hb hg hat))
   go_roundg k1
   case measure => have := HK1.1; omega
   case rel => exact ⟨(y543), (wrap64 (x9_1 + 1)), rr, H', ⟨by have := HK1.1; omega⟩, ⟨rz (R_mono HO545.1 (fun _ hk => hk.1))⟩, ⟨rz (R_mono HO_8.1 (fun _ hk => hk.2))⟩, ⟨kk BK528⟩, ⟨kk BK533⟩, ⟨hh HB⟩⟩
end Go.Proofs.Ytmadhaccjmakdaa.P
namespace Go.Proofs.Ytmadhaccjmakdaa
open Go.RowKit Go.Maps Go.Sort Go.Proofs.Yw.A Go.Proofs.Yw.B Go.Proofs.Yw.C
open P
namespace Mg
theorem asc_of {S ss : List (List UInt8)} (h : Elems S ss) (h1 : ss.Pairwise (fun a b => leB a b = true)) : asc S = ss := by
 rw [<- Elems.asc h]
 exact List.mergeSort_of_pairwise h1
theorem asc_self {S : List (List UInt8)} (hn : S.Nodup) (h1 : S.Pairwise (fun a b => leB a b = true)) : asc S = S :=
 asc_of ⟨hn, fun x => by simp⟩ h1
theorem asc_elems (S : List (List UInt8)) : Elems S (asc S) := by
 have h := dd_elems S
 have hp := List.mergeSort_perm (dd S) leB
 exact ⟨hp.symm.nodup h.nodup, fun x => (hp.mem_iff).trans (h.mem x)⟩
theorem mem_asc {S : List (List UInt8)} {x : List UInt8} : x ∈ asc S ↔ x ∈ S := by
 rw [(asc_elems S).mem x]; simp
theorem asc_pair (S : List (List UInt8)) : (asc S).Pairwise (fun a b => a <= b) := leB_pair (dd S)
theorem twice_of : ∀ (l : List S42) (seen : List (List UInt8)), (seen ++ l.map nm).Nodup -> twice l seen = none := by
 intro l
 induction l with
 | nil => intro _ _; rfl
 | cons m l ih =>
  intro seen h
  unfold twice
  have hm : ¬ seen.contains (nm m) = true := by
   intro hc
   have hc2 := List.contains_iff_mem.1 hc
   rw [List.nodup_append] at h
   exact h.2.2 _ hc2 _ (by simp) rfl
  rw [if_neg hm]
  exact ih _ (by simpa using h)
theorem missI_of (K : List (List UInt8)) : ∀ l : List S66, (∀ i ∈ l, im i ∈ K) -> missI K l = none := by
 intro l
 induction l with
 | nil => intro _; rfl
 | cons i l ih =>
  intro h
  unfold missI
  rw [if_pos (List.contains_iff_mem.2 (h i List.mem_cons_self))]
  exact ih (fun j hj => h j (List.mem_cons_of_mem _ hj))
theorem miss_of (K : List (List UInt8)) : ∀ l : List S42, (∀ m ∈ l, ∀ i ∈ m.f3, im i ∈ K) -> miss K l = none := by
 intro l
 induction l with
 | nil => intro _; rfl
 | cons m l ih =>
  intro h
  unfold miss
  rw [missI_of K m.f3 (h m List.mem_cons_self)]
  exact ih (fun j hj => h j (List.mem_cons_of_mem _ hj))
def key (m : S42) : List UInt8 × List (List UInt8) := (nm m, m.f3.map im)
theorem impsL_key (l : List S42) (n : List UInt8) : impsL l n = (((l.map key).find? (fun p => p.1 == n)).map (·.2)).getD [] := by
 unfold impsL
 induction l with
 | nil => rfl
 | cons m l ih =>
  by_cases hm : (nm m == n) = true
  · rw [List.map_cons, List.find?_cons_of_pos (by exact hm), List.find?_cons_of_pos (by exact hm)]
    rfl
  rw [List.map_cons, List.find?_cons_of_neg (by exact hm), List.find?_cons_of_neg (by exact hm)]
  exact ih
theorem nm_key (l : List S42) : l.map nm = (l.map key).map (·.1) := by rw [List.map_map]; rfl
theorem size_dat (x : ByteArray) : x.size = x.data.toList.length := by cases x; rfl
theorem okSizes_key {l : List S42} (h : ∀ p ∈ l.map key, p.1.length <= 1000 /\ p.2.length <= 100000 /\ ∀ x ∈ p.2, x.length <= 1000) : okSizes l := by
 intro m hm
 obtain ⟨h1, h2, h3⟩ := h _ (List.mem_map.2 ⟨m, hm, rfl⟩)
 have h1' : m.f0.data.toList.length <= 1000 := h1
 have h2' : (m.f3.map im).length <= 100000 := h2
 rw [List.length_map] at h2'
 refine ⟨by rw [size_dat]; unfold maxLen; omega, h2', fun i hi => ?_⟩
 have h4 : i.f0.data.toList.length <= 1000 := h3 (im i) (List.mem_map.2 ⟨i, hi, rfl⟩)
 rw [size_dat]; unfold maxLen; omega
theorem made_good {l : List S42} (hl : ¬ (l.length : Int) > 32) (hs : okSizes l) (hn : (l.map nm).Nodup) (hi : ∀ m ∈ l, ∀ i ∈ m.f3, im i ∈ l.map nm) : m_made.f l = some (namesOf l, edgesOf l, 0, ⟨#[]⟩, 0, 0) := by
 unfold m_made.f
 rw [if_neg hl, if_pos hs, twice_of l [] (by simpa using hn)]
 simp only []
 rw [miss_of _ l hi]
def namesK (P : List (List UInt8 × List (List UInt8))) : List ByteArray := (asc (P.map (·.1))).map bz
def edgesK (P : List (List UInt8 × List (List UInt8))) : List (List Int) := (asc (P.map (·.1))).map (fun n => (asc (((P.find? (fun p => p.1 == n)).map (·.2)).getD [])).map (fun y => (rank (asc (P.map (·.1))) y : Int)))
theorem namesOf_key (l : List S42) : namesOf l = namesK (l.map key) := by unfold namesOf namesK; rw [nm_key]
theorem edgesOf_key (l : List S42) : edgesOf l = edgesK (l.map key) := by
 unfold edgesOf edgesK edgeOf
 rw [nm_key]
 simp only [impsL_key]
theorem made_key {l : List S42} (hl : (l.map key).length <= 32) (hs : ∀ p ∈ l.map key, p.1.length <= 1000 /\ p.2.length <= 100000 /\ ∀ x ∈ p.2, x.length <= 1000) (hn : ((l.map key).map (·.1)).Nodup) (hi : ∀ p ∈ l.map key, ∀ x ∈ p.2, x ∈ (l.map key).map (·.1)) :
 m_made.f l = some (namesK (l.map key), edgesK (l.map key), 0, ⟨#[]⟩, 0, 0) := by
 rw [<- namesOf_key, <- edgesOf_key]
 rw [List.length_map] at hl
 refine made_good (by omega) (okSizes_key hs) (by rw [nm_key]; exact hn) (fun m hm i hm2 => ?_)
 rw [nm_key]
 exact hi (key m) (List.mem_map.2 ⟨m, hm, rfl⟩) (im i) (List.mem_map.2 ⟨i, hm2, rfl⟩)
theorem made_abc {l : List S42} (h : l.map key = [([65], [[66]]), ([66], []), ([67], [])]) : m_made.f l = some ([bz [65], bz [66], bz [67]], [[1], [], []], 0, ⟨#[]⟩, 0, 0) := by
 have e := made_key (l := l) (by rw [h]; decide) (by rw [h]; decide) (by rw [h]; decide) (by rw [h]; decide)
 rw [e, h]
 have a1 : asc [[65], [66], [67]] = [[65], [66], [67]] := asc_self (by decide) (by decide)
 have a2 : asc [[66]] = [[66]] := asc_self (by decide) (by decide)
 have a3 : asc ([] : List (List UInt8)) = [] := asc_self (by decide) (by decide)
 unfold namesK edgesK
 simp only [List.map_cons, List.map_nil]
 rw [a1]
 simp [List.find?, a2, a3, rank]
 decide
theorem made_cyc {l : List S42} (h : l.map key = [([65], [[66]]), ([66], [[65], [67]]), ([67], [[66]])]) : m_made.f l = some ([bz [65], bz [66], bz [67]], [[1], [0, 2], [1]], 0, ⟨#[]⟩, 0, 0) := by
 have e := made_key (l := l) (by rw [h]; decide) (by rw [h]; decide) (by rw [h]; decide) (by rw [h]; decide)
 rw [e, h]
 have a1 : asc [[65], [66], [67]] = [[65], [66], [67]] := asc_self (by decide) (by decide)
 have a2 : asc [[66]] = [[66]] := asc_self (by decide) (by decide)
 have a3 : asc [[65], [67]] = [[65], [67]] := asc_self (by decide) (by decide)
 unfold namesK edgesK
 simp only [List.map_cons, List.map_nil]
 rw [a1]
 simp [List.find?, a2, a3, rank]
 decide
end Mg
end Go.Proofs.Ytmadhaccjmakdaa
namespace Go.Proofs.Ytmadhaccjmakdaa
open Go.RowKit Go.Proofs.Yw.A Go.Proofs.Yw.B Go.Proofs.Yw.C Go.Proofs.Ytmadhaccjmakdaa.P
namespace Lv
open Tj Rw Od
def lv1 : Nat -> Int -> List Int -> Int -> List Int -> Option (List Int)
 | 0, _, _, _, _ => none
 | k + 1, v, l, i, lv =>
  if i < l.length then
   if 0 <= rd l i /\ rd l i < lv.length then lv1 k v l (i + 1) (lv.set v.toNat (max (rd lv v) (wrap64 (rd lv (rd l i) + 1)))) else none
  else some lv
def lv0 : Nat -> List (List Int) -> List (List Int) -> Int -> List Int -> Int -> Option (Option (List Int × Int))
 | 0, _, _, _, _, _ => none
 | k + 1, es, comps, i, lv, top =>
  if i < comps.length then
   if 0 < (row comps i).length /\ 0 <= rd (row comps i) 0 /\ rd (row comps i) 0 < es.length then
    if 1 < (row comps i).length \/ (row es (rd (row comps i) 0)).contains (rd (row comps i) 0) = true then some none
    else (lv1 k (rd (row comps i) 0) (row es (rd (row comps i) 0)) 0 lv).bind fun lv2 => lv0 k es comps (i + 1) lv2 (max top (rd lv2 (rd (row comps i) 0)))
   else none
  else some (some (lv, top))
def lv3 : Nat -> List Int -> Int -> List (List Int) -> Option (List (List Int))
 | 0, _, _, _ => none
 | k + 1, lv, i, out =>
  if i < lv.length then
   if 0 <= rd lv i /\ rd lv i < out.length /\ (row out (rd lv i)).length < 17592186044415 then lv3 k lv (i + 1) (app out (rd lv i) i) else none
  else some out
noncomputable def levelsF (k : Nat) (es : List (List Int)) : Option (List (List Int) × Int) :=
 (g_valid.f k es).bind fun b =>
  if b = true then
   (g_ordered.f es).bind fun comps =>
    if es.length < 17592186044416 then
     (lv0 k es comps 0 (List.replicate es.length 0) (-1)).bind fun o =>
      match o with
      | none => some ([], 18)
      | some (lv, top) => if 0 <= wrap64 (top + 1) /\ wrap64 (top + 1) < 5864062014805 then (lv3 k lv 0 (List.replicate (wrap64 (top + 1)).toNat [])).map fun out => (out, 0) else none
    else none
  else some ([], 1)
end Lv
end Go.Proofs.Ytmadhaccjmakdaa
namespace Go.Proofs.Ytmadhaccjmakdaa.P
open Go.RowKit Go.Proofs.Yw.A Go.Proofs.Yw.A.Kd Go.Proofs.Yw.B Go.Proofs.Yw.C
attribute [local go_sem] str_gtr str_leq str_geq max2_int min2_int max_two min_two max_three min_three max_four min_four
noncomputable def slices_Index_int_int.l0 : Nat -> List Int -> Int -> Int -> Int -> Option (Int)
 | 0, _, _, _, _ => none
 | k + 1, x0, x1, x7, x8 => if x8 < x7 then (if 0 <= x8 then (if x8 < (x0.length : Int) then (if x1 = (rd x0 x8) then (some x8) else (slices_Index_int_int.l0 k x0 x1 x7 (wrap64 (x8 + 1)))) else (none)) else (none)) else (some (-1))
noncomputable def slices_Index_int_int.f (k : Nat) (l0 : List Int) (a1 : Int) : Option (Int) := slices_Index_int_int.l0 k l0 a1 (l0.length : Int) 0
theorem slices_Index_int_int.calls (k : Nat) (A0 : Option Addr) (c0 : Nat) (l0 : List Int) (a1 : Int) (r : Int) (w : World) (hr0 : Kd.C (Kd.int .i64) w A0 l0.length l0) (hc0 : l0.length <= c0) (h : slices_Index_int_int.f k l0 a1 = some r) :
 Calls Try.prog 55 #[.slice A0 l0.length c0, .int .i64 a1] w fun e w' => e = .returned (.int .i64 r) /\ Drawn0 w w' := by
 have HR0 := aM hr0
 have HC0 := aM hc0
 clear hr0 hc0
 have H : (slices_Index_int_int.l0 k l0 a1 (l0.length : Int) 0) = some r := h
 clear h
 have H' := aM H
 clear H
 go_enter Try.func55, Try.ntmps55
 go_wp2
 go_loopg [8] k (fun kq v8 w' => ∃ (x8_1 : Int), v8 = .int .i64 x8_1 /\ Az (slices_Index_int_int.l0 kq l0 a1 (l0.length : Int) x8_1 = some r) /\ Az (kq <= k) /\ Drawn0 w w')
 case atStart => exact ⟨(0), rr, H', ⟨Nat.le_refl _⟩, by repeat (first | exact Drawn0.refl _ | apply Drawn0.step)⟩
 case round =>
  clear H'
  obtain ⟨x8_1, rfl, HA, HK1, ⟨m1, rfl⟩⟩ := hrel
  cases gk with
  | zero => exact absurd HA.1 (by simp [slices_Index_int_int.l0])
  | succ k1 =>
   have H := HA.1
   clear HA
   simp only [slices_Index_int_int.l0] at H
   by_cases c3 : x8_1 < (l0.length : Int)
   rotate_left
   · rw [if_neg c3] at H
     have c3b0 : decide (x8_1 < (l0.length : Int)) = false := decide_eq_false c3
     clear c3
     obtain rfl := Option.some.inj H
     go_wp2
     go_ret
     exact ⟨by first | rfl | (simp; done) | (simp [*]; done), by repeat (first | exact Drawn0.refl _ | apply Drawn0.step)⟩
   rw [if_pos c3] at H
   have c3b0 : decide (x8_1 < (l0.length : Int)) = true := decide_eq_true c3
   clear c3
   by_cases c4 : 0 <= x8_1
   rotate_left
   · rw [if_neg c4] at H
     exact absurd H (by simp)
   rw [if_pos c4] at H
   have c4b0 : decide (0 <= x8_1) = true := decide_eq_true c4
   clear c4
   by_cases c5 : x8_1 < (l0.length : Int)
   rotate_left
   · rw [if_neg c5] at H
     exact absurd H (by simp)
   rw [if_pos c5] at H
   have c5b0 : decide (x8_1 < (l0.length : Int)) = true := decide_eq_true c5
   clear c5
   by_cases c6 : a1 = (rd l0 x8_1)
   · rw [if_pos c6] at H
     have c6b0 : (a1 == (rd l0 x8_1)) = true := beq_iff_eq.mpr c6
     have c6b1 : (a1 != (rd l0 x8_1)) = false := bne_eq_false_iff_eq.mpr c6
     clear c6
     obtain rfl := Option.some.inj H
     have p200 : 0 <= (x8_1 : Int) := dt
     have q200 : x8_1 < (l0.length : Int) := dt
     obtain ⟨ad200, e200, hx200_0⟩ := Kd.at_int HR0.1 x8_1 p200 q200
     cases e200
     replace p200 := eq_true p200
     replace q200 := eq_true q200
     go_wp2
     go_ret
     exact ⟨by first | rfl | (simp; done) | (simp [*]; done), by repeat (first | exact Drawn0.refl _ | apply Drawn0.step)⟩
   rw [if_neg c6] at H
   have c6b0 : (a1 == (rd l0 x8_1)) = false := beq_eq_false_iff_ne.mpr c6
   have c6b1 : (a1 != (rd l0 x8_1)) = true := bne_iff_ne.mpr c6
   have H' := aM H
   clear H
   have p200 : 0 <= (x8_1 : Int) := dt
   have q200 : x8_1 < (l0.length : Int) := dt
   obtain ⟨ad200, e200, hx200_0⟩ := Kd.at_int HR0.1 x8_1 p200 q200
   cases e200
   replace p200 := eq_true p200
   replace q200 := eq_true q200
   go_wp2
   go_roundg k1
   case measure => have := HK1.1; omega
   case rel => exact ⟨(wrap64 (x8_1 + 1)), rr, H', ⟨by have := HK1.1; omega⟩, by repeat (first | exact Drawn0.refl _ | apply Drawn0.step)⟩
noncomputable def slices_Contains_int_int.f (k : Nat) (l0 : List Int) (a1 : Int) : Option (Bool) := (slices_Index_int_int.f k l0 a1).bind fun t201 => (some (decide (t201 >= 0)))
theorem slices_Contains_int_int.calls (k : Nat) (A0 : Option Addr) (c0 : Nat) (l0 : List Int) (a1 : Int) (r : Bool) (w : World) (hr0 : Kd.C (Kd.int .i64) w A0 l0.length l0) (hc0 : l0.length <= c0) (h : slices_Contains_int_int.f k l0 a1 = some r) :
 Calls Try.prog 41 #[.slice A0 l0.length c0, .int .i64 a1] w fun e w' => e = .returned (.bool r) /\ Drawn0 w w' := by
 have HR0 := aM hr0
 have HC0 := aM hc0
 clear hr0 hc0
 have H : ((slices_Index_int_int.f k l0 a1).bind fun t201 => (some (decide (t201 >= 0)))) = some r := h
 clear h
 replace H := Option.bind_eq_some_iff.mp H
 obtain ⟨t201, A30, H⟩ := H
 try dsimp only at H
 have A3 := aM A30
 clear A30
 obtain rfl := Option.some.inj H
 go_enter Try.func41, Try.ntmps41
 go_wp2_with (first | ((with_reducible refine gate_callee (f := 55) rfl ?_); refine gL (some 7) rfl rfl Try.func55 (by kernel_rfl) rfl #[.slice A0 l0.length c0, .int .i64 a1] rfl ?_; (with_reducible refine (slices_Index_int_int.calls k _ _ l0 a1 t201 _ ?side1 ?side2 A3.1).mono ?_); (case side1 => exact ck HR0); (case side2 => exact HC0.1); rintro e w' ⟨rfl, ⟨nd, rfl⟩⟩; refine ⟨_, rfl, ?_⟩))
 go_ret
 exact ⟨by first | rfl | (simp; done) | (simp [*]; done), by repeat (first | exact Drawn0.refl _ | apply Drawn0.step)⟩
end Go.Proofs.Ytmadhaccjmakdaa.P
namespace Go.Proofs.Ytmadhaccjmakdaa
open Go.RowKit Go.Proofs.Yw.A Go.Proofs.Yw.B Go.Proofs.Yw.C Go.Proofs.Ytmadhaccjmakdaa.P
namespace Lv
open Tj Rw Od
theorem wrap_small (x : Int) (h0 : -9223372036854775808 <= x) (h1 : x < 9223372036854775808) : wrap64 x = x := by
 unfold wrap64
 omega
theorem index_run (l : List Int) (a : Int) (hl : l.length <= 9223372036854775807) : ∀ (m : Nat) (i : Nat), i + m = l.length -> (l.take i).contains a = false -> ∃ r : Int, slices_Index_int_int.l0 (m + 1) l a l.length i = some r /\ (decide (r >= 0)) = l.contains a := by
 intro m
 induction m with
 | zero =>
  intro i hi hc
  have : i = l.length := by omega
  subst this
  rw [List.take_length] at hc
  refine ⟨-1, ?_, by rw [hc]; decide⟩
  unfold slices_Index_int_int.l0
  rw [if_neg (by omega)]
 | succ m ih =>
  intro i hi hc
  unfold slices_Index_int_int.l0
  rw [if_pos (by omega), if_pos (by omega), if_pos (by omega)]
  have hil : i < l.length := by omega
  have hrd : rd l (i : Int) = l[i] := by
   show l.getD (i : Int).toNat 0 = l[i]
   rw [Int.toNat_natCast, List.getD_eq_getElem?_getD, List.getElem?_eq_getElem hil]
   rfl
  rw [hrd]
  by_cases he : a = l[i]
  · rw [if_pos he]
    refine ⟨i, rfl, ?_⟩
    have h1 : l.contains a = true := by
     rw [List.contains_iff_mem, he]
     exact List.getElem_mem hil
    rw [h1]
    exact decide_eq_true (by omega)
  rw [if_neg he]
  have hw : wrap64 ((i : Int) + 1) = ((i + 1 : Nat) : Int) := by
   rw [wrap_small _ (by omega) (by omega)]
   omega
  rw [hw]
  refine ih (i + 1) (by omega) ?_
  rw [List.take_succ_eq_append_getElem hil, List.contains_append, hc]
  simp [he]
theorem contains_run (l : List Int) (a : Int) (hl : l.length <= 9223372036854775807) : slices_Contains_int_int.f (l.length + 1) l a = some (l.contains a) := by
 obtain ⟨r, h1, h2⟩ := index_run l a hl l.length 0 (by omega) rfl
 unfold slices_Contains_int_int.f slices_Index_int_int.f
 rw [show ((0 : Int)) = ((0 : Nat) : Int) from rfl, h1]
 show some (decide (r >= 0)) = _
 rw [h2]
theorem levels_calls (k : Nat) (A : Option Addr) (c : Nat) (es : List (List Int)) (r1 : List (List Int)) (r2 : Int) (w : World) (hr : Kd.C KS w A es.length es) (hc : es.length <= c) (h : levelsF k es = some (r1, r2)) :
 Calls Try.prog 30 #[.agg #[.slice A es.length c]] w fun e w' => ∃ v, e = .returned (.tuple #[v, .int .i64 r2]) /\ Kd.S KS 55 w' w.heap.size (fun _ => True) v r1 /\ Below w.heap.size w w' := by
 have hu24 := Try.underlying49
 unfold levelsF at h
 obtain ⟨b, hb, h⟩ := Option.bind_eq_some_iff.1 h
 have HR := Az.mk hr
 have HC := Az.mk hc
 clear hr hc
 cases b with
 | false =>
  have HVA := Az.mk hb
  rw [if_neg (by decide)] at h
  obtain ⟨rfl, rfl⟩ := Prod.mk.inj (Option.some.inj h)
  clear hb h
  go_enter Try.func30, Try.ntmps30
  go_wp2_with (first | ((with_reducible refine gate_dst (N := 1) rfl ?_); refine box_event ?hg (N := 1) ?hd (cs := #[.slice A es.length c]) (t := 49) ?hr ?_; (case hd => rfl); (case hg => rfl); (case hr => first | (go_simp; done) | (go_simp; rfl)); intro gb hg w5 hbox hb; have B5 := Az.mk (below_step (Below.refl w.heap.size w) hb); have K5 := Az.mk hbox; have GE : Az (w.heap.size <= gb) := Az.mk (by rw [hg]; exact Nat.le_refl _); have hcz : w5.cell? ⟨gb, 0, none⟩ = some (.slice A es.length c) := (blk_cell K5.1 0).trans rfl; clear hb hbox hg) | (go_at_call 39; refine (g_valid.calls k A c es false _ (Kd.C_below HR.1 B5.1) HC.1 HVA.1).mono ?_; rintro e w7 ⟨rfl, hb7⟩; have B7 := Az.mk (below_step B5.1 hb7); have K7 := Az.mk (blk_below K5.1 hb7); clear hb7 hcz B5 K5; have hcz : w7.cell? ⟨gb, 0, none⟩ = some (.slice A es.length c) := (blk_cell K7.1 0).trans rfl) | fail)
  go_ret2
  exact ⟨_, rfl, Kd.S_nil _ _ _ _ _, B7.1⟩
 | true =>
  have HVA := Az.mk hb
  rw [if_pos rfl] at h
  obtain ⟨comps, ho, h⟩ := Option.bind_eq_some_iff.1 h
  have HO := Az.mk ho
  by_cases hL : es.length < 17592186044416
  case neg => rw [if_neg hL] at h; cases h
  rw [if_pos hL] at h
  obtain ⟨o, hlv, h⟩ := Option.bind_eq_some_iff.1 h
  have HLV := Az.mk hlv
  have HH := Az.mk h
  have HLL := Az.mk hL
  clear hb ho h hlv hL
  go_enter Try.func30, Try.ntmps30
  go_upto_region 4 with (first | ((with_reducible refine gate_dst (N := 1) rfl ?_); refine box_event ?hg (N := 1) ?hd (cs := #[.slice A es.length c]) (t := 49) ?hr ?_; (case hd => rfl); (case hg => rfl); (case hr => first | (go_simp; done) | (go_simp; rfl)); intro gb hg w5 hbox hb; have B5 := Az.mk (below_step (Below.refl w.heap.size w) hb); have K5 := Az.mk hbox; have GE : Az (w.heap.size <= gb) := Az.mk (by rw [hg]; exact Nat.le_refl _); have hcz : w5.cell? ⟨gb, 0, none⟩ = some (.slice A es.length c) := (blk_cell K5.1 0).trans rfl; clear hb hbox hg) | (go_at_call 39; refine (g_valid.calls k A c es true _ (Kd.C_below HR.1 B5.1) HC.1 HVA.1).mono ?_; rintro e w7 ⟨rfl, hb7⟩; have B7 := Az.mk (below_step B5.1 hb7); have K7 := Az.mk (blk_below K5.1 hb7); clear hb7 hcz B5 K5; have hcz : w7.cell? ⟨gb, 0, none⟩ = some (.slice A es.length c) := (blk_cell K7.1 0).trans rfl) | (go_at_call 40; refine (g_ordered.calls A c es comps _ (Kd.C_below HR.1 B7.1) HC.1 HO.1).mono ?_; rintro e w9 ⟨vc, rfl, hV, hb9⟩; obtain ⟨Ac, cc, rfl, hlc, hF⟩ := hV; have V9 := Az.mk (Kd.F_bound hF); have B9 := Az.mk (below_step B7.1 hb9); have K9 := Az.mk (blk_below K7.1 hb9); have S7 := Az.mk (B7.1.size); have LC := Az.mk (Kd.F_max hF); clear hF hb9 hcz B7 K7 hlc; have hcz : w9.cell? ⟨gb, 0, none⟩ = some (.slice A es.length c) := (blk_cell K9.1 0).trans rfl) | fail)
  obtain ⟨i0, e0, e1, e2, e3⟩ := info_parts info3
  have hll := HLL.1
  have hmk := run_make w9 55 3 i0 _ Try.underlying55 e0 e1 .i64 .i64 es.length es.length (by omega) (by omega) (by rw [e3]; omega) (by omega)
  rw [Int.toNat_natCast, e2, Nat.mul_one] at hmk
  have hz0 : (Value.int .i64 0).cells = #[.int .i64 0] := rfl
  rw [hz0] at hmk
  clear e0 e1 e2 e3 hz0
  go_upto_region 6 with fail
  have hb0 := B9.1.size
  have O3 := Az.mk (arr_made (blk_new w9 (.cells (madeCells #[.int .i64 0] es.length) 3)))
  have B3 := Az.mk (below_alloc B9.1 (.cells (madeCells #[.int .i64 0] es.length) 3))
  have K3 := Az.mk (blk_alloc K9.1 (.cells (madeCells #[.int .i64 0] es.length) 3))
  have F3 := Az.mk (Kd.F_alloc V9.1 (.cells (madeCells #[.int .i64 0] es.length) 3))
  have HGA : Az (w.heap.size <= w9.heap.size /\ gb < w9.heap.size) := ⟨hb0, blk_lt K9.1⟩
  clear hmk B9 K9 V9 hb0 hcz
  generalize w9.alloc (.cells (madeCells #[.int .i64 0] es.length) 3) = w10 at O3 B3 K3 F3 ⊢
  generalize w9.heap.size = ga at O3 B3 K3 F3 HGA ⊢
  have hlc := LC.1
  have hll2 : Az ((List.replicate es.length (0 : Int)).length = es.length) := ⟨by simp⟩
  go_wp2_with fail
  go_loopg [6, 27] k (fun kq v6 v27 w' => ∃ (i top : Int) (lv : List Int), v27 = .int .i64 i /\ v6 = .int .i64 top /\ Az (0 <= i) /\ Az (lv.length = es.length) /\ Az (lv0 kq es comps i lv top = some o) /\ Az (kq <= k) /\ Az (Below w.heap.size w w') /\ Az (w'.heap[gb]? = some (.cells #[.slice A es.length c] 49 (0, 0))) /\ Az (w'.heap[ga]? = some (arr lv)) /\ Az (Kd.F KS w' (fun k => w7.heap.size <= k /\ k < ga) Ac comps.length comps))
  case atStart => exact ⟨0, -1, _, rfl, rfl, ⟨by omega⟩, hll2, HLV, ⟨Nat.le_refl _⟩, B3, K3, O3, F3⟩
  case round => as_aux_lemma =>
   clear HLV B3 K3 O3 F3 hll2
   obtain ⟨i, top, lv, rfl, rfl, HI, HLEN, HA, HK1, B3, K3, O3, F3⟩ := hrel
   cases gk with
   | zero => exact absurd HA.1 (by simp [lv0])
   | succ k1 =>
    have H := HA.1
    clear HA
    rw [lv0] at H
    by_cases ci : i < comps.length
    rotate_left
    · as_aux_lemma =>
      rw [if_neg ci] at H
      obtain rfl := Option.some.inj H
      have cb : decide (i < (comps.length : Int)) = false := decide_eq_false ci
      clear H
      by_cases ct : 0 <= wrap64 (top + 1) /\ wrap64 (top + 1) < 5864062014805
      case neg => have := HH.1; simp only at this; rw [if_neg ct] at this; cases this
      have HH1 := HH.1
      simp only at HH1
      rw [if_pos ct] at HH1
      obtain ⟨out0, h3, h4⟩ := Option.map_eq_some_iff.1 HH1
      obtain ⟨rfl, rfl⟩ := Prod.mk.inj h4
      have H3 := Az.mk h3
      obtain ⟨ct0, ct1⟩ := ct
      obtain ⟨n, hn⟩ := Int.eq_ofNat_of_zero_le ct0
      rw [hn] at ct1
      rw [hn, Int.toNat_natCast] at H3
      have HN := Az.mk hn
      clear HH HH1 h3 h4 ct0 hn
      go_upto_region 19 with fail
      have hn := HN.1
      obtain ⟨i0, e0, e1, e2, e3⟩ := info_parts info55
      have hmk := run_make wr 47 55 i0 _ Try.underlying47 e0 e1 .i64 .i64 n n (by omega) (by omega) (by rw [e3]; omega) (by omega)
      rw [Int.toNat_natCast, e2, Nat.mul_one] at hmk
      have hz0 : (Value.slice none 0 0).cells = #[.slice none 0 0] := rfl
      rw [hz0] at hmk
      clear e0 e1 e2 e3 hz0
      go_upto_region 20 with fail
      obtain ⟨W3, rfl⟩ : ∃ W3 : World, W3 = wr := ⟨_, rfl⟩
      have O6 := Az.mk (show (W3.alloc (.cells (madeCells #[.slice none 0 0] n) 55)).heap[ga]? = some (arr lv) from blk_alloc O3.1 (.cells (madeCells #[.slice none 0 0] n) 55))
      have B6 := Az.mk (below_alloc B3.1 (.cells (madeCells #[.slice none 0 0] n) 55))
      have hbs := B3.1.size
      have S6 := Az.mk (S_made (base := w.heap.size) (ok := fun k => W3.heap.size <= k) (blk_new W3 (.cells (madeCells #[.slice none 0 0] n) 55)) hbs (by unfold maxLen; omega) (Nat.le_refl _))
      have HGO : Az (w.heap.size <= W3.heap.size /\ ga < W3.heap.size) := ⟨hbs, blk_lt O3.1⟩
      have hll2 : Az ((List.replicate n ([] : List Int)).length = n) := ⟨by simp⟩
      have HLE : Az (lv.length <= 9223372036854775807) := ⟨by have := HLL.1; rw [HLEN.1]; omega⟩
      clear hmk hn hbs K3 O3 B3 F3
      generalize W3.alloc (.cells (madeCells #[.slice none 0 0] n) 55) = W4 at O6 B6 S6 ⊢
      generalize W3.heap.size = go at S6 HGO ⊢
      have hle := HLE.1
      have hel := HLEN.1
      go_wp2_with fail
      go_loopg [82] k (fun kq v82 w' => ∃ (j : Int) (out : List (List Int)), v82 = .int .i64 j /\ Az (0 <= j) /\ Az (out.length = n) /\ Az (lv3 kq lv j out = some out0) /\ Az (kq <= k) /\ Az (Below w.heap.size w w') /\ Az (w'.heap[ga]? = some (arr lv)) /\ Az (Kd.S KS 55 w' w.heap.size (fun k => go <= k) (.slice (some ⟨go, 0, none⟩) n n) out))
      case atStart => exact ⟨0, _, rfl, ⟨by omega⟩, hll2, H3, ⟨Nat.le_refl _⟩, B6, O6, S6⟩
      case round => as_aux_lemma =>
       clear H3 B6 O6 S6 hll2
       obtain ⟨j, out, rfl, HJ, HLO, HA, HK2, B6, O6, S6⟩ := hrel
       obtain ⟨W5, rfl⟩ : ∃ W5 : World, W5 = wr := ⟨_, rfl⟩
       cases gk with
       | zero => exact absurd HA.1 (by simp [lv3])
       | succ k2 =>
        have H := HA.1
        clear HA
        rw [lv3] at H
        by_cases cj : j < lv.length
        rotate_left
        · as_aux_lemma =>
          rw [if_neg cj] at H
          obtain rfl := Option.some.inj H
          have cbj : decide (j < (es.length : Int)) = false := decide_eq_false (by rw [<- hel]; exact cj)
          clear H
          go_wp2_with fail
          go_ret2
          exact ⟨_, rfl, Kd.S_mono S6.1 (fun _ _ => trivial), B6.1⟩
        as_aux_lemma =>
        rw [if_pos cj] at H
        by_cases cd : 0 <= rd lv j /\ rd lv j < out.length /\ (row out (rd lv j)).length < 17592186044415
        case neg => rw [if_neg cd] at H; cases H
        rw [if_pos cd] at H
        have hj0 := HJ.1
        have cx := arr_cell O6.1 j hj0 cj
        have cj2 : j < (es.length : Int) := by rw [<- hel]; exact cj
        have cbj : decide (j < (es.length : Int)) = true := decide_eq_true cj2
        have qj := eq_true hj0
        generalize rd lv j = d at H cd cx
        obtain ⟨cd0, cd1, cd2⟩ := cd
        rw [HLO.1] at cd1
        have H' := Az.mk H
        clear H
        have q9 := eq_true cd0
        have q10 := eq_true cd1
        go_upto_region 23 with fail
        have hgo := Kd.S_lt S6.1 go (by simp [Value.ownBlock])
        have hgs := B6.1.size
        obtain ⟨v0, oki, x1, x2, x3, x4, x5⟩ := S_upd S6.1 (fun k hk => by omega) d cd0 cd1
        have X3 := Az.mk (Kd.R_mono (ok' := fun k => oki k \/ W5.heap.size <= k) x3 (fun k hk => .inl hk))
        have X4 := Az.mk x4
        have X5 := Az.mk (@x5)
        have X6 := Az.mk x3
        clear x3 x4 x5 cx
        go_wp2_with ((with_reducible refine gate_builtin (b := .append) (xs := #[.tmp 92, .tmp 94]) rfl ?_); at_builtin; refine Kd.R_append (Kd.int .i64) (w0 := W5) w.heap.size rfl (.tmp 92) (.tmp 94) 55 3 (.int .i64 0) 8 rfl Try.underlying55 info3 rfl (by decide) (by omega) v0 (row out d) j [.int .i64 j] (fun k => oki k \/ W5.heap.size <= k) (fun _ => False) rfl rfl rfl (fun _ hk => hk.elim) (fun k hk => .inr hk) X3.1 (Below.refl _ _) ?hs ?hl ?_)
        (case hs => omega)
        (case hl => omega)
        intro v1 w9 ho hb hg hat
        obtain ⟨A9, q9c, rfl⟩ := Kd.R_slice ho
        have hown : ∀ k, v0.ownBlock = some k -> go <= k /\ k ≠ go := fun k hk => X4.1 k (X6.1.1 k hk)
        have hga := HGO.1.2
        have hgw := HGO.1.1
        have O9 := Az.mk (blk_grown O6.1 hg (fun e => by have := (hown ga e.symm).1; omega))
        have B9 := Az.mk (B6.1.grown hg (by omega) (fun k hk => by have := (hown k hk).1; omega))
        have hne9 : some go ≠ v0.ownBlock := fun e => (hown _ e.symm).2 rfl
        have k2 : w9.cell? ⟨go, d.toNat, none⟩ = some v0 := (World.cell?_of_block (hg.block go hgo hne9)).trans x1
        have k3 : w9.frozen? ⟨go, d.toNat, none⟩ = false := (World.frozen?_of_block (hg.block go hgo hne9)).trans x2
        have G9 := Az.mk hg
        have R9 := Az.mk ho
        clear hg ho hb hat hown x1 x2 hne9 B6 O6 S6 X3 X4 X6 hga hgw
        go_upto_region 24 with fail
        obtain ⟨S10, g10⟩ := X5.1 w9 _ _ G9.1 R9.1
        have S11 := Az.mk S10
        have O11 := Az.mk (blk_grown O9.1 g10 (by have := HGO.1.2; intro e; injection e with e; omega))
        have B11 := Az.mk (B9.1.grown g10 (by have := G9.1.size; omega) (fun k hk => by cases hk; exact HGO.1.1))
        have HL11 : Az ((app out d j).length = n) := ⟨by unfold app; simp only [List.length_set]; exact HLO.1⟩
        clear S10 g10 k2 k3 G9 R9 X5 O9 B9 hgs hgo
        have e9 : (row out d ++ [j]).length = (row out d).length + 1 := by simp
        rw [e9] at S11 O11 B11
        clear e9
        generalize w9.setCell ⟨go, d.toNat, none⟩ (.slice A9 ((row out d).length + 1) q9c) = w11 at S11 O11 B11 ⊢
        go_wp2_with fail
        go_roundg k2
        case measure => omega
        case rel => exact ⟨j + 1, _, rfl, ⟨by omega⟩, HL11, H', ⟨by have := HK2.1; omega⟩, B11, O11, S11⟩
    as_aux_lemma =>
    rw [if_pos ci] at H
    by_cases cx : 0 < (row comps i).length /\ 0 <= rd (row comps i) 0 /\ rd (row comps i) 0 < es.length
    case neg => rw [if_neg cx] at H; cases H
    rw [if_pos cx] at H
    obtain ⟨cx0, cx1, cx2⟩ := cx
    have hi0 := HI.1
    obtain ⟨adc, Ar, cr, er, hx, hxl, hxi⟩ := at_L11 (Kd.F_now F3.1) i hi0 ci
    subst er
    have el : rd_L11 comps i = row comps i := rfl
    rw [el] at hx hxl hxi
    have HXI := Az.mk hxi
    have HXL := Az.mk hxl
    obtain ⟨ad0, e0, hy⟩ := Kd.at_int hxi 0 (by omega) (by omega)
    subst e0
    rw [show ((0 : Int)).toNat = 0 from rfl, Addr.add_zero'] at hy
    clear hxi hxl el
    have cb : decide (i < (comps.length : Int)) = true := decide_eq_true ci
    have q0 := eq_true hi0
    have cz : (0 < (row comps i).length) = True := eq_true cx0
    have H' := Az.mk H
    clear H
    go_upto_region 10 with fail
    clear hy hx cz cb q0
    generalize rd (row comps i) 0 = v at H' cx1 cx2 ⊢
    have hcz := (blk_cell K3.1 0)
    have hcy : wr.cell? ⟨gb, 0, none⟩ = some (.slice A es.length c) := hcz.trans rfl
    clear hcz
    by_cases c1 : 1 < (row comps i).length
    · as_aux_lemma =>
      have H := H'.1
      clear H'
      rw [if_pos (Or.inl c1)] at H
      obtain rfl := Option.some.inj H
      obtain ⟨rfl, rfl⟩ := Prod.mk.inj (Option.some.inj HH.1)
      have cb1 : decide ((1 : Int) < ((row comps i).length : Int)) = true := decide_eq_true (by omega)
      clear H HH
      go_wp2_with fail
      go_ret2
      exact ⟨_, rfl, Kd.S_nil _ _ _ _ _, B3.1⟩
    as_aux_lemma =>
    have cb1 : decide ((1 : Int) < ((row comps i).length : Int)) = false := decide_eq_false (by omega)
    obtain ⟨adE, Ae, ce, er, hx, hxl, hxi⟩ := at_L11 HR.1 v cx1 cx2
    subst er
    have el : rd_L11 es v = row es v := rfl
    rw [el] at hx hxl hxi
    have hx1 := (B3.1.cell (World.block_lt_of_cell? _ _ hx)).trans hx
    have HXE := Az.mk hx
    have EXI := Az.mk hxi
    have EXL := Az.mk hxl
    clear hx hxi hxl el
    have q1 := eq_true cx1
    have q2 := eq_true cx2
    have CON := Az.mk (fun (wq : World) (hq : Below w.heap.size w wq) => slices_Contains_int_int.calls ((row es v).length + 1) Ae ce (row es v) v _ wq (Kd.C_below EXI.1 hq) EXL.1 (contains_run _ _ (EXI.1.2.1)))
    by_cases cc1 : (row es v).contains v = true
    · as_aux_lemma =>
      have H := H'.1
      clear H'
      rw [if_pos (Or.inr cc1)] at H
      obtain rfl := Option.some.inj H
      obtain ⟨rfl, rfl⟩ := Prod.mk.inj (Option.some.inj HH.1)
      clear H HH
      rw [cc1] at CON
      go_wp2_with (go_at_call 41; refine (CON.1 wr B3.1).mono ?_; rintro e w11 ⟨rfl, hd11⟩; obtain ⟨⟨nq, rfl⟩⟩ := hd11)
      go_ret2
      exact ⟨_, rfl, Kd.S_nil _ _ _ _ _, pw_below_drewN B3.1 nq⟩
    as_aux_lemma =>
    have cc2 : (row es v).contains v = false := by simpa using cc1
    rw [cc2] at CON
    have H := H'.1
    clear H'
    rw [if_neg (by rintro (h | h); exact c1 h; exact cc1 h)] at H
    obtain ⟨lv2, hl2, H⟩ := Option.bind_eq_some_iff.1 H
    have HL2 := Az.mk hl2
    have H' := Az.mk H
    clear H hl2
    go_upto_region 12 with (go_at_call 41; refine (CON.1 wr B3.1).mono ?_; rintro e w11 ⟨rfl, hd11⟩; obtain ⟨⟨nq, rfl⟩⟩ := hd11)
    have B4 := Az.mk (pw_below_drewN B3.1 nq)
    have K4 := Az.mk (blk_drewN K3.1 nq)
    have O4 := Az.mk (show (wr.drewN nq).heap[ga]? = some (arr lv) from blk_drewN O3.1 nq)
    have F4 := Az.mk (Kd.F_drewN F3.1 nq)
    clear B3 K3 O3 F3 CON hcy hx1
    generalize wr.drewN nq = w12 at B4 K4 O4 F4 ⊢
    have hcy : w12.cell? ⟨gb, 0, none⟩ = some (.slice (some adE) es.length c) := (blk_cell K4.1 0).trans rfl
    have hx1 := (B4.1.cell (World.block_lt_of_cell? _ _ HXE.1)).trans HXE.1
    have hel := EXI.1.2.1
    go_wp2_with fail
    clear hx1 hcy q1 q2
    go_loopg [52] k1 (fun kq v52 w' => ∃ (j : Int) (lv3 : List Int), v52 = .int .i64 j /\ Az (0 <= j) /\ Az (lv3.length = es.length) /\ Az (lv1 kq v (row es v) j lv3 = some lv2) /\ Az (kq <= k1) /\ Az (Below w.heap.size w w') /\ Az (w'.heap[gb]? = some (.cells #[.slice (some adE) es.length c] 49 (0, 0))) /\ Az (w'.heap[ga]? = some (arr lv3)) /\ Az (Kd.F KS w' (fun k => w7.heap.size <= k /\ k < ga) (some adc) comps.length comps))
    case atStart => exact ⟨0, _, rfl, ⟨by omega⟩, HLEN, HL2, ⟨Nat.le_refl _⟩, B4, K4, O4, F4⟩
    case round => as_aux_lemma =>
     clear HL2 B4 K4 O4 F4
     obtain ⟨j, lv3, rfl, HJ, HLEN3, HA, HK2, B4, K4, O4, F4⟩ := hrel
     obtain ⟨W2, rfl⟩ : ∃ W2 : World, W2 = wr := ⟨_, rfl⟩
     cases gk with
     | zero => exact absurd HA.1 (by simp [lv1])
     | succ k2 =>
      have H := HA.1
      clear HA
      rw [lv1] at H
      by_cases cj : j < (row es v).length
      rotate_left
      · as_aux_lemma =>
        rw [if_neg cj] at H
        obtain rfl := Option.some.inj H
        have cbj : decide (j < ((row es v).length : Int)) = false := decide_eq_false cj
        clear H
        have q1 := eq_true cx1
        have q2 := eq_true cx2
        have cv := arr_cell O4.1 v cx1 (by rw [HLEN3.1]; exact cx2)
        go_wp2_with fail
        go_roundg k1
        case measure => omega
        case rel => exact ⟨i + 1, _, _, rfl, rfl, ⟨by have := HI.1; omega⟩, HLEN3, H', ⟨by have := HK1.1; omega⟩, B4, K4, O4, F4⟩
      as_aux_lemma =>
      rw [if_pos cj] at H
      by_cases cd : 0 <= rd (row es v) j /\ rd (row es v) j < lv3.length
      case neg => rw [if_neg cd] at H; cases H
      rw [if_pos cd] at H
      have hj0 := HJ.1
      obtain ⟨adj, ej, hx⟩ := Kd.at_int EXI.1 j hj0 cj
      subst ej
      have hxj := (B4.1.cell (World.block_lt_of_cell? _ _ hx)).trans hx
      clear hx
      generalize rd (row es v) j = d at H cd hxj
      obtain ⟨cd0, cd1⟩ := cd
      have H' := Az.mk H
      clear H
      have cbj : decide (j < ((row es v).length : Int)) = true := decide_eq_true cj
      have qj := eq_true hj0
      have q1 := eq_true cx1
      have q2 := eq_true cx2
      have q3 := eq_true cd0
      have q4 : (d < (es.length : Int)) = True := eq_true (by rw [<- HLEN3.1]; exact cd1)
      have cv := arr_cell O4.1 v cx1 (by rw [HLEN3.1]; exact cx2)
      have cdd := arr_cell O4.1 d cd0 cd1
      have fv := arr_free O4.1 v.toNat
      go_upto_region 15 with fail
      go_region
      have B5 := Az.mk (below_drew (B4.1.setCell (show w.heap.size <= (⟨ga, v.toNat, none⟩ : Addr).block from HGA.1.1) (.int .i64 (max (rd lv3 v) (wrap64 (rd lv3 d + 1))))))
      have K5 := Az.mk (blk_drew (blk_far K4.1 (p := ⟨ga, v.toNat, none⟩) (show gb ≠ ga from Nat.ne_of_lt HGA.1.2) (.int .i64 (max (rd lv3 v) (wrap64 (rd lv3 d + 1))))))
      have O5 := Az.mk (show (W2.setCell ⟨ga, v.toNat, none⟩ (.int .i64 (max (rd lv3 v) (wrap64 (rd lv3 d + 1))))).drew.heap[ga]? = some (arr (lv3.set v.toNat (max (rd lv3 v) (wrap64 (rd lv3 d + 1))))) from by unfold arr; rw [<- nums_set]; exact blk_drew (blk_set O4.1 v.toNat _))
      have F5 := Az.mk (Kd.F_drew (Kd.F_far (p := ⟨ga, v.toNat, none⟩) F4.1 (fun k hk => show k ≠ ga from Nat.ne_of_lt hk.2) (.int .i64 (max (rd lv3 v) (wrap64 (rd lv3 d + 1))))))
      have L5 : Az ((lv3.set v.toNat (max (rd lv3 v) (wrap64 (rd lv3 d + 1)))).length = es.length) := ⟨by rw [List.length_set]; exact HLEN3.1⟩
      clear B4 K4 O4 F4 cv cdd fv hxj HLEN3
      generalize (W2.setCell ⟨ga, v.toNat, none⟩ (.int .i64 (max (rd lv3 v) (wrap64 (rd lv3 d + 1))))).drew = w13 at B5 K5 O5 F5 ⊢
      go_wp2_with fail
      go_roundg k2
      case measure => omega
      case rel => exact ⟨j + 1, _, rfl, ⟨by omega⟩, L5, H', ⟨by have := HK2.1; omega⟩, B5, K5, O5, F5⟩
end Lv
end Go.Proofs.Ytmadhaccjmakdaa
namespace Go.Proofs.Ytmadhaccjmakdaa
open Go.RowKit Go.Proofs.Yw.A Go.Proofs.Yw.B Go.Proofs.Yw.C Go.Proofs.Ytmadhaccjmakdaa.P
namespace P
noncomputable def g_Levels.f (l : List (List Int)) : Option (List (List Int) × Int) := Od.lim fun k => Lv.levelsF k l
theorem g_Levels.calls (A0_0 : Option Addr) (c0_0 : Nat) (l0_0 : List (List Int)) (r1 : List (List Int)) (r2 : Int) (w : World) (hr0_0 : Kd.C (Kd.slice 3 (Kd.int .i64)) w A0_0 l0_0.length l0_0) (hc0_0 : l0_0.length <= c0_0) (h : g_Levels.f l0_0 = some (r1, r2)) :
    Calls Try.prog 30 #[.agg #[.slice A0_0 l0_0.length c0_0]] w fun e w' => ∃ v0_ : Value, e = .returned (.tuple #[v0_, .int .i64 r2]) /\ Kd.S (Kd.slice 3 (Kd.int .i64)) 55 w' w.heap.size (fun _ => True) v0_ r1 /\ Below w.heap.size w w' := by
  obtain ⟨k0, h0⟩ := Od.lim_some h
  exact Lv.levels_calls k0 A0_0 c0_0 l0_0 r1 r2 w hr0_0 hc0_0 (h0 k0 (Nat.le_refl _))
end P
end Go.Proofs.Ytmadhaccjmakdaa
namespace Go.Proofs.Ytmadhaccjmakdaa.P
open Go.RowKit Go.Proofs.Yw.A Go.Proofs.Yw.A.Kd Go.Proofs.Yw.B Go.Proofs.Yw.C
attribute [local go_sem] str_gtr str_leq str_geq max2_int min2_int max_two min_two max_three min_three max_four min_four
noncomputable def g_Components.f (k : Nat) (l0_0 : List (List Int)) : Option ((List (List Int))) := (g_valid.f k l0_0).bind fun t167 => (if t167 = true then ((g_ordered.f l0_0).bind fun t168 => (some t168)) else (some ([] : List (List Int))))
theorem g_Components.calls (k : Nat) (A0_0 : Option Addr) (c0_0 : Nat) (l0_0 : List (List Int)) (r : List (List Int)) (w : World) (hr0_0 : Kd.C (Kd.slice 3 (Kd.int .i64)) w A0_0 l0_0.length l0_0) (hc0_0 : l0_0.length <= c0_0) (h : g_Components.f k l0_0 = some r) :
 Calls Try.prog 25 #[.agg #[.slice A0_0 l0_0.length c0_0]] w fun e w' => ∃ v0_ : Value, e = .returned (v0_) /\ Kd.V (Kd.slice 3 (Kd.int .i64)) 55 w' w.heap.size (fun k_ => (w.heap.size <= k_)) v0_ r /\ Below w.heap.size w w' := by
 have hu49 := Try.underlying49
 have HR0_0 := aM hr0_0
 have HC0_0 := aM hc0_0
 clear hr0_0 hc0_0
 have HB := aM (Below.refl w.heap.size w)
 have H : ((g_valid.f k l0_0).bind fun t167 => (if t167 = true then ((g_ordered.f l0_0).bind fun t168 => (some t168)) else (some ([] : List (List Int))))) = some r := h
 clear h
 replace H := Option.bind_eq_some_iff.mp H
 obtain ⟨t167, A20, H⟩ := H
 try dsimp only at H
 have A2 := aM A20
 clear A20
 by_cases c3 : t167 = true
 rotate_left
 · replace c3 := Bool.eq_false_iff.mpr c3
   subst c3
   rw [if_neg (show ¬ (false = true) by decide)] at H
   obtain rfl := Option.some.inj H
   go_enter Try.func25, Try.ntmps25
   go_wp2_with (first | ((with_reducible refine gate_dst (N := 1) rfl ?_); refine be 1 rfl rfl #[.slice A0_0 l0_0.length c0_0] 49 ?_; intro gb166 hg w10 hbox hb; have BK166 := aM hbox; have GE166 := gs hg HB; replace HB := bs HB hb; clear hb hbox hg; have hcz11_0 : w10.cell? ⟨gb166, 0, none⟩ = some (.slice A0_0 l0_0.length c0_0) := (blk_cell BK166.1 0).trans rfl; have hfz11_0 := blk_frozen BK166.1 0) | ((with_reducible refine gate_callee (f := 39) rfl ?_); refine gL (some 4) rfl rfl Try.func39 (by kernel_rfl) rfl #[.agg #[.slice A0_0 l0_0.length c0_0]] rfl ?_; (with_reducible refine (g_valid.calls k _ _ l0_0 false _ ?side1 ?side2 A2.1).mono ?_); (case side1 => exact cb HR0_0 HB); (case side2 => exact HC0_0.1); rintro e w12 ⟨rfl, hb⟩; refine ⟨_, rfl, ?_⟩; replace BK166 := kb BK166 hb; replace HB := bs HB hb; clear hb))
   go_ret
   exact ⟨_, by first | rfl | (simp [errW_none, errW_some] <;> rfl) | (simp [*, errW_none, errW_some] <;> rfl), (by first | exact V_nil _ _ _ _ _ | exact S_V (S_nil _ _ 0 _ _) | exact N_nil _ _ _ _ _ | exact V_nil _ _ _ _ _ | exact Q_nil _ _ _ _ _ | exact R_nil _ _ _ _ _), hh HB⟩
 subst c3
 rw [if_pos rfl] at H
 replace H := Option.bind_eq_some_iff.mp H
 obtain ⟨t168, A40, H⟩ := H
 try dsimp only at H
 have A4 := aM A40
 clear A40
 obtain rfl := Option.some.inj H
 go_enter Try.func25, Try.ntmps25
 go_wp2_with (first | ((with_reducible refine gate_dst (N := 1) rfl ?_); refine be 1 rfl rfl #[.slice A0_0 l0_0.length c0_0] 49 ?_; intro gb166 hg w5 hbox hb; have BK166 := aM hbox; have GE166 := gs hg HB; replace HB := bs HB hb; clear hb hbox hg; have hcz6_0 : w5.cell? ⟨gb166, 0, none⟩ = some (.slice A0_0 l0_0.length c0_0) := (blk_cell BK166.1 0).trans rfl; have hfz6_0 := blk_frozen BK166.1 0) | ((with_reducible refine gate_callee (f := 39) rfl ?_); refine gL (some 4) rfl rfl Try.func39 (by kernel_rfl) rfl #[.agg #[.slice A0_0 l0_0.length c0_0]] rfl ?_; (with_reducible refine (g_valid.calls k _ _ l0_0 true _ ?side1 ?side2 A2.1).mono ?_); (case side1 => exact cb HR0_0 HB); (case side2 => exact HC0_0.1); rintro e w7 ⟨rfl, hb⟩; refine ⟨_, rfl, ?_⟩; replace BK166 := kb BK166 hb; replace HB := bs HB hb; clear hb; have hcz8_0 : w7.cell? ⟨gb166, 0, none⟩ = some (.slice A0_0 l0_0.length c0_0) := (blk_cell BK166.1 0).trans rfl; have hfz8_0 := blk_frozen BK166.1 0) | ((with_reducible refine gate_callee (f := 40) rfl ?_); refine gL (some 8) rfl rfl Try.func40 (by kernel_rfl) rfl #[.slice A0_0 l0_0.length c0_0] rfl ?_; (with_reducible refine (g_ordered.calls _ _ l0_0 t168 _ ?side1 ?side2 A4.1).mono ?_); (case side1 => exact cb HR0_0 HB); (case side2 => exact HC0_0.1); rintro e w9 ⟨v169, rfl, ho0, hb⟩; refine ⟨_, rfl, ?_⟩; have HO170 := aM (V_lower (V_mono (ok' := fun k_ => (w.heap.size <= k_) /\ k_ ≠ gb166) ho0 (fun k_ hk_ => ⟨(Nat.le_trans (below_size (hh HB)) hk_), (Kd.freshB (g := gb166) (o := .cells #[.slice A0_0 l0_0.length c0_0] 49 (0, 0)) (kk BK166) k_ hk_)⟩)) (below_size (hh HB))); replace BK166 := kb BK166 hb; replace HB := bs HB hb; clear hb ho0))
 go_ret
 exact ⟨_, by first | rfl | (simp [errW_none, errW_some] <;> rfl) | (simp [*, errW_none, errW_some] <;> rfl), by (with_reducible repeat (first | apply V_alloc | apply V_drewN | apply V_drew)); exact V_mono HO170.1 (fun _ hk => hk.1), hh HB⟩
noncomputable def m_Order.l0 : Nat -> List ByteArray -> List (List Int) -> Int -> Int -> List ByteArray -> List (List Int) -> Option (List ByteArray × Int × ByteArray × Int × Int)
 | 0, _, _, _, _, _, _ => none
 | k + 1, x6, x20, x21, x22, x189000, x189001 => if x22 < x21 then (if 0 <= x22 then (if x22 < (x20.length : Int) then ((p_named.f k x189000 x189001 (rd_L11 x20 x22)).bind fun t194 => (if x6.length + t194.length < 8796093022208 then (m_Order.l0 k (x6 ++ t194) x20 x21 (wrap64 (x22 + 1)) x189000 x189001) else (none))) else (none)) else (none)) else (some (x6, 0, (⟨#[]⟩ : ByteArray), 0, 0))
noncomputable def m_Order.f (k : Nat) (l0 : List (S42)) : Option (List ByteArray × Int × ByteArray × Int × Int) := (m_acyclic.f k l0).bind fun bt178 => (if bt178.2.2.1 = 0 then ((g_Components.f k bt178.2.1).bind fun t190 => (m_Order.l0 k ([] : List ByteArray) t190 (t190.length : Int) 0 bt178.1 bt178.2.1)) else (some (([] : List ByteArray), bt178.2.2.1, bt178.2.2.2.1, bt178.2.2.2.2.1, bt178.2.2.2.2.2)))
theorem m_Order.calls (k : Nat) (A0 : Option Addr) (c0 : Nat) (l0 : List (S42)) (r1 : List ByteArray) (r2 : Int) (r3 : ByteArray) (r4 : Int) (r5 : Int) (w : World) (hr0 : Kd.C k42 w A0 l0.length l0) (hc0 : l0.length <= c0) (h : m_Order.f k l0 = some (r1, r2, r3, r4, r5)) :
 Calls Try.prog 10 #[.slice A0 l0.length c0] w fun e w' => ∃ v0_ : Value, e = .returned (.tuple #[v0_, .agg #[.int .i64 r2, .string r3, .int .i64 r4, .int .i64 r5]]) /\ Kd.R Kd.string 9 w' w.heap.size (fun _ => True) v0_ r1 /\ Below w.heap.size w w' := by
 have hu28 := Try.underlying28
 have hu51 := Try.underlying51
 have hu49 := Try.underlying49
 have HR0 := aM hr0
 have HC0 := aM hc0
 clear hr0 hc0
 have HB := aM (Below.refl w.heap.size w)
 have H : ((m_acyclic.f k l0).bind fun bt178 => (if bt178.2.2.1 = 0 then ((g_Components.f k bt178.2.1).bind fun t190 => (m_Order.l0 k ([] : List ByteArray) t190 (t190.length : Int) 0 bt178.1 bt178.2.1)) else (some (([] : List ByteArray), bt178.2.2.1, bt178.2.2.2.1, bt178.2.2.2.2.1, bt178.2.2.2.2.2)))) = some (r1, r2, r3, r4, r5) := h
 clear h
 replace H := Option.bind_eq_some_iff.mp H
 obtain ⟨⟨t178, t181, t184, t185, t186, t187⟩, A20, H⟩ := H
 replace H : (if t184 = 0 then ((g_Components.f k t181).bind fun t190 => (m_Order.l0 k ([] : List ByteArray) t190 (t190.length : Int) 0 t178 t181)) else (some (([] : List ByteArray), t184, t185, t186, t187))) = some (r1, r2, r3, r4, r5) := H
 have A2 := aM A20
 clear A20
 by_cases c3 : t184 = 0
 rotate_left
 · rw [if_neg c3] at H
   have c3b0 : (t184 == 0) = false := beq_eq_false_iff_ne.mpr c3
   have c3b1 : (t184 != 0) = true := bne_iff_ne.mpr c3
   simp only [Option.some.injEq, Prod.mk.injEq] at H
   obtain ⟨rfl, rfl, rfl, rfl, rfl⟩ := H
   go_enter Try.func10, Try.ntmps10
   try go_wp2_with (first | ((with_reducible refine gate_dst (N := 3) rfl ?_); refine be 3 rfl rfl #[.int .i64 0, .string (⟨#[]⟩ : ByteArray), .int .i64 0, .int .i64 0] 28 ?_; intro gb177 hg w32 hbox hb; have BK177 := aM hbox; have GE177 := gs hg HB; replace HB := bs HB hb; clear hb hbox hg) | ((with_reducible refine gate_callee (f := 24) rfl ?_); refine gL (some 11) rfl rfl Try.func24 (by kernel_rfl) rfl #[.slice A0 l0.length c0] rfl ?_; (with_reducible refine (m_acyclic.calls k _ _ l0 t178 t181 t184 t185 t186 t187 _ ?side1 ?side2 A2.1).mono ?_); (case side1 => exact cb HR0 HB); (case side2 => exact HC0.1); rintro e w33 ⟨v179, v182, rfl, ho0, ho1, hb⟩; refine ⟨_, rfl, ?_⟩; have HO180 := aM (R_lower ho0 (below_size (hh HB))); have HO183 := aM (S_lower ho1 (below_size (hh HB))); replace BK177 := kb BK177 hb; replace HB := bs HB hb; clear hb ho0 ho1) | ((with_reducible refine gate_dst (N := 4) rfl ?_); refine be 4 rfl rfl #[.slice none 0 0, .slice none 0 0] 51 ?_; intro gb188 hg w34 hbox hb; have BK188 := aM hbox; have GE188 := gs hg HB; have NB177_188 := nl hg BK177; have NB188_177 := nr hg BK177; replace HO180 := rb HO180 hb; replace HO183 := sb HO183 hb; replace BK177 := kb BK177 hb; replace HB := bs HB hb; clear hb hbox hg) | ((with_reducible refine gate_dst (N := 5) rfl ?_); refine be 5 rfl rfl #[.int .i64 0, .string (⟨#[]⟩ : ByteArray), .int .i64 0, .int .i64 0] 28 ?_; intro gb189 hg w35 hbox hb; have BK189 := aM hbox; have GE189 := gs hg HB; have NB177_189 := nl hg BK177; have NB189_177 := nr hg BK177; have NB188_189 := nl hg BK188; have NB189_188 := nr hg BK188; replace HO180 := rb HO180 hb; replace HO183 := sb HO183 hb; replace BK177 := kb BK177 hb; replace BK188 := kb BK188 hb; replace HB := bs HB hb; clear hb hbox hg; obtain ⟨Ao36, co36, eo36⟩ := R_slice HO180.1; subst eo36; have hnb37 := NB188_177.1; have hnc37 := NB177_188.1; have hnb38 := NB188_189.1; have hnc38 := NB189_188.1; obtain ⟨hcz39_0, hcz39_1⟩ := cz2 BK188; obtain ⟨hfz39_0, hfz39_1⟩ := fz2 BK188; obtain ⟨Ao40, co40, eo40⟩ := S_slice HO183.1; subst eo40; have hnb41 := NB189_177.1; have hnc41 := NB177_189.1; obtain ⟨hcz42_0, hcz42_1, hcz42_2, hcz42_3⟩ := cz BK189; obtain ⟨hfz42_0, hfz42_1, hfz42_2, hfz42_3⟩ := fz BK189))
   have n0_ : Az (Kd.R Kd.string 9 ((((((w35.setCell ⟨gb188, 0, none⟩ (.slice Ao36 t178.length co36)).setCell ⟨gb188, 1, none⟩ (.slice Ao40 t181.length co40)).setCell ⟨gb189, 0, none⟩ (.int .i64 t184)).setCell ⟨gb189, 1, none⟩ (.string t185)).setCell ⟨gb189, 2, none⟩ (.int .i64 t186)).setCell ⟨gb189, 3, none⟩ (.int .i64 t187)) w.heap.size (fun _ => True) (.slice Ao36 t178.length co36) t178) := ⟨rz (R_mono (R_far (p := ⟨gb189, 3, none⟩) (R_far (p := ⟨gb189, 2, none⟩) (R_far (p := ⟨gb189, 1, none⟩) (R_far (p := ⟨gb189, 0, none⟩) (R_far (p := ⟨gb188, 1, none⟩) (R_far (p := ⟨gb188, 0, none⟩) (R_types (R_types HO180.1 BK188.1 (by decide)) BK189.1 (by decide)) (fun _ hk => hk.1.2) (.slice Ao36 t178.length co36)) (fun _ hk => hk.1.2) (.slice Ao40 t181.length co40)) (fun _ hk => hk.2) (.int .i64 t184)) (fun _ hk => hk.2) (.string t185)) (fun _ hk => hk.2) (.int .i64 t186)) (fun _ hk => hk.2) (.int .i64 t187)) (fun _ hk => trivial))⟩
   have n1_ : Az (Kd.S (Kd.slice 3 (Kd.int .i64)) 55 ((((((w35.setCell ⟨gb188, 0, none⟩ (.slice Ao36 t178.length co36)).setCell ⟨gb188, 1, none⟩ (.slice Ao40 t181.length co40)).setCell ⟨gb189, 0, none⟩ (.int .i64 t184)).setCell ⟨gb189, 1, none⟩ (.string t185)).setCell ⟨gb189, 2, none⟩ (.int .i64 t186)).setCell ⟨gb189, 3, none⟩ (.int .i64 t187)) w.heap.size (fun _ => True) (.slice Ao40 t181.length co40) t181) := ⟨sz (S_mono (S_far (p := ⟨gb189, 3, none⟩) (S_far (p := ⟨gb189, 2, none⟩) (S_far (p := ⟨gb189, 1, none⟩) (S_far (p := ⟨gb189, 0, none⟩) (S_far (p := ⟨gb188, 1, none⟩) (S_far (p := ⟨gb188, 0, none⟩) (S_types (S_types HO183.1 BK188.1 (by decide)) BK189.1 (by decide)) (fun _ hk => hk.1.2) (.slice Ao36 t178.length co36)) (fun _ hk => hk.1.2) (.slice Ao40 t181.length co40)) (fun _ hk => hk.2) (.int .i64 t184)) (fun _ hk => hk.2) (.string t185)) (fun _ hk => hk.2) (.int .i64 t186)) (fun _ hk => hk.2) (.int .i64 t187)) (fun _ hk => trivial))⟩
   have n2_ : Az (((((((w35.setCell ⟨gb188, 0, none⟩ (.slice Ao36 t178.length co36)).setCell ⟨gb188, 1, none⟩ (.slice Ao40 t181.length co40)).setCell ⟨gb189, 0, none⟩ (.int .i64 t184)).setCell ⟨gb189, 1, none⟩ (.string t185)).setCell ⟨gb189, 2, none⟩ (.int .i64 t186)).setCell ⟨gb189, 3, none⟩ (.int .i64 t187)).heap[gb177]? = some (.cells #[.int .i64 0, .string (⟨#[]⟩ : ByteArray), .int .i64 0, .int .i64 0] 28 (0, 0))) := ⟨kf BK177⟩
   have n3_ : Az (((((((w35.setCell ⟨gb188, 0, none⟩ (.slice Ao36 t178.length co36)).setCell ⟨gb188, 1, none⟩ (.slice Ao40 t181.length co40)).setCell ⟨gb189, 0, none⟩ (.int .i64 t184)).setCell ⟨gb189, 1, none⟩ (.string t185)).setCell ⟨gb189, 2, none⟩ (.int .i64 t186)).setCell ⟨gb189, 3, none⟩ (.int .i64 t187)).heap[gb188]? = some (.cells #[.slice Ao36 t178.length co36, .slice Ao40 t181.length co40] 51 (0, 0))) := ⟨kf BK188⟩
   have n4_ : Az (((((((w35.setCell ⟨gb188, 0, none⟩ (.slice Ao36 t178.length co36)).setCell ⟨gb188, 1, none⟩ (.slice Ao40 t181.length co40)).setCell ⟨gb189, 0, none⟩ (.int .i64 t184)).setCell ⟨gb189, 1, none⟩ (.string t185)).setCell ⟨gb189, 2, none⟩ (.int .i64 t186)).setCell ⟨gb189, 3, none⟩ (.int .i64 t187)).heap[gb189]? = some (.cells #[.int .i64 t184, .string t185, .int .i64 t186, .int .i64 t187] 28 (0, 0))) := ⟨kf BK189⟩
   have n5_ : Az (Below w.heap.size w ((((((w35.setCell ⟨gb188, 0, none⟩ (.slice Ao36 t178.length co36)).setCell ⟨gb188, 1, none⟩ (.slice Ao40 t181.length co40)).setCell ⟨gb189, 0, none⟩ (.int .i64 t184)).setCell ⟨gb189, 1, none⟩ (.string t185)).setCell ⟨gb189, 2, none⟩ (.int .i64 t186)).setCell ⟨gb189, 3, none⟩ (.int .i64 t187))) := ⟨hh HB⟩
   (clear HO180)
   (clear HO183)
   (clear BK177)
   (clear BK188)
   (clear BK189)
   (clear HB)
   generalize ((((((w35.setCell ⟨gb188, 0, none⟩ (.slice Ao36 t178.length co36)).setCell ⟨gb188, 1, none⟩ (.slice Ao40 t181.length co40)).setCell ⟨gb189, 0, none⟩ (.int .i64 t184)).setCell ⟨gb189, 1, none⟩ (.string t185)).setCell ⟨gb189, 2, none⟩ (.int .i64 t186)).setCell ⟨gb189, 3, none⟩ (.int .i64 t187)) = w43 at n0_ n1_ n2_ n3_ n4_ n5_ ⊢
   have HO180 := n0_
   have HO183 := n1_
   have BK177 := n2_
   have BK188 := n3_
   have BK189 := n4_
   have HB := n5_
   clear n0_ n1_ n2_ n3_ n4_ n5_
   replace HO180 := aM (R_drew HO180.1)
   replace HO183 := aM (S_drew HO183.1)
   replace BK177 := aM (blk_drew BK177.1)
   replace BK188 := aM (blk_drew BK188.1)
   replace BK189 := aM (blk_drew BK189.1)
   replace HB := aM (below_drew1 HB.1)
   refine start_ (n := 3) (S := fun w' => w'.cell? ⟨gb189, 0, none⟩ = some (.int .i64 t184) /\ w'.cell? ⟨gb189, 1, none⟩ = some (.string t185) /\ w'.cell? ⟨gb189, 2, none⟩ = some (.int .i64 t186) /\ w'.cell? ⟨gb189, 3, none⟩ = some (.int .i64 t187)) (ds := []) #[F_, F_, F_] (by kernel_rfl) rfl rfl ⟨(blk_cell BK189.1 0).trans rfl, (blk_cell BK189.1 1).trans rfl, (blk_cell BK189.1 2).trans rfl, (blk_cell BK189.1 3).trans rfl⟩ (fun hHeld => ?_)
   generalize w43.drew = w44 at HO180 HO183 BK177 BK188 BK189 HB hHeld ⊢
   refine pure_ (i := 1) (N := some 2) (v := ?_) (a' := ?_) #[F_, T_, F_] rfl rfl (by kernel_rfl) (fun _ _ _ h => h) (Or.inl ⟨by rfl, ?_⟩) ?_ ?_
   rotate_left
   · intro w'
     go_simp
     with_reducible rfl
   rotate_left
   · simp only [Act.put, sA, sZ, sS, i64_w, i32_w]
     rfl
   refine take_ (i := 0) (N := some 17) (v := ?_) (a' := ?_) #[T_, T_, F_] rfl rfl (by kernel_rfl) (fun _ _ _ h => h) (Or.inl ⟨by rfl, ?_⟩) hHeld ?_ ?_
   rotate_left
   · rintro w' ⟨s0, s1, s2, s3⟩
     go_simp
     with_reducible rfl
   rotate_left
   · simp only [Act.put, sA, sZ, sS, i64_w, i32_w]
     rfl
   refine one_ (i := 2) (N := none) #[T_, T_, T_] rfl rfl (by kernel_rfl) (by decide) (fun K hK => ?_)
   have hs45 : w44.cell? ⟨gb177, 0, none⟩ = some (.int .i64 0) := (blk_cell BK177.1 0).trans rfl
   have hfs45 := blk_frozen BK177.1 0
   have hns45_1 := NB188_177.1
   have hns45_2 := NB189_177.1
   have hms45_1 := NB177_188.1
   have hms45_2 := NB177_189.1
   have hs46 : w44.cell? ⟨gb177, 1, none⟩ = some (.string (⟨#[]⟩ : ByteArray)) := (blk_cell BK177.1 1).trans rfl
   have hfs46 := blk_frozen BK177.1 1
   have hns46_1 := NB188_177.1
   have hns46_2 := NB189_177.1
   have hms46_1 := NB177_188.1
   have hms46_2 := NB177_189.1
   have hs47 : w44.cell? ⟨gb177, 2, none⟩ = some (.int .i64 0) := (blk_cell BK177.1 2).trans rfl
   have hfs47 := blk_frozen BK177.1 2
   have hns47_1 := NB188_177.1
   have hns47_2 := NB189_177.1
   have hms47_1 := NB177_188.1
   have hms47_2 := NB177_189.1
   have hs48 : w44.cell? ⟨gb177, 3, none⟩ = some (.int .i64 0) := (blk_cell BK177.1 3).trans rfl
   have hfs48 := blk_frozen BK177.1 3
   have hns48_1 := NB188_177.1
   have hns48_2 := NB189_177.1
   have hms48_1 := NB177_188.1
   have hms48_2 := NB177_189.1
   refine skip_ (w1 := ?_) (by rfl) rfl ?_ ?_
   rotate_left
   · go_simp
     rfl
   refine hK.out _ _ ⟨((cell_far (p := ⟨gb177, _, none⟩) NB189_177.1 _).trans (((cell_far (p := ⟨gb177, _, none⟩) NB189_177.1 _).trans (((cell_far (p := ⟨gb177, _, none⟩) NB189_177.1 _).trans (((cell_far (p := ⟨gb177, _, none⟩) NB189_177.1 _).trans (hHeld.1)))))))), ((cell_far (p := ⟨gb177, _, none⟩) NB189_177.1 _).trans (((cell_far (p := ⟨gb177, _, none⟩) NB189_177.1 _).trans (((cell_far (p := ⟨gb177, _, none⟩) NB189_177.1 _).trans (((cell_far (p := ⟨gb177, _, none⟩) NB189_177.1 _).trans (hHeld.2.1)))))))), ((cell_far (p := ⟨gb177, _, none⟩) NB189_177.1 _).trans (((cell_far (p := ⟨gb177, _, none⟩) NB189_177.1 _).trans (((cell_far (p := ⟨gb177, _, none⟩) NB189_177.1 _).trans (((cell_far (p := ⟨gb177, _, none⟩) NB189_177.1 _).trans (hHeld.2.2.1)))))))), ((cell_far (p := ⟨gb177, _, none⟩) NB189_177.1 _).trans (((cell_far (p := ⟨gb177, _, none⟩) NB189_177.1 _).trans (((cell_far (p := ⟨gb177, _, none⟩) NB189_177.1 _).trans (((cell_far (p := ⟨gb177, _, none⟩) NB189_177.1 _).trans (hHeld.2.2.2))))))))⟩ (fun hHeld => ?_)
   clear hK K
   refine done_ (by kernel_rfl) ?_
   try go_wp2
   refine bodyPost_ret (results_tc rfl _ _ gb177 28 #[.int .i64 t184, .string t185, .int .i64 t186, .int .i64 t187] (0, 0) _ rfl (kf BK177) Try.underlying28 rfl (by kernel_rfl)) rfl ?_
   exact ⟨_, by first | rfl | (simp [errW_none, errW_some] <;> rfl) | (simp [*, errW_none, errW_some] <;> rfl), by first | exact R_nil _ _ _ _ _ | exact N_nil _ _ _ _ _ | exact V_nil _ _ _ _ _ | exact Q_nil _ _ _ _ _ | exact S_nil _ _ _ _ _, hh HB⟩
 rw [if_pos c3] at H
 have c3b0 : (t184 == 0) = true := beq_iff_eq.mpr c3
 have c3b1 : (t184 != 0) = false := bne_eq_false_iff_eq.mpr c3
 clear c3
 replace H := Option.bind_eq_some_iff.mp H
 obtain ⟨t190, A40, H⟩ := H
 replace H : (m_Order.l0 k ([] : List ByteArray) t190 (t190.length : Int) 0 t178 t181) = some (r1, r2, r3, r4, r5) := H
 have A4 := aM A40
 clear A40
 have H' := aM H
 clear H
 go_enter Try.func10, Try.ntmps10
 go_wp2_with (first | ((with_reducible refine gate_dst (N := 3) rfl ?_); refine be 3 rfl rfl #[.int .i64 0, .string (⟨#[]⟩ : ByteArray), .int .i64 0, .int .i64 0] 28 ?_; intro gb177 hg w5 hbox hb; have BK177 := aM hbox; have GE177 := gs hg HB; replace HB := bs HB hb; clear hb hbox hg) | ((with_reducible refine gate_callee (f := 24) rfl ?_); refine gL (some 11) rfl rfl Try.func24 (by kernel_rfl) rfl #[.slice A0 l0.length c0] rfl ?_; (with_reducible refine (m_acyclic.calls k _ _ l0 t178 t181 t184 t185 t186 t187 _ ?side1 ?side2 A2.1).mono ?_); (case side1 => exact cb HR0 HB); (case side2 => exact HC0.1); rintro e w6 ⟨v179, v182, rfl, ho0, ho1, hb⟩; refine ⟨_, rfl, ?_⟩; have HO180 := aM (R_lower ho0 (below_size (hh HB))); have HO183 := aM (S_lower ho1 (below_size (hh HB))); replace BK177 := kb BK177 hb; replace HB := bs HB hb; clear hb ho0 ho1) | ((with_reducible refine gate_dst (N := 4) rfl ?_); refine be 4 rfl rfl #[.slice none 0 0, .slice none 0 0] 51 ?_; intro gb188 hg w7 hbox hb; have BK188 := aM hbox; have GE188 := gs hg HB; have NB177_188 := nl hg BK177; have NB188_177 := nr hg BK177; replace HO180 := rb HO180 hb; replace HO183 := sb HO183 hb; replace BK177 := kb BK177 hb; replace HB := bs HB hb; clear hb hbox hg) | ((with_reducible refine gate_dst (N := 5) rfl ?_); refine be 5 rfl rfl #[.int .i64 0, .string (⟨#[]⟩ : ByteArray), .int .i64 0, .int .i64 0] 28 ?_; intro gb189 hg w8 hbox hb; have BK189 := aM hbox; have GE189 := gs hg HB; have NB177_189 := nl hg BK177; have NB189_177 := nr hg BK177; have NB188_189 := nl hg BK188; have NB189_188 := nr hg BK188; replace HO180 := rb HO180 hb; replace HO183 := sb HO183 hb; replace BK177 := kb BK177 hb; replace BK188 := kb BK188 hb; replace HB := bs HB hb; clear hb hbox hg; obtain ⟨Ao9, co9, eo9⟩ := R_slice HO180.1; subst eo9; have hnb10 := NB188_177.1; have hnc10 := NB177_188.1; have hnb11 := NB188_189.1; have hnc11 := NB189_188.1; obtain ⟨hcz12_0, hcz12_1⟩ := cz2 BK188; obtain ⟨hfz12_0, hfz12_1⟩ := fz2 BK188; obtain ⟨Ao13, co13, eo13⟩ := S_slice HO183.1; subst eo13; have hnb14 := NB189_177.1; have hnc14 := NB177_189.1; obtain ⟨hcz15_0, hcz15_1, hcz15_2, hcz15_3⟩ := cz BK189; obtain ⟨hfz15_0, hfz15_1, hfz15_2, hfz15_3⟩ := fz BK189) | ((with_reducible refine gate_callee (f := 25) rfl ?_); refine gL (some 20) rfl rfl Try.func25 (by kernel_rfl) rfl #[.agg #[.slice Ao13 t181.length co13]] rfl ?_; (with_reducible refine (g_Components.calls k _ _ t181 t190 _ ?side1 ?side2 A4.1).mono ?_); (case side1 => exact c3 (sf24 HO183 BK188 (by decide) BK189 (by decide))); (case side2 => exact (S_reads' HO183.1).2.1); rintro e w16 ⟨v191, rfl, ho0, hb⟩; refine ⟨_, rfl, ?_⟩; have HO192 := aM (V_lower (V_mono (ok' := fun k_ => some k_ ≠ (.slice Ao9 t178.length co9 : Value).ownBlock /\ some k_ ≠ (.slice Ao13 t181.length co13 : Value).ownBlock /\ k_ ≠ gb177 /\ k_ ≠ gb188 /\ k_ ≠ gb189) ho0 (fun k_ hk_ => ⟨(Kd.fresh' (R_lt (rz (rf24 HO180 BK188 (by decide) BK189 (by decide)))) k_ hk_), (Kd.fresh' (S_lt (sz (sf24 HO183 BK188 (by decide) BK189 (by decide)))) k_ hk_), (Kd.freshB (g := gb177) (o := .cells #[.int .i64 0, .string (⟨#[]⟩ : ByteArray), .int .i64 0, .int .i64 0] 28 (0, 0)) (kf BK177) k_ hk_), (Kd.freshB (g := gb188) (o := .cells #[.slice Ao9 t178.length co9, .slice Ao13 t181.length co13] 51 (0, 0)) (kf BK188) k_ hk_), (Kd.freshB (g := gb189) (o := .cells #[.int .i64 t184, .string t185, .int .i64 t186, .int .i64 t187] 28 (0, 0)) (kf BK189) k_ hk_)⟩)) (below_size (hh HB))); replace HO180 := aM (R_below (rz (rf24 HO180 BK188 (by decide) BK189 (by decide))) hb); replace HO183 := aM (S_below (sz (sf24 HO183 BK188 (by decide) BK189 (by decide))) hb); replace BK177 := kg (o' := .cells #[.int .i64 0, .string (⟨#[]⟩ : ByteArray), .int .i64 0, .int .i64 0] 28 (0, 0)) BK177 hb; replace BK188 := kg (o' := .cells #[.slice Ao9 t178.length co9, .slice Ao13 t181.length co13] 51 (0, 0)) BK188 hb; replace BK189 := kg (o' := .cells #[.int .i64 t184, .string t185, .int .i64 t186, .int .i64 t187] 28 (0, 0)) BK189 hb; replace HB := bs HB hb; clear hb ho0; obtain ⟨Ao17, co17, eo17⟩ := V_slice HO192.1; subst eo17))
 go_loopg [6, 22] k (fun kq v6 v22 w' => ∃ (x6_1 : List ByteArray) (x22_1 : Int), v22 = .int .i64 x22_1 /\ Az (m_Order.l0 kq x6_1 t190 (t190.length : Int) x22_1 t178 t181 = some (r1, r2, r3, r4, r5)) /\ Az (kq <= k) /\ Az (Kd.R Kd.string 9 w' w.heap.size (fun k_ => some k_ ≠ ((.slice Ao9 t178.length co9) : Value).ownBlock) v6 x6_1) /\ Az (Kd.V (Kd.slice 3 (Kd.int .i64)) 55 w' w.heap.size (fun k_ => some k_ ≠ (v6 : Value).ownBlock /\ some k_ ≠ ((.slice Ao9 t178.length co9) : Value).ownBlock /\ some k_ ≠ ((.slice Ao13 t181.length co13) : Value).ownBlock /\ k_ ≠ gb177 /\ k_ ≠ gb188 /\ k_ ≠ gb189) (.slice Ao17 t190.length co17) t190) /\ Az (Kd.R Kd.string 9 w' w.heap.size (fun k_ => some k_ ≠ (v6 : Value).ownBlock) (.slice Ao9 t178.length co9) t178) /\ Az (Kd.S (Kd.slice 3 (Kd.int .i64)) 55 w' w.heap.size (fun _ => True) (.slice Ao13 t181.length co13) t181) /\ Az (w'.heap[gb177]? = some (.cells #[.int .i64 0, .string (⟨#[]⟩ : ByteArray), .int .i64 0, .int .i64 0] 28 (0, 0))) /\ Az (w'.heap[gb188]? = some (.cells #[(.slice Ao9 t178.length co9), (.slice Ao13 t181.length co13)] 51 (0, 0))) /\ Az (w'.heap[gb189]? = some (.cells #[.int .i64 t184, .string t185, .int .i64 t186, .int .i64 t187] 28 (0, 0))) /\ Az (Below w.heap.size w w'))
 case atStart => exact ⟨(([] : List ByteArray)), (0), rr, H', ⟨Nat.le_refl _⟩, ⟨by first | exact R_nil _ _ _ _ _ | exact N_nil _ _ _ _ _ | exact V_nil _ _ _ _ _ | exact Q_nil _ _ _ _ _ | exact S_nil _ _ _ _ _⟩, ⟨by (with_reducible repeat (first | apply V_alloc | apply V_drewN | apply V_drew)); exact V_mono HO192.1 (fun _ hk => ⟨(by simp [Value.ownBlock]), ⟨hk.1, ⟨hk.2.1, ⟨hk.2.2.1, ⟨hk.2.2.2.1, hk.2.2.2.2⟩⟩⟩⟩⟩)⟩, ⟨rz (R_mono HO180.1 (fun _ hk => (by simp [Value.ownBlock])))⟩, ⟨sk HO183⟩, ⟨kk BK177⟩, ⟨kk BK188⟩, ⟨kk BK189⟩, ⟨hh HB⟩⟩
 case round =>
  clear H'
  clear c3b0 c3b1 hcz12_0 hcz12_1 hcz15_0 hcz15_1 hcz15_2 hcz15_3 hfz12_0 hfz12_1 hfz15_0 hfz15_1 hfz15_2 hfz15_3
  obtain ⟨x6_1, x22_1, rfl, HA, HK1, HO_6, HO_20, HO_189000, HO_189001, BK177, BK188, BK189, HB⟩ := hrel
  cases gk with
  | zero => exact absurd HA.1 (by simp [m_Order.l0])
  | succ k1 =>
   have H := HA.1
   clear HA
   simp only [m_Order.l0] at H
   by_cases c18 : x22_1 < (t190.length : Int)
   rotate_left
   · rw [if_neg c18] at H
     have c18b0 : decide (x22_1 < (t190.length : Int)) = false := decide_eq_false c18
     clear c18
     simp only [Option.some.injEq, Prod.mk.injEq] at H
     obtain ⟨rfl, rfl, rfl, rfl, rfl⟩ := H
     have hnb29 := NB177_188.1
     have hnc29 := NB188_177.1
     have hnb30 := NB177_189.1
     have hnc30 := NB189_177.1
     obtain ⟨hcz31_0, hcz31_1, hcz31_2, hcz31_3⟩ := cz BK177
     obtain ⟨hfz31_0, hfz31_1, hfz31_2, hfz31_3⟩ := fz BK177
     go_wp2
     refine bodyPost_ret (results_tc rfl _ _ gb177 28 #[.int .i64 0, .string (⟨#[]⟩ : ByteArray), .int .i64 0, .int .i64 0] (0, 0) _ rfl (kf BK177) Try.underlying28 rfl (by kernel_rfl)) rfl ?_
     exact ⟨_, by first | rfl | (simp [errW_none, errW_some] <;> rfl) | (simp [*, errW_none, errW_some] <;> rfl), rz (R_mono (R_far (p := ⟨gb177, 3, none⟩) (R_far (p := ⟨gb177, 2, none⟩) (R_far (p := ⟨gb177, 1, none⟩) (R_far (p := ⟨gb177, 0, none⟩) (R_types HO_6.1 BK177.1 (by decide)) (fun _ hk => hk.2) (.int .i64 0)) (fun _ hk => hk.2) (.string (⟨#[]⟩ : ByteArray))) (fun _ hk => hk.2) (.int .i64 0)) (fun _ hk => hk.2) (.int .i64 0)) (fun _ hk => trivial)), hh HB⟩
   rw [if_pos c18] at H
   have c18b0 : decide (x22_1 < (t190.length : Int)) = true := decide_eq_true c18
   clear c18
   by_cases c19 : 0 <= x22_1
   rotate_left
   · rw [if_neg c19] at H
     exact absurd H (by simp)
   rw [if_pos c19] at H
   have c19b0 : decide (0 <= x22_1) = true := decide_eq_true c19
   clear c19
   by_cases c20 : x22_1 < (t190.length : Int)
   rotate_left
   · rw [if_neg c20] at H
     exact absurd H (by simp)
   rw [if_pos c20] at H
   have c20b0 : decide (x22_1 < (t190.length : Int)) = true := decide_eq_true c20
   clear c20
   replace H := Option.bind_eq_some_iff.mp H
   obtain ⟨t194, A210, H⟩ := H
   replace H : (if x6_1.length + t194.length < 8796093022208 then (m_Order.l0 k1 (x6_1 ++ t194) t190 (t190.length : Int) (wrap64 (x22_1 + 1)) t178 t181) else (none)) = some (r1, r2, r3, r4, r5) := H
   have A21 := aM A210
   clear A210
   by_cases c22 : x6_1.length + t194.length < 8796093022208
   rotate_left
   · rw [if_neg c22] at H
     exact absurd H (by simp)
   rw [if_pos c22] at H
   have LMc22 := aM c22
   clear c22
   obtain ⟨y197, hy197⟩ : ∃ y_ : List ByteArray, y_ = (x6_1 ++ t194) := ⟨_, rfl⟩
   replace H : (m_Order.l0 k1 y197 t190 (t190.length : Int) (wrap64 (x22_1 + 1)) t178 t181) = some (r1, r2, r3, r4, r5) := by first | (rw [hy197]; with_reducible exact H) | (have H2_ := (Option.bind_some _ _).symm.trans H; rw [hy197]; with_reducible exact H2_) | (have H2_ := (Option.bind_some _ _).symm.trans H; with_reducible exact H2_) | with_reducible exact H | (rw [hy197]; exact H) | exact H
   have Ny197 := aM hy197
   clear hy197
   have H' := aM H
   clear H
   have p193 : 0 <= (x22_1 : Int) := dt
   have q193 : x22_1 < (t190.length : Int) := dt
   obtain ⟨ad193, A193_0, c193_0, e193, hx193_0, hl193_0, hi193_0⟩ := at_L11 (V_reads' HO_20.1).2.2 x22_1 p193 q193
   cases e193
   obtain ⟨ce193, hce193, hMe193, hcc193⟩ := V_get HO_20.1 [] x22_1 p193 (by first | exact q193 | exact dt | (have e_ := (V_reads' HO_20.1).1; omega))
   obtain ⟨ua193_0, uc193_0, rfl, ul193_0, ge193_0⟩ := FK_slice_open hMe193
   have hv193_0 := hcc193 0 _ rfl
   rw [Nat.add_zero, show ((Kd.slice 3 (Kd.int .i64))).sz = 1 from rfl, Nat.mul_one] at hv193_0
   replace hv193_0 := Option.some.inj (hv193_0.symm.trans hx193_0)
   injection hv193_0 with hva_ hvn_ hvc_
   rw [hva_] at ge193_0
   rw [hvc_] at ul193_0
   have HL193_0 := aM (show Kd.V (Kd.int .i64) 3 _ w.heap.size _ _ (rd_L11 t190 x22_1) from V_mk ul193_0 ge193_0)
   clear hva_ hvn_ hvc_ ge193_0 ul193_0
   clear hcc193 hce193
   have HR193_0 := aM hi193_0
   have HC193_0 := aM hl193_0
   clear hi193_0 hl193_0
   replace p193 := eq_true p193
   replace q193 := eq_true q193
   have hnb23 := NB188_177.1
   have hnc23 := NB177_188.1
   have hnb24 := NB188_189.1
   have hnc24 := NB189_188.1
   obtain ⟨hcz25_0, hcz25_1⟩ := cz2 BK188
   obtain ⟨hfz25_0, hfz25_1⟩ := fz2 BK188
   go_wp2_with (first | ((with_reducible refine gate_callee (f := 26) rfl ?_); refine gL (some 29) rfl rfl Try.func26 (by kernel_rfl) rfl #[.agg #[.slice Ao9 t178.length co9, .slice Ao13 t181.length co13], .slice A193_0 (rd_L11 t190 x22_1).length c193_0] rfl ?_; (with_reducible refine (p_named.calls k1 _ _ t178 _ _ t181 _ _ (rd_L11 t190 x22_1) t194 _ ?side1 ?side2 ?side3 ?side4 ?side5 ?side6 A21.1).mono ?_); (case side1 => exact cr HO_189000); (case side2 => exact (R_reads' HO_189000.1).2.1); (case side3 => repeat (first | exact (S_reads' HO_189001.1).2.2 | (with_reducible refine C_alloc ?_ _) | (with_reducible refine C_drewN ?_ _) | (with_reducible refine C_drew ?_))); (case side4 => exact (S_reads' HO_189001.1).2.1); (case side5 => repeat (first | exact (by repeat (first | (with_reducible exact HR193_0.1) | (with_reducible refine C_alloc ?_ _) | (with_reducible refine C_drewN ?_ _) | (with_reducible refine C_drew ?_) | exact HR193_0.1)) | (with_reducible refine C_alloc ?_ _) | (with_reducible refine C_drewN ?_ _) | (with_reducible refine C_drew ?_))); (case side6 => exact HC193_0.1); rintro e w26 ⟨v195, rfl, ho0, hb⟩; refine ⟨_, rfl, ?_⟩; have HO196 := aM (R_lower (R_new' (R_new' ho0 (R_lt (rk HO_6))) (R_lt (rk HO_189000))) (below_size (hh HB))); replace HO_6 := aM (R_elder' (rk HO_6) (R_base ho0) hb); replace HO_20 := aM (V_elder' (by (with_reducible repeat (first | apply V_alloc | apply V_drewN | apply V_drew)); exact HO_20.1) (R_base ho0) hb); replace HO_189000 := aM (R_elder' (rk HO_189000) (R_base ho0) hb); replace HO_189001 := sb HO_189001 hb; replace HL193_0 := aM (V_elder' (by (with_reducible repeat (first | apply V_alloc | apply V_drewN | apply V_drew)); exact HL193_0.1) (R_base ho0) hb); replace BK177 := kb BK177 hb; replace BK188 := kb BK188 hb; replace BK189 := kb BK189 hb; replace HR193_0 := aM (C_below (by repeat (first | (with_reducible exact HR193_0.1) | (with_reducible refine C_alloc ?_ _) | (with_reducible refine C_drewN ?_ _) | (with_reducible refine C_drew ?_) | exact HR193_0.1)) hb); replace HB := bs HB hb; clear hb ho0; obtain ⟨Ao28, co28, eo28⟩ := R_slice HO196.1; subst eo28) | ((with_reducible refine gate_builtin (b := .append) (xs := #[.tmp 26, .tmp 29]) rfl ?_); at_builtin; refine R_append_rows Kd.string (w0 := w) w.heap.size rfl (.tmp 26) (.tmp 29) 25 9 (.string ⟨#[]⟩) 16 rfl Try.underlying25 info9 rfl (by decide) (by omega) u6 x6_1 t194 _ _ _ (fun k_ => some k_ ≠ (.slice Ao9 t178.length co9 : Value).ownBlock /\ some k_ ≠ (.slice Ao28 t194.length co28 : Value).ownBlock) (fun _ => False) rfl rfl ?aO ?aR (fun _ _ h => h) (fun _ h => h.elim) ?aF ?aB ?aS ?aL ?_; (case aR => exact cr HO196); (case aB => exact (hh HB)); (case aF => exact (fun k_ hk => ⟨Kd.fresh' (R_lt (rk HO_189000)) k_ hk, Kd.fresh' (R_lt (rk HO196)) k_ hk⟩)); (case aO => exact (rk HO_6)); (case aS => exact (below_size (hh HB))); (case aL => have := LMc22.1; omega); intro v198 w27 ho hb hg hat; rw [<- Ny197.1] at ho; have HO199 := aM (ho); replace HO_20 := aM (V_afterv (ok := (fun k_ => some k_ ≠ (.slice Ao9 t178.length co9 : Value).ownBlock /\ some k_ ≠ (.slice Ao13 t181.length co13 : Value).ownBlock /\ some k_ ≠ (.slice Ao28 t194.length co28 : Value).ownBlock /\ k_ ≠ gb177 /\ k_ ≠ gb188 /\ k_ ≠ gb189)) (by (with_reducible repeat (first | apply V_alloc | apply V_drewN | apply V_drew)); exact V_mono HO_20.1 (fun _ hk => ⟨⟨hk.1.2.1, ⟨hk.1.2.2.1, ⟨hk.2, ⟨hk.1.2.2.2.1, ⟨hk.1.2.2.2.2.1, hk.1.2.2.2.2.2⟩⟩⟩⟩⟩, hk.1.1⟩)) hg hat); replace HO_189000 := aM (R_after (ok := (fun k_ => some k_ ≠ (.slice Ao28 t194.length co28 : Value).ownBlock)) (rz (R_mono HO_189000.1 (fun _ hk => ⟨hk.2, hk.1⟩))) hg hat); replace HO_189001 := aM (S_over' (sk HO_189001) (R_typed (rk HO_6)) (by decide) hg); replace BK177 := aM (blk_grown (g := gb177) (o := .cells #[.int .i64 0, .string (⟨#[]⟩ : ByteArray), .int .i64 0, .int .i64 0] 28 (0, 0)) (kk BK177) hg (R_ne HO_6.1 BK177.1 (by decide))); replace BK188 := aM (blk_grown (g := gb188) (o := .cells #[.slice Ao9 t178.length co9, .slice Ao13 t181.length co13] 51 (0, 0)) (kk BK188) hg (R_ne HO_6.1 BK188.1 (by decide))); replace BK189 := aM (blk_grown (g := gb189) (o := .cells #[.int .i64 t184, .string t185, .int .i64 t186, .int .i64 t187] 28 (0, 0)) (kk BK189) hg (R_ne HO_6.1 BK189.1 (by decide))); replace HL193_0 := aM (V_afterv (ok := (fun k_ => some k_ ≠ (.slice Ao9 t178.length co9 : Value).ownBlock /\ some k_ ≠ (.slice Ao13 t181.length co13 : Value).ownBlock /\ some k_ ≠ (.slice Ao28 t194.length co28 : Value).ownBlock /\ k_ ≠ gb177 /\ k_ ≠ gb188 /\ k_ ≠ gb189)) (by (with_reducible repeat (first | apply V_alloc | apply V_drewN | apply V_drew)); exact V_mono HL193_0.1 (fun _ hk => ⟨⟨hk.1.2.1, ⟨hk.1.2.2.1, ⟨hk.2, ⟨hk.1.2.2.2.1, ⟨hk.1.2.2.2.2.1, hk.1.2.2.2.2.2⟩⟩⟩⟩⟩, hk.1.1⟩)) hg hat); replace HO196 := aM (R_after (ok := (fun k_ => some k_ ≠ (.slice Ao9 t178.length co9 : Value).ownBlock)) (rz (R_mono HO196.1 (fun _ hk => ⟨hk.2, hk.1.2⟩))) hg hat); replace HB := aM (hb); clear HO_6; clear ho hb hg hat))
   go_roundg k1
   case measure => have := HK1.1; omega
   case rel => exact ⟨(y197), (wrap64 (x22_1 + 1)), rr, H', ⟨by have := HK1.1; omega⟩, ⟨rz (R_mono HO199.1 (fun _ hk => hk.1))⟩, ⟨by (with_reducible repeat (first | apply V_alloc | apply V_drewN | apply V_drew)); exact V_mono HO_20.1 (fun _ hk => ⟨hk.2, ⟨hk.1.1, ⟨hk.1.2.1, ⟨hk.1.2.2.2.1, ⟨hk.1.2.2.2.2.1, hk.1.2.2.2.2.2⟩⟩⟩⟩⟩)⟩, ⟨rz (R_mono HO_189000.1 (fun _ hk => hk.2))⟩, ⟨sk HO_189001⟩, ⟨kk BK177⟩, ⟨kk BK188⟩, ⟨kk BK189⟩, ⟨hh HB⟩⟩
end Go.Proofs.Ytmadhaccjmakdaa.P
