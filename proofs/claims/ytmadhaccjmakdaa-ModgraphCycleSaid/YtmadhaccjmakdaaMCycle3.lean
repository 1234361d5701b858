/- Part 3 of 5 of one proof: Words for the last loop of ordered: a row cut from the front; the list that is handed back is kept -/
import Derived.ChangeAlike
import Derived.Laws.EntriesVeiled
import Derived.Maps.OwnOps
import Derived.Maps.OwnSet
import Derived.Maps.Views
import Derived.Orders
import Derived.RegionTactic
import Derived.Tactics
import Derived.Test.YtmadhaccjmakdaaMCycle1
import Derived.Test.YtmadhaccjmakdaaMCycle2
set_option linter.unusedVariables false
set_option linter.unusedSimpArgs false
set_option maxHeartbeats 8000000
set_option maxRecDepth 100000
namespace Go.Proofs.Ytmadhaccjmakdaa.P
open Go.RowKit Go.Proofs.Yw.A Go.Proofs.Yw.A.Kd Go.Proofs.Yw.B Go.Proofs.Yw.C
attribute [local go_sem] str_gtr str_leq str_geq max2_int min2_int max_two min_two max_three min_three max_four min_four
mutual
noncomputable def r_consistent.l0 : Nat -> List (S42) -> List ByteArray -> Int -> Option (Int × ByteArray × Int × Int)
 | 0, _, _, _ => none
 | k + 1, x0, x3, x4 => if x4 < (x0.length : Int) then (if 0 <= x4 then ((q_Has.f k x3 ((rd_T42 x0 x4).f0)).bind fun t334 => (if t334 = true then (some (13, (rd_T42 x0 x4).f0, 0, 0)) else (if x3.length < 8796093022208 then (r_consistent.l0 k x0 (x3 ++ [(rd_T42 x0 x4).f0]) (wrap64 (x4 + 1))) else (none)))) else (none)) else (r_consistent.l1 k x0 x3 0)
noncomputable def r_consistent.l1 : Nat -> List (S42) -> List ByteArray -> Int -> Option (Int × ByteArray × Int × Int)
 | 0, _, _, _ => none
 | k + 1, x0, x3, x5 => if x5 < (x0.length : Int) then (r_consistent.l2 k x0 x3 x5 0) else (some (0, (⟨#[]⟩ : ByteArray), 0, 0))
noncomputable def r_consistent.l2 : Nat -> List (S42) -> List ByteArray -> Int -> Int -> Option (Int × ByteArray × Int × Int)
 | 0, _, _, _, _ => none
 | k + 1, x0, x3, x5, x6 => if 0 <= x5 then (if x5 < (x0.length : Int) then (if x6 < (((rd_T42 x0 x5).f3).length : Int) then (if 0 <= x6 then ((q_Has.f k x3 ((rd_T66 ((rd_T42 x0 x5).f3) x6).f0)).bind fun t343 => (if t343 = true then (r_consistent.l2 k x0 x3 x5 (wrap64 (x6 + 1))) else (some (16, (rd_T66 ((rd_T42 x0 x5).f3) x6).f0, 0, 0)))) else (none)) else (r_consistent.l1 k x0 x3 (wrap64 (x5 + 1)))) else (none)) else (none)
end
noncomputable def r_consistent.f (k : Nat) (l0 : List (S42)) : Option (Int × ByteArray × Int × Int) := if (l0.length : Int) > 32 then (some (3, (⟨#[]⟩ : ByteArray), 0, 0)) else (r_consistent.l0 k l0 ([] : List ByteArray) 0)
theorem r_consistent.calls (k : Nat) (A0 : Option Addr) (c0 : Nat) (l0 : List (S42)) (r1 : Int) (r2 : ByteArray) (r3 : Int) (r4 : Int) (w : World) (hr0 : Kd.C k42 w A0 l0.length l0) (hc0 : l0.length <= c0) (h : r_consistent.f k l0 = some (r1, r2, r3, r4)) :
 Calls Try.prog 36 #[.slice A0 l0.length c0] w fun e w' => e = .returned (.agg #[.int .i64 r1, .string r2, .int .i64 r3, .int .i64 r4]) /\ Below w.heap.size w w' := by
 have hu28 := Try.underlying28
 have HR0 := aM hr0
 have HC0 := aM hc0
 clear hr0 hc0
 have HB := aM (Below.refl w.heap.size w)
 have H : (if (l0.length : Int) > 32 then (some (3, (⟨#[]⟩ : ByteArray), 0, 0)) else (r_consistent.l0 k l0 ([] : List ByteArray) 0)) = some (r1, r2, r3, r4) := h
 clear h
 by_cases c2 : (l0.length : Int) > 32
 · rw [if_pos c2] at H
   have c2b0 : decide (32 < (l0.length : Int)) = true := decide_eq_true c2
   have c2b1 : decide (32 < l0.length) = true := decide_eq_true (by omega)
   clear c2
   simp only [Option.some.injEq, Prod.mk.injEq] at H
   obtain ⟨rfl, rfl, rfl, rfl⟩ := H
   go_enter Try.func36, Try.ntmps36
   go_wp2_with (first | ((with_reducible refine gate_dst (N := 2) rfl ?_); refine be 2 rfl rfl #[.int .i64 0, .string (⟨#[]⟩ : ByteArray), .int .i64 0, .int .i64 0] 28 ?_; intro gb332 hg w3 hbox hb; have BK332 := aM hbox; have GE332 := gs hg HB; replace HB := bs HB hb; clear hb hbox hg; obtain ⟨hcz4_0, hcz4_1, hcz4_2, hcz4_3⟩ := cz BK332; obtain ⟨hfz4_0, hfz4_1, hfz4_2, hfz4_3⟩ := fz BK332))
   refine bodyPost_ret (results_cell_row rfl _ _ gb332 28 #[.int .i64 3, .string (⟨#[]⟩ : ByteArray), .int .i64 0, .int .i64 0] (0, 0) _ rfl (kf BK332) Try.underlying28 rfl (by kernel_rfl)) rfl ?_
   exact ⟨by first | rfl | (simp [errW_none, errW_some] <;> rfl) | (simp [*, errW_none, errW_some] <;> rfl), hh HB⟩
 rw [if_neg c2] at H
 have c2b0 : decide (32 < (l0.length : Int)) = false := decide_eq_false c2
 have c2b1 : decide (32 < l0.length) = false := decide_eq_false (by omega)
 clear c2
 have H' := aM H
 clear H
 go_enter Try.func36, Try.ntmps36
 go_wp2_with (first | ((with_reducible refine gate_dst (N := 2) rfl ?_); refine be 2 rfl rfl #[.int .i64 0, .string (⟨#[]⟩ : ByteArray), .int .i64 0, .int .i64 0] 28 ?_; intro gb332 hg w5 hbox hb; have BK332 := aM hbox; have GE332 := gs hg HB; replace HB := bs HB hb; clear hb hbox hg))
 go_loopg [3, 4] k (fun kq v3 v4 w' => ∃ (x3_1 : List ByteArray) (x4_1 : Int) (x333000_1 : Int) (x333001_1 : ByteArray) (x333002_1 : Int) (x333003_1 : Int), v4 = .int .i64 x4_1 /\ Az (r_consistent.l0 kq l0 x3_1 x4_1 = some (r1, r2, r3, r4)) /\ Az (kq <= k) /\ Az (Kd.R Kd.string 9 w' w.heap.size (fun _ => True) v3 x3_1) /\ Az (w'.heap[gb332]? = some (.cells #[.int .i64 x333000_1, .string x333001_1, .int .i64 x333002_1, .int .i64 x333003_1] 28 (0, 0))) /\ Az (Below w.heap.size w w'))
 case atStart => exact ⟨(([] : List ByteArray)), (0), (0), ((⟨#[]⟩ : ByteArray)), (0), (0), rr, H', ⟨Nat.le_refl _⟩, ⟨by first | exact R_nil _ _ _ _ _ | exact N_nil _ _ _ _ _ | exact V_nil _ _ _ _ _ | exact Q_nil _ _ _ _ _ | exact S_nil _ _ _ _ _⟩, ⟨kk BK332⟩, ⟨hh HB⟩⟩
 case round =>
  clear H'
  clear c2b0 c2b1
  obtain ⟨x3_1, x4_1, x333000_1, x333001_1, x333002_1, x333003_1, rfl, HA, HK1, HO_3, BK332, HB⟩ := hrel
  cases gk with
  | zero => exact absurd HA.1 (by simp [r_consistent.l0])
  | succ k1 =>
   have H := HA.1
   clear HA
   simp only [r_consistent.l0] at H
   by_cases c6 : x4_1 < (l0.length : Int)
   · rw [if_pos c6] at H
     have c6b0 : decide (x4_1 < (l0.length : Int)) = true := decide_eq_true c6
     clear c6
     by_cases c7 : 0 <= x4_1
     rotate_left
     · rw [if_neg c7] at H
       exact absurd H (by simp)
     rw [if_pos c7] at H
     have c7b0 : decide (0 <= x4_1) = true := decide_eq_true c7
     clear c7
     replace H := Option.bind_eq_some_iff.mp H
     obtain ⟨t334, A80, H⟩ := H
     replace H : (if t334 = true then (some (13, (rd_T42 l0 x4_1).f0, 0, 0)) else (if x3_1.length < 8796093022208 then (r_consistent.l0 k1 l0 (x3_1 ++ [(rd_T42 l0 x4_1).f0]) (wrap64 (x4_1 + 1))) else (none))) = some (r1, r2, r3, r4) := H
     have A8 := aM A80
     clear A80
     by_cases c9 : t334 = true
     · subst c9
       have H1 : (some (13, (rd_T42 l0 x4_1).f0, 0, 0)) = some (r1, r2, r3, r4) := by rw [if_pos rfl] at H; exact H
       clear H
       have H := H1
       clear H1
       simp only [Option.some.injEq, Prod.mk.injEq] at H
       obtain ⟨rfl, rfl, rfl, rfl⟩ := H
       have p333 : 0 <= (x4_1 : Int) := dt
       have q333 : x4_1 < (l0.length : Int) := dt
       obtain ⟨ad333, A333_2, c333_2, A333_3, c333_3, e333, hx333_0, hx333_1, hx333_2, hx333_3, hx333_4, hl333_2, hi333_2, hl333_3, hi333_3⟩ := at_T42 HR0.1 x4_1 p333 q333
       cases e333
       replace hx333_0 := hx HB hx333_0
       replace hx333_1 := hx HB hx333_1
       have hw_ea333_2 := aM hx333_2; replace hx333_2 := hx HB hx333_2
       have hw_ea333_3 := aM hx333_3; replace hx333_3 := hx HB hx333_3
       replace hx333_4 := hx HB hx333_4
       have HR333_2 := aM hi333_2
       have HC333_2 := aM hl333_2
       clear hi333_2 hl333_2
       have HR333_3 := aM hi333_3
       have HC333_3 := aM hl333_3
       clear hi333_3 hl333_3
       replace p333 := eq_true p333
       replace q333 := eq_true q333
       obtain ⟨Ao10, co10, eo10⟩ := R_slice HO_3.1
       subst eo10
       go_wp2_with (first | ((with_reducible refine gate_callee (f := 21) rfl ?_); refine gL (some 23) rfl rfl Try.func21 (by kernel_rfl) rfl #[.slice Ao10 x3_1.length co10, .string ((rd_T42 l0 x4_1).f0)] rfl ?_; (with_reducible refine (q_Has.calls k1 _ _ x3_1 ((rd_T42 l0 x4_1).f0) true _ ?side1 ?side2 A8.1).mono ?_); (case side1 => exact cr HO_3); (case side2 => exact (R_reads' HO_3.1).2.1); rintro e w' ⟨rfl, ⟨nd, rfl⟩⟩; refine ⟨_, rfl, ?_⟩; (try (rw [drewN_self wr]; generalize hq_ : World.drewN wr _ = wr; have n0_ : Az (Kd.R Kd.string 9 wr w.heap.size (fun _ => True) (.slice Ao10 x3_1.length co10) x3_1) := ⟨by rw [<- hq_]; exact (rk HO_3)⟩; have n1_ : Az (wr.heap[gb332]? = some (.cells #[.int .i64 x333000_1, .string x333001_1, .int .i64 x333002_1, .int .i64 x333003_1] 28 (0, 0))) := ⟨by rw [<- hq_]; exact (kk BK332)⟩; have n2_ : Az (Below w.heap.size w wr) := ⟨by rw [<- hq_]; exact (hh HB)⟩; clear HO_3 BK332 HB hq_; have HO_3 := n0_; have BK332 := n1_; have HB := n2_; clear n0_ n1_ n2_)); have p335 : 0 <= (x4_1 : Int) := dt; have q335 : x4_1 < (l0.length : Int) := dt; obtain ⟨ad335, A335_2, c335_2, A335_3, c335_3, e335, hx335_0, hx335_1, hx335_2, hx335_3, hx335_4, hl335_2, hi335_2, hl335_3, hi335_3⟩ := at_T42 HR0.1 x4_1 p335 q335; obtain rfl : ad333 = ad335 := (by injection e335); replace hx335_0 := hx HB hx335_0; replace hx335_1 := hx HB hx335_1; have hw_ea335_2 := aM hx335_2; replace hx335_2 := hx HB hx335_2; have hw_ea335_3 := aM hx335_3; replace hx335_3 := hx HB hx335_3; replace hx335_4 := hx HB hx335_4; have HR335_2 := aM hi335_2; have HC335_2 := aM hl335_2; clear hi335_2 hl335_2; have HR335_3 := aM hi335_3; have HC335_3 := aM hl335_3; clear hi335_3 hl335_3; replace p335 := eq_true p335; replace q335 := eq_true q335; have ea_ := Option.some.inj (by first | exact hx333_2.symm.trans hx335_2 | exact hw_ea333_2.1.symm.trans hw_ea335_2.1); injection ea_ with ea_ en_ ec_; subst ea_; subst ec_; clear en_; have ea_ := Option.some.inj (by first | exact hx333_3.symm.trans hx335_3 | exact hw_ea333_3.1.symm.trans hw_ea335_3.1); injection ea_ with ea_ en_ ec_; subst ea_; subst ec_; clear en_; obtain ⟨hcz11_0, hcz11_1, hcz11_2, hcz11_3⟩ := cz BK332; obtain ⟨hfz11_0, hfz11_1, hfz11_2, hfz11_3⟩ := fz BK332))
       refine bodyPost_ret (results_cell_row rfl _ _ gb332 28 #[.int .i64 13, .string ((rd_T42 l0 x4_1).f0), .int .i64 0, .int .i64 0] (0, 0) _ rfl (kf BK332) Try.underlying28 rfl (by kernel_rfl)) rfl ?_
       exact ⟨by first | rfl | (simp [errW_none, errW_some] <;> rfl) | (simp [*, errW_none, errW_some] <;> rfl), hh HB⟩
     replace c9 := Bool.eq_false_iff.mpr c9
     subst c9
     have H1 : (if x3_1.length < 8796093022208 then (r_consistent.l0 k1 l0 (x3_1 ++ [(rd_T42 l0 x4_1).f0]) (wrap64 (x4_1 + 1))) else (none)) = some (r1, r2, r3, r4) := by rw [if_neg (show ¬ (false = true) by decide)] at H; exact H
     clear H
     have H := H1
     clear H1
     by_cases c12 : x3_1.length < 8796093022208
     rotate_left
     · rw [if_neg c12] at H
       exact absurd H (by simp)
     rw [if_pos c12] at H
     have LMc12 := aM c12
     clear c12
     obtain ⟨y337, hy337⟩ : ∃ y_ : List ByteArray, y_ = (x3_1 ++ [(rd_T42 l0 x4_1).f0]) := ⟨_, rfl⟩
     replace H : (r_consistent.l0 k1 l0 y337 (wrap64 (x4_1 + 1))) = some (r1, r2, r3, r4) := by first | (rw [hy337]; with_reducible exact H) | (have H2_ := (Option.bind_some _ _).symm.trans H; rw [hy337]; with_reducible exact H2_) | (have H2_ := (Option.bind_some _ _).symm.trans H; with_reducible exact H2_) | with_reducible exact H | (rw [hy337]; exact H) | exact H
     have Ny337 := aM hy337
     clear hy337
     have H' := aM H
     clear H
     have p333 : 0 <= (x4_1 : Int) := dt
     have q333 : x4_1 < (l0.length : Int) := dt
     obtain ⟨ad333, A333_2, c333_2, A333_3, c333_3, e333, hx333_0, hx333_1, hx333_2, hx333_3, hx333_4, hl333_2, hi333_2, hl333_3, hi333_3⟩ := at_T42 HR0.1 x4_1 p333 q333
     cases e333
     replace hx333_0 := hx HB hx333_0
     replace hx333_1 := hx HB hx333_1
     have hw_ea333_2 := aM hx333_2; replace hx333_2 := hx HB hx333_2
     have hw_ea333_3 := aM hx333_3; replace hx333_3 := hx HB hx333_3
     replace hx333_4 := hx HB hx333_4
     have HR333_2 := aM hi333_2
     have HC333_2 := aM hl333_2
     clear hi333_2 hl333_2
     have HR333_3 := aM hi333_3
     have HC333_3 := aM hl333_3
     clear hi333_3 hl333_3
     replace p333 := eq_true p333
     replace q333 := eq_true q333
     obtain ⟨Ao13, co13, eo13⟩ := R_slice HO_3.1
     subst eo13
     go_wp2_with (first | ((with_reducible refine gate_callee (f := 21) rfl ?_); refine gL (some 23) rfl rfl Try.func21 (by kernel_rfl) rfl #[.slice Ao13 x3_1.length co13, .string ((rd_T42 l0 x4_1).f0)] rfl ?_; (with_reducible refine (q_Has.calls k1 _ _ x3_1 ((rd_T42 l0 x4_1).f0) false _ ?side1 ?side2 A8.1).mono ?_); (case side1 => exact cr HO_3); (case side2 => exact (R_reads' HO_3.1).2.1); rintro e w' ⟨rfl, ⟨nd, rfl⟩⟩; refine ⟨_, rfl, ?_⟩; have p336 : 0 <= (x4_1 : Int) := dt; have q336 : x4_1 < (l0.length : Int) := dt; obtain ⟨ad336, A336_2, c336_2, A336_3, c336_3, e336, hx336_0, hx336_1, hx336_2, hx336_3, hx336_4, hl336_2, hi336_2, hl336_3, hi336_3⟩ := at_T42 HR0.1 x4_1 p336 q336; obtain rfl : ad333 = ad336 := (by injection e336); replace hx336_0 := hx HB hx336_0; replace hx336_1 := hx HB hx336_1; have hw_ea336_2 := aM hx336_2; replace hx336_2 := hx HB hx336_2; have hw_ea336_3 := aM hx336_3; replace hx336_3 := hx HB hx336_3; replace hx336_4 := hx HB hx336_4; have HR336_2 := aM hi336_2; have HC336_2 := aM hl336_2; clear hi336_2 hl336_2; have HR336_3 := aM hi336_3; have HC336_3 := aM hl336_3; clear hi336_3 hl336_3; replace p336 := eq_true p336; replace q336 := eq_true q336; have ea_ := Option.some.inj (by first | exact hx333_2.symm.trans hx336_2 | exact hw_ea333_2.1.symm.trans hw_ea336_2.1); injection ea_ with ea_ en_ ec_; subst ea_; subst ec_; clear en_; have ea_ := Option.some.inj (by first | exact hx333_3.symm.trans hx336_3 | exact hw_ea333_3.1.symm.trans hw_ea336_3.1); injection ea_ with ea_ en_ ec_; subst ea_; subst ec_; clear en_) | ((with_reducible refine gate_builtin (b := .append) (xs := #[.tmp 30, .tmp 36]) rfl ?_); at_builtin; refine R_append Kd.string (w0 := w) w.heap.size rfl (.tmp 30) (.tmp 36) 25 9 (.string ⟨#[]⟩) 16 rfl Try.underlying25 info9 rfl (by decide) (by omega) (.slice Ao13 x3_1.length co13) x3_1 ((rd_T42 l0 x4_1).f0) [.string ((rd_T42 l0 x4_1).f0)] (fun _ => True) (fun _ => False) rfl rfl ?aP (fun _ hk => hk.elim) ?aF ?aO ?aB ?aS ?aL ?_; (case aP => exact rfl); (case aB => exact (hh HB)); (case aF => exact (fun _ _ => trivial)); (case aO => exact (rk HO_3)); (case aS => exact (below_size (hh HB))); (case aL => have := LMc12.1; omega); intro v338 w14 ho hb hg hat; rw [<- Ny337.1] at ho; have HO339 := aM (ho); replace BK332 := aM (blk_grown (g := gb332) (o := .cells #[.int .i64 x333000_1, .string x333001_1, .int .i64 x333002_1, .int .i64 x333003_1] 28 (0, 0)) (kk BK332) hg (R_ne HO_3.1 BK332.1 (by decide))); replace HB := aM (hb); clear HO_3; clear ho hb hg hat))
     go_roundg k1
     case measure => have := HK1.1; omega
     case rel => exact ⟨(y337), (wrap64 (x4_1 + 1)), (x333000_1), (x333001_1), (x333002_1), (x333003_1), rr, H', ⟨by have := HK1.1; omega⟩, ⟨rk HO339⟩, ⟨kk BK332⟩, ⟨hh HB⟩⟩
   rw [if_neg c6] at H
   have c6b0 : decide (x4_1 < (l0.length : Int)) = false := decide_eq_false c6
   clear c6
   have H' := aM H
   clear H
   go_wp2
   go_loopg [5] k1 (fun kq v5 w' => ∃ (x5_2 : Int) (x333000_2 : Int) (x333001_2 : ByteArray) (x333002_2 : Int) (x333003_2 : Int), v5 = .int .i64 x5_2 /\ Az (r_consistent.l1 kq l0 x3_1 x5_2 = some (r1, r2, r3, r4)) /\ Az (kq <= k1) /\ Az (Kd.R Kd.string 9 w' w.heap.size (fun _ => True) u3 x3_1) /\ Az (w'.heap[gb332]? = some (.cells #[.int .i64 x333000_2, .string x333001_2, .int .i64 x333002_2, .int .i64 x333003_2] 28 (0, 0))) /\ Az (Below w.heap.size w w'))
   case atStart => exact ⟨(0), (x333000_1), (x333001_1), (x333002_1), (x333003_1), rr, H', ⟨Nat.le_refl _⟩, ⟨rk HO_3⟩, ⟨kk BK332⟩, ⟨hh HB⟩⟩
   case round =>
    clear H'
    clear c6b0
    obtain ⟨x5_2, x333000_2, x333001_2, x333002_2, x333003_2, rfl, HA, HK2, HO_3, BK332, HB⟩ := hrel
    cases gk with
    | zero => exact absurd HA.1 (by simp [r_consistent.l1])
    | succ k2 =>
     have H := HA.1
     clear HA
     simp only [r_consistent.l1] at H
     by_cases c15 : x5_2 < (l0.length : Int)
     rotate_left
     · rw [if_neg c15] at H
       have c15b0 : decide (x5_2 < (l0.length : Int)) = false := decide_eq_false c15
       clear c15
       simp only [Option.some.injEq, Prod.mk.injEq] at H
       obtain ⟨rfl, rfl, rfl, rfl⟩ := H
       obtain ⟨hcz25_0, hcz25_1, hcz25_2, hcz25_3⟩ := cz BK332
       obtain ⟨hfz25_0, hfz25_1, hfz25_2, hfz25_3⟩ := fz BK332
       go_wp2
       refine bodyPost_ret (results_cell_row rfl _ _ gb332 28 #[.int .i64 0, .string (⟨#[]⟩ : ByteArray), .int .i64 0, .int .i64 0] (0, 0) _ rfl (kf BK332) Try.underlying28 rfl (by kernel_rfl)) rfl ?_
       exact ⟨by first | rfl | (simp [errW_none, errW_some] <;> rfl) | (simp [*, errW_none, errW_some] <;> rfl), hh HB⟩
     rw [if_pos c15] at H
     have c15b0 : decide (x5_2 < (l0.length : Int)) = true := decide_eq_true c15
     clear c15
     have H' := aM H
     clear H
     go_wp2
     go_loopg [6] k2 (fun kq v6 w' => ∃ (x6_3 : Int) (x333000_3 : Int) (x333001_3 : ByteArray) (x333002_3 : Int) (x333003_3 : Int), v6 = .int .i64 x6_3 /\ Az (r_consistent.l2 kq l0 x3_1 x5_2 x6_3 = some (r1, r2, r3, r4)) /\ Az (kq <= k2) /\ Az (Kd.R Kd.string 9 w' w.heap.size (fun _ => True) u3 x3_1) /\ Az (w'.heap[gb332]? = some (.cells #[.int .i64 x333000_3, .string x333001_3, .int .i64 x333002_3, .int .i64 x333003_3] 28 (0, 0))) /\ Az (Below w.heap.size w w'))
     case atStart => exact ⟨(0), (x333000_2), (x333001_2), (x333002_2), (x333003_2), rr, H', ⟨Nat.le_refl _⟩, ⟨rk HO_3⟩, ⟨kk BK332⟩, ⟨hh HB⟩⟩
     case round =>
      clear H'
      clear c15b0
      obtain ⟨x6_3, x333000_3, x333001_3, x333002_3, x333003_3, rfl, HA, HK3, HO_3, BK332, HB⟩ := hrel
      cases gk with
      | zero => exact absurd HA.1 (by simp [r_consistent.l2])
      | succ k3 =>
       have H := HA.1
       clear HA
       simp only [r_consistent.l2] at H
       by_cases c16 : 0 <= x5_2
       rotate_left
       · rw [if_neg c16] at H
         exact absurd H (by simp)
       rw [if_pos c16] at H
       have c16b0 : decide (0 <= x5_2) = true := decide_eq_true c16
       clear c16
       by_cases c17 : x5_2 < (l0.length : Int)
       rotate_left
       · rw [if_neg c17] at H
         exact absurd H (by simp)
       rw [if_pos c17] at H
       have c17b0 : decide (x5_2 < (l0.length : Int)) = true := decide_eq_true c17
       clear c17
       by_cases c18 : x6_3 < (((rd_T42 l0 x5_2).f3).length : Int)
       rotate_left
       · rw [if_neg c18] at H
         have c18b0 : decide (x6_3 < (((rd_T42 l0 x5_2).f3).length : Int)) = false := decide_eq_false c18
         clear c18
         have H' := aM H
         clear H
         have p340 : 0 <= (x5_2 : Int) := dt
         have q340 : x5_2 < (l0.length : Int) := dt
         obtain ⟨ad340, A340_2, c340_2, A340_3, c340_3, e340, hx340_0, hx340_1, hx340_2, hx340_3, hx340_4, hl340_2, hi340_2, hl340_3, hi340_3⟩ := at_T42 HR0.1 x5_2 p340 q340
         cases e340
         replace hx340_0 := hx HB hx340_0
         replace hx340_1 := hx HB hx340_1
         have hw_ea340_2 := aM hx340_2; replace hx340_2 := hx HB hx340_2
         have hw_ea340_3 := aM hx340_3; replace hx340_3 := hx HB hx340_3
         replace hx340_4 := hx HB hx340_4
         have HR340_2 := aM hi340_2
         have HC340_2 := aM hl340_2
         clear hi340_2 hl340_2
         have HR340_3 := aM hi340_3
         have HC340_3 := aM hl340_3
         clear hi340_3 hl340_3
         replace p340 := eq_true p340
         replace q340 := eq_true q340
         go_wp2
         go_roundg k3
         case measure => have := HK1.1; have := HK2.1; have := HK3.1; omega
         case rel => exact ⟨(wrap64 (x5_2 + 1)), (x333000_3), (x333001_3), (x333002_3), (x333003_3), rr, H', ⟨by have := HK1.1; have := HK2.1; have := HK3.1; omega⟩, ⟨rk HO_3⟩, ⟨kk BK332⟩, ⟨hh HB⟩⟩
       rw [if_pos c18] at H
       have c18b0 : decide (x6_3 < (((rd_T42 l0 x5_2).f3).length : Int)) = true := decide_eq_true c18
       clear c18
       by_cases c19 : 0 <= x6_3
       rotate_left
       · rw [if_neg c19] at H
         exact absurd H (by simp)
       rw [if_pos c19] at H
       have c19b0 : decide (0 <= x6_3) = true := decide_eq_true c19
       clear c19
       replace H := Option.bind_eq_some_iff.mp H
       obtain ⟨t343, A200, H⟩ := H
       replace H : (if t343 = true then (r_consistent.l2 k3 l0 x3_1 x5_2 (wrap64 (x6_3 + 1))) else (some (16, (rd_T66 ((rd_T42 l0 x5_2).f3) x6_3).f0, 0, 0))) = some (r1, r2, r3, r4) := H
       have A20 := aM A200
       clear A200
       by_cases c21 : t343 = true
       · subst c21
         have H1 : (r_consistent.l2 k3 l0 x3_1 x5_2 (wrap64 (x6_3 + 1))) = some (r1, r2, r3, r4) := by rw [if_pos rfl] at H; exact H
         clear H
         have H := H1
         clear H1
         have H' := aM H
         clear H
         have p340 : 0 <= (x5_2 : Int) := dt
         have q340 : x5_2 < (l0.length : Int) := dt
         obtain ⟨ad340, A340_2, c340_2, A340_3, c340_3, e340, hx340_0, hx340_1, hx340_2, hx340_3, hx340_4, hl340_2, hi340_2, hl340_3, hi340_3⟩ := at_T42 HR0.1 x5_2 p340 q340
         cases e340
         replace hx340_0 := hx HB hx340_0
         replace hx340_1 := hx HB hx340_1
         have hw_ea340_2 := aM hx340_2; replace hx340_2 := hx HB hx340_2
         have hw_ea340_3 := aM hx340_3; replace hx340_3 := hx HB hx340_3
         replace hx340_4 := hx HB hx340_4
         have HR340_2 := aM hi340_2
         have HC340_2 := aM hl340_2
         clear hi340_2 hl340_2
         have HR340_3 := aM hi340_3
         have HC340_3 := aM hl340_3
         clear hi340_3 hl340_3
         replace p340 := eq_true p340
         replace q340 := eq_true q340
         have p341 : 0 <= (x5_2 : Int) := dt
         have q341 : x5_2 < (l0.length : Int) := dt
         obtain ⟨ad341, A341_2, c341_2, A341_3, c341_3, e341, hx341_0, hx341_1, hx341_2, hx341_3, hx341_4, hl341_2, hi341_2, hl341_3, hi341_3⟩ := at_T42 HR0.1 x5_2 p341 q341
         obtain rfl : ad340 = ad341 := (by injection e341)
         replace hx341_0 := hx HB hx341_0
         replace hx341_1 := hx HB hx341_1
         have hw_ea341_2 := aM hx341_2; replace hx341_2 := hx HB hx341_2
         have hw_ea341_3 := aM hx341_3; replace hx341_3 := hx HB hx341_3
         replace hx341_4 := hx HB hx341_4
         have HR341_2 := aM hi341_2
         have HC341_2 := aM hl341_2
         clear hi341_2 hl341_2
         have HR341_3 := aM hi341_3
         have HC341_3 := aM hl341_3
         clear hi341_3 hl341_3
         replace p341 := eq_true p341
         replace q341 := eq_true q341
         have ea_ := Option.some.inj (by first | exact hx340_2.symm.trans hx341_2 | exact hw_ea340_2.1.symm.trans hw_ea341_2.1)
         injection ea_ with ea_ en_ ec_
         subst ea_
         subst ec_
         clear en_
         have ea_ := Option.some.inj (by first | exact hx340_3.symm.trans hx341_3 | exact hw_ea340_3.1.symm.trans hw_ea341_3.1)
         injection ea_ with ea_ en_ ec_
         subst ea_
         subst ec_
         clear en_
         have p342 : 0 <= (x6_3 : Int) := dt
         have q342 : x6_3 < (((rd_T42 l0 x5_2).f3).length : Int) := dt
         obtain ⟨ad342, A342_5, c342_5, e342, hx342_0, hx342_1, hx342_2, hx342_3, hx342_4, hx342_5, hl342_5, hi342_5⟩ := at_T66 HR341_3.1 x6_3 p342 q342
         cases e342
         replace hx342_0 := hx HB hx342_0
         replace hx342_1 := hx HB hx342_1
         replace hx342_2 := hx HB hx342_2
         replace hx342_3 := hx HB hx342_3
         replace hx342_4 := hx HB hx342_4
         replace hx342_5 := hx HB hx342_5
         have HR342_5 := aM hi342_5
         have HC342_5 := aM hl342_5
         clear hi342_5 hl342_5
         replace p342 := eq_true p342
         replace q342 := eq_true q342
         obtain ⟨Ao22, co22, eo22⟩ := R_slice HO_3.1
         subst eo22
         go_wp2_with (first | ((with_reducible refine gate_callee (f := 21) rfl ?_); refine gL (some 64) rfl rfl Try.func21 (by kernel_rfl) rfl #[.slice Ao22 x3_1.length co22, .string ((rd_T66 ((rd_T42 l0 x5_2).f3) x6_3).f0)] rfl ?_; (with_reducible refine (q_Has.calls k3 _ _ x3_1 ((rd_T66 ((rd_T42 l0 x5_2).f3) x6_3).f0) true _ ?side1 ?side2 A20.1).mono ?_); (case side1 => exact cr HO_3); (case side2 => exact (R_reads' HO_3.1).2.1); rintro e w' ⟨rfl, ⟨nd, rfl⟩⟩; refine ⟨_, rfl, ?_⟩))
         go_roundg k3
         case measure => have := HK1.1; have := HK2.1; have := HK3.1; omega
         case rel => exact ⟨(wrap64 (x6_3 + 1)), (x333000_3), (x333001_3), (x333002_3), (x333003_3), rr, H', ⟨by have := HK1.1; have := HK2.1; have := HK3.1; omega⟩, ⟨rk HO_3⟩, ⟨kk BK332⟩, ⟨hh HB⟩⟩
       replace c21 := Bool.eq_false_iff.mpr c21
       subst c21
       have H1 : (some (16, (rd_T66 ((rd_T42 l0 x5_2).f3) x6_3).f0, 0, 0)) = some (r1, r2, r3, r4) := by rw [if_neg (show ¬ (false = true) by decide)] at H; exact H
       clear H
       have H := H1
       clear H1
       simp only [Option.some.injEq, Prod.mk.injEq] at H
       obtain ⟨rfl, rfl, rfl, rfl⟩ := H
       have p340 : 0 <= (x5_2 : Int) := dt
       have q340 : x5_2 < (l0.length : Int) := dt
       obtain ⟨ad340, A340_2, c340_2, A340_3, c340_3, e340, hx340_0, hx340_1, hx340_2, hx340_3, hx340_4, hl340_2, hi340_2, hl340_3, hi340_3⟩ := at_T42 HR0.1 x5_2 p340 q340
       cases e340
       replace hx340_0 := hx HB hx340_0
       replace hx340_1 := hx HB hx340_1
       have hw_ea340_2 := aM hx340_2; replace hx340_2 := hx HB hx340_2
       have hw_ea340_3 := aM hx340_3; replace hx340_3 := hx HB hx340_3
       replace hx340_4 := hx HB hx340_4
       have HR340_2 := aM hi340_2
       have HC340_2 := aM hl340_2
       clear hi340_2 hl340_2
       have HR340_3 := aM hi340_3
       have HC340_3 := aM hl340_3
       clear hi340_3 hl340_3
       replace p340 := eq_true p340
       replace q340 := eq_true q340
       have p341 : 0 <= (x5_2 : Int) := dt
       have q341 : x5_2 < (l0.length : Int) := dt
       obtain ⟨ad341, A341_2, c341_2, A341_3, c341_3, e341, hx341_0, hx341_1, hx341_2, hx341_3, hx341_4, hl341_2, hi341_2, hl341_3, hi341_3⟩ := at_T42 HR0.1 x5_2 p341 q341
       obtain rfl : ad340 = ad341 := (by injection e341)
       replace hx341_0 := hx HB hx341_0
       replace hx341_1 := hx HB hx341_1
       have hw_ea341_2 := aM hx341_2; replace hx341_2 := hx HB hx341_2
       have hw_ea341_3 := aM hx341_3; replace hx341_3 := hx HB hx341_3
       replace hx341_4 := hx HB hx341_4
       have HR341_2 := aM hi341_2
       have HC341_2 := aM hl341_2
       clear hi341_2 hl341_2
       have HR341_3 := aM hi341_3
       have HC341_3 := aM hl341_3
       clear hi341_3 hl341_3
       replace p341 := eq_true p341
       replace q341 := eq_true q341
       have ea_ := Option.some.inj (by first | exact hx340_2.symm.trans hx341_2 | exact hw_ea340_2.1.symm.trans hw_ea341_2.1)
       injection ea_ with ea_ en_ ec_
       subst ea_
       subst ec_
       clear en_
       have ea_ := Option.some.inj (by first | exact hx340_3.symm.trans hx341_3 | exact hw_ea340_3.1.symm.trans hw_ea341_3.1)
       injection ea_ with ea_ en_ ec_
       subst ea_
       subst ec_
       clear en_
       have p342 : 0 <= (x6_3 : Int) := dt
       have q342 : x6_3 < (((rd_T42 l0 x5_2).f3).length : Int) := dt
       obtain ⟨ad342, A342_5, c342_5, e342, hx342_0, hx342_1, hx342_2, hx342_3, hx342_4, hx342_5, hl342_5, hi342_5⟩ := at_T66 HR341_3.1 x6_3 p342 q342
       cases e342
       replace hx342_0 := hx HB hx342_0
       replace hx342_1 := hx HB hx342_1
       replace hx342_2 := hx HB hx342_2
       replace hx342_3 := hx HB hx342_3
       replace hx342_4 := hx HB hx342_4
       replace hx342_5 := hx HB hx342_5
       have HR342_5 := aM hi342_5
       have HC342_5 := aM hl342_5
       clear hi342_5 hl342_5
       replace p342 := eq_true p342
       replace q342 := eq_true q342
       obtain ⟨Ao23, co23, eo23⟩ := R_slice HO_3.1
       subst eo23
       go_wp2_with (first | ((with_reducible refine gate_callee (f := 21) rfl ?_); refine gL (some 64) rfl rfl Try.func21 (by kernel_rfl) rfl #[.slice Ao23 x3_1.length co23, .string ((rd_T66 ((rd_T42 l0 x5_2).f3) x6_3).f0)] rfl ?_; (with_reducible refine (q_Has.calls k3 _ _ x3_1 ((rd_T66 ((rd_T42 l0 x5_2).f3) x6_3).f0) false _ ?side1 ?side2 A20.1).mono ?_); (case side1 => exact cr HO_3); (case side2 => exact (R_reads' HO_3.1).2.1); rintro e w' ⟨rfl, ⟨nd, rfl⟩⟩; refine ⟨_, rfl, ?_⟩; (try (rw [drewN_self wr]; generalize hq_ : World.drewN wr _ = wr; have n0_ : Az (Kd.R Kd.string 9 wr w.heap.size (fun _ => True) (.slice Ao23 x3_1.length co23) x3_1) := ⟨by rw [<- hq_]; exact (rk HO_3)⟩; have n1_ : Az (wr.heap[gb332]? = some (.cells #[.int .i64 x333000_3, .string x333001_3, .int .i64 x333002_3, .int .i64 x333003_3] 28 (0, 0))) := ⟨by rw [<- hq_]; exact (kk BK332)⟩; have n2_ : Az (Below w.heap.size w wr) := ⟨by rw [<- hq_]; exact (hh HB)⟩; clear HO_3 BK332 HB hq_; have HO_3 := n0_; have BK332 := n1_; have HB := n2_; clear n0_ n1_ n2_)); have p344 : 0 <= (x5_2 : Int) := dt; have q344 : x5_2 < (l0.length : Int) := dt; obtain ⟨ad344, A344_2, c344_2, A344_3, c344_3, e344, hx344_0, hx344_1, hx344_2, hx344_3, hx344_4, hl344_2, hi344_2, hl344_3, hi344_3⟩ := at_T42 HR0.1 x5_2 p344 q344; obtain rfl : ad340 = ad344 := (by injection e344); replace hx344_0 := hx HB hx344_0; replace hx344_1 := hx HB hx344_1; have hw_ea344_2 := aM hx344_2; replace hx344_2 := hx HB hx344_2; have hw_ea344_3 := aM hx344_3; replace hx344_3 := hx HB hx344_3; replace hx344_4 := hx HB hx344_4; have HR344_2 := aM hi344_2; have HC344_2 := aM hl344_2; clear hi344_2 hl344_2; have HR344_3 := aM hi344_3; have HC344_3 := aM hl344_3; clear hi344_3 hl344_3; replace p344 := eq_true p344; replace q344 := eq_true q344; have ea_ := Option.some.inj (by first | exact hx340_2.symm.trans hx344_2 | exact hw_ea340_2.1.symm.trans hw_ea344_2.1); injection ea_ with ea_ en_ ec_; subst ea_; subst ec_; clear en_; have ea_ := Option.some.inj (by first | exact hx340_3.symm.trans hx344_3 | exact hw_ea340_3.1.symm.trans hw_ea344_3.1); injection ea_ with ea_ en_ ec_; subst ea_; subst ec_; clear en_; have p345 : 0 <= (x6_3 : Int) := dt; have q345 : x6_3 < (((rd_T42 l0 x5_2).f3).length : Int) := dt; obtain ⟨ad345, A345_5, c345_5, e345, hx345_0, hx345_1, hx345_2, hx345_3, hx345_4, hx345_5, hl345_5, hi345_5⟩ := at_T66 HR344_3.1 x6_3 p345 q345; cases e345; replace hx345_0 := hx HB hx345_0; replace hx345_1 := hx HB hx345_1; replace hx345_2 := hx HB hx345_2; replace hx345_3 := hx HB hx345_3; replace hx345_4 := hx HB hx345_4; replace hx345_5 := hx HB hx345_5; have HR345_5 := aM hi345_5; have HC345_5 := aM hl345_5; clear hi345_5 hl345_5; replace p345 := eq_true p345; replace q345 := eq_true q345; obtain ⟨hcz24_0, hcz24_1, hcz24_2, hcz24_3⟩ := cz BK332; obtain ⟨hfz24_0, hfz24_1, hfz24_2, hfz24_3⟩ := fz BK332))
       refine bodyPost_ret (results_cell_row rfl _ _ gb332 28 #[.int .i64 16, .string ((rd_T66 ((rd_T42 l0 x5_2).f3) x6_3).f0), .int .i64 0, .int .i64 0] (0, 0) _ rfl (kf BK332) Try.underlying28 rfl (by kernel_rfl)) rfl ?_
       exact ⟨by first | rfl | (simp [errW_none, errW_some] <;> rfl) | (simp [*, errW_none, errW_some] <;> rfl), hh HB⟩
mutual
noncomputable def r_back.l0 : Nat -> List (S42) -> ByteArray -> Int -> List ByteArray -> Int -> Option (Bool)
 | 0, _, _, _, _, _ => none
 | k + 1, x0, x2, x3, x9, x10 => if x10 <= x3 then (r_back.l1 k x0 x2 x3 x9 x10 ([] : List ByteArray) 0) else (some false)
noncomputable def r_back.l1 : Nat -> List (S42) -> ByteArray -> Int -> List ByteArray -> Int -> List ByteArray -> Int -> Option (Bool)
 | 0, _, _, _, _, _, _, _ => none
 | k + 1, x0, x2, x3, x9, x10, x11, x12 => if x12 < (x9.length : Int) then (if 0 <= x12 then ((r_Insert.f k x11 (rdOf ByteArray.empty x9 x12)).bind fun t350 => ((r_Imports.f k x0 (rdOf ByteArray.empty x9 x12)).bind fun t354 => (r_back.l2 k x0 x2 x3 x9 x10 t350 x12 t354 0))) else (none)) else (r_back.l0 k x0 x2 x3 x11 (wrap64 (x10 + 1)))
noncomputable def r_back.l2 : Nat -> List (S42) -> ByteArray -> Int -> List ByteArray -> Int -> List ByteArray -> Int -> List ByteArray -> Int -> Option (Bool)
 | 0, _, _, _, _, _, _, _, _, _ => none
 | k + 1, x0, x2, x3, x9, x10, x11, x12, x13, x14 => if x14 < (x13.length : Int) then (if 0 <= x14 then (if (rdOf ByteArray.empty x13 x14).toList = x2.toList then (some true) else ((r_Insert.f k x11 (rdOf ByteArray.empty x13 x14)).bind fun t359 => (r_back.l2 k x0 x2 x3 x9 x10 t359 x12 x13 (wrap64 (x14 + 1))))) else (none)) else (r_back.l1 k x0 x2 x3 x9 x10 x11 (wrap64 (x12 + 1)))
end
noncomputable def r_back.f (k : Nat) (l0 : List (S42)) (a1 : ByteArray) (a2 : ByteArray) (a3 : Int) : Option (Bool) := r_back.l0 k l0 a2 a3 (([a1] : List ByteArray)) 0
theorem r_back.calls (k : Nat) (A0 : Option Addr) (c0 : Nat) (l0 : List (S42)) (a1 : ByteArray) (a2 : ByteArray) (a3 : Int) (r : Bool) (w : World) (hr0 : Kd.C k42 w A0 l0.length l0) (hc0 : l0.length <= c0) (h : r_back.f k l0 a1 a2 a3 = some r) :
 Calls Try.prog 49 #[.slice A0 l0.length c0, .string a1, .string a2, .int .i64 a3] w fun e w' => e = .returned (.bool r) /\ Below w.heap.size w w' := by
 have HR0 := aM hr0
 have HC0 := aM hc0
 clear hr0 hc0
 have HB := aM (Below.refl w.heap.size w)
 have H : (r_back.l0 k l0 a2 a3 (([a1] : List ByteArray)) 0) = some r := h
 clear h
 obtain ⟨y346, hy346⟩ : ∃ y_ : List ByteArray, y_ = (([a1] : List ByteArray)) := ⟨_, rfl⟩
 replace H : (r_back.l0 k l0 a2 a3 y346 0) = some r := by first | (rw [hy346]; with_reducible exact H) | (have H2_ := (Option.bind_some _ _).symm.trans H; rw [hy346]; with_reducible exact H2_) | (have H2_ := (Option.bind_some _ _).symm.trans H; with_reducible exact H2_) | with_reducible exact H | (rw [hy346]; exact H) | exact H
 have Ny346 := aM hy346
 clear hy346
 have H' := aM H
 clear H
 go_enter Try.func49, Try.ntmps49
 go_wp2_with (first | ((with_reducible refine gate_dst (N := 16) rfl ?_); refine R_lit Kd.string _ 9 ?hg (N := 16) ?hd (xs := ([a1] : List ByteArray)) (inner := [.string a1]) (ok := fun _ => True) (okp := fun _ => True) ?hr ?hp (fun _ hk => hk) trivial (Below.refl _ _) (Nat.le_refl _) (by simp) ?_; (case hd => rfl); (case hg => rfl); (case hr => first | (go_simp; done) | (go_simp; rfl)); (case hp => exact (Reps.one (show Kd.M Kd.string _ _ _ a1 [.string a1] from rfl) (Reps.none _ _))); intro v347 w5 ho6 hb hg_ hnew_; clear hg_ hnew_; (first | rw [<- Ny346.1] at ho6 | (simp only [Int.reduceToNat] at ho6; rw [<- Ny346.1] at ho6)); have HO348 := aM (R_lower ho6 (below_size (hh HB))); replace HB := bs HB hb; clear hb ho6))
 go_loopg [9, 10] k (fun kq v9 v10 w' => ∃ (x9_1 : List ByteArray) (x10_1 : Int), v10 = .int .i64 x10_1 /\ Az (r_back.l0 kq l0 a2 a3 x9_1 x10_1 = some r) /\ Az (kq <= k) /\ Az (Kd.R Kd.string 9 w' w.heap.size (fun _ => True) v9 x9_1) /\ Az (Below w.heap.size w w'))
 case atStart => exact ⟨(y346), (0), rr, H', ⟨Nat.le_refl _⟩, ⟨rk HO348⟩, ⟨hh HB⟩⟩
 case round =>
  clear H'
  obtain ⟨x9_1, x10_1, rfl, HA, HK1, HO_9, HB⟩ := hrel
  cases gk with
  | zero => exact absurd HA.1 (by simp [r_back.l0])
  | succ k1 =>
   have H := HA.1
   clear HA
   simp only [r_back.l0] at H
   by_cases c7 : x10_1 <= a3
   rotate_left
   · rw [if_neg c7] at H
     have c7b0 : decide (x10_1 <= a3) = false := decide_eq_false c7
     clear c7
     obtain rfl := Option.some.inj H
     go_wp2
     go_ret
     exact ⟨by first | rfl | (simp [errW_none, errW_some] <;> rfl) | (simp [*, errW_none, errW_some] <;> rfl), hh HB⟩
   rw [if_pos c7] at H
   have c7b0 : decide (x10_1 <= a3) = true := decide_eq_true c7
   clear c7
   have H' := aM H
   clear H
   go_wp2
   go_loopg [11, 12] k1 (fun kq v11 v12 w' => ∃ (x11_2 : List ByteArray) (x12_2 : Int), v12 = .int .i64 x12_2 /\ Az (r_back.l1 kq l0 a2 a3 x9_1 x10_1 x11_2 x12_2 = some r) /\ Az (kq <= k1) /\ Az (Kd.R Kd.string 9 w' w.heap.size (fun k_ => some k_ ≠ (v11 : Value).ownBlock) u9 x9_1) /\ Az (Kd.R Kd.string 9 w' w.heap.size (fun k_ => some k_ ≠ (u9 : Value).ownBlock) v11 x11_2) /\ Az (Below w.heap.size w w'))
   case atStart => exact ⟨(([] : List ByteArray)), (0), rr, H', ⟨Nat.le_refl _⟩, ⟨rz (R_mono HO_9.1 (fun _ hk => (by simp [Value.ownBlock])))⟩, ⟨by first | exact R_nil _ _ _ _ _ | exact N_nil _ _ _ _ _ | exact V_nil _ _ _ _ _ | exact Q_nil _ _ _ _ _ | exact S_nil _ _ _ _ _⟩, ⟨hh HB⟩⟩
   case round =>
    clear H'
    clear c7b0
    obtain ⟨x11_2, x12_2, rfl, HA, HK2, HO_9, HO_11, HB⟩ := hrel
    cases gk with
    | zero => exact absurd HA.1 (by simp [r_back.l1])
    | succ k2 =>
     have H := HA.1
     clear HA
     simp only [r_back.l1] at H
     by_cases c8 : x12_2 < (x9_1.length : Int)
     rotate_left
     · rw [if_neg c8] at H
       have c8b0 : decide (x12_2 < (x9_1.length : Int)) = false := decide_eq_false c8
       clear c8
       have H' := aM H
       clear H
       obtain ⟨Ao25, co25, eo25⟩ := R_slice HO_9.1
       subst eo25
       go_wp2
       go_roundg k2
       case measure => have := HK1.1; have := HK2.1; omega
       case rel => exact ⟨(x11_2), (wrap64 (x10_1 + 1)), rr, H', ⟨by have := HK1.1; have := HK2.1; omega⟩, ⟨rz (R_mono HO_11.1 (fun _ hk => trivial))⟩, ⟨hh HB⟩⟩
     rw [if_pos c8] at H
     have c8b0 : decide (x12_2 < (x9_1.length : Int)) = true := decide_eq_true c8
     clear c8
     by_cases c9 : 0 <= x12_2
     rotate_left
     · rw [if_neg c9] at H
       exact absurd H (by simp)
     rw [if_pos c9] at H
     have c9b0 : decide (0 <= x12_2) = true := decide_eq_true c9
     clear c9
     replace H := Option.bind_eq_some_iff.mp H
     obtain ⟨t350, A100, H⟩ := H
     try dsimp only at H
     have A10 := aM A100
     clear A100
     replace H := Option.bind_eq_some_iff.mp H
     obtain ⟨t354, A110, H⟩ := H
     try dsimp only at H
     have A11 := aM A110
     clear A110
     have H' := aM H
     clear H
     obtain ⟨Ao12, co12, eo12⟩ := R_slice HO_9.1
     subst eo12
     have p349 : 0 <= (x12_2 : Int) := dt
     have q349 : x12_2 < (x9_1.length : Int) := dt
     obtain ⟨ad349, e349, hx349_0⟩ := Kd.at_string (R_reads' HO_9.1).2.2 x12_2 p349 q349
     cases e349
     replace p349 := eq_true p349
     replace q349 := eq_true q349
     obtain ⟨Ao13, co13, eo13⟩ := R_slice HO_11.1
     subst eo13
     go_wp2_with (first | ((with_reducible refine gate_callee (f := 38) rfl ?_); refine gL (some 33) rfl rfl Try.func38 (by kernel_rfl) rfl #[.slice Ao13 x11_2.length co13, .string (rdOf ByteArray.empty x9_1 x12_2)] rfl ?_; (with_reducible refine (r_Insert.calls k2 _ _ x11_2 (rdOf ByteArray.empty x9_1 x12_2) t350 _ ?side1 ?side2 A10.1).mono ?_); (case side1 => exact cr HO_11); (case side2 => exact (R_reads' HO_11.1).2.1); rintro e w14 ⟨v351, rfl, ho0, hb⟩; refine ⟨_, rfl, ?_⟩; have HO352 := aM (R_lower (R_new' (R_new' ho0 (R_lt (rk HO_9))) (R_lt (rk HO_11))) (below_size (hh HB))); replace HO_9 := aM (R_elder' (rk HO_9) (R_base ho0) hb); replace HO_11 := aM (R_elder' (rk HO_11) (R_base ho0) hb); replace HB := bs HB hb; clear hb ho0; have p353 : 0 <= (x12_2 : Int) := dt; have q353 : x12_2 < (x9_1.length : Int) := dt; obtain ⟨ad353, e353, hx353_0⟩ := Kd.at_string (R_reads' HO_9.1).2.2 x12_2 p353 q353; obtain rfl : ad349 = ad353 := (by injection e353); replace p353 := eq_true p353; replace q353 := eq_true q353) | ((with_reducible refine gate_callee (f := 22) rfl ?_); refine gL (some 39) rfl rfl Try.func22 (by kernel_rfl) rfl #[.slice A0 l0.length c0, .string (rdOf ByteArray.empty x9_1 x12_2)] rfl ?_; (with_reducible refine (r_Imports.calls k2 _ _ l0 (rdOf ByteArray.empty x9_1 x12_2) t354 _ ?side1 ?side2 A11.1).mono ?_); (case side1 => exact cb HR0 HB); (case side2 => exact HC0.1); rintro e w15 ⟨v355, rfl, ho0, hb⟩; refine ⟨_, rfl, ?_⟩; have HO356 := aM (R_lower (R_new' (R_new' (R_new' ho0 (R_lt (rk HO_9))) (R_lt (rk HO_11))) (R_lt (rk HO352))) (below_size (hh HB))); replace HO_9 := aM (R_elder' (rk HO_9) (R_base ho0) hb); replace HO_11 := aM (R_elder' (rk HO_11) (R_base ho0) hb); replace HO352 := aM (R_elder' (rk HO352) (R_base ho0) hb); replace HB := bs HB hb; clear hb ho0))
     go_loopg [11, 14] k2 (fun kq v11 v14 w' => ∃ (x11_3 : List ByteArray) (x14_3 : Int), v14 = .int .i64 x14_3 /\ Az (r_back.l2 kq l0 a2 a3 x9_1 x10_1 x11_3 x12_2 t354 x14_3 = some r) /\ Az (kq <= k2) /\ Az (Kd.R Kd.string 9 w' w.heap.size (fun k_ => some k_ ≠ (v11 : Value).ownBlock /\ some k_ ≠ (v355 : Value).ownBlock) (.slice (some ad349) x9_1.length co12) x9_1) /\ Az (Kd.R Kd.string 9 w' w.heap.size (fun k_ => some k_ ≠ ((.slice (some ad349) x9_1.length co12) : Value).ownBlock /\ some k_ ≠ (v355 : Value).ownBlock) v11 x11_3) /\ Az (Kd.R Kd.string 9 w' w.heap.size (fun k_ => some k_ ≠ ((.slice (some ad349) x9_1.length co12) : Value).ownBlock /\ some k_ ≠ (v11 : Value).ownBlock) v355 t354) /\ Az (Below w.heap.size w w'))
     case atStart => exact ⟨(t350), (0), rr, H', ⟨Nat.le_refl _⟩, ⟨rz (R_mono HO_9.1 (fun _ hk => ⟨hk.1.2, hk.2⟩))⟩, ⟨rz (R_mono HO352.1 (fun _ hk => ⟨hk.1.1.2, hk.2⟩))⟩, ⟨rz (R_mono HO356.1 (fun _ hk => ⟨hk.1.1.2, hk.2⟩))⟩, ⟨hh HB⟩⟩
     case round =>
      clear H'
      clear c8b0 c9b0 hx349_0 hx353_0 p349 p353 q349 q353
      obtain ⟨x11_3, x14_3, rfl, HA, HK3, HO_9, HO_11, HO_13, HB⟩ := hrel
      cases gk with
      | zero => exact absurd HA.1 (by simp [r_back.l2])
      | succ k3 =>
       have H := HA.1
       clear HA
       simp only [r_back.l2] at H
       by_cases c16 : x14_3 < (t354.length : Int)
       rotate_left
       · rw [if_neg c16] at H
         have c16b0 : decide (x14_3 < (t354.length : Int)) = false := decide_eq_false c16
         clear c16
         have H' := aM H
         clear H
         obtain ⟨Ao24, co24, eo24⟩ := R_slice HO_13.1
         subst eo24
         go_wp2
         go_roundg k3
         case measure => have := HK1.1; have := HK2.1; have := HK3.1; omega
         case rel => exact ⟨(x11_3), (wrap64 (x12_2 + 1)), rr, H', ⟨by have := HK1.1; have := HK2.1; have := HK3.1; omega⟩, ⟨rz (R_mono HO_9.1 (fun _ hk => hk.1))⟩, ⟨rz (R_mono HO_11.1 (fun _ hk => hk.1))⟩, ⟨hh HB⟩⟩
       rw [if_pos c16] at H
       have c16b0 : decide (x14_3 < (t354.length : Int)) = true := decide_eq_true c16
       clear c16
       by_cases c17 : 0 <= x14_3
       rotate_left
       · rw [if_neg c17] at H
         exact absurd H (by simp)
       rw [if_pos c17] at H
       have c17b0 : decide (0 <= x14_3) = true := decide_eq_true c17
       clear c17
       by_cases c18 : (rdOf ByteArray.empty t354 x14_3).toList = a2.toList
       · rw [if_pos c18] at H
         have c18b0 : ((rdOf ByteArray.empty t354 x14_3).toList == a2.toList) = true := beq_iff_eq.mpr c18
         have c18b1 : ((rdOf ByteArray.empty t354 x14_3).toList != a2.toList) = false := bne_eq_false_iff_eq.mpr c18
         clear c18
         obtain rfl := Option.some.inj H
         obtain ⟨Ao19, co19, eo19⟩ := R_slice HO_13.1
         subst eo19
         have p357 : 0 <= (x14_3 : Int) := dt
         have q357 : x14_3 < (t354.length : Int) := dt
         obtain ⟨ad357, e357, hx357_0⟩ := Kd.at_string (R_reads' HO_13.1).2.2 x14_3 p357 q357
         cases e357
         replace p357 := eq_true p357
         replace q357 := eq_true q357
         go_wp2
         go_ret
         exact ⟨by first | rfl | (simp [errW_none, errW_some] <;> rfl) | (simp [*, errW_none, errW_some] <;> rfl), hh HB⟩
       rw [if_neg c18] at H
       have c18b0 : ((rdOf ByteArray.empty t354 x14_3).toList == a2.toList) = false := beq_eq_false_iff_ne.mpr c18
       have c18b1 : ((rdOf ByteArray.empty t354 x14_3).toList != a2.toList) = true := bne_iff_ne.mpr c18
       replace H := Option.bind_eq_some_iff.mp H
       obtain ⟨t359, A200, H⟩ := H
       try dsimp only at H
       have A20 := aM A200
       clear A200
       have H' := aM H
       clear H
       obtain ⟨Ao21, co21, eo21⟩ := R_slice HO_13.1
       subst eo21
       have p357 : 0 <= (x14_3 : Int) := dt
       have q357 : x14_3 < (t354.length : Int) := dt
       obtain ⟨ad357, e357, hx357_0⟩ := Kd.at_string (R_reads' HO_13.1).2.2 x14_3 p357 q357
       cases e357
       replace p357 := eq_true p357
       replace q357 := eq_true q357
       have p358 : 0 <= (x14_3 : Int) := dt
       have q358 : x14_3 < (t354.length : Int) := dt
       obtain ⟨ad358, e358, hx358_0⟩ := Kd.at_string (R_reads' HO_13.1).2.2 x14_3 p358 q358
       obtain rfl : ad357 = ad358 := (by injection e358)
       replace p358 := eq_true p358
       replace q358 := eq_true q358
       obtain ⟨Ao22, co22, eo22⟩ := R_slice HO_11.1
       subst eo22
       go_wp2_with (first | ((with_reducible refine gate_callee (f := 38) rfl ?_); refine gL (some 57) rfl rfl Try.func38 (by kernel_rfl) rfl #[.slice Ao22 x11_3.length co22, .string (rdOf ByteArray.empty t354 x14_3)] rfl ?_; (with_reducible refine (r_Insert.calls k3 _ _ x11_3 (rdOf ByteArray.empty t354 x14_3) t359 _ ?side1 ?side2 A20.1).mono ?_); (case side1 => exact cr HO_11); (case side2 => exact (R_reads' HO_11.1).2.1); rintro e w23 ⟨v360, rfl, ho0, hb⟩; refine ⟨_, rfl, ?_⟩; have HO361 := aM (R_lower (R_new' (R_new' (R_new' ho0 (R_lt (rk HO_9))) (R_lt (rk HO_11))) (R_lt (rk HO_13))) (below_size (hh HB))); replace HO_9 := aM (R_elder' (rk HO_9) (R_base ho0) hb); replace HO_11 := aM (R_elder' (rk HO_11) (R_base ho0) hb); replace HO_13 := aM (R_elder' (rk HO_13) (R_base ho0) hb); replace HB := bs HB hb; clear hb ho0))
       go_roundg k3
       case measure => have := HK1.1; have := HK2.1; have := HK3.1; omega
       case rel => exact ⟨(t359), (wrap64 (x14_3 + 1)), rr, H', ⟨by have := HK1.1; have := HK2.1; have := HK3.1; omega⟩, ⟨rz (R_mono HO_9.1 (fun _ hk => ⟨hk.2, hk.1.2⟩))⟩, ⟨rz (R_mono HO361.1 (fun _ hk => ⟨hk.1.1.2, hk.2⟩))⟩, ⟨rz (R_mono HO_13.1 (fun _ hk => ⟨hk.1.1, hk.2⟩))⟩, ⟨hh HB⟩⟩
mutual
noncomputable def r_paths.l0 : Nat -> List (S42) -> List ByteArray -> Int -> List ByteArray -> Int -> Option (List ByteArray)
 | 0, _, _, _, _, _ => none
 | k + 1, x0, x1, x2, x7, x8 => if x8 < (x7.length : Int) then (r_paths.j1 k x0 x1 x2 x7 x8 (decide ((x1.length : Int) < x2))) else (r_paths.j1 k x0 x1 x2 x7 x8 false)
noncomputable def r_paths.j1 : Nat -> List (S42) -> List ByteArray -> Int -> List ByteArray -> Int -> Bool -> Option (List ByteArray)
 | 0, _, _, _, _, _, _ => none
 | k + 1, x0, x1, x2, x7, x8, x34 => if x34 = true then (if 0 <= x8 then (if x8 < (x7.length : Int) then ((q_Has.f k x1 (rdOf ByteArray.empty x7 x8)).bind fun t369 => (if t369 = true then (r_paths.j2 k x0 x1 x2 x7 x8 true) else (if 0 < (x1.length : Int) then ((r_back.f k x0 (rdOf ByteArray.empty x7 x8) (rdOf ByteArray.empty x1 0) (wrap64 ((wrap64 (x2 - (x1.length : Int))) - 1))).bind fun t372 => (r_paths.j2 k x0 x1 x2 x7 x8 (!t372))) else (none)))) else (none)) else (none)) else (some ([] : List ByteArray))
noncomputable def r_paths.j2 : Nat -> List (S42) -> List ByteArray -> Int -> List ByteArray -> Int -> Bool -> Option (List ByteArray)
 | 0, _, _, _, _, _, _ => none
 | k + 1, x0, x1, x2, x7, x8, x59 => if x59 = true then (r_paths.l0 k x0 x1 x2 x7 (wrap64 (x8 + 1))) else (if ([] : List ByteArray).length + x1.length < 8796093022208 then ((some (([] : List ByteArray) ++ x1 : List ByteArray)).bind fun y373 => (if 0 <= x8 then (if x8 < (x7.length : Int) then (if y373.length < 8796093022208 then ((r_paths.f k x0 (y373 ++ [rdOf ByteArray.empty x7 x8]) x2).bind fun t380 => (if (t380.length : Int) > 0 then (some t380) else (r_paths.l0 k x0 x1 x2 x7 (wrap64 (x8 + 1))))) else (none)) else (none)) else (none))) else (none))
noncomputable def r_paths.f : Nat -> List (S42) -> List ByteArray -> Int -> Option (List ByteArray)
 | 0, _, _, _ => none
 | k + 1, l0, l1, a2 => if 0 <= (wrap64 ((l1.length : Int) - 1)) then (if (wrap64 ((l1.length : Int) - 1)) < (l1.length : Int) then ((r_Imports.f k l0 (rdOf ByteArray.empty l1 (wrap64 ((l1.length : Int) - 1)))).bind fun t363 => (if 0 < (l1.length : Int) then ((q_Has.f k t363 (rdOf ByteArray.empty l1 0)).bind fun t367 => (if t367 = true then (some l1) else (r_paths.l0 k l0 l1 a2 t363 0))) else (none))) else (none)) else (none)
end
noncomputable def r_paths.T7 : Bool × List (List Nat × List Nat) := (true, [([], []), ([], []), ([], []), ([1, 2], [1, 2]), ([3], [3]), ([0, 4], [0, 4]), ([5, 5], [5]), ([6], [6]), ([6], [6]), ([6], [6]), ([8, 9, 6], [6, 8, 9]), ([10, 6], [6, 10]), ([6], [6]), ([12, 6], [6, 12]), ([13, 6], [6, 13]), ([6], [6]), ([6], [6]), ([16, 6], [6, 16]), ([15, 17, 6], [6, 15, 17]), ([18, 6], [6, 18]), ([7, 11, 14, 19, 6, 6], [6, 7, 11, 14, 19]), ([20, 6], [6, 20]), ([6, 21], [6, 21])])
noncomputable def r_paths.B7 : List Nat := [0, 0, 0, 6, 14, 31, 63, 127, 127, 127, 895, 1919, 127, 4223, 12415, 127, 127, 65663, 229503, 491647, 1048575, 2097151, 4194303]
theorem r_paths.tab7 : rtab .any (opsOf Try.f37 7) = r_paths.T7 := by kernel_rfl
theorem r_paths.bits7 : waitsOk r_paths.T7.2 r_paths.B7 = true := by kernel_rfl
theorem r_paths.calls (k : Nat) : ∀ (A0 : Option Addr) (c0 : Nat) (l0 : List (S42)) (P1_ : Nat -> Prop) (u9000_ : Value) (l1 : List ByteArray) (a2 : Int) (r : List ByteArray) (w0 w : World) (hB : Below w0.heap.size w0 w) (hr0 : ∀ W_, Kept w W_ (fun k_ => P1_ k_) -> Kd.C k42 W_ A0 l0.length l0) (hc0 : l0.length <= c0) (ho1 : Kd.R Kd.string 9 w w0.heap.size P1_ u9000_ l1) (h : r_paths.f k l0 l1 a2 = some r),
 Calls Try.prog 37 #[.slice A0 l0.length c0, u9000_, .int .i64 a2] w fun e w' => ∃ v0_ : Value, e = .returned (v0_) /\ Kd.R Kd.string 9 w' w0.heap.size (fun k_ => (P1_ k_ \/ w.heap.size <= k_)) v0_ r /\ Below w0.heap.size w0 w' /\ Kept w w' (fun k_ => P1_ k_) := by
 induction k using Nat.strongRecOn with
 | _ k ih =>
 intro A0 c0 l0 P1_ u9000_ l1 a2 r w0 w hB hr0 hc0 ho1 h
 cases k with
 | zero => exact absurd h (by simp [r_paths.f])
 | succ k =>
 simp only [r_paths.f] at h
 have HR0 := aM hr0
 have HC0 := aM hc0
 clear hr0 hc0
 have HO1 := aM (show Kd.R Kd.string 9 w w0.heap.size (fun k_ => (P1_ k_ \/ w.heap.size <= k_)) u9000_ l1 from R_mono ho1 (fun k_ hk => (.inl hk)))
 have HK := aM (Kept.refl w (fun k_ => P1_ k_))
 have HW0 := aM hB.size
 have HB := aM hB
 clear hB
 have H : (if 0 <= (wrap64 ((l1.length : Int) - 1)) then (if (wrap64 ((l1.length : Int) - 1)) < (l1.length : Int) then ((r_Imports.f k l0 (rdOf ByteArray.empty l1 (wrap64 ((l1.length : Int) - 1)))).bind fun t363 => (if 0 < (l1.length : Int) then ((q_Has.f k t363 (rdOf ByteArray.empty l1 0)).bind fun t367 => (if t367 = true then (some l1) else (r_paths.l0 k l0 l1 a2 t363 0))) else (none))) else (none)) else (none)) = some r := h
 clear h
 obtain ⟨ji4, hji4⟩ : ∃ j_ : Int, (wrap64 ((l1.length : Int) - 1)) = j_ := ⟨_, rfl⟩
 replace H : (if 0 <= (ji4) then (if (ji4) < (l1.length : Int) then ((r_Imports.f k l0 (rdOf ByteArray.empty l1 (ji4))).bind fun t363 => (if 0 < (l1.length : Int) then ((q_Has.f k t363 (rdOf ByteArray.empty l1 0)).bind fun t367 => (if t367 = true then (some l1) else (r_paths.l0 k l0 l1 a2 t363 0))) else (none))) else (none)) else (none)) = some r := by first | (rw [hji4] at H; exact H) | (simp only [hji4] at H ⊢; exact H)
 have hji4w : (IntKind.i64.wrap ((l1.length : Int) - 1)) = ji4 := (i64_w _).trans hji4
 by_cases c5 : 0 <= (ji4)
 rotate_left
 · rw [if_neg c5] at H
   exact absurd H (by simp)
 rw [if_pos c5] at H
 have c5b0 : decide (0 <= (ji4)) = true := decide_eq_true c5
 clear c5
 by_cases c6 : (ji4) < (l1.length : Int)
 rotate_left
 · rw [if_neg c6] at H
   exact absurd H (by simp)
 rw [if_pos c6] at H
 have c6b0 : decide ((ji4) < (l1.length : Int)) = true := decide_eq_true c6
 clear c6
 replace H := Option.bind_eq_some_iff.mp H
 obtain ⟨t363, A70, H⟩ := H
 try dsimp only at H
 have A7 := aM A70
 clear A70
 by_cases c8 : 0 < (l1.length : Int)
 rotate_left
 · rw [if_neg c8] at H
   exact absurd H (by simp)
 rw [if_pos c8] at H
 have c8b0 : decide (0 < (l1.length : Int)) = true := decide_eq_true c8
 have c8b1 : decide (0 < l1.length) = true := decide_eq_true (by omega)
 clear c8
 replace H := Option.bind_eq_some_iff.mp H
 obtain ⟨t367, A90, H⟩ := H
 try dsimp only at H
 have A9 := aM A90
 clear A90
 by_cases c10 : t367 = true
 · subst c10
   rw [if_pos rfl] at H
   obtain rfl := Option.some.inj H
   obtain ⟨Ao11, co11, eo11⟩ := R_slice HO1.1
   subst eo11
   have p362 : 0 <= ((ji4) : Int) := dt
   have q362 : (ji4) < (l1.length : Int) := dt
   obtain ⟨ad362, e362, hx362_0⟩ := Kd.at_string (R_reads' HO1.1).2.2 (ji4) p362 q362
   cases e362
   replace p362 := eq_true p362
   replace q362 := eq_true q362
   go_enter Try.func37, Try.ntmps37
   go_wp2_with (first | ((with_reducible refine gate_callee (f := 22) rfl ?_); refine goesL_ (some 18) rfl rfl Try.func22 (by kernel_rfl) rfl #[.slice A0 l0.length c0, .string (rdOf ByteArray.empty l1 (ji4))] rfl (by (try simp only [List.map_toArray, List.map_cons, List.map_nil]); first | done | (simp only [hji4]; rfl) | rfl | (simp only [List.length_drop, List.length_take]; rfl)) ?_; (with_reducible refine (r_Imports.calls k _ _ l0 (rdOf ByteArray.empty l1 (ji4)) t363 _ ?side1 ?side2 A7.1).mono ?_); (case side1 => exact C_kept_now HR0.1 (hk HK)); (case side2 => exact HC0.1); rintro e w12 ⟨v364, rfl, ho0, hb⟩; refine ⟨_, rfl, ?_⟩; have HO365 := aM (R_lower (R_new' (R_newM (M := fun k_ => (P1_ k_ \/ w.heap.size <= k_)) ho0 (by first | exact HK.1.1 | exact (show Kept w _ (fun k_ => P1_ k_) from hk HK).1) (fun k_ h_ => .inr h_)) (R_lt (rk HO1))) (below_size (hh HB))); replace HO1 := aM (R_elder' (rk HO1) (R_base ho0) hb); replace HK := aM (Kept.below (S := (fun k_ => P1_ k_)) (hk HK) hb); replace HB := bs HB hb; clear hb ho0; have p366 : 0 <= (0 : Int) := (by omega); have q366 : 0 < (l1.length : Int) := dt; obtain ⟨ad366, e366, hx366_0⟩ := Kd.at_string (R_reads' HO1.1).2.2 0 p366 q366; obtain rfl : ad362 = ad366 := (by injection e366); have qi366 : (0 < l1.length) = True := eq_true (by omega); (try rw [show ((0 : Int)).toNat = 0 from rfl] at hx366_0); (try rw [Addr.add_zero'] at hx366_0); replace p366 := eq_true p366; replace q366 := eq_true q366; obtain ⟨Ao13, co13, eo13⟩ := R_slice HO365.1; subst eo13) | ((with_reducible refine gate_callee (f := 21) rfl ?_); refine gL (some 23) rfl rfl Try.func21 (by kernel_rfl) rfl #[.slice Ao13 t363.length co13, .string (rdOf ByteArray.empty l1 0)] rfl ?_; (with_reducible refine (q_Has.calls k _ _ t363 (rdOf ByteArray.empty l1 0) true _ ?side1 ?side2 A9.1).mono ?_); (case side1 => exact cr HO365); (case side2 => exact (R_reads' HO365.1).2.1); rintro e w' ⟨rfl, ⟨nd, rfl⟩⟩; refine ⟨_, rfl, ?_⟩))
   go_ret
   exact ⟨_, by first | rfl | (simp [errW_none, errW_some] <;> rfl) | (simp only [<- hji4]; first | rfl | (simp [errW_none, errW_some] <;> rfl)) | (simp [*, errW_none, errW_some] <;> rfl), rz (R_mono HO1.1 (fun _ hk => hk.1)), hh HB, hk HK⟩
 replace c10 := Bool.eq_false_iff.mpr c10
 subst c10
 rw [if_neg (show ¬ (false = true) by decide)] at H
 have H' := aM H
 clear H
 obtain ⟨Ao14, co14, eo14⟩ := R_slice HO1.1
 subst eo14
 have p362 : 0 <= ((ji4) : Int) := dt
 have q362 : (ji4) < (l1.length : Int) := dt
 obtain ⟨ad362, e362, hx362_0⟩ := Kd.at_string (R_reads' HO1.1).2.2 (ji4) p362 q362
 cases e362
 replace p362 := eq_true p362
 replace q362 := eq_true q362
 go_enter Try.func37, Try.ntmps37
 go_wp2_with (first | ((with_reducible refine gate_callee (f := 22) rfl ?_); refine goesL_ (some 18) rfl rfl Try.func22 (by kernel_rfl) rfl #[.slice A0 l0.length c0, .string (rdOf ByteArray.empty l1 (ji4))] rfl (by (try simp only [List.map_toArray, List.map_cons, List.map_nil]); first | done | (simp only [hji4]; rfl) | rfl | (simp only [List.length_drop, List.length_take]; rfl)) ?_; (with_reducible refine (r_Imports.calls k _ _ l0 (rdOf ByteArray.empty l1 (ji4)) t363 _ ?side1 ?side2 A7.1).mono ?_); (case side1 => exact C_kept_now HR0.1 (hk HK)); (case side2 => exact HC0.1); rintro e w15 ⟨v364, rfl, ho0, hb⟩; refine ⟨_, rfl, ?_⟩; have HO365 := aM (R_lower (R_new' (R_newM (M := fun k_ => (P1_ k_ \/ w.heap.size <= k_)) ho0 (by first | exact HK.1.1 | exact (show Kept w _ (fun k_ => P1_ k_) from hk HK).1) (fun k_ h_ => .inr h_)) (R_lt (rk HO1))) (below_size (hh HB))); replace HO1 := aM (R_elder' (rk HO1) (R_base ho0) hb); replace HK := aM (Kept.below (S := (fun k_ => P1_ k_)) (hk HK) hb); replace HB := bs HB hb; clear hb ho0; have p366 : 0 <= (0 : Int) := (by omega); have q366 : 0 < (l1.length : Int) := dt; obtain ⟨ad366, e366, hx366_0⟩ := Kd.at_string (R_reads' HO1.1).2.2 0 p366 q366; obtain rfl : ad362 = ad366 := (by injection e366); have qi366 : (0 < l1.length) = True := eq_true (by omega); (try rw [show ((0 : Int)).toNat = 0 from rfl] at hx366_0); (try rw [Addr.add_zero'] at hx366_0); replace p366 := eq_true p366; replace q366 := eq_true q366; obtain ⟨Ao16, co16, eo16⟩ := R_slice HO365.1; subst eo16) | ((with_reducible refine gate_callee (f := 21) rfl ?_); refine gL (some 23) rfl rfl Try.func21 (by kernel_rfl) rfl #[.slice Ao16 t363.length co16, .string (rdOf ByteArray.empty l1 0)] rfl ?_; (with_reducible refine (q_Has.calls k _ _ t363 (rdOf ByteArray.empty l1 0) false _ ?side1 ?side2 A9.1).mono ?_); (case side1 => exact cr HO365); (case side2 => exact (R_reads' HO365.1).2.1); rintro e w' ⟨rfl, ⟨nd, rfl⟩⟩; refine ⟨_, rfl, ?_⟩))
 go_loopg [8] k (fun kq v8 w' => ∃ (x8_1 : Int), v8 = .int .i64 x8_1 /\ Az (r_paths.l0 kq l0 l1 a2 t363 x8_1 = some r) /\ Az (kq <= k) /\ Az (Kd.R Kd.string 9 w' w0.heap.size (fun k_ => (P1_ k_ \/ w.heap.size <= k_) /\ some k_ ≠ ((.slice Ao16 t363.length co16) : Value).ownBlock) (.slice (some ad362) l1.length co14) l1) /\ Az (Kd.R Kd.string 9 w' w0.heap.size (fun k_ => (P1_ k_ \/ w.heap.size <= k_) /\ some k_ ≠ ((.slice (some ad362) l1.length co14) : Value).ownBlock) (.slice Ao16 t363.length co16) t363) /\ Az (Kept w w' (fun k_ => P1_ k_)) /\ Az (Below w0.heap.size w0 w'))
 case atStart => exact ⟨(0), rr, H', ⟨Nat.le_refl _⟩, ⟨rk HO1⟩, ⟨rz (R_mono HO365.1 (fun _ hk => ⟨hk.1.1, hk.2⟩))⟩, ⟨hk HK⟩, ⟨hh HB⟩⟩
 case round =>
  clear H'
  clear c5b0 c6b0 c8b0 c8b1 hx362_0 hx366_0 p362 p366 q362 q366
  obtain ⟨x8_1, rfl, HA, HK1, HO_1, HO_7, HK, HB⟩ := hrel
  cases gk with
  | zero => exact absurd HA.1 (by simp [r_paths.l0])
  | succ k1 =>
   have H := HA.1
   clear HA
   simp only [r_paths.l0] at H
   have HC17 := aM H
   clear H
   go_upto_region 5 with (fail)
   go_cut [34] (fun v34 wc => ∃ (kq : Nat) (x34_16 : Bool), v34 = .bool x34_16 /\ Az (r_paths.j1 kq l0 l1 a2 t363 x8_1 x34_16 = some r) /\ Az (kq <= k1) /\ Az (Kd.R Kd.string 9 wc w0.heap.size (fun k_ => (P1_ k_ \/ w.heap.size <= k_) /\ some k_ ≠ ((.slice Ao16 t363.length co16) : Value).ownBlock) (.slice (some ad362) l1.length co14) l1) /\ Az (Kd.R Kd.string 9 wc w0.heap.size (fun k_ => (P1_ k_ \/ w.heap.size <= k_) /\ some k_ ≠ ((.slice (some ad362) l1.length co14) : Value).ownBlock) (.slice Ao16 t363.length co16) t363) /\ Az (Kept w wc (fun k_ => P1_ k_)) /\ Az (Below w0.heap.size w0 wc))
   case first =>
    have H := HC17.1
    clear HC17
    by_cases c18 : x8_1 < (t363.length : Int)
    rotate_left
    · rw [if_neg c18] at H
      have c18b0 : decide (x8_1 < (t363.length : Int)) = false := decide_eq_false c18
      clear c18
      (first | rw [c18b0] | (simp only [i64_w, i32_w]; rw [c18b0]) | skip)
      have H' := aM H
      clear H
      go_wp2
      go_meet
      case rel => exact ⟨_, (false), rr, H', (ol HK1), ⟨rk HO_1⟩, ⟨rk HO_7⟩, ⟨hk HK⟩, ⟨hh HB⟩⟩
    rw [if_pos c18] at H
    have c18b0 : decide (x8_1 < (t363.length : Int)) = true := decide_eq_true c18
    clear c18
    (first | rw [c18b0] | (simp only [i64_w, i32_w]; rw [c18b0]) | skip)
    have H' := aM H
    clear H
    go_wp2
    go_meet
    case rel => exact ⟨_, (decide ((l1.length : Int) < a2)), rr, H', (ol HK1), ⟨rk HO_1⟩, ⟨rk HO_7⟩, ⟨hk HK⟩, ⟨hh HB⟩⟩
   case rest =>
    clear HC17
    obtain ⟨kq, x34_16, rfl, HA, HJ16, HO_1, HO_7, HK, HB⟩ := hcut
    cases kq with
    | zero => exact absurd HA.1 (by simp [r_paths.j1])
    | succ kj16 =>
     have H := HA.1
     clear HA
     simp only [r_paths.j1] at H
     by_cases c19 : x34_16 = true
     rotate_left
     · replace c19 := Bool.eq_false_iff.mpr c19
       subst c19
       rw [if_neg (show ¬ (false = true) by decide)] at H
       obtain rfl := Option.some.inj H
       go_wp2
       go_ret
       exact ⟨_, by first | rfl | (simp [errW_none, errW_some] <;> rfl) | (simp only [<- hji4]; first | rfl | (simp [errW_none, errW_some] <;> rfl)) | (simp [*, errW_none, errW_some] <;> rfl), by first | exact R_nil _ _ _ _ _ | exact N_nil _ _ _ _ _ | exact V_nil _ _ _ _ _ | exact Q_nil _ _ _ _ _ | exact S_nil _ _ _ _ _, hh HB, hk HK⟩
     subst c19
     rw [if_pos rfl] at H
     have HC20 := aM H
     clear H
     go_upto_region 7 with (fail)
     go_cut [59] (fun v59 wc => ∃ (kq : Nat) (x59_19 : Bool), v59 = .bool x59_19 /\ Az (r_paths.j2 kq l0 l1 a2 t363 x8_1 x59_19 = some r) /\ Az (kq <= kj16) /\ Az (Kd.R Kd.string 9 wc w0.heap.size (fun k_ => (P1_ k_ \/ w.heap.size <= k_) /\ some k_ ≠ ((.slice Ao16 t363.length co16) : Value).ownBlock) (.slice (some ad362) l1.length co14) l1) /\ Az (Kd.R Kd.string 9 wc w0.heap.size (fun k_ => (P1_ k_ \/ w.heap.size <= k_) /\ some k_ ≠ ((.slice (some ad362) l1.length co14) : Value).ownBlock) (.slice Ao16 t363.length co16) t363) /\ Az (Kept w wc (fun k_ => P1_ k_)) /\ Az (Below w0.heap.size w0 wc))
     case first =>
      have H := HC20.1
      clear HC20
      by_cases c21 : 0 <= x8_1
      rotate_left
      · rw [if_neg c21] at H
        exact absurd H (by simp)
      rw [if_pos c21] at H
      have c21b0 : decide (0 <= x8_1) = true := decide_eq_true c21
      clear c21
      (first | rw [c21b0] | (simp only [i64_w, i32_w]; rw [c21b0]) | skip)
      by_cases c22 : x8_1 < (t363.length : Int)
      rotate_left
      · rw [if_neg c22] at H
        exact absurd H (by simp)
      rw [if_pos c22] at H
      have c22b0 : decide (x8_1 < (t363.length : Int)) = true := decide_eq_true c22
      clear c22
      replace H := Option.bind_eq_some_iff.mp H
      obtain ⟨t369, A230, H⟩ := H
      try dsimp only at H
      have A23 := aM A230
      clear A230
      by_cases c24 : t369 = true
      · subst c24
        rw [if_pos rfl] at H
        have H' := aM H
        clear H
        try go_wp2
        replace HO_1 := aM (R_drew HO_1.1)
        replace HO_7 := aM (R_drew HO_7.1)
        replace HK := aM (Kept.drew HK.1)
        replace HB := aM (below_drew1 HB.1)
        have p368 : 0 <= (x8_1 : Int) := dt
        have q368 : x8_1 < (t363.length : Int) := dt
        obtain ⟨ad368, e368, hx368_0⟩ := Kd.at_string (R_reads' HO_7.1).2.2 x8_1 p368 q368
        cases e368
        replace p368 := eq_true p368
        replace q368 := eq_true q368
        refine start_ (n := 23) (S := fun w' => w'.cell? (ad368.add (x8_1).toNat) = some (.string (rdOf ByteArray.empty t363 x8_1))) (ds := []) #[F_, F_, F_, F_, F_, F_, F_, F_, F_, F_, F_, F_, F_, F_, F_, F_, F_, F_, F_, F_, F_, F_, F_] (by kernel_rfl) rfl rfl (hx368_0) (fun hHeld => ?_); refine with_tabW r_paths.tab7 r_paths.bits7 (fun HT_ HW_ => ?_)
        generalize wc.drew = w25 at HO_1 HO_7 HK HB hx368_0 hHeld ⊢
        refine pure_ (i := 0) (N := some 37) (v := ?_) (a' := ?_) #[T_, F_, F_, F_, F_, F_, F_, F_, F_, F_, F_, F_, F_, F_, F_, F_, F_, F_, F_, F_, F_, F_, F_] rfl rfl (any_of HT_.1 (by kernel_rfl)) (fun _ _ _ h => h) (Or.inl ⟨by rfl, ?_⟩) ?_ ?_
        rotate_left
        · intro w'
          go_simp
          with_reducible rfl
        rotate_left
        · simp only [Act.put, sA, sZ, sS, i64_w, i32_w]
          rfl
        refine pure_ (i := 1) (N := some 38) (v := ?_) (a' := ?_) #[T_, T_, F_, F_, F_, F_, F_, F_, F_, F_, F_, F_, F_, F_, F_, F_, F_, F_, F_, F_, F_, F_, F_] rfl rfl (any_of HT_.1 (by kernel_rfl)) (fun _ _ _ h => h) (Or.inl ⟨by rfl, ?_⟩) ?_ ?_
        rotate_left
        · intro w'
          go_simp
          with_reducible rfl
        rotate_left
        · simp only [Act.put, sA, sZ, sS, i64_w, i32_w]
          rfl
        refine pure_ (i := 2) (N := some 39) (v := ?_) (a' := ?_) #[T_, T_, T_, F_, F_, F_, F_, F_, F_, F_, F_, F_, F_, F_, F_, F_, F_, F_, F_, F_, F_, F_, F_] rfl rfl (any_of HT_.1 (by kernel_rfl)) (fun _ _ _ h => h) (Or.inl ⟨by rfl, ?_⟩) ?_ ?_
        rotate_left
        · intro w'
          go_simp
          with_reducible rfl
        rotate_left
        · simp only [Act.put, sA, sZ, sS, i64_w, i32_w]
          rfl
        refine pure_ (i := 3) (N := some 40) (v := ?_) (a' := ?_) #[T_, T_, T_, T_, F_, F_, F_, F_, F_, F_, F_, F_, F_, F_, F_, F_, F_, F_, F_, F_, F_, F_, F_] rfl rfl (any_of HT_.1 (by kernel_rfl)) (fun _ _ _ h => h) (Or.inl ⟨by rfl, ?_⟩) ?_ ?_
        rotate_left
        · intro w'
          go_simp
          with_reducible rfl
        rotate_left
        · simp only [Act.put, sA, sZ, sS, i64_w, i32_w]
          rfl
        refine take_ (i := 4) (N := some 41) (v := ?_) (a' := ?_) #[T_, T_, T_, T_, T_, F_, F_, F_, F_, F_, F_, F_, F_, F_, F_, F_, F_, F_, F_, F_, F_, F_, F_] rfl rfl (take_ofW HT_.1 HW_.1 (by kernel_rfl)) (fun _ _ _ h => h) (Or.inl ⟨by rfl, ?_⟩) hHeld ?_ ?_
        rotate_left
        · intro w' s0
          go_simp
          with_reducible rfl
        rotate_left
        · simp only [Act.put, sA, sZ, sS, i64_w, i32_w]
          rfl
        refine one_ (i := 5) (N := some 42) #[T_, T_, T_, T_, T_, T_, F_, F_, F_, F_, F_, F_, F_, F_, F_, F_, F_, F_, F_, F_, F_, F_, F_] rfl rfl (one_of HT_.1 (by kernel_rfl)) (by decide) (fun K hK => ?_)
        refine goes_ Try.func21 (by kernel_rfl) rfl #[.slice (some ad362) l1.length co14, .string (rdOf ByteArray.empty t363 x8_1)] (by rfl) rfl rfl (by (try simp only [List.map_toArray, List.map_cons, List.map_nil]); first | done | rfl | (simp only [List.length_drop, List.length_take]; rfl)) ?_
        with_reducible refine (q_Has.calls kj16 _ _ l1 (rdOf ByteArray.empty t363 x8_1) true _ ?side1 ?side2 A23.1).mono ?_
        (case side1 => exact cr HO_1)
        (case side2 => exact (R_reads' HO_1.1).2.1)
        rintro e w' ⟨rfl, ⟨nd, rfl⟩⟩
        refine ⟨_, rfl, ?_⟩
        refine hK.out _ _ (hHeld) (fun hHeld => ?_)
        clear hK K
        refine norm_ (a' := ?_) ?_ ?_
        rotate_left
        · show Act.put _ (some 42) _ = _
          simp only [Act.put, sA, sZ, sS, i64_w, i32_w]
          rfl
        refine pure_ (i := 6) (N := some 43) (v := ?_) (a' := ?_) #[T_, T_, T_, T_, T_, T_, T_, F_, F_, F_, F_, F_, F_, F_, F_, F_, F_, F_, F_, F_, F_, F_, F_] rfl rfl (any_of HT_.1 (by kernel_rfl)) (fun _ _ _ h => h) (Or.inl ⟨by rfl, ?_⟩) ?_ ?_
        rotate_left
        · intro w'
          go_simp
          with_reducible rfl
        rotate_left
        · simp only [Act.put, sA, sZ, sS, i64_w, i32_w]
          rfl
        refine pure_ (i := 7) (N := some 44) (v := undef) (a' := ?_) #[T_, T_, T_, T_, T_, T_, T_, T_, F_, F_, F_, F_, F_, F_, F_, F_, F_, F_, F_, F_, F_, F_, F_] rfl rfl (any_of HT_.1 (by kernel_rfl)) (fun _ _ _ h => h) (Or.inr ⟨by rfl, rfl⟩) ?_ ?_
        rotate_left
        · simp only [Act.put, sA, sZ, sS, i64_w, i32_w]
          rfl
        refine pure_ (i := 8) (N := some 45) (v := undef) (a' := ?_) #[T_, T_, T_, T_, T_, T_, T_, T_, T_, F_, F_, F_, F_, F_, F_, F_, F_, F_, F_, F_, F_, F_, F_] rfl rfl (any_of HT_.1 (by kernel_rfl)) (fun _ _ _ h => h) (Or.inr ⟨by rfl, rfl⟩) ?_ ?_
        rotate_left
        · simp only [Act.put, sA, sZ, sS, i64_w, i32_w]
          rfl
        refine pure_ (i := 9) (N := some 46) (v := undef) (a' := ?_) #[T_, T_, T_, T_, T_, T_, T_, T_, T_, T_, F_, F_, F_, F_, F_, F_, F_, F_, F_, F_, F_, F_, F_] rfl rfl (any_of HT_.1 (by kernel_rfl)) (fun _ _ _ h => h) (Or.inr ⟨by rfl, rfl⟩) ?_ ?_
        rotate_left
        · simp only [Act.put, sA, sZ, sS, i64_w, i32_w]
          rfl
        refine pure_ (i := 10) (N := some 47) (v := undef) (a' := ?_) #[T_, T_, T_, T_, T_, T_, T_, T_, T_, T_, T_, F_, F_, F_, F_, F_, F_, F_, F_, F_, F_, F_, F_] rfl rfl (any_of HT_.1 (by kernel_rfl)) (fun _ _ _ h => h) (Or.inr ⟨by rfl, rfl⟩) ?_ ?_
        rotate_left
        · simp only [Act.put, sA, sZ, sS, i64_w, i32_w]
          rfl
        refine pure_ (i := 11) (N := some 48) (v := undef) (a' := ?_) #[T_, T_, T_, T_, T_, T_, T_, T_, T_, T_, T_, T_, F_, F_, F_, F_, F_, F_, F_, F_, F_, F_, F_] rfl rfl (any_of HT_.1 (by kernel_rfl)) (fun _ _ _ h => h) (Or.inr ⟨by rfl, rfl⟩) ?_ ?_
        rotate_left
        · simp only [Act.put, sA, sZ, sS, i64_w, i32_w]
          rfl
        refine pure_ (i := 12) (N := some 49) (v := undef) (a' := ?_) #[T_, T_, T_, T_, T_, T_, T_, T_, T_, T_, T_, T_, T_, F_, F_, F_, F_, F_, F_, F_, F_, F_, F_] rfl rfl (any_of HT_.1 (by kernel_rfl)) (fun _ _ _ h => h) (Or.inr ⟨by rfl, rfl⟩) ?_ ?_
        rotate_left
        · simp only [Act.put, sA, sZ, sS, i64_w, i32_w]
          rfl
        refine pure_ (i := 13) (N := some 50) (v := undef) (a' := ?_) #[T_, T_, T_, T_, T_, T_, T_, T_, T_, T_, T_, T_, T_, T_, F_, F_, F_, F_, F_, F_, F_, F_, F_] rfl rfl (any_of HT_.1 (by kernel_rfl)) (fun _ _ _ h => h) (Or.inr ⟨by rfl, rfl⟩) ?_ ?_
        rotate_left
        · simp only [Act.put, sA, sZ, sS, i64_w, i32_w]
          rfl
        refine pure_ (i := 14) (N := some 51) (v := undef) (a' := ?_) #[T_, T_, T_, T_, T_, T_, T_, T_, T_, T_, T_, T_, T_, T_, T_, F_, F_, F_, F_, F_, F_, F_, F_] rfl rfl (any_of HT_.1 (by kernel_rfl)) (fun _ _ _ h => h) (Or.inr ⟨by rfl, rfl⟩) ?_ ?_
        rotate_left
        · simp only [Act.put, sA, sZ, sS, i64_w, i32_w]
          rfl
        refine pure_ (i := 15) (N := some 52) (v := undef) (a' := ?_) #[T_, T_, T_, T_, T_, T_, T_, T_, T_, T_, T_, T_, T_, T_, T_, T_, F_, F_, F_, F_, F_, F_, F_] rfl rfl (any_of HT_.1 (by kernel_rfl)) (fun _ _ _ h => h) (Or.inr ⟨by rfl, rfl⟩) ?_ ?_
        rotate_left
        · simp only [Act.put, sA, sZ, sS, i64_w, i32_w]
          rfl
        refine pure_ (i := 16) (N := some 53) (v := undef) (a' := ?_) #[T_, T_, T_, T_, T_, T_, T_, T_, T_, T_, T_, T_, T_, T_, T_, T_, T_, F_, F_, F_, F_, F_, F_] rfl rfl (any_of HT_.1 (by kernel_rfl)) (fun _ _ _ h => h) (Or.inr ⟨by rfl, rfl⟩) ?_ ?_
        rotate_left
        · simp only [Act.put, sA, sZ, sS, i64_w, i32_w]
          rfl
        refine pure_ (i := 17) (N := some 54) (v := undef) (a' := ?_) #[T_, T_, T_, T_, T_, T_, T_, T_, T_, T_, T_, T_, T_, T_, T_, T_, T_, T_, F_, F_, F_, F_, F_] rfl rfl (any_of HT_.1 (by kernel_rfl)) (fun _ _ _ h => h) (Or.inr ⟨by rfl, rfl⟩) ?_ ?_
        rotate_left
        · simp only [Act.put, sA, sZ, sS, i64_w, i32_w]
          rfl
        refine pure_ (i := 18) (N := some 55) (v := undef) (a' := ?_) #[T_, T_, T_, T_, T_, T_, T_, T_, T_, T_, T_, T_, T_, T_, T_, T_, T_, T_, T_, F_, F_, F_, F_] rfl rfl (any_of HT_.1 (by kernel_rfl)) (fun _ _ _ h => h) (Or.inr ⟨by rfl, rfl⟩) ?_ ?_
        rotate_left
        · simp only [Act.put, sA, sZ, sS, i64_w, i32_w]
          rfl
        refine pure_ (i := 19) (N := some 56) (v := undef) (a' := ?_) #[T_, T_, T_, T_, T_, T_, T_, T_, T_, T_, T_, T_, T_, T_, T_, T_, T_, T_, T_, T_, F_, F_, F_] rfl rfl (any_of HT_.1 (by kernel_rfl)) (fun _ _ _ h => h) (Or.inr ⟨by rfl, rfl⟩) ?_ ?_
        rotate_left
        · simp only [Act.put, sA, sZ, sS, i64_w, i32_w]
          rfl
        refine pure_ (i := 20) (N := some 57) (v := undef) (a' := ?_) #[T_, T_, T_, T_, T_, T_, T_, T_, T_, T_, T_, T_, T_, T_, T_, T_, T_, T_, T_, T_, T_, F_, F_] rfl rfl (any_of HT_.1 (by kernel_rfl)) (fun _ _ _ h => h) (Or.inr ⟨by rfl, rfl⟩) ?_ ?_
        rotate_left
        · simp only [Act.put, sA, sZ, sS, i64_w, i32_w]
          rfl
        refine pure_ (i := 21) (N := some 58) (v := undef) (a' := ?_) #[T_, T_, T_, T_, T_, T_, T_, T_, T_, T_, T_, T_, T_, T_, T_, T_, T_, T_, T_, T_, T_, T_, F_] rfl rfl (any_of HT_.1 (by kernel_rfl)) (fun _ _ _ h => h) (Or.inr ⟨by rfl, rfl⟩) ?_ ?_
        rotate_left
        · simp only [Act.put, sA, sZ, sS, i64_w, i32_w]
          rfl
        refine pure_ (i := 22) (N := some 59) (v := ?_) (a' := ?_) #[T_, T_, T_, T_, T_, T_, T_, T_, T_, T_, T_, T_, T_, T_, T_, T_, T_, T_, T_, T_, T_, T_, T_] rfl rfl (any_of HT_.1 (by kernel_rfl)) (fun _ _ _ h => h) (Or.inl ⟨by rfl, ?_⟩) ?_ ?_
        rotate_left
        · intro w'
          go_simp
          with_reducible rfl
        rotate_left
        · simp only [Act.put, sA, sZ, sS, i64_w, i32_w]
          rfl
        refine done_ (done_of HT_.1 (by kernel_rfl)) ?_
        try go_wp2
        go_meet
        case rel => exact ⟨_, (true), rr, H', ⟨by have := HK1.1; have := HJ16.1; first | omega | exact Nat.le_refl _⟩, ⟨rk HO_1⟩, ⟨rk HO_7⟩, ⟨hk HK⟩, ⟨hh HB⟩⟩
      replace c24 := Bool.eq_false_iff.mpr c24
      subst c24
      rw [if_neg (show ¬ (false = true) by decide)] at H
      by_cases c26 : 0 < (l1.length : Int)
      rotate_left
      · rw [if_neg c26] at H
        exact absurd H (by simp)
      rw [if_pos c26] at H
      have c26b0 : decide (0 < (l1.length : Int)) = true := decide_eq_true c26
      have c26b1 : decide (0 < l1.length) = true := decide_eq_true (by omega)
      clear c26
      replace H := Option.bind_eq_some_iff.mp H
      obtain ⟨t372, A270, H⟩ := H
      try dsimp only at H
      have A27 := aM A270
      clear A270
      have H' := aM H
      clear H
      try go_wp2
      replace HO_1 := aM (R_drew HO_1.1)
      replace HO_7 := aM (R_drew HO_7.1)
      replace HK := aM (Kept.drew HK.1)
      replace HB := aM (below_drew1 HB.1)
      have p368 : 0 <= (x8_1 : Int) := dt
      have q368 : x8_1 < (t363.length : Int) := dt
      obtain ⟨ad368, e368, hx368_0⟩ := Kd.at_string (R_reads' HO_7.1).2.2 x8_1 p368 q368
      cases e368
      replace p368 := eq_true p368
      replace q368 := eq_true q368
      have p370 : 0 <= (x8_1 : Int) := dt
      have q370 : x8_1 < (t363.length : Int) := dt
      obtain ⟨ad370, e370, hx370_0⟩ := Kd.at_string (R_reads' HO_7.1).2.2 x8_1 p370 q370
      obtain rfl : ad368 = ad370 := (by injection e370)
      replace p370 := eq_true p370
      replace q370 := eq_true q370
      have p371 : 0 <= (0 : Int) := (by omega)
      have q371 : 0 < (l1.length : Int) := dt
      obtain ⟨ad371, e371, hx371_0⟩ := Kd.at_string (R_reads' HO_1.1).2.2 0 p371 q371
      obtain rfl : ad362 = ad371 := (by injection e371)
      have qi371 : (0 < l1.length) = True := eq_true (by omega)
      (try rw [show ((0 : Int)).toNat = 0 from rfl] at hx371_0)
      (try rw [Addr.add_zero'] at hx371_0)
      replace p371 := eq_true p371
      replace q371 := eq_true q371
      refine start_ (n := 23) (S := fun w' => w'.cell? (ad368.add (x8_1).toNat) = some (.string (rdOf ByteArray.empty t363 x8_1)) /\ w'.cell? (ad368.add (x8_1).toNat) = some (.string (rdOf ByteArray.empty t363 x8_1)) /\ w'.cell? ad362 = some (.string (rdOf ByteArray.empty l1 0))) (ds := []) #[F_, F_, F_, F_, F_, F_, F_, F_, F_, F_, F_, F_, F_, F_, F_, F_, F_, F_, F_, F_, F_, F_, F_] (by kernel_rfl) rfl rfl ⟨hx368_0, hx370_0, hx371_0⟩ (fun hHeld => ?_); refine with_tabW r_paths.tab7 r_paths.bits7 (fun HT_ HW_ => ?_)
      generalize wc.drew = w28 at HO_1 HO_7 HK HB hx368_0 hx370_0 hx371_0 hHeld ⊢
      refine pure_ (i := 0) (N := some 37) (v := ?_) (a' := ?_) #[T_, F_, F_, F_, F_, F_, F_, F_, F_, F_, F_, F_, F_, F_, F_, F_, F_, F_, F_, F_, F_, F_, F_] rfl rfl (any_of HT_.1 (by kernel_rfl)) (fun _ _ _ h => h) (Or.inl ⟨by rfl, ?_⟩) ?_ ?_
      rotate_left
      · intro w'
        go_simp
        with_reducible rfl
      rotate_left
      · simp only [Act.put, sA, sZ, sS, i64_w, i32_w]
        rfl
      refine pure_ (i := 1) (N := some 38) (v := ?_) (a' := ?_) #[T_, T_, F_, F_, F_, F_, F_, F_, F_, F_, F_, F_, F_, F_, F_, F_, F_, F_, F_, F_, F_, F_, F_] rfl rfl (any_of HT_.1 (by kernel_rfl)) (fun _ _ _ h => h) (Or.inl ⟨by rfl, ?_⟩) ?_ ?_
      rotate_left
      · intro w'
        go_simp
        with_reducible rfl
      rotate_left
      · simp only [Act.put, sA, sZ, sS, i64_w, i32_w]
        rfl
      refine pure_ (i := 2) (N := some 39) (v := ?_) (a' := ?_) #[T_, T_, T_, F_, F_, F_, F_, F_, F_, F_, F_, F_, F_, F_, F_, F_, F_, F_, F_, F_, F_, F_, F_] rfl rfl (any_of HT_.1 (by kernel_rfl)) (fun _ _ _ h => h) (Or.inl ⟨by rfl, ?_⟩) ?_ ?_
      rotate_left
      · intro w'
        go_simp
        with_reducible rfl
      rotate_left
      · simp only [Act.put, sA, sZ, sS, i64_w, i32_w]
        rfl
      refine pure_ (i := 3) (N := some 40) (v := ?_) (a' := ?_) #[T_, T_, T_, T_, F_, F_, F_, F_, F_, F_, F_, F_, F_, F_, F_, F_, F_, F_, F_, F_, F_, F_, F_] rfl rfl (any_of HT_.1 (by kernel_rfl)) (fun _ _ _ h => h) (Or.inl ⟨by rfl, ?_⟩) ?_ ?_
      rotate_left
      · intro w'
        go_simp
        with_reducible rfl
      rotate_left
      · simp only [Act.put, sA, sZ, sS, i64_w, i32_w]
        rfl
      refine take_ (i := 4) (N := some 41) (v := ?_) (a' := ?_) #[T_, T_, T_, T_, T_, F_, F_, F_, F_, F_, F_, F_, F_, F_, F_, F_, F_, F_, F_, F_, F_, F_, F_] rfl rfl (take_ofW HT_.1 HW_.1 (by kernel_rfl)) (fun _ _ _ h => h) (Or.inl ⟨by rfl, ?_⟩) hHeld ?_ ?_
      rotate_left
      · rintro w' ⟨s0, s1, s2⟩
        go_simp
        with_reducible rfl
      rotate_left
      · simp only [Act.put, sA, sZ, sS, i64_w, i32_w]
        rfl
      refine one_ (i := 5) (N := some 42) #[T_, T_, T_, T_, T_, T_, F_, F_, F_, F_, F_, F_, F_, F_, F_, F_, F_, F_, F_, F_, F_, F_, F_] rfl rfl (one_of HT_.1 (by kernel_rfl)) (by decide) (fun K hK => ?_)
      refine goes_ Try.func21 (by kernel_rfl) rfl #[.slice (some ad362) l1.length co14, .string (rdOf ByteArray.empty t363 x8_1)] (by rfl) rfl rfl (by (try simp only [List.map_toArray, List.map_cons, List.map_nil]); first | done | rfl | (simp only [List.length_drop, List.length_take]; rfl)) ?_
      with_reducible refine (q_Has.calls kj16 _ _ l1 (rdOf ByteArray.empty t363 x8_1) false _ ?side1 ?side2 A23.1).mono ?_
      (case side1 => exact cr HO_1)
      (case side2 => exact (R_reads' HO_1.1).2.1)
      rintro e w' ⟨rfl, ⟨nd, rfl⟩⟩
      refine ⟨_, rfl, ?_⟩
      refine hK.out _ _ ⟨hHeld.1, hHeld.2.1, hHeld.2.2⟩ (fun hHeld => ?_)
      clear hK K
      refine norm_ (a' := ?_) ?_ ?_
      rotate_left
      · show Act.put _ (some 42) _ = _
        simp only [Act.put, sA, sZ, sS, i64_w, i32_w]
        rfl
      refine pure_ (i := 6) (N := some 43) (v := ?_) (a' := ?_) #[T_, T_, T_, T_, T_, T_, T_, F_, F_, F_, F_, F_, F_, F_, F_, F_, F_, F_, F_, F_, F_, F_, F_] rfl rfl (any_of HT_.1 (by kernel_rfl)) (fun _ _ _ h => h) (Or.inl ⟨by rfl, ?_⟩) ?_ ?_
      rotate_left
      · intro w'
        go_simp
        with_reducible rfl
      rotate_left
      · simp only [Act.put, sA, sZ, sS, i64_w, i32_w]
        rfl
      refine pure_ (i := 7) (N := some 44) (v := ?_) (a' := ?_) #[T_, T_, T_, T_, T_, T_, T_, T_, F_, F_, F_, F_, F_, F_, F_, F_, F_, F_, F_, F_, F_, F_, F_] rfl rfl (any_of HT_.1 (by kernel_rfl)) (fun _ _ _ h => h) (Or.inl ⟨by rfl, ?_⟩) ?_ ?_
      rotate_left
      · intro w'
        go_simp
        with_reducible rfl
      rotate_left
      · simp only [Act.put, sA, sZ, sS, i64_w, i32_w]
        rfl
      refine pure_ (i := 8) (N := some 45) (v := ?_) (a' := ?_) #[T_, T_, T_, T_, T_, T_, T_, T_, T_, F_, F_, F_, F_, F_, F_, F_, F_, F_, F_, F_, F_, F_, F_] rfl rfl (any_of HT_.1 (by kernel_rfl)) (fun _ _ _ h => h) (Or.inl ⟨by rfl, ?_⟩) ?_ ?_
      rotate_left
      · intro w'
        go_simp
        with_reducible rfl
      rotate_left
      · simp only [Act.put, sA, sZ, sS, i64_w, i32_w]
        rfl
      refine pure_ (i := 9) (N := some 46) (v := ?_) (a' := ?_) #[T_, T_, T_, T_, T_, T_, T_, T_, T_, T_, F_, F_, F_, F_, F_, F_, F_, F_, F_, F_, F_, F_, F_] rfl rfl (any_of HT_.1 (by kernel_rfl)) (fun _ _ _ h => h) (Or.inl ⟨by rfl, ?_⟩) ?_ ?_
      rotate_left
      · intro w'
        go_simp
        with_reducible rfl
      rotate_left
      · simp only [Act.put, sA, sZ, sS, i64_w, i32_w]
        rfl
      refine pure_ (i := 10) (N := some 47) (v := ?_) (a' := ?_) #[T_, T_, T_, T_, T_, T_, T_, T_, T_, T_, T_, F_, F_, F_, F_, F_, F_, F_, F_, F_, F_, F_, F_] rfl rfl (any_of HT_.1 (by kernel_rfl)) (fun _ _ _ h => h) (Or.inl ⟨by rfl, ?_⟩) ?_ ?_
      rotate_left
      · intro w'
        go_simp
        with_reducible rfl
      rotate_left
      · simp only [Act.put, sA, sZ, sS, i64_w, i32_w]
        rfl
      refine pure_ (i := 12) (N := some 49) (v := ?_) (a' := ?_) #[T_, T_, T_, T_, T_, T_, T_, T_, T_, T_, T_, F_, T_, F_, F_, F_, F_, F_, F_, F_, F_, F_, F_] rfl rfl (any_of HT_.1 (by kernel_rfl)) (fun _ _ _ h => h) (Or.inl ⟨by rfl, ?_⟩) ?_ ?_
      rotate_left
      · intro w'
        go_simp
        with_reducible rfl
      rotate_left
      · simp only [Act.put, sA, sZ, sS, i64_w, i32_w]
        rfl
      refine pure_ (i := 13) (N := some 50) (v := ?_) (a' := ?_) #[T_, T_, T_, T_, T_, T_, T_, T_, T_, T_, T_, F_, T_, T_, F_, F_, F_, F_, F_, F_, F_, F_, F_] rfl rfl (any_of HT_.1 (by kernel_rfl)) (fun _ _ _ h => h) (Or.inl ⟨by rfl, ?_⟩) ?_ ?_
      rotate_left
      · intro w'
        go_simp
        with_reducible rfl
      rotate_left
      · simp only [Act.put, sA, sZ, sS, i64_w, i32_w]
        rfl
      refine pure_ (i := 15) (N := some 52) (v := ?_) (a' := ?_) #[T_, T_, T_, T_, T_, T_, T_, T_, T_, T_, T_, F_, T_, T_, F_, T_, F_, F_, F_, F_, F_, F_, F_] rfl rfl (any_of HT_.1 (by kernel_rfl)) (fun _ _ _ h => h) (Or.inl ⟨by rfl, ?_⟩) ?_ ?_
      rotate_left
      · intro w'
        go_simp
        with_reducible rfl
      rotate_left
      · simp only [Act.put, sA, sZ, sS, i64_w, i32_w]
        rfl
      refine pure_ (i := 16) (N := some 53) (v := ?_) (a' := ?_) #[T_, T_, T_, T_, T_, T_, T_, T_, T_, T_, T_, F_, T_, T_, F_, T_, T_, F_, F_, F_, F_, F_, F_] rfl rfl (any_of HT_.1 (by kernel_rfl)) (fun _ _ _ h => h) (Or.inl ⟨by rfl, ?_⟩) ?_ ?_
      rotate_left
      · intro w'
        go_simp
        with_reducible rfl
      rotate_left
      · simp only [Act.put, sA, sZ, sS, i64_w, i32_w]
        rfl
      refine pure_ (i := 17) (N := some 54) (v := ?_) (a' := ?_) #[T_, T_, T_, T_, T_, T_, T_, T_, T_, T_, T_, F_, T_, T_, F_, T_, T_, T_, F_, F_, F_, F_, F_] rfl rfl (any_of HT_.1 (by kernel_rfl)) (fun _ _ _ h => h) (Or.inl ⟨by rfl, ?_⟩) ?_ ?_
      rotate_left
      · intro w'
        go_simp
        with_reducible rfl
      rotate_left
      · simp only [Act.put, sA, sZ, sS, i64_w, i32_w]
        rfl
      refine pure_ (i := 18) (N := some 55) (v := ?_) (a' := ?_) #[T_, T_, T_, T_, T_, T_, T_, T_, T_, T_, T_, F_, T_, T_, F_, T_, T_, T_, T_, F_, F_, F_, F_] rfl rfl (any_of HT_.1 (by kernel_rfl)) (fun _ _ _ h => h) (Or.inl ⟨by rfl, ?_⟩) ?_ ?_
      rotate_left
      · intro w'
        go_simp
        with_reducible rfl
      rotate_left
      · simp only [Act.put, sA, sZ, sS, i64_w, i32_w]
        rfl
      refine pure_ (i := 19) (N := some 56) (v := ?_) (a' := ?_) #[T_, T_, T_, T_, T_, T_, T_, T_, T_, T_, T_, F_, T_, T_, F_, T_, T_, T_, T_, T_, F_, F_, F_] rfl rfl (any_of HT_.1 (by kernel_rfl)) (fun _ _ _ h => h) (Or.inl ⟨by rfl, ?_⟩) ?_ ?_
      rotate_left
      · intro w'
        go_simp
        with_reducible rfl
      rotate_left
      · simp only [Act.put, sA, sZ, sS, i64_w, i32_w]
        rfl
      refine take_ (i := 11) (N := some 48) (v := ?_) (a' := ?_) #[T_, T_, T_, T_, T_, T_, T_, T_, T_, T_, T_, T_, T_, T_, F_, T_, T_, T_, T_, T_, F_, F_, F_] rfl rfl (take_ofW HT_.1 HW_.1 (by kernel_rfl)) (fun _ _ _ h => h) (Or.inl ⟨by rfl, ?_⟩) hHeld ?_ ?_
      rotate_left
      · rintro w' ⟨s0, s1, s2⟩
        go_simp
        with_reducible rfl
      rotate_left
      · simp only [Act.put, sA, sZ, sS, i64_w, i32_w]
        rfl
      refine take_ (i := 14) (N := some 51) (v := ?_) (a' := ?_) #[T_, T_, T_, T_, T_, T_, T_, T_, T_, T_, T_, T_, T_, T_, T_, T_, T_, T_, T_, T_, F_, F_, F_] rfl rfl (take_ofW HT_.1 HW_.1 (by kernel_rfl)) (fun _ _ _ h => h) (Or.inl ⟨by rfl, ?_⟩) hHeld ?_ ?_
      rotate_left
      · rintro w' ⟨s0, s1, s2⟩
        go_simp
        with_reducible rfl
      rotate_left
      · simp only [Act.put, sA, sZ, sS, i64_w, i32_w]
        rfl
      refine one_ (i := 20) (N := some 57) #[T_, T_, T_, T_, T_, T_, T_, T_, T_, T_, T_, T_, T_, T_, T_, T_, T_, T_, T_, T_, T_, F_, F_] rfl rfl (one_of HT_.1 (by kernel_rfl)) (by decide) (fun K hK => ?_)
      refine goes_ Try.func49 (by kernel_rfl) rfl #[.slice A0 l0.length c0, .string (rdOf ByteArray.empty t363 x8_1), .string (rdOf ByteArray.empty l1 0), .int .i64 (wrap64 ((wrap64 (a2 - (l1.length : Int))) - 1))] (by rfl) rfl rfl (by (try simp only [List.map_toArray, List.map_cons, List.map_nil]); first | done | rfl | (simp only [List.length_drop, List.length_take]; rfl)) ?_
      with_reducible refine (r_back.calls kj16 _ _ l0 (rdOf ByteArray.empty t363 x8_1) (rdOf ByteArray.empty l1 0) (wrap64 ((wrap64 (a2 - (l1.length : Int))) - 1)) t372 _ ?side1 ?side2 A27.1).mono ?_
      (case side1 => exact C_kept_now HR0.1 (hk HK))
      (case side2 => exact HC0.1)
      rintro e w29 ⟨rfl, hb⟩
      have HS0_ := (hb.cell (World.block_lt_of_cell? _ _ (hHeld.1))).trans (hHeld.1)
      have HS1_ := (hb.cell (World.block_lt_of_cell? _ _ (hHeld.2.1))).trans (hHeld.2.1)
      have HS2_ := (hb.cell (World.block_lt_of_cell? _ _ (hHeld.2.2))).trans (hHeld.2.2)
      refine ⟨_, rfl, ?_⟩
      replace HO_1 := rb HO_1 hb
      replace HO_7 := rb HO_7 hb
      replace HK := aM (Kept.below (S := (fun k_ => P1_ k_)) (hk HK) hb)
      replace HB := bs HB hb
      (clear hb)
      skip
      skip
      skip
      refine hK.out _ _ ⟨HS0_, HS1_, HS2_⟩ (fun hHeld => ?_)
      clear hK K
      refine norm_ (a' := ?_) ?_ ?_
      rotate_left
      · show Act.put _ (some 57) _ = _
        simp only [Act.put, sA, sZ, sS, i64_w, i32_w]
        rfl
      refine pure_ (i := 21) (N := some 58) (v := ?_) (a' := ?_) #[T_, T_, T_, T_, T_, T_, T_, T_, T_, T_, T_, T_, T_, T_, T_, T_, T_, T_, T_, T_, T_, T_, F_] rfl rfl (any_of HT_.1 (by kernel_rfl)) (fun _ _ _ h => h) (Or.inl ⟨by rfl, ?_⟩) ?_ ?_
      rotate_left
      · intro w'
        go_simp
        with_reducible rfl
      rotate_left
      · simp only [Act.put, sA, sZ, sS, i64_w, i32_w]
        rfl
      refine pure_ (i := 22) (N := some 59) (v := ?_) (a' := ?_) #[T_, T_, T_, T_, T_, T_, T_, T_, T_, T_, T_, T_, T_, T_, T_, T_, T_, T_, T_, T_, T_, T_, T_] rfl rfl (any_of HT_.1 (by kernel_rfl)) (fun _ _ _ h => h) (Or.inl ⟨by rfl, ?_⟩) ?_ ?_
      rotate_left
      · intro w'
        go_simp
        with_reducible rfl
      rotate_left
      · simp only [Act.put, sA, sZ, sS, i64_w, i32_w]
        rfl
      refine done_ (done_of HT_.1 (by kernel_rfl)) ?_
      try go_wp2
      go_meet
      case rel => exact ⟨_, (!t372), rr, H', ⟨by have := HK1.1; have := HJ16.1; first | omega | exact Nat.le_refl _⟩, ⟨rk HO_1⟩, ⟨rk HO_7⟩, ⟨hk HK⟩, ⟨hh HB⟩⟩
     case rest =>
      clear HC20
      obtain ⟨kq, x59_19, rfl, HA, HJ19, HO_1, HO_7, HK, HB⟩ := hcut
      cases kq with
      | zero => exact absurd HA.1 (by simp [r_paths.j2])
      | succ kj19 =>
       have H := HA.1
       clear HA
       simp only [r_paths.j2] at H
       by_cases c30 : x59_19 = true
       · subst c30
         rw [if_pos rfl] at H
         have H' := aM H
         clear H
         go_wp2
         go_roundg kj19
         case measure => have := HK1.1; have := HJ16.1; have := HJ19.1; omega
         case rel => exact ⟨(wrap64 (x8_1 + 1)), rr, H', ⟨by have := HK1.1; have := HJ16.1; have := HJ19.1; omega⟩, ⟨rk HO_1⟩, ⟨rk HO_7⟩, ⟨hk HK⟩, ⟨hh HB⟩⟩
       replace c30 := Bool.eq_false_iff.mpr c30
       subst c30
       rw [if_neg (show ¬ (false = true) by decide)] at H
       by_cases c31 : ([] : List ByteArray).length + l1.length < 8796093022208
       rotate_left
       · rw [if_neg c31] at H
         exact absurd H (by simp)
       rw [if_pos c31] at H
       have LMc31 := aM c31
       clear c31
       obtain ⟨y373, hy373⟩ : ∃ y_ : List ByteArray, y_ = (([] : List ByteArray) ++ l1) := ⟨_, rfl⟩
       replace H : (if 0 <= x8_1 then (if x8_1 < (t363.length : Int) then (if y373.length < 8796093022208 then ((r_paths.f kj19 l0 (y373 ++ [rdOf ByteArray.empty t363 x8_1]) a2).bind fun t380 => (if (t380.length : Int) > 0 then (some t380) else (r_paths.l0 kj19 l0 l1 a2 t363 (wrap64 (x8_1 + 1))))) else (none)) else (none)) else (none)) = some r := by first | (rw [hy373]; with_reducible exact H) | (have H2_ := (Option.bind_some _ _).symm.trans H; rw [hy373]; with_reducible exact H2_) | (have H2_ := (Option.bind_some _ _).symm.trans H; with_reducible exact H2_) | with_reducible exact H | (rw [hy373]; exact H) | exact H
       have Ny373 := aM hy373
       clear hy373
       by_cases c32 : 0 <= x8_1
       rotate_left
       · rw [if_neg c32] at H
         exact absurd H (by simp)
       rw [if_pos c32] at H
       have c32b0 : decide (0 <= x8_1) = true := decide_eq_true c32
       clear c32
       by_cases c33 : x8_1 < (t363.length : Int)
       rotate_left
       · rw [if_neg c33] at H
         exact absurd H (by simp)
       rw [if_pos c33] at H
       have c33b0 : decide (x8_1 < (t363.length : Int)) = true := decide_eq_true c33
       clear c33
       by_cases c34 : y373.length < 8796093022208
       rotate_left
       · rw [if_neg c34] at H
         exact absurd H (by simp)
       rw [if_pos c34] at H
       have LMc34 := aM c34
       clear c34
       obtain ⟨y377, hy377⟩ : ∃ y_ : List ByteArray, y_ = (y373 ++ [rdOf ByteArray.empty t363 x8_1]) := ⟨_, rfl⟩
       replace H : ((r_paths.f kj19 l0 y377 a2).bind fun t380 => (if (t380.length : Int) > 0 then (some t380) else (r_paths.l0 kj19 l0 l1 a2 t363 (wrap64 (x8_1 + 1))))) = some r := by first | (rw [hy377]; with_reducible exact H) | (have H2_ := (Option.bind_some _ _).symm.trans H; rw [hy377]; with_reducible exact H2_) | (have H2_ := (Option.bind_some _ _).symm.trans H; with_reducible exact H2_) | with_reducible exact H | (rw [hy377]; exact H) | exact H
       have Ny377 := aM hy377
       clear hy377
       replace H := Option.bind_eq_some_iff.mp H
       obtain ⟨t380, A350, H⟩ := H
       try dsimp only at H
       have A35 := aM A350
       clear A350
       by_cases c36 : (t380.length : Int) > 0
       · rw [if_pos c36] at H
         have c36b0 : decide (0 < (t380.length : Int)) = true := decide_eq_true c36
         have c36b1 : decide (0 < t380.length) = true := decide_eq_true (by omega)
         clear c36
         obtain rfl := Option.some.inj H
         go_wp2_with (first | ((with_reducible refine gate_builtin (b := .append) (xs := #[.tmp 60, .tmp 61]) rfl ?_); (try (refine gate_guard (by rfl) ?_; dsimp only)); at_builtin; refine R_append_rows Kd.string (w0 := w0) w0.heap.size rfl (.tmp 60) (.tmp 61) 25 9 (.string ⟨#[]⟩) 16 rfl Try.underlying25 info9 rfl (by decide) (by omega) (.slice none 0 0) ([] : List ByteArray) l1 _ _ _ (fun k_ => (P1_ k_ \/ w.heap.size <= k_) /\ some k_ ≠ (.slice (some ad362) l1.length co14 : Value).ownBlock /\ some k_ ≠ (.slice Ao16 t363.length co16 : Value).ownBlock) (fun _ => False) rfl rfl ?aO ?aR (fun _ _ h => h) (fun _ h => h.elim) ?aF ?aB ?aS ?aL ?_; (case aR => exact cr HO_1); (case aB => exact (hh HB)); (case aF => exact (fun k_ hk => ⟨(.inr (Nat.le_trans (by first | exact HK.1.1 | exact (show Kept w _ (fun k_ => P1_ k_) from hk HK).1) hk)), Kd.fresh' (R_lt (rk HO_1)) k_ hk, Kd.fresh' (R_lt (rk HO_7)) k_ hk⟩)); (case aO => exact ((R_nil _ _ _ _ (fun k_ => (P1_ k_ \/ w.heap.size <= k_) /\ some k_ ≠ (.slice (some ad362) l1.length co14 : Value).ownBlock /\ some k_ ≠ (.slice Ao16 t363.length co16 : Value).ownBlock)))); (case aS => exact (below_size (hh HB))); (case aL => have := LMc31.1; omega); intro v374 w37 ho hb hg hat; rw [<- Ny373.1] at ho; have HO375 := aM (ho); replace HO_1 := aM (R_after (R_apart_nil (rk HO_1)) hg hat); replace HO_7 := aM (R_after (R_apart_nil (rk HO_7)) hg hat); replace HB := aM (hb); replace HK := aM (Kept.of_grown (S := (fun k_ => P1_ k_)) hg (hk HK) (fun k_ e_ => by simp [Value.ownBlock] at e_)); clear ho hb hg hat; have p376 : 0 <= (x8_1 : Int) := dt; have q376 : x8_1 < (t363.length : Int) := dt; obtain ⟨ad376, e376, hx376_0⟩ := Kd.at_string (R_reads' HO_7.1).2.2 x8_1 p376 q376; cases e376; replace p376 := eq_true p376; replace q376 := eq_true q376) | ((with_reducible refine gate_builtin (b := .append) (xs := #[.tmp 63, .tmp 68]) rfl ?_); (try (refine gate_guard (by rfl) ?_; dsimp only)); at_builtin; refine R_append Kd.string (w0 := w0) w0.heap.size rfl (.tmp 63) (.tmp 68) 25 9 (.string ⟨#[]⟩) 16 rfl Try.underlying25 info9 rfl (by decide) (by omega) v374 y373 (rdOf ByteArray.empty t363 x8_1) [.string (rdOf ByteArray.empty t363 x8_1)] (fun k_ => (P1_ k_ \/ w.heap.size <= k_) /\ some k_ ≠ (.slice (some ad362) l1.length co14 : Value).ownBlock /\ some k_ ≠ (.slice (some ad376) t363.length co16 : Value).ownBlock) (fun _ => False) rfl rfl ?aP (fun _ hk => hk.elim) ?aF ?aO ?aB ?aS ?aL ?_; (case aP => exact rfl); (case aB => exact (hh HB)); (case aF => exact (fun k_ hk => ⟨(.inr (Nat.le_trans (by first | exact HK.1.1 | exact (show Kept w _ (fun k_ => P1_ k_) from hk HK).1) hk)), Kd.fresh' (R_lt (rk HO_1)) k_ hk, Kd.fresh' (R_lt (rk HO_7)) k_ hk⟩)); (case aO => exact (rk HO375)); (case aS => exact (below_size (hh HB))); (case aL => have := LMc34.1; omega); intro v378 w38 ho hb hg hat; rw [<- Ny377.1] at ho; have HO379 := aM (ho); replace HO_1 := aM (R_after (ok := (fun k_ => (P1_ k_ \/ w.heap.size <= k_) /\ some k_ ≠ (.slice (some ad376) t363.length co16 : Value).ownBlock)) (rk HO_1) hg hat); replace HO_7 := aM (R_after (ok := (fun k_ => (P1_ k_ \/ w.heap.size <= k_) /\ some k_ ≠ (.slice (some ad362) l1.length co14 : Value).ownBlock)) (rk HO_7) hg hat); replace HB := aM (hb); replace HK := aM (Kept.of_grown (S := (fun k_ => P1_ k_)) hg (hk HK) (fun k_ e_ => (HO375.1.1 k_ e_).1)); clear HO375; clear ho hb hg hat; obtain ⟨Ao39, co39, eo39⟩ := R_slice HO379.1; subst eo39) | ((with_reducible refine gate_callee (f := 37) rfl ?_); refine gL (some 73) rfl rfl Try.func37 (by kernel_rfl) rfl #[.slice A0 l0.length c0, .slice Ao39 y377.length co39, .int .i64 a2] rfl ?_; (with_reducible refine (ih kj19 (by have := HK1.1; have := HJ16.1; have := HJ19.1; omega) _ _ l0 (fun k_ => some k_ = (.slice Ao39 y377.length co39 : Value).ownBlock) (.slice Ao39 y377.length co39) y377 a2 t380 w0 _ ?side1 ?side2 ?side3 ?side4 A35.1).mono ?_); (case side1 => repeat (first | (with_reducible first | exact HB.1 | apply bA | apply bN | apply bD) | exact HB.1)); (case side2 => exact C_kept_call HR0.1 (hk HK) (fun k_ hs_ => (fun e_ => (HO379.1.1 k_ e_.symm).1) hs_)); (case side3 => exact HC0.1); (case side4 => exact R_tight rfl HO379.1); rintro e w40 ⟨v381, rfl, ho0, hb, hkp⟩; refine ⟨_, rfl, ?_⟩; have HO382 := aM (R_mono (ok' := fun k_ => (P1_ k_ \/ w.heap.size <= k_) /\ some k_ ≠ (.slice (some ad362) l1.length co14 : Value).ownBlock /\ some k_ ≠ (.slice (some ad376) t363.length co16 : Value).ownBlock) ho0 (fun k_ hk_ => ⟨Or.elim hk_ (fun hs_ => (HO379.1.1 k_ (hs_).symm).1) (fun hn_ => (.inr (Nat.le_trans (by first | exact HK.1.1 | exact (show Kept w _ (fun k_ => P1_ k_) from hk HK).1) hn_))), Or.elim hk_ (fun hs_ => fun e_ => (((HO_1.1).1 k_ e_.symm).2) hs_) (fun hn_ => (Kd.fresh' (R_lt (rk HO_1)) k_ hn_)), Or.elim hk_ (fun hs_ => fun e_ => (((HO_7.1).1 k_ e_.symm).2) hs_) (fun hn_ => (Kd.fresh' (R_lt (rk HO_7)) k_ hn_))⟩)); replace HO_1 := aM (R_mono (ok' := fun k_ => (P1_ k_ \/ w.heap.size <= k_) /\ some k_ ≠ (.slice (some ad376) t363.length co16 : Value).ownBlock /\ some k_ ≠ (v381 : Value).ownBlock) (R_keptB (HO_1.1) hkp (fun k_ hk_ hs_ => (hk_.2) hs_)) (fun k_ hk_ => ⟨hk_.1.1.1, hk_.1.1.2, fun e_ => Or.elim (ho0.1 k_ e_.symm) (fun hs_ => hk_.2.1 hs_) (fun hn_ => Nat.not_le.2 hk_.2.2 hn_)⟩)); replace HO_7 := aM (R_mono (ok' := fun k_ => (P1_ k_ \/ w.heap.size <= k_) /\ some k_ ≠ (.slice (some ad362) l1.length co14 : Value).ownBlock /\ some k_ ≠ (v381 : Value).ownBlock) (R_keptB (HO_7.1) hkp (fun k_ hk_ hs_ => (hk_.2) hs_)) (fun k_ hk_ => ⟨hk_.1.1.1, hk_.1.1.2, fun e_ => Or.elim (ho0.1 k_ e_.symm) (fun hs_ => hk_.2.1 hs_) (fun hn_ => Nat.not_le.2 hk_.2.2 hn_)⟩)); replace HK := aM (Kept.then_ (S := (fun k_ => P1_ k_)) (hk HK) hkp (fun k_ hs_ => (fun e_ => (HO379.1.1 k_ e_.symm).1) hs_)); replace HB := aM (hb); clear HO379; clear hb hkp ho0; obtain ⟨Ao41, co41, eo41⟩ := R_slice HO382.1; subst eo41))
         go_ret
         exact ⟨_, by first | rfl | (simp [errW_none, errW_some] <;> rfl) | (simp only [<- hji4]; first | rfl | (simp [errW_none, errW_some] <;> rfl)) | (simp [*, errW_none, errW_some] <;> rfl), rz (R_mono HO382.1 (fun _ hk => hk.1)), hh HB, hk HK⟩
       rw [if_neg c36] at H
       have c36b0 : decide (0 < (t380.length : Int)) = false := decide_eq_false c36
       have c36b1 : decide (0 < t380.length) = false := decide_eq_false (by omega)
       clear c36
       have H' := aM H
       clear H
       go_wp2_with (first | ((with_reducible refine gate_builtin (b := .append) (xs := #[.tmp 60, .tmp 61]) rfl ?_); (try (refine gate_guard (by rfl) ?_; dsimp only)); at_builtin; refine R_append_rows Kd.string (w0 := w0) w0.heap.size rfl (.tmp 60) (.tmp 61) 25 9 (.string ⟨#[]⟩) 16 rfl Try.underlying25 info9 rfl (by decide) (by omega) (.slice none 0 0) ([] : List ByteArray) l1 _ _ _ (fun k_ => (P1_ k_ \/ w.heap.size <= k_) /\ some k_ ≠ (.slice (some ad362) l1.length co14 : Value).ownBlock /\ some k_ ≠ (.slice Ao16 t363.length co16 : Value).ownBlock) (fun _ => False) rfl rfl ?aO ?aR (fun _ _ h => h) (fun _ h => h.elim) ?aF ?aB ?aS ?aL ?_; (case aR => exact cr HO_1); (case aB => exact (hh HB)); (case aF => exact (fun k_ hk => ⟨(.inr (Nat.le_trans (by first | exact HK.1.1 | exact (show Kept w _ (fun k_ => P1_ k_) from hk HK).1) hk)), Kd.fresh' (R_lt (rk HO_1)) k_ hk, Kd.fresh' (R_lt (rk HO_7)) k_ hk⟩)); (case aO => exact ((R_nil _ _ _ _ (fun k_ => (P1_ k_ \/ w.heap.size <= k_) /\ some k_ ≠ (.slice (some ad362) l1.length co14 : Value).ownBlock /\ some k_ ≠ (.slice Ao16 t363.length co16 : Value).ownBlock)))); (case aS => exact (below_size (hh HB))); (case aL => have := LMc31.1; omega); intro v374 w42 ho hb hg hat; rw [<- Ny373.1] at ho; have HO375 := aM (ho); replace HO_1 := aM (R_after (R_apart_nil (rk HO_1)) hg hat); replace HO_7 := aM (R_after (R_apart_nil (rk HO_7)) hg hat); replace HB := aM (hb); replace HK := aM (Kept.of_grown (S := (fun k_ => P1_ k_)) hg (hk HK) (fun k_ e_ => by simp [Value.ownBlock] at e_)); clear ho hb hg hat; have p376 : 0 <= (x8_1 : Int) := dt; have q376 : x8_1 < (t363.length : Int) := dt; obtain ⟨ad376, e376, hx376_0⟩ := Kd.at_string (R_reads' HO_7.1).2.2 x8_1 p376 q376; cases e376; replace p376 := eq_true p376; replace q376 := eq_true q376) | ((with_reducible refine gate_builtin (b := .append) (xs := #[.tmp 63, .tmp 68]) rfl ?_); (try (refine gate_guard (by rfl) ?_; dsimp only)); at_builtin; refine R_append Kd.string (w0 := w0) w0.heap.size rfl (.tmp 63) (.tmp 68) 25 9 (.string ⟨#[]⟩) 16 rfl Try.underlying25 info9 rfl (by decide) (by omega) v374 y373 (rdOf ByteArray.empty t363 x8_1) [.string (rdOf ByteArray.empty t363 x8_1)] (fun k_ => (P1_ k_ \/ w.heap.size <= k_) /\ some k_ ≠ (.slice (some ad362) l1.length co14 : Value).ownBlock /\ some k_ ≠ (.slice (some ad376) t363.length co16 : Value).ownBlock) (fun _ => False) rfl rfl ?aP (fun _ hk => hk.elim) ?aF ?aO ?aB ?aS ?aL ?_; (case aP => exact rfl); (case aB => exact (hh HB)); (case aF => exact (fun k_ hk => ⟨(.inr (Nat.le_trans (by first | exact HK.1.1 | exact (show Kept w _ (fun k_ => P1_ k_) from hk HK).1) hk)), Kd.fresh' (R_lt (rk HO_1)) k_ hk, Kd.fresh' (R_lt (rk HO_7)) k_ hk⟩)); (case aO => exact (rk HO375)); (case aS => exact (below_size (hh HB))); (case aL => have := LMc34.1; omega); intro v378 w43 ho hb hg hat; rw [<- Ny377.1] at ho; have HO379 := aM (ho); replace HO_1 := aM (R_after (ok := (fun k_ => (P1_ k_ \/ w.heap.size <= k_) /\ some k_ ≠ (.slice (some ad376) t363.length co16 : Value).ownBlock)) (rk HO_1) hg hat); replace HO_7 := aM (R_after (ok := (fun k_ => (P1_ k_ \/ w.heap.size <= k_) /\ some k_ ≠ (.slice (some ad362) l1.length co14 : Value).ownBlock)) (rk HO_7) hg hat); replace HB := aM (hb); replace HK := aM (Kept.of_grown (S := (fun k_ => P1_ k_)) hg (hk HK) (fun k_ e_ => (HO375.1.1 k_ e_).1)); clear HO375; clear ho hb hg hat; obtain ⟨Ao44, co44, eo44⟩ := R_slice HO379.1; subst eo44) | ((with_reducible refine gate_callee (f := 37) rfl ?_); refine gL (some 73) rfl rfl Try.func37 (by kernel_rfl) rfl #[.slice A0 l0.length c0, .slice Ao44 y377.length co44, .int .i64 a2] rfl ?_; (with_reducible refine (ih kj19 (by have := HK1.1; have := HJ16.1; have := HJ19.1; omega) _ _ l0 (fun k_ => some k_ = (.slice Ao44 y377.length co44 : Value).ownBlock) (.slice Ao44 y377.length co44) y377 a2 t380 w0 _ ?side1 ?side2 ?side3 ?side4 A35.1).mono ?_); (case side1 => repeat (first | (with_reducible first | exact HB.1 | apply bA | apply bN | apply bD) | exact HB.1)); (case side2 => exact C_kept_call HR0.1 (hk HK) (fun k_ hs_ => (fun e_ => (HO379.1.1 k_ e_.symm).1) hs_)); (case side3 => exact HC0.1); (case side4 => exact R_tight rfl HO379.1); rintro e w45 ⟨v381, rfl, ho0, hb, hkp⟩; refine ⟨_, rfl, ?_⟩; have HO382 := aM (R_mono (ok' := fun k_ => (P1_ k_ \/ w.heap.size <= k_) /\ some k_ ≠ (.slice (some ad362) l1.length co14 : Value).ownBlock /\ some k_ ≠ (.slice (some ad376) t363.length co16 : Value).ownBlock) ho0 (fun k_ hk_ => ⟨Or.elim hk_ (fun hs_ => (HO379.1.1 k_ (hs_).symm).1) (fun hn_ => (.inr (Nat.le_trans (by first | exact HK.1.1 | exact (show Kept w _ (fun k_ => P1_ k_) from hk HK).1) hn_))), Or.elim hk_ (fun hs_ => fun e_ => (((HO_1.1).1 k_ e_.symm).2) hs_) (fun hn_ => (Kd.fresh' (R_lt (rk HO_1)) k_ hn_)), Or.elim hk_ (fun hs_ => fun e_ => (((HO_7.1).1 k_ e_.symm).2) hs_) (fun hn_ => (Kd.fresh' (R_lt (rk HO_7)) k_ hn_))⟩)); replace HO_1 := aM (R_mono (ok' := fun k_ => (P1_ k_ \/ w.heap.size <= k_) /\ some k_ ≠ (.slice (some ad376) t363.length co16 : Value).ownBlock /\ some k_ ≠ (v381 : Value).ownBlock) (R_keptB (HO_1.1) hkp (fun k_ hk_ hs_ => (hk_.2) hs_)) (fun k_ hk_ => ⟨hk_.1.1.1, hk_.1.1.2, fun e_ => Or.elim (ho0.1 k_ e_.symm) (fun hs_ => hk_.2.1 hs_) (fun hn_ => Nat.not_le.2 hk_.2.2 hn_)⟩)); replace HO_7 := aM (R_mono (ok' := fun k_ => (P1_ k_ \/ w.heap.size <= k_) /\ some k_ ≠ (.slice (some ad362) l1.length co14 : Value).ownBlock /\ some k_ ≠ (v381 : Value).ownBlock) (R_keptB (HO_7.1) hkp (fun k_ hk_ hs_ => (hk_.2) hs_)) (fun k_ hk_ => ⟨hk_.1.1.1, hk_.1.1.2, fun e_ => Or.elim (ho0.1 k_ e_.symm) (fun hs_ => hk_.2.1 hs_) (fun hn_ => Nat.not_le.2 hk_.2.2 hn_)⟩)); replace HK := aM (Kept.then_ (S := (fun k_ => P1_ k_)) (hk HK) hkp (fun k_ hs_ => (fun e_ => (HO379.1.1 k_ e_.symm).1) hs_)); replace HB := aM (hb); clear HO379; clear hb hkp ho0; obtain ⟨Ao46, co46, eo46⟩ := R_slice HO382.1; subst eo46))
       go_roundg kj19
       case measure => have := HK1.1; have := HJ16.1; have := HJ19.1; omega
       case rel => exact ⟨(wrap64 (x8_1 + 1)), rr, H', ⟨by have := HK1.1; have := HJ16.1; have := HJ19.1; omega⟩, ⟨rz (R_mono HO_1.1 (fun _ hk => ⟨hk.1, hk.2.1⟩))⟩, ⟨rz (R_mono HO_7.1 (fun _ hk => ⟨hk.1, hk.2.1⟩))⟩, ⟨hk HK⟩, ⟨hh HB⟩⟩
mutual
noncomputable def r_Cycle.l0 : Nat -> List (S42) -> List ByteArray -> Int -> Option (List ByteArray)
 | 0, _, _, _ => none
 | k + 1, x0, x3, x4 => if x4 <= (x3.length : Int) then (r_Cycle.l1 k x0 x3 x4 0) else (some ([] : List ByteArray))
noncomputable def r_Cycle.l1 : Nat -> List (S42) -> List ByteArray -> Int -> Int -> Option (List ByteArray)
 | 0, _, _, _, _ => none
 | k + 1, x0, x3, x4, x5 => if x5 < (x3.length : Int) then (if 0 <= x5 then ((r_paths.f k x0 (([rdOf ByteArray.empty x3 x5] : List ByteArray)) x4).bind fun t394 => (if (t394.length : Int) > 0 then (some t394) else (r_Cycle.l1 k x0 x3 x4 (wrap64 (x5 + 1))))) else (none)) else (r_Cycle.l0 k x0 x3 (wrap64 (x4 + 1)))
end
noncomputable def r_Cycle.f (k : Nat) (l0 : List (S42)) : Option (List ByteArray) := (r_consistent.f k l0).bind fun bt383 => (if bt383.1 = 0 then ((r_Names.f k l0).bind fun t387 => (r_Cycle.l0 k l0 t387 1)) else (some ([] : List ByteArray)))
theorem r_Cycle.calls (k : Nat) (A0 : Option Addr) (c0 : Nat) (l0 : List (S42)) (r : List ByteArray) (w : World) (hr0 : Kd.C k42 w A0 l0.length l0) (hc0 : l0.length <= c0) (h : r_Cycle.f k l0 = some r) :
 Calls Try.prog 20 #[.slice A0 l0.length c0] w fun e w' => ∃ v0_ : Value, e = .returned (v0_) /\ Kd.R Kd.string 9 w' w.heap.size (fun _ => True) v0_ r /\ Below w.heap.size w w' := by
 have hu28 := Try.underlying28
 have HR0 := aM hr0
 have HC0 := aM hc0
 clear hr0 hc0
 have HB := aM (Below.refl w.heap.size w)
 have H : ((r_consistent.f k l0).bind fun bt383 => (if bt383.1 = 0 then ((r_Names.f k l0).bind fun t387 => (r_Cycle.l0 k l0 t387 1)) else (some ([] : List ByteArray)))) = some r := h
 clear h
 replace H := Option.bind_eq_some_iff.mp H
 obtain ⟨⟨t383, t384, t385, t386⟩, A20, H⟩ := H
 try dsimp only at H
 have A2 := aM A20
 clear A20
 by_cases c3 : t383 = 0
 rotate_left
 · rw [if_neg c3] at H
   have c3b0 : (t383 == 0) = false := beq_eq_false_iff_ne.mpr c3
   have c3b1 : (t383 != 0) = true := bne_iff_ne.mpr c3
   obtain rfl := Option.some.inj H
   go_enter Try.func20, Try.ntmps20
   go_wp2_with (first | ((with_reducible refine gate_callee (f := 36) rfl ?_); refine gL (some 8) rfl rfl Try.func36 (by kernel_rfl) rfl #[.slice A0 l0.length c0] rfl ?_; (with_reducible refine (r_consistent.calls k _ _ l0 t383 t384 t385 t386 _ ?side1 ?side2 A2.1).mono ?_); (case side1 => exact ck HR0); (case side2 => exact HC0.1); rintro e w24 ⟨rfl, hb⟩; refine ⟨_, rfl, ?_⟩; replace HB := bs HB hb; clear hb))
   go_ret
   exact ⟨_, by first | rfl | (simp [errW_none, errW_some] <;> rfl) | (simp [*, errW_none, errW_some] <;> rfl), by first | exact R_nil _ _ _ _ _ | exact N_nil _ _ _ _ _ | exact V_nil _ _ _ _ _ | exact Q_nil _ _ _ _ _ | exact S_nil _ _ _ _ _, hh HB⟩
 rw [if_pos c3] at H
 have c3b0 : (t383 == 0) = true := beq_iff_eq.mpr c3
 have c3b1 : (t383 != 0) = false := bne_eq_false_iff_eq.mpr c3
 clear c3
 replace H := Option.bind_eq_some_iff.mp H
 obtain ⟨t387, A40, H⟩ := H
 try dsimp only at H
 have A4 := aM A40
 clear A40
 have H' := aM H
 clear H
 go_enter Try.func20, Try.ntmps20
 go_wp2_with (first | ((with_reducible refine gate_callee (f := 36) rfl ?_); refine gL (some 8) rfl rfl Try.func36 (by kernel_rfl) rfl #[.slice A0 l0.length c0] rfl ?_; (with_reducible refine (r_consistent.calls k _ _ l0 t383 t384 t385 t386 _ ?side1 ?side2 A2.1).mono ?_); (case side1 => exact ck HR0); (case side2 => exact HC0.1); rintro e w5 ⟨rfl, hb⟩; refine ⟨_, rfl, ?_⟩; replace HB := bs HB hb; clear hb) | ((with_reducible refine gate_callee (f := 28) rfl ?_); refine gL (some 12) rfl rfl Try.func28 (by kernel_rfl) rfl #[.slice A0 l0.length c0] rfl ?_; (with_reducible refine (r_Names.calls k _ _ l0 t387 _ ?side1 ?side2 A4.1).mono ?_); (case side1 => exact cb HR0 HB); (case side2 => exact HC0.1); rintro e w6 ⟨v388, rfl, ho0, hb⟩; refine ⟨_, rfl, ?_⟩; have HO389 := aM (R_lower ho0 (below_size (hh HB))); replace HB := bs HB hb; clear hb ho0))
 go_loopg [4] k (fun kq v4 w' => ∃ (x4_1 : Int), v4 = .int .i64 x4_1 /\ Az (r_Cycle.l0 kq l0 t387 x4_1 = some r) /\ Az (kq <= k) /\ Az (Kd.R Kd.string 9 w' w.heap.size (fun _ => True) v388 t387) /\ Az (Below w.heap.size w w'))
 case atStart => exact ⟨(1), rr, H', ⟨Nat.le_refl _⟩, ⟨rk HO389⟩, ⟨hh HB⟩⟩
 case round =>
  clear H'
  clear c3b0 c3b1
  obtain ⟨x4_1, rfl, HA, HK1, HO_3, HB⟩ := hrel
  cases gk with
  | zero => exact absurd HA.1 (by simp [r_Cycle.l0])
  | succ k1 =>
   have H := HA.1
   clear HA
   simp only [r_Cycle.l0] at H
   by_cases c7 : x4_1 <= (t387.length : Int)
   rotate_left
   · rw [if_neg c7] at H
     have c7b0 : decide (x4_1 <= (t387.length : Int)) = false := decide_eq_false c7
     clear c7
     obtain rfl := Option.some.inj H
     obtain ⟨Ao23, co23, eo23⟩ := R_slice HO_3.1
     subst eo23
     go_wp2
     go_ret
     exact ⟨_, by first | rfl | (simp [errW_none, errW_some] <;> rfl) | (simp [*, errW_none, errW_some] <;> rfl), by first | exact R_nil _ _ _ _ _ | exact N_nil _ _ _ _ _ | exact V_nil _ _ _ _ _ | exact Q_nil _ _ _ _ _ | exact S_nil _ _ _ _ _, hh HB⟩
   rw [if_pos c7] at H
   have c7b0 : decide (x4_1 <= (t387.length : Int)) = true := decide_eq_true c7
   clear c7
   have H' := aM H
   clear H
   obtain ⟨Ao8, co8, eo8⟩ := R_slice HO_3.1
   subst eo8
   go_wp2
   go_loopg [5] k1 (fun kq v5 w' => ∃ (x5_2 : Int), v5 = .int .i64 x5_2 /\ Az (r_Cycle.l1 kq l0 t387 x4_1 x5_2 = some r) /\ Az (kq <= k1) /\ Az (Kd.R Kd.string 9 w' w.heap.size (fun _ => True) (.slice Ao8 t387.length co8) t387) /\ Az (Below w.heap.size w w'))
   case atStart => exact ⟨(0), rr, H', ⟨Nat.le_refl _⟩, ⟨rk HO_3⟩, ⟨hh HB⟩⟩
   case round =>
    clear H'
    clear c7b0
    obtain ⟨x5_2, rfl, HA, HK2, HO_3, HB⟩ := hrel
    cases gk with
    | zero => exact absurd HA.1 (by simp [r_Cycle.l1])
    | succ k2 =>
     have H := HA.1
     clear HA
     simp only [r_Cycle.l1] at H
     by_cases c9 : x5_2 < (t387.length : Int)
     rotate_left
     · rw [if_neg c9] at H
       have c9b0 : decide (x5_2 < (t387.length : Int)) = false := decide_eq_false c9
       clear c9
       have H' := aM H
       clear H
       go_wp2
       go_roundg k2
       case measure => have := HK1.1; have := HK2.1; omega
       case rel => exact ⟨(wrap64 (x4_1 + 1)), rr, H', ⟨by have := HK1.1; have := HK2.1; omega⟩, ⟨rk HO_3⟩, ⟨hh HB⟩⟩
     rw [if_pos c9] at H
     have c9b0 : decide (x5_2 < (t387.length : Int)) = true := decide_eq_true c9
     clear c9
     by_cases c10 : 0 <= x5_2
     rotate_left
     · rw [if_neg c10] at H
       exact absurd H (by simp)
     rw [if_pos c10] at H
     have c10b0 : decide (0 <= x5_2) = true := decide_eq_true c10
     clear c10
     obtain ⟨y391, hy391⟩ : ∃ y_ : List ByteArray, y_ = (([rdOf ByteArray.empty t387 x5_2] : List ByteArray)) := ⟨_, rfl⟩
     replace H : ((r_paths.f k2 l0 y391 x4_1).bind fun t394 => (if (t394.length : Int) > 0 then (some t394) else (r_Cycle.l1 k2 l0 t387 x4_1 (wrap64 (x5_2 + 1))))) = some r := by first | (rw [hy391]; with_reducible exact H) | (have H2_ := (Option.bind_some _ _).symm.trans H; rw [hy391]; with_reducible exact H2_) | (have H2_ := (Option.bind_some _ _).symm.trans H; with_reducible exact H2_) | with_reducible exact H | (rw [hy391]; exact H) | exact H
     have Ny391 := aM hy391
     clear hy391
     replace H := Option.bind_eq_some_iff.mp H
     obtain ⟨t394, A110, H⟩ := H
     try dsimp only at H
     have A11 := aM A110
     clear A110
     by_cases c12 : (t394.length : Int) > 0
     · rw [if_pos c12] at H
       have c12b0 : decide (0 < (t394.length : Int)) = true := decide_eq_true c12
       have c12b1 : decide (0 < t394.length) = true := decide_eq_true (by omega)
       clear c12
       obtain rfl := Option.some.inj H
       have p390 : 0 <= (x5_2 : Int) := dt
       have q390 : x5_2 < (t387.length : Int) := dt
       obtain ⟨ad390, e390, hx390_0⟩ := Kd.at_string (R_reads' HO_3.1).2.2 x5_2 p390 q390
       cases e390
       replace p390 := eq_true p390
       replace q390 := eq_true q390
       go_wp2_with (first | ((with_reducible refine gate_dst (N := 30) rfl ?_); refine R_lit Kd.string _ 9 ?hg (N := 30) ?hd (xs := ([rdOf ByteArray.empty t387 x5_2] : List ByteArray)) (inner := [.string (rdOf ByteArray.empty t387 x5_2)]) (ok := fun _ => True) (okp := fun _ => True) ?hr ?hp (fun _ hk => hk) trivial (Below.refl _ _) (Nat.le_refl _) (by simp) ?_; (case hd => rfl); (case hg => rfl); (case hr => first | (go_simp; done) | (go_simp; rfl)); (case hp => exact (Reps.one (show Kd.M Kd.string _ _ _ (rdOf ByteArray.empty t387 x5_2) [.string (rdOf ByteArray.empty t387 x5_2)] from rfl) (Reps.none _ _))); intro v392 w13 ho14 hb hg_ hnew_; clear hg_ hnew_; (first | rw [<- Ny391.1] at ho14 | (simp only [Int.reduceToNat] at ho14; rw [<- Ny391.1] at ho14)); have HO393 := aM (R_lower (R_new' ho14 (R_lt (rk HO_3))) (below_size (hh HB))); replace HO_3 := aM (R_elder' (rk HO_3) (R_base ho14) hb); replace HB := bs HB hb; clear hb ho14; obtain ⟨Ao15, co15, eo15⟩ := R_slice HO393.1; subst eo15) | ((with_reducible refine gate_callee (f := 37) rfl ?_); refine gL (some 32) rfl rfl Try.func37 (by kernel_rfl) rfl #[.slice A0 l0.length c0, .slice Ao15 y391.length co15, .int .i64 x4_1] rfl ?_; (with_reducible refine (r_paths.calls k2 _ _ l0 (fun k_ => some k_ = (.slice Ao15 y391.length co15 : Value).ownBlock) (.slice Ao15 y391.length co15) y391 x4_1 t394 w _ ?side1 ?side2 ?side3 ?side4 A11.1).mono ?_); (case side1 => repeat (first | (with_reducible first | exact HB.1 | apply bA | apply bN | apply bD) | exact HB.1)); (case side2 => exact C_kept_came k42_heap HR0.1 (hh HB) (fun k_ hs_ => (fun e_ => R_base HO393.1 k_ e_.symm) hs_)); (case side3 => exact HC0.1); (case side4 => exact R_tight rfl HO393.1); rintro e w16 ⟨v395, rfl, ho0, hb, hkp⟩; refine ⟨_, rfl, ?_⟩; have HO396 := aM (R_mono (ok' := fun k_ => some k_ ≠ (.slice (some ad390) t387.length co8 : Value).ownBlock) ho0 (fun k_ hk_ => Or.elim hk_ (fun hs_ => fun e_ => (((HO_3.1).1 k_ e_.symm).2) hs_) (fun hn_ => (Kd.fresh' (R_lt (rk HO_3)) k_ hn_)))); replace HO_3 := aM (R_mono (ok' := fun k_ => some k_ ≠ (v395 : Value).ownBlock) (R_keptB (HO_3.1) hkp (fun k_ hk_ hs_ => (hk_.2) hs_)) (fun k_ hk_ => fun e_ => Or.elim (ho0.1 k_ e_.symm) (fun hs_ => hk_.2.1 hs_) (fun hn_ => Nat.not_le.2 hk_.2.2 hn_))); replace HB := aM (hb); clear HO393; clear hb hkp ho0; obtain ⟨Ao17, co17, eo17⟩ := R_slice HO396.1; subst eo17))
       go_ret
       exact ⟨_, by first | rfl | (simp [errW_none, errW_some] <;> rfl) | (simp [*, errW_none, errW_some] <;> rfl), rz (R_mono HO396.1 (fun _ hk => trivial)), hh HB⟩
     rw [if_neg c12] at H
     have c12b0 : decide (0 < (t394.length : Int)) = false := decide_eq_false c12
     have c12b1 : decide (0 < t394.length) = false := decide_eq_false (by omega)
     clear c12
     have H' := aM H
     clear H
     have p390 : 0 <= (x5_2 : Int) := dt
     have q390 : x5_2 < (t387.length : Int) := dt
     obtain ⟨ad390, e390, hx390_0⟩ := Kd.at_string (R_reads' HO_3.1).2.2 x5_2 p390 q390
     cases e390
     replace p390 := eq_true p390
     replace q390 := eq_true q390
     go_wp2_with (first | ((with_reducible refine gate_dst (N := 30) rfl ?_); refine R_lit Kd.string _ 9 ?hg (N := 30) ?hd (xs := ([rdOf ByteArray.empty t387 x5_2] : List ByteArray)) (inner := [.string (rdOf ByteArray.empty t387 x5_2)]) (ok := fun _ => True) (okp := fun _ => True) ?hr ?hp (fun _ hk => hk) trivial (Below.refl _ _) (Nat.le_refl _) (by simp) ?_; (case hd => rfl); (case hg => rfl); (case hr => first | (go_simp; done) | (go_simp; rfl)); (case hp => exact (Reps.one (show Kd.M Kd.string _ _ _ (rdOf ByteArray.empty t387 x5_2) [.string (rdOf ByteArray.empty t387 x5_2)] from rfl) (Reps.none _ _))); intro v392 w18 ho19 hb hg_ hnew_; clear hg_ hnew_; (first | rw [<- Ny391.1] at ho19 | (simp only [Int.reduceToNat] at ho19; rw [<- Ny391.1] at ho19)); have HO393 := aM (R_lower (R_new' ho19 (R_lt (rk HO_3))) (below_size (hh HB))); replace HO_3 := aM (R_elder' (rk HO_3) (R_base ho19) hb); replace HB := bs HB hb; clear hb ho19; obtain ⟨Ao20, co20, eo20⟩ := R_slice HO393.1; subst eo20) | ((with_reducible refine gate_callee (f := 37) rfl ?_); refine gL (some 32) rfl rfl Try.func37 (by kernel_rfl) rfl #[.slice A0 l0.length c0, .slice Ao20 y391.length co20, .int .i64 x4_1] rfl ?_; (with_reducible refine (r_paths.calls k2 _ _ l0 (fun k_ => some k_ = (.slice Ao20 y391.length co20 : Value).ownBlock) (.slice Ao20 y391.length co20) y391 x4_1 t394 w _ ?side1 ?side2 ?side3 ?side4 A11.1).mono ?_); (case side1 => repeat (first | (with_reducible first | exact HB.1 | apply bA | apply bN | apply bD) | exact HB.1)); (case side2 => exact C_kept_came k42_heap HR0.1 (hh HB) (fun k_ hs_ => (fun e_ => R_base HO393.1 k_ e_.symm) hs_)); (case side3 => exact HC0.1); (case side4 => exact R_tight rfl HO393.1); rintro e w21 ⟨v395, rfl, ho0, hb, hkp⟩; refine ⟨_, rfl, ?_⟩; have HO396 := aM (R_mono (ok' := fun k_ => some k_ ≠ (.slice (some ad390) t387.length co8 : Value).ownBlock) ho0 (fun k_ hk_ => Or.elim hk_ (fun hs_ => fun e_ => (((HO_3.1).1 k_ e_.symm).2) hs_) (fun hn_ => (Kd.fresh' (R_lt (rk HO_3)) k_ hn_)))); replace HO_3 := aM (R_mono (ok' := fun k_ => some k_ ≠ (v395 : Value).ownBlock) (R_keptB (HO_3.1) hkp (fun k_ hk_ hs_ => (hk_.2) hs_)) (fun k_ hk_ => fun e_ => Or.elim (ho0.1 k_ e_.symm) (fun hs_ => hk_.2.1 hs_) (fun hn_ => Nat.not_le.2 hk_.2.2 hn_))); replace HB := aM (hb); clear HO393; clear hb hkp ho0; obtain ⟨Ao22, co22, eo22⟩ := R_slice HO396.1; subst eo22))
     go_roundg k2
     case measure => have := HK1.1; have := HK2.1; omega
     case rel => exact ⟨(wrap64 (x5_2 + 1)), rr, H', ⟨by have := HK1.1; have := HK2.1; omega⟩, ⟨rz (R_mono HO_3.1 (fun _ hk => trivial))⟩, ⟨hh HB⟩⟩
end Go.Proofs.Ytmadhaccjmakdaa.P
namespace Go.Proofs.Ytmadhaccjmakdaa
open Go.RowKit Go.Maps Go.Sort Go.Proofs.Yw.A Go.Proofs.Yw.B Go.Proofs.Yw.C
open P
namespace Mg
theorem asc_of {S ss : List (List UInt8)} (h : Elems S ss) (h1 : ss.Pairwise (fun a b => leB a b = true)) : asc S = ss := by
 rw [<- Elems.asc h]
 exact List.mergeSort_of_pairwise h1
theorem asc_self {S : List (List UInt8)} (hn : S.Nodup) (h1 : S.Pairwise (fun a b => leB a b = true)) : asc S = S :=
 asc_of ⟨hn, fun x => by simp⟩ h1
theorem asc_elems (S : List (List UInt8)) : Elems S (asc S) := by
 have h := dd_elems S
 have hp := List.mergeSort_perm (dd S) leB
 exact ⟨hp.symm.nodup h.nodup, fun x => (hp.mem_iff).trans (h.mem x)⟩
theorem mem_asc {S : List (List UInt8)} {x : List UInt8} : x ∈ asc S ↔ x ∈ S := by
 rw [(asc_elems S).mem x]; simp
theorem asc_pair (S : List (List UInt8)) : (asc S).Pairwise (fun a b => a <= b) := leB_pair (dd S)
theorem twice_of : ∀ (l : List S42) (seen : List (List UInt8)), (seen ++ l.map nm).Nodup -> twice l seen = none := by
 intro l
 induction l with
 | nil => intro _ _; rfl
 | cons m l ih =>
  intro seen h
  unfold twice
  have hm : ¬ seen.contains (nm m) = true := by
   intro hc
   have hc2 := List.contains_iff_mem.1 hc
   rw [List.nodup_append] at h
   exact h.2.2 _ hc2 _ (by simp) rfl
  rw [if_neg hm]
  exact ih _ (by simpa using h)
theorem missI_of (K : List (List UInt8)) : ∀ l : List S66, (∀ i ∈ l, im i ∈ K) -> missI K l = none := by
 intro l
 induction l with
 | nil => intro _; rfl
 | cons i l ih =>
  intro h
  unfold missI
  rw [if_pos (List.contains_iff_mem.2 (h i List.mem_cons_self))]
  exact ih (fun j hj => h j (List.mem_cons_of_mem _ hj))
theorem miss_of (K : List (List UInt8)) : ∀ l : List S42, (∀ m ∈ l, ∀ i ∈ m.f3, im i ∈ K) -> miss K l = none := by
 intro l
 induction l with
 | nil => intro _; rfl
 | cons m l ih =>
  intro h
  unfold miss
  rw [missI_of K m.f3 (h m List.mem_cons_self)]
  exact ih (fun j hj => h j (List.mem_cons_of_mem _ hj))
def key (m : S42) : List UInt8 × List (List UInt8) := (nm m, m.f3.map im)
theorem impsL_key (l : List S42) (n : List UInt8) : impsL l n = (((l.map key).find? (fun p => p.1 == n)).map (·.2)).getD [] := by
 unfold impsL
 induction l with
 | nil => rfl
 | cons m l ih =>
  by_cases hm : (nm m == n) = true
  · rw [List.map_cons, List.find?_cons_of_pos (by exact hm), List.find?_cons_of_pos (by exact hm)]
    rfl
  rw [List.map_cons, List.find?_cons_of_neg (by exact hm), List.find?_cons_of_neg (by exact hm)]
  exact ih
theorem nm_key (l : List S42) : l.map nm = (l.map key).map (·.1) := by rw [List.map_map]; rfl
theorem size_dat (x : ByteArray) : x.size = x.data.toList.length := by cases x; rfl
theorem okSizes_key {l : List S42} (h : ∀ p ∈ l.map key, p.1.length <= 1000 /\ p.2.length <= 100000 /\ ∀ x ∈ p.2, x.length <= 1000) : okSizes l := by
 intro m hm
 obtain ⟨h1, h2, h3⟩ := h _ (List.mem_map.2 ⟨m, hm, rfl⟩)
 have h1' : m.f0.data.toList.length <= 1000 := h1
 have h2' : (m.f3.map im).length <= 100000 := h2
 rw [List.length_map] at h2'
 refine ⟨by rw [size_dat]; unfold maxLen; omega, h2', fun i hi => ?_⟩
 have h4 : i.f0.data.toList.length <= 1000 := h3 (im i) (List.mem_map.2 ⟨i, hi, rfl⟩)
 rw [size_dat]; unfold maxLen; omega
theorem made_good {l : List S42} (hl : ¬ (l.length : Int) > 32) (hs : okSizes l) (hn : (l.map nm).Nodup) (hi : ∀ m ∈ l, ∀ i ∈ m.f3, im i ∈ l.map nm) : m_made.f l = some (namesOf l, edgesOf l, 0, ⟨#[]⟩, 0, 0) := by
 unfold m_made.f
 rw [if_neg hl, if_pos hs, twice_of l [] (by simpa using hn)]
 simp only []
 rw [miss_of _ l hi]
def namesK (P : List (List UInt8 × List (List UInt8))) : List ByteArray := (asc (P.map (·.1))).map bz
def edgesK (P : List (List UInt8 × List (List UInt8))) : List (List Int) := (asc (P.map (·.1))).map (fun n => (asc (((P.find? (fun p => p.1 == n)).map (·.2)).getD [])).map (fun y => (rank (asc (P.map (·.1))) y : Int)))
theorem namesOf_key (l : List S42) : namesOf l = namesK (l.map key) := by unfold namesOf namesK; rw [nm_key]
theorem edgesOf_key (l : List S42) : edgesOf l = edgesK (l.map key) := by
 unfold edgesOf edgesK edgeOf
 rw [nm_key]
 simp only [impsL_key]
theorem made_key {l : List S42} (hl : (l.map key).length <= 32) (hs : ∀ p ∈ l.map key, p.1.length <= 1000 /\ p.2.length <= 100000 /\ ∀ x ∈ p.2, x.length <= 1000) (hn : ((l.map key).map (·.1)).Nodup) (hi : ∀ p ∈ l.map key, ∀ x ∈ p.2, x ∈ (l.map key).map (·.1)) :
 m_made.f l = some (namesK (l.map key), edgesK (l.map key), 0, ⟨#[]⟩, 0, 0) := by
 rw [<- namesOf_key, <- edgesOf_key]
 rw [List.length_map] at hl
 refine made_good (by omega) (okSizes_key hs) (by rw [nm_key]; exact hn) (fun m hm i hm2 => ?_)
 rw [nm_key]
 exact hi (key m) (List.mem_map.2 ⟨m, hm, rfl⟩) (im i) (List.mem_map.2 ⟨i, hm2, rfl⟩)
theorem made_abc {l : List S42} (h : l.map key = [([65], [[66]]), ([66], []), ([67], [])]) : m_made.f l = some ([bz [65], bz [66], bz [67]], [[1], [], []], 0, ⟨#[]⟩, 0, 0) := by
 have e := made_key (l := l) (by rw [h]; decide) (by rw [h]; decide) (by rw [h]; decide) (by rw [h]; decide)
 rw [e, h]
 have a1 : asc [[65], [66], [67]] = [[65], [66], [67]] := asc_self (by decide) (by decide)
 have a2 : asc [[66]] = [[66]] := asc_self (by decide) (by decide)
 have a3 : asc ([] : List (List UInt8)) = [] := asc_self (by decide) (by decide)
 unfold namesK edgesK
 simp only [List.map_cons, List.map_nil]
 rw [a1]
 simp [List.find?, a2, a3, rank]
 decide
theorem made_cyc {l : List S42} (h : l.map key = [([65], [[66]]), ([66], [[65], [67]]), ([67], [[66]])]) : m_made.f l = some ([bz [65], bz [66], bz [67]], [[1], [0, 2], [1]], 0, ⟨#[]⟩, 0, 0) := by
 have e := made_key (l := l) (by rw [h]; decide) (by rw [h]; decide) (by rw [h]; decide) (by rw [h]; decide)
 rw [e, h]
 have a1 : asc [[65], [66], [67]] = [[65], [66], [67]] := asc_self (by decide) (by decide)
 have a2 : asc [[66]] = [[66]] := asc_self (by decide) (by decide)
 have a3 : asc [[65], [67]] = [[65], [67]] := asc_self (by decide) (by decide)
 unfold namesK edgesK
 simp only [List.map_cons, List.map_nil]
 rw [a1]
 simp [List.find?, a2, a3, rank]
 decide
end Mg
end Go.Proofs.Ytmadhaccjmakdaa
namespace Go.Proofs.Ytmadhaccjmakdaa
open Go.RowKit Go.Proofs.Yw.A Go.Proofs.Yw.B Go.Proofs.Yw.C
namespace Tj
structure TS where
 count : Int
 index : List Int
 low : List Int
 stack : List Int
 comp : List Int
 comps : Int
def row (es : List (List Int)) (v : Int) : List Int := es.getD v.toNat []
def pop : Nat -> Int -> TS -> Option TS
 | 0, _, _ => none
 | k + 1, v, st =>
  if 0 < st.stack.length then
   let x := rd st.stack ((st.stack.length : Int) - 1)
   if 0 <= x /\ x < st.comp.length then
    let st1 : TS := { st with stack := st.stack.take (st.stack.length - 1), comp := st.comp.set x.toNat st.comps }
    if x = v then some { st1 with comps := wrap64 (st.comps + 1) } else pop k v st1
   else none
  else none
def enter (v : Int) (st : TS) : TS :=
 { st with count := wrap64 (st.count + 1), index := st.index.set v.toNat (wrap64 (st.count + 1)), low := st.low.set v.toNat (wrap64 (st.count + 1)), stack := st.stack ++ [v] }
def lower (v x : Int) (st : TS) : TS := { st with low := st.low.set v.toNat (mn (rd st.low v) x) }
mutual
def visit : Nat -> List (List Int) -> Int -> TS -> Option TS
 | 0, _, _, _ => none
 | k + 1, es, v, st =>
  if 0 <= v /\ v < es.length /\ st.stack.length < 17592186044415 then each k es v (row es v) 0 (enter v st) else none
def each : Nat -> List (List Int) -> Int -> List Int -> Int -> TS -> Option TS
 | 0, _, _, _, _, _ => none
 | k + 1, es, v, l, i, st =>
  if i < l.length then
   if 0 <= rd l i /\ rd l i < es.length then
    if rd st.index (rd l i) = 0 then (visit k es (rd l i) st).bind fun st1 => each k es v l (i + 1) (lower v (rd st1.low (rd l i)) st1)
    else if rd st.comp (rd l i) < 0 then each k es v l (i + 1) (lower v (rd st.index (rd l i)) st)
    else each k es v l (i + 1) st
   else none
  else if rd st.low v = rd st.index v then pop k v st
  else some st
end
def outer : Nat -> List (List Int) -> Int -> TS -> Option TS
 | 0, _, _, _ => none
 | k + 1, es, v, st =>
  if v < es.length then
   if rd st.index v = 0 then (visit k es v st).bind fun st1 => outer k es (v + 1) st1 else outer k es (v + 1) st
  else some st
def init (n : Nat) : TS := { count := 0, index := List.replicate n 0, low := List.replicate n 0, stack := [], comp := List.replicate n (-1), comps := 0 }
def strongF (k : Nat) (es : List (List Int)) : Option (List Int × Int) :=
 if es.length < 17592186044416 then (outer k es 0 (init es.length)).map fun st => (st.comp, st.comps) else none
end Tj
namespace P
theorem info55 : (Try.prog.info? 55).map (fun i => (i.zero, i.size, i.bytes)) = some (some (.slice none 0 0), 1, 24) := by kernel_rfl
end P
end Go.Proofs.Ytmadhaccjmakdaa
namespace Go.Proofs.Ytmadhaccjmakdaa
open Go.RowKit Go.Proofs.Yw.A Go.Proofs.Yw.B Go.Proofs.Yw.C
namespace Tj
structure Cx where
 (bc bi bl bs be bv bp bm ai al ap : Nat)
 A : Option Addr
 c : Nat
 w0 : World
 es : List (List Int)
def Cx.ok (X : Cx) (k : Nat) : Prop := k ≠ X.bc /\ k ≠ X.bm /\ k ≠ X.ai /\ k ≠ X.al /\ k ≠ X.ap
structure Cx.Ok (X : Cx) : Prop where
 t1 : X.bc ≠ X.bm /\ X.bc ≠ X.ai /\ X.bc ≠ X.al /\ X.bc ≠ X.ap /\ X.bm ≠ X.ai /\ X.bm ≠ X.al /\ X.bm ≠ X.ap /\ X.ai ≠ X.al /\ X.ai ≠ X.ap /\ X.al ≠ X.ap
 t2 : X.bs ≠ X.bi /\ X.bs ≠ X.bl /\ X.bs ≠ X.bp
 b : X.w0.heap.size <= X.bc /\ X.w0.heap.size <= X.bs /\ X.w0.heap.size <= X.bm /\ X.w0.heap.size <= X.ai /\ X.w0.heap.size <= X.al /\ X.w0.heap.size <= X.ap
abbrev P1 (b : Nat) : Value := .pointer (some ⟨b, 0, none⟩)
abbrev Cx.clo (X : Cx) : Value := .func (.func 61) #[] #[P1 X.bc, P1 X.bi, P1 X.bl, P1 X.bs, P1 X.be, P1 X.bv, P1 X.bp, P1 X.bm]
def arr (xs : List Int) : Obj := .cells (nums .i64 xs).toArray 3 (0, 0)
structure Inv (X : Cx) (st : TS) (w : World) : Prop where
 hB : Below X.w0.heap.size X.w0 w
 hE : Kd.C (Kd.slice 3 (Kd.int .i64)) X.w0 X.A X.es.length X.es
 kc : w.heap[X.bc]? = some (.cells #[.int .i64 st.count] 3 (0, 0))
 ki : w.heap[X.bi]? = some (.cells #[.slice (some ⟨X.ai, 0, none⟩) X.es.length X.es.length] 55 (0, 0))
 kl : w.heap[X.bl]? = some (.cells #[.slice (some ⟨X.al, 0, none⟩) X.es.length X.es.length] 55 (0, 0))
 ks : ∃ v, w.heap[X.bs]? = some (.cells #[v] 55 (0, 0)) /\ Kd.R (Kd.int .i64) 3 w X.w0.heap.size X.ok v st.stack
 ke : w.heap[X.be]? = some (.cells #[.slice X.A X.es.length X.c] 47 (0, 0))
 kv : w.heap[X.bv]? = some (.cells #[X.clo] 88 (0, 0))
 kp : w.heap[X.bp]? = some (.cells #[.slice (some ⟨X.ap, 0, none⟩) X.es.length X.es.length] 55 (0, 0))
 km : w.heap[X.bm]? = some (.cells #[.int .i64 st.comps] 3 (0, 0))
 ai : w.heap[X.ai]? = some (arr st.index)
 al : w.heap[X.al]? = some (arr st.low)
 ap : w.heap[X.ap]? = some (arr st.comp)
 li : st.index.length = X.es.length
 ll : st.low.length = X.es.length
 lp : st.comp.length = X.es.length
theorem nums_set (k : IntKind) (xs : List Int) (j : Nat) (x : Int) : (nums k xs).toArray.setIfInBounds j (.int k x) = (nums k (xs.set j x)).toArray := by
 simp [nums, List.map_set]
theorem Inv.drew {X : Cx} {st : TS} {w : World} (h : Inv X st w) : Inv X st w.drew where
 hB := below_drew h.hB
 hE := h.hE
 kc := h.kc
 ki := h.ki
 kl := h.kl
 ks := by obtain ⟨v, h1, h2⟩ := h.ks; exact ⟨v, h1, Kd.R_drew h2⟩
 ke := h.ke
 kv := h.kv
 kp := h.kp
 km := h.km
 ai := h.ai
 al := h.al
 ap := h.ap
 li := h.li
 ll := h.ll
 lp := h.lp
theorem Inv.setCount {X : Cx} {st : TS} {w : World} (h : Inv X st w) (o : X.Ok) (x : Int) : Inv X { st with count := x } (w.setCell ⟨X.bc, 0, none⟩ (.int .i64 x)) where
 hB := h.hB.setCell o.b.1 _
 hE := h.hE
 kc := one_setCell h.kc
 ki := blk_far h.ki (blk_ne h.ki h.kc (by decide)) _
 kl := blk_far h.kl (blk_ne h.kl h.kc (by decide)) _
 ks := by
  obtain ⟨v, h1, h2⟩ := h.ks
  exact ⟨v, blk_far h1 (blk_ne h1 h.kc (by decide)) _, Kd.R_far (p := ⟨X.bc, 0, none⟩) h2 (fun k hk => hk.1) _⟩
 ke := blk_far h.ke (blk_ne h.ke h.kc (by decide)) _
 kv := blk_far h.kv (blk_ne h.kv h.kc (by decide)) _
 kp := blk_far h.kp (blk_ne h.kp h.kc (by decide)) _
 km := blk_far h.km o.t1.1.symm _
 ai := blk_far h.ai o.t1.2.1.symm _
 al := blk_far h.al o.t1.2.2.1.symm _
 ap := blk_far h.ap o.t1.2.2.2.1.symm _
 li := h.li
 ll := h.ll
 lp := h.lp
theorem Inv.setComps {X : Cx} {st : TS} {w : World} (h : Inv X st w) (o : X.Ok) (x : Int) : Inv X { st with comps := x } (w.setCell ⟨X.bm, 0, none⟩ (.int .i64 x)) where
 hB := h.hB.setCell o.b.2.2.1 _
 hE := h.hE
 km := one_setCell h.km
 ki := blk_far h.ki (blk_ne h.ki h.km (by decide)) _
 kl := blk_far h.kl (blk_ne h.kl h.km (by decide)) _
 ks := by
  obtain ⟨v, h1, h2⟩ := h.ks
  exact ⟨v, blk_far h1 (blk_ne h1 h.km (by decide)) _, Kd.R_far (p := ⟨X.bm, 0, none⟩) h2 (fun k hk => hk.2.1) _⟩
 ke := blk_far h.ke (blk_ne h.ke h.km (by decide)) _
 kv := blk_far h.kv (blk_ne h.kv h.km (by decide)) _
 kp := blk_far h.kp (blk_ne h.kp h.km (by decide)) _
 kc := blk_far h.kc o.t1.1 _
 ai := blk_far h.ai o.t1.2.2.2.2.1.symm _
 al := blk_far h.al o.t1.2.2.2.2.2.1.symm _
 ap := blk_far h.ap o.t1.2.2.2.2.2.2.1.symm _
 li := h.li
 ll := h.ll
 lp := h.lp
theorem Inv.setIndex {X : Cx} {st : TS} {w : World} (h : Inv X st w) (o : X.Ok) (j : Nat) (x : Int) : Inv X { st with index := st.index.set j x } (w.setCell ⟨X.ai, j, none⟩ (.int .i64 x)) where
 hB := h.hB.setCell o.b.2.2.2.1 _
 hE := h.hE
 ai := by unfold arr; rw [<- nums_set]; exact blk_set h.ai j _
 ki := blk_far h.ki (blk_ne h.ki h.ai (by decide)) _
 kl := blk_far h.kl (blk_ne h.kl h.ai (by decide)) _
 ks := by
  obtain ⟨v, h1, h2⟩ := h.ks
  exact ⟨v, blk_far h1 (blk_ne h1 h.ai (by decide)) _, Kd.R_far (p := ⟨X.ai, j, none⟩) h2 (fun k hk => hk.2.2.1) _⟩
 ke := blk_far h.ke (blk_ne h.ke h.ai (by decide)) _
 kv := blk_far h.kv (blk_ne h.kv h.ai (by decide)) _
 kp := blk_far h.kp (blk_ne h.kp h.ai (by decide)) _
 kc := blk_far h.kc o.t1.2.1 _
 km := blk_far h.km o.t1.2.2.2.2.1 _
 al := blk_far h.al o.t1.2.2.2.2.2.2.2.1.symm _
 ap := blk_far h.ap o.t1.2.2.2.2.2.2.2.2.1.symm _
 li := by simpa using h.li
 ll := h.ll
 lp := h.lp
theorem Inv.setLow {X : Cx} {st : TS} {w : World} (h : Inv X st w) (o : X.Ok) (j : Nat) (x : Int) : Inv X { st with low := st.low.set j x } (w.setCell ⟨X.al, j, none⟩ (.int .i64 x)) where
 hB := h.hB.setCell o.b.2.2.2.2.1 _
 hE := h.hE
 al := by unfold arr; rw [<- nums_set]; exact blk_set h.al j _
 ki := blk_far h.ki (blk_ne h.ki h.al (by decide)) _
 kl := blk_far h.kl (blk_ne h.kl h.al (by decide)) _
 ks := by
  obtain ⟨v, h1, h2⟩ := h.ks
  exact ⟨v, blk_far h1 (blk_ne h1 h.al (by decide)) _, Kd.R_far (p := ⟨X.al, j, none⟩) h2 (fun k hk => hk.2.2.2.1) _⟩
 ke := blk_far h.ke (blk_ne h.ke h.al (by decide)) _
 kv := blk_far h.kv (blk_ne h.kv h.al (by decide)) _
 kp := blk_far h.kp (blk_ne h.kp h.al (by decide)) _
 kc := blk_far h.kc o.t1.2.2.1 _
 km := blk_far h.km o.t1.2.2.2.2.2.1 _
 ai := blk_far h.ai o.t1.2.2.2.2.2.2.2.1 _
 ap := blk_far h.ap o.t1.2.2.2.2.2.2.2.2.2.symm _
 li := h.li
 ll := by simpa using h.ll
 lp := h.lp
theorem Inv.setComp {X : Cx} {st : TS} {w : World} (h : Inv X st w) (o : X.Ok) (j : Nat) (x : Int) : Inv X { st with comp := st.comp.set j x } (w.setCell ⟨X.ap, j, none⟩ (.int .i64 x)) where
 hB := h.hB.setCell o.b.2.2.2.2.2 _
 hE := h.hE
 ap := by unfold arr; rw [<- nums_set]; exact blk_set h.ap j _
 ki := blk_far h.ki (blk_ne h.ki h.ap (by decide)) _
 kl := blk_far h.kl (blk_ne h.kl h.ap (by decide)) _
 ks := by
  obtain ⟨v, h1, h2⟩ := h.ks
  exact ⟨v, blk_far h1 (blk_ne h1 h.ap (by decide)) _, Kd.R_far (p := ⟨X.ap, j, none⟩) h2 (fun k hk => hk.2.2.2.2) _⟩
 ke := blk_far h.ke (blk_ne h.ke h.ap (by decide)) _
 kv := blk_far h.kv (blk_ne h.kv h.ap (by decide)) _
 kp := blk_far h.kp (blk_ne h.kp h.ap (by decide)) _
 kc := blk_far h.kc o.t1.2.2.2.1 _
 km := blk_far h.km o.t1.2.2.2.2.2.2.1 _
 ai := blk_far h.ai o.t1.2.2.2.2.2.2.2.2.1 _
 al := blk_far h.al o.t1.2.2.2.2.2.2.2.2.2 _
 li := h.li
 ll := h.ll
 lp := by simpa using h.lp
theorem Inv.setStack {X : Cx} {st : TS} {w w1 : World} (h : Inv X st w) (o : X.Ok) {v : Value} {row : Option Nat} (hg : w.grownBy w1 row) (hb : Below X.w0.heap.size X.w0 w1)
 (hr : ∀ g, row = some g -> X.ok g /\ ∃ cs, w.heap[g]? = some (.cells cs 3 (0, 0))) {xs : List Int} (ho : Kd.R (Kd.int .i64) 3 w1 X.w0.heap.size X.ok v xs) :
 Inv X { st with stack := xs } (w1.setCell ⟨X.bs, 0, none⟩ v) := by
 have k3 : ∀ {g : Nat} {o1 : Obj}, w.heap[g]? = some o1 -> (∀ cs, o1 ≠ .cells cs 3 (0, 0)) -> w1.heap[g]? = some o1 := fun {g o1} hh hn => blk_grown hh hg (fun e => by
  obtain ⟨_, cs, hc⟩ := hr g e.symm
  rw [hh] at hc
  exact hn cs (Option.some.inj hc))
 have k1 : ∀ {g : Nat} {o1 : Obj}, w.heap[g]? = some o1 -> ¬ X.ok g -> w1.heap[g]? = some o1 := fun {g o1} hh hn => blk_grown hh hg (fun e => hn (hr g e.symm).1)
 obtain ⟨v0, s1, s2⟩ := h.ks
 have nx : ∀ {t : TypeId} {cs : Array Value}, Obj.cells cs t (0, 0) ≠ .cells cs t (0, 0) -> False := fun hh => hh rfl
 have g1 := k3 s1 (by intro cs hh; injection hh with _ hh; exact absurd hh (by decide))
 have gi := k3 h.ki (by intro cs hh; injection hh with _ hh; exact absurd hh (by decide))
 have gl := k3 h.kl (by intro cs hh; injection hh with _ hh; exact absurd hh (by decide))
 have ge := k3 h.ke (by intro cs hh; injection hh with _ hh; exact absurd hh (by decide))
 have gv := k3 h.kv (by intro cs hh; injection hh with _ hh; exact absurd hh (by decide))
 have gp := k3 h.kp (by intro cs hh; injection hh with _ hh; exact absurd hh (by decide))
 have gc := k1 h.kc (fun hh => hh.1 rfl)
 have gm := k1 h.km (fun hh => hh.2.1 rfl)
 have ga := k1 h.ai (fun hh => hh.2.2.1 rfl)
 have gb := k1 h.al (fun hh => hh.2.2.2.1 rfl)
 have gd := k1 h.ap (fun hh => hh.2.2.2.2 rfl)
 exact {
  hB := hb.setCell o.b.2.1 _
  hE := h.hE
  kc := blk_far gc (blk_ne gc g1 (by decide)) _
  ki := blk_far gi o.t2.1.symm _
  kl := blk_far gl o.t2.2.1.symm _
  ks := ⟨v, one_setCell g1, Kd.R_set ho g1 (by intro q hq; simp [Kd.int, Kd.scalar] at hq; subst hq; decide) 0 _⟩
  ke := blk_far ge (blk_ne ge g1 (by decide)) _
  kv := blk_far gv (blk_ne gv g1 (by decide)) _
  kp := blk_far gp o.t2.2.2.symm _
  km := blk_far gm (blk_ne gm g1 (by decide)) _
  ai := blk_far ga (blk_ne ga g1 (by decide)) _
  al := blk_far gb (blk_ne gb g1 (by decide)) _
  ap := blk_far gd (blk_ne gd g1 (by decide)) _
  li := h.li
  ll := h.ll
  lp := h.lp }
theorem arr_cell {w : World} {g : Nat} {xs : List Int} (h : w.heap[g]? = some (arr xs)) (i : Int) (h0 : 0 <= i) (h1 : i < xs.length) : w.cell? ⟨g, i.toNat, none⟩ = some (.int .i64 (rd xs i)) := by
 rw [blk_cell h]
 have hl : i.toNat < xs.length := by omega
 simp [nums, rd, List.getElem?_eq_getElem hl]
theorem arr_free {w : World} {g : Nat} {xs : List Int} (h : w.heap[g]? = some (arr xs)) (i : Nat) : w.frozen? ⟨g, i, none⟩ = false := blk_frozen h i
end Tj
end Go.Proofs.Ytmadhaccjmakdaa
namespace Go.Proofs.Ytmadhaccjmakdaa
open Go.RowKit Go.Proofs.Yw.A Go.Proofs.Yw.B Go.Proofs.Yw.C Go.Proofs.Ytmadhaccjmakdaa.P
namespace Rw
def RowAt (w : World) (base : Nat) (v : Value) (xs : List Int) : Prop :=
 (v = .slice none 0 0 /\ xs = []) \/ ∃ g off cap cur, v = .slice (some ⟨g, off, none⟩) xs.length cap /\ base <= g /\ w.heap[g]? = some (.cells cur 3 (0, 0)) /\ xs.length <= cap /\ off + cap <= cur.size /\ cap <= maxLen /\
  ∀ (j : Nat) (x : Int), xs[j]? = some x -> cur[off + j]? = some (.int .i64 x)
theorem heap_setCells (g : Nat) (t : TypeId) : ∀ (vs : List Value) (o : Nat) (w : World) (cur : Array Value), w.heap[g]? = some (.cells cur t (0, 0)) ->
 ∃ cur' : Array Value, (w.setCells g o vs).heap[g]? = some (.cells cur' t (0, 0)) /\ cur'.size = cur.size /\ (∀ j, j < vs.length -> o + j < cur.size -> cur'[o + j]? = vs[j]?) /\ (∀ j, j < o \/ o + vs.length <= j -> cur'[j]? = cur[j]?)
 | [], o, w, cur, h => ⟨cur, h, rfl, fun j hj => by simp at hj, fun _ _ => rfl⟩
 | v :: r, o, w, cur, h => by
  obtain ⟨c1, h1, h2, h3, h4⟩ := heap_setCells g t r (o + 1) (w.setCell ⟨g, o, none⟩ v) _ (blk_set h o v)
  rw [Array.size_setIfInBounds] at h2
  refine ⟨c1, h1, h2, fun j hj ho => ?_, fun j hj => ?_⟩
  · cases j with
    | zero =>
     rw [h4 (o + 0) (by omega), Nat.add_zero, Array.getElem?_setIfInBounds_self_of_lt (by omega)]
     rfl
    | succ j =>
     have := h3 j (by simpa using hj) (by rw [Array.size_setIfInBounds]; omega)
     rw [show o + (j + 1) = o + 1 + j by omega, this]
     rfl
  · have hl : (v :: r).length = r.length + 1 := rfl
    rw [h4 j (by omega)]
    exact Array.getElem?_setIfInBounds_ne (by omega)
theorem grown_setCells (g : Nat) : ∀ (vs : List Value) (o : Nat) (w : World), w.grownBy (w.setCells g o vs) (some g)
 | [], _, _ => World.grownBy.refl _ _
 | v :: r, o, w => World.grownBy.trans (b := w.setCell ⟨g, o, none⟩ v) ⟨rfl, rfl, rfl, by simp, fun i hi hne => Below.heap_setCell w ⟨g, o, none⟩ v i (fun e => hne (by rw [e]))⟩ (grown_setCells g r (o + 1) _)
theorem below_cells {B b : Nat} {a : World} (hb : B <= b) : ∀ (vs : List Value) (o : Nat) (w : World), Below B a w -> Below B a (w.setCells b o vs)
 | [], _, _, h => h
 | v :: r, o, w, h => below_cells hb r (o + 1) _ (h.setCell hb v)
theorem RowAt.kept {w w1 : World} {base : Nat} {v : Value} {xs : List Int} (h : RowAt w base v xs) (hk : ∀ k, v.ownBlock = some k -> w1.heap[k]? = w.heap[k]?) : RowAt w1 base v xs := by
 rcases h with h | ⟨g, off, cap, cur, rfl, hb, hh, r⟩
 · exact .inl h
 · exact .inr ⟨g, off, cap, cur, rfl, hb, by rw [hk g (by simp [Value.ownBlock])]; exact hh, r⟩
theorem RowAt.lt {w : World} {base : Nat} {v : Value} {xs : List Int} (h : RowAt w base v xs) : ∀ k, v.ownBlock = some k -> base <= k /\ k < w.heap.size /\ ∃ cur, w.heap[k]? = some (.cells cur 3 (0, 0)) := by
 intro k hk
 rcases h with ⟨rfl, _⟩ | ⟨g, off, cap, cur, rfl, hb, hh, r⟩
 · simp [Value.ownBlock] at hk
 · obtain rfl : g = k := by simpa [Value.ownBlock] using hk
   exact ⟨hb, blk_lt hh, cur, hh⟩
theorem RowAt.slice {w : World} {base : Nat} {v : Value} {xs : List Int} (h : RowAt w base v xs) : ∃ A c, v = .slice A xs.length c /\ xs.length <= c /\ c <= maxLen := by
 rcases h with ⟨rfl, rfl⟩ | ⟨g, off, cap, cur, rfl, hb, hh, hl, _, hm, _⟩
 · exact ⟨none, 0, rfl, Nat.le_refl _, Nat.zero_le _⟩
 · exact ⟨_, cap, rfl, hl, hm⟩
def ins (xs : List Int) (i : Nat) (x : Int) : List Int := xs.take i ++ x :: xs.drop i
theorem ins_length (xs : List Int) (i : Nat) (x : Int) (hi : i <= xs.length) : (ins xs i x).length = xs.length + 1 := by
 simp [ins]
 omega
theorem ins_at (xs : List Int) (i : Nat) (x : Int) (hi : i <= xs.length) (j : Nat) : (ins xs i x)[j]? = if j < i then xs[j]? else if j = i then some x else xs[j - 1]? := by
 unfold ins
 have hl : (xs.take i).length = i := by simp; omega
 by_cases h1 : j < i
 · rw [if_pos h1, List.getElem?_append_left (by omega), List.getElem?_take_of_lt h1]
 rw [if_neg h1, List.getElem?_append_right (by omega), hl]
 by_cases h2 : j = i
 · subst h2
   rw [if_pos rfl, Nat.sub_self]
   rfl
 rw [if_neg h2]
 obtain ⟨m, rfl⟩ : ∃ m, j = i + 1 + m := ⟨j - i - 1, by omega⟩
 rw [show i + 1 + m - i = m + 1 by omega, List.getElem?_cons_succ, List.getElem?_drop]
 congr 1
 omega
theorem zero_size (n : Nat) : (Builtin.zeroCells (Value.int .i64 0).cells n).size = n := by simp [Builtin.zeroCells, Value.cells]
theorem new_row {w1 : World} {base g G : Nat} {cur : Array Value} {ys : List Int} (hh : w1.heap[g]? = some (.cells cur 3 (0, 0))) (hb : base <= g) (hs : cur.size = G) (hG : G <= maxLen) (hl : ys.length <= G) (hc : ∀ (j : Nat) (y : Int), ys[j]? = some y -> cur[j]? = some (.int .i64 y)) :
 RowAt w1 base (.slice (some ⟨g, 0, none⟩) ys.length G) ys :=
 .inr ⟨g, 0, G, cur, rfl, hb, hh, hl, by omega, hG, fun j y hj => by rw [Nat.zero_add]; exact hc j y hj⟩
theorem insert_calls (w : World) (base : Nat) (v : Value) (xs : List Int) (i : Nat) (x : Int) (vb : Nat) (h : RowAt w base v xs) (hi : i <= xs.length) (hbig : (xs.length + 1) * 8 <= 140737488355328)
 (hv : w.heap[vb]? = some (.cells #[.int .i64 x] 3 (0, 0))) (hne : v.ownBlock ≠ some vb) (hbase : base <= w.heap.size) :
 Calls Try.prog 54 #[v, .int .i64 i, .slice (some ⟨vb, 0, none⟩) 1 1] w fun e w' => ∃ v', e = .returned v' /\ RowAt w' base v' (ins xs i x) /\ w.grownBy w' v.ownBlock /\ (v'.ownBlock = v.ownBlock \/ ∃ b, v'.ownBlock = some b /\ w.heap.size <= b) := by
 have hvs : ∀ j u, [Value.int .i64 x][j]? = some u -> w.cell? ⟨vb, 0 + j, none⟩ = some u := by
  intro j u hu
  rw [Nat.zero_add, blk_cell hv]
  simpa using hu
 have h1v : ∀ u ∈ [Value.int .i64 x], u.oneCell' = true := by intro u hu; rw [List.mem_singleton.1 hu]; rfl
 have h1c : ∀ u ∈ xs.map (Value.int .i64), u.oneCell' = true := by
  intro u hu
  obtain ⟨y, _, rfl⟩ := List.mem_map.1 hu
  rfl
 have hlen := ins_length xs i x hi
 have T3 : Try.lays21_ren.t 3 = 3 := rfl
 have fin : ∀ (c : Nat) (w1 : World) (cur : Array Value), w1.heap[w.heap.size]? = some (.cells cur 3 (0, 0)) -> cur.size = grownCap w (xs.length + 1) c 3 -> (∀ (j : Nat) (y : Int), (ins xs i x)[j]? = some y -> cur[j]? = some (.int .i64 y)) -> w.grownBy w1 v.ownBlock ->
  ∃ v', (Ending.returned (.slice (some ⟨w.heap.size, 0, none⟩) (xs.length + 1) (grownCap w (xs.length + 1) c 3))) = .returned v' /\ RowAt w1 base v' (ins xs i x) /\ w.grownBy w1 v.ownBlock /\ (v'.ownBlock = v.ownBlock \/ ∃ b, v'.ownBlock = some b /\ w.heap.size <= b) := by
  intro c w1 cur hh hs hc hg
  refine ⟨_, rfl, ?_, hg, .inr ⟨w.heap.size, by simp [Value.ownBlock], Nat.le_refl _⟩⟩
  rw [<- hlen]
  refine new_row hh hbase (by rw [hs, hlen]) (by rw [hlen]; exact grownCap_le_maxLen _ _ _ _ (by unfold maxLen; omega)) (by rw [hlen]; exact grownCap_ge _ _ _ _) hc
 have grownAlloc : ∀ (o : Obj), w.grownBy (w.drew.alloc o) v.ownBlock := fun o => grown_of_below (below_alloc (below_drew (Below.refl _ _)) o) _
 rcases h with ⟨rfl, rfl⟩ | ⟨g, off, cap, cur, rfl, hb, hh, hl, hsz, hm, hc⟩
 · obtain rfl : i = 0 := by simpa using hi
   refine (Any2.slices_Insert_int_end_grow Try.lays21 none 0 0 vb 0 1 1 [] [.int .i64 x] w (by decide) (by decide) (by decide) (by decide) rfl rfl (fun _ => rfl) (fun a ha => by cases ha) hvs h1v).mono ?_
   rintro e w1 ⟨he, hw⟩
   rw [T3] at he hw
   subst he hw
   refine fin 0 _ _ (blk_new _ _) ?_ ?_ (grownAlloc _)
   · rw [Array.size_append, zero_size]
     have := grownCap_ge w (0 + 1) 0 3
     show 1 + (grownCap w (0 + 1) 0 3 - (0 + 1)) = grownCap w (0 + 1) 0 3
     omega
   · intro j y hj
     have hj0 : j = 0 := by
      have := (List.getElem?_eq_some_iff.1 hj).1
      rw [hlen] at this
      simpa using this
     subst hj0
     rw [Array.getElem?_append_left (by simp)]
     simp [ins] at hj ⊢
     exact hj
 · have hcs : ∀ j u, (xs.map (Value.int .i64))[j]? = some u -> w.cell? ⟨g, off + j, none⟩ = some u := by
    intro j u hu
    rw [List.getElem?_map] at hu
    obtain ⟨y, hy, rfl⟩ := Option.map_eq_some_iff.1 hu
    rw [blk_cell hh]
    exact hc j y hy
   have hsp : ∀ j, j < cap -> (w.cell? ⟨g, off + j, none⟩).isSome = true := by
    intro j hj
    rw [blk_cell hh]
    simp
    omega
   have hfz : ∀ j, w.frozen? ⟨g, j, none⟩ = false := fun j => blk_frozen hh j
   have hvg : vb ≠ g := fun e => hne (by rw [e]; simp [Value.ownBlock])
   have hown : (Value.slice (some ⟨g, off, none⟩) xs.length cap).ownBlock = some g := by simp [Value.ownBlock]
   by_cases hroom : xs.length + 1 <= cap
   · by_cases hin : i < xs.length
     · have hsa : w.shape? vb = some (3, 1) := by simp [World.shape?, hv]
       have hsb : w.shape? g = some (3, cur.size) := by simp [World.shape?, hh]
       refine (Any2.slices_Insert_int_shift Try.lays21 g off xs.length cap i vb 0 1 1 (xs.map (Value.int .i64)) [.int .i64 x] w hin (by decide) hroom (by unfold maxLen at hm; omega) hvg (by simp) rfl hcs (fun j hj => hsp j (by omega)) (fun j _ => hfz _) hvs h1c h1v 3 3 1 cur.size hsa hsb (by omega) (blk_frozen hv _) (blk_frozen hv _)).mono ?_
       rintro e w1 ⟨rfl, rfl⟩
       obtain ⟨c1, k1, k2, k3, k4⟩ := heap_setCells g 3 ((xs.map (Value.int .i64)).drop i) (off + (i + 1)) w.drew cur hh
       obtain ⟨c2, m1, m2, m3, m4⟩ := heap_setCells g 3 [.int .i64 x] (off + i) _ c1 k1
       refine ⟨_, rfl, ?_, (World.grownBy.trans (grown_of_below (below_drew (Below.refl _ _)) _) (World.grownBy.trans (grown_setCells g _ _ _) (grown_setCells g _ _ _))), .inl (by simp [Value.ownBlock])⟩
       rw [<- hlen]
       refine .inr ⟨g, off, cap, c2, rfl, hb, m1, by omega, by omega, hm, fun j y hj => ?_⟩
       have hjl := (List.getElem?_eq_some_iff.1 hj).1
       rw [hlen] at hjl
       rw [ins_at _ _ _ hi] at hj
       by_cases h1 : j < i
       · rw [if_pos h1] at hj
         rw [m4 (off + j) (by omega), k4 (off + j) (by omega)]
         exact hc j y hj
       rw [if_neg h1] at hj
       by_cases h2 : j = i
       · subst h2
         rw [if_pos rfl] at hj
         have := m3 0 (by simp) (by omega)
         rw [Nat.add_zero] at this
         rw [this]
         simpa using hj
       rw [if_neg h2] at hj
       have hd : (xs.map (Value.int .i64)).drop i = ((xs.drop i).map (Value.int .i64)) := List.map_drop.symm
       have := k3 (j - (i + 1)) (by rw [hd, List.length_map, List.length_drop]; omega) (by omega)
       rw [m4 (off + j) (by simp; omega), show off + j = off + (i + 1) + (j - (i + 1)) by omega, this, hd, List.getElem?_map, List.getElem?_drop, show i + (j - (i + 1)) = j - 1 by omega, hj]
       rfl
     · obtain rfl : i = xs.length := by omega
       refine (Any2.slices_Insert_int_end_room Try.lays21 g off xs.length cap vb 0 1 1 [.int .i64 x] w (by decide) hroom (by unfold maxLen at hm; omega) rfl (fun j hj => by rw [Nat.add_assoc]; exact hsp _ (by omega)) (fun j _ => by rw [Nat.add_assoc]; exact hfz _) hvs h1v).mono ?_
       rintro e w1 ⟨rfl, rfl⟩
       obtain ⟨c2, m1, m2, m3, m4⟩ := heap_setCells g 3 [.int .i64 x] (off + xs.length) w cur hh
       refine ⟨_, rfl, ?_, grown_setCells g _ _ _, .inl (by simp [Value.ownBlock])⟩
       rw [<- hlen]
       refine .inr ⟨g, off, cap, c2, rfl, hb, m1, by omega, by omega, hm, fun j y hj => ?_⟩
       have hjl := (List.getElem?_eq_some_iff.1 hj).1
       rw [hlen] at hjl
       rw [ins_at _ _ _ hi] at hj
       by_cases h1 : j < xs.length
       · rw [if_pos h1] at hj
         rw [m4 (off + j) (by omega)]
         exact hc j y hj
       obtain rfl : j = xs.length := by omega
       rw [if_neg h1, if_pos rfl] at hj
       have := m3 0 (by simp) (by omega)
       rw [Nat.add_zero] at this
       rw [this]
       simpa using hj
   by_cases hin : i < xs.length
   rotate_left
   · obtain rfl : i = xs.length := by omega
     refine (Any2.slices_Insert_int_end_grow Try.lays21 (some ⟨g, off, none⟩) xs.length cap vb 0 1 1 (xs.map (Value.int .i64)) [.int .i64 x] w (by decide) hl (by omega) hbig (by simp) rfl (fun h => by cases h) (fun a ha j u hu => by cases ha; rw [Addr.add_lit]; exact hcs j u hu) hvs h1v).mono ?_
     rintro e w1 ⟨he, hw⟩
     rw [T3] at he hw
     subst he hw
     have hG := grownCap_ge w (xs.length + 1) cap 3
     refine fin cap _ _ (blk_new _ _) ?_ ?_ (grownAlloc _)
     · rw [Array.size_append, zero_size]
       simp
       omega
     · intro j y hj
       have hjl := (List.getElem?_eq_some_iff.1 hj).1
       rw [hlen] at hjl
       rw [Array.getElem?_append_left (by simp; omega)]
       rw [ins_at _ _ _ hi] at hj
       by_cases h1 : j < xs.length
       rotate_left
       · obtain rfl : j = xs.length := by omega
         rw [if_neg h1, if_pos rfl] at hj
         simp at hj ⊢
         exact hj
       rw [if_pos h1] at hj
       have hj' := (List.getElem?_eq_some_iff.1 hj).2
       simp [List.getElem?_append_left, h1, hj']
   refine (Any2.slices_Insert_int_grow Try.lays21 g off xs.length cap i vb 0 1 1 (xs.map (Value.int .i64)) [.int .i64 x] w hin (by decide) hl (by omega) hbig (by simp) rfl hcs hvs h1c h1v).mono ?_
   rintro e w1 ⟨he, hw⟩
   rw [T3] at he hw
   subst he hw
   have hG := grownCap_ge w (xs.length + 1) cap 3
   obtain ⟨c1, k1, k2, k3, k4⟩ := heap_setCells w.heap.size 3 [.int .i64 x] i (w.alloc (.cells (((xs.map (Value.int .i64)).take i).toArray ++ Builtin.zeroCells (Value.int .i64 0).cells (xs.length + 1 - i) ++ Builtin.zeroCells (Value.int .i64 0).cells (grownCap w (xs.length + 1) cap 3 - (xs.length + 1))) 3)).drew _ (blk_new w _)
   obtain ⟨c2, m1, m2, m3, m4⟩ := heap_setCells w.heap.size 3 ((xs.map (Value.int .i64)).drop i) (i + 1) _ c1 (blk_drew k1)
   have hsz1 : c1.size = grownCap w (xs.length + 1) cap 3 := by
    rw [k2, Array.size_append, Array.size_append, zero_size, zero_size]
    simp
    omega
   refine fin cap _ c2 m1 (by rw [m2, hsz1]) (fun j y hj => ?_) ?_
   · have hjl := (List.getElem?_eq_some_iff.1 hj).1
     rw [hlen] at hjl
     rw [ins_at _ _ _ hi] at hj
     by_cases h1 : j < i
     · rw [if_pos h1] at hj
       rw [m4 j (by omega), k4 j (by omega), Array.append_assoc, Array.getElem?_append_left (by simp; omega)]
       simp [h1, hj]
     rw [if_neg h1] at hj
     by_cases h2 : j = i
     · subst h2
       rw [if_pos rfl] at hj
       have := k3 0 (by simp) (by rw [<- k2, hsz1]; omega)
       rw [Nat.add_zero] at this
       rw [m4 j (by omega), this]
       simpa using hj
     rw [if_neg h2] at hj
     have hd : (xs.map (Value.int .i64)).drop i = ((xs.drop i).map (Value.int .i64)) := List.map_drop.symm
     have := m3 (j - (i + 1)) (by rw [hd, List.length_map, List.length_drop]; omega) (by rw [hsz1]; omega)
     rw [show j = i + 1 + (j - (i + 1)) by omega, this, hd, List.getElem?_map, List.getElem?_drop, show i + (j - (i + 1)) = j - 1 by omega, hj]
     rfl
   · exact grown_of_below (below_cells (Nat.le_refl _) _ _ _ (below_drew (below_cells (Nat.le_refl _) _ _ _ (below_drew (below_alloc (Below.refl _ _) _))))) _
end Rw
end Go.Proofs.Ytmadhaccjmakdaa
namespace Go.Proofs.Ytmadhaccjmakdaa
open Go.RowKit Go.Proofs.Yw.A Go.Proofs.Yw.B Go.Proofs.Yw.C Go.Proofs.Ytmadhaccjmakdaa.P
namespace Od
open Tj Rw
def first (ms : List (List Int)) (d : Int) : Int := rd (row ms d) 0
abbrev Fine (ms : List (List Int)) (d : Int) : Prop := 0 <= d /\ d < ms.length /\ 0 < (row ms d).length /\ 0 <= first ms d /\ first ms d < 4611686018427387904
structure MsAt (W1 : World) (bm : Nat) (ms : List (List Int)) : Prop where
 cell : ∃ A c, W1.heap[bm]? = some (.cells #[.slice A ms.length c] 47 (0, 0)) /\ Kd.C (Kd.slice 3 (Kd.int .i64)) W1 A ms.length ms
theorem cmp_calls (W1 w : World) (bm : Nat) (ms : List (List Int)) (d t : Int) (M : MsAt W1 bm ms) (hb : Below W1.heap.size W1 w) (hd : Fine ms d) (ht0 : 0 <= t) (ht1 : t < 4611686018427387904) :
 Calls Try.prog 53 #[.int .i64 d, .int .i64 t, P1 bm] w fun e w' => e = .returned (.int .i64 (first ms d - t)) /\ w = w' := by
 obtain ⟨h0, h1, h2, h3, h4⟩ := hd
 obtain ⟨A, c, k1, k2⟩ := M.cell
 clear M
 have c1 := cell_of_one (blk_below k1 hb)
 obtain ⟨ad, A0, c0, rfl, hx, hl0, hi0⟩ := at_L11 k2 d h0 h1
 have hx1 := (hb.cell (World.block_lt_of_cell? _ _ hx)).trans hx
 have el : rd_L11 ms d = row ms d := rfl
 rw [el] at hx1 hi0
 obtain ⟨ad2, rfl, hy⟩ := Kd.at_int hi0 0 (by omega) (by omega)
 have hy1 := (hb.cell (World.block_lt_of_cell? _ _ hy)).trans hy
 rw [show ((0 : Int)).toNat = 0 from rfl] at hy1
 have hz : (0 < (row ms d).length) = True := eq_true h2
 have q1 := eq_true h0
 have q2 := eq_true h1
 clear k1 k2 hx hy hl0 hi0 el hb
 have ef : rd (row ms d) 0 = first ms d := rfl
 rw [ef] at hy1
 clear ef h0 h1
 rw [Addr.add_zero'] at hy1
 go_enter Try.func53, Try.ntmps53
 go_wp2
 go_ret
 exact ⟨rfl, rfl⟩
def pos (ms : List (List Int)) (t : Int) (xs : List Int) : Nat := xs.countP fun d => decide (first ms d < t)
theorem pos_of {ms : List (List Int)} {t : Int} {xs : List Int} {i : Nat} (hi : i <= xs.length) (h1 : ∀ j x, xs[j]? = some x -> j < i -> first ms x < t) (h2 : ∀ j x, xs[j]? = some x -> i <= j -> ¬ first ms x < t) : pos ms t xs = i := by
 unfold pos
 have e : xs = xs.take i ++ xs.drop i := (List.take_append_drop i xs).symm
 rw [e, List.countP_append]
 have a1 : (xs.take i).countP (fun d => decide (first ms d < t)) = (xs.take i).length := by
  rw [List.countP_eq_length]
  intro x hx
  obtain ⟨j, hj, hjx⟩ := List.mem_iff_getElem.1 hx
  have hjl : j < i := by simp at hj; omega
  refine decide_eq_true (h1 j x ?_ hjl)
  rw [<- List.getElem?_take_of_lt hjl, List.getElem?_eq_getElem hj, hjx]
 have a2 : (xs.drop i).countP (fun d => decide (first ms d < t)) = 0 := by
  rw [List.countP_eq_zero]
  intro x hx
  obtain ⟨j, hj, hjx⟩ := List.mem_iff_getElem.1 hx
  have := h2 (i + j) x (by rw [<- List.getElem?_drop, List.getElem?_eq_getElem hj, hjx]) (by omega)
  simpa using this
 rw [a1, a2]
 simp
 omega
def fnd (ms : List (List Int)) (t : Int) (xs : List Int) : Bool := match xs[pos ms t xs]? with | some x => first ms x - t == 0 | none => false
theorem fnd_some {ms : List (List Int)} {t : Int} {xs : List Int} {i : Nat} {x : Int} (h : pos ms t xs = i) (hx : xs[i]? = some x) : fnd ms t xs = (first ms x - t == 0) := by
 unfold fnd
 rw [h, hx]
theorem fnd_none {ms : List (List Int)} {t : Int} {xs : List Int} {i : Nat} (h : pos ms t xs = i) (hx : xs.length <= i) : fnd ms t xs = false := by
 unfold fnd
 rw [h, List.getElem?_eq_none hx]
theorem ret_two {n m : Int} {b c : Bool} (h : n = m) (hb : b = c) : Ending.returned (.tuple #[.int .i64 n, .bool b]) = .returned (.tuple #[.int .i64 m, .bool c]) := by rw [h, hb]
abbrev FoundAt (n : Nat) (b : Bool) (w : World) (e : Ending) (w' : World) : Prop := e = .returned (.tuple #[.int .i64 (n : Int), .bool b]) /\ w' = w
theorem bsf_calls (W1 w : World) (bm : Nat) (ms : List (List Int)) (t : Int) (base : Nat) (v : Value) (xs : List Int) (M : MsAt W1 bm ms) (hb : Below W1.heap.size W1 w) (hR : RowAt w base v xs) (hd : ∀ d ∈ xs, Fine ms d) (ht0 : 0 <= t) (ht1 : t < 4611686018427387904)
 (hs : xs.Pairwise (fun a b => first ms a <= first ms b)) (hlen : xs.length < 17592186044416) :
 Calls Try.prog 52 #[v, .int .i64 t, .func (.func 53) #[] #[P1 bm]] w (FoundAt (pos ms t xs) (fnd ms t xs) w) := by
 have HM := Az.mk M
 have HB := Az.mk hb
 have HR := Az.mk hR
 have HD := Az.mk hd
 have HS := Az.mk hs
 obtain ⟨A, c, rfl, hlc, hcm⟩ := hR.slice
 have CMP := Az.mk (fun (d : Int) (hd : d ∈ xs) => cmp_calls W1 w bm ms d t M hb (HD.1 d hd) ht0 ht1)
 have CELL := Az.mk (show ∀ (j : Nat) (d : Int), xs[j]? = some d -> ∃ g off, A = some ⟨g, off, none⟩ /\ w.cell? ⟨g, off + j, none⟩ = some (.int .i64 d) from by
  intro j d hj
  rcases HR.1 with ⟨h1, h2⟩ | ⟨g, off, cap, cur, h1, -, hh, -, -, -, hc⟩
  · subst h2; simp at hj
  · injection h1 with h1
    exact ⟨g, off, h1, by rw [blk_cell hh]; exact hc j d hj⟩)
 clear M hb hR hd hs
 go_enter Try.func52, Try.ntmps52
 go_wp2_with fail
 go_loopg [9, 10] xs.length (fun kq v9 v10 w' => ∃ (i j : Nat), v9 = .int .i64 i /\ v10 = .int .i64 j /\ Az (i <= j /\ j <= xs.length /\ j - i <= kq) /\ Az (w' = w) /\ Az (∀ m x, xs[m]? = some x -> m < i -> first ms x < t) /\ Az (∀ m x, xs[m]? = some x -> j <= m -> ¬ first ms x < t))
 case atStart => exact ⟨0, xs.length, rfl, rfl, ⟨Nat.zero_le _, Nat.le_refl _, by omega⟩, ⟨rfl⟩, ⟨fun m x _ h => by omega⟩, ⟨fun m x h1 h2 => by have := (List.getElem?_eq_some_iff.1 h1).1; omega⟩⟩
 case round => as_aux_lemma =>
  obtain ⟨i, j, rfl, rfl, HI, HW, H1, H2⟩ := hrel
  obtain ⟨b1, b2, b3⟩ := HI.1
  have hw := HW.1
  subst hw
  by_cases hij : i < j
  rotate_left
  · as_aux_lemma =>
    obtain rfl : i = j := by omega
    have HP := Az.mk (pos_of b2 H1.1 H2.1)
    by_cases hin : i < xs.length
    rotate_left
    · as_aux_lemma =>
      have t3 : decide (i < xs.length) = false := decide_eq_false hin
      go_wp2_with fail
      go_ret2
      exact ⟨ret_two (by rw [HP.1]) (by rw [fnd_none HP.1 (by omega)]), rfl⟩
    as_aux_lemma =>
    obtain ⟨x, hx⟩ : ∃ x, xs[i]? = some x := ⟨xs[i]'hin, List.getElem?_eq_getElem _⟩
    have hmem := Az.mk (List.mem_of_getElem? hx)
    obtain ⟨g, off, rfl, hcell⟩ := CELL.1 i x hx
    have HF := Az.mk (fnd_some HP.1 hx)
    clear hx
    have t3 : decide (i < xs.length) = true := decide_eq_true hin
    go_wp2_with (go_at_call 53; refine (CMP.1 x hmem.1).mono ?_; rintro e w' ⟨rfl, rfl⟩)
    go_ret2
    exact ⟨ret_two (by rw [HP.1]) (by rw [HF.1]), rfl⟩
  as_aux_lemma =>
  obtain ⟨k1, rfl⟩ : ∃ m, gk = m + 1 := ⟨gk - 1, by omega⟩
  obtain ⟨h, hh⟩ : ∃ h : Nat, h = (i + j) / 2 := ⟨_, rfl⟩
  have hi1 : i <= h := by omega
  have hj1 : h < j := by omega
  have HH := Az.mk hh
  clear hh
  go_upto_region 5 with fail
  have hq : ((i : Int) + (j : Int)) / 2 = (h : Int) := by have := HH.1; omega
  rw [hq]
  clear hq
  obtain ⟨x, hx⟩ : ∃ x, xs[h]? = some x := ⟨xs[h]'(by omega), List.getElem?_eq_getElem _⟩
  have HX := Az.mk hx
  have hmem := Az.mk (List.mem_of_getElem? hx)
  obtain ⟨g, off, rfl, hcell⟩ := CELL.1 h x hx
  clear hx
  have hsort : ∀ (a b : Nat) (x y : Int), a < b -> xs[a]? = some x -> xs[b]? = some y -> first ms x <= first ms y := by
   intro a b x y hab ha hb
   obtain ⟨ha1, ha2⟩ := List.getElem?_eq_some_iff.1 ha
   obtain ⟨hb1, hb2⟩ := List.getElem?_eq_some_iff.1 hb
   have := List.pairwise_iff_getElem.1 HS.1 a b ha1 hb1 hab
   rw [ha2, hb2] at this
   exact this
  have HSO := Az.mk hsort
  clear hsort
  have hlh : h < xs.length := by omega
  by_cases hlt : first ms x < t
  rotate_left
  · as_aux_lemma =>
    have t1 : decide (first ms x - t < 0) = false := decide_eq_false (by omega)
    have t2 : decide (first ms x < t) = false := decide_eq_false hlt
    have HLT := Az.mk hlt
    clear hlt
    go_wp2_with (go_at_call 53; refine (CMP.1 x hmem.1).mono ?_; rintro e w' ⟨rfl, rfl⟩)
    go_roundg k1
    case measure => omega
    case rel =>
     refine ⟨i, h, rfl, rfl, ⟨by omega, by omega, by have := HH.1; omega⟩, ⟨rfl⟩, H1, ⟨fun m y hy hm => ?_⟩⟩
     have := HLT.1
     rcases Nat.lt_or_ge h m with h1 | h1
     · have := HSO.1 h m x y h1 HX.1 hy
       omega
     · obtain rfl : m = h := by omega
       rw [HX.1] at hy
       cases hy
       exact this
  as_aux_lemma =>
  have t1 : decide (first ms x - t < 0) = true := decide_eq_true (by omega)
  have t2 : decide (first ms x < t) = true := decide_eq_true hlt
  have HLT := Az.mk hlt
  clear hlt
  go_wp2_with (go_at_call 53; refine (CMP.1 x hmem.1).mono ?_; rintro e w' ⟨rfl, rfl⟩)
  go_roundg k1
  case measure => omega
  case rel =>
   refine ⟨h + 1, j, by go_num, rfl, ⟨by omega, b2, by have := HH.1; omega⟩, ⟨rfl⟩, ⟨fun m y hy hm => ?_⟩, H2⟩
   have := HLT.1
   rcases Nat.lt_or_ge m h with h1 | h1
   · have := HSO.1 m h y x h1 hy HX.1
     omega
   · obtain rfl : m = h := by omega
     rw [HX.1] at hy
     cases hy
     exact this
def enterF (ms : List (List Int)) (c : Int) (ready : List Int) : Option (List Int) :=
 if Fine ms c /\ (∀ d ∈ ready, Fine ms d) /\ ready.Pairwise (fun a b => first ms a <= first ms b) /\ ready.length < 17592186044415 then some (ins ready (pos ms (first ms c) ready) c) else none
def Entered (W1 : World) (base br : Nat) (vr : Value) (ready' : List Int) (w : World) (e : Ending) (w' : World) : Prop :=
 e = .returned (.tuple #[]) /\ Below W1.heap.size W1 w' /\ w.heap.size <= w'.heap.size /\ (∃ vr', w'.heap[br]? = some (.cells #[vr'] 55 (0, 0)) /\ RowAt w' base vr' ready') /\
  ∀ k, k < w.heap.size -> k ≠ br -> vr.ownBlock ≠ some k -> w'.heap[k]? = w.heap[k]?
theorem enter_calls (W1 w : World) (bm br : Nat) (ms : List (List Int)) (c : Int) (base : Nat) (vr : Value) (ready ready' : List Int) (M : MsAt W1 bm ms) (hb : Below W1.heap.size W1 w) (hbr : W1.heap.size <= br) (hbase : W1.heap.size <= base) (hbw : base <= w.heap.size)
 (hv : w.heap[br]? = some (.cells #[vr] 55 (0, 0))) (hR : RowAt w base vr ready) (h : enterF ms c ready = some ready') :
 Calls Try.prog 51 #[.int .i64 c, P1 br, P1 bm] w (Entered W1 base br vr ready' w) := by
 unfold enterF at h
 by_cases hc : Fine ms c /\ (∀ d ∈ ready, Fine ms d) /\ ready.Pairwise (fun a b => first ms a <= first ms b) /\ ready.length < 17592186044415
 case neg => rw [if_neg hc] at h; cases h
 rw [if_pos hc] at h
 obtain rfl := Option.some.inj h
 clear h
 obtain ⟨⟨h0, h1, h2, h3, h4⟩, hF, hS, hL⟩ := hc
 obtain ⟨A, cc, k1, k2⟩ := M.cell
 have BS := Az.mk (fun n => bsf_calls W1 (w.drewN n) bm ms (first ms c) base vr ready M (pw_below_drewN hb n) (hR.kept (fun _ _ => rfl)) hF h3 h4 hS (by omega))
 have HR := Az.mk hR
 have HB := Az.mk hb
 have HV := Az.mk hv
 clear hR hF hS M
 obtain ⟨A2, c2, rfl, hlc, hcm⟩ := HR.1.slice
 have c0 := cell_of_one hv
 have c1 := cell_of_one (blk_below k1 hb)
 obtain ⟨ad, A0, c0, rfl, hx, hl0, hi0⟩ := at_L11 k2 c h0 h1
 have hx1 := (hb.cell (World.block_lt_of_cell? _ _ hx)).trans hx
 have el : rd_L11 ms c = row ms c := rfl
 rw [el] at hx1 hi0
 obtain ⟨ad2, rfl, hy⟩ := Kd.at_int hi0 0 (by omega) (by omega)
 have hy1 := (hb.cell (World.block_lt_of_cell? _ _ hy)).trans hy
 rw [show ((0 : Int)).toNat = 0 from rfl] at hy1
 have hz : (0 < (row ms c).length) = True := eq_true h2
 have q1 := eq_true h0
 have q2 := eq_true h1
 clear k1 k2 hx hy hl0 hi0 el hb hv
 have ef : rd (row ms c) 0 = first ms c := rfl
 rw [ef, Addr.add_zero'] at hy1
 clear ef h0 h1
 go_enter Try.func51, Try.ntmps51
 go_wp2_with fail
 go_quiet ((go_at_call 52; exact Calls.quiet_of_same (BS.1 _)))
 clear hx1 hy1 c1 BS
 go_wp2_with fail
 have W0 := HB.1
 have hs5 : ((w.drewN nq).alloc (.cells #[.int .i64 c] 3)).heap.size = w.heap.size + 1 := by simp
 have hlt := blk_lt HV.1
 have R1 : RowAt ((w.drewN nq).alloc (.cells #[.int .i64 c] 3)) base (.slice A2 ready.length c2) ready := HR.1.kept (fun k hk => by
  have := (HR.1.lt k hk).2.1
  exact Below.heap_alloc (w.drewN nq) _ k this)
 have hpos : pos ms (first ms c) ready <= ready.length := List.countP_le_length
 have hown : ∀ k, (Value.slice A2 ready.length c2).ownBlock = some k -> k ≠ br /\ k < w.heap.size := by
  intro k hk
  obtain ⟨a1, a2, cur, a3⟩ := HR.1.lt k hk
  exact ⟨by rintro rfl; rw [HV.1] at a3; injection a3 with a3; injection a3 with _ a3; exact absurd a3 (by decide), a2⟩
 refine (insert_calls ((w.drewN nq).alloc (.cells #[.int .i64 c] 3)) base _ ready _ c w.heap.size R1 hpos (by omega) (blk_new (w.drewN nq) _) (fun e => by have := (hown _ e).2; omega) (by rw [hs5]; omega)).mono ?_
 rintro e w2 ⟨v', rfl, hr', hg, hat⟩
 have G1 : ∀ k, k < w.heap.size -> (Value.slice A2 ready.length c2).ownBlock ≠ some k -> w2.heap[k]? = w.heap[k]? := by
  intro k hk hne
  rw [hg.block k (by simp; omega) (fun e => hne e.symm)]
  exact Below.heap_alloc (w.drewN nq) _ k hk
 have hbr2 : w2.heap[br]? = some (.cells #[.slice A2 ready.length c2] 55 (0, 0)) := (G1 br hlt (fun e => (hown _ e).1 rfl)).trans HV.1
 have hsz : w.heap.size + 1 <= w2.heap.size := by have := hg.size; simpa using this
 have HB2 : Below W1.heap.size W1 w2 := by
  have b1 : Below W1.heap.size W1 ((w.drewN nq).alloc (.cells #[.int .i64 c] 3)) := below_alloc (pw_below_drewN W0 nq) _
  refine b1.grown hg (by rw [hs5]; omega) (fun k hk => ?_)
  have := (HR.1.lt k hk).1
  omega
 obtain ⟨A3, c3, rfl, -, -⟩ := hr'.slice
 have hr2 := Az.mk hr'
 have G2 := Az.mk G1
 have B2 := Az.mk HB2
 have V2 := Az.mk hbr2
 have O2 := Az.mk hown
 have T2 := Az.mk hat
 have S2 := Az.mk hsz
 have c4 := cell_of_one hbr2
 have f4 := free_of_one hbr2
 clear hr' G1 HB2 hbr2 hown hat hsz hg R1 W0 hpos hs5
 go_wp2_with fail
 go_end0
 have hne2 : ∀ k, (Value.slice A3 (ins ready (pos ms (first ms c) ready) c).length c3).ownBlock = some k -> k ≠ br := by
  intro k hk
  obtain ⟨_, _, cur, a3⟩ := hr2.1.lt k hk
  rintro rfl
  rw [V2.1] at a3
  injection a3 with a3
  injection a3 with _ a3
  exact absurd a3 (by decide)
 refine ⟨rfl, B2.1.setCell hbr _, ?_, ⟨_, one_setCell V2.1, hr2.1.kept (fun k hk => Below.heap_setCell _ _ _ _ (hne2 k hk))⟩, fun k hk hkb hko => ?_⟩
 · have := S2.1
   simp
   omega
 · rw [Below.heap_setCell _ _ _ _ (show k ≠ br from hkb)]
   exact G2.1 k hk hko
def SeenAt (w : World) (b : Nat) (S : List Int) : Prop := ∃ (n : Nat) (D : DataW Unit), w.ownsMap Try.prog 3 (plainElem Try.prog 4) b n D /\ n <= S.length /\ Maps.IsMap D /\
 ∀ x : Int, (Lit.int .i64 x).wf = true -> D.atKey (.int .i64 x) (.lit (.bool false)) = .lit (.bool (S.contains x))
theorem keys3 : Maps.Keyed Try.prog 3 := Maps.int_keyed Try.underlying3
theorem zero4 (w : World) : (zeroValue 4).run Try.prog w = .ok (.bool false) w := by kernel_rfl
theorem SeenAt.made (w : World) : SeenAt (w.alloc (.map #[] 0)) w.heap.size [] :=
 ⟨0, .map [], World.ownsMap_made _ _ _ _, Nat.le_refl _, Maps.isMap_empty, fun x _ => by simp [DataW.atKey]⟩
theorem SeenAt.kept {w w' : World} {b : Nat} {S : List Int} {row : Option Nat} (h : SeenAt w b S) (hg : w.grownBy w' row) (hne : some b ≠ row) : SeenAt w' b S := by
 obtain ⟨n, D, h1, h2⟩ := h
 exact ⟨n, D, h1.kept hg hne, h2⟩
theorem SeenAt.lt {w : World} {b : Nat} {S : List Int} (h : SeenAt w b S) : b < w.heap.size := by
 obtain ⟨n, D, h1, h2⟩ := h
 exact h1.lt
theorem SeenAt.obj {w : World} {b : Nat} {S : List Int} (h : SeenAt w b S) : ∃ es c, w.heap[b]? = some (.map es c) := by
 obtain ⟨n, D, ⟨es, c, h1, _⟩, _⟩ := h
 exact ⟨es, c, h1⟩
theorem SeenAt.look {w : World} {b : Nat} {S : List Int} (h : SeenAt w b S) (x : Int) (hx : (Lit.int .i64 x).wf = true) : (Instr.lookup 84 (.map (some b)) (.int .i64 x) false).run Try.prog w = .ok (.bool (S.contains x)) w := by
 obtain ⟨n, D, h1, h2, _, h3⟩ := h
 obtain ⟨v, ps, hrun, hv⟩ := h1.lookup keys3 Try.underlying84 (zero4 w) (plainElem_bool Try.underlying4 false) (Maps.keyOf_int_mk Try.underlying3 hx)
 rw [h3 x hx] at hv
 rw [hrun]
 unfold plainElem at hv
 rw [Try.underlying4] at hv
 cases v <;> simp at hv
 obtain ⟨rfl, _⟩ := hv
 simp
theorem SeenAt.put {w : World} {b : Nat} {S : List Int} (h : SeenAt w b S) (hn : S.length < maxLen) (x : Int) (hx : (Lit.int .i64 x).wf = true) :
 ∃ w', (Instr.mapUpdate 84 (.map (some b)) (.int .i64 x) (.bool true)).run Try.prog w = .ok () w' /\ SeenAt w' b (S ++ [x]) /\ w.grownBy w' (some b) := by
 obtain ⟨n, D, h1, h2, hm, h3⟩ := h
 obtain ⟨w', hrun, h4, hg⟩ := h1.update keys3 Try.underlying84 (by omega) (Maps.keyOf_int_mk Try.underlying3 hx) (plainElem_bool Try.underlying4 true)
 refine ⟨w', hrun, ⟨n + 1, _, h4, by simp; omega, hm.put _ _, fun y hy => ?_⟩, hg⟩
 by_cases hyx : y = x
 · subst hyx
   rw [Maps.atKey_put_same hm (by simp [WideAt.IsKeyLit])]
   simp
 rw [Maps.atKey_put_other (by intro e; injection e with _ e; exact hyx e), h3 y hy]
 simp [hyx]
def app (ms : List (List Int)) (c x : Int) : List (List Int) := ms.set c.toNat (row ms c ++ [x])
def grp : Nat -> List Int -> Int -> List (List Int) -> Option (List (List Int))
 | 0, _, _, _ => none
 | k + 1, comp, v, ms =>
  if v < comp.length then
   if 0 <= rd comp v /\ rd comp v < ms.length /\ (row ms (rd comp v)).length < 17592186044415 then grp k comp (v + 1) (app ms (rd comp v) v) else none
  else some ms
structure US where
 opn : List Int
 users : List (List Int)
 seen : List Int
def link (c d : Int) (u : US) : US := { opn := u.opn.set c.toNat (wrap64 (rd u.opn c + 1)), users := app u.users d c, seen := u.seen ++ [d] }
def ed3 : Nat -> List Int -> Int -> List Int -> Int -> US -> Option US
 | 0, _, _, _, _, _ => none
 | k + 1, comp, c, l, i, u =>
  if i < l.length then
   if 0 <= rd l i /\ rd l i < comp.length /\ (Lit.int .i64 (rd comp (rd l i))).wf = true then
    if u.seen.contains (rd comp (rd l i)) = true then ed3 k comp c l (i + 1) u
    else if 0 <= c /\ c < u.opn.length /\ 0 <= rd comp (rd l i) /\ rd comp (rd l i) < u.users.length /\ (row u.users (rd comp (rd l i))).length < 17592186044415 /\ u.seen.length < 17592186044415 then
     ed3 k comp c l (i + 1) (link c (rd comp (rd l i)) u)
    else none
   else none
  else some u
def ed2 : Nat -> List (List Int) -> List Int -> Int -> List Int -> Int -> US -> Option US
 | 0, _, _, _, _, _, _ => none
 | k + 1, es, comp, c, l, i, u =>
  if i < l.length then
   if 0 <= rd l i /\ rd l i < es.length then (ed3 k comp c (row es (rd l i)) 0 u).bind fun u1 => ed2 k es comp c l (i + 1) u1 else none
  else some u
def ed1 : Nat -> List (List Int) -> List Int -> List (List Int) -> Int -> US -> Option US
 | 0, _, _, _, _, _ => none
 | k + 1, es, comp, ms, c, u =>
  if c < ms.length then
   if (Lit.int .i64 c).wf = true then (ed2 k es comp c (row ms c) 0 { u with seen := [c] }).bind fun u1 => ed1 k es comp ms (c + 1) u1 else none
  else some u
def starts : Nat -> List (List Int) -> Int -> Int -> List Int -> List Int -> Option (List Int)
 | 0, _, _, _, _, _ => none
 | k + 1, ms, n, c, opn, ready =>
  if c < n then
   if 0 <= c /\ c < opn.length then
    if rd opn c = 0 then (enterF ms c ready).bind fun r => starts k ms n (c + 1) opn r else starts k ms n (c + 1) opn ready
   else none
  else some ready
def dec : Nat -> List (List Int) -> List Int -> Int -> List Int -> List Int -> Option (List Int × List Int)
 | 0, _, _, _, _, _ => none
 | k + 1, ms, l, i, opn, ready =>
  if i < l.length then
   if 0 <= rd l i /\ rd l i < opn.length then
    if rd (opn.set (rd l i).toNat (wrap64 (rd opn (rd l i) - 1))) (rd l i) = 0 then
     (enterF ms (rd l i) ready).bind fun r => dec k ms l (i + 1) (opn.set (rd l i).toNat (wrap64 (rd opn (rd l i) - 1))) r
    else dec k ms l (i + 1) (opn.set (rd l i).toNat (wrap64 (rd opn (rd l i) - 1))) ready
   else none
  else some (opn, ready)
def drain : Nat -> List (List Int) -> List (List Int) -> List Int -> List Int -> List (List Int) -> Option (List (List Int))
 | 0, _, _, _, _, _ => none
 | k + 1, ms, users, opn, ready, out =>
  if 0 < ready.length then
   if 0 <= rd ready 0 /\ rd ready 0 < ms.length /\ rd ready 0 < users.length /\ out.length < 5864062014805 then
    (dec k ms (row users (rd ready 0)) 0 opn (ready.drop 1)).bind fun p => drain k ms users p.1 p.2 (out ++ [row ms (rd ready 0)])
   else none
  else some out
def orderedF (k : Nat) (es : List (List Int)) : Option (List (List Int)) :=
 (strongF k es).bind fun p =>
  if 0 <= p.2 /\ p.2 < 5864062014805 then
   (grp k p.1 0 (List.replicate p.2.toNat [])).bind fun ms =>
    (ed1 k es p.1 ms 0 { opn := List.replicate p.2.toNat 0, users := List.replicate p.2.toNat [], seen := [] }).bind fun u =>
     (starts k ms p.2 0 u.opn []).bind fun ready => drain k ms u.users u.opn ready []
  else none
end Od
end Go.Proofs.Ytmadhaccjmakdaa
namespace Go.Proofs.Ytmadhaccjmakdaa
open Go.RowKit Go.Proofs.Yw.A Go.Proofs.Yw.B Go.Proofs.Yw.C Go.Proofs.Ytmadhaccjmakdaa.P
namespace Tj
attribute [local go_sem] max2_int min2_int max_two min_two max_three min_three max_four min_four
theorem visit_step (X : Cx) (o : X.Ok) (k : Nat) (ih : Az (∀ k1, k1 < k -> ∀ (v : Int) (st st' : TS), visit k1 X.es v st = some st' -> ∀ w, Inv X st w -> Calls Try.prog 61 #[.int .i64 v, P1 X.bc, P1 X.bi, P1 X.bl, P1 X.bs, P1 X.be, P1 X.bv, P1 X.bp, P1 X.bm] w fun e w' => e = .returned (.tuple #[]) /\ Inv X st' w')) (v : Int) (st st' : TS) (w : World) (I : Inv X st w) (h : visit (k + 1) X.es v st = some st') :
    Calls Try.prog 61 #[.int .i64 v, P1 X.bc, P1 X.bi, P1 X.bl, P1 X.bs, P1 X.be, P1 X.bv, P1 X.bp, P1 X.bm] w fun e w' => e = .returned (.tuple #[]) /\ Inv X st' w' := by
  have H : (if 0 <= v /\ v < X.es.length /\ st.stack.length < 17592186044415 then each k X.es v (row X.es v) 0 (enter v st) else none) = some st' := by rw [<- h, visit]
  clear h
  by_cases hv : 0 <= v /\ v < X.es.length /\ st.stack.length < 17592186044415
  case neg => rw [if_neg hv] at H; cases H
  rw [if_pos hv] at H
  obtain ⟨hv0, hv1, hv2⟩ := hv
  have H' := Az.mk H
  clear H
  have J := Az.mk I
  have O := Az.mk o
  clear o
  have c1 := cell_of_one I.kc
  have f1 := free_of_one I.kc
  clear I
  go_enter Try.func61, Try.ntmps61
  go_wp2_with fail
  have J1 := Az.mk (J.1.setCount O.1 (wrap64 (st.count + 1)))
  clear J c1 f1
  generalize w.setCell ⟨X.bc, 0, none⟩ (.int .i64 (wrap64 (st.count + 1))) = w1 at J1 ⊢
  generalize hst1 : ({ st with count := wrap64 (st.count + 1) } : TS) = st1 at J1
  have N1 := Az.mk hst1
  clear hst1
  have c1 := cell_of_one J1.1.kc
  have c2 := cell_of_one J1.1.ki
  have c3 := cell_of_one J1.1.kl
  have c4 := arr_cell J1.1.ai v hv0 (by rw [J1.1.li]; exact hv1)
  have c5 := arr_cell J1.1.al v hv0 (by rw [J1.1.ll]; exact hv1)
  have f4 := arr_free J1.1.ai v.toNat
  have f5 := arr_free J1.1.al v.toNat
  have n1 : X.bc ≠ X.ai := O.1.t1.2.1
  have n2 : X.bl ≠ X.ai := blk_ne J1.1.kl J1.1.ai (by decide)
  have n3 : X.bc ≠ X.al := O.1.t1.2.2.1
  have n4 : X.bi ≠ X.al := blk_ne J1.1.ki J1.1.al (by decide)
  have n5 : X.al ≠ X.ai := O.1.t1.2.2.2.2.2.2.2.1.symm
  go_region
  go_upto_region 2 with fail
  have J2 := Az.mk ((J1.1.setIndex O.1 v.toNat st1.count).setLow O.1 v.toNat st1.count).drew
  clear J1 c1 c2 c3 c4 c5 f4 f5 n1 n2 n3 n4 n5
  generalize ((w1.setCell ⟨X.ai, v.toNat, none⟩ (.int .i64 st1.count)).setCell ⟨X.al, v.toNat, none⟩ (.int .i64 st1.count)).drew = w2 at J2 ⊢
  generalize hst2 : ({ st1 with index := st1.index.set v.toNat st1.count, low := st1.low.set v.toNat st1.count } : TS) = st2 at J2
  have N2 := Az.mk hst2
  clear hst2
  obtain ⟨vs, k1, k2⟩ := J2.1.ks
  have c1 := cell_of_one k1
  have f1 := free_of_one k1
  have K2 := Az.mk k2
  have S2 := Az.mk k1
  clear k1 k2
  go_wp2_with (first | ((with_reducible refine gate_builtin (b := .append) (xs := #[.tmp 23, .tmp 25]) rfl ?_); at_builtin; refine Kd.R_append (Kd.int .i64) (w0 := X.w0) X.w0.heap.size rfl (.tmp 23) (.tmp 25) 55 3 (.int .i64 0) 8 rfl Try.underlying55 info3 rfl (by decide) (by omega) vs st2.stack v [.int .i64 v] X.ok (fun _ => False) rfl rfl ?aP (fun _ hk => hk.elim) ?aF K2.1 J2.1.hB ?aS ?aL ?_) | fail)
  (case aP => exact rfl)
  (case aF => intro g hg; exact ⟨by have := blk_lt J2.1.kc; omega, by have := blk_lt J2.1.km; omega, by have := blk_lt J2.1.ai; omega, by have := blk_lt J2.1.al; omega, by have := blk_lt J2.1.ap; omega⟩)
  (case aS => exact J2.1.hB.size)
  (case aL => have e1 : st2.stack = st.stack := by rw [<- N2.1, <- N1.1]
              rw [e1]; omega)
  intro v1 w3 ho hb hg hat
  obtain ⟨A1, q1, rfl⟩ := Kd.R_slice ho
  have f3 := free_of_one (blk_grown S2.1 hg (Kd.R_ne K2.1 S2.1 (by decide)))
  have c3 := cell_of_one (blk_grown S2.1 hg (Kd.R_ne K2.1 S2.1 (by decide)))
  clear c1 f1 S2
  have Ho := Az.mk ho
  have Hb := Az.mk hb
  have Hg := Az.mk hg
  clear ho hb hg hat
  go_upto_region 3 with fail
  have J3 := Az.mk (J2.1.setStack O.1 Hg.1 Hb.1 (fun g hh => ⟨K2.1.1 g hh, (by obtain ⟨inner, hi⟩ := Kd.R_own K2.1; exact own_typed hi g hh)⟩) Ho.1)
  clear f3 c3 J2 K2 Ho Hb Hg
  have e3 : ({ st2 with stack := st2.stack ++ [v] } : TS) = enter v st := by rw [<- N2.1, <- N1.1]; rfl
  have e4 : (st2.stack ++ [v]).length = st2.stack.length + 1 := by simp
  rw [e3, e4] at J3
  (try rw [e4])
  clear e3 e4 N1 N2
  generalize w3.setCell ⟨X.bs, 0, none⟩ (.slice A1 (st2.stack.length + 1) q1) = w4 at J3 ⊢
  generalize hst3 : enter v st = st3 at J3 H'
  clear hst3
  have c1 := cell_of_one J3.1.ke
  obtain ⟨ad, A0, c0, eA, hx, hl0, hi0⟩ := at_L11 J3.1.hE v hv0 hv1
  have hx1 := (J3.1.hB.cell (World.block_lt_of_cell? _ _ hx)).trans hx
  rw [eA] at c1
  have hI0 := Az.mk hi0
  clear hx hl0 hi0 eA
  have q1 := eq_true hv0
  have q2 := eq_true hv1
  go_wp2_with fail
  have el : rd_L11 X.es v = row X.es v := rfl
  rw [el] at hI0 ⊢
  have hm : (row X.es v).length <= 9223372036854775807 := hI0.1.2.1
  go_loopg [32] k (fun kq v32 w' => ∃ (i : Int) (s : TS), v32 = .int .i64 i /\ Az (0 <= i) /\ Az (each kq X.es v (row X.es v) i s = some st') /\ Az (kq <= k) /\ Az (Inv X s w'))
  case atStart => exact ⟨0, st3, rfl, ⟨by omega⟩, H', ⟨Nat.le_refl _⟩, J3⟩
  case round => as_aux_lemma =>
    clear H' J3 c1 hx1
    obtain ⟨i, s, rfl, HI, HA, HK1, J⟩ := hrel
    cases gk with
    | zero => exact absurd HA.1 (by simp [each])
    | succ k1 =>
      have H := HA.1
      clear HA
      rw [each] at H
      by_cases ci : i < (row X.es v).length
      · rw [if_pos ci] at H
        have cb : decide (i < ((row X.es v).length : Int)) = true := decide_eq_true ci
        by_cases cr : 0 <= rd (row X.es v) i /\ rd (row X.es v) i < X.es.length
        case neg => rw [if_neg cr] at H; cases H
        rw [if_pos cr] at H
        obtain ⟨cr0, cr1⟩ := cr
        obtain ⟨ad2, e2, hx2⟩ := Kd.at_int hI0.1 i HI.1 ci
        cases e2
        have hx3 := (J.1.hB.cell (World.block_lt_of_cell? _ _ hx2)).trans hx2
        clear hx2
        have c2 := cell_of_one J.1.ki
        have hi0 := HI.1
        generalize rd (row X.es v) i = x at H cr0 cr1 hx3
        have c3 := arr_cell J.1.ai x cr0 (by rw [J.1.li]; exact cr1)
        have q3 := eq_true cr0
        have q4 := eq_true cr1
        have q5 := eq_true hi0
        have q6 := eq_true ci
        by_cases cz : rd s.index x = 0
        · as_aux_lemma =>
          rw [if_pos cz] at H
          obtain ⟨s1, hs1, H⟩ := Option.bind_eq_some_iff.1 H
          have Hs1 := Az.mk hs1
          have H' := Az.mk H
          clear hs1 H
          have cz1 : (rd s.index x == 0) = true := beq_iff_eq.2 cz
          clear cz
          have c5 := cell_of_one J.1.kv
          go_wp2_with (go_at_call 61; refine (ih.1 k1 (by have := HK1.1; omega) x s s1 Hs1.1 _ J.1).mono ?_; clear c2 c3 c5 hx3; rintro e w5 ⟨rfl, hI⟩; have J5 := Az.mk hI; clear hI)
          have c6 := cell_of_one J5.1.kl
          have c7 := arr_cell J5.1.al v hv0 (by rw [J5.1.ll]; exact hv1)
          have c8 := arr_cell J5.1.al x cr0 (by rw [J5.1.ll]; exact cr1)
          have f6 := arr_free J5.1.al v.toNat
          have key : ∀ y : Int, y = mn (rd s1.low v) (rd s1.low x) -> Az (Inv X (lower v (rd s1.low x) s1) ((w5.setCell ⟨X.al, v.toNat, none⟩ (.int .i64 y)).drew)) := by
            rintro y rfl
            exact ⟨(J5.1.setLow O.1 v.toNat _).drew⟩
          have KEY := Az.mk key
          clear key
          go_region
          all_goals (try go_wp2_with fail)
          all_goals as_aux_lemma =>
            first
            | (have J6 := KEY.1 (rd s1.low v) (by unfold mn; rw [if_neg (by omega)])
               generalize (w5.setCell ⟨X.al, v.toNat, none⟩ (.int .i64 (rd s1.low v))).drew = w6 at J6 ⊢
               clear KEY
               go_roundg k1
               case measure => have := HK1.1; omega
               case rel => exact ⟨i + 1, _, rfl, ⟨by omega⟩, H', ⟨by have := HK1.1; omega⟩, J6⟩)
            | (have J6 := KEY.1 (rd s1.low x) (by unfold mn; rw [if_pos (by omega)])
               generalize (w5.setCell ⟨X.al, v.toNat, none⟩ (.int .i64 (rd s1.low x))).drew = w6 at J6 ⊢
               clear KEY
               go_roundg k1
               case measure => have := HK1.1; omega
               case rel => exact ⟨i + 1, _, rfl, ⟨by omega⟩, H', ⟨by have := HK1.1; omega⟩, J6⟩)
        · as_aux_lemma =>
          rw [if_neg cz] at H
          have cz1 : (rd s.index x == 0) = false := beq_eq_false_iff_ne.2 cz
          clear cz
          have c9 := cell_of_one J.1.kp
          have c10 := arr_cell J.1.ap x cr0 (by rw [J.1.lp]; exact cr1)
          by_cases cn : rd s.comp x < 0
          · as_aux_lemma =>
            rw [if_pos cn] at H
            have H' := Az.mk H
            clear H
            have cn1 : decide (rd s.comp x < 0) = true := decide_eq_true cn
            clear cn
            go_wp2_with fail
            have c6 := cell_of_one J.1.kl
            have c7 := arr_cell J.1.al v hv0 (by rw [J.1.ll]; exact hv1)
            have f6 := arr_free J.1.al v.toNat
            have key : ∀ y : Int, y = mn (rd s.low v) (rd s.index x) -> Az (Inv X (lower v (rd s.index x) s) ((wr.setCell ⟨X.al, v.toNat, none⟩ (.int .i64 y)).drew)) := by
              rintro y rfl
              exact ⟨(J.1.setLow O.1 v.toNat _).drew⟩
            have KEY := Az.mk key
            clear key
            go_region
            all_goals (try go_wp2_with fail)
            all_goals as_aux_lemma =>
              first
              | (have J6 := KEY.1 (rd s.low v) (by unfold mn; rw [if_neg (by omega)])
                 generalize (wr.setCell ⟨X.al, v.toNat, none⟩ (.int .i64 (rd s.low v))).drew = w6 at J6 ⊢
                 clear KEY
                 go_roundg k1
                 case measure => have := HK1.1; omega
                 case rel => exact ⟨i + 1, _, rfl, ⟨by omega⟩, H', ⟨by have := HK1.1; omega⟩, J6⟩)
              | (have J6 := KEY.1 (rd s.index x) (by unfold mn; rw [if_pos (by omega)])
                 generalize (wr.setCell ⟨X.al, v.toNat, none⟩ (.int .i64 (rd s.index x))).drew = w6 at J6 ⊢
                 clear KEY
                 go_roundg k1
                 case measure => have := HK1.1; omega
                 case rel => exact ⟨i + 1, _, rfl, ⟨by omega⟩, H', ⟨by have := HK1.1; omega⟩, J6⟩)
          · as_aux_lemma =>
            rw [if_neg cn] at H
            have H' := Az.mk H
            clear H
            have cn1 : decide (rd s.comp x < 0) = false := decide_eq_false cn
            clear cn
            go_wp2_with fail
            go_roundg k1
            case measure => have := HK1.1; omega
            case rel => exact ⟨i + 1, _, rfl, ⟨by omega⟩, H', ⟨by have := HK1.1; omega⟩, J⟩
      · as_aux_lemma =>
        rw [if_neg ci] at H
        have cb : decide (i < ((row X.es v).length : Int)) = false := decide_eq_false ci
        have c2 := cell_of_one J.1.ki
        have c3 := cell_of_one J.1.kl
        have c4 := arr_cell J.1.ai v hv0 (by rw [J.1.li]; exact hv1)
        have c5 := arr_cell J.1.al v hv0 (by rw [J.1.ll]; exact hv1)
        by_cases ce : rd s.low v = rd s.index v
        case neg =>
          rw [if_neg ce] at H
          have H' := Az.mk H
          clear H
          have ce1 : (rd s.low v != rd s.index v) = true := bne_iff_ne.2 ce
          clear ce
          go_wp2_with fail
          go_region
          go_wp2_with fail
          refine bodyPost_ret (v := .tuple #[]) (by simp [results, Try.results61, go_sem]) rfl ⟨rfl, ?_⟩
          cases H'.1
          exact J.1.drew
        rw [if_pos ce] at H
        have H' := Az.mk H
        clear H
        have ce1 : (rd s.low v != rd s.index v) = false := bne_eq_false_iff_eq.2 ce
        clear ce
        go_wp2_with fail
        go_region
        go_wp2_with fail
        have J7 := Az.mk J.1.drew
        clear J c2 c3 c4 c5
        go_loopg [12] k1 (fun kq v12 w' => ∃ s : TS, Az (pop kq v s = some st') /\ Az (Inv X s w'))
        case atStart => exact ⟨s, H', J7⟩
        case round => as_aux_lemma =>
          clear H' J7
          obtain ⟨s2, HA, J⟩ := hrel
          cases gk with
          | zero => exact absurd HA.1 (by simp [pop])
          | succ k2 =>
            have H := HA.1
            clear HA
            rw [pop] at H
            by_cases cl : 0 < s2.stack.length
            case neg => rw [if_neg cl] at H; cases H
            rw [if_pos cl] at H
            obtain ⟨vs2, g1, g2⟩ := J.1.ks
            obtain ⟨A2, q2c, rfl, hle, hC⟩ := Kd.R_reads g2
            obtain ⟨ad3, e3, hx4⟩ := Kd.at_int hC ((s2.stack.length : Int) - 1) (by omega) (by omega)
            subst e3
            have e6 : ((s2.stack.length : Int) - 1).toNat = s2.stack.length - 1 := by omega
            rw [e6] at hx4
            generalize hgx : rd s2.stack ((s2.stack.length : Int) - 1) = x at H hx4
            clear hgx e6
            by_cases cx : 0 <= x /\ x < s2.comp.length
            case neg => rw [if_neg cx] at H; cases H
            rw [if_pos cx] at H
            obtain ⟨cx0, cx1⟩ := cx
            have H2 := Az.mk H
            clear H
            have c6 := cell_of_one g1
            have f6 := free_of_one g1
            have hm2 : s2.stack.length <= 9223372036854775807 := hC.2.1
            have qa : (0 <= (s2.stack.length : Int) - 1) = True := eq_true (by omega)
            have qb : ((s2.stack.length : Int) - 1 < (s2.stack.length : Int)) = True := eq_true (by omega)
            go_upto_region 14 with fail
            obtain ⟨i0, hi0, _, hsz, _⟩ := info_parts info3
            have hcut := cut_to (P := Try.prog) 55 3 .i64 Try.underlying55 hi0 (some ad3) s2.stack.length q2c ((s2.stack.length : Int) - 1) (by omega) (by omega) hle
            have e6 : ((s2.stack.length : Int) - 1).toNat = s2.stack.length - 1 := by omega
            rw [e6] at hcut
            have G2 := Az.mk (Kd.R_take (m := s2.stack.length - 1) g2 (by omega))
            clear hi0 hsz e6 g2 hx4
            have hl3 : (s2.stack.take (s2.stack.length - 1)).length = s2.stack.length - 1 := by rw [List.length_take]; omega
            go_upto_region 15 with fail
            have J8 := Az.mk (J.1.setStack O.1 (World.grownBy.refl _ none) J.1.hB (fun g hh => by cases hh) G2.1)
            generalize wr.setCell ⟨X.bs, 0, none⟩ (.slice (some ad3) (s2.stack.length - 1) q2c) = w8 at J8 ⊢
            clear c6 f6 hcut G2 g1
            have c7 := cell_of_one J8.1.kp
            have c8 := cell_of_one J8.1.km
            have c9 := arr_cell J8.1.ap x cx0 (by exact cx1)
            have f9 := arr_free J8.1.ap x.toNat
            have e9 : s2.comp.length = X.es.length := J.1.lp
            have qc : (0 <= x) = True := eq_true cx0
            have qd : (x < (X.es.length : Int)) = True := eq_true (by omega)
            clear e9
            go_upto_region 16 with fail
            have J9 := Az.mk (J8.1.setComp O.1 x.toNat s2.comps)
            clear c7 c8 c9 f9 J8
            generalize w8.setCell ⟨X.ap, x.toNat, none⟩ (.int .i64 s2.comps) = w9 at J9 ⊢
            by_cases cv : x = v
            · have cv1 : (x == v) = true := beq_iff_eq.2 cv
              have H3 := H2.1
              rw [if_pos cv] at H3
              have H4 := Az.mk H3
              clear H3 H2 cv
              have c8 := cell_of_one J9.1.km
              have f8 := free_of_one J9.1.km
              go_wp2_with fail
              have J10 := Az.mk (J9.1.setComps O.1 (wrap64 (s2.comps + 1)))
              go_end0
              refine ⟨rfl, ?_⟩
              cases H4.1
              exact J10.1
            · have cv1 : (x == v) = false := beq_eq_false_iff_ne.2 cv
              have H3 := H2.1
              rw [if_neg cv] at H3
              have H4 := Az.mk H3
              clear H3 H2 cv
              go_wp2_with fail
              go_roundg k2
              case measure => omega
              case rel => exact ⟨_, H4, J9⟩
theorem visit_calls (X : Cx) (o : X.Ok) (k : Nat) : ∀ (v : Int) (st st' : TS), visit k X.es v st = some st' -> ∀ w, Inv X st w -> Calls Try.prog 61 #[.int .i64 v, P1 X.bc, P1 X.bi, P1 X.bl, P1 X.bs, P1 X.be, P1 X.bv, P1 X.bp, P1 X.bm] w fun e w' => e = .returned (.tuple #[]) /\ Inv X st' w' := by
  induction k using Nat.strongRecOn with
  | _ k ih =>
    intro v st st' h w I
    cases k with
    | zero => exact absurd h (by simp [visit])
    | succ k => exact visit_step X o k ⟨fun k1 h1 => ih k1 (by omega)⟩ v st st' w I h
end Tj
end Go.Proofs.Ytmadhaccjmakdaa
namespace Go.Proofs.Ytmadhaccjmakdaa
namespace Rg
variable {P : Program} {ops : Array Oper} {Q : Exit -> Act -> World -> Prop} {md : Region.Mode}
theorem getD_size {l : Array Bool} {i : Nat} (h : l.getD i true = false) : ∃ hi : i < l.size, l[i] = false := by
 rcases Nat.lt_or_ge i l.size with h1 | h1
 · exact ⟨h1, by simpa [h1] using h⟩
 · simp [Array.getElem?_eq_none h1] at h
theorem count_set {l : Array Bool} {i : Nat} (h : l.getD i true = false) : (l.setIfInBounds i true).toList.count false + 1 = l.toList.count false := by
 obtain ⟨hi, he⟩ := getD_size h
 rw [Array.toList_setIfInBounds, List.count_set (by simpa using hi)]
 have h1 : l.toList[i]'(by simpa using hi) = false := by simpa using he
 have h2 : 0 < l.toList.count false := List.count_pos_iff.2 (by rw [<- h1]; exact List.getElem_mem _)
 rw [h1, if_pos (by decide), if_neg (by decide)]
 omega
theorem any_inv (J : Array Bool -> Act -> World -> Prop)
 (hs : ∀ l a w i, l.size = ops.size -> i ∈ Region.ready md ops l -> J l a w -> wpOp P ops Q i (fun a' w' => J (l.setIfInBounds i true) a' w') a w)
 (he : ∀ l a w, l.size = ops.size -> Region.ready md ops l = [] -> J l a w -> Q .normal a w) :
 ∀ (fuel : Nat) (l : Array Bool) (a : Act) (w : World), l.size = ops.size -> l.toList.count false <= fuel -> J l a w -> wpAny P md ops Q fuel l a w := by
 intro fuel
 induction fuel with
 | zero =>
  intro l a w hsz hc hJ
  have hr : Region.ready md ops l = [] := by
   refine List.eq_nil_iff_forall_not_mem.2 fun j hj => ?_
   obtain ⟨h1, _⟩ := mem_ready.1 hj
   obtain ⟨hi, h2⟩ := getD_size h1
   have h3 : 0 < l.toList.count false := List.count_pos_iff.2 (by rw [<- h2]; exact Array.getElem_mem_toList hi)
   omega
  exact ⟨hr, he l a w hsz hr hJ⟩
 | succ fuel ih =>
  intro l a w hsz hc hJ
  refine ⟨fun hr => he l a w hsz hr hJ, fun i hi => ?_⟩
  refine wpOp_mono (fun a' w' h => ih _ a' w' (by simpa using hsz) ?_ h) (hs l a w i hsz hi hJ)
  have := count_set (mem_ready.1 hi).1
  omega
theorem region_inv {id : Nat} {a : Act} {w : World} (hm : P.follows .mixedOrders = true) (J : Array Bool -> Act -> World -> Prop)
 (h0 : J (Array.replicate ops.size false) a w.drew)
 (hs : ∀ l a w i, l.size = ops.size -> i ∈ Region.ready .any ops l -> J l a w -> wpOp P ops Q i (fun a' w' => J (l.setIfInBounds i true) a' w') a w)
 (he : ∀ l a w, l.size = ops.size -> Region.ready .any ops l = [] -> J l a w -> Q .normal a w) : (Code.region id ops true).wp P Q a w :=
 wp_region_any hm (any_inv J hs he ops.size _ a _ (by simp) (Nat.le_trans List.count_le_length (by simp)) h0)
def backB (ops : Array Oper) : Bool := (List.range ops.size).all fun j => match ops[j]? with
 | some o => o.after.all fun e => decide (e.on < j)
 | none => true
theorem all_listed (hb : backB ops = true) {l : Array Bool} (hsz : l.size = ops.size) (hr : Region.ready md ops l = []) : ∀ i, i < ops.size -> l.getD i true = true := by
 intro i
 induction i using Nat.strongRecOn with
 | _ i ih =>
  intro hi
  cases hl : l.getD i true with
  | true => rfl
  | false =>
   have h1 := List.all_eq_true.1 hb i (List.mem_range.2 hi)
   rw [Array.getElem?_eq_getElem hi] at h1
   have h2 : i ∈ Region.ready md ops l := by
    refine mem_ready.2 ⟨hl, _, Array.getElem?_eq_getElem hi, fun e he _ => ?_⟩
    have h3 := of_decide_eq_true (Array.all_eq_true_iff_forall_mem.1 h1 e he)
    have h4 := ih e.on h3 (by omega)
    have h5 : e.on < l.size := by omega
    simpa [h5] using h4
   rw [hr] at h2
   cases h2
theorem up_of {l : Array Bool} {i : Nat} (h : l.getD i true = false) : l.getD i false = false := by
 obtain ⟨hi, he⟩ := getD_size h
 simpa [hi] using he
theorem up_ne {l : Array Bool} {i j : Nat} (h : i ≠ j) : (l.setIfInBounds i true).getD j false = l.getD j false := getD_set_ne false h
theorem up_eq {l : Array Bool} {i : Nat} (h : i < l.size) : (l.setIfInBounds i true).getD i false = true := by simp [h]
theorem none_up {m i : Nat} (h : (Array.replicate m false).getD i false = true) : False := by
 rw [Array.getD_eq_getD_getElem?, Array.getElem?_replicate] at h
 split at h <;> cases h
theorem op_of {i : Nat} {o : Oper} {K : Act -> World -> Prop} {a : Act} {w : World} (ho : ops[i]? = some o) (h : if Region.wanted o (yielded ops a.tmps) = true then Oper.wp P o a w K Q else K (a.put o.dst undef) w) : wpOp P ops Q i K a w := by
 unfold wpOp
 rw [ho]
 split at h
 · rename_i hw
   simp only [hw, if_true]
   exact .inl h
 · rename_i hw
   simp only [hw]
   exact h
theorem op_val {i : Nat} {o : Oper} {K : Act -> World -> Prop} {a : Act} {w w1 : World} {v : Value} (ho : ops[i]? = some o) (hg : o.guard = none) (hrun : (execOp a.eval o).run P w = .ok (.value v) w1) (h : K (a.put o.dst v) w1) : wpOp P ops Q i K a w := by
 refine op_of ho ?_
 have hw : Region.wanted o (yielded ops a.tmps) = true := by simp [Region.wanted, hg]
 rw [if_pos hw]
 unfold Oper.wp
 rw [hrun]
 exact h
theorem op_skip {i : Nat} {o : Oper} {K : Act -> World -> Prop} {a : Act} {w w1 : World} (ho : ops[i]? = some o) (hg : o.guard = none) (hd : o.dst = none) (hrun : (execOp a.eval o).run P w = .ok .skip w1) (h : K a w1) : wpOp P ops Q i K a w := by
 refine op_of ho ?_
 have hw : Region.wanted o (yielded ops a.tmps) = true := by simp [Region.wanted, hg]
 rw [if_pos hw]
 unfold Oper.wp
 rw [hrun]
 show K (a.put o.dst undef) w1
 rw [hd]
 exact h
end Rg
end Go.Proofs.Ytmadhaccjmakdaa
namespace Go.Proofs.Ytmadhaccjmakdaa
open Go.RowKit Go.Proofs.Yw.A Go.Proofs.Yw.B Go.Proofs.Yw.C Go.Proofs.Ytmadhaccjmakdaa.P
namespace Tj
abbrev sl (n g : Nat) : Value := .slice (some ⟨g, 0, none⟩) n n
def up (l : Array Bool) (i : Nat) (v : Value) : Value := if l.getD i false = true then v else undef
def Fr (A : Option Addr) (c n be : Nat) (M : Nat -> Nat) (l : Array Bool) : Act :=
  { tmps := #[.slice A n c, P1 be, .slice none 0 0, .int .i64 0, .int .i64 n, up l 6 (P1 (M 6)), up l 7 (P1 (M 7)), up l 8 (P1 (M 8)), undef, undef, undef, undef, undef, undef, .slice A n c, .int .i64 n,
      up l 0 (.int .i64 n), up l 1 (sl n (M 1)), up l 2 (.int .i64 n), up l 3 (sl n (M 3)), up l 4 (.int .i64 n), up l 5 (sl n (M 5)),
      undef, undef, undef, undef, undef, undef, undef, undef, undef, undef, undef, undef, undef, undef, undef, undef, undef, undef, undef, undef, undef, undef, undef, undef, undef], defers := [] }
def held (l : Array Bool) (n i : Nat) (g : Nat) : Value := if l.getD i false = true then sl n g else .slice none 0 0
def cont (n : Nat) (M : Nat -> Nat) (l : Array Bool) : Nat -> Obj
  | 6 => .cells #[held l n 9 (M 1)] 55 (0, 0)
  | 7 => .cells #[held l n 10 (M 3)] 55 (0, 0)
  | 8 => .cells #[held l n 11 (M 5)] 55 (0, 0)
  | _ => arr (List.replicate n 0)
def mk6 : List Nat := [1, 3, 5, 6, 7, 8]
def J2 (A : Option Addr) (c n be : Nat) (wb : World) (l : Array Bool) (a : Act) (w : World) : Prop :=
  ∃ M : Nat -> Nat, a = Fr A c n be M l /\ Below wb.heap.size wb w /\
    (∀ i, i ∈ mk6 -> l.getD i false = true -> wb.heap.size <= M i /\ w.heap[M i]? = some (cont n M l i)) /\
    (∀ i j, i ∈ mk6 -> j ∈ mk6 -> i ≠ j -> l.getD i false = true -> l.getD j false = true -> M i ≠ M j) /\
    (l.getD 9 false = true -> l.getD 6 false = true /\ l.getD 1 false = true) /\ (l.getD 10 false = true -> l.getD 7 false = true /\ l.getD 3 false = true) /\ (l.getD 11 false = true -> l.getD 8 false = true /\ l.getD 5 false = true)
theorem J2.move {A : Option Addr} {c n be : Nat} {wb w : World} {l : Array Bool} {a : Act} (h : J2 A c n be wb l a w) (hsz : l.size = 12) (i d : Nat) (hi : i = 0 /\ d = 16 \/ i = 2 /\ d = 18 \/ i = 4 /\ d = 20) :
    J2 A c n be wb (l.setIfInBounds i true) (a.put (some d) (.int .i64 n)) w := by
  obtain ⟨M, rfl, hb, hm, hd, h9, h10, h11⟩ := h
  have hne : ∀ j, j ≠ 0 -> j ≠ 2 -> j ≠ 4 -> (l.setIfInBounds i true).getD j false = l.getD j false := fun j a0 a2 a4 => Rg.up_ne (by omega)
  have hc : ∀ j, j ∈ mk6 -> cont n M (l.setIfInBounds i true) j = cont n M l j := by
    intro j hj
    simp only [mk6, List.mem_cons, List.not_mem_nil, or_false] at hj
    rcases hj with rfl | rfl | rfl | rfl | rfl | rfl <;> simp only [cont, held] <;> rw [hne _ (by decide) (by decide) (by decide)]
  have hk : ∀ j, j ∈ mk6 -> (l.setIfInBounds i true).getD j false = l.getD j false := by
    intro j hj
    simp only [mk6, List.mem_cons, List.not_mem_nil, or_false] at hj
    exact hne j (by omega) (by omega) (by omega)
  refine ⟨M, ?_, hb, fun j hj hl => ?_, fun j j' hj hj' hne' hl hl' => hd j j' hj hj' hne' (by rw [<- hk j hj]; exact hl) (by rw [<- hk j' hj']; exact hl'), ?_, ?_, ?_⟩
  · have h1 := hne 1 (by decide) (by decide) (by decide)
    have h3 := hne 3 (by decide) (by decide) (by decide)
    have h5 := hne 5 (by decide) (by decide) (by decide)
    have h6 := hne 6 (by decide) (by decide) (by decide)
    have h7 := hne 7 (by decide) (by decide) (by decide)
    have h8 := hne 8 (by decide) (by decide) (by decide)
    rcases hi with ⟨rfl, rfl⟩ | ⟨rfl, rfl⟩ | ⟨rfl, rfl⟩
    · have e0 := Rg.up_eq (l := l) (i := 0) (by omega)
      have e2 : (l.setIfInBounds 0 true).getD 2 false = _ := Rg.up_ne (by decide)
      have e4 : (l.setIfInBounds 0 true).getD 4 false = _ := Rg.up_ne (by decide)
      simp only [Fr, up, Act.put, h1, h3, h5, h6, h7, h8, e0, e2, e4, if_true]
      rfl
    · have e0 := Rg.up_eq (l := l) (i := 2) (by omega)
      have e2 : (l.setIfInBounds 2 true).getD 0 false = _ := Rg.up_ne (by decide)
      have e4 : (l.setIfInBounds 2 true).getD 4 false = _ := Rg.up_ne (by decide)
      simp only [Fr, up, Act.put, h1, h3, h5, h6, h7, h8, e0, e2, e4, if_true]
      rfl
    · have e0 := Rg.up_eq (l := l) (i := 4) (by omega)
      have e2 : (l.setIfInBounds 4 true).getD 0 false = _ := Rg.up_ne (by decide)
      have e4 : (l.setIfInBounds 4 true).getD 2 false = _ := Rg.up_ne (by decide)
      simp only [Fr, up, Act.put, h1, h3, h5, h6, h7, h8, e0, e2, e4, if_true]
      rfl
  · rw [hc j hj]
    exact hm j hj (by rw [<- hk j hj]; exact hl)
  · rw [hne 9 (by decide) (by decide) (by decide), hne 6 (by decide) (by decide) (by decide), hne 1 (by decide) (by decide) (by decide)]; exact h9
  · rw [hne 10 (by decide) (by decide) (by decide), hne 7 (by decide) (by decide) (by decide), hne 3 (by decide) (by decide) (by decide)]; exact h10
  · rw [hne 11 (by decide) (by decide) (by decide), hne 8 (by decide) (by decide) (by decide), hne 5 (by decide) (by decide) (by decide)]; exact h11
theorem J2.make {A : Option Addr} {c n be : Nat} {wb w : World} {l : Array Bool} {a : Act} (h : J2 A c n be wb l a w) (hsz : l.size = 12) (i d : Nat) (v : Value) (hl0 : l.getD i false = false)
    (hi : (i = 1 /\ d = 17 /\ v = sl n w.heap.size) \/ (i = 3 /\ d = 19 /\ v = sl n w.heap.size) \/ (i = 5 /\ d = 21 /\ v = sl n w.heap.size) \/ (i = 6 /\ d = 5 /\ v = P1 w.heap.size) \/ (i = 7 /\ d = 6 /\ v = P1 w.heap.size) \/ (i = 8 /\ d = 7 /\ v = P1 w.heap.size))
    {o : Obj} (ho : o = if i < 6 then arr (List.replicate n 0) else .cells #[.slice none 0 0] 55 (0, 0)) :
    J2 A c n be wb (l.setIfInBounds i true) (a.put (some d) v) (w.alloc o) := by
  obtain ⟨M, rfl, hb, hm, hd, h9, h10, h11⟩ := h
  have hne : ∀ j, j ≠ i -> (l.setIfInBounds i true).getD j false = l.getD j false := fun j a0 => Rg.up_ne (by omega)
  have he : (l.setIfInBounds i true).getD i false = true := Rg.up_eq (by omega)
  have hmi : i ∈ mk6 := by simp only [mk6, List.mem_cons, List.not_mem_nil, or_false]; omega
  have n9 : l.getD i false = true -> False := by rw [hl0]; exact fun h => by cases h
  refine ⟨fun j => if j = i then w.heap.size else M j, ?_, hb.alloc hb.size _, fun j hj hl => ?_, fun j j' hj hj' hn hl hl' => ?_, ?_, ?_, ?_⟩
  · have z : ∀ j, j ≠ i -> (if j = i then w.heap.size else M j) = M j := fun j hj => if_neg hj
    have hw : ∀ (j : Nat) (x : Nat -> Value), j ≠ i -> up (l.setIfInBounds i true) j (x (if j = i then w.heap.size else M j)) = up l j (x (M j)) := fun j x hj => by rw [z j hj]; unfold up; rw [hne j hj]
    rcases hi with ⟨rfl, rfl, rfl⟩ | ⟨rfl, rfl, rfl⟩ | ⟨rfl, rfl, rfl⟩ | ⟨rfl, rfl, rfl⟩ | ⟨rfl, rfl, rfl⟩ | ⟨rfl, rfl, rfl⟩ <;>
      simp (config := { decide := true }) only [Fr, up, Act.put, he, hne, ne_eq, if_true, if_false] <;> rfl
  · have hcont : ∀ j, j ∈ mk6 -> j ≠ i -> l.getD j false = true -> cont n (fun j => if j = i then w.heap.size else M j) (l.setIfInBounds i true) j = cont n M l j := by
      intro j hj hji hlj
      simp only [mk6, List.mem_cons, List.not_mem_nil, or_false] at hj
      have key : ∀ (s m : Nat), s ≠ i -> (l.getD s false = true -> l.getD m false = true) -> held (l.setIfInBounds i true) n s (if m = i then w.heap.size else M m) = held l n s (M m) := by
        intro s m hs hsm
        unfold held
        rw [hne s hs]
        cases hq : l.getD s false with
        | false => rfl
        | true =>
          have : m ≠ i := by rintro rfl; exact n9 (hsm hq)
          rw [if_neg this]
      have b9 : 9 ≠ i := by omega
      have b10 : 10 ≠ i := by omega
      have b11 : 11 ≠ i := by omega
      rcases hj with rfl | rfl | rfl | rfl | rfl | rfl
      · rfl
      · rfl
      · rfl
      · simp only [cont]; rw [key 9 1 b9 (fun h => (h9 h).2)]
      · simp only [cont]; rw [key 10 3 b10 (fun h => (h10 h).2)]
      · simp only [cont]; rw [key 11 5 b11 (fun h => (h11 h).2)]
    dsimp only
    by_cases hji : j = i
    · subst hji
      rw [if_pos rfl]
      refine ⟨hb.size, ?_⟩
      rw [blk_new, ho]
      congr 1
      have e9 : ∀ s, s ≠ j -> (l.getD s false = true -> l.getD j false = true) -> (l.setIfInBounds j true).getD s false = false := fun s hs hsj => by
        rw [hne s hs]
        cases hq : l.getD s false with
        | false => rfl
        | true => exact (n9 (hsj hq)).elim
      rcases hi with ⟨rfl, rfl, rfl⟩ | ⟨rfl, rfl, rfl⟩ | ⟨rfl, rfl, rfl⟩ | ⟨rfl, rfl, rfl⟩ | ⟨rfl, rfl, rfl⟩ | ⟨rfl, rfl, rfl⟩
      · rfl
      · rfl
      · rfl
      · rw [if_neg (by decide)]; simp only [cont, held]; rw [e9 9 (by decide) (fun h => (h9 h).1)]; rfl
      · rw [if_neg (by decide)]; simp only [cont, held]; rw [e9 10 (by decide) (fun h => (h10 h).1)]; rfl
      · rw [if_neg (by decide)]; simp only [cont, held]; rw [e9 11 (by decide) (fun h => (h11 h).1)]; rfl
    · rw [hne j hji] at hl
      obtain ⟨h1, h2⟩ := hm j hj hl
      rw [if_neg hji, hcont j hj hji hl]
      exact ⟨h1, blk_alloc h2 _⟩
  · have lt : ∀ j, j ∈ mk6 -> l.getD j false = true -> M j < w.heap.size := fun j hj hl => blk_lt (hm j hj hl).2
    dsimp only
    by_cases h1 : j = i
    · have h2 : j' ≠ i := by omega
      rw [hne j' h2] at hl'
      rw [if_pos h1, if_neg h2]
      have := lt j' hj' hl'
      omega
    · rw [hne j h1] at hl
      by_cases h2 : j' = i
      · rw [if_neg h1, if_pos h2]
        have := lt j hj hl
        omega
      · rw [hne j' h2] at hl'
        rw [if_neg h1, if_neg h2]
        exact hd j j' hj hj' hn hl hl'
  · intro h
    rw [hne 9 (by omega)] at h
    obtain ⟨a1, a2⟩ := h9 h
    exact ⟨by rw [hne 6 (by rintro rfl; exact n9 a1)]; exact a1, by rw [hne 1 (by rintro rfl; exact n9 a2)]; exact a2⟩
  · intro h
    rw [hne 10 (by omega)] at h
    obtain ⟨a1, a2⟩ := h10 h
    exact ⟨by rw [hne 7 (by rintro rfl; exact n9 a1)]; exact a1, by rw [hne 3 (by rintro rfl; exact n9 a2)]; exact a2⟩
  · intro h
    rw [hne 11 (by omega)] at h
    obtain ⟨a1, a2⟩ := h11 h
    exact ⟨by rw [hne 8 (by rintro rfl; exact n9 a1)]; exact a1, by rw [hne 5 (by rintro rfl; exact n9 a2)]; exact a2⟩
theorem J2.store {A : Option Addr} {c n be : Nat} {wb w : World} {l : Array Bool} {a : Act} (h : J2 A c n be wb l a w) (hsz : l.size = 12) (i p m : Nat)
    (hi : i = 9 /\ p = 6 /\ m = 1 \/ i = 10 /\ p = 7 /\ m = 3 \/ i = 11 /\ p = 8 /\ m = 5) (hp : l.getD p false = true) (hm1 : l.getD m false = true) :
    ∃ M : Nat -> Nat, a = Fr A c n be M l /\ w.heap[M p]? = some (cont n M l p) /\ J2 A c n be wb (l.setIfInBounds i true) a (w.setCell ⟨M p, 0, none⟩ (sl n (M m))) := by
  obtain ⟨M, rfl, hb, hm, hd, h9, h10, h11⟩ := h
  have hne : ∀ j, j ≠ i -> (l.setIfInBounds i true).getD j false = l.getD j false := fun j a0 => Rg.up_ne (by omega)
  have he : (l.setIfInBounds i true).getD i false = true := Rg.up_eq (by omega)
  have hpm : p ∈ mk6 := by simp only [mk6, List.mem_cons, List.not_mem_nil, or_false]; omega
  obtain ⟨b1, b2⟩ := hm p hpm hp
  refine ⟨M, rfl, b2, M, ?_, hb.setCell b1 _, fun j hj hl => ?_, fun j j' hj hj' hn hl hl' => ?_, ?_, ?_, ?_⟩
  · have q0 := hne 0 (by omega)
    have q1 := hne 1 (by omega)
    have q2 := hne 2 (by omega)
    have q3 := hne 3 (by omega)
    have q4 := hne 4 (by omega)
    have q5 := hne 5 (by omega)
    have q6 := hne 6 (by omega)
    have q7 := hne 7 (by omega)
    have q8 := hne 8 (by omega)
    simp only [Fr, up, q0, q1, q2, q3, q4, q5, q6, q7, q8]
  · have hji : j ≠ i := by simp only [mk6, List.mem_cons, List.not_mem_nil, or_false] at hj; omega
    rw [hne j hji] at hl
    obtain ⟨a1, a2⟩ := hm j hj hl
    refine ⟨a1, ?_⟩
    by_cases hjp : j = p
    · subst hjp
      rcases hi with ⟨rfl, rfl, rfl⟩ | ⟨rfl, rfl, rfl⟩ | ⟨rfl, rfl, rfl⟩ <;>
        (simp only [cont] at a2 ⊢; rw [one_setCell a2]; unfold held; rw [he]; rfl)
    · have hh : (w.setCell ⟨M p, 0, none⟩ (sl n (M m))).heap[M j]? = w.heap[M j]? := Below.heap_setCell _ _ _ _ (hd j p hj hpm hjp hl hp)
      rw [hh, a2]
      have hq : ∀ s x, s ≠ i -> held (l.setIfInBounds i true) n s x = held l n s x := fun s x hs => by unfold held; rw [hne s hs]
      simp only [mk6, List.mem_cons, List.not_mem_nil, or_false] at hj
      rcases hj with rfl | rfl | rfl | rfl | rfl | rfl
      · rfl
      · rfl
      · rfl
      · simp only [cont]; rw [hq 9 _ (by omega)]
      · simp only [cont]; rw [hq 10 _ (by omega)]
      · simp only [cont]; rw [hq 11 _ (by omega)]
  · have z : ∀ j, j ∈ mk6 -> j ≠ i := fun j hj => by simp only [mk6, List.mem_cons, List.not_mem_nil, or_false] at hj; omega
    rw [hne j (z j hj)] at hl
    rw [hne j' (z j' hj')] at hl'
    exact hd j j' hj hj' hn hl hl'
  all_goals
    intro h
    rw [hne _ (by omega), hne _ (by omega)]
    first
    | (by_cases hq : i = 9
       · obtain ⟨rfl, rfl⟩ : p = 6 /\ m = 1 := by omega
         first | exact ⟨hp, hm1⟩ | (rw [hne _ (by omega)] at h; first | exact h10 h | exact h11 h)
       · by_cases hq2 : i = 10
         · obtain ⟨rfl, rfl⟩ : p = 7 /\ m = 3 := by omega
           first | exact ⟨hp, hm1⟩ | (rw [hne _ (by omega)] at h; first | exact h9 h | exact h11 h)
         · obtain ⟨rfl, rfl⟩ : p = 8 /\ m = 5 := by omega
           first | exact ⟨hp, hm1⟩ | (rw [hne _ (by omega)] at h; first | exact h9 h | exact h10 h))
structure Pre (w0 : World) (A : Option Addr) (c n be bi bl bp ai al ap : Nat) (comp : List Int) (w : World) : Prop where
 hB : Below w0.heap.size w0 w
 ke : w.heap[be]? = some (.cells #[.slice A n c] 47 (0, 0))
 ki : w.heap[bi]? = some (.cells #[sl n ai] 55 (0, 0))
 kl : w.heap[bl]? = some (.cells #[sl n al] 55 (0, 0))
 kp : w.heap[bp]? = some (.cells #[sl n ap] 55 (0, 0))
 fi : w.heap[ai]? = some (arr (List.replicate n 0))
 fl : w.heap[al]? = some (arr (List.replicate n 0))
 fp : w.heap[ap]? = some (arr comp)
 lp : comp.length = n
 d : ai ≠ al /\ ai ≠ ap /\ al ≠ ap /\ bi ≠ bl /\ bi ≠ bp /\ bl ≠ bp
 b : w0.heap.size <= ai /\ w0.heap.size <= al /\ w0.heap.size <= ap
theorem Pre.setComp {w0 : World} {A : Option Addr} {c n be bi bl bp ai al ap : Nat} {comp : List Int} {w : World} (h : Pre w0 A c n be bi bl bp ai al ap comp w) (j : Nat) (x : Int) :
 Pre w0 A c n be bi bl bp ai al ap (comp.set j x) (w.setCell ⟨ap, j, none⟩ (.int .i64 x)) where
 hB := h.hB.setCell h.b.2.2 _
 ke := blk_far h.ke (blk_ne h.ke h.fp (by decide)) _
 ki := blk_far h.ki (blk_ne h.ki h.fp (by decide)) _
 kl := blk_far h.kl (blk_ne h.kl h.fp (by decide)) _
 kp := blk_far h.kp (blk_ne h.kp h.fp (by decide)) _
 fi := blk_far h.fi h.d.2.1 _
 fl := blk_far h.fl h.d.2.2.1 _
 fp := by unfold arr; rw [<- nums_set]; exact blk_set h.fp j _
 lp := by simpa using h.lp
 d := h.d
 b := h.b
theorem made_zeros (n : Nat) : Obj.cells (madeCells (Value.int IntKind.i64 0).cells ((n : Int).toNat * 1)) 3 (0, 0) = arr (List.replicate n 0) := by
 unfold arr madeCells nums
 congr 1
 rw [Int.toNat_natCast, Nat.mul_one]
 apply Array.ext
 · simp
 · intro i h1 h2
   simp [Value.cells, Nat.mod_one]
theorem arr_R {w : World} {base g : Nat} {xs : List Int} (h : w.heap[g]? = some (arr xs)) (hb : base <= g) (hm : xs.length <= maxLen) : Kd.R (Kd.int .i64) 3 w base (fun _ => True) (sl xs.length g) xs :=
 Kd.R_of_own ⟨by simp [encs], .inr ⟨g, xs.length, _, rfl, hb, h, Nat.le_refl _, hm, by simp [nums], by simp only [nums, encs, Nat.mul_one]; exact List.take_of_length_le (by simp)⟩⟩ (fun _ _ => trivial)
theorem strong_calls (k : Nat) (A : Option Addr) (c : Nat) (es : List (List Int)) (r1 : List Int) (r2 : Int) (w : World) (hr : Kd.C (Kd.slice 3 (Kd.int .i64)) w A es.length es) (hc : es.length <= c) (h : strongF k es = some (r1, r2)) :
 Calls Try.prog 50 #[.slice A es.length c] w fun e w' => ∃ v, e = .returned (.tuple #[v, .int .i64 r2]) /\ Kd.R (Kd.int .i64) 3 w' w.heap.size (fun _ => True) v r1 /\ Below w.heap.size w w' := by
 unfold strongF at h
 by_cases hn : es.length < 17592186044416
 case neg => rw [if_neg hn] at h; cases h
 rw [if_pos hn] at h
 obtain ⟨stf, hst, hrr⟩ := Option.map_eq_some_iff.1 h
 have HST := Az.mk hst
 have HRR := Az.mk hrr
 have HR := Az.mk hr
 clear h hst hrr hr
 generalize hN : es.length = n at *
 have HN := Az.mk hN
 clear hN
 go_enter Try.func50, Try.ntmps50
 go_wp2_with fail
 refine Rg.region_inv (by kernel_rfl) (J2 A c n w.heap.size (w.alloc (.cells #[.slice A n c] 47))) ?h0 ?hs ?he
 case h0 =>
  refine ⟨fun _ => 0, rfl, below_drew (Below.refl _ _), ?_, ?_, ?_, ?_, ?_⟩
  · intro i hi hl; exact (Rg.none_up hl).elim
  · intro i j hi hj hn hl; exact (Rg.none_up hl).elim
  all_goals (intro hl; exact (Rg.none_up hl).elim)
 case hs => as_aux_lemma =>
  generalize hw0 : w = w0
  clear hw0
  intro l a w i hsz hi hJ
  obtain ⟨hl, o, ho, hall⟩ := mem_ready.1 hi
  have hl0 := Rg.up_of hl
  match i, ho with
  | 0, ho =>
   simp at ho
   subst ho
   refine Rg.op_val (v := .int .i64 n) (w1 := w) rfl rfl ?_ (hJ.move hsz 0 16 (by omega))
   obtain ⟨M, rfl, -⟩ := hJ
   go_simp
   first | done | rfl
  | 1, ho =>
   simp at ho
   subst ho
   have hm := hall ⟨0, .data⟩ (by simp) (by rfl)
   refine Rg.op_val (v := sl n w.heap.size) (w1 := w.alloc (arr (List.replicate n 0))) rfl rfl ?_ (hJ.make hsz 1 17 _ hl0 (by simp) (by simp))
   obtain ⟨M, rfl, -⟩ := hJ
   have hm2 : (Fr A c n w0.heap.size M l).tmps[16]?.getD undef = .int .i64 n := by
    show up l 0 (.int .i64 n) = _
    unfold up
    rw [hm]
    rfl
   obtain ⟨i0, e0, e1, e2, e3⟩ := info_parts info3
   have hrun := run_make w 55 3 i0 _ Try.underlying55 e0 e1 .i64 .i64 n n (by omega) (by omega) (by rw [e3]; omega) (by omega)
   have hz : Obj.cells (madeCells (Value.int IntKind.i64 0).cells ((n : Int).toNat * i0.size)) 3 (0, 0) = arr (List.replicate n 0) := by rw [e2]; exact made_zeros n
   rw [hz] at hrun
   rw [Int.toNat_natCast] at hrun
   clear e0 e1 e2 e3 HST HRR HR hall hl hl0 hi
   go_simp
   first | done | rfl
  | 2, ho =>
   simp at ho
   subst ho
   refine Rg.op_val (v := .int .i64 n) (w1 := w) rfl rfl ?_ (hJ.move hsz 2 18 (by omega))
   obtain ⟨M, rfl, -⟩ := hJ
   go_simp
   first | done | rfl
  | 3, ho =>
   simp at ho
   subst ho
   have hm := hall ⟨2, .data⟩ (by simp) (by rfl)
   refine Rg.op_val (v := sl n w.heap.size) (w1 := w.alloc (arr (List.replicate n 0))) rfl rfl ?_ (hJ.make hsz 3 19 _ hl0 (by simp) (by simp))
   obtain ⟨M, rfl, -⟩ := hJ
   have hm2 : (Fr A c n w0.heap.size M l).tmps[18]?.getD undef = .int .i64 n := by
    show up l 2 (.int .i64 n) = _
    unfold up
    rw [hm]
    rfl
   obtain ⟨i0, e0, e1, e2, e3⟩ := info_parts info3
   have hrun := run_make w 55 3 i0 _ Try.underlying55 e0 e1 .i64 .i64 n n (by omega) (by omega) (by rw [e3]; omega) (by omega)
   have hz : Obj.cells (madeCells (Value.int IntKind.i64 0).cells ((n : Int).toNat * i0.size)) 3 (0, 0) = arr (List.replicate n 0) := by rw [e2]; exact made_zeros n
   rw [hz] at hrun
   rw [Int.toNat_natCast] at hrun
   clear e0 e1 e2 e3 HST HRR HR hall hl hl0 hi
   go_simp
   first | done | rfl
  | 4, ho =>
   simp at ho
   subst ho
   refine Rg.op_val (v := .int .i64 n) (w1 := w) rfl rfl ?_ (hJ.move hsz 4 20 (by omega))
   obtain ⟨M, rfl, -⟩ := hJ
   go_simp
   first | done | rfl
  | 5, ho =>
   simp at ho
   subst ho
   have hm := hall ⟨4, .data⟩ (by simp) (by rfl)
   refine Rg.op_val (v := sl n w.heap.size) (w1 := w.alloc (arr (List.replicate n 0))) rfl rfl ?_ (hJ.make hsz 5 21 _ hl0 (by simp) (by simp))
   obtain ⟨M, rfl, -⟩ := hJ
   have hm2 : (Fr A c n w0.heap.size M l).tmps[20]?.getD undef = .int .i64 n := by
    show up l 4 (.int .i64 n) = _
    unfold up
    rw [hm]
    rfl
   obtain ⟨i0, e0, e1, e2, e3⟩ := info_parts info3
   have hrun := run_make w 55 3 i0 _ Try.underlying55 e0 e1 .i64 .i64 n n (by omega) (by omega) (by rw [e3]; omega) (by omega)
   have hz : Obj.cells (madeCells (Value.int IntKind.i64 0).cells ((n : Int).toNat * i0.size)) 3 (0, 0) = arr (List.replicate n 0) := by rw [e2]; exact made_zeros n
   rw [hz] at hrun
   rw [Int.toNat_natCast] at hrun
   clear e0 e1 e2 e3 HST HRR HR hall hl hl0 hi
   go_simp
   first | done | rfl
  | 6, ho =>
   simp at ho
   subst ho
   refine Rg.op_val (v := P1 w.heap.size) (w1 := w.alloc (.cells #[.slice none 0 0] 55)) rfl rfl ?_ (hJ.make hsz 6 5 _ hl0 (by simp) (by simp))
   go_simp
   first | done | rfl
  | 7, ho =>
   simp at ho
   subst ho
   refine Rg.op_val (v := P1 w.heap.size) (w1 := w.alloc (.cells #[.slice none 0 0] 55)) rfl rfl ?_ (hJ.make hsz 7 6 _ hl0 (by simp) (by simp))
   go_simp
   first | done | rfl
  | 8, ho =>
   simp at ho
   subst ho
   refine Rg.op_val (v := P1 w.heap.size) (w1 := w.alloc (.cells #[.slice none 0 0] 55)) rfl rfl ?_ (hJ.make hsz 8 7 _ hl0 (by simp) (by simp))
   go_simp
   first | done | rfl
  | 9, ho =>
   simp at ho
   subst ho
   have hp := hall ⟨6, .data⟩ (by simp) (by rfl)
   have hm := hall ⟨1, .data⟩ (by simp) (by rfl)
   obtain ⟨M, rfl, hb, hK⟩ := hJ.store hsz 9 6 1 (by omega) hp hm
   refine Rg.op_skip (w1 := w.setCell ⟨M 6, 0, none⟩ (sl n (M 1))) rfl rfl rfl ?_ hK
   have e1 : (Fr A c n w0.heap.size M l).tmps[5]?.getD undef = P1 (M 6) := by
    show up l 6 (P1 (M 6)) = _
    unfold up
    rw [hp]
    rfl
   have e2 : (Fr A c n w0.heap.size M l).tmps[17]?.getD undef = sl n (M 1) := by
    show up l 1 (sl n (M 1)) = _
    unfold up
    rw [hm]
    rfl
   have c1 := cell_of_one hb
   have f1 := free_of_one hb
   clear hK hJ hb HST HRR HR hall hl hl0 hi
   go_simp
   first | done | rfl
  | 10, ho =>
   simp at ho
   subst ho
   have hp := hall ⟨7, .data⟩ (by simp) (by rfl)
   have hm := hall ⟨3, .data⟩ (by simp) (by rfl)
   obtain ⟨M, rfl, hb, hK⟩ := hJ.store hsz 10 7 3 (by omega) hp hm
   refine Rg.op_skip (w1 := w.setCell ⟨M 7, 0, none⟩ (sl n (M 3))) rfl rfl rfl ?_ hK
   have e1 : (Fr A c n w0.heap.size M l).tmps[6]?.getD undef = P1 (M 7) := by
    show up l 7 (P1 (M 7)) = _
    unfold up
    rw [hp]
    rfl
   have e2 : (Fr A c n w0.heap.size M l).tmps[19]?.getD undef = sl n (M 3) := by
    show up l 3 (sl n (M 3)) = _
    unfold up
    rw [hm]
    rfl
   have c1 := cell_of_one hb
   have f1 := free_of_one hb
   clear hK hJ hb HST HRR HR hall hl hl0 hi
   go_simp
   first | done | rfl
  | 11, ho =>
   simp at ho
   subst ho
   have hp := hall ⟨8, .data⟩ (by simp) (by rfl)
   have hm := hall ⟨5, .data⟩ (by simp) (by rfl)
   obtain ⟨M, rfl, hb, hK⟩ := hJ.store hsz 11 8 5 (by omega) hp hm
   refine Rg.op_skip (w1 := w.setCell ⟨M 8, 0, none⟩ (sl n (M 5))) rfl rfl rfl ?_ hK
   have e1 : (Fr A c n w0.heap.size M l).tmps[7]?.getD undef = P1 (M 8) := by
    show up l 8 (P1 (M 8)) = _
    unfold up
    rw [hp]
    rfl
   have e2 : (Fr A c n w0.heap.size M l).tmps[21]?.getD undef = sl n (M 5) := by
    show up l 5 (sl n (M 5)) = _
    unfold up
    rw [hm]
    rfl
   have c1 := cell_of_one hb
   have f1 := free_of_one hb
   clear hK hJ hb HST HRR HR hall hl hl0 hi
   go_simp
   first | done | rfl
  | i + 12, ho => simp at ho
 case he => as_aux_lemma =>
  intro l a w2 hsz hrd hJ
  have hall := Rg.all_listed (by kernel_rfl) hsz hrd
  have hal : ∀ i, i < 12 -> l.getD i false = true := by
   intro i hi
   have h1 := hall i hi
   have h2 : i < l.size := by rw [hsz]; exact hi
   simpa [h2] using h1
  obtain ⟨M, rfl, hb, hm, hd, -, -, -⟩ := hJ
  have P0 : Pre w A c n w.heap.size (M 6) (M 7) (M 8) (M 1) (M 3) (M 5) (List.replicate n 0) w2 := by
   have k1 := hm 1 (by decide) (hal 1 (by decide))
   have k3 := hm 3 (by decide) (hal 3 (by decide))
   have k5 := hm 5 (by decide) (hal 5 (by decide))
   have k6 := hm 6 (by decide) (hal 6 (by decide))
   have k7 := hm 7 (by decide) (hal 7 (by decide))
   have k8 := hm 8 (by decide) (hal 8 (by decide))
   have hsz2 : (w.alloc (.cells #[.slice A n c] 47)).heap.size = w.heap.size + 1 := by simp
   rw [hsz2] at k1 k3 k5
   simp only [cont, held, hal 9 (by decide), hal 10 (by decide), hal 11 (by decide), if_true] at k1 k3 k5 k6 k7 k8
   have dd : ∀ i j, i ∈ mk6 -> j ∈ mk6 -> i < 12 -> j < 12 -> i ≠ j -> M i ≠ M j := fun i j hi hj h1 h2 hne => hd i j hi hj hne (hal i h1) (hal j h2)
   exact {
    hB := (below_alloc (Below.refl _ _) _).trans (hb.mono (by rw [hsz2]; omega))
    ke := blk_below (blk_new w _) hb
    ki := k6.2
    kl := k7.2
    kp := k8.2
    fi := k1.2
    fl := k3.2
    fp := k5.2
    lp := by simp
    d := ⟨dd 1 3 (by decide) (by decide) (by decide) (by decide) (by decide), dd 1 5 (by decide) (by decide) (by decide) (by decide) (by decide), dd 3 5 (by decide) (by decide) (by decide) (by decide) (by decide), dd 6 7 (by decide) (by decide) (by decide) (by decide) (by decide), dd 6 8 (by decide) (by decide) (by decide) (by decide) (by decide), dd 7 8 (by decide) (by decide) (by decide) (by decide) (by decide)⟩
    b := ⟨by omega, by omega, by omega⟩ }
  have hF : Fr A c n w.heap.size M l = Fr A c n w.heap.size M (Array.replicate 12 true) := by
   unfold Fr up
   simp only [hal 0 (by decide), hal 1 (by decide), hal 2 (by decide), hal 3 (by decide), hal 4 (by decide), hal 5 (by decide), hal 6 (by decide), hal 7 (by decide), hal 8 (by decide)]
   rfl
  rw [hF]
  clear hF hm hd hal hall hrd hsz hb
  unfold Fr
  have u0 : ∀ i v, i < 12 -> up (Array.replicate 12 true) i v = v := by
   intro i v hi
   unfold up
   simp [hi]
  rw [u0 6 _ (by decide), u0 7 _ (by decide), u0 8 _ (by decide), u0 0 _ (by decide), u0 1 _ (by decide), u0 2 _ (by decide), u0 3 _ (by decide), u0 4 _ (by decide), u0 5 _ (by decide)]
  generalize M 1 = ai at P0 ⊢
  generalize M 3 = al at P0 ⊢
  generalize M 5 = ap at P0 ⊢
  generalize M 6 = bi at P0 ⊢
  generalize M 7 = bl at P0 ⊢
  generalize M 8 = bp at P0 ⊢
  clear u0
  have P1_ := Az.mk P0
  have c1 := cell_of_one P0.kp
  clear P0
  go_wp2_with fail
  go_loopg [24] n (fun kq v24 w' => ∃ (i : Nat) (comp : List Int), v24 = .int .i64 i /\ Az (kq + i = n) /\ Az (Pre w A c n w.heap.size bi bl bp ai al ap comp w') /\ Az (∀ j, j < i -> comp.getD j 0 = -1))
  case atStart => exact ⟨0, _, rfl, ⟨by omega⟩, P1_, ⟨fun j hj => by omega⟩⟩
  case round => as_aux_lemma =>
   clear P1_ c1
   obtain ⟨i, comp, rfl, HK, HP, HJ⟩ := hrel
   by_cases hi : i < n
   · as_aux_lemma =>
     have hk := HK.1
     obtain ⟨k1, rfl⟩ : ∃ m, gk = m + 1 := ⟨gk - 1, by omega⟩
     have c2 := cell_of_one HP.1.kp
     have e1 := HP.1.lp
     have c3 := arr_cell HP.1.fp i (by omega) (by omega)
     have f3 := arr_free HP.1.fp i
     rw [Int.toNat_natCast] at c3
     clear e1 hk
     go_upto_region 7 with fail
     have HP2 := Az.mk (HP.1.setComp i (-1))
     clear c2 c3 f3
     generalize wr.setCell ⟨ap, i, none⟩ (.int .i64 (-1)) = w3 at HP2 ⊢
     go_wp2_with fail
     go_roundg k1
     case measure => omega
     case rel =>
      refine ⟨i + 1, _, by go_num, ⟨by have := HK.1; omega⟩, HP2, ⟨fun j hj => ?_⟩⟩
      have hlen : i < comp.length := by rw [HP.1.lp]; exact hi
      rw [List.getD_eq_getElem?_getD, List.getElem?_set]
      by_cases hji : i = j
      · subst hji
        rw [if_pos rfl, if_pos hlen]
        rfl
      rw [if_neg hji, <- List.getD_eq_getElem?_getD]
      exact HJ.1 j (by omega)
   have hin : i = n := by have := HK.1; omega
   subst hin
   have ec : comp = List.replicate i (-1) := by
    apply List.ext_getElem
    · rw [HP.1.lp]; simp
    · intro j h1 h2
      have := HJ.1 j (by simpa using h2)
      rw [List.getD_eq_getElem?_getD, List.getElem?_eq_getElem h1] at this
      simpa using this
   rw [ec] at HP
   clear ec HJ HK comp hi
   go_upto_region 11 with fail
   have n1 := blk_new wr (.cells #[.slice none 0 0] 55)
   have n2 := blk_new (wr.alloc (.cells #[.slice none 0 0] 55)) (.cells #[.int .i64 0] 3)
   have n3 := blk_new ((wr.alloc (.cells #[.slice none 0 0] 55)).alloc (.cells #[.int .i64 0] 3)) (.cells #[.int .i64 0] 3)
   have n4 := blk_new (((wr.alloc (.cells #[.slice none 0 0] 55)).alloc (.cells #[.int .i64 0] 3)).alloc (.cells #[.int .i64 0] 3)) (.cells #[.nilFunc] 88)
   have n1' := blk_alloc (blk_alloc (blk_alloc n1 (.cells #[.int .i64 0] 3)) (.cells #[.int .i64 0] 3)) (.cells #[.nilFunc] 88)
   have n2' := blk_alloc (blk_alloc n2 (.cells #[.int .i64 0] 3)) (.cells #[.nilFunc] 88)
   have n3' := blk_alloc n3 (.cells #[.nilFunc] 88)
   have hb := below_alloc (below_alloc (below_alloc (below_alloc (Below.refl wr.heap.size wr) (.cells #[.slice none 0 0] 55)) (.cells #[.int .i64 0] 3)) (.cells #[.int .i64 0] 3)) (.cells #[.nilFunc] 88)
   have s2 : (wr.alloc (.cells #[.slice none 0 0] 55)).heap.size = wr.heap.size + 1 := by simp
   have s3 : ((wr.alloc (.cells #[.slice none 0 0] 55)).alloc (.cells #[.int .i64 0] 3)).heap.size = wr.heap.size + 1 + 1 := by simp
   have s4 : (((wr.alloc (.cells #[.slice none 0 0] 55)).alloc (.cells #[.int .i64 0] 3)).alloc (.cells #[.int .i64 0] 3)).heap.size = wr.heap.size + 1 + 1 + 1 := by simp
   rw [s2] at n2'
   rw [s3] at n3'
   rw [s4] at n4
   clear n1 n2 n3 s2 s3 s4
   have M1 := Az.mk n1'
   have M2 := Az.mk n2'
   have M3 := Az.mk n3'
   have M4 := Az.mk n4
   have HB := Az.mk hb
   have c4 := cell_of_one n4
   have f4 := free_of_one n4
   clear n1' n2' n3' n4 hb
   generalize ((((wr.alloc (.cells #[.slice none 0 0] 55)).alloc (.cells #[.int .i64 0] 3)).alloc (.cells #[.int .i64 0] 3)).alloc (.cells #[.nilFunc] 88)) = w5 at M1 M2 M3 M4 HB c4 f4 ⊢
   go_wp2_with fail
   have hN := HN.1
   subst hN
   have hlt1 := blk_lt HP.1.ke
   have hlt2 := blk_lt HP.1.ki
   have hlt3 := blk_lt HP.1.kl
   have hlt4 := blk_lt HP.1.kp
   have hlt5 := blk_lt HP.1.fi
   have hlt6 := blk_lt HP.1.fl
   have hlt7 := blk_lt HP.1.fp
   have hw := HP.1.hB.size
   obtain ⟨d1, d2, d3, d4, d5, d6⟩ := HP.1.d
   obtain ⟨b1, b2, b3⟩ := HP.1.b
   have OK : Cx.Ok { bc := wr.heap.size + 1, bi := bi, bl := bl, bs := wr.heap.size, be := w.heap.size, bv := wr.heap.size + 1 + 1 + 1, bp := bp, bm := wr.heap.size + 1 + 1, ai := ai, al := al, ap := ap, A := A, c := c, w0 := w, es := es } := by
    constructor
    · refine ⟨?_, ?_, ?_, ?_, ?_, ?_, ?_, d1, d2, d3⟩ <;> (dsimp only; omega)
    · refine ⟨?_, ?_, ?_⟩ <;> (dsimp only; omega)
    · refine ⟨?_, ?_, ?_, b1, b2, b3⟩ <;> (dsimp only; omega)
   have I0 : Inv { bc := wr.heap.size + 1, bi := bi, bl := bl, bs := wr.heap.size, be := w.heap.size, bv := wr.heap.size + 1 + 1 + 1, bp := bp, bm := wr.heap.size + 1 + 1, ai := ai, al := al, ap := ap, A := A, c := c, w0 := w, es := es } (init es.length)
    (w5.setCell ⟨wr.heap.size + 1 + 1 + 1, 0, none⟩ (.func (.func 61) #[] #[P1 (wr.heap.size + 1), P1 bi, P1 bl, P1 wr.heap.size, P1 w.heap.size, P1 (wr.heap.size + 1 + 1 + 1), P1 bp, P1 (wr.heap.size + 1 + 1)])) := {
    hB := (HP.1.hB.trans (HB.1.mono hw)).setCell (by dsimp only; omega) _
    hE := HR.1
    kc := blk_far M2.1 (by dsimp only; omega) _
    ki := blk_far (blk_below HP.1.ki HB.1) (by dsimp only; omega) _
    kl := blk_far (blk_below HP.1.kl HB.1) (by dsimp only; omega) _
    ks := ⟨.slice none 0 0, blk_far M1.1 (by dsimp only; omega) _, Kd.R_nil _ _ _ _ _⟩
    ke := blk_far (blk_below HP.1.ke HB.1) (by dsimp only; omega) _
    kv := one_setCell M4.1
    kp := blk_far (blk_below HP.1.kp HB.1) (by dsimp only; omega) _
    km := blk_far M3.1 (by dsimp only; omega) _
    ai := blk_far (blk_below HP.1.fi HB.1) (by dsimp only; omega) _
    al := blk_far (blk_below HP.1.fl HB.1) (by dsimp only; omega) _
    ap := blk_far (blk_below HP.1.fp HB.1) (by dsimp only; omega) _
    li := by simp [init]
    ll := by simp [init]
    lp := by simp [init] }
   have VC := Az.mk (visit_calls _ OK)
   have HBP := Az.mk b3
   have J0 := Az.mk I0
   clear I0 OK d1 d2 d3 d4 d5 d6 b1 b2 b3 hw hlt1 hlt2 hlt3 hlt4 hlt5 hlt6 hlt7 c4 f4 M1 M2 M3 M4 HB HP
   generalize (w5.setCell ⟨wr.heap.size + 1 + 1 + 1, 0, none⟩ (.func (.func 61) #[] #[P1 (wr.heap.size + 1), P1 bi, P1 bl, P1 wr.heap.size, P1 w.heap.size, P1 (wr.heap.size + 1 + 1 + 1), P1 bp, P1 (wr.heap.size + 1 + 1)])) = w6 at J0 ⊢
   generalize wr.heap.size = s at J0 VC ⊢
   go_loopg [33] k (fun kq v33 w' => ∃ (v : Int) (st : TS), v33 = .int .i64 v /\ Az (0 <= v) /\ Az (outer kq es v st = some stf) /\ Az (kq <= k) /\ Az (Inv { bc := s + 1, bi := bi, bl := bl, bs := s, be := w.heap.size, bv := s + 1 + 1 + 1, bp := bp, bm := s + 1 + 1, ai := ai, al := al, ap := ap, A := A, c := c, w0 := w, es := es } st w'))
   case atStart => exact ⟨0, _, rfl, ⟨by omega⟩, HST, ⟨Nat.le_refl _⟩, J0⟩
   case round => as_aux_lemma =>
    clear J0 HST
    obtain ⟨v, st, rfl, HV, HA, HK1, J⟩ := hrel
    cases gk with
    | zero => exact absurd HA.1 (by simp [outer])
    | succ k1 =>
     have H := HA.1
     clear HA
     rw [outer] at H
     have hm : es.length <= 9223372036854775807 := HR.1.2.1
     by_cases ci : v < es.length
     rotate_left
     · as_aux_lemma =>
       rw [if_neg ci] at H
       have cb : decide (v < (es.length : Int)) = false := decide_eq_false ci
       have c2 := cell_of_one J.1.kp
       have c3 := cell_of_one J.1.km
       obtain rfl : st = stf := Option.some.inj H
       go_wp2_with fail
       go_region
       go_wp2_with fail
       go_ret2
       obtain ⟨rfl, rfl⟩ := Prod.mk.inj HRR.1
       refine ⟨sl es.length ap, rfl, ?_, below_drew J.1.hB⟩
       have hl := J.1.lp
       have h1 := arr_R (w := wr) (base := w.heap.size) J.1.ap (by have := HBP.1; omega) (by rw [hl]; unfold maxLen; omega)
       rw [hl] at h1
       exact Kd.R_drew h1
     as_aux_lemma =>
     rw [if_pos ci] at H
     have hv0 := HV.1
     have cb : decide (v < (es.length : Int)) = true := decide_eq_true ci
     have c2 := cell_of_one J.1.ki
     have c3 := arr_cell J.1.ai v hv0 (by rw [J.1.li]; exact ci)
     have q1 := eq_true hv0
     have q2 := eq_true ci
     by_cases cz : rd st.index v = 0
     rotate_left
     · as_aux_lemma =>
       rw [if_neg cz] at H
       have H' := Az.mk H
       clear H
       have cz1 : (rd st.index v == 0) = false := beq_eq_false_iff_ne.2 cz
       clear cz
       go_wp2_with fail
       go_roundg k1
       case measure => omega
       case rel => exact ⟨v + 1, _, rfl, ⟨by have := HV.1; omega⟩, H', ⟨by have := HK1.1; omega⟩, J⟩
     as_aux_lemma =>
     rw [if_pos cz] at H
     obtain ⟨s1, hs1, H⟩ := Option.bind_eq_some_iff.1 H
     have Hs1 := Az.mk hs1
     have H' := Az.mk H
     clear hs1 H
     have cz1 : (rd st.index v == 0) = true := beq_iff_eq.2 cz
     clear cz
     have c5 := cell_of_one J.1.kv
     go_wp2_with (go_at_call 61; refine (VC.1 k1 v st s1 Hs1.1 _ J.1).mono ?_; clear c2 c3 c5; rintro e w7 ⟨rfl, hI⟩; have J5 := Az.mk hI; clear hI)
     go_roundg k1
     case measure => omega
     case rel => exact ⟨v + 1, _, rfl, ⟨by have := HV.1; omega⟩, H', ⟨by have := HK1.1; omega⟩, J5⟩
end Tj
end Go.Proofs.Ytmadhaccjmakdaa
namespace Go.Proofs.Ytmadhaccjmakdaa
open Go.RowKit Go.Proofs.Yw.A Go.Proofs.Yw.B Go.Proofs.Yw.C Go.Proofs.Ytmadhaccjmakdaa.P
namespace Od
open Tj Rw
abbrev KS : Kd (List Int) := Kd.slice 3 (Kd.int .i64)
theorem S_upd {g n cap base : Nat} {W : World} {ok : Nat -> Prop} {xs : List (List Int)} (h : Kd.S KS 55 W base ok (.slice (some ⟨g, 0, none⟩) n cap) xs) (hfresh : ∀ k, W.heap.size <= k -> ok k) (i : Int) (h0 : 0 <= i) (h1 : i < n) :
    ∃ (v0 : Value) (oki : Nat -> Prop), W.cell? ⟨g, i.toNat, none⟩ = some v0 /\ W.frozen? ⟨g, i.toNat, none⟩ = false /\ Kd.R (Kd.int .i64) 3 W base oki v0 (row xs i) /\ (∀ k, oki k -> ok k /\ k ≠ g) /\
      ∀ (w1 : World) (v1 : Value) (ys : List Int), W.grownBy w1 v0.ownBlock -> Kd.R (Kd.int .i64) 3 w1 base (fun k => oki k \/ W.heap.size <= k) v1 ys ->
        Kd.S KS 55 (w1.setCell ⟨g, i.toNat, none⟩ v1) base ok (.slice (some ⟨g, 0, none⟩) n cap) (xs.set i.toNat ys) /\ w1.grownBy (w1.setCell ⟨g, i.toNat, none⟩ v1) (some g) := by
  obtain ⟨oki, c, hcl, hM, hcc, hfr, hoki, hH⟩ := Kd.S_elem h [] i h0 h1
  obtain ⟨v0, rfl, hR⟩ := hM
  have hsz : KS.sz = 1 := rfl
  have hg : g < W.heap.size := Kd.S_lt h g (by simp [Value.ownBlock])
  refine ⟨v0, oki, ?_, ?_, hR, hoki, ?_⟩
  · have := hcc 0 v0 rfl
    rwa [hsz, Nat.mul_one, Nat.add_zero] at this
  · have := hfr 0
    rwa [hsz, Nat.mul_one, Nat.add_zero] at this
  · intro w1 v1 ys hg1 hR1
    have hw : Kd.H KS 55 W base ok (.slice (some ⟨g, 0, none⟩) n cap) xs i (fun k => oki k \/ W.heap.size <= k) [v0] := by
      have := Kd.H_widen hH
      have e : (fun k => oki k \/ ok k /\ W.heap.size <= k) = (fun k => oki k \/ W.heap.size <= k) := by
        funext k
        exact propext ⟨fun hk => hk.elim .inl (fun h2 => .inr h2.2), fun hk => hk.elim .inl (fun h2 => .inr ⟨hfresh k h2, h2⟩)⟩
      rwa [e] at this
    have h2 := Kd.H_grown hw hg1 (fun k hk => .inl (hR.1 k hk))
    obtain ⟨h3, h4⟩ := Kd.H_seg h2 h0 h1 (seg := [v1]) (j := 0) (by rw [hsz]; simp) (by
      intro q hq
      rw [List.mem_singleton.1 hq]
      exact (Kd.R_val hR1).2)
    have e1 : w1.setCells g (i.toNat * KS.sz + 0) [v1] = w1.setCell ⟨g, i.toNat, none⟩ v1 := by rw [hsz, Nat.mul_one, Nat.add_zero]; rfl
    rw [e1] at h3 h4
    refine ⟨Kd.H_back h3 (okp := fun k => oki k \/ W.heap.size <= k) ⟨v1, rfl, ?_⟩ (fun _ hk => hk), h4⟩
    refine Kd.R_far (p := ⟨g, i.toNat, none⟩) hR1 (fun k hk => ?_) _
    rcases hk with hk | hk
    · exact (hoki k hk).2
    · show k ≠ g
      omega
theorem S_made {W : World} {g n base : Nat} {ok : Nat -> Prop} (hh : W.heap[g]? = some (.cells (madeCells #[.slice none 0 0] n) 55 (0, 0))) (hb : base <= g) (hm : n <= maxLen) (hok : ok g) :
    Kd.S KS 55 W base ok (.slice (some ⟨g, 0, none⟩) n n) (List.replicate n []) := by
  refine Kd.S_bare ⟨fun k hk => by obtain rfl : g = k := by simpa [Value.ownBlock] using hk
                                   exact hok, List.replicate n (.slice none 0 0), ?_, ?_, fun j p hj => ?_⟩
  · refine ⟨by simp [Kd.bare, KS, Kd.slice], .inr ⟨g, n, _, by rw [List.length_replicate], hb, hh, by rw [List.length_replicate]; exact Nat.le_refl _, hm, by rw [size_madeCells]; simp [Kd.bare, KS, Kd.slice], ?_⟩⟩
    have e : (madeCells #[.slice none 0 0] n).toList = List.replicate n (.slice none 0 0) := by
      apply List.ext_getElem
      · simp [madeCells]
      · intro i h1 h2
        simp [madeCells, Nat.mod_one]
    rw [e, List.length_replicate]
    simp [Kd.bare, KS, Kd.slice]
  · simp [Kd.bare, KS, Kd.slice]
  · have hjl := (List.getElem?_eq_some_iff.1 hj).1
    rw [List.length_replicate] at hjl
    have hp : p = [] := by
      rw [List.getElem?_replicate_of_lt hjl] at hj
      exact (Option.some.inj hj).symm
    subst hp
    show ∃ v, _ = [v] /\ _
    refine ⟨.slice none 0 0, ?_, Kd.R_nil _ _ _ _ _⟩
    have e1 : (Kd.bare KS).sz = 1 := rfl
    rw [e1, Nat.mul_one, List.drop_replicate, List.take_replicate]
    rw [show min 1 (n - j) = 1 by omega]
    rfl
section
variable {P : Program} {ops : Array Oper} {o : Oper} {a : Act} {Q : Exit -> Act -> World -> Prop} {Kc : Act -> World -> Prop}
theorem skip_step {W w1 : World} (hw : Region.wanted o (yielded ops a.tmps) = true) (hd : o.dst = none) (hrun : (execOp a.eval o).run P W = .ok .skip w1) (h : Kc a w1) :
    if Region.wanted o (yielded ops a.tmps) = true then Oper.wp P o a W Kc Q else Kc (a.put none undef) W := by
  rw [if_pos hw]
  unfold Oper.wp
  rw [hrun]
  show Kc (a.put o.dst undef) w1
  rw [hd]
  exact h
end
theorem S_mapstep {w w1 : World} {e base gs c : Nat} {ok : Nat -> Prop} {v : Value} {xs : List (List Int)} {es : Array MapEntry} (h : Kd.S KS e w base ok v xs) (hm : w.heap[gs]? = some (.map es c)) (hg : w.grownBy w1 (some gs)) : Kd.S KS e w1 base ok v xs :=
  Kd.S_mono (Kd.S_grown (Kd.S_bound h) hg (fun k hk he => by
    obtain ⟨_, _, _, q, _, cells, hc⟩ := hk
    injection he with he
    subst he
    rw [hm] at hc
    cases hc)) (fun k hk => hk.1)
theorem arr_made {W : World} {g n : Nat} (hh : W.heap[g]? = some (.cells (madeCells #[.int .i64 0] n) 3 (0, 0))) : W.heap[g]? = some (arr (List.replicate n 0)) := by
  rw [hh, <- made_zeros n]
  simp [Value.cells]
def outK (W1 : World) (okm : Nat -> Prop) : Kd (List Int) where
  sz := 1
  E := []
  K := fun _ x cs => Kd.FK KS W1 okm x cs
  M := fun _ _ _ x cs => Kd.FK KS W1 okm x cs
  K_len := fun h => KS.K_len (Kd.FK_now h)
  K_one := fun h => KS.K_one (Kd.FK_now h)
  K_below := fun _ h => h
  K_of_M := fun h => h
  M_mono := fun _ h => h
  M_bound := fun h => h
  M_move := fun _ h => h
  M_lower := fun _ h => h
theorem outK_V {W1 w : World} {gm base b0 : Nat} {ok : Nat -> Prop} {v : Value} {xs : List (List Int)} (h : (outK W1 (fun k => gm <= k)).R 55 w base ok v xs) (hb : Below W1.heap.size W1 w) (hg : gm <= base) {g0 : Nat} (hg0 : g0 <= gm) :
    Kd.V KS 55 w b0 (fun k => g0 <= k) v xs := by
  obtain ⟨A, c, rfl⟩ := Kd.R_slice h
  have hl := (Kd.R_reads' h).2.1
  refine ⟨A, c, rfl, hl, fun W' hW => ?_⟩
  have hbase := Kd.R_base h
  have hR := Kd.R_step (w1 := W') (Kd.R_tight rfl h) (fun k hk hlt => hW k (by have := hbase k hk.symm; omega) hlt)
  have h2 := (Kd.R_reads' hR).2.2
  refine ReadsRow.imp_ h2 (Below.refl _ _) (fun x cs hx => hx W' (fun k hk hlt => ?_))
  rw [hW k (by omega) (by have := hb.size; omega)]
  exact hb.block k hlt
def ReadyAt (w : World) (br : Nat) (ready : List Int) : Prop := ∃ vr, w.heap[br]? = some (.cells #[vr] 55 (0, 0)) /\ RowAt w (br + 1) vr ready
theorem Entered.keeps {W1 w w' : World} {br : Nat} {vr : Value} {ready ready' : List Int} {e : Ending} (h : Entered W1 (br + 1) br vr ready' w e w') (hR : RowAt w (br + 1) vr ready) :
    e = .returned (.tuple #[]) /\ Below W1.heap.size W1 w' /\ w.heap.size <= w'.heap.size /\ ReadyAt w' br ready' /\ (∀ k, k < br -> k < w.heap.size -> w'.heap[k]? = w.heap[k]?) /\
      ∀ (k : Nat) (t : TypeId) (cs : Array Value), k ≠ br -> w.heap[k]? = some (.cells cs t (0, 0)) -> t ≠ 3 -> w'.heap[k]? = w.heap[k]? := by
  obtain ⟨h1, h2, h3, h4, h5⟩ := h
  refine ⟨h1, h2, h3, h4, fun k hk hlt => h5 k hlt (by omega) (fun e => ?_), fun k t cs hk hc ht => h5 k (blk_lt hc) hk (fun e => ?_)⟩
  · have := (hR.lt k e).1
    omega
  · obtain ⟨_, _, cur, a3⟩ := hR.lt k e
    rw [hc] at a3
    injection a3 with a3
    injection a3 with _ a3
    exact ht a3
theorem ReadyAt.kept {w w1 : World} {br : Nat} {ready : List Int} (h : ReadyAt w br ready) (hk : ∀ k, br <= k -> k < w.heap.size -> w1.heap[k]? = w.heap[k]?) : ReadyAt w1 br ready := by
  obtain ⟨vr, h1, h2⟩ := h
  exact ⟨vr, by rw [hk br (Nat.le_refl _) (blk_lt h1)]; exact h1, h2.kept (fun k hkk => by
    obtain ⟨a1, a2, _⟩ := h2.lt k hkk
    exact hk k (by omega) a2)⟩
end Od
end Go.Proofs.Ytmadhaccjmakdaa
namespace Go.Proofs.Ytmadhaccjmakdaa
open Go.RowKit Go.Proofs.Yw.A Go.Proofs.Yw.B Go.Proofs.Yw.C Go.Proofs.Ytmadhaccjmakdaa.P
namespace Rw
open Tj
theorem RowAt.cut {w : World} {base : Nat} {v : Value} {xs : List Int} (h : RowAt w base v xs) (hne : 0 < xs.length) :
    ∃ g off cap A, v = .slice (some ⟨g, off, none⟩) xs.length cap /\ base <= g /\ g < w.heap.size /\ xs.length <= cap /\ w.cell? ⟨g, off, none⟩ = some (.int .i64 (rd xs 0)) /\
      (if cap = 1 then some ⟨g, off, none⟩ else some ⟨g, off + 1, none⟩) = A /\ RowAt w base (.slice A (xs.length - 1) (cap - 1)) (xs.drop 1) := by
  rcases h with ⟨rfl, rfl⟩ | ⟨g, off, cap, cur, rfl, hb, hh, hl, hs, hm, hc⟩
  · cases hne
  · refine ⟨g, off, cap, _, rfl, hb, blk_lt hh, hl, ?_, rfl, ?_⟩
    · rw [blk_cell hh]
      have := hc 0 (rd xs 0) (by
        show xs[0]? = some (xs.getD 0 0)
        rw [List.getD_eq_getElem?_getD, List.getElem?_eq_getElem hne]
        rfl)
      rwa [Nat.add_zero] at this
    · have hdl : (xs.drop 1).length = xs.length - 1 := by simp
      rw [<- hdl]
      by_cases h1 : cap = 1
      · rw [if_pos h1]
        refine .inr ⟨g, off, cap - 1, cur, rfl, hb, hh, by omega, by omega, by omega, fun j x hj => ?_⟩
        have := (List.getElem?_eq_some_iff.1 hj).1
        omega
      · rw [if_neg h1]
        refine .inr ⟨g, off + 1, cap - 1, cur, rfl, hb, hh, by omega, by omega, by omega, fun j x hj => ?_⟩
        rw [List.getElem?_drop] at hj
        have := hc (1 + j) x hj
        rwa [show off + (1 + j) = off + 1 + j by omega] at this
end Rw
namespace Od
open Tj Rw
abbrev OutR (W1 : World) (gm : Nat) (w : World) (base : Nat) (v : Value) (xs : List (List Int)) : Prop := (outK W1 (fun k => gm <= k)).R 55 w base (fun _ => True) v xs
theorem OutR.kept {W1 w w1 : World} {gm base : Nat} {v : Value} {xs : List (List Int)} (h : OutR W1 gm w base v xs) (hk : ∀ k, v.ownBlock = some k -> w1.heap[k]? = w.heap[k]?) : OutR W1 gm w1 base v xs :=
  Kd.R_mono (Kd.R_step (Kd.R_tight rfl h) (fun k e _ => hk k e.symm)) (fun _ _ => trivial)
theorem OutR.typed {W1 w : World} {gm base : Nat} {v : Value} {xs : List (List Int)} (h : OutR W1 gm w base v xs) : ∀ k, v.ownBlock = some k -> base <= k /\ k < w.heap.size /\ ∃ cells, w.heap[k]? = some (.cells cells 55 (0, 0)) := by
  intro k hk
  obtain ⟨inner, hi⟩ := Kd.R_own h
  obtain ⟨cells, hc⟩ := own_typed hi k hk
  exact ⟨Kd.R_base h k hk, blk_lt hc, cells, hc⟩
theorem row_out_ne {W1 w : World} {gm base base' : Nat} {v u : Value} {xs : List (List Int)} {ys : List Int} (h : OutR W1 gm w base v xs) (hR : RowAt w base' u ys) : ∀ k, u.ownBlock = some k -> some k ≠ v.ownBlock := by
  intro k hk e
  obtain ⟨_, _, cells, hc⟩ := h.typed k e.symm
  obtain ⟨_, _, cur, hc2⟩ := hR.lt k hk
  rw [hc] at hc2
  injection hc2 with hc2
  injection hc2 with _ hc2
  exact absurd hc2 (by decide)
end Od
end Go.Proofs.Ytmadhaccjmakdaa
