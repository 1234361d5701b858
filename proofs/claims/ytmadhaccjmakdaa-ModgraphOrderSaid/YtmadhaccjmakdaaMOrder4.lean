/- Part 4 of 6 of one proof: slices.Clone at []int: a copy of the elements, in memory of the call's own -/
import Derived.Lib.SliceRun
import Derived.WalkSpells
import Derived.Test.YtmadhaccjmakdaaMOrder1
import Derived.Test.YtmadhaccjmakdaaMOrder2
import Derived.Test.YtmadhaccjmakdaaMOrder3
set_option linter.unusedVariables false
set_option linter.unusedSimpArgs false
set_option maxHeartbeats 8000000
set_option maxRecDepth 100000
namespace Go.Proofs.Ytmadhaccjmakdaa.P
open Go.RowKit Go.Proofs.Yw.A Go.Proofs.Yw.A.Kd Go.Proofs.Yw.B Go.Proofs.Yw.C
attribute [local go_sem] str_gtr str_leq str_geq max2_int min2_int max_two min_two max_three min_three max_four min_four
mutual
noncomputable def r_Imports.l0 : Nat -> List (S42) -> ByteArray -> List ByteArray -> Int -> Option (List ByteArray)
 | 0, _, _, _, _ => none
 | k + 1, x0, x1, x5, x6 => if x6 < (x0.length : Int) then (r_Imports.l1 k x0 x1 x5 x6 0) else (some x5)
noncomputable def r_Imports.l1 : Nat -> List (S42) -> ByteArray -> List ByteArray -> Int -> Int -> Option (List ByteArray)
 | 0, _, _, _, _, _ => none
 | k + 1, x0, x1, x5, x6, x7 => if 0 <= x6 then (if x6 < (x0.length : Int) then (if x7 < (((rd_T42 x0 x6).f3).length : Int) then (if ((rd_T42 x0 x6).f0).toList = x1.toList then (if 0 <= x7 then ((r_Insert.f k x5 ((rd_T66 ((rd_T42 x0 x6).f3) x7).f0)).bind fun t325 => (r_Imports.l1 k x0 x1 t325 x6 (wrap64 (x7 + 1)))) else (none)) else (r_Imports.l0 k x0 x1 x5 (wrap64 (x6 + 1)))) else (r_Imports.l0 k x0 x1 x5 (wrap64 (x6 + 1)))) else (none)) else (none)
end
noncomputable def r_Imports.f (k : Nat) (l0 : List (S42)) (a1 : ByteArray) : Option (List ByteArray) := r_Imports.l0 k l0 a1 ([] : List ByteArray) 0
theorem r_Imports.calls (k : Nat) (A0 : Option Addr) (c0 : Nat) (l0 : List (S42)) (a1 : ByteArray) (r : List ByteArray) (w : World) (hr0 : Kd.C k42 w A0 l0.length l0) (hc0 : l0.length <= c0) (h : r_Imports.f k l0 a1 = some r) :
 Calls Try.prog 22 #[.slice A0 l0.length c0, .string a1] w fun e w' => ∃ v0_ : Value, e = .returned (v0_) /\ Kd.R Kd.string 9 w' w.heap.size (fun _ => True) v0_ r /\ Below w.heap.size w w' := by
 have HR0 := aM hr0
 have HC0 := aM hc0
 clear hr0 hc0
 have HB := aM (Below.refl w.heap.size w)
 have H : (r_Imports.l0 k l0 a1 ([] : List ByteArray) 0) = some r := h
 clear h
 have H' := aM H
 clear H
 go_enter Try.func22, Try.ntmps22
 go_wp2
 go_loopg [5, 6] k (fun kq v5 v6 w' => ∃ (x5_1 : List ByteArray) (x6_1 : Int), v6 = .int .i64 x6_1 /\ Az (r_Imports.l0 kq l0 a1 x5_1 x6_1 = some r) /\ Az (kq <= k) /\ Az (Kd.R Kd.string 9 w' w.heap.size (fun _ => True) v5 x5_1) /\ Az (Below w.heap.size w w'))
 case atStart => exact ⟨(([] : List ByteArray)), (0), rr, H', ⟨Nat.le_refl _⟩, ⟨by first | exact R_nil _ _ _ _ _ | exact N_nil _ _ _ _ _ | exact V_nil _ _ _ _ _ | exact Q_nil _ _ _ _ _ | exact S_nil _ _ _ _ _⟩, ⟨hh HB⟩⟩
 case round =>
  clear H'
  obtain ⟨x5_1, x6_1, rfl, HA, HK1, HO_5, HB⟩ := hrel
  cases gk with
  | zero => exact absurd HA.1 (by simp [r_Imports.l0])
  | succ k1 =>
   have H := HA.1
   clear HA
   simp only [r_Imports.l0] at H
   by_cases c3 : x6_1 < (l0.length : Int)
   rotate_left
   · rw [if_neg c3] at H
     have c3b0 : decide (x6_1 < (l0.length : Int)) = false := decide_eq_false c3
     clear c3
     obtain rfl := Option.some.inj H
     go_wp2
     go_ret
     exact ⟨_, by first | rfl | (simp [errW_none, errW_some] <;> rfl) | (simp [*, errW_none, errW_some] <;> rfl), rk HO_5, hh HB⟩
   rw [if_pos c3] at H
   have c3b0 : decide (x6_1 < (l0.length : Int)) = true := decide_eq_true c3
   clear c3
   have H' := aM H
   clear H
   go_wp2
   go_loopg [5, 7] k1 (fun kq v5 v7 w' => ∃ (x5_2 : List ByteArray) (x7_2 : Int), v7 = .int .i64 x7_2 /\ Az (r_Imports.l1 kq l0 a1 x5_2 x6_1 x7_2 = some r) /\ Az (kq <= k1) /\ Az (Kd.R Kd.string 9 w' w.heap.size (fun _ => True) v5 x5_2) /\ Az (Below w.heap.size w w'))
   case atStart => exact ⟨(x5_1), (0), rr, H', ⟨Nat.le_refl _⟩, ⟨rk HO_5⟩, ⟨hh HB⟩⟩
   case round =>
    clear H'
    clear c3b0
    obtain ⟨x5_2, x7_2, rfl, HA, HK2, HO_5, HB⟩ := hrel
    cases gk with
    | zero => exact absurd HA.1 (by simp [r_Imports.l1])
    | succ k2 =>
     have H := HA.1
     clear HA
     simp only [r_Imports.l1] at H
     by_cases c4 : 0 <= x6_1
     rotate_left
     · rw [if_neg c4] at H
       exact absurd H (by simp)
     rw [if_pos c4] at H
     have c4b0 : decide (0 <= x6_1) = true := decide_eq_true c4
     clear c4
     by_cases c5 : x6_1 < (l0.length : Int)
     rotate_left
     · rw [if_neg c5] at H
       exact absurd H (by simp)
     rw [if_pos c5] at H
     have c5b0 : decide (x6_1 < (l0.length : Int)) = true := decide_eq_true c5
     clear c5
     by_cases c6 : x7_2 < (((rd_T42 l0 x6_1).f3).length : Int)
     rotate_left
     · rw [if_neg c6] at H
       have c6b0 : decide (x7_2 < (((rd_T42 l0 x6_1).f3).length : Int)) = false := decide_eq_false c6
       clear c6
       have H' := aM H
       clear H
       have p321 : 0 <= (x6_1 : Int) := dt
       have q321 : x6_1 < (l0.length : Int) := dt
       obtain ⟨ad321, A321_2, c321_2, A321_3, c321_3, e321, hx321_0, hx321_1, hx321_2, hx321_3, hx321_4, hl321_2, hi321_2, hl321_3, hi321_3⟩ := at_T42 HR0.1 x6_1 p321 q321
       cases e321
       replace hx321_0 := hx HB hx321_0
       replace hx321_1 := hx HB hx321_1
       have hw_ea321_2 := aM hx321_2; replace hx321_2 := hx HB hx321_2
       have hw_ea321_3 := aM hx321_3; replace hx321_3 := hx HB hx321_3
       replace hx321_4 := hx HB hx321_4
       have HR321_2 := aM hi321_2
       have HC321_2 := aM hl321_2
       clear hi321_2 hl321_2
       have HR321_3 := aM hi321_3
       have HC321_3 := aM hl321_3
       clear hi321_3 hl321_3
       replace p321 := eq_true p321
       replace q321 := eq_true q321
       go_wp2
       go_roundg k2
       case measure => have := HK1.1; have := HK2.1; omega
       case rel => exact ⟨(x5_2), (wrap64 (x6_1 + 1)), rr, H', ⟨by have := HK1.1; have := HK2.1; omega⟩, ⟨rk HO_5⟩, ⟨hh HB⟩⟩
     rw [if_pos c6] at H
     have c6b0 : decide (x7_2 < (((rd_T42 l0 x6_1).f3).length : Int)) = true := decide_eq_true c6
     clear c6
     by_cases c7 : ((rd_T42 l0 x6_1).f0).toList = a1.toList
     rotate_left
     · rw [if_neg c7] at H
       have c7b0 : (((rd_T42 l0 x6_1).f0).toList == a1.toList) = false := beq_eq_false_iff_ne.mpr c7
       have c7b1 : (((rd_T42 l0 x6_1).f0).toList != a1.toList) = true := bne_iff_ne.mpr c7
       have H' := aM H
       clear H
       have p321 : 0 <= (x6_1 : Int) := dt
       have q321 : x6_1 < (l0.length : Int) := dt
       obtain ⟨ad321, A321_2, c321_2, A321_3, c321_3, e321, hx321_0, hx321_1, hx321_2, hx321_3, hx321_4, hl321_2, hi321_2, hl321_3, hi321_3⟩ := at_T42 HR0.1 x6_1 p321 q321
       cases e321
       replace hx321_0 := hx HB hx321_0
       replace hx321_1 := hx HB hx321_1
       have hw_ea321_2 := aM hx321_2; replace hx321_2 := hx HB hx321_2
       have hw_ea321_3 := aM hx321_3; replace hx321_3 := hx HB hx321_3
       replace hx321_4 := hx HB hx321_4
       have HR321_2 := aM hi321_2
       have HC321_2 := aM hl321_2
       clear hi321_2 hl321_2
       have HR321_3 := aM hi321_3
       have HC321_3 := aM hl321_3
       clear hi321_3 hl321_3
       replace p321 := eq_true p321
       replace q321 := eq_true q321
       have p322 : 0 <= (x6_1 : Int) := dt
       have q322 : x6_1 < (l0.length : Int) := dt
       obtain ⟨ad322, A322_2, c322_2, A322_3, c322_3, e322, hx322_0, hx322_1, hx322_2, hx322_3, hx322_4, hl322_2, hi322_2, hl322_3, hi322_3⟩ := at_T42 HR0.1 x6_1 p322 q322
       obtain rfl : ad321 = ad322 := (by injection e322)
       replace hx322_0 := hx HB hx322_0
       replace hx322_1 := hx HB hx322_1
       have hw_ea322_2 := aM hx322_2; replace hx322_2 := hx HB hx322_2
       have hw_ea322_3 := aM hx322_3; replace hx322_3 := hx HB hx322_3
       replace hx322_4 := hx HB hx322_4
       have HR322_2 := aM hi322_2
       have HC322_2 := aM hl322_2
       clear hi322_2 hl322_2
       have HR322_3 := aM hi322_3
       have HC322_3 := aM hl322_3
       clear hi322_3 hl322_3
       replace p322 := eq_true p322
       replace q322 := eq_true q322
       have ea_ := Option.some.inj (by first | exact hx321_2.symm.trans hx322_2 | exact hw_ea321_2.1.symm.trans hw_ea322_2.1)
       injection ea_ with ea_ en_ ec_
       subst ea_
       subst ec_
       clear en_
       have ea_ := Option.some.inj (by first | exact hx321_3.symm.trans hx322_3 | exact hw_ea321_3.1.symm.trans hw_ea322_3.1)
       injection ea_ with ea_ en_ ec_
       subst ea_
       subst ec_
       clear en_
       go_wp2
       go_roundg k2
       case measure => have := HK1.1; have := HK2.1; omega
       case rel => exact ⟨(x5_2), (wrap64 (x6_1 + 1)), rr, H', ⟨by have := HK1.1; have := HK2.1; omega⟩, ⟨rk HO_5⟩, ⟨hh HB⟩⟩
     rw [if_pos c7] at H
     have c7b0 : (((rd_T42 l0 x6_1).f0).toList == a1.toList) = true := beq_iff_eq.mpr c7
     have c7b1 : (((rd_T42 l0 x6_1).f0).toList != a1.toList) = false := bne_eq_false_iff_eq.mpr c7
     clear c7
     by_cases c8 : 0 <= x7_2
     rotate_left
     · rw [if_neg c8] at H
       exact absurd H (by simp)
     rw [if_pos c8] at H
     have c8b0 : decide (0 <= x7_2) = true := decide_eq_true c8
     clear c8
     replace H := Option.bind_eq_some_iff.mp H
     obtain ⟨t325, A90, H⟩ := H
     try dsimp only at H
     have A9 := aM A90
     clear A90
     have H' := aM H
     clear H
     have p321 : 0 <= (x6_1 : Int) := dt
     have q321 : x6_1 < (l0.length : Int) := dt
     obtain ⟨ad321, A321_2, c321_2, A321_3, c321_3, e321, hx321_0, hx321_1, hx321_2, hx321_3, hx321_4, hl321_2, hi321_2, hl321_3, hi321_3⟩ := at_T42 HR0.1 x6_1 p321 q321
     cases e321
     replace hx321_0 := hx HB hx321_0
     replace hx321_1 := hx HB hx321_1
     have hw_ea321_2 := aM hx321_2; replace hx321_2 := hx HB hx321_2
     have hw_ea321_3 := aM hx321_3; replace hx321_3 := hx HB hx321_3
     replace hx321_4 := hx HB hx321_4
     have HR321_2 := aM hi321_2
     have HC321_2 := aM hl321_2
     clear hi321_2 hl321_2
     have HR321_3 := aM hi321_3
     have HC321_3 := aM hl321_3
     clear hi321_3 hl321_3
     replace p321 := eq_true p321
     replace q321 := eq_true q321
     have p322 : 0 <= (x6_1 : Int) := dt
     have q322 : x6_1 < (l0.length : Int) := dt
     obtain ⟨ad322, A322_2, c322_2, A322_3, c322_3, e322, hx322_0, hx322_1, hx322_2, hx322_3, hx322_4, hl322_2, hi322_2, hl322_3, hi322_3⟩ := at_T42 HR0.1 x6_1 p322 q322
     obtain rfl : ad321 = ad322 := (by injection e322)
     replace hx322_0 := hx HB hx322_0
     replace hx322_1 := hx HB hx322_1
     have hw_ea322_2 := aM hx322_2; replace hx322_2 := hx HB hx322_2
     have hw_ea322_3 := aM hx322_3; replace hx322_3 := hx HB hx322_3
     replace hx322_4 := hx HB hx322_4
     have HR322_2 := aM hi322_2
     have HC322_2 := aM hl322_2
     clear hi322_2 hl322_2
     have HR322_3 := aM hi322_3
     have HC322_3 := aM hl322_3
     clear hi322_3 hl322_3
     replace p322 := eq_true p322
     replace q322 := eq_true q322
     have ea_ := Option.some.inj (by first | exact hx321_2.symm.trans hx322_2 | exact hw_ea321_2.1.symm.trans hw_ea322_2.1)
     injection ea_ with ea_ en_ ec_
     subst ea_
     subst ec_
     clear en_
     have ea_ := Option.some.inj (by first | exact hx321_3.symm.trans hx322_3 | exact hw_ea321_3.1.symm.trans hw_ea322_3.1)
     injection ea_ with ea_ en_ ec_
     subst ea_
     subst ec_
     clear en_
     have p323 : 0 <= (x6_1 : Int) := dt
     have q323 : x6_1 < (l0.length : Int) := dt
     obtain ⟨ad323, A323_2, c323_2, A323_3, c323_3, e323, hx323_0, hx323_1, hx323_2, hx323_3, hx323_4, hl323_2, hi323_2, hl323_3, hi323_3⟩ := at_T42 HR0.1 x6_1 p323 q323
     obtain rfl : ad321 = ad323 := (by injection e323)
     replace hx323_0 := hx HB hx323_0
     replace hx323_1 := hx HB hx323_1
     have hw_ea323_2 := aM hx323_2; replace hx323_2 := hx HB hx323_2
     have hw_ea323_3 := aM hx323_3; replace hx323_3 := hx HB hx323_3
     replace hx323_4 := hx HB hx323_4
     have HR323_2 := aM hi323_2
     have HC323_2 := aM hl323_2
     clear hi323_2 hl323_2
     have HR323_3 := aM hi323_3
     have HC323_3 := aM hl323_3
     clear hi323_3 hl323_3
     replace p323 := eq_true p323
     replace q323 := eq_true q323
     have ea_ := Option.some.inj (by first | exact hx321_2.symm.trans hx323_2 | exact hw_ea321_2.1.symm.trans hw_ea323_2.1)
     injection ea_ with ea_ en_ ec_
     subst ea_
     subst ec_
     clear en_
     have ea_ := Option.some.inj (by first | exact hx321_3.symm.trans hx323_3 | exact hw_ea321_3.1.symm.trans hw_ea323_3.1)
     injection ea_ with ea_ en_ ec_
     subst ea_
     subst ec_
     clear en_
     have p324 : 0 <= (x7_2 : Int) := dt
     have q324 : x7_2 < (((rd_T42 l0 x6_1).f3).length : Int) := dt
     obtain ⟨ad324, A324_5, c324_5, e324, hx324_0, hx324_1, hx324_2, hx324_3, hx324_4, hx324_5, hl324_5, hi324_5⟩ := at_T66 HR323_3.1 x7_2 p324 q324
     cases e324
     replace hx324_0 := hx HB hx324_0
     replace hx324_1 := hx HB hx324_1
     replace hx324_2 := hx HB hx324_2
     replace hx324_3 := hx HB hx324_3
     replace hx324_4 := hx HB hx324_4
     replace hx324_5 := hx HB hx324_5
     have HR324_5 := aM hi324_5
     have HC324_5 := aM hl324_5
     clear hi324_5 hl324_5
     replace p324 := eq_true p324
     replace q324 := eq_true q324
     obtain ⟨Ao10, co10, eo10⟩ := R_slice HO_5.1
     subst eo10
     go_wp2_with (first | ((with_reducible refine gate_callee (f := 38) rfl ?_); refine gL (some 43) rfl rfl Try.func38 (by kernel_rfl) rfl #[.slice Ao10 x5_2.length co10, .string ((rd_T66 ((rd_T42 l0 x6_1).f3) x7_2).f0)] rfl ?_; (with_reducible refine (r_Insert.calls k2 _ _ x5_2 ((rd_T66 ((rd_T42 l0 x6_1).f3) x7_2).f0) t325 _ ?side1 ?side2 A9.1).mono ?_); (case side1 => exact cr HO_5); (case side2 => exact (R_reads' HO_5.1).2.1); rintro e w11 ⟨v326, rfl, ho0, hb⟩; refine ⟨_, rfl, ?_⟩; have HO327 := aM (R_lower (R_new' ho0 (R_lt (rk HO_5))) (below_size (hh HB))); replace HO_5 := aM (R_elder' (rk HO_5) (R_base ho0) hb); replace HB := bs HB hb; clear hb ho0))
     go_roundg k2
     case measure => have := HK1.1; have := HK2.1; omega
     case rel => exact ⟨(t325), (wrap64 (x7_2 + 1)), rr, H', ⟨by have := HK1.1; have := HK2.1; omega⟩, ⟨rz (R_mono HO327.1 (fun _ hk => trivial))⟩, ⟨hh HB⟩⟩
noncomputable def r_Names.l0 : Nat -> List (S42) -> List ByteArray -> Int -> Option (List ByteArray)
 | 0, _, _, _ => none
 | k + 1, x0, x3, x4 => if x4 < (x0.length : Int) then (if 0 <= x4 then ((r_Insert.f k x3 ((rd_T42 x0 x4).f0)).bind fun t329 => (r_Names.l0 k x0 t329 (wrap64 (x4 + 1)))) else (none)) else (some x3)
noncomputable def r_Names.f (k : Nat) (l0 : List (S42)) : Option (List ByteArray) := r_Names.l0 k l0 ([] : List ByteArray) 0
theorem r_Names.calls (k : Nat) (A0 : Option Addr) (c0 : Nat) (l0 : List (S42)) (r : List ByteArray) (w : World) (hr0 : Kd.C k42 w A0 l0.length l0) (hc0 : l0.length <= c0) (h : r_Names.f k l0 = some r) :
 Calls Try.prog 28 #[.slice A0 l0.length c0] w fun e w' => ∃ v0_ : Value, e = .returned (v0_) /\ Kd.R Kd.string 9 w' w.heap.size (fun _ => True) v0_ r /\ Below w.heap.size w w' := by
 have HR0 := aM hr0
 have HC0 := aM hc0
 clear hr0 hc0
 have HB := aM (Below.refl w.heap.size w)
 have H : (r_Names.l0 k l0 ([] : List ByteArray) 0) = some r := h
 clear h
 have H' := aM H
 clear H
 go_enter Try.func28, Try.ntmps28
 go_wp2
 go_loopg [3, 4] k (fun kq v3 v4 w' => ∃ (x3_1 : List ByteArray) (x4_1 : Int), v4 = .int .i64 x4_1 /\ Az (r_Names.l0 kq l0 x3_1 x4_1 = some r) /\ Az (kq <= k) /\ Az (Kd.R Kd.string 9 w' w.heap.size (fun _ => True) v3 x3_1) /\ Az (Below w.heap.size w w'))
 case atStart => exact ⟨(([] : List ByteArray)), (0), rr, H', ⟨Nat.le_refl _⟩, ⟨by first | exact R_nil _ _ _ _ _ | exact N_nil _ _ _ _ _ | exact V_nil _ _ _ _ _ | exact Q_nil _ _ _ _ _ | exact S_nil _ _ _ _ _⟩, ⟨hh HB⟩⟩
 case round =>
  clear H'
  obtain ⟨x3_1, x4_1, rfl, HA, HK1, HO_3, HB⟩ := hrel
  cases gk with
  | zero => exact absurd HA.1 (by simp [r_Names.l0])
  | succ k1 =>
   have H := HA.1
   clear HA
   simp only [r_Names.l0] at H
   by_cases c2 : x4_1 < (l0.length : Int)
   rotate_left
   · rw [if_neg c2] at H
     have c2b0 : decide (x4_1 < (l0.length : Int)) = false := decide_eq_false c2
     clear c2
     obtain rfl := Option.some.inj H
     go_wp2
     go_ret
     exact ⟨_, by first | rfl | (simp [errW_none, errW_some] <;> rfl) | (simp [*, errW_none, errW_some] <;> rfl), rk HO_3, hh HB⟩
   rw [if_pos c2] at H
   have c2b0 : decide (x4_1 < (l0.length : Int)) = true := decide_eq_true c2
   clear c2
   by_cases c3 : 0 <= x4_1
   rotate_left
   · rw [if_neg c3] at H
     exact absurd H (by simp)
   rw [if_pos c3] at H
   have c3b0 : decide (0 <= x4_1) = true := decide_eq_true c3
   clear c3
   replace H := Option.bind_eq_some_iff.mp H
   obtain ⟨t329, A40, H⟩ := H
   try dsimp only at H
   have A4 := aM A40
   clear A40
   have H' := aM H
   clear H
   have p328 : 0 <= (x4_1 : Int) := dt
   have q328 : x4_1 < (l0.length : Int) := dt
   obtain ⟨ad328, A328_2, c328_2, A328_3, c328_3, e328, hx328_0, hx328_1, hx328_2, hx328_3, hx328_4, hl328_2, hi328_2, hl328_3, hi328_3⟩ := at_T42 HR0.1 x4_1 p328 q328
   cases e328
   replace hx328_0 := hx HB hx328_0
   replace hx328_1 := hx HB hx328_1
   replace hx328_2 := hx HB hx328_2
   replace hx328_3 := hx HB hx328_3
   replace hx328_4 := hx HB hx328_4
   have HR328_2 := aM hi328_2
   have HC328_2 := aM hl328_2
   clear hi328_2 hl328_2
   have HR328_3 := aM hi328_3
   have HC328_3 := aM hl328_3
   clear hi328_3 hl328_3
   replace p328 := eq_true p328
   replace q328 := eq_true q328
   obtain ⟨Ao5, co5, eo5⟩ := R_slice HO_3.1
   subst eo5
   go_wp2_with (first | ((with_reducible refine gate_callee (f := 38) rfl ?_); refine gL (some 17) rfl rfl Try.func38 (by kernel_rfl) rfl #[.slice Ao5 x3_1.length co5, .string ((rd_T42 l0 x4_1).f0)] rfl ?_; (with_reducible refine (r_Insert.calls k1 _ _ x3_1 ((rd_T42 l0 x4_1).f0) t329 _ ?side1 ?side2 A4.1).mono ?_); (case side1 => exact cr HO_3); (case side2 => exact (R_reads' HO_3.1).2.1); rintro e w6 ⟨v330, rfl, ho0, hb⟩; refine ⟨_, rfl, ?_⟩; have HO331 := aM (R_lower (R_new' ho0 (R_lt (rk HO_3))) (below_size (hh HB))); replace HO_3 := aM (R_elder' (rk HO_3) (R_base ho0) hb); replace HB := bs HB hb; clear hb ho0))
   go_roundg k1
   case measure => have := HK1.1; omega
   case rel => exact ⟨(t329), (wrap64 (x4_1 + 1)), rr, H', ⟨by have := HK1.1; omega⟩, ⟨rz (R_mono HO331.1 (fun _ hk => trivial))⟩, ⟨hh HB⟩⟩
mutual
noncomputable def r_consistent.l0 : Nat -> List (S42) -> List ByteArray -> Int -> Option (Int × ByteArray × Int × Int)
 | 0, _, _, _ => none
 | k + 1, x0, x3, x4 => if x4 < (x0.length : Int) then (if 0 <= x4 then ((q_Has.f k x3 ((rd_T42 x0 x4).f0)).bind fun t334 => (if t334 = true then (some (13, (rd_T42 x0 x4).f0, 0, 0)) else (if x3.length < 8796093022208 then (r_consistent.l0 k x0 (x3 ++ [(rd_T42 x0 x4).f0]) (wrap64 (x4 + 1))) else (none)))) else (none)) else (r_consistent.l1 k x0 x3 0)
noncomputable def r_consistent.l1 : Nat -> List (S42) -> List ByteArray -> Int -> Option (Int × ByteArray × Int × Int)
 | 0, _, _, _ => none
 | k + 1, x0, x3, x5 => if x5 < (x0.length : Int) then (r_consistent.l2 k x0 x3 x5 0) else (some (0, (⟨#[]⟩ : ByteArray), 0, 0))
noncomputable def r_consistent.l2 : Nat -> List (S42) -> List ByteArray -> Int -> Int -> Option (Int × ByteArray × Int × Int)
 | 0, _, _, _, _ => none
 | k + 1, x0, x3, x5, x6 => if 0 <= x5 then (if x5 < (x0.length : Int) then (if x6 < (((rd_T42 x0 x5).f3).length : Int) then (if 0 <= x6 then ((q_Has.f k x3 ((rd_T66 ((rd_T42 x0 x5).f3) x6).f0)).bind fun t343 => (if t343 = true then (r_consistent.l2 k x0 x3 x5 (wrap64 (x6 + 1))) else (some (16, (rd_T66 ((rd_T42 x0 x5).f3) x6).f0, 0, 0)))) else (none)) else (r_consistent.l1 k x0 x3 (wrap64 (x5 + 1)))) else (none)) else (none)
end
noncomputable def r_consistent.f (k : Nat) (l0 : List (S42)) : Option (Int × ByteArray × Int × Int) := if (l0.length : Int) > 32 then (some (3, (⟨#[]⟩ : ByteArray), 0, 0)) else (r_consistent.l0 k l0 ([] : List ByteArray) 0)
theorem r_consistent.calls (k : Nat) (A0 : Option Addr) (c0 : Nat) (l0 : List (S42)) (r1 : Int) (r2 : ByteArray) (r3 : Int) (r4 : Int) (w : World) (hr0 : Kd.C k42 w A0 l0.length l0) (hc0 : l0.length <= c0) (h : r_consistent.f k l0 = some (r1, r2, r3, r4)) :
 Calls Try.prog 36 #[.slice A0 l0.length c0] w fun e w' => e = .returned (.agg #[.int .i64 r1, .string r2, .int .i64 r3, .int .i64 r4]) /\ Below w.heap.size w w' := by
 have hu28 := Try.underlying28
 have HR0 := aM hr0
 have HC0 := aM hc0
 clear hr0 hc0
 have HB := aM (Below.refl w.heap.size w)
 have H : (if (l0.length : Int) > 32 then (some (3, (⟨#[]⟩ : ByteArray), 0, 0)) else (r_consistent.l0 k l0 ([] : List ByteArray) 0)) = some (r1, r2, r3, r4) := h
 clear h
 by_cases c2 : (l0.length : Int) > 32
 · rw [if_pos c2] at H
   have c2b0 : decide (32 < (l0.length : Int)) = true := decide_eq_true c2
   have c2b1 : decide (32 < l0.length) = true := decide_eq_true (by omega)
   clear c2
   simp only [Option.some.injEq, Prod.mk.injEq] at H
   obtain ⟨rfl, rfl, rfl, rfl⟩ := H
   go_enter Try.func36, Try.ntmps36
   go_wp2_with (first | ((with_reducible refine gate_dst (N := 2) rfl ?_); refine be 2 rfl rfl #[.int .i64 0, .string (⟨#[]⟩ : ByteArray), .int .i64 0, .int .i64 0] 28 ?_; intro gb332 hg w3 hbox hb; have BK332 := aM hbox; have GE332 := gs hg HB; replace HB := bs HB hb; clear hb hbox hg; obtain ⟨hcz4_0, hcz4_1, hcz4_2, hcz4_3⟩ := cz BK332; obtain ⟨hfz4_0, hfz4_1, hfz4_2, hfz4_3⟩ := fz BK332))
   refine bodyPost_ret (results_cell_row rfl _ _ gb332 28 #[.int .i64 3, .string (⟨#[]⟩ : ByteArray), .int .i64 0, .int .i64 0] (0, 0) _ rfl (kf BK332) Try.underlying28 rfl (by kernel_rfl)) rfl ?_
   exact ⟨by first | rfl | (simp [errW_none, errW_some] <;> rfl) | (simp [*, errW_none, errW_some] <;> rfl), hh HB⟩
 rw [if_neg c2] at H
 have c2b0 : decide (32 < (l0.length : Int)) = false := decide_eq_false c2
 have c2b1 : decide (32 < l0.length) = false := decide_eq_false (by omega)
 clear c2
 have H' := aM H
 clear H
 go_enter Try.func36, Try.ntmps36
 go_wp2_with (first | ((with_reducible refine gate_dst (N := 2) rfl ?_); refine be 2 rfl rfl #[.int .i64 0, .string (⟨#[]⟩ : ByteArray), .int .i64 0, .int .i64 0] 28 ?_; intro gb332 hg w5 hbox hb; have BK332 := aM hbox; have GE332 := gs hg HB; replace HB := bs HB hb; clear hb hbox hg))
 go_loopg [3, 4] k (fun kq v3 v4 w' => ∃ (x3_1 : List ByteArray) (x4_1 : Int) (x333000_1 : Int) (x333001_1 : ByteArray) (x333002_1 : Int) (x333003_1 : Int), v4 = .int .i64 x4_1 /\ Az (r_consistent.l0 kq l0 x3_1 x4_1 = some (r1, r2, r3, r4)) /\ Az (kq <= k) /\ Az (Kd.R Kd.string 9 w' w.heap.size (fun _ => True) v3 x3_1) /\ Az (w'.heap[gb332]? = some (.cells #[.int .i64 x333000_1, .string x333001_1, .int .i64 x333002_1, .int .i64 x333003_1] 28 (0, 0))) /\ Az (Below w.heap.size w w'))
 case atStart => exact ⟨(([] : List ByteArray)), (0), (0), ((⟨#[]⟩ : ByteArray)), (0), (0), rr, H', ⟨Nat.le_refl _⟩, ⟨by first | exact R_nil _ _ _ _ _ | exact N_nil _ _ _ _ _ | exact V_nil _ _ _ _ _ | exact Q_nil _ _ _ _ _ | exact S_nil _ _ _ _ _⟩, ⟨kk BK332⟩, ⟨hh HB⟩⟩
 case round =>
  clear H'
  clear c2b0 c2b1
  obtain ⟨x3_1, x4_1, x333000_1, x333001_1, x333002_1, x333003_1, rfl, HA, HK1, HO_3, BK332, HB⟩ := hrel
  cases gk with
  | zero => exact absurd HA.1 (by simp [r_consistent.l0])
  | succ k1 =>
   have H := HA.1
   clear HA
   simp only [r_consistent.l0] at H
   by_cases c6 : x4_1 < (l0.length : Int)
   · rw [if_pos c6] at H
     have c6b0 : decide (x4_1 < (l0.length : Int)) = true := decide_eq_true c6
     clear c6
     by_cases c7 : 0 <= x4_1
     rotate_left
     · rw [if_neg c7] at H
       exact absurd H (by simp)
     rw [if_pos c7] at H
     have c7b0 : decide (0 <= x4_1) = true := decide_eq_true c7
     clear c7
     replace H := Option.bind_eq_some_iff.mp H
     obtain ⟨t334, A80, H⟩ := H
     replace H : (if t334 = true then (some (13, (rd_T42 l0 x4_1).f0, 0, 0)) else (if x3_1.length < 8796093022208 then (r_consistent.l0 k1 l0 (x3_1 ++ [(rd_T42 l0 x4_1).f0]) (wrap64 (x4_1 + 1))) else (none))) = some (r1, r2, r3, r4) := H
     have A8 := aM A80
     clear A80
     by_cases c9 : t334 = true
     · subst c9
       have H1 : (some (13, (rd_T42 l0 x4_1).f0, 0, 0)) = some (r1, r2, r3, r4) := by rw [if_pos rfl] at H; exact H
       clear H
       have H := H1
       clear H1
       simp only [Option.some.injEq, Prod.mk.injEq] at H
       obtain ⟨rfl, rfl, rfl, rfl⟩ := H
       have p333 : 0 <= (x4_1 : Int) := dt
       have q333 : x4_1 < (l0.length : Int) := dt
       obtain ⟨ad333, A333_2, c333_2, A333_3, c333_3, e333, hx333_0, hx333_1, hx333_2, hx333_3, hx333_4, hl333_2, hi333_2, hl333_3, hi333_3⟩ := at_T42 HR0.1 x4_1 p333 q333
       cases e333
       replace hx333_0 := hx HB hx333_0
       replace hx333_1 := hx HB hx333_1
       have hw_ea333_2 := aM hx333_2; replace hx333_2 := hx HB hx333_2
       have hw_ea333_3 := aM hx333_3; replace hx333_3 := hx HB hx333_3
       replace hx333_4 := hx HB hx333_4
       have HR333_2 := aM hi333_2
       have HC333_2 := aM hl333_2
       clear hi333_2 hl333_2
       have HR333_3 := aM hi333_3
       have HC333_3 := aM hl333_3
       clear hi333_3 hl333_3
       replace p333 := eq_true p333
       replace q333 := eq_true q333
       obtain ⟨Ao10, co10, eo10⟩ := R_slice HO_3.1
       subst eo10
       go_wp2_with (first | ((with_reducible refine gate_callee (f := 21) rfl ?_); refine gL (some 23) rfl rfl Try.func21 (by kernel_rfl) rfl #[.slice Ao10 x3_1.length co10, .string ((rd_T42 l0 x4_1).f0)] rfl ?_; (with_reducible refine (q_Has.calls k1 _ _ x3_1 ((rd_T42 l0 x4_1).f0) true _ ?side1 ?side2 A8.1).mono ?_); (case side1 => exact cr HO_3); (case side2 => exact (R_reads' HO_3.1).2.1); rintro e w' ⟨rfl, ⟨nd, rfl⟩⟩; refine ⟨_, rfl, ?_⟩; (try (rw [drewN_self wr]; generalize hq_ : World.drewN wr _ = wr; have n0_ : Az (Kd.R Kd.string 9 wr w.heap.size (fun _ => True) (.slice Ao10 x3_1.length co10) x3_1) := ⟨by rw [<- hq_]; exact (rk HO_3)⟩; have n1_ : Az (wr.heap[gb332]? = some (.cells #[.int .i64 x333000_1, .string x333001_1, .int .i64 x333002_1, .int .i64 x333003_1] 28 (0, 0))) := ⟨by rw [<- hq_]; exact (kk BK332)⟩; have n2_ : Az (Below w.heap.size w wr) := ⟨by rw [<- hq_]; exact (hh HB)⟩; clear HO_3 BK332 HB hq_; have HO_3 := n0_; have BK332 := n1_; have HB := n2_; clear n0_ n1_ n2_)); have p335 : 0 <= (x4_1 : Int) := dt; have q335 : x4_1 < (l0.length : Int) := dt; obtain ⟨ad335, A335_2, c335_2, A335_3, c335_3, e335, hx335_0, hx335_1, hx335_2, hx335_3, hx335_4, hl335_2, hi335_2, hl335_3, hi335_3⟩ := at_T42 HR0.1 x4_1 p335 q335; obtain rfl : ad333 = ad335 := (by injection e335); replace hx335_0 := hx HB hx335_0; replace hx335_1 := hx HB hx335_1; have hw_ea335_2 := aM hx335_2; replace hx335_2 := hx HB hx335_2; have hw_ea335_3 := aM hx335_3; replace hx335_3 := hx HB hx335_3; replace hx335_4 := hx HB hx335_4; have HR335_2 := aM hi335_2; have HC335_2 := aM hl335_2; clear hi335_2 hl335_2; have HR335_3 := aM hi335_3; have HC335_3 := aM hl335_3; clear hi335_3 hl335_3; replace p335 := eq_true p335; replace q335 := eq_true q335; have ea_ := Option.some.inj (by first | exact hx333_2.symm.trans hx335_2 | exact hw_ea333_2.1.symm.trans hw_ea335_2.1); injection ea_ with ea_ en_ ec_; subst ea_; subst ec_; clear en_; have ea_ := Option.some.inj (by first | exact hx333_3.symm.trans hx335_3 | exact hw_ea333_3.1.symm.trans hw_ea335_3.1); injection ea_ with ea_ en_ ec_; subst ea_; subst ec_; clear en_; obtain ⟨hcz11_0, hcz11_1, hcz11_2, hcz11_3⟩ := cz BK332; obtain ⟨hfz11_0, hfz11_1, hfz11_2, hfz11_3⟩ := fz BK332))
       refine bodyPost_ret (results_cell_row rfl _ _ gb332 28 #[.int .i64 13, .string ((rd_T42 l0 x4_1).f0), .int .i64 0, .int .i64 0] (0, 0) _ rfl (kf BK332) Try.underlying28 rfl (by kernel_rfl)) rfl ?_
       exact ⟨by first | rfl | (simp [errW_none, errW_some] <;> rfl) | (simp [*, errW_none, errW_some] <;> rfl), hh HB⟩
     replace c9 := Bool.eq_false_iff.mpr c9
     subst c9
     have H1 : (if x3_1.length < 8796093022208 then (r_consistent.l0 k1 l0 (x3_1 ++ [(rd_T42 l0 x4_1).f0]) (wrap64 (x4_1 + 1))) else (none)) = some (r1, r2, r3, r4) := by rw [if_neg (show ¬ (false = true) by decide)] at H; exact H
     clear H
     have H := H1
     clear H1
     by_cases c12 : x3_1.length < 8796093022208
     rotate_left
     · rw [if_neg c12] at H
       exact absurd H (by simp)
     rw [if_pos c12] at H
     have LMc12 := aM c12
     clear c12
     obtain ⟨y337, hy337⟩ : ∃ y_ : List ByteArray, y_ = (x3_1 ++ [(rd_T42 l0 x4_1).f0]) := ⟨_, rfl⟩
     replace H : (r_consistent.l0 k1 l0 y337 (wrap64 (x4_1 + 1))) = some (r1, r2, r3, r4) := by first | (rw [hy337]; with_reducible exact H) | (have H2_ := (Option.bind_some _ _).symm.trans H; rw [hy337]; with_reducible exact H2_) | (have H2_ := (Option.bind_some _ _).symm.trans H; with_reducible exact H2_) | with_reducible exact H | (rw [hy337]; exact H) | exact H
     have Ny337 := aM hy337
     clear hy337
     have H' := aM H
     clear H
     have p333 : 0 <= (x4_1 : Int) := dt
     have q333 : x4_1 < (l0.length : Int) := dt
     obtain ⟨ad333, A333_2, c333_2, A333_3, c333_3, e333, hx333_0, hx333_1, hx333_2, hx333_3, hx333_4, hl333_2, hi333_2, hl333_3, hi333_3⟩ := at_T42 HR0.1 x4_1 p333 q333
     cases e333
     replace hx333_0 := hx HB hx333_0
     replace hx333_1 := hx HB hx333_1
     have hw_ea333_2 := aM hx333_2; replace hx333_2 := hx HB hx333_2
     have hw_ea333_3 := aM hx333_3; replace hx333_3 := hx HB hx333_3
     replace hx333_4 := hx HB hx333_4
     have HR333_2 := aM hi333_2
     have HC333_2 := aM hl333_2
     clear hi333_2 hl333_2
     have HR333_3 := aM hi333_3
     have HC333_3 := aM hl333_3
     clear hi333_3 hl333_3
     replace p333 := eq_true p333
     replace q333 := eq_true q333
     obtain ⟨Ao13, co13, eo13⟩ := R_slice HO_3.1
     subst eo13
     go_wp2_with (first | ((with_reducible refine gate_callee (f := 21) rfl ?_); refine gL (some 23) rfl rfl Try.func21 (by kernel_rfl) rfl #[.slice Ao13 x3_1.length co13, .string ((rd_T42 l0 x4_1).f0)] rfl ?_; (with_reducible refine (q_Has.calls k1 _ _ x3_1 ((rd_T42 l0 x4_1).f0) false _ ?side1 ?side2 A8.1).mono ?_); (case side1 => exact cr HO_3); (case side2 => exact (R_reads' HO_3.1).2.1); rintro e w' ⟨rfl, ⟨nd, rfl⟩⟩; refine ⟨_, rfl, ?_⟩; have p336 : 0 <= (x4_1 : Int) := dt; have q336 : x4_1 < (l0.length : Int) := dt; obtain ⟨ad336, A336_2, c336_2, A336_3, c336_3, e336, hx336_0, hx336_1, hx336_2, hx336_3, hx336_4, hl336_2, hi336_2, hl336_3, hi336_3⟩ := at_T42 HR0.1 x4_1 p336 q336; obtain rfl : ad333 = ad336 := (by injection e336); replace hx336_0 := hx HB hx336_0; replace hx336_1 := hx HB hx336_1; have hw_ea336_2 := aM hx336_2; replace hx336_2 := hx HB hx336_2; have hw_ea336_3 := aM hx336_3; replace hx336_3 := hx HB hx336_3; replace hx336_4 := hx HB hx336_4; have HR336_2 := aM hi336_2; have HC336_2 := aM hl336_2; clear hi336_2 hl336_2; have HR336_3 := aM hi336_3; have HC336_3 := aM hl336_3; clear hi336_3 hl336_3; replace p336 := eq_true p336; replace q336 := eq_true q336; have ea_ := Option.some.inj (by first | exact hx333_2.symm.trans hx336_2 | exact hw_ea333_2.1.symm.trans hw_ea336_2.1); injection ea_ with ea_ en_ ec_; subst ea_; subst ec_; clear en_; have ea_ := Option.some.inj (by first | exact hx333_3.symm.trans hx336_3 | exact hw_ea333_3.1.symm.trans hw_ea336_3.1); injection ea_ with ea_ en_ ec_; subst ea_; subst ec_; clear en_) | ((with_reducible refine gate_builtin (b := .append) (xs := #[.tmp 30, .tmp 36]) rfl ?_); at_builtin; refine R_append Kd.string (w0 := w) w.heap.size rfl (.tmp 30) (.tmp 36) 25 9 (.string ⟨#[]⟩) 16 rfl Try.underlying25 info9 rfl (by decide) (by omega) (.slice Ao13 x3_1.length co13) x3_1 ((rd_T42 l0 x4_1).f0) [.string ((rd_T42 l0 x4_1).f0)] (fun _ => True) (fun _ => False) rfl rfl ?aP (fun _ hk => hk.elim) ?aF ?aO ?aB ?aS ?aL ?_; (case aP => exact rfl); (case aB => exact (hh HB)); (case aF => exact (fun _ _ => trivial)); (case aO => exact (rk HO_3)); (case aS => exact (below_size (hh HB))); (case aL => have := LMc12.1; omega); intro v338 w14 ho hb hg hat; rw [<- Ny337.1] at ho; have HO339 := aM (ho); replace BK332 := aM (blk_grown (g := gb332) (o := .cells #[.int .i64 x333000_1, .string x333001_1, .int .i64 x333002_1, .int .i64 x333003_1] 28 (0, 0)) (kk BK332) hg (R_ne HO_3.1 BK332.1 (by decide))); replace HB := aM (hb); clear HO_3; clear ho hb hg hat))
     go_roundg k1
     case measure => have := HK1.1; omega
     case rel => exact ⟨(y337), (wrap64 (x4_1 + 1)), (x333000_1), (x333001_1), (x333002_1), (x333003_1), rr, H', ⟨by have := HK1.1; omega⟩, ⟨rk HO339⟩, ⟨kk BK332⟩, ⟨hh HB⟩⟩
   rw [if_neg c6] at H
   have c6b0 : decide (x4_1 < (l0.length : Int)) = false := decide_eq_false c6
   clear c6
   have H' := aM H
   clear H
   go_wp2
   go_loopg [5] k1 (fun kq v5 w' => ∃ (x5_2 : Int) (x333000_2 : Int) (x333001_2 : ByteArray) (x333002_2 : Int) (x333003_2 : Int), v5 = .int .i64 x5_2 /\ Az (r_consistent.l1 kq l0 x3_1 x5_2 = some (r1, r2, r3, r4)) /\ Az (kq <= k1) /\ Az (Kd.R Kd.string 9 w' w.heap.size (fun _ => True) u3 x3_1) /\ Az (w'.heap[gb332]? = some (.cells #[.int .i64 x333000_2, .string x333001_2, .int .i64 x333002_2, .int .i64 x333003_2] 28 (0, 0))) /\ Az (Below w.heap.size w w'))
   case atStart => exact ⟨(0), (x333000_1), (x333001_1), (x333002_1), (x333003_1), rr, H', ⟨Nat.le_refl _⟩, ⟨rk HO_3⟩, ⟨kk BK332⟩, ⟨hh HB⟩⟩
   case round =>
    clear H'
    clear c6b0
    obtain ⟨x5_2, x333000_2, x333001_2, x333002_2, x333003_2, rfl, HA, HK2, HO_3, BK332, HB⟩ := hrel
    cases gk with
    | zero => exact absurd HA.1 (by simp [r_consistent.l1])
    | succ k2 =>
     have H := HA.1
     clear HA
     simp only [r_consistent.l1] at H
     by_cases c15 : x5_2 < (l0.length : Int)
     rotate_left
     · rw [if_neg c15] at H
       have c15b0 : decide (x5_2 < (l0.length : Int)) = false := decide_eq_false c15
       clear c15
       simp only [Option.some.injEq, Prod.mk.injEq] at H
       obtain ⟨rfl, rfl, rfl, rfl⟩ := H
       obtain ⟨hcz25_0, hcz25_1, hcz25_2, hcz25_3⟩ := cz BK332
       obtain ⟨hfz25_0, hfz25_1, hfz25_2, hfz25_3⟩ := fz BK332
       go_wp2
       refine bodyPost_ret (results_cell_row rfl _ _ gb332 28 #[.int .i64 0, .string (⟨#[]⟩ : ByteArray), .int .i64 0, .int .i64 0] (0, 0) _ rfl (kf BK332) Try.underlying28 rfl (by kernel_rfl)) rfl ?_
       exact ⟨by first | rfl | (simp [errW_none, errW_some] <;> rfl) | (simp [*, errW_none, errW_some] <;> rfl), hh HB⟩
     rw [if_pos c15] at H
     have c15b0 : decide (x5_2 < (l0.length : Int)) = true := decide_eq_true c15
     clear c15
     have H' := aM H
     clear H
     go_wp2
     go_loopg [6] k2 (fun kq v6 w' => ∃ (x6_3 : Int) (x333000_3 : Int) (x333001_3 : ByteArray) (x333002_3 : Int) (x333003_3 : Int), v6 = .int .i64 x6_3 /\ Az (r_consistent.l2 kq l0 x3_1 x5_2 x6_3 = some (r1, r2, r3, r4)) /\ Az (kq <= k2) /\ Az (Kd.R Kd.string 9 w' w.heap.size (fun _ => True) u3 x3_1) /\ Az (w'.heap[gb332]? = some (.cells #[.int .i64 x333000_3, .string x333001_3, .int .i64 x333002_3, .int .i64 x333003_3] 28 (0, 0))) /\ Az (Below w.heap.size w w'))
     case atStart => exact ⟨(0), (x333000_2), (x333001_2), (x333002_2), (x333003_2), rr, H', ⟨Nat.le_refl _⟩, ⟨rk HO_3⟩, ⟨kk BK332⟩, ⟨hh HB⟩⟩
     case round =>
      clear H'
      clear c15b0
      obtain ⟨x6_3, x333000_3, x333001_3, x333002_3, x333003_3, rfl, HA, HK3, HO_3, BK332, HB⟩ := hrel
      cases gk with
      | zero => exact absurd HA.1 (by simp [r_consistent.l2])
      | succ k3 =>
       have H := HA.1
       clear HA
       simp only [r_consistent.l2] at H
       by_cases c16 : 0 <= x5_2
       rotate_left
       · rw [if_neg c16] at H
         exact absurd H (by simp)
       rw [if_pos c16] at H
       have c16b0 : decide (0 <= x5_2) = true := decide_eq_true c16
       clear c16
       by_cases c17 : x5_2 < (l0.length : Int)
       rotate_left
       · rw [if_neg c17] at H
         exact absurd H (by simp)
       rw [if_pos c17] at H
       have c17b0 : decide (x5_2 < (l0.length : Int)) = true := decide_eq_true c17
       clear c17
       by_cases c18 : x6_3 < (((rd_T42 l0 x5_2).f3).length : Int)
       rotate_left
       · rw [if_neg c18] at H
         have c18b0 : decide (x6_3 < (((rd_T42 l0 x5_2).f3).length : Int)) = false := decide_eq_false c18
         clear c18
         have H' := aM H
         clear H
         have p340 : 0 <= (x5_2 : Int) := dt
         have q340 : x5_2 < (l0.length : Int) := dt
         obtain ⟨ad340, A340_2, c340_2, A340_3, c340_3, e340, hx340_0, hx340_1, hx340_2, hx340_3, hx340_4, hl340_2, hi340_2, hl340_3, hi340_3⟩ := at_T42 HR0.1 x5_2 p340 q340
         cases e340
         replace hx340_0 := hx HB hx340_0
         replace hx340_1 := hx HB hx340_1
         have hw_ea340_2 := aM hx340_2; replace hx340_2 := hx HB hx340_2
         have hw_ea340_3 := aM hx340_3; replace hx340_3 := hx HB hx340_3
         replace hx340_4 := hx HB hx340_4
         have HR340_2 := aM hi340_2
         have HC340_2 := aM hl340_2
         clear hi340_2 hl340_2
         have HR340_3 := aM hi340_3
         have HC340_3 := aM hl340_3
         clear hi340_3 hl340_3
         replace p340 := eq_true p340
         replace q340 := eq_true q340
         go_wp2
         go_roundg k3
         case measure => have := HK1.1; have := HK2.1; have := HK3.1; omega
         case rel => exact ⟨(wrap64 (x5_2 + 1)), (x333000_3), (x333001_3), (x333002_3), (x333003_3), rr, H', ⟨by have := HK1.1; have := HK2.1; have := HK3.1; omega⟩, ⟨rk HO_3⟩, ⟨kk BK332⟩, ⟨hh HB⟩⟩
       rw [if_pos c18] at H
       have c18b0 : decide (x6_3 < (((rd_T42 l0 x5_2).f3).length : Int)) = true := decide_eq_true c18
       clear c18
       by_cases c19 : 0 <= x6_3
       rotate_left
       · rw [if_neg c19] at H
         exact absurd H (by simp)
       rw [if_pos c19] at H
       have c19b0 : decide (0 <= x6_3) = true := decide_eq_true c19
       clear c19
       replace H := Option.bind_eq_some_iff.mp H
       obtain ⟨t343, A200, H⟩ := H
       replace H : (if t343 = true then (r_consistent.l2 k3 l0 x3_1 x5_2 (wrap64 (x6_3 + 1))) else (some (16, (rd_T66 ((rd_T42 l0 x5_2).f3) x6_3).f0, 0, 0))) = some (r1, r2, r3, r4) := H
       have A20 := aM A200
       clear A200
       by_cases c21 : t343 = true
       · subst c21
         have H1 : (r_consistent.l2 k3 l0 x3_1 x5_2 (wrap64 (x6_3 + 1))) = some (r1, r2, r3, r4) := by rw [if_pos rfl] at H; exact H
         clear H
         have H := H1
         clear H1
         have H' := aM H
         clear H
         have p340 : 0 <= (x5_2 : Int) := dt
         have q340 : x5_2 < (l0.length : Int) := dt
         obtain ⟨ad340, A340_2, c340_2, A340_3, c340_3, e340, hx340_0, hx340_1, hx340_2, hx340_3, hx340_4, hl340_2, hi340_2, hl340_3, hi340_3⟩ := at_T42 HR0.1 x5_2 p340 q340
         cases e340
         replace hx340_0 := hx HB hx340_0
         replace hx340_1 := hx HB hx340_1
         have hw_ea340_2 := aM hx340_2; replace hx340_2 := hx HB hx340_2
         have hw_ea340_3 := aM hx340_3; replace hx340_3 := hx HB hx340_3
         replace hx340_4 := hx HB hx340_4
         have HR340_2 := aM hi340_2
         have HC340_2 := aM hl340_2
         clear hi340_2 hl340_2
         have HR340_3 := aM hi340_3
         have HC340_3 := aM hl340_3
         clear hi340_3 hl340_3
         replace p340 := eq_true p340
         replace q340 := eq_true q340
         have p341 : 0 <= (x5_2 : Int) := dt
         have q341 : x5_2 < (l0.length : Int) := dt
         obtain ⟨ad341, A341_2, c341_2, A341_3, c341_3, e341, hx341_0, hx341_1, hx341_2, hx341_3, hx341_4, hl341_2, hi341_2, hl341_3, hi341_3⟩ := at_T42 HR0.1 x5_2 p341 q341
         obtain rfl : ad340 = ad341 := (by injection e341)
         replace hx341_0 := hx HB hx341_0
         replace hx341_1 := hx HB hx341_1
         have hw_ea341_2 := aM hx341_2; replace hx341_2 := hx HB hx341_2
         have hw_ea341_3 := aM hx341_3; replace hx341_3 := hx HB hx341_3
         replace hx341_4 := hx HB hx341_4
         have HR341_2 := aM hi341_2
         have HC341_2 := aM hl341_2
         clear hi341_2 hl341_2
         have HR341_3 := aM hi341_3
         have HC341_3 := aM hl341_3
         clear hi341_3 hl341_3
         replace p341 := eq_true p341
         replace q341 := eq_true q341
         have ea_ := Option.some.inj (by first | exact hx340_2.symm.trans hx341_2 | exact hw_ea340_2.1.symm.trans hw_ea341_2.1)
         injection ea_ with ea_ en_ ec_
         subst ea_
         subst ec_
         clear en_
         have ea_ := Option.some.inj (by first | exact hx340_3.symm.trans hx341_3 | exact hw_ea340_3.1.symm.trans hw_ea341_3.1)
         injection ea_ with ea_ en_ ec_
         subst ea_
         subst ec_
         clear en_
         have p342 : 0 <= (x6_3 : Int) := dt
         have q342 : x6_3 < (((rd_T42 l0 x5_2).f3).length : Int) := dt
         obtain ⟨ad342, A342_5, c342_5, e342, hx342_0, hx342_1, hx342_2, hx342_3, hx342_4, hx342_5, hl342_5, hi342_5⟩ := at_T66 HR341_3.1 x6_3 p342 q342
         cases e342
         replace hx342_0 := hx HB hx342_0
         replace hx342_1 := hx HB hx342_1
         replace hx342_2 := hx HB hx342_2
         replace hx342_3 := hx HB hx342_3
         replace hx342_4 := hx HB hx342_4
         replace hx342_5 := hx HB hx342_5
         have HR342_5 := aM hi342_5
         have HC342_5 := aM hl342_5
         clear hi342_5 hl342_5
         replace p342 := eq_true p342
         replace q342 := eq_true q342
         obtain ⟨Ao22, co22, eo22⟩ := R_slice HO_3.1
         subst eo22
         go_wp2_with (first | ((with_reducible refine gate_callee (f := 21) rfl ?_); refine gL (some 64) rfl rfl Try.func21 (by kernel_rfl) rfl #[.slice Ao22 x3_1.length co22, .string ((rd_T66 ((rd_T42 l0 x5_2).f3) x6_3).f0)] rfl ?_; (with_reducible refine (q_Has.calls k3 _ _ x3_1 ((rd_T66 ((rd_T42 l0 x5_2).f3) x6_3).f0) true _ ?side1 ?side2 A20.1).mono ?_); (case side1 => exact cr HO_3); (case side2 => exact (R_reads' HO_3.1).2.1); rintro e w' ⟨rfl, ⟨nd, rfl⟩⟩; refine ⟨_, rfl, ?_⟩))
         go_roundg k3
         case measure => have := HK1.1; have := HK2.1; have := HK3.1; omega
         case rel => exact ⟨(wrap64 (x6_3 + 1)), (x333000_3), (x333001_3), (x333002_3), (x333003_3), rr, H', ⟨by have := HK1.1; have := HK2.1; have := HK3.1; omega⟩, ⟨rk HO_3⟩, ⟨kk BK332⟩, ⟨hh HB⟩⟩
       replace c21 := Bool.eq_false_iff.mpr c21
       subst c21
       have H1 : (some (16, (rd_T66 ((rd_T42 l0 x5_2).f3) x6_3).f0, 0, 0)) = some (r1, r2, r3, r4) := by rw [if_neg (show ¬ (false = true) by decide)] at H; exact H
       clear H
       have H := H1
       clear H1
       simp only [Option.some.injEq, Prod.mk.injEq] at H
       obtain ⟨rfl, rfl, rfl, rfl⟩ := H
       have p340 : 0 <= (x5_2 : Int) := dt
       have q340 : x5_2 < (l0.length : Int) := dt
       obtain ⟨ad340, A340_2, c340_2, A340_3, c340_3, e340, hx340_0, hx340_1, hx340_2, hx340_3, hx340_4, hl340_2, hi340_2, hl340_3, hi340_3⟩ := at_T42 HR0.1 x5_2 p340 q340
       cases e340
       replace hx340_0 := hx HB hx340_0
       replace hx340_1 := hx HB hx340_1
       have hw_ea340_2 := aM hx340_2; replace hx340_2 := hx HB hx340_2
       have hw_ea340_3 := aM hx340_3; replace hx340_3 := hx HB hx340_3
       replace hx340_4 := hx HB hx340_4
       have HR340_2 := aM hi340_2
       have HC340_2 := aM hl340_2
       clear hi340_2 hl340_2
       have HR340_3 := aM hi340_3
       have HC340_3 := aM hl340_3
       clear hi340_3 hl340_3
       replace p340 := eq_true p340
       replace q340 := eq_true q340
       have p341 : 0 <= (x5_2 : Int) := dt
       have q341 : x5_2 < (l0.length : Int) := dt
       obtain ⟨ad341, A341_2, c341_2, A341_3, c341_3, e341, hx341_0, hx341_1, hx341_2, hx341_3, hx341_4, hl341_2, hi341_2, hl341_3, hi341_3⟩ := at_T42 HR0.1 x5_2 p341 q341
       obtain rfl : ad340 = ad341 := (by injection e341)
       replace hx341_0 := hx HB hx341_0
       replace hx341_1 := hx HB hx341_1
       have hw_ea341_2 := aM hx341_2; replace hx341_2 := hx HB hx341_2
       have hw_ea341_3 := aM hx341_3; replace hx341_3 := hx HB hx341_3
       replace hx341_4 := hx HB hx341_4
       have HR341_2 := aM hi341_2
       have HC341_2 := aM hl341_2
       clear hi341_2 hl341_2
       have HR341_3 := aM hi341_3
       have HC341_3 := aM hl341_3
       clear hi341_3 hl341_3
       replace p341 := eq_true p341
       replace q341 := eq_true q341
       have ea_ := Option.some.inj (by first | exact hx340_2.symm.trans hx341_2 | exact hw_ea340_2.1.symm.trans hw_ea341_2.1)
       injection ea_ with ea_ en_ ec_
       subst ea_
       subst ec_
       clear en_
       have ea_ := Option.some.inj (by first | exact hx340_3.symm.trans hx341_3 | exact hw_ea340_3.1.symm.trans hw_ea341_3.1)
       injection ea_ with ea_ en_ ec_
       subst ea_
       subst ec_
       clear en_
       have p342 : 0 <= (x6_3 : Int) := dt
       have q342 : x6_3 < (((rd_T42 l0 x5_2).f3).length : Int) := dt
       obtain ⟨ad342, A342_5, c342_5, e342, hx342_0, hx342_1, hx342_2, hx342_3, hx342_4, hx342_5, hl342_5, hi342_5⟩ := at_T66 HR341_3.1 x6_3 p342 q342
       cases e342
       replace hx342_0 := hx HB hx342_0
       replace hx342_1 := hx HB hx342_1
       replace hx342_2 := hx HB hx342_2
       replace hx342_3 := hx HB hx342_3
       replace hx342_4 := hx HB hx342_4
       replace hx342_5 := hx HB hx342_5
       have HR342_5 := aM hi342_5
       have HC342_5 := aM hl342_5
       clear hi342_5 hl342_5
       replace p342 := eq_true p342
       replace q342 := eq_true q342
       obtain ⟨Ao23, co23, eo23⟩ := R_slice HO_3.1
       subst eo23
       go_wp2_with (first | ((with_reducible refine gate_callee (f := 21) rfl ?_); refine gL (some 64) rfl rfl Try.func21 (by kernel_rfl) rfl #[.slice Ao23 x3_1.length co23, .string ((rd_T66 ((rd_T42 l0 x5_2).f3) x6_3).f0)] rfl ?_; (with_reducible refine (q_Has.calls k3 _ _ x3_1 ((rd_T66 ((rd_T42 l0 x5_2).f3) x6_3).f0) false _ ?side1 ?side2 A20.1).mono ?_); (case side1 => exact cr HO_3); (case side2 => exact (R_reads' HO_3.1).2.1); rintro e w' ⟨rfl, ⟨nd, rfl⟩⟩; refine ⟨_, rfl, ?_⟩; (try (rw [drewN_self wr]; generalize hq_ : World.drewN wr _ = wr; have n0_ : Az (Kd.R Kd.string 9 wr w.heap.size (fun _ => True) (.slice Ao23 x3_1.length co23) x3_1) := ⟨by rw [<- hq_]; exact (rk HO_3)⟩; have n1_ : Az (wr.heap[gb332]? = some (.cells #[.int .i64 x333000_3, .string x333001_3, .int .i64 x333002_3, .int .i64 x333003_3] 28 (0, 0))) := ⟨by rw [<- hq_]; exact (kk BK332)⟩; have n2_ : Az (Below w.heap.size w wr) := ⟨by rw [<- hq_]; exact (hh HB)⟩; clear HO_3 BK332 HB hq_; have HO_3 := n0_; have BK332 := n1_; have HB := n2_; clear n0_ n1_ n2_)); have p344 : 0 <= (x5_2 : Int) := dt; have q344 : x5_2 < (l0.length : Int) := dt; obtain ⟨ad344, A344_2, c344_2, A344_3, c344_3, e344, hx344_0, hx344_1, hx344_2, hx344_3, hx344_4, hl344_2, hi344_2, hl344_3, hi344_3⟩ := at_T42 HR0.1 x5_2 p344 q344; obtain rfl : ad340 = ad344 := (by injection e344); replace hx344_0 := hx HB hx344_0; replace hx344_1 := hx HB hx344_1; have hw_ea344_2 := aM hx344_2; replace hx344_2 := hx HB hx344_2; have hw_ea344_3 := aM hx344_3; replace hx344_3 := hx HB hx344_3; replace hx344_4 := hx HB hx344_4; have HR344_2 := aM hi344_2; have HC344_2 := aM hl344_2; clear hi344_2 hl344_2; have HR344_3 := aM hi344_3; have HC344_3 := aM hl344_3; clear hi344_3 hl344_3; replace p344 := eq_true p344; replace q344 := eq_true q344; have ea_ := Option.some.inj (by first | exact hx340_2.symm.trans hx344_2 | exact hw_ea340_2.1.symm.trans hw_ea344_2.1); injection ea_ with ea_ en_ ec_; subst ea_; subst ec_; clear en_; have ea_ := Option.some.inj (by first | exact hx340_3.symm.trans hx344_3 | exact hw_ea340_3.1.symm.trans hw_ea344_3.1); injection ea_ with ea_ en_ ec_; subst ea_; subst ec_; clear en_; have p345 : 0 <= (x6_3 : Int) := dt; have q345 : x6_3 < (((rd_T42 l0 x5_2).f3).length : Int) := dt; obtain ⟨ad345, A345_5, c345_5, e345, hx345_0, hx345_1, hx345_2, hx345_3, hx345_4, hx345_5, hl345_5, hi345_5⟩ := at_T66 HR344_3.1 x6_3 p345 q345; cases e345; replace hx345_0 := hx HB hx345_0; replace hx345_1 := hx HB hx345_1; replace hx345_2 := hx HB hx345_2; replace hx345_3 := hx HB hx345_3; replace hx345_4 := hx HB hx345_4; replace hx345_5 := hx HB hx345_5; have HR345_5 := aM hi345_5; have HC345_5 := aM hl345_5; clear hi345_5 hl345_5; replace p345 := eq_true p345; replace q345 := eq_true q345; obtain ⟨hcz24_0, hcz24_1, hcz24_2, hcz24_3⟩ := cz BK332; obtain ⟨hfz24_0, hfz24_1, hfz24_2, hfz24_3⟩ := fz BK332))
       refine bodyPost_ret (results_cell_row rfl _ _ gb332 28 #[.int .i64 16, .string ((rd_T66 ((rd_T42 l0 x5_2).f3) x6_3).f0), .int .i64 0, .int .i64 0] (0, 0) _ rfl (kf BK332) Try.underlying28 rfl (by kernel_rfl)) rfl ?_
       exact ⟨by first | rfl | (simp [errW_none, errW_some] <;> rfl) | (simp [*, errW_none, errW_some] <;> rfl), hh HB⟩
mutual
noncomputable def r_back.l0 : Nat -> List (S42) -> ByteArray -> Int -> List ByteArray -> Int -> Option (Bool)
 | 0, _, _, _, _, _ => none
 | k + 1, x0, x2, x3, x9, x10 => if x10 <= x3 then (r_back.l1 k x0 x2 x3 x9 x10 ([] : List ByteArray) 0) else (some false)
noncomputable def r_back.l1 : Nat -> List (S42) -> ByteArray -> Int -> List ByteArray -> Int -> List ByteArray -> Int -> Option (Bool)
 | 0, _, _, _, _, _, _, _ => none
 | k + 1, x0, x2, x3, x9, x10, x11, x12 => if x12 < (x9.length : Int) then (if 0 <= x12 then ((r_Insert.f k x11 (rdOf ByteArray.empty x9 x12)).bind fun t350 => ((r_Imports.f k x0 (rdOf ByteArray.empty x9 x12)).bind fun t354 => (r_back.l2 k x0 x2 x3 x9 x10 t350 x12 t354 0))) else (none)) else (r_back.l0 k x0 x2 x3 x11 (wrap64 (x10 + 1)))
noncomputable def r_back.l2 : Nat -> List (S42) -> ByteArray -> Int -> List ByteArray -> Int -> List ByteArray -> Int -> List ByteArray -> Int -> Option (Bool)
 | 0, _, _, _, _, _, _, _, _, _ => none
 | k + 1, x0, x2, x3, x9, x10, x11, x12, x13, x14 => if x14 < (x13.length : Int) then (if 0 <= x14 then (if (rdOf ByteArray.empty x13 x14).toList = x2.toList then (some true) else ((r_Insert.f k x11 (rdOf ByteArray.empty x13 x14)).bind fun t359 => (r_back.l2 k x0 x2 x3 x9 x10 t359 x12 x13 (wrap64 (x14 + 1))))) else (none)) else (r_back.l1 k x0 x2 x3 x9 x10 x11 (wrap64 (x12 + 1)))
end
noncomputable def r_back.f (k : Nat) (l0 : List (S42)) (a1 : ByteArray) (a2 : ByteArray) (a3 : Int) : Option (Bool) := r_back.l0 k l0 a2 a3 (([a1] : List ByteArray)) 0
theorem r_back.calls (k : Nat) (A0 : Option Addr) (c0 : Nat) (l0 : List (S42)) (a1 : ByteArray) (a2 : ByteArray) (a3 : Int) (r : Bool) (w : World) (hr0 : Kd.C k42 w A0 l0.length l0) (hc0 : l0.length <= c0) (h : r_back.f k l0 a1 a2 a3 = some r) :
 Calls Try.prog 49 #[.slice A0 l0.length c0, .string a1, .string a2, .int .i64 a3] w fun e w' => e = .returned (.bool r) /\ Below w.heap.size w w' := by
 have HR0 := aM hr0
 have HC0 := aM hc0
 clear hr0 hc0
 have HB := aM (Below.refl w.heap.size w)
 have H : (r_back.l0 k l0 a2 a3 (([a1] : List ByteArray)) 0) = some r := h
 clear h
 obtain ⟨y346, hy346⟩ : ∃ y_ : List ByteArray, y_ = (([a1] : List ByteArray)) := ⟨_, rfl⟩
 replace H : (r_back.l0 k l0 a2 a3 y346 0) = some r := by first | (rw [hy346]; with_reducible exact H) | (have H2_ := (Option.bind_some _ _).symm.trans H; rw [hy346]; with_reducible exact H2_) | (have H2_ := (Option.bind_some _ _).symm.trans H; with_reducible exact H2_) | with_reducible exact H | (rw [hy346]; exact H) | exact H
 have Ny346 := aM hy346
 clear hy346
 have H' := aM H
 clear H
 go_enter Try.func49, Try.ntmps49
 go_wp2_with (first | ((with_reducible refine gate_dst (N := 16) rfl ?_); refine R_lit Kd.string _ 9 ?hg (N := 16) ?hd (xs := ([a1] : List ByteArray)) (inner := [.string a1]) (ok := fun _ => True) (okp := fun _ => True) ?hr ?hp (fun _ hk => hk) trivial (Below.refl _ _) (Nat.le_refl _) (by simp) ?_; (case hd => rfl); (case hg => rfl); (case hr => first | (go_simp; done) | (go_simp; rfl)); (case hp => exact (Reps.one (show Kd.M Kd.string _ _ _ a1 [.string a1] from rfl) (Reps.none _ _))); intro v347 w5 ho6 hb hg_ hnew_; clear hg_ hnew_; (first | rw [<- Ny346.1] at ho6 | (simp only [Int.reduceToNat] at ho6; rw [<- Ny346.1] at ho6)); have HO348 := aM (R_lower ho6 (below_size (hh HB))); replace HB := bs HB hb; clear hb ho6))
 go_loopg [9, 10] k (fun kq v9 v10 w' => ∃ (x9_1 : List ByteArray) (x10_1 : Int), v10 = .int .i64 x10_1 /\ Az (r_back.l0 kq l0 a2 a3 x9_1 x10_1 = some r) /\ Az (kq <= k) /\ Az (Kd.R Kd.string 9 w' w.heap.size (fun _ => True) v9 x9_1) /\ Az (Below w.heap.size w w'))
 case atStart => exact ⟨(y346), (0), rr, H', ⟨Nat.le_refl _⟩, ⟨rk HO348⟩, ⟨hh HB⟩⟩
 case round =>
  clear H'
  obtain ⟨x9_1, x10_1, rfl, HA, HK1, HO_9, HB⟩ := hrel
  cases gk with
  | zero => exact absurd HA.1 (by simp [r_back.l0])
  | succ k1 =>
   have H := HA.1
   clear HA
   simp only [r_back.l0] at H
   by_cases c7 : x10_1 <= a3
   rotate_left
   · rw [if_neg c7] at H
     have c7b0 : decide (x10_1 <= a3) = false := decide_eq_false c7
     clear c7
     obtain rfl := Option.some.inj H
     go_wp2
     go_ret
     exact ⟨by first | rfl | (simp [errW_none, errW_some] <;> rfl) | (simp [*, errW_none, errW_some] <;> rfl), hh HB⟩
   rw [if_pos c7] at H
   have c7b0 : decide (x10_1 <= a3) = true := decide_eq_true c7
   clear c7
   have H' := aM H
   clear H
   go_wp2
   go_loopg [11, 12] k1 (fun kq v11 v12 w' => ∃ (x11_2 : List ByteArray) (x12_2 : Int), v12 = .int .i64 x12_2 /\ Az (r_back.l1 kq l0 a2 a3 x9_1 x10_1 x11_2 x12_2 = some r) /\ Az (kq <= k1) /\ Az (Kd.R Kd.string 9 w' w.heap.size (fun k_ => some k_ ≠ (v11 : Value).ownBlock) u9 x9_1) /\ Az (Kd.R Kd.string 9 w' w.heap.size (fun k_ => some k_ ≠ (u9 : Value).ownBlock) v11 x11_2) /\ Az (Below w.heap.size w w'))
   case atStart => exact ⟨(([] : List ByteArray)), (0), rr, H', ⟨Nat.le_refl _⟩, ⟨rz (R_mono HO_9.1 (fun _ hk => (by simp [Value.ownBlock])))⟩, ⟨by first | exact R_nil _ _ _ _ _ | exact N_nil _ _ _ _ _ | exact V_nil _ _ _ _ _ | exact Q_nil _ _ _ _ _ | exact S_nil _ _ _ _ _⟩, ⟨hh HB⟩⟩
   case round =>
    clear H'
    clear c7b0
    obtain ⟨x11_2, x12_2, rfl, HA, HK2, HO_9, HO_11, HB⟩ := hrel
    cases gk with
    | zero => exact absurd HA.1 (by simp [r_back.l1])
    | succ k2 =>
     have H := HA.1
     clear HA
     simp only [r_back.l1] at H
     by_cases c8 : x12_2 < (x9_1.length : Int)
     rotate_left
     · rw [if_neg c8] at H
       have c8b0 : decide (x12_2 < (x9_1.length : Int)) = false := decide_eq_false c8
       clear c8
       have H' := aM H
       clear H
       obtain ⟨Ao25, co25, eo25⟩ := R_slice HO_9.1
       subst eo25
       go_wp2
       go_roundg k2
       case measure => have := HK1.1; have := HK2.1; omega
       case rel => exact ⟨(x11_2), (wrap64 (x10_1 + 1)), rr, H', ⟨by have := HK1.1; have := HK2.1; omega⟩, ⟨rz (R_mono HO_11.1 (fun _ hk => trivial))⟩, ⟨hh HB⟩⟩
     rw [if_pos c8] at H
     have c8b0 : decide (x12_2 < (x9_1.length : Int)) = true := decide_eq_true c8
     clear c8
     by_cases c9 : 0 <= x12_2
     rotate_left
     · rw [if_neg c9] at H
       exact absurd H (by simp)
     rw [if_pos c9] at H
     have c9b0 : decide (0 <= x12_2) = true := decide_eq_true c9
     clear c9
     replace H := Option.bind_eq_some_iff.mp H
     obtain ⟨t350, A100, H⟩ := H
     try dsimp only at H
     have A10 := aM A100
     clear A100
     replace H := Option.bind_eq_some_iff.mp H
     obtain ⟨t354, A110, H⟩ := H
     try dsimp only at H
     have A11 := aM A110
     clear A110
     have H' := aM H
     clear H
     obtain ⟨Ao12, co12, eo12⟩ := R_slice HO_9.1
     subst eo12
     have p349 : 0 <= (x12_2 : Int) := dt
     have q349 : x12_2 < (x9_1.length : Int) := dt
     obtain ⟨ad349, e349, hx349_0⟩ := Kd.at_string (R_reads' HO_9.1).2.2 x12_2 p349 q349
     cases e349
     replace p349 := eq_true p349
     replace q349 := eq_true q349
     obtain ⟨Ao13, co13, eo13⟩ := R_slice HO_11.1
     subst eo13
     go_wp2_with (first | ((with_reducible refine gate_callee (f := 38) rfl ?_); refine gL (some 33) rfl rfl Try.func38 (by kernel_rfl) rfl #[.slice Ao13 x11_2.length co13, .string (rdOf ByteArray.empty x9_1 x12_2)] rfl ?_; (with_reducible refine (r_Insert.calls k2 _ _ x11_2 (rdOf ByteArray.empty x9_1 x12_2) t350 _ ?side1 ?side2 A10.1).mono ?_); (case side1 => exact cr HO_11); (case side2 => exact (R_reads' HO_11.1).2.1); rintro e w14 ⟨v351, rfl, ho0, hb⟩; refine ⟨_, rfl, ?_⟩; have HO352 := aM (R_lower (R_new' (R_new' ho0 (R_lt (rk HO_9))) (R_lt (rk HO_11))) (below_size (hh HB))); replace HO_9 := aM (R_elder' (rk HO_9) (R_base ho0) hb); replace HO_11 := aM (R_elder' (rk HO_11) (R_base ho0) hb); replace HB := bs HB hb; clear hb ho0; have p353 : 0 <= (x12_2 : Int) := dt; have q353 : x12_2 < (x9_1.length : Int) := dt; obtain ⟨ad353, e353, hx353_0⟩ := Kd.at_string (R_reads' HO_9.1).2.2 x12_2 p353 q353; obtain rfl : ad349 = ad353 := (by injection e353); replace p353 := eq_true p353; replace q353 := eq_true q353) | ((with_reducible refine gate_callee (f := 22) rfl ?_); refine gL (some 39) rfl rfl Try.func22 (by kernel_rfl) rfl #[.slice A0 l0.length c0, .string (rdOf ByteArray.empty x9_1 x12_2)] rfl ?_; (with_reducible refine (r_Imports.calls k2 _ _ l0 (rdOf ByteArray.empty x9_1 x12_2) t354 _ ?side1 ?side2 A11.1).mono ?_); (case side1 => exact cb HR0 HB); (case side2 => exact HC0.1); rintro e w15 ⟨v355, rfl, ho0, hb⟩; refine ⟨_, rfl, ?_⟩; have HO356 := aM (R_lower (R_new' (R_new' (R_new' ho0 (R_lt (rk HO_9))) (R_lt (rk HO_11))) (R_lt (rk HO352))) (below_size (hh HB))); replace HO_9 := aM (R_elder' (rk HO_9) (R_base ho0) hb); replace HO_11 := aM (R_elder' (rk HO_11) (R_base ho0) hb); replace HO352 := aM (R_elder' (rk HO352) (R_base ho0) hb); replace HB := bs HB hb; clear hb ho0))
     go_loopg [11, 14] k2 (fun kq v11 v14 w' => ∃ (x11_3 : List ByteArray) (x14_3 : Int), v14 = .int .i64 x14_3 /\ Az (r_back.l2 kq l0 a2 a3 x9_1 x10_1 x11_3 x12_2 t354 x14_3 = some r) /\ Az (kq <= k2) /\ Az (Kd.R Kd.string 9 w' w.heap.size (fun k_ => some k_ ≠ (v11 : Value).ownBlock /\ some k_ ≠ (v355 : Value).ownBlock) (.slice (some ad349) x9_1.length co12) x9_1) /\ Az (Kd.R Kd.string 9 w' w.heap.size (fun k_ => some k_ ≠ ((.slice (some ad349) x9_1.length co12) : Value).ownBlock /\ some k_ ≠ (v355 : Value).ownBlock) v11 x11_3) /\ Az (Kd.R Kd.string 9 w' w.heap.size (fun k_ => some k_ ≠ ((.slice (some ad349) x9_1.length co12) : Value).ownBlock /\ some k_ ≠ (v11 : Value).ownBlock) v355 t354) /\ Az (Below w.heap.size w w'))
     case atStart => exact ⟨(t350), (0), rr, H', ⟨Nat.le_refl _⟩, ⟨rz (R_mono HO_9.1 (fun _ hk => ⟨hk.1.2, hk.2⟩))⟩, ⟨rz (R_mono HO352.1 (fun _ hk => ⟨hk.1.1.2, hk.2⟩))⟩, ⟨rz (R_mono HO356.1 (fun _ hk => ⟨hk.1.1.2, hk.2⟩))⟩, ⟨hh HB⟩⟩
     case round =>
      clear H'
      clear c8b0 c9b0 hx349_0 hx353_0 p349 p353 q349 q353
      obtain ⟨x11_3, x14_3, rfl, HA, HK3, HO_9, HO_11, HO_13, HB⟩ := hrel
      cases gk with
      | zero => exact absurd HA.1 (by simp [r_back.l2])
      | succ k3 =>
       have H := HA.1
       clear HA
       simp only [r_back.l2] at H
       by_cases c16 : x14_3 < (t354.length : Int)
       rotate_left
       · rw [if_neg c16] at H
         have c16b0 : decide (x14_3 < (t354.length : Int)) = false := decide_eq_false c16
         clear c16
         have H' := aM H
         clear H
         obtain ⟨Ao24, co24, eo24⟩ := R_slice HO_13.1
         subst eo24
         go_wp2
         go_roundg k3
         case measure => have := HK1.1; have := HK2.1; have := HK3.1; omega
         case rel => exact ⟨(x11_3), (wrap64 (x12_2 + 1)), rr, H', ⟨by have := HK1.1; have := HK2.1; have := HK3.1; omega⟩, ⟨rz (R_mono HO_9.1 (fun _ hk => hk.1))⟩, ⟨rz (R_mono HO_11.1 (fun _ hk => hk.1))⟩, ⟨hh HB⟩⟩
       rw [if_pos c16] at H
       have c16b0 : decide (x14_3 < (t354.length : Int)) = true := decide_eq_true c16
       clear c16
       by_cases c17 : 0 <= x14_3
       rotate_left
       · rw [if_neg c17] at H
         exact absurd H (by simp)
       rw [if_pos c17] at H
       have c17b0 : decide (0 <= x14_3) = true := decide_eq_true c17
       clear c17
       by_cases c18 : (rdOf ByteArray.empty t354 x14_3).toList = a2.toList
       · rw [if_pos c18] at H
         have c18b0 : ((rdOf ByteArray.empty t354 x14_3).toList == a2.toList) = true := beq_iff_eq.mpr c18
         have c18b1 : ((rdOf ByteArray.empty t354 x14_3).toList != a2.toList) = false := bne_eq_false_iff_eq.mpr c18
         clear c18
         obtain rfl := Option.some.inj H
         obtain ⟨Ao19, co19, eo19⟩ := R_slice HO_13.1
         subst eo19
         have p357 : 0 <= (x14_3 : Int) := dt
         have q357 : x14_3 < (t354.length : Int) := dt
         obtain ⟨ad357, e357, hx357_0⟩ := Kd.at_string (R_reads' HO_13.1).2.2 x14_3 p357 q357
         cases e357
         replace p357 := eq_true p357
         replace q357 := eq_true q357
         go_wp2
         go_ret
         exact ⟨by first | rfl | (simp [errW_none, errW_some] <;> rfl) | (simp [*, errW_none, errW_some] <;> rfl), hh HB⟩
       rw [if_neg c18] at H
       have c18b0 : ((rdOf ByteArray.empty t354 x14_3).toList == a2.toList) = false := beq_eq_false_iff_ne.mpr c18
       have c18b1 : ((rdOf ByteArray.empty t354 x14_3).toList != a2.toList) = true := bne_iff_ne.mpr c18
       replace H := Option.bind_eq_some_iff.mp H
       obtain ⟨t359, A200, H⟩ := H
       try dsimp only at H
       have A20 := aM A200
       clear A200
       have H' := aM H
       clear H
       obtain ⟨Ao21, co21, eo21⟩ := R_slice HO_13.1
       subst eo21
       have p357 : 0 <= (x14_3 : Int) := dt
       have q357 : x14_3 < (t354.length : Int) := dt
       obtain ⟨ad357, e357, hx357_0⟩ := Kd.at_string (R_reads' HO_13.1).2.2 x14_3 p357 q357
       cases e357
       replace p357 := eq_true p357
       replace q357 := eq_true q357
       have p358 : 0 <= (x14_3 : Int) := dt
       have q358 : x14_3 < (t354.length : Int) := dt
       obtain ⟨ad358, e358, hx358_0⟩ := Kd.at_string (R_reads' HO_13.1).2.2 x14_3 p358 q358
       obtain rfl : ad357 = ad358 := (by injection e358)
       replace p358 := eq_true p358
       replace q358 := eq_true q358
       obtain ⟨Ao22, co22, eo22⟩ := R_slice HO_11.1
       subst eo22
       go_wp2_with (first | ((with_reducible refine gate_callee (f := 38) rfl ?_); refine gL (some 57) rfl rfl Try.func38 (by kernel_rfl) rfl #[.slice Ao22 x11_3.length co22, .string (rdOf ByteArray.empty t354 x14_3)] rfl ?_; (with_reducible refine (r_Insert.calls k3 _ _ x11_3 (rdOf ByteArray.empty t354 x14_3) t359 _ ?side1 ?side2 A20.1).mono ?_); (case side1 => exact cr HO_11); (case side2 => exact (R_reads' HO_11.1).2.1); rintro e w23 ⟨v360, rfl, ho0, hb⟩; refine ⟨_, rfl, ?_⟩; have HO361 := aM (R_lower (R_new' (R_new' (R_new' ho0 (R_lt (rk HO_9))) (R_lt (rk HO_11))) (R_lt (rk HO_13))) (below_size (hh HB))); replace HO_9 := aM (R_elder' (rk HO_9) (R_base ho0) hb); replace HO_11 := aM (R_elder' (rk HO_11) (R_base ho0) hb); replace HO_13 := aM (R_elder' (rk HO_13) (R_base ho0) hb); replace HB := bs HB hb; clear hb ho0))
       go_roundg k3
       case measure => have := HK1.1; have := HK2.1; have := HK3.1; omega
       case rel => exact ⟨(t359), (wrap64 (x14_3 + 1)), rr, H', ⟨by have := HK1.1; have := HK2.1; have := HK3.1; omega⟩, ⟨rz (R_mono HO_9.1 (fun _ hk => ⟨hk.2, hk.1.2⟩))⟩, ⟨rz (R_mono HO361.1 (fun _ hk => ⟨hk.1.1.2, hk.2⟩))⟩, ⟨rz (R_mono HO_13.1 (fun _ hk => ⟨hk.1.1, hk.2⟩))⟩, ⟨hh HB⟩⟩
mutual
noncomputable def r_paths.l0 : Nat -> List (S42) -> List ByteArray -> Int -> List ByteArray -> Int -> Option (List ByteArray)
 | 0, _, _, _, _, _ => none
 | k + 1, x0, x1, x2, x7, x8 => if x8 < (x7.length : Int) then (r_paths.j1 k x0 x1 x2 x7 x8 (decide ((x1.length : Int) < x2))) else (r_paths.j1 k x0 x1 x2 x7 x8 false)
noncomputable def r_paths.j1 : Nat -> List (S42) -> List ByteArray -> Int -> List ByteArray -> Int -> Bool -> Option (List ByteArray)
 | 0, _, _, _, _, _, _ => none
 | k + 1, x0, x1, x2, x7, x8, x34 => if x34 = true then (if 0 <= x8 then (if x8 < (x7.length : Int) then ((q_Has.f k x1 (rdOf ByteArray.empty x7 x8)).bind fun t369 => (if t369 = true then (r_paths.j2 k x0 x1 x2 x7 x8 true) else (if 0 < (x1.length : Int) then ((r_back.f k x0 (rdOf ByteArray.empty x7 x8) (rdOf ByteArray.empty x1 0) (wrap64 ((wrap64 (x2 - (x1.length : Int))) - 1))).bind fun t372 => (r_paths.j2 k x0 x1 x2 x7 x8 (!t372))) else (none)))) else (none)) else (none)) else (some ([] : List ByteArray))
noncomputable def r_paths.j2 : Nat -> List (S42) -> List ByteArray -> Int -> List ByteArray -> Int -> Bool -> Option (List ByteArray)
 | 0, _, _, _, _, _, _ => none
 | k + 1, x0, x1, x2, x7, x8, x59 => if x59 = true then (r_paths.l0 k x0 x1 x2 x7 (wrap64 (x8 + 1))) else (if ([] : List ByteArray).length + x1.length < 8796093022208 then ((some (([] : List ByteArray) ++ x1 : List ByteArray)).bind fun y373 => (if 0 <= x8 then (if x8 < (x7.length : Int) then (if y373.length < 8796093022208 then ((r_paths.f k x0 (y373 ++ [rdOf ByteArray.empty x7 x8]) x2).bind fun t380 => (if (t380.length : Int) > 0 then (some t380) else (r_paths.l0 k x0 x1 x2 x7 (wrap64 (x8 + 1))))) else (none)) else (none)) else (none))) else (none))
noncomputable def r_paths.f : Nat -> List (S42) -> List ByteArray -> Int -> Option (List ByteArray)
 | 0, _, _, _ => none
 | k + 1, l0, l1, a2 => if 0 <= (wrap64 ((l1.length : Int) - 1)) then (if (wrap64 ((l1.length : Int) - 1)) < (l1.length : Int) then ((r_Imports.f k l0 (rdOf ByteArray.empty l1 (wrap64 ((l1.length : Int) - 1)))).bind fun t363 => (if 0 < (l1.length : Int) then ((q_Has.f k t363 (rdOf ByteArray.empty l1 0)).bind fun t367 => (if t367 = true then (some l1) else (r_paths.l0 k l0 l1 a2 t363 0))) else (none))) else (none)) else (none)
end
noncomputable def r_paths.T7 : Bool × List (List Nat × List Nat) := (true, [([], []), ([], []), ([], []), ([1, 2], [1, 2]), ([3], [3]), ([0, 4], [0, 4]), ([5, 5], [5]), ([6], [6]), ([6], [6]), ([6], [6]), ([8, 9, 6], [6, 8, 9]), ([10, 6], [6, 10]), ([6], [6]), ([12, 6], [6, 12]), ([13, 6], [6, 13]), ([6], [6]), ([6], [6]), ([16, 6], [6, 16]), ([15, 17, 6], [6, 15, 17]), ([18, 6], [6, 18]), ([7, 11, 14, 19, 6, 6], [6, 7, 11, 14, 19]), ([20, 6], [6, 20]), ([6, 21], [6, 21])])
noncomputable def r_paths.B7 : List Nat := [0, 0, 0, 6, 14, 31, 63, 127, 127, 127, 895, 1919, 127, 4223, 12415, 127, 127, 65663, 229503, 491647, 1048575, 2097151, 4194303]
theorem r_paths.tab7 : rtab .any (opsOf Try.f37 7) = r_paths.T7 := by kernel_rfl
theorem r_paths.bits7 : waitsOk r_paths.T7.2 r_paths.B7 = true := by kernel_rfl
theorem r_paths.calls (k : Nat) : ∀ (A0 : Option Addr) (c0 : Nat) (l0 : List (S42)) (P1_ : Nat -> Prop) (u9000_ : Value) (l1 : List ByteArray) (a2 : Int) (r : List ByteArray) (w0 w : World) (hB : Below w0.heap.size w0 w) (hr0 : ∀ W_, Kept w W_ (fun k_ => P1_ k_) -> Kd.C k42 W_ A0 l0.length l0) (hc0 : l0.length <= c0) (ho1 : Kd.R Kd.string 9 w w0.heap.size P1_ u9000_ l1) (h : r_paths.f k l0 l1 a2 = some r),
 Calls Try.prog 37 #[.slice A0 l0.length c0, u9000_, .int .i64 a2] w fun e w' => ∃ v0_ : Value, e = .returned (v0_) /\ Kd.R Kd.string 9 w' w0.heap.size (fun k_ => (P1_ k_ \/ w.heap.size <= k_)) v0_ r /\ Below w0.heap.size w0 w' /\ Kept w w' (fun k_ => P1_ k_) := by
 induction k using Nat.strongRecOn with
 | _ k ih =>
 intro A0 c0 l0 P1_ u9000_ l1 a2 r w0 w hB hr0 hc0 ho1 h
 cases k with
 | zero => exact absurd h (by simp [r_paths.f])
 | succ k =>
 simp only [r_paths.f] at h
 have HR0 := aM hr0
 have HC0 := aM hc0
 clear hr0 hc0
 have HO1 := aM (show Kd.R Kd.string 9 w w0.heap.size (fun k_ => (P1_ k_ \/ w.heap.size <= k_)) u9000_ l1 from R_mono ho1 (fun k_ hk => (.inl hk)))
 have HK := aM (Kept.refl w (fun k_ => P1_ k_))
 have HW0 := aM hB.size
 have HB := aM hB
 clear hB
 have H : (if 0 <= (wrap64 ((l1.length : Int) - 1)) then (if (wrap64 ((l1.length : Int) - 1)) < (l1.length : Int) then ((r_Imports.f k l0 (rdOf ByteArray.empty l1 (wrap64 ((l1.length : Int) - 1)))).bind fun t363 => (if 0 < (l1.length : Int) then ((q_Has.f k t363 (rdOf ByteArray.empty l1 0)).bind fun t367 => (if t367 = true then (some l1) else (r_paths.l0 k l0 l1 a2 t363 0))) else (none))) else (none)) else (none)) = some r := h
 clear h
 obtain ⟨ji4, hji4⟩ : ∃ j_ : Int, (wrap64 ((l1.length : Int) - 1)) = j_ := ⟨_, rfl⟩
 replace H : (if 0 <= (ji4) then (if (ji4) < (l1.length : Int) then ((r_Imports.f k l0 (rdOf ByteArray.empty l1 (ji4))).bind fun t363 => (if 0 < (l1.length : Int) then ((q_Has.f k t363 (rdOf ByteArray.empty l1 0)).bind fun t367 => (if t367 = true then (some l1) else (r_paths.l0 k l0 l1 a2 t363 0))) else (none))) else (none)) else (none)) = some r := by first | (rw [hji4] at H; exact H) | (simp only [hji4] at H ⊢; exact H)
 have hji4w : (IntKind.i64.wrap ((l1.length : Int) - 1)) = ji4 := (i64_w _).trans hji4
 by_cases c5 : 0 <= (ji4)
 rotate_left
 · rw [if_neg c5] at H
   exact absurd H (by simp)
 rw [if_pos c5] at H
 have c5b0 : decide (0 <= (ji4)) = true := decide_eq_true c5
 clear c5
 by_cases c6 : (ji4) < (l1.length : Int)
 rotate_left
 · rw [if_neg c6] at H
   exact absurd H (by simp)
 rw [if_pos c6] at H
 have c6b0 : decide ((ji4) < (l1.length : Int)) = true := decide_eq_true c6
 clear c6
 replace H := Option.bind_eq_some_iff.mp H
 obtain ⟨t363, A70, H⟩ := H
 try dsimp only at H
 have A7 := aM A70
 clear A70
 by_cases c8 : 0 < (l1.length : Int)
 rotate_left
 · rw [if_neg c8] at H
   exact absurd H (by simp)
 rw [if_pos c8] at H
 have c8b0 : decide (0 < (l1.length : Int)) = true := decide_eq_true c8
 have c8b1 : decide (0 < l1.length) = true := decide_eq_true (by omega)
 clear c8
 replace H := Option.bind_eq_some_iff.mp H
 obtain ⟨t367, A90, H⟩ := H
 try dsimp only at H
 have A9 := aM A90
 clear A90
 by_cases c10 : t367 = true
 · subst c10
   rw [if_pos rfl] at H
   obtain rfl := Option.some.inj H
   obtain ⟨Ao11, co11, eo11⟩ := R_slice HO1.1
   subst eo11
   have p362 : 0 <= ((ji4) : Int) := dt
   have q362 : (ji4) < (l1.length : Int) := dt
   obtain ⟨ad362, e362, hx362_0⟩ := Kd.at_string (R_reads' HO1.1).2.2 (ji4) p362 q362
   cases e362
   replace p362 := eq_true p362
   replace q362 := eq_true q362
   go_enter Try.func37, Try.ntmps37
   go_wp2_with (first | ((with_reducible refine gate_callee (f := 22) rfl ?_); refine goesL_ (some 18) rfl rfl Try.func22 (by kernel_rfl) rfl #[.slice A0 l0.length c0, .string (rdOf ByteArray.empty l1 (ji4))] rfl (by (try simp only [List.map_toArray, List.map_cons, List.map_nil]); first | done | (simp only [hji4]; rfl) | rfl | (simp only [List.length_drop, List.length_take]; rfl)) ?_; (with_reducible refine (r_Imports.calls k _ _ l0 (rdOf ByteArray.empty l1 (ji4)) t363 _ ?side1 ?side2 A7.1).mono ?_); (case side1 => exact C_kept_now HR0.1 (hk HK)); (case side2 => exact HC0.1); rintro e w12 ⟨v364, rfl, ho0, hb⟩; refine ⟨_, rfl, ?_⟩; have HO365 := aM (R_lower (R_new' (R_newM (M := fun k_ => (P1_ k_ \/ w.heap.size <= k_)) ho0 (by first | exact HK.1.1 | exact (show Kept w _ (fun k_ => P1_ k_) from hk HK).1) (fun k_ h_ => .inr h_)) (R_lt (rk HO1))) (below_size (hh HB))); replace HO1 := aM (R_elder' (rk HO1) (R_base ho0) hb); replace HK := aM (Kept.below (S := (fun k_ => P1_ k_)) (hk HK) hb); replace HB := bs HB hb; clear hb ho0; have p366 : 0 <= (0 : Int) := (by omega); have q366 : 0 < (l1.length : Int) := dt; obtain ⟨ad366, e366, hx366_0⟩ := Kd.at_string (R_reads' HO1.1).2.2 0 p366 q366; obtain rfl : ad362 = ad366 := (by injection e366); have qi366 : (0 < l1.length) = True := eq_true (by omega); (try rw [show ((0 : Int)).toNat = 0 from rfl] at hx366_0); (try rw [Addr.add_zero'] at hx366_0); replace p366 := eq_true p366; replace q366 := eq_true q366; obtain ⟨Ao13, co13, eo13⟩ := R_slice HO365.1; subst eo13) | ((with_reducible refine gate_callee (f := 21) rfl ?_); refine gL (some 23) rfl rfl Try.func21 (by kernel_rfl) rfl #[.slice Ao13 t363.length co13, .string (rdOf ByteArray.empty l1 0)] rfl ?_; (with_reducible refine (q_Has.calls k _ _ t363 (rdOf ByteArray.empty l1 0) true _ ?side1 ?side2 A9.1).mono ?_); (case side1 => exact cr HO365); (case side2 => exact (R_reads' HO365.1).2.1); rintro e w' ⟨rfl, ⟨nd, rfl⟩⟩; refine ⟨_, rfl, ?_⟩))
   go_ret
   exact ⟨_, by first | rfl | (simp [errW_none, errW_some] <;> rfl) | (simp only [<- hji4]; first | rfl | (simp [errW_none, errW_some] <;> rfl)) | (simp [*, errW_none, errW_some] <;> rfl), rz (R_mono HO1.1 (fun _ hk => hk.1)), hh HB, hk HK⟩
 replace c10 := Bool.eq_false_iff.mpr c10
 subst c10
 rw [if_neg (show ¬ (false = true) by decide)] at H
 have H' := aM H
 clear H
 obtain ⟨Ao14, co14, eo14⟩ := R_slice HO1.1
 subst eo14
 have p362 : 0 <= ((ji4) : Int) := dt
 have q362 : (ji4) < (l1.length : Int) := dt
 obtain ⟨ad362, e362, hx362_0⟩ := Kd.at_string (R_reads' HO1.1).2.2 (ji4) p362 q362
 cases e362
 replace p362 := eq_true p362
 replace q362 := eq_true q362
 go_enter Try.func37, Try.ntmps37
 go_wp2_with (first | ((with_reducible refine gate_callee (f := 22) rfl ?_); refine goesL_ (some 18) rfl rfl Try.func22 (by kernel_rfl) rfl #[.slice A0 l0.length c0, .string (rdOf ByteArray.empty l1 (ji4))] rfl (by (try simp only [List.map_toArray, List.map_cons, List.map_nil]); first | done | (simp only [hji4]; rfl) | rfl | (simp only [List.length_drop, List.length_take]; rfl)) ?_; (with_reducible refine (r_Imports.calls k _ _ l0 (rdOf ByteArray.empty l1 (ji4)) t363 _ ?side1 ?side2 A7.1).mono ?_); (case side1 => exact C_kept_now HR0.1 (hk HK)); (case side2 => exact HC0.1); rintro e w15 ⟨v364, rfl, ho0, hb⟩; refine ⟨_, rfl, ?_⟩; have HO365 := aM (R_lower (R_new' (R_newM (M := fun k_ => (P1_ k_ \/ w.heap.size <= k_)) ho0 (by first | exact HK.1.1 | exact (show Kept w _ (fun k_ => P1_ k_) from hk HK).1) (fun k_ h_ => .inr h_)) (R_lt (rk HO1))) (below_size (hh HB))); replace HO1 := aM (R_elder' (rk HO1) (R_base ho0) hb); replace HK := aM (Kept.below (S := (fun k_ => P1_ k_)) (hk HK) hb); replace HB := bs HB hb; clear hb ho0; have p366 : 0 <= (0 : Int) := (by omega); have q366 : 0 < (l1.length : Int) := dt; obtain ⟨ad366, e366, hx366_0⟩ := Kd.at_string (R_reads' HO1.1).2.2 0 p366 q366; obtain rfl : ad362 = ad366 := (by injection e366); have qi366 : (0 < l1.length) = True := eq_true (by omega); (try rw [show ((0 : Int)).toNat = 0 from rfl] at hx366_0); (try rw [Addr.add_zero'] at hx366_0); replace p366 := eq_true p366; replace q366 := eq_true q366; obtain ⟨Ao16, co16, eo16⟩ := R_slice HO365.1; subst eo16) | ((with_reducible refine gate_callee (f := 21) rfl ?_); refine gL (some 23) rfl rfl Try.func21 (by kernel_rfl) rfl #[.slice Ao16 t363.length co16, .string (rdOf ByteArray.empty l1 0)] rfl ?_; (with_reducible refine (q_Has.calls k _ _ t363 (rdOf ByteArray.empty l1 0) false _ ?side1 ?side2 A9.1).mono ?_); (case side1 => exact cr HO365); (case side2 => exact (R_reads' HO365.1).2.1); rintro e w' ⟨rfl, ⟨nd, rfl⟩⟩; refine ⟨_, rfl, ?_⟩))
 go_loopg [8] k (fun kq v8 w' => ∃ (x8_1 : Int), v8 = .int .i64 x8_1 /\ Az (r_paths.l0 kq l0 l1 a2 t363 x8_1 = some r) /\ Az (kq <= k) /\ Az (Kd.R Kd.string 9 w' w0.heap.size (fun k_ => (P1_ k_ \/ w.heap.size <= k_) /\ some k_ ≠ ((.slice Ao16 t363.length co16) : Value).ownBlock) (.slice (some ad362) l1.length co14) l1) /\ Az (Kd.R Kd.string 9 w' w0.heap.size (fun k_ => (P1_ k_ \/ w.heap.size <= k_) /\ some k_ ≠ ((.slice (some ad362) l1.length co14) : Value).ownBlock) (.slice Ao16 t363.length co16) t363) /\ Az (Kept w w' (fun k_ => P1_ k_)) /\ Az (Below w0.heap.size w0 w'))
 case atStart => exact ⟨(0), rr, H', ⟨Nat.le_refl _⟩, ⟨rk HO1⟩, ⟨rz (R_mono HO365.1 (fun _ hk => ⟨hk.1.1, hk.2⟩))⟩, ⟨hk HK⟩, ⟨hh HB⟩⟩
 case round =>
  clear H'
  clear c5b0 c6b0 c8b0 c8b1 hx362_0 hx366_0 p362 p366 q362 q366
  obtain ⟨x8_1, rfl, HA, HK1, HO_1, HO_7, HK, HB⟩ := hrel
  cases gk with
  | zero => exact absurd HA.1 (by simp [r_paths.l0])
  | succ k1 =>
   have H := HA.1
   clear HA
   simp only [r_paths.l0] at H
   have HC17 := aM H
   clear H
   go_upto_region 5 with (fail)
   go_cut [34] (fun v34 wc => ∃ (kq : Nat) (x34_16 : Bool), v34 = .bool x34_16 /\ Az (r_paths.j1 kq l0 l1 a2 t363 x8_1 x34_16 = some r) /\ Az (kq <= k1) /\ Az (Kd.R Kd.string 9 wc w0.heap.size (fun k_ => (P1_ k_ \/ w.heap.size <= k_) /\ some k_ ≠ ((.slice Ao16 t363.length co16) : Value).ownBlock) (.slice (some ad362) l1.length co14) l1) /\ Az (Kd.R Kd.string 9 wc w0.heap.size (fun k_ => (P1_ k_ \/ w.heap.size <= k_) /\ some k_ ≠ ((.slice (some ad362) l1.length co14) : Value).ownBlock) (.slice Ao16 t363.length co16) t363) /\ Az (Kept w wc (fun k_ => P1_ k_)) /\ Az (Below w0.heap.size w0 wc))
   case first =>
    have H := HC17.1
    clear HC17
    by_cases c18 : x8_1 < (t363.length : Int)
    rotate_left
    · rw [if_neg c18] at H
      have c18b0 : decide (x8_1 < (t363.length : Int)) = false := decide_eq_false c18
      clear c18
      (first | rw [c18b0] | (simp only [i64_w, i32_w]; rw [c18b0]) | skip)
      have H' := aM H
      clear H
      go_wp2
      go_meet
      case rel => exact ⟨_, (false), rr, H', (ol HK1), ⟨rk HO_1⟩, ⟨rk HO_7⟩, ⟨hk HK⟩, ⟨hh HB⟩⟩
    rw [if_pos c18] at H
    have c18b0 : decide (x8_1 < (t363.length : Int)) = true := decide_eq_true c18
    clear c18
    (first | rw [c18b0] | (simp only [i64_w, i32_w]; rw [c18b0]) | skip)
    have H' := aM H
    clear H
    go_wp2
    go_meet
    case rel => exact ⟨_, (decide ((l1.length : Int) < a2)), rr, H', (ol HK1), ⟨rk HO_1⟩, ⟨rk HO_7⟩, ⟨hk HK⟩, ⟨hh HB⟩⟩
   case rest =>
    clear HC17
    obtain ⟨kq, x34_16, rfl, HA, HJ16, HO_1, HO_7, HK, HB⟩ := hcut
    cases kq with
    | zero => exact absurd HA.1 (by simp [r_paths.j1])
    | succ kj16 =>
     have H := HA.1
     clear HA
     simp only [r_paths.j1] at H
     by_cases c19 : x34_16 = true
     rotate_left
     · replace c19 := Bool.eq_false_iff.mpr c19
       subst c19
       rw [if_neg (show ¬ (false = true) by decide)] at H
       obtain rfl := Option.some.inj H
       go_wp2
       go_ret
       exact ⟨_, by first | rfl | (simp [errW_none, errW_some] <;> rfl) | (simp only [<- hji4]; first | rfl | (simp [errW_none, errW_some] <;> rfl)) | (simp [*, errW_none, errW_some] <;> rfl), by first | exact R_nil _ _ _ _ _ | exact N_nil _ _ _ _ _ | exact V_nil _ _ _ _ _ | exact Q_nil _ _ _ _ _ | exact S_nil _ _ _ _ _, hh HB, hk HK⟩
     subst c19
     rw [if_pos rfl] at H
     have HC20 := aM H
     clear H
     go_upto_region 7 with (fail)
     go_cut [59] (fun v59 wc => ∃ (kq : Nat) (x59_19 : Bool), v59 = .bool x59_19 /\ Az (r_paths.j2 kq l0 l1 a2 t363 x8_1 x59_19 = some r) /\ Az (kq <= kj16) /\ Az (Kd.R Kd.string 9 wc w0.heap.size (fun k_ => (P1_ k_ \/ w.heap.size <= k_) /\ some k_ ≠ ((.slice Ao16 t363.length co16) : Value).ownBlock) (.slice (some ad362) l1.length co14) l1) /\ Az (Kd.R Kd.string 9 wc w0.heap.size (fun k_ => (P1_ k_ \/ w.heap.size <= k_) /\ some k_ ≠ ((.slice (some ad362) l1.length co14) : Value).ownBlock) (.slice Ao16 t363.length co16) t363) /\ Az (Kept w wc (fun k_ => P1_ k_)) /\ Az (Below w0.heap.size w0 wc))
     case first =>
      have H := HC20.1
      clear HC20
      by_cases c21 : 0 <= x8_1
      rotate_left
      · rw [if_neg c21] at H
        exact absurd H (by simp)
      rw [if_pos c21] at H
      have c21b0 : decide (0 <= x8_1) = true := decide_eq_true c21
      clear c21
      (first | rw [c21b0] | (simp only [i64_w, i32_w]; rw [c21b0]) | skip)
      by_cases c22 : x8_1 < (t363.length : Int)
      rotate_left
      · rw [if_neg c22] at H
        exact absurd H (by simp)
      rw [if_pos c22] at H
      have c22b0 : decide (x8_1 < (t363.length : Int)) = true := decide_eq_true c22
      clear c22
      replace H := Option.bind_eq_some_iff.mp H
      obtain ⟨t369, A230, H⟩ := H
      try dsimp only at H
      have A23 := aM A230
      clear A230
      by_cases c24 : t369 = true
      · subst c24
        rw [if_pos rfl] at H
        have H' := aM H
        clear H
        try go_wp2
        replace HO_1 := aM (R_drew HO_1.1)
        replace HO_7 := aM (R_drew HO_7.1)
        replace HK := aM (Kept.drew HK.1)
        replace HB := aM (below_drew1 HB.1)
        have p368 : 0 <= (x8_1 : Int) := dt
        have q368 : x8_1 < (t363.length : Int) := dt
        obtain ⟨ad368, e368, hx368_0⟩ := Kd.at_string (R_reads' HO_7.1).2.2 x8_1 p368 q368
        cases e368
        replace p368 := eq_true p368
        replace q368 := eq_true q368
        refine start_ (n := 23) (S := fun w' => w'.cell? (ad368.add (x8_1).toNat) = some (.string (rdOf ByteArray.empty t363 x8_1))) (ds := []) #[F_, F_, F_, F_, F_, F_, F_, F_, F_, F_, F_, F_, F_, F_, F_, F_, F_, F_, F_, F_, F_, F_, F_] (by kernel_rfl) rfl rfl (hx368_0) (fun hHeld => ?_); refine with_tabW r_paths.tab7 r_paths.bits7 (fun HT_ HW_ => ?_)
        generalize wc.drew = w25 at HO_1 HO_7 HK HB hx368_0 hHeld ⊢
        refine pure_ (i := 0) (N := some 37) (v := ?_) (a' := ?_) #[T_, F_, F_, F_, F_, F_, F_, F_, F_, F_, F_, F_, F_, F_, F_, F_, F_, F_, F_, F_, F_, F_, F_] rfl rfl (any_of HT_.1 (by kernel_rfl)) (fun _ _ _ h => h) (Or.inl ⟨by rfl, ?_⟩) ?_ ?_
        rotate_left
        · intro w'
          go_simp
          with_reducible rfl
        rotate_left
        · simp only [Act.put, sA, sZ, sS, i64_w, i32_w]
          rfl
        refine pure_ (i := 1) (N := some 38) (v := ?_) (a' := ?_) #[T_, T_, F_, F_, F_, F_, F_, F_, F_, F_, F_, F_, F_, F_, F_, F_, F_, F_, F_, F_, F_, F_, F_] rfl rfl (any_of HT_.1 (by kernel_rfl)) (fun _ _ _ h => h) (Or.inl ⟨by rfl, ?_⟩) ?_ ?_
        rotate_left
        · intro w'
          go_simp
          with_reducible rfl
        rotate_left
        · simp only [Act.put, sA, sZ, sS, i64_w, i32_w]
          rfl
        refine pure_ (i := 2) (N := some 39) (v := ?_) (a' := ?_) #[T_, T_, T_, F_, F_, F_, F_, F_, F_, F_, F_, F_, F_, F_, F_, F_, F_, F_, F_, F_, F_, F_, F_] rfl rfl (any_of HT_.1 (by kernel_rfl)) (fun _ _ _ h => h) (Or.inl ⟨by rfl, ?_⟩) ?_ ?_
        rotate_left
        · intro w'
          go_simp
          with_reducible rfl
        rotate_left
        · simp only [Act.put, sA, sZ, sS, i64_w, i32_w]
          rfl
        refine pure_ (i := 3) (N := some 40) (v := ?_) (a' := ?_) #[T_, T_, T_, T_, F_, F_, F_, F_, F_, F_, F_, F_, F_, F_, F_, F_, F_, F_, F_, F_, F_, F_, F_] rfl rfl (any_of HT_.1 (by kernel_rfl)) (fun _ _ _ h => h) (Or.inl ⟨by rfl, ?_⟩) ?_ ?_
        rotate_left
        · intro w'
          go_simp
          with_reducible rfl
        rotate_left
        · simp only [Act.put, sA, sZ, sS, i64_w, i32_w]
          rfl
        refine take_ (i := 4) (N := some 41) (v := ?_) (a' := ?_) #[T_, T_, T_, T_, T_, F_, F_, F_, F_, F_, F_, F_, F_, F_, F_, F_, F_, F_, F_, F_, F_, F_, F_] rfl rfl (take_ofW HT_.1 HW_.1 (by kernel_rfl)) (fun _ _ _ h => h) (Or.inl ⟨by rfl, ?_⟩) hHeld ?_ ?_
        rotate_left
        · intro w' s0
          go_simp
          with_reducible rfl
        rotate_left
        · simp only [Act.put, sA, sZ, sS, i64_w, i32_w]
          rfl
        refine one_ (i := 5) (N := some 42) #[T_, T_, T_, T_, T_, T_, F_, F_, F_, F_, F_, F_, F_, F_, F_, F_, F_, F_, F_, F_, F_, F_, F_] rfl rfl (one_of HT_.1 (by kernel_rfl)) (by decide) (fun K hK => ?_)
        refine goes_ Try.func21 (by kernel_rfl) rfl #[.slice (some ad362) l1.length co14, .string (rdOf ByteArray.empty t363 x8_1)] (by rfl) rfl rfl (by (try simp only [List.map_toArray, List.map_cons, List.map_nil]); first | done | rfl | (simp only [List.length_drop, List.length_take]; rfl)) ?_
        with_reducible refine (q_Has.calls kj16 _ _ l1 (rdOf ByteArray.empty t363 x8_1) true _ ?side1 ?side2 A23.1).mono ?_
        (case side1 => exact cr HO_1)
        (case side2 => exact (R_reads' HO_1.1).2.1)
        rintro e w' ⟨rfl, ⟨nd, rfl⟩⟩
        refine ⟨_, rfl, ?_⟩
        refine hK.out _ _ (hHeld) (fun hHeld => ?_)
        clear hK K
        refine norm_ (a' := ?_) ?_ ?_
        rotate_left
        · show Act.put _ (some 42) _ = _
          simp only [Act.put, sA, sZ, sS, i64_w, i32_w]
          rfl
        refine pure_ (i := 6) (N := some 43) (v := ?_) (a' := ?_) #[T_, T_, T_, T_, T_, T_, T_, F_, F_, F_, F_, F_, F_, F_, F_, F_, F_, F_, F_, F_, F_, F_, F_] rfl rfl (any_of HT_.1 (by kernel_rfl)) (fun _ _ _ h => h) (Or.inl ⟨by rfl, ?_⟩) ?_ ?_
        rotate_left
        · intro w'
          go_simp
          with_reducible rfl
        rotate_left
        · simp only [Act.put, sA, sZ, sS, i64_w, i32_w]
          rfl
        refine pure_ (i := 7) (N := some 44) (v := undef) (a' := ?_) #[T_, T_, T_, T_, T_, T_, T_, T_, F_, F_, F_, F_, F_, F_, F_, F_, F_, F_, F_, F_, F_, F_, F_] rfl rfl (any_of HT_.1 (by kernel_rfl)) (fun _ _ _ h => h) (Or.inr ⟨by rfl, rfl⟩) ?_ ?_
        rotate_left
        · simp only [Act.put, sA, sZ, sS, i64_w, i32_w]
          rfl
        refine pure_ (i := 8) (N := some 45) (v := undef) (a' := ?_) #[T_, T_, T_, T_, T_, T_, T_, T_, T_, F_, F_, F_, F_, F_, F_, F_, F_, F_, F_, F_, F_, F_, F_] rfl rfl (any_of HT_.1 (by kernel_rfl)) (fun _ _ _ h => h) (Or.inr ⟨by rfl, rfl⟩) ?_ ?_
        rotate_left
        · simp only [Act.put, sA, sZ, sS, i64_w, i32_w]
          rfl
        refine pure_ (i := 9) (N := some 46) (v := undef) (a' := ?_) #[T_, T_, T_, T_, T_, T_, T_, T_, T_, T_, F_, F_, F_, F_, F_, F_, F_, F_, F_, F_, F_, F_, F_] rfl rfl (any_of HT_.1 (by kernel_rfl)) (fun _ _ _ h => h) (Or.inr ⟨by rfl, rfl⟩) ?_ ?_
        rotate_left
        · simp only [Act.put, sA, sZ, sS, i64_w, i32_w]
          rfl
        refine pure_ (i := 10) (N := some 47) (v := undef) (a' := ?_) #[T_, T_, T_, T_, T_, T_, T_, T_, T_, T_, T_, F_, F_, F_, F_, F_, F_, F_, F_, F_, F_, F_, F_] rfl rfl (any_of HT_.1 (by kernel_rfl)) (fun _ _ _ h => h) (Or.inr ⟨by rfl, rfl⟩) ?_ ?_
        rotate_left
        · simp only [Act.put, sA, sZ, sS, i64_w, i32_w]
          rfl
        refine pure_ (i := 11) (N := some 48) (v := undef) (a' := ?_) #[T_, T_, T_, T_, T_, T_, T_, T_, T_, T_, T_, T_, F_, F_, F_, F_, F_, F_, F_, F_, F_, F_, F_] rfl rfl (any_of HT_.1 (by kernel_rfl)) (fun _ _ _ h => h) (Or.inr ⟨by rfl, rfl⟩) ?_ ?_
        rotate_left
        · simp only [Act.put, sA, sZ, sS, i64_w, i32_w]
          rfl
        refine pure_ (i := 12) (N := some 49) (v := undef) (a' := ?_) #[T_, T_, T_, T_, T_, T_, T_, T_, T_, T_, T_, T_, T_, F_, F_, F_, F_, F_, F_, F_, F_, F_, F_] rfl rfl (any_of HT_.1 (by kernel_rfl)) (fun _ _ _ h => h) (Or.inr ⟨by rfl, rfl⟩) ?_ ?_
        rotate_left
        · simp only [Act.put, sA, sZ, sS, i64_w, i32_w]
          rfl
        refine pure_ (i := 13) (N := some 50) (v := undef) (a' := ?_) #[T_, T_, T_, T_, T_, T_, T_, T_, T_, T_, T_, T_, T_, T_, F_, F_, F_, F_, F_, F_, F_, F_, F_] rfl rfl (any_of HT_.1 (by kernel_rfl)) (fun _ _ _ h => h) (Or.inr ⟨by rfl, rfl⟩) ?_ ?_
        rotate_left
        · simp only [Act.put, sA, sZ, sS, i64_w, i32_w]
          rfl
        refine pure_ (i := 14) (N := some 51) (v := undef) (a' := ?_) #[T_, T_, T_, T_, T_, T_, T_, T_, T_, T_, T_, T_, T_, T_, T_, F_, F_, F_, F_, F_, F_, F_, F_] rfl rfl (any_of HT_.1 (by kernel_rfl)) (fun _ _ _ h => h) (Or.inr ⟨by rfl, rfl⟩) ?_ ?_
        rotate_left
        · simp only [Act.put, sA, sZ, sS, i64_w, i32_w]
          rfl
        refine pure_ (i := 15) (N := some 52) (v := undef) (a' := ?_) #[T_, T_, T_, T_, T_, T_, T_, T_, T_, T_, T_, T_, T_, T_, T_, T_, F_, F_, F_, F_, F_, F_, F_] rfl rfl (any_of HT_.1 (by kernel_rfl)) (fun _ _ _ h => h) (Or.inr ⟨by rfl, rfl⟩) ?_ ?_
        rotate_left
        · simp only [Act.put, sA, sZ, sS, i64_w, i32_w]
          rfl
        refine pure_ (i := 16) (N := some 53) (v := undef) (a' := ?_) #[T_, T_, T_, T_, T_, T_, T_, T_, T_, T_, T_, T_, T_, T_, T_, T_, T_, F_, F_, F_, F_, F_, F_] rfl rfl (any_of HT_.1 (by kernel_rfl)) (fun _ _ _ h => h) (Or.inr ⟨by rfl, rfl⟩) ?_ ?_
        rotate_left
        · simp only [Act.put, sA, sZ, sS, i64_w, i32_w]
          rfl
        refine pure_ (i := 17) (N := some 54) (v := undef) (a' := ?_) #[T_, T_, T_, T_, T_, T_, T_, T_, T_, T_, T_, T_, T_, T_, T_, T_, T_, T_, F_, F_, F_, F_, F_] rfl rfl (any_of HT_.1 (by kernel_rfl)) (fun _ _ _ h => h) (Or.inr ⟨by rfl, rfl⟩) ?_ ?_
        rotate_left
        · simp only [Act.put, sA, sZ, sS, i64_w, i32_w]
          rfl
        refine pure_ (i := 18) (N := some 55) (v := undef) (a' := ?_) #[T_, T_, T_, T_, T_, T_, T_, T_, T_, T_, T_, T_, T_, T_, T_, T_, T_, T_, T_, F_, F_, F_, F_] rfl rfl (any_of HT_.1 (by kernel_rfl)) (fun _ _ _ h => h) (Or.inr ⟨by rfl, rfl⟩) ?_ ?_
        rotate_left
        · simp only [Act.put, sA, sZ, sS, i64_w, i32_w]
          rfl
        refine pure_ (i := 19) (N := some 56) (v := undef) (a' := ?_) #[T_, T_, T_, T_, T_, T_, T_, T_, T_, T_, T_, T_, T_, T_, T_, T_, T_, T_, T_, T_, F_, F_, F_] rfl rfl (any_of HT_.1 (by kernel_rfl)) (fun _ _ _ h => h) (Or.inr ⟨by rfl, rfl⟩) ?_ ?_
        rotate_left
        · simp only [Act.put, sA, sZ, sS, i64_w, i32_w]
          rfl
        refine pure_ (i := 20) (N := some 57) (v := undef) (a' := ?_) #[T_, T_, T_, T_, T_, T_, T_, T_, T_, T_, T_, T_, T_, T_, T_, T_, T_, T_, T_, T_, T_, F_, F_] rfl rfl (any_of HT_.1 (by kernel_rfl)) (fun _ _ _ h => h) (Or.inr ⟨by rfl, rfl⟩) ?_ ?_
        rotate_left
        · simp only [Act.put, sA, sZ, sS, i64_w, i32_w]
          rfl
        refine pure_ (i := 21) (N := some 58) (v := undef) (a' := ?_) #[T_, T_, T_, T_, T_, T_, T_, T_, T_, T_, T_, T_, T_, T_, T_, T_, T_, T_, T_, T_, T_, T_, F_] rfl rfl (any_of HT_.1 (by kernel_rfl)) (fun _ _ _ h => h) (Or.inr ⟨by rfl, rfl⟩) ?_ ?_
        rotate_left
        · simp only [Act.put, sA, sZ, sS, i64_w, i32_w]
          rfl
        refine pure_ (i := 22) (N := some 59) (v := ?_) (a' := ?_) #[T_, T_, T_, T_, T_, T_, T_, T_, T_, T_, T_, T_, T_, T_, T_, T_, T_, T_, T_, T_, T_, T_, T_] rfl rfl (any_of HT_.1 (by kernel_rfl)) (fun _ _ _ h => h) (Or.inl ⟨by rfl, ?_⟩) ?_ ?_
        rotate_left
        · intro w'
          go_simp
          with_reducible rfl
        rotate_left
        · simp only [Act.put, sA, sZ, sS, i64_w, i32_w]
          rfl
        refine done_ (done_of HT_.1 (by kernel_rfl)) ?_
        try go_wp2
        go_meet
        case rel => exact ⟨_, (true), rr, H', ⟨by have := HK1.1; have := HJ16.1; first | omega | exact Nat.le_refl _⟩, ⟨rk HO_1⟩, ⟨rk HO_7⟩, ⟨hk HK⟩, ⟨hh HB⟩⟩
      replace c24 := Bool.eq_false_iff.mpr c24
      subst c24
      rw [if_neg (show ¬ (false = true) by decide)] at H
      by_cases c26 : 0 < (l1.length : Int)
      rotate_left
      · rw [if_neg c26] at H
        exact absurd H (by simp)
      rw [if_pos c26] at H
      have c26b0 : decide (0 < (l1.length : Int)) = true := decide_eq_true c26
      have c26b1 : decide (0 < l1.length) = true := decide_eq_true (by omega)
      clear c26
      replace H := Option.bind_eq_some_iff.mp H
      obtain ⟨t372, A270, H⟩ := H
      try dsimp only at H
      have A27 := aM A270
      clear A270
      have H' := aM H
      clear H
      try go_wp2
      replace HO_1 := aM (R_drew HO_1.1)
      replace HO_7 := aM (R_drew HO_7.1)
      replace HK := aM (Kept.drew HK.1)
      replace HB := aM (below_drew1 HB.1)
      have p368 : 0 <= (x8_1 : Int) := dt
      have q368 : x8_1 < (t363.length : Int) := dt
      obtain ⟨ad368, e368, hx368_0⟩ := Kd.at_string (R_reads' HO_7.1).2.2 x8_1 p368 q368
      cases e368
      replace p368 := eq_true p368
      replace q368 := eq_true q368
      have p370 : 0 <= (x8_1 : Int) := dt
      have q370 : x8_1 < (t363.length : Int) := dt
      obtain ⟨ad370, e370, hx370_0⟩ := Kd.at_string (R_reads' HO_7.1).2.2 x8_1 p370 q370
      obtain rfl : ad368 = ad370 := (by injection e370)
      replace p370 := eq_true p370
      replace q370 := eq_true q370
      have p371 : 0 <= (0 : Int) := (by omega)
      have q371 : 0 < (l1.length : Int) := dt
      obtain ⟨ad371, e371, hx371_0⟩ := Kd.at_string (R_reads' HO_1.1).2.2 0 p371 q371
      obtain rfl : ad362 = ad371 := (by injection e371)
      have qi371 : (0 < l1.length) = True := eq_true (by omega)
      (try rw [show ((0 : Int)).toNat = 0 from rfl] at hx371_0)
      (try rw [Addr.add_zero'] at hx371_0)
      replace p371 := eq_true p371
      replace q371 := eq_true q371
      refine start_ (n := 23) (S := fun w' => w'.cell? (ad368.add (x8_1).toNat) = some (.string (rdOf ByteArray.empty t363 x8_1)) /\ w'.cell? (ad368.add (x8_1).toNat) = some (.string (rdOf ByteArray.empty t363 x8_1)) /\ w'.cell? ad362 = some (.string (rdOf ByteArray.empty l1 0))) (ds := []) #[F_, F_, F_, F_, F_, F_, F_, F_, F_, F_, F_, F_, F_, F_, F_, F_, F_, F_, F_, F_, F_, F_, F_] (by kernel_rfl) rfl rfl ⟨hx368_0, hx370_0, hx371_0⟩ (fun hHeld => ?_); refine with_tabW r_paths.tab7 r_paths.bits7 (fun HT_ HW_ => ?_)
      generalize wc.drew = w28 at HO_1 HO_7 HK HB hx368_0 hx370_0 hx371_0 hHeld ⊢
      refine pure_ (i := 0) (N := some 37) (v := ?_) (a' := ?_) #[T_, F_, F_, F_, F_, F_, F_, F_, F_, F_, F_, F_, F_, F_, F_, F_, F_, F_, F_, F_, F_, F_, F_] rfl rfl (any_of HT_.1 (by kernel_rfl)) (fun _ _ _ h => h) (Or.inl ⟨by rfl, ?_⟩) ?_ ?_
      rotate_left
      · intro w'
        go_simp
        with_reducible rfl
      rotate_left
      · simp only [Act.put, sA, sZ, sS, i64_w, i32_w]
        rfl
      refine pure_ (i := 1) (N := some 38) (v := ?_) (a' := ?_) #[T_, T_, F_, F_, F_, F_, F_, F_, F_, F_, F_, F_, F_, F_, F_, F_, F_, F_, F_, F_, F_, F_, F_] rfl rfl (any_of HT_.1 (by kernel_rfl)) (fun _ _ _ h => h) (Or.inl ⟨by rfl, ?_⟩) ?_ ?_
      rotate_left
      · intro w'
        go_simp
        with_reducible rfl
      rotate_left
      · simp only [Act.put, sA, sZ, sS, i64_w, i32_w]
        rfl
      refine pure_ (i := 2) (N := some 39) (v := ?_) (a' := ?_) #[T_, T_, T_, F_, F_, F_, F_, F_, F_, F_, F_, F_, F_, F_, F_, F_, F_, F_, F_, F_, F_, F_, F_] rfl rfl (any_of HT_.1 (by kernel_rfl)) (fun _ _ _ h => h) (Or.inl ⟨by rfl, ?_⟩) ?_ ?_
      rotate_left
      · intro w'
        go_simp
        with_reducible rfl
      rotate_left
      · simp only [Act.put, sA, sZ, sS, i64_w, i32_w]
        rfl
      refine pure_ (i := 3) (N := some 40) (v := ?_) (a' := ?_) #[T_, T_, T_, T_, F_, F_, F_, F_, F_, F_, F_, F_, F_, F_, F_, F_, F_, F_, F_, F_, F_, F_, F_] rfl rfl (any_of HT_.1 (by kernel_rfl)) (fun _ _ _ h => h) (Or.inl ⟨by rfl, ?_⟩) ?_ ?_
      rotate_left
      · intro w'
        go_simp
        with_reducible rfl
      rotate_left
      · simp only [Act.put, sA, sZ, sS, i64_w, i32_w]
        rfl
      refine take_ (i := 4) (N := some 41) (v := ?_) (a' := ?_) #[T_, T_, T_, T_, T_, F_, F_, F_, F_, F_, F_, F_, F_, F_, F_, F_, F_, F_, F_, F_, F_, F_, F_] rfl rfl (take_ofW HT_.1 HW_.1 (by kernel_rfl)) (fun _ _ _ h => h) (Or.inl ⟨by rfl, ?_⟩) hHeld ?_ ?_
      rotate_left
      · rintro w' ⟨s0, s1, s2⟩
        go_simp
        with_reducible rfl
      rotate_left
      · simp only [Act.put, sA, sZ, sS, i64_w, i32_w]
        rfl
      refine one_ (i := 5) (N := some 42) #[T_, T_, T_, T_, T_, T_, F_, F_, F_, F_, F_, F_, F_, F_, F_, F_, F_, F_, F_, F_, F_, F_, F_] rfl rfl (one_of HT_.1 (by kernel_rfl)) (by decide) (fun K hK => ?_)
      refine goes_ Try.func21 (by kernel_rfl) rfl #[.slice (some ad362) l1.length co14, .string (rdOf ByteArray.empty t363 x8_1)] (by rfl) rfl rfl (by (try simp only [List.map_toArray, List.map_cons, List.map_nil]); first | done | rfl | (simp only [List.length_drop, List.length_take]; rfl)) ?_
      with_reducible refine (q_Has.calls kj16 _ _ l1 (rdOf ByteArray.empty t363 x8_1) false _ ?side1 ?side2 A23.1).mono ?_
      (case side1 => exact cr HO_1)
      (case side2 => exact (R_reads' HO_1.1).2.1)
      rintro e w' ⟨rfl, ⟨nd, rfl⟩⟩
      refine ⟨_, rfl, ?_⟩
      refine hK.out _ _ ⟨hHeld.1, hHeld.2.1, hHeld.2.2⟩ (fun hHeld => ?_)
      clear hK K
      refine norm_ (a' := ?_) ?_ ?_
      rotate_left
      · show Act.put _ (some 42) _ = _
        simp only [Act.put, sA, sZ, sS, i64_w, i32_w]
        rfl
      refine pure_ (i := 6) (N := some 43) (v := ?_) (a' := ?_) #[T_, T_, T_, T_, T_, T_, T_, F_, F_, F_, F_, F_, F_, F_, F_, F_, F_, F_, F_, F_, F_, F_, F_] rfl rfl (any_of HT_.1 (by kernel_rfl)) (fun _ _ _ h => h) (Or.inl ⟨by rfl, ?_⟩) ?_ ?_
      rotate_left
      · intro w'
        go_simp
        with_reducible rfl
      rotate_left
      · simp only [Act.put, sA, sZ, sS, i64_w, i32_w]
        rfl
      refine pure_ (i := 7) (N := some 44) (v := ?_) (a' := ?_) #[T_, T_, T_, T_, T_, T_, T_, T_, F_, F_, F_, F_, F_, F_, F_, F_, F_, F_, F_, F_, F_, F_, F_] rfl rfl (any_of HT_.1 (by kernel_rfl)) (fun _ _ _ h => h) (Or.inl ⟨by rfl, ?_⟩) ?_ ?_
      rotate_left
      · intro w'
        go_simp
        with_reducible rfl
      rotate_left
      · simp only [Act.put, sA, sZ, sS, i64_w, i32_w]
        rfl
      refine pure_ (i := 8) (N := some 45) (v := ?_) (a' := ?_) #[T_, T_, T_, T_, T_, T_, T_, T_, T_, F_, F_, F_, F_, F_, F_, F_, F_, F_, F_, F_, F_, F_, F_] rfl rfl (any_of HT_.1 (by kernel_rfl)) (fun _ _ _ h => h) (Or.inl ⟨by rfl, ?_⟩) ?_ ?_
      rotate_left
      · intro w'
        go_simp
        with_reducible rfl
      rotate_left
      · simp only [Act.put, sA, sZ, sS, i64_w, i32_w]
        rfl
      refine pure_ (i := 9) (N := some 46) (v := ?_) (a' := ?_) #[T_, T_, T_, T_, T_, T_, T_, T_, T_, T_, F_, F_, F_, F_, F_, F_, F_, F_, F_, F_, F_, F_, F_] rfl rfl (any_of HT_.1 (by kernel_rfl)) (fun _ _ _ h => h) (Or.inl ⟨by rfl, ?_⟩) ?_ ?_
      rotate_left
      · intro w'
        go_simp
        with_reducible rfl
      rotate_left
      · simp only [Act.put, sA, sZ, sS, i64_w, i32_w]
        rfl
      refine pure_ (i := 10) (N := some 47) (v := ?_) (a' := ?_) #[T_, T_, T_, T_, T_, T_, T_, T_, T_, T_, T_, F_, F_, F_, F_, F_, F_, F_, F_, F_, F_, F_, F_] rfl rfl (any_of HT_.1 (by kernel_rfl)) (fun _ _ _ h => h) (Or.inl ⟨by rfl, ?_⟩) ?_ ?_
      rotate_left
      · intro w'
        go_simp
        with_reducible rfl
      rotate_left
      · simp only [Act.put, sA, sZ, sS, i64_w, i32_w]
        rfl
      refine pure_ (i := 12) (N := some 49) (v := ?_) (a' := ?_) #[T_, T_, T_, T_, T_, T_, T_, T_, T_, T_, T_, F_, T_, F_, F_, F_, F_, F_, F_, F_, F_, F_, F_] rfl rfl (any_of HT_.1 (by kernel_rfl)) (fun _ _ _ h => h) (Or.inl ⟨by rfl, ?_⟩) ?_ ?_
      rotate_left
      · intro w'
        go_simp
        with_reducible rfl
      rotate_left
      · simp only [Act.put, sA, sZ, sS, i64_w, i32_w]
        rfl
      refine pure_ (i := 13) (N := some 50) (v := ?_) (a' := ?_) #[T_, T_, T_, T_, T_, T_, T_, T_, T_, T_, T_, F_, T_, T_, F_, F_, F_, F_, F_, F_, F_, F_, F_] rfl rfl (any_of HT_.1 (by kernel_rfl)) (fun _ _ _ h => h) (Or.inl ⟨by rfl, ?_⟩) ?_ ?_
      rotate_left
      · intro w'
        go_simp
        with_reducible rfl
      rotate_left
      · simp only [Act.put, sA, sZ, sS, i64_w, i32_w]
        rfl
      refine pure_ (i := 15) (N := some 52) (v := ?_) (a' := ?_) #[T_, T_, T_, T_, T_, T_, T_, T_, T_, T_, T_, F_, T_, T_, F_, T_, F_, F_, F_, F_, F_, F_, F_] rfl rfl (any_of HT_.1 (by kernel_rfl)) (fun _ _ _ h => h) (Or.inl ⟨by rfl, ?_⟩) ?_ ?_
      rotate_left
      · intro w'
        go_simp
        with_reducible rfl
      rotate_left
      · simp only [Act.put, sA, sZ, sS, i64_w, i32_w]
        rfl
      refine pure_ (i := 16) (N := some 53) (v := ?_) (a' := ?_) #[T_, T_, T_, T_, T_, T_, T_, T_, T_, T_, T_, F_, T_, T_, F_, T_, T_, F_, F_, F_, F_, F_, F_] rfl rfl (any_of HT_.1 (by kernel_rfl)) (fun _ _ _ h => h) (Or.inl ⟨by rfl, ?_⟩) ?_ ?_
      rotate_left
      · intro w'
        go_simp
        with_reducible rfl
      rotate_left
      · simp only [Act.put, sA, sZ, sS, i64_w, i32_w]
        rfl
      refine pure_ (i := 17) (N := some 54) (v := ?_) (a' := ?_) #[T_, T_, T_, T_, T_, T_, T_, T_, T_, T_, T_, F_, T_, T_, F_, T_, T_, T_, F_, F_, F_, F_, F_] rfl rfl (any_of HT_.1 (by kernel_rfl)) (fun _ _ _ h => h) (Or.inl ⟨by rfl, ?_⟩) ?_ ?_
      rotate_left
      · intro w'
        go_simp
        with_reducible rfl
      rotate_left
      · simp only [Act.put, sA, sZ, sS, i64_w, i32_w]
        rfl
      refine pure_ (i := 18) (N := some 55) (v := ?_) (a' := ?_) #[T_, T_, T_, T_, T_, T_, T_, T_, T_, T_, T_, F_, T_, T_, F_, T_, T_, T_, T_, F_, F_, F_, F_] rfl rfl (any_of HT_.1 (by kernel_rfl)) (fun _ _ _ h => h) (Or.inl ⟨by rfl, ?_⟩) ?_ ?_
      rotate_left
      · intro w'
        go_simp
        with_reducible rfl
      rotate_left
      · simp only [Act.put, sA, sZ, sS, i64_w, i32_w]
        rfl
      refine pure_ (i := 19) (N := some 56) (v := ?_) (a' := ?_) #[T_, T_, T_, T_, T_, T_, T_, T_, T_, T_, T_, F_, T_, T_, F_, T_, T_, T_, T_, T_, F_, F_, F_] rfl rfl (any_of HT_.1 (by kernel_rfl)) (fun _ _ _ h => h) (Or.inl ⟨by rfl, ?_⟩) ?_ ?_
      rotate_left
      · intro w'
        go_simp
        with_reducible rfl
      rotate_left
      · simp only [Act.put, sA, sZ, sS, i64_w, i32_w]
        rfl
      refine take_ (i := 11) (N := some 48) (v := ?_) (a' := ?_) #[T_, T_, T_, T_, T_, T_, T_, T_, T_, T_, T_, T_, T_, T_, F_, T_, T_, T_, T_, T_, F_, F_, F_] rfl rfl (take_ofW HT_.1 HW_.1 (by kernel_rfl)) (fun _ _ _ h => h) (Or.inl ⟨by rfl, ?_⟩) hHeld ?_ ?_
      rotate_left
      · rintro w' ⟨s0, s1, s2⟩
        go_simp
        with_reducible rfl
      rotate_left
      · simp only [Act.put, sA, sZ, sS, i64_w, i32_w]
        rfl
      refine take_ (i := 14) (N := some 51) (v := ?_) (a' := ?_) #[T_, T_, T_, T_, T_, T_, T_, T_, T_, T_, T_, T_, T_, T_, T_, T_, T_, T_, T_, T_, F_, F_, F_] rfl rfl (take_ofW HT_.1 HW_.1 (by kernel_rfl)) (fun _ _ _ h => h) (Or.inl ⟨by rfl, ?_⟩) hHeld ?_ ?_
      rotate_left
      · rintro w' ⟨s0, s1, s2⟩
        go_simp
        with_reducible rfl
      rotate_left
      · simp only [Act.put, sA, sZ, sS, i64_w, i32_w]
        rfl
      refine one_ (i := 20) (N := some 57) #[T_, T_, T_, T_, T_, T_, T_, T_, T_, T_, T_, T_, T_, T_, T_, T_, T_, T_, T_, T_, T_, F_, F_] rfl rfl (one_of HT_.1 (by kernel_rfl)) (by decide) (fun K hK => ?_)
      refine goes_ Try.func49 (by kernel_rfl) rfl #[.slice A0 l0.length c0, .string (rdOf ByteArray.empty t363 x8_1), .string (rdOf ByteArray.empty l1 0), .int .i64 (wrap64 ((wrap64 (a2 - (l1.length : Int))) - 1))] (by rfl) rfl rfl (by (try simp only [List.map_toArray, List.map_cons, List.map_nil]); first | done | rfl | (simp only [List.length_drop, List.length_take]; rfl)) ?_
      with_reducible refine (r_back.calls kj16 _ _ l0 (rdOf ByteArray.empty t363 x8_1) (rdOf ByteArray.empty l1 0) (wrap64 ((wrap64 (a2 - (l1.length : Int))) - 1)) t372 _ ?side1 ?side2 A27.1).mono ?_
      (case side1 => exact C_kept_now HR0.1 (hk HK))
      (case side2 => exact HC0.1)
      rintro e w29 ⟨rfl, hb⟩
      have HS0_ := (hb.cell (World.block_lt_of_cell? _ _ (hHeld.1))).trans (hHeld.1)
      have HS1_ := (hb.cell (World.block_lt_of_cell? _ _ (hHeld.2.1))).trans (hHeld.2.1)
      have HS2_ := (hb.cell (World.block_lt_of_cell? _ _ (hHeld.2.2))).trans (hHeld.2.2)
      refine ⟨_, rfl, ?_⟩
      replace HO_1 := rb HO_1 hb
      replace HO_7 := rb HO_7 hb
      replace HK := aM (Kept.below (S := (fun k_ => P1_ k_)) (hk HK) hb)
      replace HB := bs HB hb
      (clear hb)
      skip
      skip
      skip
      refine hK.out _ _ ⟨HS0_, HS1_, HS2_⟩ (fun hHeld => ?_)
      clear hK K
      refine norm_ (a' := ?_) ?_ ?_
      rotate_left
      · show Act.put _ (some 57) _ = _
        simp only [Act.put, sA, sZ, sS, i64_w, i32_w]
        rfl
      refine pure_ (i := 21) (N := some 58) (v := ?_) (a' := ?_) #[T_, T_, T_, T_, T_, T_, T_, T_, T_, T_, T_, T_, T_, T_, T_, T_, T_, T_, T_, T_, T_, T_, F_] rfl rfl (any_of HT_.1 (by kernel_rfl)) (fun _ _ _ h => h) (Or.inl ⟨by rfl, ?_⟩) ?_ ?_
      rotate_left
      · intro w'
        go_simp
        with_reducible rfl
      rotate_left
      · simp only [Act.put, sA, sZ, sS, i64_w, i32_w]
        rfl
      refine pure_ (i := 22) (N := some 59) (v := ?_) (a' := ?_) #[T_, T_, T_, T_, T_, T_, T_, T_, T_, T_, T_, T_, T_, T_, T_, T_, T_, T_, T_, T_, T_, T_, T_] rfl rfl (any_of HT_.1 (by kernel_rfl)) (fun _ _ _ h => h) (Or.inl ⟨by rfl, ?_⟩) ?_ ?_
      rotate_left
      · intro w'
        go_simp
        with_reducible rfl
      rotate_left
      · simp only [Act.put, sA, sZ, sS, i64_w, i32_w]
        rfl
      refine done_ (done_of HT_.1 (by kernel_rfl)) ?_
      try go_wp2
      go_meet
      case rel => exact ⟨_, (!t372), rr, H', ⟨by have := HK1.1; have := HJ16.1; first | omega | exact Nat.le_refl _⟩, ⟨rk HO_1⟩, ⟨rk HO_7⟩, ⟨hk HK⟩, ⟨hh HB⟩⟩
     case rest =>
      clear HC20
      obtain ⟨kq, x59_19, rfl, HA, HJ19, HO_1, HO_7, HK, HB⟩ := hcut
      cases kq with
      | zero => exact absurd HA.1 (by simp [r_paths.j2])
      | succ kj19 =>
       have H := HA.1
       clear HA
       simp only [r_paths.j2] at H
       by_cases c30 : x59_19 = true
       · subst c30
         rw [if_pos rfl] at H
         have H' := aM H
         clear H
         go_wp2
         go_roundg kj19
         case measure => have := HK1.1; have := HJ16.1; have := HJ19.1; omega
         case rel => exact ⟨(wrap64 (x8_1 + 1)), rr, H', ⟨by have := HK1.1; have := HJ16.1; have := HJ19.1; omega⟩, ⟨rk HO_1⟩, ⟨rk HO_7⟩, ⟨hk HK⟩, ⟨hh HB⟩⟩
       replace c30 := Bool.eq_false_iff.mpr c30
       subst c30
       rw [if_neg (show ¬ (false = true) by decide)] at H
       by_cases c31 : ([] : List ByteArray).length + l1.length < 8796093022208
       rotate_left
       · rw [if_neg c31] at H
         exact absurd H (by simp)
       rw [if_pos c31] at H
       have LMc31 := aM c31
       clear c31
       obtain ⟨y373, hy373⟩ : ∃ y_ : List ByteArray, y_ = (([] : List ByteArray) ++ l1) := ⟨_, rfl⟩
       replace H : (if 0 <= x8_1 then (if x8_1 < (t363.length : Int) then (if y373.length < 8796093022208 then ((r_paths.f kj19 l0 (y373 ++ [rdOf ByteArray.empty t363 x8_1]) a2).bind fun t380 => (if (t380.length : Int) > 0 then (some t380) else (r_paths.l0 kj19 l0 l1 a2 t363 (wrap64 (x8_1 + 1))))) else (none)) else (none)) else (none)) = some r := by first | (rw [hy373]; with_reducible exact H) | (have H2_ := (Option.bind_some _ _).symm.trans H; rw [hy373]; with_reducible exact H2_) | (have H2_ := (Option.bind_some _ _).symm.trans H; with_reducible exact H2_) | with_reducible exact H | (rw [hy373]; exact H) | exact H
       have Ny373 := aM hy373
       clear hy373
       by_cases c32 : 0 <= x8_1
       rotate_left
       · rw [if_neg c32] at H
         exact absurd H (by simp)
       rw [if_pos c32] at H
       have c32b0 : decide (0 <= x8_1) = true := decide_eq_true c32
       clear c32
       by_cases c33 : x8_1 < (t363.length : Int)
       rotate_left
       · rw [if_neg c33] at H
         exact absurd H (by simp)
       rw [if_pos c33] at H
       have c33b0 : decide (x8_1 < (t363.length : Int)) = true := decide_eq_true c33
       clear c33
       by_cases c34 : y373.length < 8796093022208
       rotate_left
       · rw [if_neg c34] at H
         exact absurd H (by simp)
       rw [if_pos c34] at H
       have LMc34 := aM c34
       clear c34
       obtain ⟨y377, hy377⟩ : ∃ y_ : List ByteArray, y_ = (y373 ++ [rdOf ByteArray.empty t363 x8_1]) := ⟨_, rfl⟩
       replace H : ((r_paths.f kj19 l0 y377 a2).bind fun t380 => (if (t380.length : Int) > 0 then (some t380) else (r_paths.l0 kj19 l0 l1 a2 t363 (wrap64 (x8_1 + 1))))) = some r := by first | (rw [hy377]; with_reducible exact H) | (have H2_ := (Option.bind_some _ _).symm.trans H; rw [hy377]; with_reducible exact H2_) | (have H2_ := (Option.bind_some _ _).symm.trans H; with_reducible exact H2_) | with_reducible exact H | (rw [hy377]; exact H) | exact H
       have Ny377 := aM hy377
       clear hy377
       replace H := Option.bind_eq_some_iff.mp H
       obtain ⟨t380, A350, H⟩ := H
       try dsimp only at H
       have A35 := aM A350
       clear A350
       by_cases c36 : (t380.length : Int) > 0
       · rw [if_pos c36] at H
         have c36b0 : decide (0 < (t380.length : Int)) = true := decide_eq_true c36
         have c36b1 : decide (0 < t380.length) = true := decide_eq_true (by omega)
         clear c36
         obtain rfl := Option.some.inj H
         go_wp2_with (first | ((with_reducible refine gate_builtin (b := .append) (xs := #[.tmp 60, .tmp 61]) rfl ?_); (try (refine gate_guard (by rfl) ?_; dsimp only)); at_builtin; refine R_append_rows Kd.string (w0 := w0) w0.heap.size rfl (.tmp 60) (.tmp 61) 25 9 (.string ⟨#[]⟩) 16 rfl Try.underlying25 info9 rfl (by decide) (by omega) (.slice none 0 0) ([] : List ByteArray) l1 _ _ _ (fun k_ => (P1_ k_ \/ w.heap.size <= k_) /\ some k_ ≠ (.slice (some ad362) l1.length co14 : Value).ownBlock /\ some k_ ≠ (.slice Ao16 t363.length co16 : Value).ownBlock) (fun _ => False) rfl rfl ?aO ?aR (fun _ _ h => h) (fun _ h => h.elim) ?aF ?aB ?aS ?aL ?_; (case aR => exact cr HO_1); (case aB => exact (hh HB)); (case aF => exact (fun k_ hk => ⟨(.inr (Nat.le_trans (by first | exact HK.1.1 | exact (show Kept w _ (fun k_ => P1_ k_) from hk HK).1) hk)), Kd.fresh' (R_lt (rk HO_1)) k_ hk, Kd.fresh' (R_lt (rk HO_7)) k_ hk⟩)); (case aO => exact ((R_nil _ _ _ _ (fun k_ => (P1_ k_ \/ w.heap.size <= k_) /\ some k_ ≠ (.slice (some ad362) l1.length co14 : Value).ownBlock /\ some k_ ≠ (.slice Ao16 t363.length co16 : Value).ownBlock)))); (case aS => exact (below_size (hh HB))); (case aL => have := LMc31.1; omega); intro v374 w37 ho hb hg hat; rw [<- Ny373.1] at ho; have HO375 := aM (ho); replace HO_1 := aM (R_after (R_apart_nil (rk HO_1)) hg hat); replace HO_7 := aM (R_after (R_apart_nil (rk HO_7)) hg hat); replace HB := aM (hb); replace HK := aM (Kept.of_grown (S := (fun k_ => P1_ k_)) hg (hk HK) (fun k_ e_ => by simp [Value.ownBlock] at e_)); clear ho hb hg hat; have p376 : 0 <= (x8_1 : Int) := dt; have q376 : x8_1 < (t363.length : Int) := dt; obtain ⟨ad376, e376, hx376_0⟩ := Kd.at_string (R_reads' HO_7.1).2.2 x8_1 p376 q376; cases e376; replace p376 := eq_true p376; replace q376 := eq_true q376) | ((with_reducible refine gate_builtin (b := .append) (xs := #[.tmp 63, .tmp 68]) rfl ?_); (try (refine gate_guard (by rfl) ?_; dsimp only)); at_builtin; refine R_append Kd.string (w0 := w0) w0.heap.size rfl (.tmp 63) (.tmp 68) 25 9 (.string ⟨#[]⟩) 16 rfl Try.underlying25 info9 rfl (by decide) (by omega) v374 y373 (rdOf ByteArray.empty t363 x8_1) [.string (rdOf ByteArray.empty t363 x8_1)] (fun k_ => (P1_ k_ \/ w.heap.size <= k_) /\ some k_ ≠ (.slice (some ad362) l1.length co14 : Value).ownBlock /\ some k_ ≠ (.slice (some ad376) t363.length co16 : Value).ownBlock) (fun _ => False) rfl rfl ?aP (fun _ hk => hk.elim) ?aF ?aO ?aB ?aS ?aL ?_; (case aP => exact rfl); (case aB => exact (hh HB)); (case aF => exact (fun k_ hk => ⟨(.inr (Nat.le_trans (by first | exact HK.1.1 | exact (show Kept w _ (fun k_ => P1_ k_) from hk HK).1) hk)), Kd.fresh' (R_lt (rk HO_1)) k_ hk, Kd.fresh' (R_lt (rk HO_7)) k_ hk⟩)); (case aO => exact (rk HO375)); (case aS => exact (below_size (hh HB))); (case aL => have := LMc34.1; omega); intro v378 w38 ho hb hg hat; rw [<- Ny377.1] at ho; have HO379 := aM (ho); replace HO_1 := aM (R_after (ok := (fun k_ => (P1_ k_ \/ w.heap.size <= k_) /\ some k_ ≠ (.slice (some ad376) t363.length co16 : Value).ownBlock)) (rk HO_1) hg hat); replace HO_7 := aM (R_after (ok := (fun k_ => (P1_ k_ \/ w.heap.size <= k_) /\ some k_ ≠ (.slice (some ad362) l1.length co14 : Value).ownBlock)) (rk HO_7) hg hat); replace HB := aM (hb); replace HK := aM (Kept.of_grown (S := (fun k_ => P1_ k_)) hg (hk HK) (fun k_ e_ => (HO375.1.1 k_ e_).1)); clear HO375; clear ho hb hg hat; obtain ⟨Ao39, co39, eo39⟩ := R_slice HO379.1; subst eo39) | ((with_reducible refine gate_callee (f := 37) rfl ?_); refine gL (some 73) rfl rfl Try.func37 (by kernel_rfl) rfl #[.slice A0 l0.length c0, .slice Ao39 y377.length co39, .int .i64 a2] rfl ?_; (with_reducible refine (ih kj19 (by have := HK1.1; have := HJ16.1; have := HJ19.1; omega) _ _ l0 (fun k_ => some k_ = (.slice Ao39 y377.length co39 : Value).ownBlock) (.slice Ao39 y377.length co39) y377 a2 t380 w0 _ ?side1 ?side2 ?side3 ?side4 A35.1).mono ?_); (case side1 => repeat (first | (with_reducible first | exact HB.1 | apply bA | apply bN | apply bD) | exact HB.1)); (case side2 => exact C_kept_call HR0.1 (hk HK) (fun k_ hs_ => (fun e_ => (HO379.1.1 k_ e_.symm).1) hs_)); (case side3 => exact HC0.1); (case side4 => exact R_tight rfl HO379.1); rintro e w40 ⟨v381, rfl, ho0, hb, hkp⟩; refine ⟨_, rfl, ?_⟩; have HO382 := aM (R_mono (ok' := fun k_ => (P1_ k_ \/ w.heap.size <= k_) /\ some k_ ≠ (.slice (some ad362) l1.length co14 : Value).ownBlock /\ some k_ ≠ (.slice (some ad376) t363.length co16 : Value).ownBlock) ho0 (fun k_ hk_ => ⟨Or.elim hk_ (fun hs_ => (HO379.1.1 k_ (hs_).symm).1) (fun hn_ => (.inr (Nat.le_trans (by first | exact HK.1.1 | exact (show Kept w _ (fun k_ => P1_ k_) from hk HK).1) hn_))), Or.elim hk_ (fun hs_ => fun e_ => (((HO_1.1).1 k_ e_.symm).2) hs_) (fun hn_ => (Kd.fresh' (R_lt (rk HO_1)) k_ hn_)), Or.elim hk_ (fun hs_ => fun e_ => (((HO_7.1).1 k_ e_.symm).2) hs_) (fun hn_ => (Kd.fresh' (R_lt (rk HO_7)) k_ hn_))⟩)); replace HO_1 := aM (R_mono (ok' := fun k_ => (P1_ k_ \/ w.heap.size <= k_) /\ some k_ ≠ (.slice (some ad376) t363.length co16 : Value).ownBlock /\ some k_ ≠ (v381 : Value).ownBlock) (R_keptB (HO_1.1) hkp (fun k_ hk_ hs_ => (hk_.2) hs_)) (fun k_ hk_ => ⟨hk_.1.1.1, hk_.1.1.2, fun e_ => Or.elim (ho0.1 k_ e_.symm) (fun hs_ => hk_.2.1 hs_) (fun hn_ => Nat.not_le.2 hk_.2.2 hn_)⟩)); replace HO_7 := aM (R_mono (ok' := fun k_ => (P1_ k_ \/ w.heap.size <= k_) /\ some k_ ≠ (.slice (some ad362) l1.length co14 : Value).ownBlock /\ some k_ ≠ (v381 : Value).ownBlock) (R_keptB (HO_7.1) hkp (fun k_ hk_ hs_ => (hk_.2) hs_)) (fun k_ hk_ => ⟨hk_.1.1.1, hk_.1.1.2, fun e_ => Or.elim (ho0.1 k_ e_.symm) (fun hs_ => hk_.2.1 hs_) (fun hn_ => Nat.not_le.2 hk_.2.2 hn_)⟩)); replace HK := aM (Kept.then_ (S := (fun k_ => P1_ k_)) (hk HK) hkp (fun k_ hs_ => (fun e_ => (HO379.1.1 k_ e_.symm).1) hs_)); replace HB := aM (hb); clear HO379; clear hb hkp ho0; obtain ⟨Ao41, co41, eo41⟩ := R_slice HO382.1; subst eo41))
         go_ret
         exact ⟨_, by first | rfl | (simp [errW_none, errW_some] <;> rfl) | (simp only [<- hji4]; first | rfl | (simp [errW_none, errW_some] <;> rfl)) | (simp [*, errW_none, errW_some] <;> rfl), rz (R_mono HO382.1 (fun _ hk => hk.1)), hh HB, hk HK⟩
       rw [if_neg c36] at H
       have c36b0 : decide (0 < (t380.length : Int)) = false := decide_eq_false c36
       have c36b1 : decide (0 < t380.length) = false := decide_eq_false (by omega)
       clear c36
       have H' := aM H
       clear H
       go_wp2_with (first | ((with_reducible refine gate_builtin (b := .append) (xs := #[.tmp 60, .tmp 61]) rfl ?_); (try (refine gate_guard (by rfl) ?_; dsimp only)); at_builtin; refine R_append_rows Kd.string (w0 := w0) w0.heap.size rfl (.tmp 60) (.tmp 61) 25 9 (.string ⟨#[]⟩) 16 rfl Try.underlying25 info9 rfl (by decide) (by omega) (.slice none 0 0) ([] : List ByteArray) l1 _ _ _ (fun k_ => (P1_ k_ \/ w.heap.size <= k_) /\ some k_ ≠ (.slice (some ad362) l1.length co14 : Value).ownBlock /\ some k_ ≠ (.slice Ao16 t363.length co16 : Value).ownBlock) (fun _ => False) rfl rfl ?aO ?aR (fun _ _ h => h) (fun _ h => h.elim) ?aF ?aB ?aS ?aL ?_; (case aR => exact cr HO_1); (case aB => exact (hh HB)); (case aF => exact (fun k_ hk => ⟨(.inr (Nat.le_trans (by first | exact HK.1.1 | exact (show Kept w _ (fun k_ => P1_ k_) from hk HK).1) hk)), Kd.fresh' (R_lt (rk HO_1)) k_ hk, Kd.fresh' (R_lt (rk HO_7)) k_ hk⟩)); (case aO => exact ((R_nil _ _ _ _ (fun k_ => (P1_ k_ \/ w.heap.size <= k_) /\ some k_ ≠ (.slice (some ad362) l1.length co14 : Value).ownBlock /\ some k_ ≠ (.slice Ao16 t363.length co16 : Value).ownBlock)))); (case aS => exact (below_size (hh HB))); (case aL => have := LMc31.1; omega); intro v374 w42 ho hb hg hat; rw [<- Ny373.1] at ho; have HO375 := aM (ho); replace HO_1 := aM (R_after (R_apart_nil (rk HO_1)) hg hat); replace HO_7 := aM (R_after (R_apart_nil (rk HO_7)) hg hat); replace HB := aM (hb); replace HK := aM (Kept.of_grown (S := (fun k_ => P1_ k_)) hg (hk HK) (fun k_ e_ => by simp [Value.ownBlock] at e_)); clear ho hb hg hat; have p376 : 0 <= (x8_1 : Int) := dt; have q376 : x8_1 < (t363.length : Int) := dt; obtain ⟨ad376, e376, hx376_0⟩ := Kd.at_string (R_reads' HO_7.1).2.2 x8_1 p376 q376; cases e376; replace p376 := eq_true p376; replace q376 := eq_true q376) | ((with_reducible refine gate_builtin (b := .append) (xs := #[.tmp 63, .tmp 68]) rfl ?_); (try (refine gate_guard (by rfl) ?_; dsimp only)); at_builtin; refine R_append Kd.string (w0 := w0) w0.heap.size rfl (.tmp 63) (.tmp 68) 25 9 (.string ⟨#[]⟩) 16 rfl Try.underlying25 info9 rfl (by decide) (by omega) v374 y373 (rdOf ByteArray.empty t363 x8_1) [.string (rdOf ByteArray.empty t363 x8_1)] (fun k_ => (P1_ k_ \/ w.heap.size <= k_) /\ some k_ ≠ (.slice (some ad362) l1.length co14 : Value).ownBlock /\ some k_ ≠ (.slice (some ad376) t363.length co16 : Value).ownBlock) (fun _ => False) rfl rfl ?aP (fun _ hk => hk.elim) ?aF ?aO ?aB ?aS ?aL ?_; (case aP => exact rfl); (case aB => exact (hh HB)); (case aF => exact (fun k_ hk => ⟨(.inr (Nat.le_trans (by first | exact HK.1.1 | exact (show Kept w _ (fun k_ => P1_ k_) from hk HK).1) hk)), Kd.fresh' (R_lt (rk HO_1)) k_ hk, Kd.fresh' (R_lt (rk HO_7)) k_ hk⟩)); (case aO => exact (rk HO375)); (case aS => exact (below_size (hh HB))); (case aL => have := LMc34.1; omega); intro v378 w43 ho hb hg hat; rw [<- Ny377.1] at ho; have HO379 := aM (ho); replace HO_1 := aM (R_after (ok := (fun k_ => (P1_ k_ \/ w.heap.size <= k_) /\ some k_ ≠ (.slice (some ad376) t363.length co16 : Value).ownBlock)) (rk HO_1) hg hat); replace HO_7 := aM (R_after (ok := (fun k_ => (P1_ k_ \/ w.heap.size <= k_) /\ some k_ ≠ (.slice (some ad362) l1.length co14 : Value).ownBlock)) (rk HO_7) hg hat); replace HB := aM (hb); replace HK := aM (Kept.of_grown (S := (fun k_ => P1_ k_)) hg (hk HK) (fun k_ e_ => (HO375.1.1 k_ e_).1)); clear HO375; clear ho hb hg hat; obtain ⟨Ao44, co44, eo44⟩ := R_slice HO379.1; subst eo44) | ((with_reducible refine gate_callee (f := 37) rfl ?_); refine gL (some 73) rfl rfl Try.func37 (by kernel_rfl) rfl #[.slice A0 l0.length c0, .slice Ao44 y377.length co44, .int .i64 a2] rfl ?_; (with_reducible refine (ih kj19 (by have := HK1.1; have := HJ16.1; have := HJ19.1; omega) _ _ l0 (fun k_ => some k_ = (.slice Ao44 y377.length co44 : Value).ownBlock) (.slice Ao44 y377.length co44) y377 a2 t380 w0 _ ?side1 ?side2 ?side3 ?side4 A35.1).mono ?_); (case side1 => repeat (first | (with_reducible first | exact HB.1 | apply bA | apply bN | apply bD) | exact HB.1)); (case side2 => exact C_kept_call HR0.1 (hk HK) (fun k_ hs_ => (fun e_ => (HO379.1.1 k_ e_.symm).1) hs_)); (case side3 => exact HC0.1); (case side4 => exact R_tight rfl HO379.1); rintro e w45 ⟨v381, rfl, ho0, hb, hkp⟩; refine ⟨_, rfl, ?_⟩; have HO382 := aM (R_mono (ok' := fun k_ => (P1_ k_ \/ w.heap.size <= k_) /\ some k_ ≠ (.slice (some ad362) l1.length co14 : Value).ownBlock /\ some k_ ≠ (.slice (some ad376) t363.length co16 : Value).ownBlock) ho0 (fun k_ hk_ => ⟨Or.elim hk_ (fun hs_ => (HO379.1.1 k_ (hs_).symm).1) (fun hn_ => (.inr (Nat.le_trans (by first | exact HK.1.1 | exact (show Kept w _ (fun k_ => P1_ k_) from hk HK).1) hn_))), Or.elim hk_ (fun hs_ => fun e_ => (((HO_1.1).1 k_ e_.symm).2) hs_) (fun hn_ => (Kd.fresh' (R_lt (rk HO_1)) k_ hn_)), Or.elim hk_ (fun hs_ => fun e_ => (((HO_7.1).1 k_ e_.symm).2) hs_) (fun hn_ => (Kd.fresh' (R_lt (rk HO_7)) k_ hn_))⟩)); replace HO_1 := aM (R_mono (ok' := fun k_ => (P1_ k_ \/ w.heap.size <= k_) /\ some k_ ≠ (.slice (some ad376) t363.length co16 : Value).ownBlock /\ some k_ ≠ (v381 : Value).ownBlock) (R_keptB (HO_1.1) hkp (fun k_ hk_ hs_ => (hk_.2) hs_)) (fun k_ hk_ => ⟨hk_.1.1.1, hk_.1.1.2, fun e_ => Or.elim (ho0.1 k_ e_.symm) (fun hs_ => hk_.2.1 hs_) (fun hn_ => Nat.not_le.2 hk_.2.2 hn_)⟩)); replace HO_7 := aM (R_mono (ok' := fun k_ => (P1_ k_ \/ w.heap.size <= k_) /\ some k_ ≠ (.slice (some ad362) l1.length co14 : Value).ownBlock /\ some k_ ≠ (v381 : Value).ownBlock) (R_keptB (HO_7.1) hkp (fun k_ hk_ hs_ => (hk_.2) hs_)) (fun k_ hk_ => ⟨hk_.1.1.1, hk_.1.1.2, fun e_ => Or.elim (ho0.1 k_ e_.symm) (fun hs_ => hk_.2.1 hs_) (fun hn_ => Nat.not_le.2 hk_.2.2 hn_)⟩)); replace HK := aM (Kept.then_ (S := (fun k_ => P1_ k_)) (hk HK) hkp (fun k_ hs_ => (fun e_ => (HO379.1.1 k_ e_.symm).1) hs_)); replace HB := aM (hb); clear HO379; clear hb hkp ho0; obtain ⟨Ao46, co46, eo46⟩ := R_slice HO382.1; subst eo46))
       go_roundg kj19
       case measure => have := HK1.1; have := HJ16.1; have := HJ19.1; omega
       case rel => exact ⟨(wrap64 (x8_1 + 1)), rr, H', ⟨by have := HK1.1; have := HJ16.1; have := HJ19.1; omega⟩, ⟨rz (R_mono HO_1.1 (fun _ hk => ⟨hk.1, hk.2.1⟩))⟩, ⟨rz (R_mono HO_7.1 (fun _ hk => ⟨hk.1, hk.2.1⟩))⟩, ⟨hk HK⟩, ⟨hh HB⟩⟩
mutual
noncomputable def r_Cycle.l0 : Nat -> List (S42) -> List ByteArray -> Int -> Option (List ByteArray)
 | 0, _, _, _ => none
 | k + 1, x0, x3, x4 => if x4 <= (x3.length : Int) then (r_Cycle.l1 k x0 x3 x4 0) else (some ([] : List ByteArray))
noncomputable def r_Cycle.l1 : Nat -> List (S42) -> List ByteArray -> Int -> Int -> Option (List ByteArray)
 | 0, _, _, _, _ => none
 | k + 1, x0, x3, x4, x5 => if x5 < (x3.length : Int) then (if 0 <= x5 then ((r_paths.f k x0 (([rdOf ByteArray.empty x3 x5] : List ByteArray)) x4).bind fun t394 => (if (t394.length : Int) > 0 then (some t394) else (r_Cycle.l1 k x0 x3 x4 (wrap64 (x5 + 1))))) else (none)) else (r_Cycle.l0 k x0 x3 (wrap64 (x4 + 1)))
end
noncomputable def r_Cycle.f (k : Nat) (l0 : List (S42)) : Option (List ByteArray) := (r_consistent.f k l0).bind fun bt383 => (if bt383.1 = 0 then ((r_Names.f k l0).bind fun t387 => (r_Cycle.l0 k l0 t387 1)) else (some ([] : List ByteArray)))
theorem r_Cycle.calls (k : Nat) (A0 : Option Addr) (c0 : Nat) (l0 : List (S42)) (r : List ByteArray) (w : World) (hr0 : Kd.C k42 w A0 l0.length l0) (hc0 : l0.length <= c0) (h : r_Cycle.f k l0 = some r) :
 Calls Try.prog 20 #[.slice A0 l0.length c0] w fun e w' => ∃ v0_ : Value, e = .returned (v0_) /\ Kd.R Kd.string 9 w' w.heap.size (fun _ => True) v0_ r /\ Below w.heap.size w w' := by
 have hu28 := Try.underlying28
 have HR0 := aM hr0
 have HC0 := aM hc0
 clear hr0 hc0
 have HB := aM (Below.refl w.heap.size w)
 have H : ((r_consistent.f k l0).bind fun bt383 => (if bt383.1 = 0 then ((r_Names.f k l0).bind fun t387 => (r_Cycle.l0 k l0 t387 1)) else (some ([] : List ByteArray)))) = some r := h
 clear h
 replace H := Option.bind_eq_some_iff.mp H
 obtain ⟨⟨t383, t384, t385, t386⟩, A20, H⟩ := H
 try dsimp only at H
 have A2 := aM A20
 clear A20
 by_cases c3 : t383 = 0
 rotate_left
 · rw [if_neg c3] at H
   have c3b0 : (t383 == 0) = false := beq_eq_false_iff_ne.mpr c3
   have c3b1 : (t383 != 0) = true := bne_iff_ne.mpr c3
   obtain rfl := Option.some.inj H
   go_enter Try.func20, Try.ntmps20
   go_wp2_with (first | ((with_reducible refine gate_callee (f := 36) rfl ?_); refine gL (some 8) rfl rfl Try.func36 (by kernel_rfl) rfl #[.slice A0 l0.length c0] rfl ?_; (with_reducible refine (r_consistent.calls k _ _ l0 t383 t384 t385 t386 _ ?side1 ?side2 A2.1).mono ?_); (case side1 => exact ck HR0); (case side2 => exact HC0.1); rintro e w24 ⟨rfl, hb⟩; refine ⟨_, rfl, ?_⟩; replace HB := bs HB hb; clear hb))
   go_ret
   exact ⟨_, by first | rfl | (simp [errW_none, errW_some] <;> rfl) | (simp [*, errW_none, errW_some] <;> rfl), by first | exact R_nil _ _ _ _ _ | exact N_nil _ _ _ _ _ | exact V_nil _ _ _ _ _ | exact Q_nil _ _ _ _ _ | exact S_nil _ _ _ _ _, hh HB⟩
 rw [if_pos c3] at H
 have c3b0 : (t383 == 0) = true := beq_iff_eq.mpr c3
 have c3b1 : (t383 != 0) = false := bne_eq_false_iff_eq.mpr c3
 clear c3
 replace H := Option.bind_eq_some_iff.mp H
 obtain ⟨t387, A40, H⟩ := H
 try dsimp only at H
 have A4 := aM A40
 clear A40
 have H' := aM H
 clear H
 go_enter Try.func20, Try.ntmps20
 go_wp2_with (first | ((with_reducible refine gate_callee (f := 36) rfl ?_); refine gL (some 8) rfl rfl Try.func36 (by kernel_rfl) rfl #[.slice A0 l0.length c0] rfl ?_; (with_reducible refine (r_consistent.calls k _ _ l0 t383 t384 t385 t386 _ ?side1 ?side2 A2.1).mono ?_); (case side1 => exact ck HR0); (case side2 => exact HC0.1); rintro e w5 ⟨rfl, hb⟩; refine ⟨_, rfl, ?_⟩; replace HB := bs HB hb; clear hb) | ((with_reducible refine gate_callee (f := 28) rfl ?_); refine gL (some 12) rfl rfl Try.func28 (by kernel_rfl) rfl #[.slice A0 l0.length c0] rfl ?_; (with_reducible refine (r_Names.calls k _ _ l0 t387 _ ?side1 ?side2 A4.1).mono ?_); (case side1 => exact cb HR0 HB); (case side2 => exact HC0.1); rintro e w6 ⟨v388, rfl, ho0, hb⟩; refine ⟨_, rfl, ?_⟩; have HO389 := aM (R_lower ho0 (below_size (hh HB))); replace HB := bs HB hb; clear hb ho0))
 go_loopg [4] k (fun kq v4 w' => ∃ (x4_1 : Int), v4 = .int .i64 x4_1 /\ Az (r_Cycle.l0 kq l0 t387 x4_1 = some r) /\ Az (kq <= k) /\ Az (Kd.R Kd.string 9 w' w.heap.size (fun _ => True) v388 t387) /\ Az (Below w.heap.size w w'))
 case atStart => exact ⟨(1), rr, H', ⟨Nat.le_refl _⟩, ⟨rk HO389⟩, ⟨hh HB⟩⟩
 case round =>
  clear H'
  clear c3b0 c3b1
  obtain ⟨x4_1, rfl, HA, HK1, HO_3, HB⟩ := hrel
  cases gk with
  | zero => exact absurd HA.1 (by simp [r_Cycle.l0])
  | succ k1 =>
   have H := HA.1
   clear HA
   simp only [r_Cycle.l0] at H
   by_cases c7 : x4_1 <= (t387.length : Int)
   rotate_left
   · rw [if_neg c7] at H
     have c7b0 : decide (x4_1 <= (t387.length : Int)) = false := decide_eq_false c7
     clear c7
     obtain rfl := Option.some.inj H
     obtain ⟨Ao23, co23, eo23⟩ := R_slice HO_3.1
     subst eo23
     go_wp2
     go_ret
     exact ⟨_, by first | rfl | (simp [errW_none, errW_some] <;> rfl) | (simp [*, errW_none, errW_some] <;> rfl), by first | exact R_nil _ _ _ _ _ | exact N_nil _ _ _ _ _ | exact V_nil _ _ _ _ _ | exact Q_nil _ _ _ _ _ | exact S_nil _ _ _ _ _, hh HB⟩
   rw [if_pos c7] at H
   have c7b0 : decide (x4_1 <= (t387.length : Int)) = true := decide_eq_true c7
   clear c7
   have H' := aM H
   clear H
   obtain ⟨Ao8, co8, eo8⟩ := R_slice HO_3.1
   subst eo8
   go_wp2
   go_loopg [5] k1 (fun kq v5 w' => ∃ (x5_2 : Int), v5 = .int .i64 x5_2 /\ Az (r_Cycle.l1 kq l0 t387 x4_1 x5_2 = some r) /\ Az (kq <= k1) /\ Az (Kd.R Kd.string 9 w' w.heap.size (fun _ => True) (.slice Ao8 t387.length co8) t387) /\ Az (Below w.heap.size w w'))
   case atStart => exact ⟨(0), rr, H', ⟨Nat.le_refl _⟩, ⟨rk HO_3⟩, ⟨hh HB⟩⟩
   case round =>
    clear H'
    clear c7b0
    obtain ⟨x5_2, rfl, HA, HK2, HO_3, HB⟩ := hrel
    cases gk with
    | zero => exact absurd HA.1 (by simp [r_Cycle.l1])
    | succ k2 =>
     have H := HA.1
     clear HA
     simp only [r_Cycle.l1] at H
     by_cases c9 : x5_2 < (t387.length : Int)
     rotate_left
     · rw [if_neg c9] at H
       have c9b0 : decide (x5_2 < (t387.length : Int)) = false := decide_eq_false c9
       clear c9
       have H' := aM H
       clear H
       go_wp2
       go_roundg k2
       case measure => have := HK1.1; have := HK2.1; omega
       case rel => exact ⟨(wrap64 (x4_1 + 1)), rr, H', ⟨by have := HK1.1; have := HK2.1; omega⟩, ⟨rk HO_3⟩, ⟨hh HB⟩⟩
     rw [if_pos c9] at H
     have c9b0 : decide (x5_2 < (t387.length : Int)) = true := decide_eq_true c9
     clear c9
     by_cases c10 : 0 <= x5_2
     rotate_left
     · rw [if_neg c10] at H
       exact absurd H (by simp)
     rw [if_pos c10] at H
     have c10b0 : decide (0 <= x5_2) = true := decide_eq_true c10
     clear c10
     obtain ⟨y391, hy391⟩ : ∃ y_ : List ByteArray, y_ = (([rdOf ByteArray.empty t387 x5_2] : List ByteArray)) := ⟨_, rfl⟩
     replace H : ((r_paths.f k2 l0 y391 x4_1).bind fun t394 => (if (t394.length : Int) > 0 then (some t394) else (r_Cycle.l1 k2 l0 t387 x4_1 (wrap64 (x5_2 + 1))))) = some r := by first | (rw [hy391]; with_reducible exact H) | (have H2_ := (Option.bind_some _ _).symm.trans H; rw [hy391]; with_reducible exact H2_) | (have H2_ := (Option.bind_some _ _).symm.trans H; with_reducible exact H2_) | with_reducible exact H | (rw [hy391]; exact H) | exact H
     have Ny391 := aM hy391
     clear hy391
     replace H := Option.bind_eq_some_iff.mp H
     obtain ⟨t394, A110, H⟩ := H
     try dsimp only at H
     have A11 := aM A110
     clear A110
     by_cases c12 : (t394.length : Int) > 0
     · rw [if_pos c12] at H
       have c12b0 : decide (0 < (t394.length : Int)) = true := decide_eq_true c12
       have c12b1 : decide (0 < t394.length) = true := decide_eq_true (by omega)
       clear c12
       obtain rfl := Option.some.inj H
       have p390 : 0 <= (x5_2 : Int) := dt
       have q390 : x5_2 < (t387.length : Int) := dt
       obtain ⟨ad390, e390, hx390_0⟩ := Kd.at_string (R_reads' HO_3.1).2.2 x5_2 p390 q390
       cases e390
       replace p390 := eq_true p390
       replace q390 := eq_true q390
       go_wp2_with (first | ((with_reducible refine gate_dst (N := 30) rfl ?_); refine R_lit Kd.string _ 9 ?hg (N := 30) ?hd (xs := ([rdOf ByteArray.empty t387 x5_2] : List ByteArray)) (inner := [.string (rdOf ByteArray.empty t387 x5_2)]) (ok := fun _ => True) (okp := fun _ => True) ?hr ?hp (fun _ hk => hk) trivial (Below.refl _ _) (Nat.le_refl _) (by simp) ?_; (case hd => rfl); (case hg => rfl); (case hr => first | (go_simp; done) | (go_simp; rfl)); (case hp => exact (Reps.one (show Kd.M Kd.string _ _ _ (rdOf ByteArray.empty t387 x5_2) [.string (rdOf ByteArray.empty t387 x5_2)] from rfl) (Reps.none _ _))); intro v392 w13 ho14 hb hg_ hnew_; clear hg_ hnew_; (first | rw [<- Ny391.1] at ho14 | (simp only [Int.reduceToNat] at ho14; rw [<- Ny391.1] at ho14)); have HO393 := aM (R_lower (R_new' ho14 (R_lt (rk HO_3))) (below_size (hh HB))); replace HO_3 := aM (R_elder' (rk HO_3) (R_base ho14) hb); replace HB := bs HB hb; clear hb ho14; obtain ⟨Ao15, co15, eo15⟩ := R_slice HO393.1; subst eo15) | ((with_reducible refine gate_callee (f := 37) rfl ?_); refine gL (some 32) rfl rfl Try.func37 (by kernel_rfl) rfl #[.slice A0 l0.length c0, .slice Ao15 y391.length co15, .int .i64 x4_1] rfl ?_; (with_reducible refine (r_paths.calls k2 _ _ l0 (fun k_ => some k_ = (.slice Ao15 y391.length co15 : Value).ownBlock) (.slice Ao15 y391.length co15) y391 x4_1 t394 w _ ?side1 ?side2 ?side3 ?side4 A11.1).mono ?_); (case side1 => repeat (first | (with_reducible first | exact HB.1 | apply bA | apply bN | apply bD) | exact HB.1)); (case side2 => exact C_kept_came k42_heap HR0.1 (hh HB) (fun k_ hs_ => (fun e_ => R_base HO393.1 k_ e_.symm) hs_)); (case side3 => exact HC0.1); (case side4 => exact R_tight rfl HO393.1); rintro e w16 ⟨v395, rfl, ho0, hb, hkp⟩; refine ⟨_, rfl, ?_⟩; have HO396 := aM (R_mono (ok' := fun k_ => some k_ ≠ (.slice (some ad390) t387.length co8 : Value).ownBlock) ho0 (fun k_ hk_ => Or.elim hk_ (fun hs_ => fun e_ => (((HO_3.1).1 k_ e_.symm).2) hs_) (fun hn_ => (Kd.fresh' (R_lt (rk HO_3)) k_ hn_)))); replace HO_3 := aM (R_mono (ok' := fun k_ => some k_ ≠ (v395 : Value).ownBlock) (R_keptB (HO_3.1) hkp (fun k_ hk_ hs_ => (hk_.2) hs_)) (fun k_ hk_ => fun e_ => Or.elim (ho0.1 k_ e_.symm) (fun hs_ => hk_.2.1 hs_) (fun hn_ => Nat.not_le.2 hk_.2.2 hn_))); replace HB := aM (hb); clear HO393; clear hb hkp ho0; obtain ⟨Ao17, co17, eo17⟩ := R_slice HO396.1; subst eo17))
       go_ret
       exact ⟨_, by first | rfl | (simp [errW_none, errW_some] <;> rfl) | (simp [*, errW_none, errW_some] <;> rfl), rz (R_mono HO396.1 (fun _ hk => trivial)), hh HB⟩
     rw [if_neg c12] at H
     have c12b0 : decide (0 < (t394.length : Int)) = false := decide_eq_false c12
     have c12b1 : decide (0 < t394.length) = false := decide_eq_false (by omega)
     clear c12
     have H' := aM H
     clear H
     have p390 : 0 <= (x5_2 : Int) := dt
     have q390 : x5_2 < (t387.length : Int) := dt
     obtain ⟨ad390, e390, hx390_0⟩ := Kd.at_string (R_reads' HO_3.1).2.2 x5_2 p390 q390
     cases e390
     replace p390 := eq_true p390
     replace q390 := eq_true q390
     go_wp2_with (first | ((with_reducible refine gate_dst (N := 30) rfl ?_); refine R_lit Kd.string _ 9 ?hg (N := 30) ?hd (xs := ([rdOf ByteArray.empty t387 x5_2] : List ByteArray)) (inner := [.string (rdOf ByteArray.empty t387 x5_2)]) (ok := fun _ => True) (okp := fun _ => True) ?hr ?hp (fun _ hk => hk) trivial (Below.refl _ _) (Nat.le_refl _) (by simp) ?_; (case hd => rfl); (case hg => rfl); (case hr => first | (go_simp; done) | (go_simp; rfl)); (case hp => exact (Reps.one (show Kd.M Kd.string _ _ _ (rdOf ByteArray.empty t387 x5_2) [.string (rdOf ByteArray.empty t387 x5_2)] from rfl) (Reps.none _ _))); intro v392 w18 ho19 hb hg_ hnew_; clear hg_ hnew_; (first | rw [<- Ny391.1] at ho19 | (simp only [Int.reduceToNat] at ho19; rw [<- Ny391.1] at ho19)); have HO393 := aM (R_lower (R_new' ho19 (R_lt (rk HO_3))) (below_size (hh HB))); replace HO_3 := aM (R_elder' (rk HO_3) (R_base ho19) hb); replace HB := bs HB hb; clear hb ho19; obtain ⟨Ao20, co20, eo20⟩ := R_slice HO393.1; subst eo20) | ((with_reducible refine gate_callee (f := 37) rfl ?_); refine gL (some 32) rfl rfl Try.func37 (by kernel_rfl) rfl #[.slice A0 l0.length c0, .slice Ao20 y391.length co20, .int .i64 x4_1] rfl ?_; (with_reducible refine (r_paths.calls k2 _ _ l0 (fun k_ => some k_ = (.slice Ao20 y391.length co20 : Value).ownBlock) (.slice Ao20 y391.length co20) y391 x4_1 t394 w _ ?side1 ?side2 ?side3 ?side4 A11.1).mono ?_); (case side1 => repeat (first | (with_reducible first | exact HB.1 | apply bA | apply bN | apply bD) | exact HB.1)); (case side2 => exact C_kept_came k42_heap HR0.1 (hh HB) (fun k_ hs_ => (fun e_ => R_base HO393.1 k_ e_.symm) hs_)); (case side3 => exact HC0.1); (case side4 => exact R_tight rfl HO393.1); rintro e w21 ⟨v395, rfl, ho0, hb, hkp⟩; refine ⟨_, rfl, ?_⟩; have HO396 := aM (R_mono (ok' := fun k_ => some k_ ≠ (.slice (some ad390) t387.length co8 : Value).ownBlock) ho0 (fun k_ hk_ => Or.elim hk_ (fun hs_ => fun e_ => (((HO_3.1).1 k_ e_.symm).2) hs_) (fun hn_ => (Kd.fresh' (R_lt (rk HO_3)) k_ hn_)))); replace HO_3 := aM (R_mono (ok' := fun k_ => some k_ ≠ (v395 : Value).ownBlock) (R_keptB (HO_3.1) hkp (fun k_ hk_ hs_ => (hk_.2) hs_)) (fun k_ hk_ => fun e_ => Or.elim (ho0.1 k_ e_.symm) (fun hs_ => hk_.2.1 hs_) (fun hn_ => Nat.not_le.2 hk_.2.2 hn_))); replace HB := aM (hb); clear HO393; clear hb hkp ho0; obtain ⟨Ao22, co22, eo22⟩ := R_slice HO396.1; subst eo22))
     go_roundg k2
     case measure => have := HK1.1; have := HK2.1; omega
     case rel => exact ⟨(wrap64 (x5_2 + 1)), rr, H', ⟨by have := HK1.1; have := HK2.1; omega⟩, ⟨rz (R_mono HO_3.1 (fun _ hk => trivial))⟩, ⟨hh HB⟩⟩
noncomputable def r_fault.f (k : Nat) (l0 : List (S42)) : Option (Int × ByteArray × Int × Int) := (r_consistent.f k l0).bind fun bt398 => (if bt398.1 = 0 then ((r_Cycle.f k l0).bind fun t403 => (if (t403.length : Int) > 0 then (if 0 < (t403.length : Int) then (some (18, rdOf ByteArray.empty t403 0, 0, 0)) else (none)) else (some (bt398.1, bt398.2.1, bt398.2.2.1, bt398.2.2.2)))) else (some (bt398.1, bt398.2.1, bt398.2.2.1, bt398.2.2.2)))
theorem r_fault.calls (k : Nat) (A0 : Option Addr) (c0 : Nat) (l0 : List (S42)) (r1 : Int) (r2 : ByteArray) (r3 : Int) (r4 : Int) (w : World) (hr0 : Kd.C k42 w A0 l0.length l0) (hc0 : l0.length <= c0) (h : r_fault.f k l0 = some (r1, r2, r3, r4)) :
 Calls Try.prog 27 #[.slice A0 l0.length c0] w fun e w' => e = .returned (.agg #[.int .i64 r1, .string r2, .int .i64 r3, .int .i64 r4]) /\ Below w.heap.size w w' := by
 have hu28 := Try.underlying28
 have HR0 := aM hr0
 have HC0 := aM hc0
 clear hr0 hc0
 have HB := aM (Below.refl w.heap.size w)
 have H : ((r_consistent.f k l0).bind fun bt398 => (if bt398.1 = 0 then ((r_Cycle.f k l0).bind fun t403 => (if (t403.length : Int) > 0 then (if 0 < (t403.length : Int) then (some (18, rdOf ByteArray.empty t403 0, 0, 0)) else (none)) else (some (bt398.1, bt398.2.1, bt398.2.2.1, bt398.2.2.2)))) else (some (bt398.1, bt398.2.1, bt398.2.2.1, bt398.2.2.2)))) = some (r1, r2, r3, r4) := h
 clear h
 replace H := Option.bind_eq_some_iff.mp H
 obtain ⟨⟨t398, t399, t400, t401⟩, A20, H⟩ := H
 replace H : (if t398 = 0 then ((r_Cycle.f k l0).bind fun t403 => (if (t403.length : Int) > 0 then (if 0 < (t403.length : Int) then (some (18, rdOf ByteArray.empty t403 0, 0, 0)) else (none)) else (some (t398, t399, t400, t401)))) else (some (t398, t399, t400, t401))) = some (r1, r2, r3, r4) := H
 have A2 := aM A20
 clear A20
 by_cases c3 : t398 = 0
 rotate_left
 · rw [if_neg c3] at H
   have c3b0 : (t398 == 0) = false := beq_eq_false_iff_ne.mpr c3
   have c3b1 : (t398 != 0) = true := bne_iff_ne.mpr c3
   simp only [Option.some.injEq, Prod.mk.injEq] at H
   obtain ⟨rfl, rfl, rfl, rfl⟩ := H
   go_enter Try.func27, Try.ntmps27
   go_wp2_with (first | ((with_reducible refine gate_dst (N := 2) rfl ?_); refine be 2 rfl rfl #[.int .i64 0, .string (⟨#[]⟩ : ByteArray), .int .i64 0, .int .i64 0] 28 ?_; intro gb397 hg w24 hbox hb; have BK397 := aM hbox; have GE397 := gs hg HB; replace HB := bs HB hb; clear hb hbox hg) | ((with_reducible refine gate_callee (f := 36) rfl ?_); refine gL (some 6) rfl rfl Try.func36 (by kernel_rfl) rfl #[.slice A0 l0.length c0] rfl ?_; (with_reducible refine (r_consistent.calls k _ _ l0 t398 t399 t400 t401 _ ?side1 ?side2 A2.1).mono ?_); (case side1 => exact cb HR0 HB); (case side2 => exact HC0.1); rintro e w25 ⟨rfl, hb⟩; refine ⟨_, rfl, ?_⟩; replace BK397 := kb BK397 hb; replace HB := bs HB hb; clear hb) | ((with_reducible refine gate_dst (N := 3) rfl ?_); refine be 3 rfl rfl #[.int .i64 0, .string (⟨#[]⟩ : ByteArray), .int .i64 0, .int .i64 0] 28 ?_; intro gb402 hg w26 hbox hb; have BK402 := aM hbox; have GE402 := gs hg HB; have NB397_402 := nl hg BK397; have NB402_397 := nr hg BK397; replace BK397 := kb BK397 hb; replace HB := bs HB hb; clear hb hbox hg; have hnb27 := NB402_397.1; have hnc27 := NB397_402.1; obtain ⟨hcz28_0, hcz28_1, hcz28_2, hcz28_3⟩ := cz BK402; obtain ⟨hfz28_0, hfz28_1, hfz28_2, hfz28_3⟩ := fz BK402; obtain ⟨hcz29_0, hcz29_1, hcz29_2, hcz29_3⟩ := cz BK397; obtain ⟨hfz29_0, hfz29_1, hfz29_2, hfz29_3⟩ := fz BK397))
   refine bodyPost_ret (results_cell_row rfl _ _ gb397 28 #[.int .i64 t398, .string t399, .int .i64 t400, .int .i64 t401] (0, 0) _ rfl (kf BK397) Try.underlying28 rfl (by kernel_rfl)) rfl ?_
   exact ⟨by first | rfl | (simp [errW_none, errW_some] <;> rfl) | (simp [*, errW_none, errW_some] <;> rfl), hh HB⟩
 rw [if_pos c3] at H
 have c3b0 : (t398 == 0) = true := beq_iff_eq.mpr c3
 have c3b1 : (t398 != 0) = false := bne_eq_false_iff_eq.mpr c3
 clear c3
 replace H := Option.bind_eq_some_iff.mp H
 obtain ⟨t403, A40, H⟩ := H
 replace H : (if (t403.length : Int) > 0 then (if 0 < (t403.length : Int) then (some (18, rdOf ByteArray.empty t403 0, 0, 0)) else (none)) else (some (t398, t399, t400, t401))) = some (r1, r2, r3, r4) := H
 have A4 := aM A40
 clear A40
 by_cases c5 : (t403.length : Int) > 0
 rotate_left
 · rw [if_neg c5] at H
   have c5b0 : decide (0 < (t403.length : Int)) = false := decide_eq_false c5
   have c5b1 : decide (0 < t403.length) = false := decide_eq_false (by omega)
   clear c5
   simp only [Option.some.injEq, Prod.mk.injEq] at H
   obtain ⟨rfl, rfl, rfl, rfl⟩ := H
   go_enter Try.func27, Try.ntmps27
   go_wp2_with (first | ((with_reducible refine gate_dst (N := 2) rfl ?_); refine be 2 rfl rfl #[.int .i64 0, .string (⟨#[]⟩ : ByteArray), .int .i64 0, .int .i64 0] 28 ?_; intro gb397 hg w15 hbox hb; have BK397 := aM hbox; have GE397 := gs hg HB; replace HB := bs HB hb; clear hb hbox hg) | ((with_reducible refine gate_callee (f := 36) rfl ?_); refine gL (some 6) rfl rfl Try.func36 (by kernel_rfl) rfl #[.slice A0 l0.length c0] rfl ?_; (with_reducible refine (r_consistent.calls k _ _ l0 t398 t399 t400 t401 _ ?side1 ?side2 A2.1).mono ?_); (case side1 => exact cb HR0 HB); (case side2 => exact HC0.1); rintro e w16 ⟨rfl, hb⟩; refine ⟨_, rfl, ?_⟩; replace BK397 := kb BK397 hb; replace HB := bs HB hb; clear hb) | ((with_reducible refine gate_dst (N := 3) rfl ?_); refine be 3 rfl rfl #[.int .i64 0, .string (⟨#[]⟩ : ByteArray), .int .i64 0, .int .i64 0] 28 ?_; intro gb402 hg w17 hbox hb; have BK402 := aM hbox; have GE402 := gs hg HB; have NB397_402 := nl hg BK397; have NB402_397 := nr hg BK397; replace BK397 := kb BK397 hb; replace HB := bs HB hb; clear hb hbox hg; have hnb18 := NB402_397.1; have hnc18 := NB397_402.1; obtain ⟨hcz19_0, hcz19_1, hcz19_2, hcz19_3⟩ := cz BK402; obtain ⟨hfz19_0, hfz19_1, hfz19_2, hfz19_3⟩ := fz BK402) | ((with_reducible refine gate_callee (f := 20) rfl ?_); refine gL (some 12) rfl rfl Try.func20 (by kernel_rfl) rfl #[.slice A0 l0.length c0] rfl ?_; (with_reducible refine (r_Cycle.calls k _ _ l0 t403 _ ?side1 ?side2 A4.1).mono ?_); (case side1 => exact C_below HR0.1 (hh HB)); (case side2 => exact HC0.1); rintro e w20 ⟨v404, rfl, ho0, hb⟩; refine ⟨_, rfl, ?_⟩; have HO405 := aM (R_lower ho0 (below_size (hh HB))); replace BK397 := kg (o' := .cells #[.int .i64 0, .string (⟨#[]⟩ : ByteArray), .int .i64 0, .int .i64 0] 28 (0, 0)) BK397 hb; replace BK402 := kg (o' := .cells #[.int .i64 t398, .string t399, .int .i64 t400, .int .i64 t401] 28 (0, 0)) BK402 hb; replace HB := bs HB hb; clear hb ho0; obtain ⟨Ao21, co21, eo21⟩ := R_slice HO405.1; subst eo21; obtain ⟨hcz22_0, hcz22_1, hcz22_2, hcz22_3⟩ := cz BK402; obtain ⟨hfz22_0, hfz22_1, hfz22_2, hfz22_3⟩ := fz BK402; obtain ⟨hcz23_0, hcz23_1, hcz23_2, hcz23_3⟩ := cz BK397; obtain ⟨hfz23_0, hfz23_1, hfz23_2, hfz23_3⟩ := fz BK397))
   refine bodyPost_ret (results_cell_row rfl _ _ gb397 28 #[.int .i64 t398, .string t399, .int .i64 t400, .int .i64 t401] (0, 0) _ rfl (kf BK397) Try.underlying28 rfl (by kernel_rfl)) rfl ?_
   exact ⟨by first | rfl | (simp [errW_none, errW_some] <;> rfl) | (simp [*, errW_none, errW_some] <;> rfl), hh HB⟩
 rw [if_pos c5] at H
 have c5b0 : decide (0 < (t403.length : Int)) = true := decide_eq_true c5
 have c5b1 : decide (0 < t403.length) = true := decide_eq_true (by omega)
 clear c5
 by_cases c6 : 0 < (t403.length : Int)
 rotate_left
 · rw [if_neg c6] at H
   exact absurd H (by simp)
 rw [if_pos c6] at H
 have c6b0 : decide (0 < (t403.length : Int)) = true := decide_eq_true c6
 have c6b1 : decide (0 < t403.length) = true := decide_eq_true (by omega)
 clear c6
 simp only [Option.some.injEq, Prod.mk.injEq] at H
 obtain ⟨rfl, rfl, rfl, rfl⟩ := H
 go_enter Try.func27, Try.ntmps27
 go_wp2_with (first | ((with_reducible refine gate_dst (N := 2) rfl ?_); refine be 2 rfl rfl #[.int .i64 0, .string (⟨#[]⟩ : ByteArray), .int .i64 0, .int .i64 0] 28 ?_; intro gb397 hg w7 hbox hb; have BK397 := aM hbox; have GE397 := gs hg HB; replace HB := bs HB hb; clear hb hbox hg) | ((with_reducible refine gate_callee (f := 36) rfl ?_); refine gL (some 6) rfl rfl Try.func36 (by kernel_rfl) rfl #[.slice A0 l0.length c0] rfl ?_; (with_reducible refine (r_consistent.calls k _ _ l0 t398 t399 t400 t401 _ ?side1 ?side2 A2.1).mono ?_); (case side1 => exact cb HR0 HB); (case side2 => exact HC0.1); rintro e w8 ⟨rfl, hb⟩; refine ⟨_, rfl, ?_⟩; replace BK397 := kb BK397 hb; replace HB := bs HB hb; clear hb) | ((with_reducible refine gate_dst (N := 3) rfl ?_); refine be 3 rfl rfl #[.int .i64 0, .string (⟨#[]⟩ : ByteArray), .int .i64 0, .int .i64 0] 28 ?_; intro gb402 hg w9 hbox hb; have BK402 := aM hbox; have GE402 := gs hg HB; have NB397_402 := nl hg BK397; have NB402_397 := nr hg BK397; replace BK397 := kb BK397 hb; replace HB := bs HB hb; clear hb hbox hg; have hnb10 := NB402_397.1; have hnc10 := NB397_402.1; obtain ⟨hcz11_0, hcz11_1, hcz11_2, hcz11_3⟩ := cz BK402; obtain ⟨hfz11_0, hfz11_1, hfz11_2, hfz11_3⟩ := fz BK402) | ((with_reducible refine gate_callee (f := 20) rfl ?_); refine gL (some 12) rfl rfl Try.func20 (by kernel_rfl) rfl #[.slice A0 l0.length c0] rfl ?_; (with_reducible refine (r_Cycle.calls k _ _ l0 t403 _ ?side1 ?side2 A4.1).mono ?_); (case side1 => exact C_below HR0.1 (hh HB)); (case side2 => exact HC0.1); rintro e w12 ⟨v404, rfl, ho0, hb⟩; refine ⟨_, rfl, ?_⟩; have HO405 := aM (R_lower ho0 (below_size (hh HB))); replace BK397 := kg (o' := .cells #[.int .i64 0, .string (⟨#[]⟩ : ByteArray), .int .i64 0, .int .i64 0] 28 (0, 0)) BK397 hb; replace BK402 := kg (o' := .cells #[.int .i64 t398, .string t399, .int .i64 t400, .int .i64 t401] 28 (0, 0)) BK402 hb; replace HB := bs HB hb; clear hb ho0; obtain ⟨Ao13, co13, eo13⟩ := R_slice HO405.1; subst eo13; have p406 : 0 <= (0 : Int) := (by omega); have q406 : 0 < (t403.length : Int) := dt; obtain ⟨ad406, e406, hx406_0⟩ := Kd.at_string (R_reads' HO405.1).2.2 0 p406 q406; cases e406; have qi406 : (0 < t403.length) = True := eq_true (by omega); (try rw [show ((0 : Int)).toNat = 0 from rfl] at hx406_0); (try rw [Addr.add_zero'] at hx406_0); replace p406 := eq_true p406; replace q406 := eq_true q406; obtain ⟨hcz14_0, hcz14_1, hcz14_2, hcz14_3⟩ := cz BK397; obtain ⟨hfz14_0, hfz14_1, hfz14_2, hfz14_3⟩ := fz BK397))
 refine bodyPost_ret (results_cell_row rfl _ _ gb397 28 #[.int .i64 18, .string (rdOf ByteArray.empty t403 0), .int .i64 0, .int .i64 0] (0, 0) _ rfl (kf BK397) Try.underlying28 rfl (by kernel_rfl)) rfl ?_
 exact ⟨by first | rfl | (simp [errW_none, errW_some] <;> rfl) | (simp [*, errW_none, errW_some] <;> rfl), hh HB⟩
noncomputable def r_within.l0 : Nat -> List ByteArray -> List ByteArray -> Int -> Option (Bool)
 | 0, _, _, _ => none
 | k + 1, x0, x1, x5 => if x5 < (x0.length : Int) then (if 0 <= x5 then ((q_Has.f k x1 (rdOf ByteArray.empty x0 x5)).bind fun t408 => (if t408 = true then (r_within.l0 k x0 x1 (wrap64 (x5 + 1))) else (some false))) else (none)) else (some true)
noncomputable def r_within.f (k : Nat) (l0 : List ByteArray) (l1 : List ByteArray) : Option (Bool) := r_within.l0 k l0 l1 0
theorem r_within.calls (k : Nat) (A0 : Option Addr) (c0 : Nat) (l0 : List ByteArray) (A1 : Option Addr) (c1 : Nat) (l1 : List ByteArray) (r : Bool) (w : World) (hr0 : Kd.C Kd.string w A0 l0.length l0) (hc0 : l0.length <= c0) (hr1 : Kd.C Kd.string w A1 l1.length l1) (hc1 : l1.length <= c1) (h : r_within.f k l0 l1 = some r) :
 Calls Try.prog 29 #[.slice A0 l0.length c0, .slice A1 l1.length c1] w fun e w' => e = .returned (.bool r) /\ Drawn0 w w' := by
 have hu28 := Try.underlying28
 have HR0 := aM hr0
 have HC0 := aM hc0
 clear hr0 hc0
 have HR1 := aM hr1
 have HC1 := aM hc1
 clear hr1 hc1
 have H : (r_within.l0 k l0 l1 0) = some r := h
 clear h
 have H' := aM H
 clear H
 go_enter Try.func29, Try.ntmps29
 go_wp2
 go_loopg [5] k (fun kq v5 w' => ∃ (x5_1 : Int), v5 = .int .i64 x5_1 /\ Az (r_within.l0 kq l0 l1 x5_1 = some r) /\ Az (kq <= k) /\ Drawn0 w w')
 case atStart => exact ⟨(0), rr, H', ⟨Nat.le_refl _⟩, by repeat (first | exact Drawn0.refl _ | apply Drawn0.step)⟩
 case round =>
  clear H'
  obtain ⟨x5_1, rfl, HA, HK1, ⟨m1, rfl⟩⟩ := hrel
  cases gk with
  | zero => exact absurd HA.1 (by simp [r_within.l0])
  | succ k1 =>
   have H := HA.1
   clear HA
   simp only [r_within.l0] at H
   by_cases c3 : x5_1 < (l0.length : Int)
   rotate_left
   · rw [if_neg c3] at H
     have c3b0 : decide (x5_1 < (l0.length : Int)) = false := decide_eq_false c3
     clear c3
     obtain rfl := Option.some.inj H
     go_wp2
     go_ret
     exact ⟨by first | rfl | (simp; done) | (simp [*]; done), by repeat (first | exact Drawn0.refl _ | apply Drawn0.step)⟩
   rw [if_pos c3] at H
   have c3b0 : decide (x5_1 < (l0.length : Int)) = true := decide_eq_true c3
   clear c3
   by_cases c4 : 0 <= x5_1
   rotate_left
   · rw [if_neg c4] at H
     exact absurd H (by simp)
   rw [if_pos c4] at H
   have c4b0 : decide (0 <= x5_1) = true := decide_eq_true c4
   clear c4
   replace H := Option.bind_eq_some_iff.mp H
   obtain ⟨t408, A50, H⟩ := H
   try dsimp only at H
   have A5 := aM A50
   clear A50
   by_cases c6 : t408 = true
   · subst c6
     rw [if_pos rfl] at H
     have H' := aM H
     clear H
     have p407 : 0 <= (x5_1 : Int) := dt
     have q407 : x5_1 < (l0.length : Int) := dt
     obtain ⟨ad407, e407, hx407_0⟩ := Kd.at_string HR0.1 x5_1 p407 q407
     cases e407
     replace p407 := eq_true p407
     replace q407 := eq_true q407
     go_wp2_with (first | ((with_reducible refine gate_callee (f := 21) rfl ?_); refine gL (some 17) rfl rfl Try.func21 (by kernel_rfl) rfl #[.slice A1 l1.length c1, .string (rdOf ByteArray.empty l0 x5_1)] rfl ?_; (with_reducible refine (q_Has.calls k1 _ _ l1 (rdOf ByteArray.empty l0 x5_1) true _ ?side1 ?side2 A5.1).mono ?_); (case side1 => exact ck HR1); (case side2 => exact HC1.1); rintro e w' ⟨rfl, ⟨nd, rfl⟩⟩; refine ⟨_, rfl, ?_⟩))
     go_roundg k1
     case measure => have := HK1.1; omega
     case rel => exact ⟨(wrap64 (x5_1 + 1)), rr, H', ⟨by have := HK1.1; omega⟩, by repeat (first | exact Drawn0.refl _ | apply Drawn0.step)⟩
   replace c6 := Bool.eq_false_iff.mpr c6
   subst c6
   rw [if_neg (show ¬ (false = true) by decide)] at H
   obtain rfl := Option.some.inj H
   have p407 : 0 <= (x5_1 : Int) := dt
   have q407 : x5_1 < (l0.length : Int) := dt
   obtain ⟨ad407, e407, hx407_0⟩ := Kd.at_string HR0.1 x5_1 p407 q407
   cases e407
   replace p407 := eq_true p407
   replace q407 := eq_true q407
   go_wp2_with (first | ((with_reducible refine gate_callee (f := 21) rfl ?_); refine gL (some 17) rfl rfl Try.func21 (by kernel_rfl) rfl #[.slice A1 l1.length c1, .string (rdOf ByteArray.empty l0 x5_1)] rfl ?_; (with_reducible refine (q_Has.calls k1 _ _ l1 (rdOf ByteArray.empty l0 x5_1) false _ ?side1 ?side2 A5.1).mono ?_); (case side1 => exact ck HR1); (case side2 => exact HC1.1); rintro e w' ⟨rfl, ⟨nd, rfl⟩⟩; refine ⟨_, rfl, ?_⟩))
   go_ret
   exact ⟨by first | rfl | (simp; done) | (simp [*]; done), by repeat (first | exact Drawn0.refl _ | apply Drawn0.step)⟩
mutual
noncomputable def r_Order.l0 : Nat -> List (S42) -> List ByteArray -> List ByteArray -> Int -> ByteArray -> Int -> Int -> Option (List ByteArray × Int × ByteArray × Int × Int)
 | 0, _, _, _, _, _, _, _ => none
 | k + 1, x0, x5, x6, x415000, x415001, x415002, x415003 => if (x5.length : Int) < (x6.length : Int) then (r_Order.l1 k x0 x5 x6 0 x415000 x415001 x415002 x415003) else (some (x5, x415000, x415001, x415002, x415003))
noncomputable def r_Order.l1 : Nat -> List (S42) -> List ByteArray -> List ByteArray -> Int -> Int -> ByteArray -> Int -> Int -> Option (List ByteArray × Int × ByteArray × Int × Int)
 | 0, _, _, _, _, _, _, _, _ => none
 | k + 1, x0, x5, x6, x7, x415000, x415001, x415002, x415003 => if x7 < (x6.length : Int) then (if 0 <= x7 then ((q_Has.f k x5 (rdOf ByteArray.empty x6 x7)).bind fun t419 => (if t419 = true then (r_Order.l1 k x0 x5 x6 (wrap64 (x7 + 1)) x415000 x415001 x415002 x415003) else ((r_Imports.f k x0 (rdOf ByteArray.empty x6 x7)).bind fun t421 => ((r_within.f k t421 x5).bind fun t424 => (if t424 = true then (if x5.length < 8796093022208 then (r_Order.l0 k x0 (x5 ++ [rdOf ByteArray.empty x6 x7]) x6 x415000 x415001 x415002 x415003) else (none)) else (r_Order.l1 k x0 x5 x6 (wrap64 (x7 + 1)) x415000 x415001 x415002 x415003)))))) else (none)) else (r_Order.l0 k x0 x5 x6 x415000 x415001 x415002 x415003)
end
noncomputable def r_Order.f (k : Nat) (l0 : List (S42)) : Option (List ByteArray × Int × ByteArray × Int × Int) := (r_fault.f k l0).bind fun bt410 => (if bt410.1 = 0 then ((r_Names.f k l0).bind fun t415 => (r_Order.l0 k l0 ([] : List ByteArray) t415 bt410.1 bt410.2.1 bt410.2.2.1 bt410.2.2.2)) else (some (([] : List ByteArray), bt410.1, bt410.2.1, bt410.2.2.1, bt410.2.2.2)))
theorem r_Order.calls (k : Nat) (A0 : Option Addr) (c0 : Nat) (l0 : List (S42)) (r1 : List ByteArray) (r2 : Int) (r3 : ByteArray) (r4 : Int) (r5 : Int) (w : World) (hr0 : Kd.C k42 w A0 l0.length l0) (hc0 : l0.length <= c0) (h : r_Order.f k l0 = some (r1, r2, r3, r4, r5)) :
 Calls Try.prog 11 #[.slice A0 l0.length c0] w fun e w' => ∃ v0_ : Value, e = .returned (.tuple #[v0_, .agg #[.int .i64 r2, .string r3, .int .i64 r4, .int .i64 r5]]) /\ Kd.R Kd.string 9 w' w.heap.size (fun _ => True) v0_ r1 /\ Below w.heap.size w w' := by
 have hu28 := Try.underlying28
 have HR0 := aM hr0
 have HC0 := aM hc0
 clear hr0 hc0
 have HB := aM (Below.refl w.heap.size w)
 have H : ((r_fault.f k l0).bind fun bt410 => (if bt410.1 = 0 then ((r_Names.f k l0).bind fun t415 => (r_Order.l0 k l0 ([] : List ByteArray) t415 bt410.1 bt410.2.1 bt410.2.2.1 bt410.2.2.2)) else (some (([] : List ByteArray), bt410.1, bt410.2.1, bt410.2.2.1, bt410.2.2.2)))) = some (r1, r2, r3, r4, r5) := h
 clear h
 replace H := Option.bind_eq_some_iff.mp H
 obtain ⟨⟨t410, t411, t412, t413⟩, A20, H⟩ := H
 replace H : (if t410 = 0 then ((r_Names.f k l0).bind fun t415 => (r_Order.l0 k l0 ([] : List ByteArray) t415 t410 t411 t412 t413)) else (some (([] : List ByteArray), t410, t411, t412, t413))) = some (r1, r2, r3, r4, r5) := H
 have A2 := aM A20
 clear A20
 by_cases c3 : t410 = 0
 rotate_left
 · rw [if_neg c3] at H
   have c3b0 : (t410 == 0) = false := beq_eq_false_iff_ne.mpr c3
   have c3b1 : (t410 != 0) = true := bne_iff_ne.mpr c3
   simp only [Option.some.injEq, Prod.mk.injEq] at H
   obtain ⟨rfl, rfl, rfl, rfl, rfl⟩ := H
   go_enter Try.func11, Try.ntmps11
   try go_wp2_with (first | ((with_reducible refine gate_dst (N := 3) rfl ?_); refine be 3 rfl rfl #[.int .i64 0, .string (⟨#[]⟩ : ByteArray), .int .i64 0, .int .i64 0] 28 ?_; intro gb409 hg w37 hbox hb; have BK409 := aM hbox; have GE409 := gs hg HB; replace HB := bs HB hb; clear hb hbox hg) | ((with_reducible refine gate_callee (f := 27) rfl ?_); refine gL (some 9) rfl rfl Try.func27 (by kernel_rfl) rfl #[.slice A0 l0.length c0] rfl ?_; (with_reducible refine (r_fault.calls k _ _ l0 t410 t411 t412 t413 _ ?side1 ?side2 A2.1).mono ?_); (case side1 => exact cb HR0 HB); (case side2 => exact HC0.1); rintro e w38 ⟨rfl, hb⟩; refine ⟨_, rfl, ?_⟩; replace BK409 := kb BK409 hb; replace HB := bs HB hb; clear hb) | ((with_reducible refine gate_dst (N := 4) rfl ?_); refine be 4 rfl rfl #[.int .i64 0, .string (⟨#[]⟩ : ByteArray), .int .i64 0, .int .i64 0] 28 ?_; intro gb414 hg w39 hbox hb; have BK414 := aM hbox; have GE414 := gs hg HB; have NB409_414 := nl hg BK409; have NB414_409 := nr hg BK409; replace BK409 := kb BK409 hb; replace HB := bs HB hb; clear hb hbox hg; have hnb40 := NB414_409.1; have hnc40 := NB409_414.1; obtain ⟨hcz41_0, hcz41_1, hcz41_2, hcz41_3⟩ := cz BK414; obtain ⟨hfz41_0, hfz41_1, hfz41_2, hfz41_3⟩ := fz BK414))
   have n0_ : Az (((((w39.setCell ⟨gb414, 0, none⟩ (.int .i64 t410)).setCell ⟨gb414, 1, none⟩ (.string t411)).setCell ⟨gb414, 2, none⟩ (.int .i64 t412)).setCell ⟨gb414, 3, none⟩ (.int .i64 t413)).heap[gb409]? = some (.cells #[.int .i64 0, .string (⟨#[]⟩ : ByteArray), .int .i64 0, .int .i64 0] 28 (0, 0))) := ⟨kf BK409⟩
   have n1_ : Az (((((w39.setCell ⟨gb414, 0, none⟩ (.int .i64 t410)).setCell ⟨gb414, 1, none⟩ (.string t411)).setCell ⟨gb414, 2, none⟩ (.int .i64 t412)).setCell ⟨gb414, 3, none⟩ (.int .i64 t413)).heap[gb414]? = some (.cells #[.int .i64 t410, .string t411, .int .i64 t412, .int .i64 t413] 28 (0, 0))) := ⟨kf BK414⟩
   have n2_ : Az (Below w.heap.size w ((((w39.setCell ⟨gb414, 0, none⟩ (.int .i64 t410)).setCell ⟨gb414, 1, none⟩ (.string t411)).setCell ⟨gb414, 2, none⟩ (.int .i64 t412)).setCell ⟨gb414, 3, none⟩ (.int .i64 t413))) := ⟨hh HB⟩
   (clear BK409)
   (clear BK414)
   (clear HB)
   generalize ((((w39.setCell ⟨gb414, 0, none⟩ (.int .i64 t410)).setCell ⟨gb414, 1, none⟩ (.string t411)).setCell ⟨gb414, 2, none⟩ (.int .i64 t412)).setCell ⟨gb414, 3, none⟩ (.int .i64 t413)) = w42 at n0_ n1_ n2_ ⊢
   have BK409 := n0_
   have BK414 := n1_
   have HB := n2_
   clear n0_ n1_ n2_
   replace BK409 := aM (blk_drew BK409.1)
   replace BK414 := aM (blk_drew BK414.1)
   replace HB := aM (below_drew1 HB.1)
   refine start_ (n := 3) (S := fun w' => w'.cell? ⟨gb414, 0, none⟩ = some (.int .i64 t410) /\ w'.cell? ⟨gb414, 1, none⟩ = some (.string t411) /\ w'.cell? ⟨gb414, 2, none⟩ = some (.int .i64 t412) /\ w'.cell? ⟨gb414, 3, none⟩ = some (.int .i64 t413)) (ds := []) #[F_, F_, F_] (by kernel_rfl) rfl rfl ⟨(blk_cell BK414.1 0).trans rfl, (blk_cell BK414.1 1).trans rfl, (blk_cell BK414.1 2).trans rfl, (blk_cell BK414.1 3).trans rfl⟩ (fun hHeld => ?_)
   generalize w42.drew = w43 at BK409 BK414 HB hHeld ⊢
   refine pure_ (i := 1) (N := some 2) (v := ?_) (a' := ?_) #[F_, T_, F_] rfl rfl (by kernel_rfl) (fun _ _ _ h => h) (Or.inl ⟨by rfl, ?_⟩) ?_ ?_
   rotate_left
   · intro w'
     go_simp
     with_reducible rfl
   rotate_left
   · simp only [Act.put, sA, sZ, sS, i64_w, i32_w]
     rfl
   refine take_ (i := 0) (N := some 13) (v := ?_) (a' := ?_) #[T_, T_, F_] rfl rfl (by kernel_rfl) (fun _ _ _ h => h) (Or.inl ⟨by rfl, ?_⟩) hHeld ?_ ?_
   rotate_left
   · rintro w' ⟨s0, s1, s2, s3⟩
     go_simp
     with_reducible rfl
   rotate_left
   · simp only [Act.put, sA, sZ, sS, i64_w, i32_w]
     rfl
   refine one_ (i := 2) (N := none) #[T_, T_, T_] rfl rfl (by kernel_rfl) (by decide) (fun K hK => ?_)
   have hs44 : w43.cell? ⟨gb409, 0, none⟩ = some (.int .i64 0) := (blk_cell BK409.1 0).trans rfl
   have hfs44 := blk_frozen BK409.1 0
   have hns44_1 := NB414_409.1
   have hms44_1 := NB409_414.1
   have hs45 : w43.cell? ⟨gb409, 1, none⟩ = some (.string (⟨#[]⟩ : ByteArray)) := (blk_cell BK409.1 1).trans rfl
   have hfs45 := blk_frozen BK409.1 1
   have hns45_1 := NB414_409.1
   have hms45_1 := NB409_414.1
   have hs46 : w43.cell? ⟨gb409, 2, none⟩ = some (.int .i64 0) := (blk_cell BK409.1 2).trans rfl
   have hfs46 := blk_frozen BK409.1 2
   have hns46_1 := NB414_409.1
   have hms46_1 := NB409_414.1
   have hs47 : w43.cell? ⟨gb409, 3, none⟩ = some (.int .i64 0) := (blk_cell BK409.1 3).trans rfl
   have hfs47 := blk_frozen BK409.1 3
   have hns47_1 := NB414_409.1
   have hms47_1 := NB409_414.1
   refine skip_ (w1 := ?_) (by rfl) rfl ?_ ?_
   rotate_left
   · go_simp
     rfl
   refine hK.out _ _ ⟨((cell_far (p := ⟨gb409, _, none⟩) NB414_409.1 _).trans (((cell_far (p := ⟨gb409, _, none⟩) NB414_409.1 _).trans (((cell_far (p := ⟨gb409, _, none⟩) NB414_409.1 _).trans (((cell_far (p := ⟨gb409, _, none⟩) NB414_409.1 _).trans (hHeld.1)))))))), ((cell_far (p := ⟨gb409, _, none⟩) NB414_409.1 _).trans (((cell_far (p := ⟨gb409, _, none⟩) NB414_409.1 _).trans (((cell_far (p := ⟨gb409, _, none⟩) NB414_409.1 _).trans (((cell_far (p := ⟨gb409, _, none⟩) NB414_409.1 _).trans (hHeld.2.1)))))))), ((cell_far (p := ⟨gb409, _, none⟩) NB414_409.1 _).trans (((cell_far (p := ⟨gb409, _, none⟩) NB414_409.1 _).trans (((cell_far (p := ⟨gb409, _, none⟩) NB414_409.1 _).trans (((cell_far (p := ⟨gb409, _, none⟩) NB414_409.1 _).trans (hHeld.2.2.1)))))))), ((cell_far (p := ⟨gb409, _, none⟩) NB414_409.1 _).trans (((cell_far (p := ⟨gb409, _, none⟩) NB414_409.1 _).trans (((cell_far (p := ⟨gb409, _, none⟩) NB414_409.1 _).trans (((cell_far (p := ⟨gb409, _, none⟩) NB414_409.1 _).trans (hHeld.2.2.2))))))))⟩ (fun hHeld => ?_)
   clear hK K
   refine done_ (by kernel_rfl) ?_
   try go_wp2
   refine bodyPost_ret (results_tc rfl _ _ gb409 28 #[.int .i64 t410, .string t411, .int .i64 t412, .int .i64 t413] (0, 0) _ rfl (kf BK409) Try.underlying28 rfl (by kernel_rfl)) rfl ?_
   exact ⟨_, by first | rfl | (simp [errW_none, errW_some] <;> rfl) | (simp [*, errW_none, errW_some] <;> rfl), by first | exact R_nil _ _ _ _ _ | exact N_nil _ _ _ _ _ | exact V_nil _ _ _ _ _ | exact Q_nil _ _ _ _ _ | exact S_nil _ _ _ _ _, hh HB⟩
 rw [if_pos c3] at H
 have c3b0 : (t410 == 0) = true := beq_iff_eq.mpr c3
 have c3b1 : (t410 != 0) = false := bne_eq_false_iff_eq.mpr c3
 clear c3
 replace H := Option.bind_eq_some_iff.mp H
 obtain ⟨t415, A40, H⟩ := H
 replace H : (r_Order.l0 k l0 ([] : List ByteArray) t415 t410 t411 t412 t413) = some (r1, r2, r3, r4, r5) := H
 have A4 := aM A40
 clear A40
 have H' := aM H
 clear H
 go_enter Try.func11, Try.ntmps11
 go_wp2_with (first | ((with_reducible refine gate_dst (N := 3) rfl ?_); refine be 3 rfl rfl #[.int .i64 0, .string (⟨#[]⟩ : ByteArray), .int .i64 0, .int .i64 0] 28 ?_; intro gb409 hg w5 hbox hb; have BK409 := aM hbox; have GE409 := gs hg HB; replace HB := bs HB hb; clear hb hbox hg) | ((with_reducible refine gate_callee (f := 27) rfl ?_); refine gL (some 9) rfl rfl Try.func27 (by kernel_rfl) rfl #[.slice A0 l0.length c0] rfl ?_; (with_reducible refine (r_fault.calls k _ _ l0 t410 t411 t412 t413 _ ?side1 ?side2 A2.1).mono ?_); (case side1 => exact cb HR0 HB); (case side2 => exact HC0.1); rintro e w6 ⟨rfl, hb⟩; refine ⟨_, rfl, ?_⟩; replace BK409 := kb BK409 hb; replace HB := bs HB hb; clear hb) | ((with_reducible refine gate_dst (N := 4) rfl ?_); refine be 4 rfl rfl #[.int .i64 0, .string (⟨#[]⟩ : ByteArray), .int .i64 0, .int .i64 0] 28 ?_; intro gb414 hg w7 hbox hb; have BK414 := aM hbox; have GE414 := gs hg HB; have NB409_414 := nl hg BK409; have NB414_409 := nr hg BK409; replace BK409 := kb BK409 hb; replace HB := bs HB hb; clear hb hbox hg; have hnb8 := NB414_409.1; have hnc8 := NB409_414.1; obtain ⟨hcz9_0, hcz9_1, hcz9_2, hcz9_3⟩ := cz BK414; obtain ⟨hfz9_0, hfz9_1, hfz9_2, hfz9_3⟩ := fz BK414) | ((with_reducible refine gate_callee (f := 28) rfl ?_); refine gL (some 15) rfl rfl Try.func28 (by kernel_rfl) rfl #[.slice A0 l0.length c0] rfl ?_; (with_reducible refine (r_Names.calls k _ _ l0 t415 _ ?side1 ?side2 A4.1).mono ?_); (case side1 => exact C_below HR0.1 (hh HB)); (case side2 => exact HC0.1); rintro e w10 ⟨v416, rfl, ho0, hb⟩; refine ⟨_, rfl, ?_⟩; have HO417 := aM (R_lower ho0 (below_size (hh HB))); replace BK409 := kg (o' := .cells #[.int .i64 0, .string (⟨#[]⟩ : ByteArray), .int .i64 0, .int .i64 0] 28 (0, 0)) BK409 hb; replace BK414 := kg (o' := .cells #[.int .i64 t410, .string t411, .int .i64 t412, .int .i64 t413] 28 (0, 0)) BK414 hb; replace HB := bs HB hb; clear hb ho0))
 go_loopg [5] k (fun kq v5 w' => ∃ (x5_1 : List ByteArray), Az (r_Order.l0 kq l0 x5_1 t415 t410 t411 t412 t413 = some (r1, r2, r3, r4, r5)) /\ Az (kq <= k) /\ Az (Kd.R Kd.string 9 w' w.heap.size (fun k_ => some k_ ≠ (v416 : Value).ownBlock) v5 x5_1) /\ Az (Kd.R Kd.string 9 w' w.heap.size (fun k_ => some k_ ≠ (v5 : Value).ownBlock) v416 t415) /\ Az (w'.heap[gb409]? = some (.cells #[.int .i64 0, .string (⟨#[]⟩ : ByteArray), .int .i64 0, .int .i64 0] 28 (0, 0))) /\ Az (w'.heap[gb414]? = some (.cells #[.int .i64 t410, .string t411, .int .i64 t412, .int .i64 t413] 28 (0, 0))) /\ Az (Below w.heap.size w w'))
 case atStart => exact ⟨(([] : List ByteArray)), H', ⟨Nat.le_refl _⟩, ⟨by first | exact R_nil _ _ _ _ _ | exact N_nil _ _ _ _ _ | exact V_nil _ _ _ _ _ | exact Q_nil _ _ _ _ _ | exact S_nil _ _ _ _ _⟩, ⟨rz (R_mono HO417.1 (fun _ hk => (by simp [Value.ownBlock])))⟩, ⟨kk BK409⟩, ⟨kk BK414⟩, ⟨hh HB⟩⟩
 case round =>
  clear H'
  clear c3b0 c3b1 hcz9_0 hcz9_1 hcz9_2 hcz9_3 hfz9_0 hfz9_1 hfz9_2 hfz9_3
  obtain ⟨x5_1, HA, HK1, HO_5, HO_6, BK409, BK414, HB⟩ := hrel
  cases gk with
  | zero => exact absurd HA.1 (by simp [r_Order.l0])
  | succ k1 =>
   have H := HA.1
   clear HA
   simp only [r_Order.l0] at H
   by_cases c11 : (x5_1.length : Int) < (t415.length : Int)
   rotate_left
   · rw [if_neg c11] at H
     have c11b0 : decide ((x5_1.length : Int) < (t415.length : Int)) = false := decide_eq_false c11
     have c11b1 : decide (x5_1.length < t415.length) = false := decide_eq_false (fun h => c11 (Int.ofNat_lt.mpr h))
     clear c11
     simp only [Option.some.injEq, Prod.mk.injEq] at H
     obtain ⟨rfl, rfl, rfl, rfl, rfl⟩ := H
     obtain ⟨Ao30, co30, eo30⟩ := R_slice HO_5.1
     subst eo30
     obtain ⟨Ao31, co31, eo31⟩ := R_slice HO_6.1
     subst eo31
     try go_wp2
     replace HO_5 := aM (R_drew HO_5.1)
     replace HO_6 := aM (R_drew HO_6.1)
     replace BK409 := aM (blk_drew BK409.1)
     replace BK414 := aM (blk_drew BK414.1)
     replace HB := aM (below_drew1 HB.1)
     refine start_ (n := 4) (S := fun w' => w'.cell? ⟨gb414, 0, none⟩ = some (.int .i64 t410) /\ w'.cell? ⟨gb414, 1, none⟩ = some (.string t411) /\ w'.cell? ⟨gb414, 2, none⟩ = some (.int .i64 t412) /\ w'.cell? ⟨gb414, 3, none⟩ = some (.int .i64 t413)) (ds := []) #[F_, F_, F_, F_] (by kernel_rfl) rfl rfl ⟨(blk_cell BK414.1 0).trans rfl, (blk_cell BK414.1 1).trans rfl, (blk_cell BK414.1 2).trans rfl, (blk_cell BK414.1 3).trans rfl⟩ (fun hHeld => ?_)
     generalize wr.drew = w32 at HO_5 HO_6 BK409 BK414 HB hHeld ⊢
     refine pure_ (i := 0) (N := some 51) (v := ?_) (a' := ?_) #[T_, F_, F_, F_] rfl rfl (by kernel_rfl) (fun _ _ _ h => h) (Or.inl ⟨by rfl, ?_⟩) ?_ ?_
     rotate_left
     · intro w'
       go_simp
       with_reducible rfl
     rotate_left
     · simp only [Act.put, sA, sZ, sS, i64_w, i32_w]
       rfl
     refine pure_ (i := 2) (N := some 2) (v := ?_) (a' := ?_) #[T_, F_, T_, F_] rfl rfl (by kernel_rfl) (fun _ _ _ h => h) (Or.inl ⟨by rfl, ?_⟩) ?_ ?_
     rotate_left
     · intro w'
       go_simp
       with_reducible rfl
     rotate_left
     · simp only [Act.put, sA, sZ, sS, i64_w, i32_w]
       rfl
     refine take_ (i := 1) (N := some 52) (v := ?_) (a' := ?_) #[T_, T_, T_, F_] rfl rfl (by kernel_rfl) (fun _ _ _ h => h) (Or.inl ⟨by rfl, ?_⟩) hHeld ?_ ?_
     rotate_left
     · rintro w' ⟨s0, s1, s2, s3⟩
       go_simp
       with_reducible rfl
     rotate_left
     · simp only [Act.put, sA, sZ, sS, i64_w, i32_w]
       rfl
     refine one_ (i := 3) (N := none) #[T_, T_, T_, T_] rfl rfl (by kernel_rfl) (by decide) (fun K hK => ?_)
     have hs33 : w32.cell? ⟨gb409, 0, none⟩ = some (.int .i64 0) := (blk_cell BK409.1 0).trans rfl
     have hfs33 := blk_frozen BK409.1 0
     have hns33_1 := NB414_409.1
     have hms33_1 := NB409_414.1
     have hs34 : w32.cell? ⟨gb409, 1, none⟩ = some (.string (⟨#[]⟩ : ByteArray)) := (blk_cell BK409.1 1).trans rfl
     have hfs34 := blk_frozen BK409.1 1
     have hns34_1 := NB414_409.1
     have hms34_1 := NB409_414.1
     have hs35 : w32.cell? ⟨gb409, 2, none⟩ = some (.int .i64 0) := (blk_cell BK409.1 2).trans rfl
     have hfs35 := blk_frozen BK409.1 2
     have hns35_1 := NB414_409.1
     have hms35_1 := NB409_414.1
     have hs36 : w32.cell? ⟨gb409, 3, none⟩ = some (.int .i64 0) := (blk_cell BK409.1 3).trans rfl
     have hfs36 := blk_frozen BK409.1 3
     have hns36_1 := NB414_409.1
     have hms36_1 := NB409_414.1
     refine skip_ (w1 := ?_) (by rfl) rfl ?_ ?_
     rotate_left
     · go_simp
       rfl
     refine hK.out _ _ ⟨((cell_far (p := ⟨gb409, _, none⟩) NB414_409.1 _).trans (((cell_far (p := ⟨gb409, _, none⟩) NB414_409.1 _).trans (((cell_far (p := ⟨gb409, _, none⟩) NB414_409.1 _).trans (((cell_far (p := ⟨gb409, _, none⟩) NB414_409.1 _).trans (hHeld.1)))))))), ((cell_far (p := ⟨gb409, _, none⟩) NB414_409.1 _).trans (((cell_far (p := ⟨gb409, _, none⟩) NB414_409.1 _).trans (((cell_far (p := ⟨gb409, _, none⟩) NB414_409.1 _).trans (((cell_far (p := ⟨gb409, _, none⟩) NB414_409.1 _).trans (hHeld.2.1)))))))), ((cell_far (p := ⟨gb409, _, none⟩) NB414_409.1 _).trans (((cell_far (p := ⟨gb409, _, none⟩) NB414_409.1 _).trans (((cell_far (p := ⟨gb409, _, none⟩) NB414_409.1 _).trans (((cell_far (p := ⟨gb409, _, none⟩) NB414_409.1 _).trans (hHeld.2.2.1)))))))), ((cell_far (p := ⟨gb409, _, none⟩) NB414_409.1 _).trans (((cell_far (p := ⟨gb409, _, none⟩) NB414_409.1 _).trans (((cell_far (p := ⟨gb409, _, none⟩) NB414_409.1 _).trans (((cell_far (p := ⟨gb409, _, none⟩) NB414_409.1 _).trans (hHeld.2.2.2))))))))⟩ (fun hHeld => ?_)
     clear hK K
     refine done_ (by kernel_rfl) ?_
     try go_wp2
     refine bodyPost_ret (results_tc rfl _ _ gb409 28 #[.int .i64 t410, .string t411, .int .i64 t412, .int .i64 t413] (0, 0) _ rfl (kf BK409) Try.underlying28 rfl (by kernel_rfl)) rfl ?_
     exact ⟨_, by first | rfl | (simp [errW_none, errW_some] <;> rfl) | (simp [*, errW_none, errW_some] <;> rfl), rz (R_mono (R_far (p := ⟨gb409, 3, none⟩) (R_far (p := ⟨gb409, 2, none⟩) (R_far (p := ⟨gb409, 1, none⟩) (R_far (p := ⟨gb409, 0, none⟩) (R_types HO_5.1 BK409.1 (by decide)) (fun _ hk => hk.2) (.int .i64 t410)) (fun _ hk => hk.2) (.string t411)) (fun _ hk => hk.2) (.int .i64 t412)) (fun _ hk => hk.2) (.int .i64 t413)) (fun _ hk => trivial)), hh HB⟩
   rw [if_pos c11] at H
   have c11b0 : decide ((x5_1.length : Int) < (t415.length : Int)) = true := decide_eq_true c11
   have c11b1 : decide (x5_1.length < t415.length) = true := decide_eq_true (Int.ofNat_lt.mp c11)
   clear c11
   have H' := aM H
   clear H
   obtain ⟨Ao12, co12, eo12⟩ := R_slice HO_5.1
   subst eo12
   obtain ⟨Ao13, co13, eo13⟩ := R_slice HO_6.1
   subst eo13
   go_wp2
   go_loopg [5, 7] k1 (fun kq v5 v7 w' => ∃ (x5_2 : List ByteArray) (x7_2 : Int), v7 = .int .i64 x7_2 /\ Az (r_Order.l1 kq l0 x5_2 t415 x7_2 t410 t411 t412 t413 = some (r1, r2, r3, r4, r5)) /\ Az (kq <= k1) /\ Az (Kd.R Kd.string 9 w' w.heap.size (fun k_ => some k_ ≠ ((.slice Ao13 t415.length co13) : Value).ownBlock) v5 x5_2) /\ Az (Kd.R Kd.string 9 w' w.heap.size (fun k_ => some k_ ≠ (v5 : Value).ownBlock) (.slice Ao13 t415.length co13) t415) /\ Az (w'.heap[gb409]? = some (.cells #[.int .i64 0, .string (⟨#[]⟩ : ByteArray), .int .i64 0, .int .i64 0] 28 (0, 0))) /\ Az (w'.heap[gb414]? = some (.cells #[.int .i64 t410, .string t411, .int .i64 t412, .int .i64 t413] 28 (0, 0))) /\ Az (Below w.heap.size w w'))
   case atStart => exact ⟨(x5_1), (0), rr, H', ⟨Nat.le_refl _⟩, ⟨rk HO_5⟩, ⟨rk HO_6⟩, ⟨kk BK409⟩, ⟨kk BK414⟩, ⟨hh HB⟩⟩
   case round =>
    clear H'
    clear c11b0 c11b1
    obtain ⟨x5_2, x7_2, rfl, HA, HK2, HO_5, HO_6, BK409, BK414, HB⟩ := hrel
    cases gk with
    | zero => exact absurd HA.1 (by simp [r_Order.l1])
    | succ k2 =>
     have H := HA.1
     clear HA
     simp only [r_Order.l1] at H
     by_cases c14 : x7_2 < (t415.length : Int)
     rotate_left
     · rw [if_neg c14] at H
       have c14b0 : decide (x7_2 < (t415.length : Int)) = false := decide_eq_false c14
       clear c14
       have H' := aM H
       clear H
       go_wp2
       go_roundg k2
       case measure => have := HK1.1; have := HK2.1; omega
       case rel => exact ⟨(x5_2), H', ⟨by have := HK1.1; have := HK2.1; omega⟩, ⟨rk HO_5⟩, ⟨rk HO_6⟩, ⟨kk BK409⟩, ⟨kk BK414⟩, ⟨hh HB⟩⟩
     rw [if_pos c14] at H
     have c14b0 : decide (x7_2 < (t415.length : Int)) = true := decide_eq_true c14
     clear c14
     by_cases c15 : 0 <= x7_2
     rotate_left
     · rw [if_neg c15] at H
       exact absurd H (by simp)
     rw [if_pos c15] at H
     have c15b0 : decide (0 <= x7_2) = true := decide_eq_true c15
     clear c15
     replace H := Option.bind_eq_some_iff.mp H
     obtain ⟨t419, A160, H⟩ := H
     replace H : (if t419 = true then (r_Order.l1 k2 l0 x5_2 t415 (wrap64 (x7_2 + 1)) t410 t411 t412 t413) else ((r_Imports.f k2 l0 (rdOf ByteArray.empty t415 x7_2)).bind fun t421 => ((r_within.f k2 t421 x5_2).bind fun t424 => (if t424 = true then (if x5_2.length < 8796093022208 then (r_Order.l0 k2 l0 (x5_2 ++ [rdOf ByteArray.empty t415 x7_2]) t415 t410 t411 t412 t413) else (none)) else (r_Order.l1 k2 l0 x5_2 t415 (wrap64 (x7_2 + 1)) t410 t411 t412 t413))))) = some (r1, r2, r3, r4, r5) := H
     have A16 := aM A160
     clear A160
     by_cases c17 : t419 = true
     · subst c17
       have H1 : (r_Order.l1 k2 l0 x5_2 t415 (wrap64 (x7_2 + 1)) t410 t411 t412 t413) = some (r1, r2, r3, r4, r5) := by rw [if_pos rfl] at H; exact H
       clear H
       have H := H1
       clear H1
       have H' := aM H
       clear H
       have p418 : 0 <= (x7_2 : Int) := dt
       have q418 : x7_2 < (t415.length : Int) := dt
       obtain ⟨ad418, e418, hx418_0⟩ := Kd.at_string (R_reads' HO_6.1).2.2 x7_2 p418 q418
       cases e418
       replace p418 := eq_true p418
       replace q418 := eq_true q418
       obtain ⟨Ao18, co18, eo18⟩ := R_slice HO_5.1
       subst eo18
       go_wp2_with (first | ((with_reducible refine gate_callee (f := 21) rfl ?_); refine gL (some 32) rfl rfl Try.func21 (by kernel_rfl) rfl #[.slice Ao18 x5_2.length co18, .string (rdOf ByteArray.empty t415 x7_2)] rfl ?_; (with_reducible refine (q_Has.calls k2 _ _ x5_2 (rdOf ByteArray.empty t415 x7_2) true _ ?side1 ?side2 A16.1).mono ?_); (case side1 => exact cr HO_5); (case side2 => exact (R_reads' HO_5.1).2.1); rintro e w' ⟨rfl, ⟨nd, rfl⟩⟩; refine ⟨_, rfl, ?_⟩))
       go_roundg k2
       case measure => have := HK1.1; have := HK2.1; omega
       case rel => exact ⟨(x5_2), (wrap64 (x7_2 + 1)), rr, H', ⟨by have := HK1.1; have := HK2.1; omega⟩, ⟨rk HO_5⟩, ⟨rk HO_6⟩, ⟨kk BK409⟩, ⟨kk BK414⟩, ⟨hh HB⟩⟩
     replace c17 := Bool.eq_false_iff.mpr c17
     subst c17
     have H1 : ((r_Imports.f k2 l0 (rdOf ByteArray.empty t415 x7_2)).bind fun t421 => ((r_within.f k2 t421 x5_2).bind fun t424 => (if t424 = true then (if x5_2.length < 8796093022208 then (r_Order.l0 k2 l0 (x5_2 ++ [rdOf ByteArray.empty t415 x7_2]) t415 t410 t411 t412 t413) else (none)) else (r_Order.l1 k2 l0 x5_2 t415 (wrap64 (x7_2 + 1)) t410 t411 t412 t413)))) = some (r1, r2, r3, r4, r5) := by rw [if_neg (show ¬ (false = true) by decide)] at H; exact H
     clear H
     have H := H1
     clear H1
     replace H := Option.bind_eq_some_iff.mp H
     obtain ⟨t421, A190, H⟩ := H
     replace H : ((r_within.f k2 t421 x5_2).bind fun t424 => (if t424 = true then (if x5_2.length < 8796093022208 then (r_Order.l0 k2 l0 (x5_2 ++ [rdOf ByteArray.empty t415 x7_2]) t415 t410 t411 t412 t413) else (none)) else (r_Order.l1 k2 l0 x5_2 t415 (wrap64 (x7_2 + 1)) t410 t411 t412 t413))) = some (r1, r2, r3, r4, r5) := H
     have A19 := aM A190
     clear A190
     replace H := Option.bind_eq_some_iff.mp H
     obtain ⟨t424, A200, H⟩ := H
     replace H : (if t424 = true then (if x5_2.length < 8796093022208 then (r_Order.l0 k2 l0 (x5_2 ++ [rdOf ByteArray.empty t415 x7_2]) t415 t410 t411 t412 t413) else (none)) else (r_Order.l1 k2 l0 x5_2 t415 (wrap64 (x7_2 + 1)) t410 t411 t412 t413)) = some (r1, r2, r3, r4, r5) := H
     have A20 := aM A200
     clear A200
     by_cases c21 : t424 = true
     rotate_left
     · replace c21 := Bool.eq_false_iff.mpr c21
       subst c21
       have H1 : (r_Order.l1 k2 l0 x5_2 t415 (wrap64 (x7_2 + 1)) t410 t411 t412 t413) = some (r1, r2, r3, r4, r5) := by rw [if_neg (show ¬ (false = true) by decide)] at H; exact H
       clear H
       have H := H1
       clear H1
       have H' := aM H
       clear H
       have p418 : 0 <= (x7_2 : Int) := dt
       have q418 : x7_2 < (t415.length : Int) := dt
       obtain ⟨ad418, e418, hx418_0⟩ := Kd.at_string (R_reads' HO_6.1).2.2 x7_2 p418 q418
       cases e418
       replace p418 := eq_true p418
       replace q418 := eq_true q418
       obtain ⟨Ao27, co27, eo27⟩ := R_slice HO_5.1
       subst eo27
       go_wp2_with (first | ((with_reducible refine gate_callee (f := 21) rfl ?_); refine gL (some 32) rfl rfl Try.func21 (by kernel_rfl) rfl #[.slice Ao27 x5_2.length co27, .string (rdOf ByteArray.empty t415 x7_2)] rfl ?_; (with_reducible refine (q_Has.calls k2 _ _ x5_2 (rdOf ByteArray.empty t415 x7_2) false _ ?side1 ?side2 A16.1).mono ?_); (case side1 => exact cr HO_5); (case side2 => exact (R_reads' HO_5.1).2.1); rintro e w' ⟨rfl, ⟨nd, rfl⟩⟩; refine ⟨_, rfl, ?_⟩; have p420 : 0 <= (x7_2 : Int) := dt; have q420 : x7_2 < (t415.length : Int) := dt; obtain ⟨ad420, e420, hx420_0⟩ := Kd.at_string (R_reads' HO_6.1).2.2 x7_2 p420 q420; obtain rfl : ad418 = ad420 := (by injection e420); replace p420 := eq_true p420; replace q420 := eq_true q420) | (go_at_call 22; (with_reducible refine (r_Imports.calls k2 _ _ l0 (rdOf ByteArray.empty t415 x7_2) t421 _ ?side1 ?side2 A19.1).mono ?_); (case side1 => repeat (first | exact (C_below HR0.1 (hh HB)) | (with_reducible refine C_alloc ?_ _) | (with_reducible refine C_drewN ?_ _) | (with_reducible refine C_drew ?_))); (case side2 => exact HC0.1); rintro e w28 ⟨v422, rfl, ho0, hb⟩; have HO423 := aM (R_lower (R_new' (R_new' ho0 (R_lt (rk HO_5))) (R_lt (rk HO_6))) (below_size (hh HB))); replace HO_5 := aM (R_elder' (rk HO_5) (R_base ho0) hb); replace HO_6 := aM (R_elder' (rk HO_6) (R_base ho0) hb); replace BK409 := kb BK409 hb; replace BK414 := kb BK414 hb; replace HB := bs HB hb; clear hb ho0; obtain ⟨Ao29, co29, eo29⟩ := R_slice HO423.1; subst eo29) | (go_at_call 29; (with_reducible refine (r_within.calls k2 _ _ t421 _ _ x5_2 false _ ?side1 ?side2 ?side3 ?side4 A20.1).mono ?_); (case side1 => exact cr HO423); (case side2 => exact (R_reads' HO423.1).2.1); (case side3 => exact cr HO_5); (case side4 => exact (R_reads' HO_5.1).2.1); rintro e w' ⟨rfl, ⟨nd, rfl⟩⟩))
       go_roundg k2
       case measure => have := HK1.1; have := HK2.1; omega
       case rel => exact ⟨(x5_2), (wrap64 (x7_2 + 1)), rr, H', ⟨by have := HK1.1; have := HK2.1; omega⟩, ⟨rz (R_mono HO_5.1 (fun _ hk => hk.1))⟩, ⟨rz (R_mono HO_6.1 (fun _ hk => hk.1))⟩, ⟨kk BK409⟩, ⟨kk BK414⟩, ⟨hh HB⟩⟩
     subst c21
     have H1 : (if x5_2.length < 8796093022208 then (r_Order.l0 k2 l0 (x5_2 ++ [rdOf ByteArray.empty t415 x7_2]) t415 t410 t411 t412 t413) else (none)) = some (r1, r2, r3, r4, r5) := by rw [if_pos rfl] at H; exact H
     clear H
     have H := H1
     clear H1
     by_cases c22 : x5_2.length < 8796093022208
     rotate_left
     · rw [if_neg c22] at H
       exact absurd H (by simp)
     rw [if_pos c22] at H
     have LMc22 := aM c22
     clear c22
     obtain ⟨y426, hy426⟩ : ∃ y_ : List ByteArray, y_ = (x5_2 ++ [rdOf ByteArray.empty t415 x7_2]) := ⟨_, rfl⟩
     replace H : (r_Order.l0 k2 l0 y426 t415 t410 t411 t412 t413) = some (r1, r2, r3, r4, r5) := by first | (rw [hy426]; with_reducible exact H) | (have H2_ := (Option.bind_some _ _).symm.trans H; rw [hy426]; with_reducible exact H2_) | (have H2_ := (Option.bind_some _ _).symm.trans H; with_reducible exact H2_) | with_reducible exact H | (rw [hy426]; exact H) | exact H
     have Ny426 := aM hy426
     clear hy426
     have H' := aM H
     clear H
     have p418 : 0 <= (x7_2 : Int) := dt
     have q418 : x7_2 < (t415.length : Int) := dt
     obtain ⟨ad418, e418, hx418_0⟩ := Kd.at_string (R_reads' HO_6.1).2.2 x7_2 p418 q418
     cases e418
     replace p418 := eq_true p418
     replace q418 := eq_true q418
     obtain ⟨Ao23, co23, eo23⟩ := R_slice HO_5.1
     subst eo23
     go_wp2_with (first | ((with_reducible refine gate_callee (f := 21) rfl ?_); refine gL (some 32) rfl rfl Try.func21 (by kernel_rfl) rfl #[.slice Ao23 x5_2.length co23, .string (rdOf ByteArray.empty t415 x7_2)] rfl ?_; (with_reducible refine (q_Has.calls k2 _ _ x5_2 (rdOf ByteArray.empty t415 x7_2) false _ ?side1 ?side2 A16.1).mono ?_); (case side1 => exact cr HO_5); (case side2 => exact (R_reads' HO_5.1).2.1); rintro e w' ⟨rfl, ⟨nd, rfl⟩⟩; refine ⟨_, rfl, ?_⟩; have p420 : 0 <= (x7_2 : Int) := dt; have q420 : x7_2 < (t415.length : Int) := dt; obtain ⟨ad420, e420, hx420_0⟩ := Kd.at_string (R_reads' HO_6.1).2.2 x7_2 p420 q420; obtain rfl : ad418 = ad420 := (by injection e420); replace p420 := eq_true p420; replace q420 := eq_true q420) | (go_at_call 22; (with_reducible refine (r_Imports.calls k2 _ _ l0 (rdOf ByteArray.empty t415 x7_2) t421 _ ?side1 ?side2 A19.1).mono ?_); (case side1 => repeat (first | exact (C_below HR0.1 (hh HB)) | (with_reducible refine C_alloc ?_ _) | (with_reducible refine C_drewN ?_ _) | (with_reducible refine C_drew ?_))); (case side2 => exact HC0.1); rintro e w24 ⟨v422, rfl, ho0, hb⟩; have HO423 := aM (R_lower (R_new' (R_new' ho0 (R_lt (rk HO_5))) (R_lt (rk HO_6))) (below_size (hh HB))); replace HO_5 := aM (R_elder' (rk HO_5) (R_base ho0) hb); replace HO_6 := aM (R_elder' (rk HO_6) (R_base ho0) hb); replace BK409 := kb BK409 hb; replace BK414 := kb BK414 hb; replace HB := bs HB hb; clear hb ho0; obtain ⟨Ao25, co25, eo25⟩ := R_slice HO423.1; subst eo25) | (go_at_call 29; (with_reducible refine (r_within.calls k2 _ _ t421 _ _ x5_2 true _ ?side1 ?side2 ?side3 ?side4 A20.1).mono ?_); (case side1 => exact cr HO423); (case side2 => exact (R_reads' HO423.1).2.1); (case side3 => exact cr HO_5); (case side4 => exact (R_reads' HO_5.1).2.1); rintro e w' ⟨rfl, ⟨nd, rfl⟩⟩; have p425 : 0 <= (x7_2 : Int) := dt; have q425 : x7_2 < (t415.length : Int) := dt; obtain ⟨ad425, e425, hx425_0⟩ := Kd.at_string (R_reads' HO_6.1).2.2 x7_2 p425 q425; obtain rfl : ad418 = ad425 := (by injection e425); replace p425 := eq_true p425; replace q425 := eq_true q425) | ((with_reducible refine gate_builtin (b := .append) (xs := #[.tmp 44, .tmp 49]) rfl ?_); at_builtin; refine R_append Kd.string (w0 := w) w.heap.size rfl (.tmp 44) (.tmp 49) 25 9 (.string ⟨#[]⟩) 16 rfl Try.underlying25 info9 rfl (by decide) (by omega) (.slice Ao23 x5_2.length co23) x5_2 (rdOf ByteArray.empty t415 x7_2) [.string (rdOf ByteArray.empty t415 x7_2)] (fun k_ => some k_ ≠ (.slice (some ad418) t415.length co13 : Value).ownBlock /\ some k_ ≠ (.slice Ao25 t421.length co25 : Value).ownBlock) (fun _ => False) rfl rfl ?aP (fun _ hk => hk.elim) ?aF ?aO ?aB ?aS ?aL ?_; (case aP => exact rfl); (case aB => exact (hh HB)); (case aF => exact (fun k_ hk => ⟨Kd.fresh' (R_lt (rk HO_6)) k_ hk, Kd.fresh' (R_lt (rk HO423)) k_ hk⟩)); (case aO => exact (rk HO_5)); (case aS => exact (below_size (hh HB))); (case aL => have := LMc22.1; omega); intro v427 w26 ho hb hg hat; rw [<- Ny426.1] at ho; have HO428 := aM (ho); replace HO_6 := aM (R_after (ok := (fun k_ => some k_ ≠ (.slice Ao25 t421.length co25 : Value).ownBlock)) (rz (R_mono HO_6.1 (fun _ hk => ⟨hk.2, hk.1⟩))) hg hat); replace BK409 := aM (blk_grown (g := gb409) (o := .cells #[.int .i64 0, .string (⟨#[]⟩ : ByteArray), .int .i64 0, .int .i64 0] 28 (0, 0)) (kk BK409) hg (R_ne HO_5.1 BK409.1 (by decide))); replace BK414 := aM (blk_grown (g := gb414) (o := .cells #[.int .i64 t410, .string t411, .int .i64 t412, .int .i64 t413] 28 (0, 0)) (kk BK414) hg (R_ne HO_5.1 BK414.1 (by decide))); replace HO423 := aM (R_after (ok := (fun k_ => some k_ ≠ (.slice (some ad418) t415.length co13 : Value).ownBlock)) (rz (R_mono HO423.1 (fun _ hk => ⟨hk.2, hk.1.2⟩))) hg hat); replace HB := aM (hb); clear HO_5; clear ho hb hg hat))
     go_roundg k2
     case measure => have := HK1.1; have := HK2.1; omega
     case rel => exact ⟨(y426), H', ⟨by have := HK1.1; have := HK2.1; omega⟩, ⟨rz (R_mono HO428.1 (fun _ hk => hk.1))⟩, ⟨rz (R_mono HO_6.1 (fun _ hk => hk.2))⟩, ⟨kk BK409⟩, ⟨kk BK414⟩, ⟨hh HB⟩⟩
mutual
noncomputable def r_Levels.l0 : Nat -> List (S42) -> List (List ByteArray) -> List ByteArray -> List ByteArray -> Int -> ByteArray -> Int -> Int -> Option ((List (List ByteArray)) × Int × ByteArray × Int × Int)
 | 0, _, _, _, _, _, _, _, _ => none
 | k + 1, x0, x5, x6, x7, x435000, x435001, x435002, x435003 => if (x6.length : Int) < (x7.length : Int) then (r_Levels.l1 k x0 x5 x6 x7 ([] : List ByteArray) 0 x435000 x435001 x435002 x435003) else (some (x5, x435000, x435001, x435002, x435003))
noncomputable def r_Levels.l1 : Nat -> List (S42) -> List (List ByteArray) -> List ByteArray -> List ByteArray -> List ByteArray -> Int -> Int -> ByteArray -> Int -> Int -> Option ((List (List ByteArray)) × Int × ByteArray × Int × Int)
 | 0, _, _, _, _, _, _, _, _, _, _ => none
 | k + 1, x0, x5, x6, x7, x8, x9, x435000, x435001, x435002, x435003 => if x9 < (x7.length : Int) then (if 0 <= x9 then ((q_Has.f k x6 (rdOf ByteArray.empty x7 x9)).bind fun t445 => (if t445 = true then (r_Levels.l1 k x0 x5 x6 x7 x8 (wrap64 (x9 + 1)) x435000 x435001 x435002 x435003) else ((r_Imports.f k x0 (rdOf ByteArray.empty x7 x9)).bind fun t447 => ((r_within.f k t447 x6).bind fun t450 => (if t450 = true then (if x8.length < 8796093022208 then (r_Levels.l1 k x0 x5 x6 x7 (x8 ++ [rdOf ByteArray.empty x7 x9]) (wrap64 (x9 + 1)) x435000 x435001 x435002 x435003) else (none)) else (r_Levels.l1 k x0 x5 x6 x7 x8 (wrap64 (x9 + 1)) x435000 x435001 x435002 x435003)))))) else (none)) else (if x6.length + x8.length < 8796093022208 then (if x5.length < 5864062014805 then (r_Levels.l0 k x0 (x5 ++ [x8]) (x6 ++ x8) x7 x435000 x435001 x435002 x435003) else (none)) else (none))
end
noncomputable def r_Levels.f (k : Nat) (l0 : List (S42)) : Option ((List (List ByteArray)) × Int × ByteArray × Int × Int) := (r_fault.f k l0).bind fun bt430 => (if bt430.1 = 0 then ((r_Names.f k l0).bind fun t435 => (r_Levels.l0 k l0 ([] : List (List ByteArray)) ([] : List ByteArray) t435 bt430.1 bt430.2.1 bt430.2.2.1 bt430.2.2.2)) else (some (([] : List (List ByteArray)), bt430.1, bt430.2.1, bt430.2.2.1, bt430.2.2.2)))
theorem r_Levels.calls (k : Nat) (A0 : Option Addr) (c0 : Nat) (l0 : List (S42)) (r1 : List (List ByteArray)) (r2 : Int) (r3 : ByteArray) (r4 : Int) (r5 : Int) (w : World) (hr0 : Kd.C k42 w A0 l0.length l0) (hc0 : l0.length <= c0) (h : r_Levels.f k l0 = some (r1, r2, r3, r4, r5)) :
 Calls Try.prog 13 #[.slice A0 l0.length c0] w fun e w' => ∃ v0_ : Value, e = .returned (.tuple #[v0_, .agg #[.int .i64 r2, .string r3, .int .i64 r4, .int .i64 r5]]) /\ Kd.S (Kd.slice 9 Kd.string) 25 w' w.heap.size (fun _ => True) v0_ r1 /\ Below w.heap.size w w' := by
 have hu28 := Try.underlying28
 have HR0 := aM hr0
 have HC0 := aM hc0
 clear hr0 hc0
 have HB := aM (Below.refl w.heap.size w)
 have H : ((r_fault.f k l0).bind fun bt430 => (if bt430.1 = 0 then ((r_Names.f k l0).bind fun t435 => (r_Levels.l0 k l0 ([] : List (List ByteArray)) ([] : List ByteArray) t435 bt430.1 bt430.2.1 bt430.2.2.1 bt430.2.2.2)) else (some (([] : List (List ByteArray)), bt430.1, bt430.2.1, bt430.2.2.1, bt430.2.2.2)))) = some (r1, r2, r3, r4, r5) := h
 clear h
 replace H := Option.bind_eq_some_iff.mp H
 obtain ⟨⟨t430, t431, t432, t433⟩, A20, H⟩ := H
 replace H : (if t430 = 0 then ((r_Names.f k l0).bind fun t435 => (r_Levels.l0 k l0 ([] : List (List ByteArray)) ([] : List ByteArray) t435 t430 t431 t432 t433)) else (some (([] : List (List ByteArray)), t430, t431, t432, t433))) = some (r1, r2, r3, r4, r5) := H
 have A2 := aM A20
 clear A20
 by_cases c3 : t430 = 0
 rotate_left
 · rw [if_neg c3] at H
   have c3b0 : (t430 == 0) = false := beq_eq_false_iff_ne.mpr c3
   have c3b1 : (t430 != 0) = true := bne_iff_ne.mpr c3
   simp only [Option.some.injEq, Prod.mk.injEq] at H
   obtain ⟨rfl, rfl, rfl, rfl, rfl⟩ := H
   go_enter Try.func13, Try.ntmps13
   try go_wp2_with (first | ((with_reducible refine gate_dst (N := 3) rfl ?_); refine be 3 rfl rfl #[.int .i64 0, .string (⟨#[]⟩ : ByteArray), .int .i64 0, .int .i64 0] 28 ?_; intro gb429 hg w39 hbox hb; have BK429 := aM hbox; have GE429 := gs hg HB; replace HB := bs HB hb; clear hb hbox hg) | ((with_reducible refine gate_callee (f := 27) rfl ?_); refine gL (some 11) rfl rfl Try.func27 (by kernel_rfl) rfl #[.slice A0 l0.length c0] rfl ?_; (with_reducible refine (r_fault.calls k _ _ l0 t430 t431 t432 t433 _ ?side1 ?side2 A2.1).mono ?_); (case side1 => exact cb HR0 HB); (case side2 => exact HC0.1); rintro e w40 ⟨rfl, hb⟩; refine ⟨_, rfl, ?_⟩; replace BK429 := kb BK429 hb; replace HB := bs HB hb; clear hb) | ((with_reducible refine gate_dst (N := 4) rfl ?_); refine be 4 rfl rfl #[.int .i64 0, .string (⟨#[]⟩ : ByteArray), .int .i64 0, .int .i64 0] 28 ?_; intro gb434 hg w41 hbox hb; have BK434 := aM hbox; have GE434 := gs hg HB; have NB429_434 := nl hg BK429; have NB434_429 := nr hg BK429; replace BK429 := kb BK429 hb; replace HB := bs HB hb; clear hb hbox hg; have hnb42 := NB434_429.1; have hnc42 := NB429_434.1; obtain ⟨hcz43_0, hcz43_1, hcz43_2, hcz43_3⟩ := cz BK434; obtain ⟨hfz43_0, hfz43_1, hfz43_2, hfz43_3⟩ := fz BK434))
   have n0_ : Az (((((w41.setCell ⟨gb434, 0, none⟩ (.int .i64 t430)).setCell ⟨gb434, 1, none⟩ (.string t431)).setCell ⟨gb434, 2, none⟩ (.int .i64 t432)).setCell ⟨gb434, 3, none⟩ (.int .i64 t433)).heap[gb429]? = some (.cells #[.int .i64 0, .string (⟨#[]⟩ : ByteArray), .int .i64 0, .int .i64 0] 28 (0, 0))) := ⟨kf BK429⟩
   have n1_ : Az (((((w41.setCell ⟨gb434, 0, none⟩ (.int .i64 t430)).setCell ⟨gb434, 1, none⟩ (.string t431)).setCell ⟨gb434, 2, none⟩ (.int .i64 t432)).setCell ⟨gb434, 3, none⟩ (.int .i64 t433)).heap[gb434]? = some (.cells #[.int .i64 t430, .string t431, .int .i64 t432, .int .i64 t433] 28 (0, 0))) := ⟨kf BK434⟩
   have n2_ : Az (Below w.heap.size w ((((w41.setCell ⟨gb434, 0, none⟩ (.int .i64 t430)).setCell ⟨gb434, 1, none⟩ (.string t431)).setCell ⟨gb434, 2, none⟩ (.int .i64 t432)).setCell ⟨gb434, 3, none⟩ (.int .i64 t433))) := ⟨hh HB⟩
   (clear BK429)
   (clear BK434)
   (clear HB)
   generalize ((((w41.setCell ⟨gb434, 0, none⟩ (.int .i64 t430)).setCell ⟨gb434, 1, none⟩ (.string t431)).setCell ⟨gb434, 2, none⟩ (.int .i64 t432)).setCell ⟨gb434, 3, none⟩ (.int .i64 t433)) = w44 at n0_ n1_ n2_ ⊢
   have BK429 := n0_
   have BK434 := n1_
   have HB := n2_
   clear n0_ n1_ n2_
   replace BK429 := aM (blk_drew BK429.1)
   replace BK434 := aM (blk_drew BK434.1)
   replace HB := aM (below_drew1 HB.1)
   refine start_ (n := 3) (S := fun w' => w'.cell? ⟨gb434, 0, none⟩ = some (.int .i64 t430) /\ w'.cell? ⟨gb434, 1, none⟩ = some (.string t431) /\ w'.cell? ⟨gb434, 2, none⟩ = some (.int .i64 t432) /\ w'.cell? ⟨gb434, 3, none⟩ = some (.int .i64 t433)) (ds := []) #[F_, F_, F_] (by kernel_rfl) rfl rfl ⟨(blk_cell BK434.1 0).trans rfl, (blk_cell BK434.1 1).trans rfl, (blk_cell BK434.1 2).trans rfl, (blk_cell BK434.1 3).trans rfl⟩ (fun hHeld => ?_)
   generalize w44.drew = w45 at BK429 BK434 HB hHeld ⊢
   refine pure_ (i := 1) (N := some 2) (v := ?_) (a' := ?_) #[F_, T_, F_] rfl rfl (by kernel_rfl) (fun _ _ _ h => h) (Or.inl ⟨by rfl, ?_⟩) ?_ ?_
   rotate_left
   · intro w'
     go_simp
     with_reducible rfl
   rotate_left
   · simp only [Act.put, sA, sZ, sS, i64_w, i32_w]
     rfl
   refine take_ (i := 0) (N := some 15) (v := ?_) (a' := ?_) #[T_, T_, F_] rfl rfl (by kernel_rfl) (fun _ _ _ h => h) (Or.inl ⟨by rfl, ?_⟩) hHeld ?_ ?_
   rotate_left
   · rintro w' ⟨s0, s1, s2, s3⟩
     go_simp
     with_reducible rfl
   rotate_left
   · simp only [Act.put, sA, sZ, sS, i64_w, i32_w]
     rfl
   refine one_ (i := 2) (N := none) #[T_, T_, T_] rfl rfl (by kernel_rfl) (by decide) (fun K hK => ?_)
   have hs46 : w45.cell? ⟨gb429, 0, none⟩ = some (.int .i64 0) := (blk_cell BK429.1 0).trans rfl
   have hfs46 := blk_frozen BK429.1 0
   have hns46_1 := NB434_429.1
   have hms46_1 := NB429_434.1
   have hs47 : w45.cell? ⟨gb429, 1, none⟩ = some (.string (⟨#[]⟩ : ByteArray)) := (blk_cell BK429.1 1).trans rfl
   have hfs47 := blk_frozen BK429.1 1
   have hns47_1 := NB434_429.1
   have hms47_1 := NB429_434.1
   have hs48 : w45.cell? ⟨gb429, 2, none⟩ = some (.int .i64 0) := (blk_cell BK429.1 2).trans rfl
   have hfs48 := blk_frozen BK429.1 2
   have hns48_1 := NB434_429.1
   have hms48_1 := NB429_434.1
   have hs49 : w45.cell? ⟨gb429, 3, none⟩ = some (.int .i64 0) := (blk_cell BK429.1 3).trans rfl
   have hfs49 := blk_frozen BK429.1 3
   have hns49_1 := NB434_429.1
   have hms49_1 := NB429_434.1
   refine skip_ (w1 := ?_) (by rfl) rfl ?_ ?_
   rotate_left
   · go_simp
     rfl
   refine hK.out _ _ ⟨((cell_far (p := ⟨gb429, _, none⟩) NB434_429.1 _).trans (((cell_far (p := ⟨gb429, _, none⟩) NB434_429.1 _).trans (((cell_far (p := ⟨gb429, _, none⟩) NB434_429.1 _).trans (((cell_far (p := ⟨gb429, _, none⟩) NB434_429.1 _).trans (hHeld.1)))))))), ((cell_far (p := ⟨gb429, _, none⟩) NB434_429.1 _).trans (((cell_far (p := ⟨gb429, _, none⟩) NB434_429.1 _).trans (((cell_far (p := ⟨gb429, _, none⟩) NB434_429.1 _).trans (((cell_far (p := ⟨gb429, _, none⟩) NB434_429.1 _).trans (hHeld.2.1)))))))), ((cell_far (p := ⟨gb429, _, none⟩) NB434_429.1 _).trans (((cell_far (p := ⟨gb429, _, none⟩) NB434_429.1 _).trans (((cell_far (p := ⟨gb429, _, none⟩) NB434_429.1 _).trans (((cell_far (p := ⟨gb429, _, none⟩) NB434_429.1 _).trans (hHeld.2.2.1)))))))), ((cell_far (p := ⟨gb429, _, none⟩) NB434_429.1 _).trans (((cell_far (p := ⟨gb429, _, none⟩) NB434_429.1 _).trans (((cell_far (p := ⟨gb429, _, none⟩) NB434_429.1 _).trans (((cell_far (p := ⟨gb429, _, none⟩) NB434_429.1 _).trans (hHeld.2.2.2))))))))⟩ (fun hHeld => ?_)
   clear hK K
   refine done_ (by kernel_rfl) ?_
   try go_wp2
   refine bodyPost_ret (results_tc rfl _ _ gb429 28 #[.int .i64 t430, .string t431, .int .i64 t432, .int .i64 t433] (0, 0) _ rfl (kf BK429) Try.underlying28 rfl (by kernel_rfl)) rfl ?_
   exact ⟨_, by first | rfl | (simp [errW_none, errW_some] <;> rfl) | (simp [*, errW_none, errW_some] <;> rfl), by first | exact S_nil _ _ _ _ _ | exact N_nil _ _ _ _ _ | exact V_nil _ _ _ _ _ | exact Q_nil _ _ _ _ _ | exact R_nil _ _ _ _ _, hh HB⟩
 rw [if_pos c3] at H
 have c3b0 : (t430 == 0) = true := beq_iff_eq.mpr c3
 have c3b1 : (t430 != 0) = false := bne_eq_false_iff_eq.mpr c3
 clear c3
 replace H := Option.bind_eq_some_iff.mp H
 obtain ⟨t435, A40, H⟩ := H
 replace H : (r_Levels.l0 k l0 ([] : List (List ByteArray)) ([] : List ByteArray) t435 t430 t431 t432 t433) = some (r1, r2, r3, r4, r5) := H
 have A4 := aM A40
 clear A40
 have H' := aM H
 clear H
 go_enter Try.func13, Try.ntmps13
 go_wp2_with (first | ((with_reducible refine gate_dst (N := 3) rfl ?_); refine be 3 rfl rfl #[.int .i64 0, .string (⟨#[]⟩ : ByteArray), .int .i64 0, .int .i64 0] 28 ?_; intro gb429 hg w5 hbox hb; have BK429 := aM hbox; have GE429 := gs hg HB; replace HB := bs HB hb; clear hb hbox hg) | ((with_reducible refine gate_callee (f := 27) rfl ?_); refine gL (some 11) rfl rfl Try.func27 (by kernel_rfl) rfl #[.slice A0 l0.length c0] rfl ?_; (with_reducible refine (r_fault.calls k _ _ l0 t430 t431 t432 t433 _ ?side1 ?side2 A2.1).mono ?_); (case side1 => exact cb HR0 HB); (case side2 => exact HC0.1); rintro e w6 ⟨rfl, hb⟩; refine ⟨_, rfl, ?_⟩; replace BK429 := kb BK429 hb; replace HB := bs HB hb; clear hb) | ((with_reducible refine gate_dst (N := 4) rfl ?_); refine be 4 rfl rfl #[.int .i64 0, .string (⟨#[]⟩ : ByteArray), .int .i64 0, .int .i64 0] 28 ?_; intro gb434 hg w7 hbox hb; have BK434 := aM hbox; have GE434 := gs hg HB; have NB429_434 := nl hg BK429; have NB434_429 := nr hg BK429; replace BK429 := kb BK429 hb; replace HB := bs HB hb; clear hb hbox hg; have hnb8 := NB434_429.1; have hnc8 := NB429_434.1; obtain ⟨hcz9_0, hcz9_1, hcz9_2, hcz9_3⟩ := cz BK434; obtain ⟨hfz9_0, hfz9_1, hfz9_2, hfz9_3⟩ := fz BK434) | ((with_reducible refine gate_callee (f := 28) rfl ?_); refine gL (some 17) rfl rfl Try.func28 (by kernel_rfl) rfl #[.slice A0 l0.length c0] rfl ?_; (with_reducible refine (r_Names.calls k _ _ l0 t435 _ ?side1 ?side2 A4.1).mono ?_); (case side1 => exact C_below HR0.1 (hh HB)); (case side2 => exact HC0.1); rintro e w10 ⟨v436, rfl, ho0, hb⟩; refine ⟨_, rfl, ?_⟩; have HO437 := aM (R_lower ho0 (below_size (hh HB))); replace BK429 := kg (o' := .cells #[.int .i64 0, .string (⟨#[]⟩ : ByteArray), .int .i64 0, .int .i64 0] 28 (0, 0)) BK429 hb; replace BK434 := kg (o' := .cells #[.int .i64 t430, .string t431, .int .i64 t432, .int .i64 t433] 28 (0, 0)) BK434 hb; replace HB := bs HB hb; clear hb ho0))
 go_loopg [5, 6] k (fun kq v5 v6 w' => ∃ (x5_1 : List (List ByteArray)) (x6_1 : List ByteArray), Az (r_Levels.l0 kq l0 x5_1 x6_1 t435 t430 t431 t432 t433 = some (r1, r2, r3, r4, r5)) /\ Az (kq <= k) /\ Az (Kd.S (Kd.slice 9 Kd.string) 25 w' w.heap.size (fun k_ => some k_ ≠ (v6 : Value).ownBlock /\ some k_ ≠ (v436 : Value).ownBlock) v5 x5_1) /\ Az (Kd.R Kd.string 9 w' w.heap.size (fun k_ => some k_ ≠ (v436 : Value).ownBlock) v6 x6_1) /\ Az (Kd.R Kd.string 9 w' w.heap.size (fun k_ => some k_ ≠ (v6 : Value).ownBlock) v436 t435) /\ Az (w'.heap[gb429]? = some (.cells #[.int .i64 0, .string (⟨#[]⟩ : ByteArray), .int .i64 0, .int .i64 0] 28 (0, 0))) /\ Az (w'.heap[gb434]? = some (.cells #[.int .i64 t430, .string t431, .int .i64 t432, .int .i64 t433] 28 (0, 0))) /\ Az (Below w.heap.size w w'))
 case atStart => exact ⟨(([] : List (List ByteArray))), (([] : List ByteArray)), H', ⟨Nat.le_refl _⟩, ⟨by first | exact S_nil _ _ _ _ _ | exact N_nil _ _ _ _ _ | exact V_nil _ _ _ _ _ | exact Q_nil _ _ _ _ _ | exact R_nil _ _ _ _ _⟩, ⟨by first | exact R_nil _ _ _ _ _ | exact N_nil _ _ _ _ _ | exact V_nil _ _ _ _ _ | exact Q_nil _ _ _ _ _ | exact S_nil _ _ _ _ _⟩, ⟨rz (R_mono HO437.1 (fun _ hk => (by simp [Value.ownBlock])))⟩, ⟨kk BK429⟩, ⟨kk BK434⟩, ⟨hh HB⟩⟩
 case round =>
  clear H'
  clear c3b0 c3b1 hcz9_0 hcz9_1 hcz9_2 hcz9_3 hfz9_0 hfz9_1 hfz9_2 hfz9_3
  obtain ⟨x5_1, x6_1, HA, HK1, HO_5, HO_6, HO_7, BK429, BK434, HB⟩ := hrel
  cases gk with
  | zero => exact absurd HA.1 (by simp [r_Levels.l0])
  | succ k1 =>
   have H := HA.1
   clear HA
   simp only [r_Levels.l0] at H
   by_cases c11 : (x6_1.length : Int) < (t435.length : Int)
   rotate_left
   · rw [if_neg c11] at H
     have c11b0 : decide ((x6_1.length : Int) < (t435.length : Int)) = false := decide_eq_false c11
     have c11b1 : decide (x6_1.length < t435.length) = false := decide_eq_false (fun h => c11 (Int.ofNat_lt.mpr h))
     clear c11
     simp only [Option.some.injEq, Prod.mk.injEq] at H
     obtain ⟨rfl, rfl, rfl, rfl, rfl⟩ := H
     obtain ⟨Ao32, co32, eo32⟩ := R_slice HO_6.1
     subst eo32
     obtain ⟨Ao33, co33, eo33⟩ := R_slice HO_7.1
     subst eo33
     try go_wp2
     replace HO_5 := aM (S_drew HO_5.1)
     replace HO_6 := aM (R_drew HO_6.1)
     replace HO_7 := aM (R_drew HO_7.1)
     replace BK429 := aM (blk_drew BK429.1)
     replace BK434 := aM (blk_drew BK434.1)
     replace HB := aM (below_drew1 HB.1)
     refine start_ (n := 4) (S := fun w' => w'.cell? ⟨gb434, 0, none⟩ = some (.int .i64 t430) /\ w'.cell? ⟨gb434, 1, none⟩ = some (.string t431) /\ w'.cell? ⟨gb434, 2, none⟩ = some (.int .i64 t432) /\ w'.cell? ⟨gb434, 3, none⟩ = some (.int .i64 t433)) (ds := []) #[F_, F_, F_, F_] (by kernel_rfl) rfl rfl ⟨(blk_cell BK434.1 0).trans rfl, (blk_cell BK434.1 1).trans rfl, (blk_cell BK434.1 2).trans rfl, (blk_cell BK434.1 3).trans rfl⟩ (fun hHeld => ?_)
     generalize wr.drew = w34 at HO_5 HO_6 HO_7 BK429 BK434 HB hHeld ⊢
     refine pure_ (i := 0) (N := some 60) (v := ?_) (a' := ?_) #[T_, F_, F_, F_] rfl rfl (by kernel_rfl) (fun _ _ _ h => h) (Or.inl ⟨by rfl, ?_⟩) ?_ ?_
     rotate_left
     · intro w'
       go_simp
       with_reducible rfl
     rotate_left
     · simp only [Act.put, sA, sZ, sS, i64_w, i32_w]
       rfl
     refine pure_ (i := 2) (N := some 2) (v := ?_) (a' := ?_) #[T_, F_, T_, F_] rfl rfl (by kernel_rfl) (fun _ _ _ h => h) (Or.inl ⟨by rfl, ?_⟩) ?_ ?_
     rotate_left
     · intro w'
       go_simp
       with_reducible rfl
     rotate_left
     · simp only [Act.put, sA, sZ, sS, i64_w, i32_w]
       rfl
     refine take_ (i := 1) (N := some 61) (v := ?_) (a' := ?_) #[T_, T_, T_, F_] rfl rfl (by kernel_rfl) (fun _ _ _ h => h) (Or.inl ⟨by rfl, ?_⟩) hHeld ?_ ?_
     rotate_left
     · rintro w' ⟨s0, s1, s2, s3⟩
       go_simp
       with_reducible rfl
     rotate_left
     · simp only [Act.put, sA, sZ, sS, i64_w, i32_w]
       rfl
     refine one_ (i := 3) (N := none) #[T_, T_, T_, T_] rfl rfl (by kernel_rfl) (by decide) (fun K hK => ?_)
     have hs35 : w34.cell? ⟨gb429, 0, none⟩ = some (.int .i64 0) := (blk_cell BK429.1 0).trans rfl
     have hfs35 := blk_frozen BK429.1 0
     have hns35_1 := NB434_429.1
     have hms35_1 := NB429_434.1
     have hs36 : w34.cell? ⟨gb429, 1, none⟩ = some (.string (⟨#[]⟩ : ByteArray)) := (blk_cell BK429.1 1).trans rfl
     have hfs36 := blk_frozen BK429.1 1
     have hns36_1 := NB434_429.1
     have hms36_1 := NB429_434.1
     have hs37 : w34.cell? ⟨gb429, 2, none⟩ = some (.int .i64 0) := (blk_cell BK429.1 2).trans rfl
     have hfs37 := blk_frozen BK429.1 2
     have hns37_1 := NB434_429.1
     have hms37_1 := NB429_434.1
     have hs38 : w34.cell? ⟨gb429, 3, none⟩ = some (.int .i64 0) := (blk_cell BK429.1 3).trans rfl
     have hfs38 := blk_frozen BK429.1 3
     have hns38_1 := NB434_429.1
     have hms38_1 := NB429_434.1
     refine skip_ (w1 := ?_) (by rfl) rfl ?_ ?_
     rotate_left
     · go_simp
       rfl
     refine hK.out _ _ ⟨((cell_far (p := ⟨gb429, _, none⟩) NB434_429.1 _).trans (((cell_far (p := ⟨gb429, _, none⟩) NB434_429.1 _).trans (((cell_far (p := ⟨gb429, _, none⟩) NB434_429.1 _).trans (((cell_far (p := ⟨gb429, _, none⟩) NB434_429.1 _).trans (hHeld.1)))))))), ((cell_far (p := ⟨gb429, _, none⟩) NB434_429.1 _).trans (((cell_far (p := ⟨gb429, _, none⟩) NB434_429.1 _).trans (((cell_far (p := ⟨gb429, _, none⟩) NB434_429.1 _).trans (((cell_far (p := ⟨gb429, _, none⟩) NB434_429.1 _).trans (hHeld.2.1)))))))), ((cell_far (p := ⟨gb429, _, none⟩) NB434_429.1 _).trans (((cell_far (p := ⟨gb429, _, none⟩) NB434_429.1 _).trans (((cell_far (p := ⟨gb429, _, none⟩) NB434_429.1 _).trans (((cell_far (p := ⟨gb429, _, none⟩) NB434_429.1 _).trans (hHeld.2.2.1)))))))), ((cell_far (p := ⟨gb429, _, none⟩) NB434_429.1 _).trans (((cell_far (p := ⟨gb429, _, none⟩) NB434_429.1 _).trans (((cell_far (p := ⟨gb429, _, none⟩) NB434_429.1 _).trans (((cell_far (p := ⟨gb429, _, none⟩) NB434_429.1 _).trans (hHeld.2.2.2))))))))⟩ (fun hHeld => ?_)
     clear hK K
     refine done_ (by kernel_rfl) ?_
     try go_wp2
     refine bodyPost_ret (results_tc rfl _ _ gb429 28 #[.int .i64 t430, .string t431, .int .i64 t432, .int .i64 t433] (0, 0) _ rfl (kf BK429) Try.underlying28 rfl (by kernel_rfl)) rfl ?_
     exact ⟨_, by first | rfl | (simp [errW_none, errW_some] <;> rfl) | (simp [*, errW_none, errW_some] <;> rfl), sz (S_mono (S_far (p := ⟨gb429, 3, none⟩) (S_far (p := ⟨gb429, 2, none⟩) (S_far (p := ⟨gb429, 1, none⟩) (S_far (p := ⟨gb429, 0, none⟩) (S_types HO_5.1 BK429.1 (by decide)) (fun _ hk => hk.2) (.int .i64 t430)) (fun _ hk => hk.2) (.string t431)) (fun _ hk => hk.2) (.int .i64 t432)) (fun _ hk => hk.2) (.int .i64 t433)) (fun _ hk => trivial)), hh HB⟩
   rw [if_pos c11] at H
   have c11b0 : decide ((x6_1.length : Int) < (t435.length : Int)) = true := decide_eq_true c11
   have c11b1 : decide (x6_1.length < t435.length) = true := decide_eq_true (Int.ofNat_lt.mp c11)
   clear c11
   have H' := aM H
   clear H
   obtain ⟨Ao12, co12, eo12⟩ := R_slice HO_6.1
   subst eo12
   obtain ⟨Ao13, co13, eo13⟩ := R_slice HO_7.1
   subst eo13
   go_wp2
   go_loopg [8, 9] k1 (fun kq v8 v9 w' => ∃ (x8_2 : List ByteArray) (x9_2 : Int), v9 = .int .i64 x9_2 /\ Az (r_Levels.l1 kq l0 x5_1 x6_1 t435 x8_2 x9_2 t430 t431 t432 t433 = some (r1, r2, r3, r4, r5)) /\ Az (kq <= k1) /\ Az (Kd.S (Kd.slice 9 Kd.string) 25 w' w.heap.size (fun k_ => some k_ ≠ ((.slice Ao12 x6_1.length co12) : Value).ownBlock /\ some k_ ≠ ((.slice Ao13 t435.length co13) : Value).ownBlock /\ some k_ ≠ (v8 : Value).ownBlock) u5 x5_1) /\ Az (Kd.R Kd.string 9 w' w.heap.size (fun k_ => some k_ ≠ ((.slice Ao13 t435.length co13) : Value).ownBlock /\ some k_ ≠ (v8 : Value).ownBlock) (.slice Ao12 x6_1.length co12) x6_1) /\ Az (Kd.R Kd.string 9 w' w.heap.size (fun k_ => some k_ ≠ ((.slice Ao12 x6_1.length co12) : Value).ownBlock /\ some k_ ≠ (v8 : Value).ownBlock) (.slice Ao13 t435.length co13) t435) /\ Az (Kd.R Kd.string 9 w' w.heap.size (fun k_ => some k_ ≠ ((.slice Ao12 x6_1.length co12) : Value).ownBlock /\ some k_ ≠ ((.slice Ao13 t435.length co13) : Value).ownBlock) v8 x8_2) /\ Az (w'.heap[gb429]? = some (.cells #[.int .i64 0, .string (⟨#[]⟩ : ByteArray), .int .i64 0, .int .i64 0] 28 (0, 0))) /\ Az (w'.heap[gb434]? = some (.cells #[.int .i64 t430, .string t431, .int .i64 t432, .int .i64 t433] 28 (0, 0))) /\ Az (Below w.heap.size w w'))
   case atStart => exact ⟨(([] : List ByteArray)), (0), rr, H', ⟨Nat.le_refl _⟩, ⟨sz (S_mono HO_5.1 (fun _ hk => ⟨hk.1, ⟨hk.2, (by simp [Value.ownBlock])⟩⟩))⟩, ⟨rz (R_mono HO_6.1 (fun _ hk => ⟨hk, (by simp [Value.ownBlock])⟩))⟩, ⟨rz (R_mono HO_7.1 (fun _ hk => ⟨hk, (by simp [Value.ownBlock])⟩))⟩, ⟨by first | exact R_nil _ _ _ _ _ | exact N_nil _ _ _ _ _ | exact V_nil _ _ _ _ _ | exact Q_nil _ _ _ _ _ | exact S_nil _ _ _ _ _⟩, ⟨kk BK429⟩, ⟨kk BK434⟩, ⟨hh HB⟩⟩
   case round =>
    clear H'
    clear c11b0 c11b1
    obtain ⟨x8_2, x9_2, rfl, HA, HK2, HO_5, HO_6, HO_7, HO_8, BK429, BK434, HB⟩ := hrel
    cases gk with
    | zero => exact absurd HA.1 (by simp [r_Levels.l1])
    | succ k2 =>
     have H := HA.1
     clear HA
     simp only [r_Levels.l1] at H
     by_cases c14 : x9_2 < (t435.length : Int)
     rotate_left
     · rw [if_neg c14] at H
       have c14b0 : decide (x9_2 < (t435.length : Int)) = false := decide_eq_false c14
       clear c14
       by_cases c27 : x6_1.length + x8_2.length < 8796093022208
       rotate_left
       · rw [if_neg c27] at H
         exact absurd H (by simp)
       rw [if_pos c27] at H
       have LMc27 := aM c27
       clear c27
       obtain ⟨y438, hy438⟩ : ∃ y_ : List ByteArray, y_ = (x6_1 ++ x8_2) := ⟨_, rfl⟩
       replace H : (if x5_1.length < 5864062014805 then (r_Levels.l0 k2 l0 (x5_1 ++ [x8_2]) y438 t435 t430 t431 t432 t433) else (none)) = some (r1, r2, r3, r4, r5) := by first | (rw [hy438]; with_reducible exact H) | (have H2_ := (Option.bind_some _ _).symm.trans H; rw [hy438]; with_reducible exact H2_) | (have H2_ := (Option.bind_some _ _).symm.trans H; with_reducible exact H2_) | with_reducible exact H | (rw [hy438]; exact H) | exact H
       have Ny438 := aM hy438
       clear hy438
       by_cases c28 : x5_1.length < 5864062014805
       rotate_left
       · rw [if_neg c28] at H
         exact absurd H (by simp)
       rw [if_pos c28] at H
       have LMc28 := aM c28
       clear c28
       obtain ⟨y441, hy441⟩ : ∃ y_ : List (List ByteArray), y_ = (x5_1 ++ [x8_2]) := ⟨_, rfl⟩
       replace H : (r_Levels.l0 k2 l0 y441 y438 t435 t430 t431 t432 t433) = some (r1, r2, r3, r4, r5) := by first | (rw [hy441]; with_reducible exact H) | (have H2_ := (Option.bind_some _ _).symm.trans H; rw [hy441]; with_reducible exact H2_) | (have H2_ := (Option.bind_some _ _).symm.trans H; with_reducible exact H2_) | with_reducible exact H | (rw [hy441]; exact H) | exact H
       have Ny441 := aM hy441
       clear hy441
       have H' := aM H
       clear H
       obtain ⟨Ao30, co30, eo30⟩ := R_slice HO_8.1
       subst eo30
       go_wp2_with (first | ((with_reducible refine gate_builtin (b := .append) (xs := #[.tmp 53, .tmp 54]) rfl ?_); at_builtin; refine R_append_rows Kd.string (w0 := w) w.heap.size rfl (.tmp 53) (.tmp 54) 25 9 (.string ⟨#[]⟩) 16 rfl Try.underlying25 info9 rfl (by decide) (by omega) (.slice Ao12 x6_1.length co12) x6_1 x8_2 _ _ _ (fun k_ => some k_ ≠ (.slice Ao13 t435.length co13 : Value).ownBlock /\ some k_ ≠ (.slice Ao30 x8_2.length co30 : Value).ownBlock) (fun _ => False) rfl rfl ?aO ?aR (fun _ _ h => h) (fun _ h => h.elim) ?aF ?aB ?aS ?aL ?_; (case aR => exact cr HO_8); (case aB => exact (hh HB)); (case aF => exact (fun k_ hk => ⟨Kd.fresh' (R_lt (rk HO_7)) k_ hk, Kd.fresh' (R_lt (rk HO_8)) k_ hk⟩)); (case aO => exact (rk HO_6)); (case aS => exact (below_size (hh HB))); (case aL => have := LMc27.1; omega); intro v439 w29 ho hb hg hat; rw [<- Ny438.1] at ho; have HO440 := aM (ho); replace HO_5 := aM (S_after (ok := (fun k_ => some k_ ≠ (.slice Ao13 t435.length co13 : Value).ownBlock /\ some k_ ≠ (.slice Ao30 x8_2.length co30 : Value).ownBlock)) (sz (S_mono HO_5.1 (fun _ hk => ⟨⟨hk.2.1, hk.2.2⟩, hk.1⟩))) hg hat); replace HO_7 := aM (R_after (ok := (fun k_ => some k_ ≠ (.slice Ao30 x8_2.length co30 : Value).ownBlock)) (rz (R_mono HO_7.1 (fun _ hk => ⟨hk.2, hk.1⟩))) hg hat); replace HO_8 := aM (R_after (ok := (fun k_ => some k_ ≠ (.slice Ao13 t435.length co13 : Value).ownBlock)) (rz (R_mono HO_8.1 (fun _ hk => ⟨hk.2, hk.1⟩))) hg hat); replace BK429 := aM (blk_grown (g := gb429) (o := .cells #[.int .i64 0, .string (⟨#[]⟩ : ByteArray), .int .i64 0, .int .i64 0] 28 (0, 0)) (kk BK429) hg (R_ne HO_6.1 BK429.1 (by decide))); replace BK434 := aM (blk_grown (g := gb434) (o := .cells #[.int .i64 t430, .string t431, .int .i64 t432, .int .i64 t433] 28 (0, 0)) (kk BK434) hg (R_ne HO_6.1 BK434.1 (by decide))); replace HB := aM (hb); clear HO_6; clear ho hb hg hat) | ((with_reducible refine gate_builtin (b := .append) (xs := #[.tmp 56, .tmp 58]) rfl ?_); at_builtin; refine S_append (Kd.slice 9 Kd.string) (w0 := w) w.heap.size rfl (.tmp 56) (.tmp 58) 31 25 (.slice none 0 0) 24 rfl Try.underlying31 info25 rfl (by decide) (by omega) u5 x5_1 x8_2 [.slice Ao30 x8_2.length co30] (fun k_ => some k_ ≠ (.slice Ao13 t435.length co13 : Value).ownBlock /\ some k_ ≠ (v439 : Value).ownBlock) (fun k_ => some k_ = (.slice Ao30 x8_2.length co30 : Value).ownBlock) rfl rfl ?aP (fun k_ hk_ => ((R_mono (ok' := fun k_ => ((fun k_ => some k_ ≠ (.slice Ao13 t435.length co13 : Value).ownBlock /\ some k_ ≠ (v439 : Value).ownBlock)) k_ /\ some k_ ≠ (u5 : Value).ownBlock) (R_apart' (HO_8.1) (S_typed HO_5.1) (by decide)) (fun k_ hk => ⟨⟨hk.1.1, hk.1.2⟩, hk.2⟩))).1 k_ hk_.symm) ?aF ?aO ?aB ?aS ?aL ?_; (case aP => exact M_row (R_mono (R_tight rfl (R_mono (ok' := fun k_ => ((fun k_ => some k_ ≠ (.slice Ao13 t435.length co13 : Value).ownBlock /\ some k_ ≠ (v439 : Value).ownBlock)) k_ /\ some k_ ≠ (u5 : Value).ownBlock) (R_apart' (HO_8.1) (S_typed HO_5.1) (by decide)) (fun k_ hk => ⟨⟨hk.1.1, hk.1.2⟩, hk.2⟩))) (fun _ h_ => h_))); (case aB => exact (hh HB)); (case aF => exact (fun k_ hk => ⟨Kd.fresh' (R_lt (rk HO_7)) k_ hk, Kd.fresh' (R_lt (rk HO440)) k_ hk⟩)); (case aO => exact (sz (S_mono HO_5.1 (fun k_ hk => ⟨⟨hk.1.1, hk.2⟩, fun e_ => hk.1.2 e_⟩)))); (case aS => exact (below_size (hh HB))); (case aL => have := LMc28.1; omega); intro v442 w31 ho hb hg hat; rw [<- Ny441.1] at ho; have HO443 := aM (ho); replace HO_7 := aM (R_over' (rk HO_7) (S_typed (sk HO_5)) (by decide) hg); replace BK429 := aM (blk_grown (g := gb429) (o := .cells #[.int .i64 0, .string (⟨#[]⟩ : ByteArray), .int .i64 0, .int .i64 0] 28 (0, 0)) (kk BK429) hg (S_ne HO_5.1 BK429.1 (by decide))); replace BK434 := aM (blk_grown (g := gb434) (o := .cells #[.int .i64 t430, .string t431, .int .i64 t432, .int .i64 t433] 28 (0, 0)) (kk BK434) hg (S_ne HO_5.1 BK434.1 (by decide))); replace HO440 := aM (R_over' (rk HO440) (S_typed (sk HO_5)) (by decide) hg); replace HB := aM (hb); clear HO_5 HO_8; clear ho hb hg hat))
       go_roundg k2
       case measure => have := HK1.1; have := HK2.1; omega
       case rel => exact ⟨(y441), (y438), H', ⟨by have := HK1.1; have := HK2.1; omega⟩, ⟨sz (S_mono HO443.1 (fun _ hk => ⟨hk.2, hk.1⟩))⟩, ⟨rz (R_mono HO440.1 (fun _ hk => hk.1))⟩, ⟨rz (R_mono HO_7.1 (fun _ hk => hk.2))⟩, ⟨kk BK429⟩, ⟨kk BK434⟩, ⟨hh HB⟩⟩
     rw [if_pos c14] at H
     have c14b0 : decide (x9_2 < (t435.length : Int)) = true := decide_eq_true c14
     clear c14
     by_cases c15 : 0 <= x9_2
     rotate_left
     · rw [if_neg c15] at H
       exact absurd H (by simp)
     rw [if_pos c15] at H
     have c15b0 : decide (0 <= x9_2) = true := decide_eq_true c15
     clear c15
     replace H := Option.bind_eq_some_iff.mp H
     obtain ⟨t445, A160, H⟩ := H
     replace H : (if t445 = true then (r_Levels.l1 k2 l0 x5_1 x6_1 t435 x8_2 (wrap64 (x9_2 + 1)) t430 t431 t432 t433) else ((r_Imports.f k2 l0 (rdOf ByteArray.empty t435 x9_2)).bind fun t447 => ((r_within.f k2 t447 x6_1).bind fun t450 => (if t450 = true then (if x8_2.length < 8796093022208 then (r_Levels.l1 k2 l0 x5_1 x6_1 t435 (x8_2 ++ [rdOf ByteArray.empty t435 x9_2]) (wrap64 (x9_2 + 1)) t430 t431 t432 t433) else (none)) else (r_Levels.l1 k2 l0 x5_1 x6_1 t435 x8_2 (wrap64 (x9_2 + 1)) t430 t431 t432 t433))))) = some (r1, r2, r3, r4, r5) := H
     have A16 := aM A160
     clear A160
     by_cases c17 : t445 = true
     · subst c17
       have H1 : (r_Levels.l1 k2 l0 x5_1 x6_1 t435 x8_2 (wrap64 (x9_2 + 1)) t430 t431 t432 t433) = some (r1, r2, r3, r4, r5) := by rw [if_pos rfl] at H; exact H
       clear H
       have H := H1
       clear H1
       have H' := aM H
       clear H
       have p444 : 0 <= (x9_2 : Int) := dt
       have q444 : x9_2 < (t435.length : Int) := dt
       obtain ⟨ad444, e444, hx444_0⟩ := Kd.at_string (R_reads' HO_7.1).2.2 x9_2 p444 q444
       cases e444
       replace p444 := eq_true p444
       replace q444 := eq_true q444
       go_wp2_with (first | ((with_reducible refine gate_callee (f := 21) rfl ?_); refine gL (some 34) rfl rfl Try.func21 (by kernel_rfl) rfl #[.slice Ao12 x6_1.length co12, .string (rdOf ByteArray.empty t435 x9_2)] rfl ?_; (with_reducible refine (q_Has.calls k2 _ _ x6_1 (rdOf ByteArray.empty t435 x9_2) true _ ?side1 ?side2 A16.1).mono ?_); (case side1 => exact cr HO_6); (case side2 => exact (R_reads' HO_6.1).2.1); rintro e w' ⟨rfl, ⟨nd, rfl⟩⟩; refine ⟨_, rfl, ?_⟩))
       go_roundg k2
       case measure => have := HK1.1; have := HK2.1; omega
       case rel => exact ⟨(x8_2), (wrap64 (x9_2 + 1)), rr, H', ⟨by have := HK1.1; have := HK2.1; omega⟩, ⟨sk HO_5⟩, ⟨rk HO_6⟩, ⟨rk HO_7⟩, ⟨rk HO_8⟩, ⟨kk BK429⟩, ⟨kk BK434⟩, ⟨hh HB⟩⟩
     replace c17 := Bool.eq_false_iff.mpr c17
     subst c17
     have H1 : ((r_Imports.f k2 l0 (rdOf ByteArray.empty t435 x9_2)).bind fun t447 => ((r_within.f k2 t447 x6_1).bind fun t450 => (if t450 = true then (if x8_2.length < 8796093022208 then (r_Levels.l1 k2 l0 x5_1 x6_1 t435 (x8_2 ++ [rdOf ByteArray.empty t435 x9_2]) (wrap64 (x9_2 + 1)) t430 t431 t432 t433) else (none)) else (r_Levels.l1 k2 l0 x5_1 x6_1 t435 x8_2 (wrap64 (x9_2 + 1)) t430 t431 t432 t433)))) = some (r1, r2, r3, r4, r5) := by rw [if_neg (show ¬ (false = true) by decide)] at H; exact H
     clear H
     have H := H1
     clear H1
     replace H := Option.bind_eq_some_iff.mp H
     obtain ⟨t447, A180, H⟩ := H
     replace H : ((r_within.f k2 t447 x6_1).bind fun t450 => (if t450 = true then (if x8_2.length < 8796093022208 then (r_Levels.l1 k2 l0 x5_1 x6_1 t435 (x8_2 ++ [rdOf ByteArray.empty t435 x9_2]) (wrap64 (x9_2 + 1)) t430 t431 t432 t433) else (none)) else (r_Levels.l1 k2 l0 x5_1 x6_1 t435 x8_2 (wrap64 (x9_2 + 1)) t430 t431 t432 t433))) = some (r1, r2, r3, r4, r5) := H
     have A18 := aM A180
     clear A180
     replace H := Option.bind_eq_some_iff.mp H
     obtain ⟨t450, A190, H⟩ := H
     replace H : (if t450 = true then (if x8_2.length < 8796093022208 then (r_Levels.l1 k2 l0 x5_1 x6_1 t435 (x8_2 ++ [rdOf ByteArray.empty t435 x9_2]) (wrap64 (x9_2 + 1)) t430 t431 t432 t433) else (none)) else (r_Levels.l1 k2 l0 x5_1 x6_1 t435 x8_2 (wrap64 (x9_2 + 1)) t430 t431 t432 t433)) = some (r1, r2, r3, r4, r5) := H
     have A19 := aM A190
     clear A190
     by_cases c20 : t450 = true
     rotate_left
     · replace c20 := Bool.eq_false_iff.mpr c20
       subst c20
       have H1 : (r_Levels.l1 k2 l0 x5_1 x6_1 t435 x8_2 (wrap64 (x9_2 + 1)) t430 t431 t432 t433) = some (r1, r2, r3, r4, r5) := by rw [if_neg (show ¬ (false = true) by decide)] at H; exact H
       clear H
       have H := H1
       clear H1
       have H' := aM H
       clear H
       have p444 : 0 <= (x9_2 : Int) := dt
       have q444 : x9_2 < (t435.length : Int) := dt
       obtain ⟨ad444, e444, hx444_0⟩ := Kd.at_string (R_reads' HO_7.1).2.2 x9_2 p444 q444
       cases e444
       replace p444 := eq_true p444
       replace q444 := eq_true q444
       go_wp2_with (first | ((with_reducible refine gate_callee (f := 21) rfl ?_); refine gL (some 34) rfl rfl Try.func21 (by kernel_rfl) rfl #[.slice Ao12 x6_1.length co12, .string (rdOf ByteArray.empty t435 x9_2)] rfl ?_; (with_reducible refine (q_Has.calls k2 _ _ x6_1 (rdOf ByteArray.empty t435 x9_2) false _ ?side1 ?side2 A16.1).mono ?_); (case side1 => exact cr HO_6); (case side2 => exact (R_reads' HO_6.1).2.1); rintro e w' ⟨rfl, ⟨nd, rfl⟩⟩; refine ⟨_, rfl, ?_⟩; have p446 : 0 <= (x9_2 : Int) := dt; have q446 : x9_2 < (t435.length : Int) := dt; obtain ⟨ad446, e446, hx446_0⟩ := Kd.at_string (R_reads' HO_7.1).2.2 x9_2 p446 q446; obtain rfl : ad444 = ad446 := (by injection e446); replace p446 := eq_true p446; replace q446 := eq_true q446) | (go_at_call 22; (with_reducible refine (r_Imports.calls k2 _ _ l0 (rdOf ByteArray.empty t435 x9_2) t447 _ ?side1 ?side2 A18.1).mono ?_); (case side1 => repeat (first | exact (C_below HR0.1 (hh HB)) | (with_reducible refine C_alloc ?_ _) | (with_reducible refine C_drewN ?_ _) | (with_reducible refine C_drew ?_))); (case side2 => exact HC0.1); rintro e w25 ⟨v448, rfl, ho0, hb⟩; have HO449 := aM (R_lower (R_new' (R_new' (R_new' ho0 (R_lt (rk HO_6))) (R_lt (rk HO_7))) (R_lt (rk HO_8))) (below_size (hh HB))); replace HO_5 := aM (S_elder' (sk HO_5) (R_base ho0) hb); replace HO_6 := aM (R_elder' (rk HO_6) (R_base ho0) hb); replace HO_7 := aM (R_elder' (rk HO_7) (R_base ho0) hb); replace HO_8 := aM (R_elder' (rk HO_8) (R_base ho0) hb); replace BK429 := kb BK429 hb; replace BK434 := kb BK434 hb; replace HB := bs HB hb; clear hb ho0; obtain ⟨Ao26, co26, eo26⟩ := R_slice HO449.1; subst eo26) | (go_at_call 29; (with_reducible refine (r_within.calls k2 _ _ t447 _ _ x6_1 false _ ?side1 ?side2 ?side3 ?side4 A19.1).mono ?_); (case side1 => exact cr HO449); (case side2 => exact (R_reads' HO449.1).2.1); (case side3 => exact cr HO_6); (case side4 => exact (R_reads' HO_6.1).2.1); rintro e w' ⟨rfl, ⟨nd, rfl⟩⟩))
       go_roundg k2
       case measure => have := HK1.1; have := HK2.1; omega
       case rel => exact ⟨(x8_2), (wrap64 (x9_2 + 1)), rr, H', ⟨by have := HK1.1; have := HK2.1; omega⟩, ⟨sz (S_mono HO_5.1 (fun _ hk => ⟨hk.1.1, ⟨hk.1.2.1, hk.1.2.2⟩⟩))⟩, ⟨rz (R_mono HO_6.1 (fun _ hk => ⟨hk.1.1, hk.1.2⟩))⟩, ⟨rz (R_mono HO_7.1 (fun _ hk => ⟨hk.1.1, hk.1.2⟩))⟩, ⟨rz (R_mono HO_8.1 (fun _ hk => ⟨hk.1.1, hk.1.2⟩))⟩, ⟨kk BK429⟩, ⟨kk BK434⟩, ⟨hh HB⟩⟩
     subst c20
     have H1 : (if x8_2.length < 8796093022208 then (r_Levels.l1 k2 l0 x5_1 x6_1 t435 (x8_2 ++ [rdOf ByteArray.empty t435 x9_2]) (wrap64 (x9_2 + 1)) t430 t431 t432 t433) else (none)) = some (r1, r2, r3, r4, r5) := by rw [if_pos rfl] at H; exact H
     clear H
     have H := H1
     clear H1
     by_cases c21 : x8_2.length < 8796093022208
     rotate_left
     · rw [if_neg c21] at H
       exact absurd H (by simp)
     rw [if_pos c21] at H
     have LMc21 := aM c21
     clear c21
     obtain ⟨y452, hy452⟩ : ∃ y_ : List ByteArray, y_ = (x8_2 ++ [rdOf ByteArray.empty t435 x9_2]) := ⟨_, rfl⟩
     replace H : (r_Levels.l1 k2 l0 x5_1 x6_1 t435 y452 (wrap64 (x9_2 + 1)) t430 t431 t432 t433) = some (r1, r2, r3, r4, r5) := by first | (rw [hy452]; with_reducible exact H) | (have H2_ := (Option.bind_some _ _).symm.trans H; rw [hy452]; with_reducible exact H2_) | (have H2_ := (Option.bind_some _ _).symm.trans H; with_reducible exact H2_) | with_reducible exact H | (rw [hy452]; exact H) | exact H
     have Ny452 := aM hy452
     clear hy452
     have H' := aM H
     clear H
     have p444 : 0 <= (x9_2 : Int) := dt
     have q444 : x9_2 < (t435.length : Int) := dt
     obtain ⟨ad444, e444, hx444_0⟩ := Kd.at_string (R_reads' HO_7.1).2.2 x9_2 p444 q444
     cases e444
     replace p444 := eq_true p444
     replace q444 := eq_true q444
     go_wp2_with (first | ((with_reducible refine gate_callee (f := 21) rfl ?_); refine gL (some 34) rfl rfl Try.func21 (by kernel_rfl) rfl #[.slice Ao12 x6_1.length co12, .string (rdOf ByteArray.empty t435 x9_2)] rfl ?_; (with_reducible refine (q_Has.calls k2 _ _ x6_1 (rdOf ByteArray.empty t435 x9_2) false _ ?side1 ?side2 A16.1).mono ?_); (case side1 => exact cr HO_6); (case side2 => exact (R_reads' HO_6.1).2.1); rintro e w' ⟨rfl, ⟨nd, rfl⟩⟩; refine ⟨_, rfl, ?_⟩; have p446 : 0 <= (x9_2 : Int) := dt; have q446 : x9_2 < (t435.length : Int) := dt; obtain ⟨ad446, e446, hx446_0⟩ := Kd.at_string (R_reads' HO_7.1).2.2 x9_2 p446 q446; obtain rfl : ad444 = ad446 := (by injection e446); replace p446 := eq_true p446; replace q446 := eq_true q446) | (go_at_call 22; (with_reducible refine (r_Imports.calls k2 _ _ l0 (rdOf ByteArray.empty t435 x9_2) t447 _ ?side1 ?side2 A18.1).mono ?_); (case side1 => repeat (first | exact (C_below HR0.1 (hh HB)) | (with_reducible refine C_alloc ?_ _) | (with_reducible refine C_drewN ?_ _) | (with_reducible refine C_drew ?_))); (case side2 => exact HC0.1); rintro e w22 ⟨v448, rfl, ho0, hb⟩; have HO449 := aM (R_lower (R_new' (R_new' (R_new' ho0 (R_lt (rk HO_6))) (R_lt (rk HO_7))) (R_lt (rk HO_8))) (below_size (hh HB))); replace HO_5 := aM (S_elder' (sk HO_5) (R_base ho0) hb); replace HO_6 := aM (R_elder' (rk HO_6) (R_base ho0) hb); replace HO_7 := aM (R_elder' (rk HO_7) (R_base ho0) hb); replace HO_8 := aM (R_elder' (rk HO_8) (R_base ho0) hb); replace BK429 := kb BK429 hb; replace BK434 := kb BK434 hb; replace HB := bs HB hb; clear hb ho0; obtain ⟨Ao23, co23, eo23⟩ := R_slice HO449.1; subst eo23) | (go_at_call 29; (with_reducible refine (r_within.calls k2 _ _ t447 _ _ x6_1 true _ ?side1 ?side2 ?side3 ?side4 A19.1).mono ?_); (case side1 => exact cr HO449); (case side2 => exact (R_reads' HO449.1).2.1); (case side3 => exact cr HO_6); (case side4 => exact (R_reads' HO_6.1).2.1); rintro e w' ⟨rfl, ⟨nd, rfl⟩⟩; have p451 : 0 <= (x9_2 : Int) := dt; have q451 : x9_2 < (t435.length : Int) := dt; obtain ⟨ad451, e451, hx451_0⟩ := Kd.at_string (R_reads' HO_7.1).2.2 x9_2 p451 q451; obtain rfl : ad444 = ad451 := (by injection e451); replace p451 := eq_true p451; replace q451 := eq_true q451) | ((with_reducible refine gate_builtin (b := .append) (xs := #[.tmp 46, .tmp 51]) rfl ?_); at_builtin; refine R_append Kd.string (w0 := w) w.heap.size rfl (.tmp 46) (.tmp 51) 25 9 (.string ⟨#[]⟩) 16 rfl Try.underlying25 info9 rfl (by decide) (by omega) u8 x8_2 (rdOf ByteArray.empty t435 x9_2) [.string (rdOf ByteArray.empty t435 x9_2)] (fun k_ => some k_ ≠ (.slice Ao12 x6_1.length co12 : Value).ownBlock /\ some k_ ≠ (.slice (some ad444) t435.length co13 : Value).ownBlock /\ some k_ ≠ (.slice Ao23 t447.length co23 : Value).ownBlock) (fun _ => False) rfl rfl ?aP (fun _ hk => hk.elim) ?aF ?aO ?aB ?aS ?aL ?_; (case aP => exact rfl); (case aB => exact (hh HB)); (case aF => exact (fun k_ hk => ⟨Kd.fresh' (R_lt (rk HO_6)) k_ hk, Kd.fresh' (R_lt (rk HO_7)) k_ hk, Kd.fresh' (R_lt (rk HO449)) k_ hk⟩)); (case aO => exact (rz (R_mono HO_8.1 (fun _ hk => ⟨hk.1.1, ⟨hk.1.2, hk.2⟩⟩)))); (case aS => exact (below_size (hh HB))); (case aL => have := LMc21.1; omega); intro v453 w24 ho hb hg hat; rw [<- Ny452.1] at ho; have HO454 := aM (ho); replace HO_5 := aM (S_after (ok := (fun k_ => some k_ ≠ (.slice Ao12 x6_1.length co12 : Value).ownBlock /\ some k_ ≠ (.slice (some ad444) t435.length co13 : Value).ownBlock /\ some k_ ≠ (.slice Ao23 t447.length co23 : Value).ownBlock)) (sz (S_mono HO_5.1 (fun _ hk => ⟨⟨hk.1.1, ⟨hk.1.2.1, hk.2⟩⟩, hk.1.2.2⟩))) hg hat); replace HO_6 := aM (R_after (ok := (fun k_ => some k_ ≠ (.slice (some ad444) t435.length co13 : Value).ownBlock /\ some k_ ≠ (.slice Ao23 t447.length co23 : Value).ownBlock)) (rz (R_mono HO_6.1 (fun _ hk => ⟨⟨hk.1.1, hk.2⟩, hk.1.2⟩))) hg hat); replace HO_7 := aM (R_after (ok := (fun k_ => some k_ ≠ (.slice Ao12 x6_1.length co12 : Value).ownBlock /\ some k_ ≠ (.slice Ao23 t447.length co23 : Value).ownBlock)) (rz (R_mono HO_7.1 (fun _ hk => ⟨⟨hk.1.1, hk.2⟩, hk.1.2⟩))) hg hat); replace BK429 := aM (blk_grown (g := gb429) (o := .cells #[.int .i64 0, .string (⟨#[]⟩ : ByteArray), .int .i64 0, .int .i64 0] 28 (0, 0)) (kk BK429) hg (R_ne HO_8.1 BK429.1 (by decide))); replace BK434 := aM (blk_grown (g := gb434) (o := .cells #[.int .i64 t430, .string t431, .int .i64 t432, .int .i64 t433] 28 (0, 0)) (kk BK434) hg (R_ne HO_8.1 BK434.1 (by decide))); replace HO449 := aM (R_after (ok := (fun k_ => some k_ ≠ (.slice Ao12 x6_1.length co12 : Value).ownBlock /\ some k_ ≠ (.slice (some ad444) t435.length co13 : Value).ownBlock)) (rz (R_mono HO449.1 (fun _ hk => ⟨⟨hk.1.1.2, hk.1.2⟩, hk.2⟩))) hg hat); replace HB := aM (hb); clear HO_8; clear ho hb hg hat))
     go_roundg k2
     case measure => have := HK1.1; have := HK2.1; omega
     case rel => exact ⟨(y452), (wrap64 (x9_2 + 1)), rr, H', ⟨by have := HK1.1; have := HK2.1; omega⟩, ⟨sz (S_mono HO_5.1 (fun _ hk => ⟨hk.1.1, ⟨hk.1.2.1, hk.2⟩⟩))⟩, ⟨rz (R_mono HO_6.1 (fun _ hk => ⟨hk.1.1, hk.2⟩))⟩, ⟨rz (R_mono HO_7.1 (fun _ hk => ⟨hk.1.1, hk.2⟩))⟩, ⟨rz (R_mono HO454.1 (fun _ hk => ⟨hk.1, hk.2.1⟩))⟩, ⟨kk BK429⟩, ⟨kk BK434⟩, ⟨hh HB⟩⟩
end Go.Proofs.Ytmadhaccjmakdaa.P
namespace Go.Proofs.Ytmadhaccjmakdaa
open Go.RowKit Go.Maps Go.Sort Go.Proofs.Yw.A Go.Proofs.Yw.B Go.Proofs.Yw.C
open P
namespace Mg
theorem asc_of {S ss : List (List UInt8)} (h : Elems S ss) (h1 : ss.Pairwise (fun a b => leB a b = true)) : asc S = ss := by
 rw [<- Elems.asc h]
 exact List.mergeSort_of_pairwise h1
theorem asc_self {S : List (List UInt8)} (hn : S.Nodup) (h1 : S.Pairwise (fun a b => leB a b = true)) : asc S = S :=
 asc_of ⟨hn, fun x => by simp⟩ h1
theorem asc_elems (S : List (List UInt8)) : Elems S (asc S) := by
 have h := dd_elems S
 have hp := List.mergeSort_perm (dd S) leB
 exact ⟨hp.symm.nodup h.nodup, fun x => (hp.mem_iff).trans (h.mem x)⟩
theorem mem_asc {S : List (List UInt8)} {x : List UInt8} : x ∈ asc S ↔ x ∈ S := by
 rw [(asc_elems S).mem x]; simp
theorem asc_pair (S : List (List UInt8)) : (asc S).Pairwise (fun a b => a <= b) := leB_pair (dd S)
theorem twice_of : ∀ (l : List S42) (seen : List (List UInt8)), (seen ++ l.map nm).Nodup -> twice l seen = none := by
 intro l
 induction l with
 | nil => intro _ _; rfl
 | cons m l ih =>
  intro seen h
  unfold twice
  have hm : ¬ seen.contains (nm m) = true := by
   intro hc
   have hc2 := List.contains_iff_mem.1 hc
   rw [List.nodup_append] at h
   exact h.2.2 _ hc2 _ (by simp) rfl
  rw [if_neg hm]
  exact ih _ (by simpa using h)
theorem missI_of (K : List (List UInt8)) : ∀ l : List S66, (∀ i ∈ l, im i ∈ K) -> missI K l = none := by
 intro l
 induction l with
 | nil => intro _; rfl
 | cons i l ih =>
  intro h
  unfold missI
  rw [if_pos (List.contains_iff_mem.2 (h i List.mem_cons_self))]
  exact ih (fun j hj => h j (List.mem_cons_of_mem _ hj))
theorem miss_of (K : List (List UInt8)) : ∀ l : List S42, (∀ m ∈ l, ∀ i ∈ m.f3, im i ∈ K) -> miss K l = none := by
 intro l
 induction l with
 | nil => intro _; rfl
 | cons m l ih =>
  intro h
  unfold miss
  rw [missI_of K m.f3 (h m List.mem_cons_self)]
  exact ih (fun j hj => h j (List.mem_cons_of_mem _ hj))
def key (m : S42) : List UInt8 × List (List UInt8) := (nm m, m.f3.map im)
theorem impsL_key (l : List S42) (n : List UInt8) : impsL l n = (((l.map key).find? (fun p => p.1 == n)).map (·.2)).getD [] := by
 unfold impsL
 induction l with
 | nil => rfl
 | cons m l ih =>
  by_cases hm : (nm m == n) = true
  · rw [List.map_cons, List.find?_cons_of_pos (by exact hm), List.find?_cons_of_pos (by exact hm)]
    rfl
  rw [List.map_cons, List.find?_cons_of_neg (by exact hm), List.find?_cons_of_neg (by exact hm)]
  exact ih
theorem nm_key (l : List S42) : l.map nm = (l.map key).map (·.1) := by rw [List.map_map]; rfl
theorem size_dat (x : ByteArray) : x.size = x.data.toList.length := by cases x; rfl
theorem okSizes_key {l : List S42} (h : ∀ p ∈ l.map key, p.1.length <= 1000 /\ p.2.length <= 100000 /\ ∀ x ∈ p.2, x.length <= 1000) : okSizes l := by
 intro m hm
 obtain ⟨h1, h2, h3⟩ := h _ (List.mem_map.2 ⟨m, hm, rfl⟩)
 have h1' : m.f0.data.toList.length <= 1000 := h1
 have h2' : (m.f3.map im).length <= 100000 := h2
 rw [List.length_map] at h2'
 refine ⟨by rw [size_dat]; unfold maxLen; omega, h2', fun i hi => ?_⟩
 have h4 : i.f0.data.toList.length <= 1000 := h3 (im i) (List.mem_map.2 ⟨i, hi, rfl⟩)
 rw [size_dat]; unfold maxLen; omega
theorem made_good {l : List S42} (hl : ¬ (l.length : Int) > 32) (hs : okSizes l) (hn : (l.map nm).Nodup) (hi : ∀ m ∈ l, ∀ i ∈ m.f3, im i ∈ l.map nm) : m_made.f l = some (namesOf l, edgesOf l, 0, ⟨#[]⟩, 0, 0) := by
 unfold m_made.f
 rw [if_neg hl, if_pos hs, twice_of l [] (by simpa using hn)]
 simp only []
 rw [miss_of _ l hi]
def namesK (P : List (List UInt8 × List (List UInt8))) : List ByteArray := (asc (P.map (·.1))).map bz
def edgesK (P : List (List UInt8 × List (List UInt8))) : List (List Int) := (asc (P.map (·.1))).map (fun n => (asc (((P.find? (fun p => p.1 == n)).map (·.2)).getD [])).map (fun y => (rank (asc (P.map (·.1))) y : Int)))
theorem namesOf_key (l : List S42) : namesOf l = namesK (l.map key) := by unfold namesOf namesK; rw [nm_key]
theorem edgesOf_key (l : List S42) : edgesOf l = edgesK (l.map key) := by
 unfold edgesOf edgesK edgeOf
 rw [nm_key]
 simp only [impsL_key]
theorem made_key {l : List S42} (hl : (l.map key).length <= 32) (hs : ∀ p ∈ l.map key, p.1.length <= 1000 /\ p.2.length <= 100000 /\ ∀ x ∈ p.2, x.length <= 1000) (hn : ((l.map key).map (·.1)).Nodup) (hi : ∀ p ∈ l.map key, ∀ x ∈ p.2, x ∈ (l.map key).map (·.1)) :
 m_made.f l = some (namesK (l.map key), edgesK (l.map key), 0, ⟨#[]⟩, 0, 0) := by
 rw [<- namesOf_key, <- edgesOf_key]
 rw [List.length_map] at hl
 refine made_good (by omega) (okSizes_key hs) (by rw [nm_key]; exact hn) (fun m hm i hm2 => ?_)
 rw [nm_key]
 exact hi (key m) (List.mem_map.2 ⟨m, hm, rfl⟩) (im i) (List.mem_map.2 ⟨i, hm2, rfl⟩)
theorem made_abc {l : List S42} (h : l.map key = [([65], [[66]]), ([66], []), ([67], [])]) : m_made.f l = some ([bz [65], bz [66], bz [67]], [[1], [], []], 0, ⟨#[]⟩, 0, 0) := by
 have e := made_key (l := l) (by rw [h]; decide) (by rw [h]; decide) (by rw [h]; decide) (by rw [h]; decide)
 rw [e, h]
 have a1 : asc [[65], [66], [67]] = [[65], [66], [67]] := asc_self (by decide) (by decide)
 have a2 : asc [[66]] = [[66]] := asc_self (by decide) (by decide)
 have a3 : asc ([] : List (List UInt8)) = [] := asc_self (by decide) (by decide)
 unfold namesK edgesK
 simp only [List.map_cons, List.map_nil]
 rw [a1]
 simp [List.find?, a2, a3, rank]
 decide
theorem made_cyc {l : List S42} (h : l.map key = [([65], [[66]]), ([66], [[65], [67]]), ([67], [[66]])]) : m_made.f l = some ([bz [65], bz [66], bz [67]], [[1], [0, 2], [1]], 0, ⟨#[]⟩, 0, 0) := by
 have e := made_key (l := l) (by rw [h]; decide) (by rw [h]; decide) (by rw [h]; decide) (by rw [h]; decide)
 rw [e, h]
 have a1 : asc [[65], [66], [67]] = [[65], [66], [67]] := asc_self (by decide) (by decide)
 have a2 : asc [[66]] = [[66]] := asc_self (by decide) (by decide)
 have a3 : asc [[65], [67]] = [[65], [67]] := asc_self (by decide) (by decide)
 unfold namesK edgesK
 simp only [List.map_cons, List.map_nil]
 rw [a1]
 simp [List.find?, a2, a3, rank]
 decide
end Mg
end Go.Proofs.Ytmadhaccjmakdaa
namespace Go.Proofs.Ytmadhaccjmakdaa
open Go.Shelf Go.Lib Go.RowKit Go.Maps Go.Sort Go.Proofs.Yw.A Go.Proofs.Yw.B Go.Proofs.Yw.C
attribute [local go_sem] max2_int min2_int max_two min_two max_three min_three max_four min_four
open P
namespace Mg
def but (s : ByteArray) (x : ByteArray) : Bool := x.toList == s.toList
theorem gives45 (s x : ByteArray) (B : Nat) (W : World) (hc : W.cell? ⟨B, 0, none⟩ = some (.string s)) :
 FnGives Try.prog 45 #[.pointer (some ⟨B, 0, none⟩)] #[.string x] (.bool (but s x)) W := by
 show Calls Try.prog 45 #[.string x, .pointer (some ⟨B, 0, none⟩)] W _
 go_enter Try.func45, Try.ntmps45
 go_wp2
 all_goals (go_ret; exact ⟨by first | rfl | (simp [but]; done) | (unfold but; simp_all) | (unfold but; rfl), 0, rfl⟩)
theorem pred45 (s : ByteArray) (B : Nat) (w : World) (hB : B < w.heap.size) (hcell : w.cell? ⟨B, 0, none⟩ = some (.string s)) :
 PredAt Try.prog 45 #[.pointer (some ⟨B, 0, none⟩)] Value.string (but s) w :=
 fun W x hb => gives45 s x B W ((hb.cell (p := ⟨B, 0, none⟩) hB).trans hcell)
theorem over45 (s : ByteArray) (B blk off size : Nat) (w : World) (hB : B < w.heap.size) (hne : B ≠ blk) (hcell : w.cell? ⟨B, 0, none⟩ = some (.string s)) :
 PredOver Try.prog 45 #[.pointer (some ⟨B, 0, none⟩)] Value.string (but s) blk off size w :=
 fun n os dk x _ => gives45 s x B _ (by
  unfold sortWorld
  rw [cell?_grow _ _ _ (by show B < (putRow _ _ _ _ _).heap.size; rw [size_putRow]; exact hB), cell?_putRow_other _ _ blk off _ _ (Or.inl hne)]
  exact hcell)
theorem putRow_heap (w : World) (q g : Nat) (d : Array ByteArray) {cur : Array Value} (h : w.heap[g]? = some (.cells cur 9 (0, 0))) : (putRow Value.string (Sort.ahead w q) g 0 d).heap[g]? = some (.cells (putCells Value.string 0 d cur) 9 (0, 0)) := by
 simp [putRow, mapBlock, Array.getElem?_modify, h, onCells]
theorem putRow_far (w : World) (q g : Nat) (d : Array ByteArray) (k : Nat) (hk : k ≠ g) : (putRow Value.string (Sort.ahead w q) g 0 d).heap[k]? = w.heap[k]? := by
 have hk2 : ¬ g = k := fun e => hk e.symm
 simp [putRow, mapBlock, Array.getElem?_modify, hk2]
theorem take_put (F fil : List ByteArray) (cur : Array Value) (m : Nat) (hF : F = fil ++ List.replicate m ⟨#[]⟩) (hc : F.length <= cur.size) : (putCells Value.string 0 F.toArray cur).toList.take (fil.length * 1) = encs Value.string fil := by
 apply List.ext_getElem?
 intro i
 unfold encs putCells
 rw [List.getElem?_take, List.getElem?_map]
 by_cases hi : i < fil.length
 rotate_left
 · rw [if_neg (by omega), List.getElem?_eq_none (by omega)]
   rfl
 have hl : F.length = fil.length + m := by rw [hF]; simp
 have hic : i < cur.size := by omega
 rw [if_pos (by omega), Array.getElem?_toList, Array.getElem?_mapIdx, Array.getElem?_eq_getElem hic, List.getElem?_eq_getElem hi]
 simp only [Option.map_some]
 rw [if_pos ⟨Nat.zero_le _, by simp; omega⟩]
 congr 2
 rw [Nat.sub_zero, getElem!_pos F.toArray i (by simp; omega)]
 simp only [List.getElem_toArray]
 subst hF
 rw [List.getElem_append_left hi]
theorem del_calls (w : World) (g c base B : Nat) (out : List ByteArray) (s : ByteArray) (ok : Nat -> Prop) (hR : Kd.R Kd.string 9 w base ok (.slice (some ⟨g, 0, none⟩) out.length c) out) (hB : B < w.heap.size) (hne : B ≠ g) (hcell : w.cell? ⟨B, 0, none⟩ = some (.string s)) :
 Calls Try.prog 44 #[.slice (some ⟨g, 0, none⟩) out.length c, .func (.func 45) #[] #[.pointer (some ⟨B, 0, none⟩)]] w fun e w' => ∃ v', e = .returned v' /\ Kd.R Kd.string 9 w' base ok v' (out.filter (fun x => !but s x)) /\ (∀ k, k ≠ g -> w'.heap[k]? = w.heap[k]?) /\ Below base w w' := by
 have eg : ∀ args w, (callFunc 45 args).run Try.prog w = .ok (.enter 45 args) w := enters_of Try.func45 (by kernel_rfl) rfl
 have hown := Kd.own_of_R hR
 obtain ⟨hlen, ⟨hv, _⟩ | ⟨g2, c2, cur, hv, hb, hg, hnc, hcm, hcs, htk⟩⟩ := hown
 · cases hv
 injection hv with hv1 hv2 hv3
 injection hv1 with hv1
 injection hv1 with hv1
 subst hv1
 subst hv3
 have hown := Kd.own_of_R hR
 have hml : c <= 9223372036854775807 := by unfold maxLen at hcm; omega
 have hH : Holds Value.string w g 0 out.toArray := fun j hj => by
  have hj2 : j < out.length := by simpa using hj
  have h := own_at_of (d := (⟨#[]⟩ : ByteArray)) hown (j : Int) (by omega) (by omega)
  have e : out.toArray[j]! = rdOf ⟨#[]⟩ out (j : Int) := by
   rw [getElem!_pos out.toArray j hj]
   simp [rdOf, List.getD_eq_getElem?_getD, List.getElem?_eq_getElem hj2]
  rw [e, Nat.zero_add]
  exact h
 have hcon := AnyE.slices_DeleteFunc Try.delS Value.string (fun _ => rfl) (but s) 45 #[.pointer (some ⟨B, 0, none⟩)] eg ⟨#[]⟩ Try.zeroValue9 g 0 c out.toArray w (pred45 s B w hB hcell) (over45 s B g 0 out.toArray.size w hB hne hcell) hH (by simp; omega) (by simpa using hnc)
 change Calls Try.prog 44 _ _ _ at hcon
 have es : out.toArray.size = out.length := by simp
 rw [es] at hcon
 refine hcon.mono ?_
 rintro e w' ⟨rfl, q, rfl⟩
 have hfl : (out.filter (fun x => !but s x)).length <= out.length := List.length_filter_le _ _
 have hto : out.toArray.toList = out := by simp
 rw [hto]
 have hz : out.length <= cur.size := by omega
 generalize hfil : out.filter (fun x => !but s x) = fil at *
 have hbelow : ∀ k, k ≠ g -> (putRow Value.string (Sort.ahead w q) g 0 (fil ++ List.replicate (out.length - fil.length) (⟨#[]⟩ : ByteArray)).toArray).heap[k]? = w.heap[k]? := fun k hk => putRow_far w q g _ k hk
 refine ⟨_, rfl, ?_, hbelow, ⟨rfl, rfl, rfl, by simp, fun k hk => hbelow k (by omega)⟩⟩
 refine Kd.R_of_own ⟨by simp [encs], .inr ⟨g, c, _, rfl, hb, putRow_heap w q g _ hg, by omega, hcm, ?_, ?_⟩⟩ (fun k hk => hR.1 k hk)
 · unfold putCells
   simpa using hcs
 · exact take_put _ fil cur _ rfl (by simp; omega)
abbrev dat (x : ByteArray) : List UInt8 := x.data.toList
theorem dat_inj {x y : ByteArray} (h : dat x = dat y) : x = y := by
 cases x with | mk a => cases y with | mk b =>
 have : a = b := Array.toList_inj.1 h
 rw [this]
def PlainA (A : Option Addr) : Prop := ∀ ad, A = some ad -> ∃ g, ad = ⟨g, 0, none⟩
theorem plainR {e n c base : Nat} {w : World} {A : Option Addr} {ok : Nat -> Prop} {xs : List ByteArray} (h : Kd.R Kd.string e w base ok (.slice A n c) xs) : n = xs.length /\ n <= c /\ (Kd.C Kd.string w A xs.length xs /\ PlainA A) := by
 obtain ⟨h1, h2, h3⟩ := Kd.R_reads' h
 refine ⟨h1, h2, h3, fun ad e => ?_⟩
 subst e
 exact Kd.R_head h
theorem search2 (w : World) (A : Option Addr) (c : Nat) (names : List ByteArray) (s : ByteArray) (hC : Kd.C Kd.string w A names.length names) (hA : PlainA A) (hp : (names.map dat).Pairwise (fun a b => a <= b)) (hl : names.length <= 100) :
 Calls Try.prog 42 #[.slice A names.length c, .string s] w fun e w' => e = .returned (.tuple #[.int .i64 (rank (names.map dat) (dat s) : Nat), .bool (decide (dat s ∈ names.map dat))]) /\ Drawn0 w w' := by
 by_cases hn : names = []
 · subst hn
   refine (Any2.slices_BinarySearch_string_empty Try.lays26 A c s w).mono ?_
   rintro e w' ⟨rfl, rfl⟩
   exact ⟨by simp [rank], Drawn0.refl _⟩
 have hpos : 0 < names.length := List.length_pos_iff.2 hn
 obtain ⟨ad, eA, _⟩ := hC.2.2 hpos
 obtain ⟨g, rfl⟩ := hA ad eA
 subst eA
 have hcell : ∀ j, j < names.length -> w.cell? ⟨g, 0 + j, none⟩ = some (.string (names.getD j s)) := by
  intro j hj
  obtain ⟨ad, he, hc⟩ := Kd.at_string hC (j : Int) (by omega) (by omega)
  injection he with he
  subst he
  have e : names.getD j s = rdOf ByteArray.empty names (j : Int) := by
   simp [rdOf, List.getD_eq_getElem?_getD, List.getElem?_eq_getElem hj]
  rw [e, Nat.zero_add]
  rw [add_plain] at hc
  simpa using hc
 have h := Any2.slices_BinarySearch_string Try.lays26 g 0 names.length c (fun j => names.getD j s) s w (by omega) hcell
 have hk : Lib.bsGo (fun t => Op.bytesLess (names.getD t s).toList s.toList) names.length 0 names.length = rank (names.map dat) (dat s) := by
  refine Lib.bsGo_spec _ (rank (names.map dat) (dat s)) (fun t ht => ?_) (fun t ht => ?_) names.length 0 names.length (by omega) (Nat.zero_le _) (by have := rank_le (names.map dat) (dat s); simpa using this)
  · obtain ⟨h1, h2⟩ := rank_lt (names.map dat) (dat s) t ht
    have h3 : t < names.length := by simpa using h1
    rw [toL, toL, bytesLess_eq]
    have e : (names.getD t s).data.toList = (names.map dat)[t] := by simp [List.getD_eq_getElem?_getD, List.getElem?_eq_getElem h3]
    rw [e]
    simpa using h2
  · rw [toL, toL, bytesLess_eq]
    by_cases h1 : t < names.length
    rotate_left
    · have e : names.getD t s = s := by simp [List.getD_eq_getElem?_getD, List.getElem?_eq_none (show names.length <= t by omega)]
      rw [e]
      simp [List.lt_irrefl]
    have h2 : t < (names.map dat).length := by simpa using h1
    have e : (names.getD t s).data.toList = (names.map dat)[t] := by simp [List.getD_eq_getElem?_getD, List.getElem?_eq_getElem h1]
    rw [e]
    simpa using rank_ge (names.map dat) (dat s) hp t h2 ht
 have hb : (rank (names.map dat) (dat s) < names.length /\ names.getD (rank (names.map dat) (dat s)) s = s) ↔ dat s ∈ names.map dat := by
  have hm : dat s ∈ names.map dat ↔ s ∈ names := ⟨fun h => by obtain ⟨y, hy, e⟩ := List.mem_map.1 h; exact dat_inj e ▸ hy, fun h => List.mem_map.2 ⟨s, h, rfl⟩⟩
  rw [hm]
  constructor
  · rintro ⟨h1, h2⟩
    rw [List.getD_eq_getElem?_getD, List.getElem?_eq_getElem h1] at h2
    rw [<- h2]
    exact List.getElem_mem h1
  · intro hs
    obtain ⟨t, ht, hts⟩ := List.getElem_of_mem hs
    have htm : t < (names.map dat).length := by simpa using ht
    have e2 : (names.map dat)[t] = dat s := by simp [hts]
    have hrt : rank (names.map dat) (dat s) <= t := by
     apply Nat.le_of_not_lt
     intro hlt
     obtain ⟨h1, h2⟩ := rank_lt (names.map dat) (dat s) t hlt
     rw [e2] at h2
     exact List.lt_irrefl _ h2
    have hr : rank (names.map dat) (dat s) < names.length := by omega
    have hrm : rank (names.map dat) (dat s) < (names.map dat).length := by simpa using hr
    have h3 := rank_ge (names.map dat) (dat s) hp _ hrm (Nat.le_refl _)
    have h4 : (names.map dat)[rank (names.map dat) (dat s)] <= dat s := by
     by_cases heq : rank (names.map dat) (dat s) = t
     rotate_left
     · have := (List.pairwise_iff_getElem.1 hp) _ _ hrm htm (by omega)
       rw [e2] at this
       exact this
     have : (names.map dat)[rank (names.map dat) (dat s)] = dat s := by simp only [heq]; exact e2
     rw [this]; exact List.le_refl _
    have h5 : (names.map dat)[rank (names.map dat) (dat s)] = dat s := List.le_antisymm h4 (List.not_lt.1 h3)
    refine ⟨hr, ?_⟩
    rw [List.getD_eq_getElem?_getD, List.getElem?_eq_getElem hr]
    exact dat_inj (by simpa using h5)
 refine h.mono fun e w' ⟨he, hd⟩ => ?_
 rw [hk] at he
 rw [he]
 exact ⟨by rw [decide_eq_decide.2 hb], ⟨hd⟩⟩
theorem idx_nil (w : World) (lb : Array Value) : Calls Try.prog 59 #[.slice none 0 0, .func (.func 45) #[] lb] w fun e w' => e = .returned (.int .i64 (-1)) /\ w' = w := by
 go_enter Try.func59, Try.ntmps59
 go_wp2
 go_loopg [8] 0 (fun kq v8 w' => v8 = .int .i64 0 /\ w' = w)
 case atStart => exact ⟨rfl, rfl⟩
 case round =>
  obtain ⟨rfl, rfl⟩ := hrel
  go_wp2
  go_ret
  exact ⟨rfl, rfl⟩
theorem del_nil (w : World) (lb : Array Value) : Calls Try.prog 44 #[.slice none 0 0, .func (.func 45) #[] lb] w fun e w' => e = .returned (.slice none 0 0) /\ w' = w := by
 go_enter Try.func44, Try.ntmps44
 go_wp2_with (go_at_call 59; (refine (idx_nil _ _).mono ?_); rintro e w' ⟨rfl, rfl⟩)
 go_ret
 exact ⟨rfl, rfl⟩
theorem del_any (w : World) (base B : Nat) (out : List ByteArray) (s : ByteArray) (v : Value) (hR : Kd.R Kd.string 9 w base (fun _ => True) v out) (hB : B < base) (hbw : base <= w.heap.size) (hcell : w.cell? ⟨B, 0, none⟩ = some (.string s)) :
 Calls Try.prog 44 #[v, .func (.func 45) #[] #[.pointer (some ⟨B, 0, none⟩)]] w fun e w' => ∃ v', e = .returned v' /\ Kd.R Kd.string 9 w' base (fun _ => True) v' (out.filter (fun x => !but s x)) /\ Below base w w' := by
 have hown := Kd.own_of_R hR
 obtain ⟨hlen, ⟨rfl, hn⟩ | ⟨g, c, cur, rfl, hb, hg, hnc, hcm, hcs, htk⟩⟩ := hown
 · have : out = [] := List.eq_nil_of_length_eq_zero hn
   subst this
   refine (del_nil w _).mono ?_
   rintro e w' ⟨rfl, rfl⟩
   exact ⟨_, rfl, Kd.R_nil _ _ _ _ _, Below.refl _ _⟩
 · refine (del_calls w g c base B out s _ hR (by omega) (by omega) hcell).mono ?_
   rintro e w' ⟨v', rfl, h1, _, h2⟩
   exact ⟨v', rfl, h1, h2⟩
end Mg
end Go.Proofs.Ytmadhaccjmakdaa
namespace Go.Proofs.Ytmadhaccjmakdaa
namespace P
open Go.RowKit Go.Proofs.Yw.A Go.Proofs.Yw.B Go.Proofs.Yw.C
def slices_Clone_int.f (l : List Int) : Option (List Int) := if l.length < 17592186044416 then some l else none
theorem slices_Clone_int.calls (A0 : Option Addr) (c0 : Nat) (l0 : List Int) (r : List Int) (w : World) (hr0 : Kd.C (Kd.int .i64) w A0 l0.length l0) (hc0 : l0.length <= c0) (h : slices_Clone_int.f l0 = some r) :
 Calls Try.prog 65 #[.slice A0 l0.length c0] w fun e w' => ∃ v0_ : Value, e = .returned (v0_) /\ Kd.R (Kd.int .i64) 3 w' w.heap.size (fun _ => True) v0_ r /\ Below w.heap.size w w' := by
 unfold slices_Clone_int.f at h
 by_cases hn : l0.length < 17592186044416
 case neg => rw [if_neg hn] at h; cases h
 rw [if_pos hn] at h
 obtain rfl := Option.some.inj h
 have HR := Az.mk hr0
 clear h hr0
 cases A0 with
 | none =>
  have hl0 : l0 = [] := by
   cases l0 with
   | nil => rfl
   | cons a l => obtain ⟨_, _, h3⟩ := HR.1; obtain ⟨ad, e, _⟩ := h3 (by simp); cases e
  subst hl0
  have hq := Lib.run_eql_slice_nil (P := Try.prog) w 55 3 none 0 c0 0 0 Try.underlying55
  go_enter Try.func65, Try.ntmps65
  go_wp2
  go_ret
  exact ⟨_, rfl, Kd.R_nil _ _ _ _ _, Below.refl _ _⟩
 | some ad =>
  have OW := Az.mk (Kd.R_of_own (h1 := fun _ => rfl) (enc := Value.int .i64) (xs := []) (base := w.heap.size) (ok := fun _ => True) (e := 3) (w := w.alloc (.cells #[] 3)) (v := .slice (some ⟨w.heap.size, 0, none⟩) 0 0) ⟨by simp [encs], .inr ⟨w.heap.size, 0, #[], rfl, Nat.le_refl _, blk_new w _, Nat.le_refl _, Nat.zero_le _, by simp, by simp [encs]⟩⟩ (fun _ _ => trivial))
  have HC := Az.mk (Kd.C_below HR.1 (below_alloc (Below.refl w.heap.size w) (.cells #[] 3)))
  have hq := Lib.run_eql_slice_nil (P := Try.prog) w 55 3 (some ad) l0.length c0 0 0 Try.underlying55
  go_enter Try.func65, Try.ntmps65
  go_wp2_with ((with_reducible refine gate_builtin (b := .append) (xs := #[.tmp 5, .tmp 6]) rfl ?_); at_builtin; refine Kd.R_append_row (Value.int .i64) (0 : Int) (w0 := w) w.heap.size rfl (.tmp 5) (.tmp 6) 55 3 (.int .i64 0) 8 rfl Try.underlying55 info3 rfl (by decide) (.slice (some ⟨w.heap.size, 0, none⟩) 0 0) [] l0 (some ad) l0.length c0 (fun _ => True) rfl rfl (fun _ _ => trivial) OW.1 HC.1 (below_alloc (Below.refl w.heap.size w) _) (by simp) (by simp; omega) ?_)
  intro v1 w1 ho hb _ _
  have Ho := Az.mk ho
  have Hb := Az.mk hb
  clear ho hb
  obtain ⟨A1, q1, rfl⟩ := Kd.R_slice Ho.1
  go_wp2_with fail
  go_ret
  exact ⟨_, rfl, Ho.1, Hb.1⟩
end P
end Go.Proofs.Ytmadhaccjmakdaa
namespace Go.Proofs.Ytmadhaccjmakdaa.P
open Go.RowKit Go.Proofs.Yw.A Go.Proofs.Yw.A.Kd Go.Proofs.Yw.B Go.Proofs.Yw.C
attribute [local go_sem] str_gtr str_leq str_geq max2_int min2_int max_two min_two max_three min_three max_four min_four
noncomputable def g_reached.l0 : Nat -> List (List Int) -> List Bool -> List Int -> Option (List Bool)
 | 0, _, _, _ => none
 | k + 1, x0, x5, x6 => if (x6.length : Int) > 0 then (if 0 <= (wrap64 ((x6.length : Int) - 1)) then (if (wrap64 ((x6.length : Int) - 1)) < (x6.length : Int) then (if (wrap64 ((x6.length : Int) - 1)) <= (x6.length : Int) then ((some (x6.take ((wrap64 ((x6.length : Int) - 1)) : Int).toNat : List Int)).bind fun y235 => (if 0 <= (rd x6 (wrap64 ((x6.length : Int) - 1))) then (if (rd x6 (wrap64 ((x6.length : Int) - 1))) < (x5.length : Int) then (if (rdOf false x5 (rd x6 (wrap64 ((x6.length : Int) - 1))) = true) then (g_reached.l0 k x0 x5 y235) else (if (rd x6 (wrap64 ((x6.length : Int) - 1))) < (x0.length : Int) then (if y235.length + (rd_L11 x0 (rd x6 (wrap64 ((x6.length : Int) - 1)))).length < 17592186044416 then (g_reached.l0 k x0 (x5.set ((rd x6 (wrap64 ((x6.length : Int) - 1))) : Int).toNat true) (y235 ++ (rd_L11 x0 (rd x6 (wrap64 ((x6.length : Int) - 1)))))) else (none)) else (none))) else (none)) else (none))) else (none)) else (none)) else (none)) else (some x5)
noncomputable def g_reached.f (k : Nat) (l0 : List (List Int)) (l1 : List Int) : Option (List Bool) := if 0 <= (l0.length : Int) then (if ((l0.length : Int) : Int).toNat <= 281474976710656 then ((slices_Clone_int.f l1).bind fun t231 => (g_reached.l0 k l0 (List.replicate ((l0.length : Int) : Int).toNat false) t231)) else (none)) else (none)
theorem g_reached.calls (k : Nat) (A0 : Option Addr) (c0 : Nat) (l0 : List (List Int)) (A1 : Option Addr) (c1 : Nat) (l1 : List Int) (r : List Bool) (w : World) (hr0 : Kd.C (Kd.slice 3 (Kd.int .i64)) w A0 l0.length l0) (hc0 : l0.length <= c0) (hr1 : Kd.C (Kd.int .i64) w A1 l1.length l1) (hc1 : l1.length <= c1) (h : g_reached.f k l0 l1 = some r) :
 Calls Try.prog 58 #[.slice A0 l0.length c0, .slice A1 l1.length c1] w fun e w' => ∃ v0_ : Value, e = .returned (v0_) /\ Kd.R Kd.bool 4 w' w.heap.size (fun _ => True) v0_ r /\ Below w.heap.size w w' := by
 have HR0 := aM hr0
 have HC0 := aM hc0
 clear hr0 hc0
 have HR1 := aM hr1
 have HC1 := aM hc1
 clear hr1 hc1
 have HB := aM (Below.refl w.heap.size w)
 have H : (if 0 <= (l0.length : Int) then (if ((l0.length : Int) : Int).toNat <= 281474976710656 then ((slices_Clone_int.f l1).bind fun t231 => (g_reached.l0 k l0 (List.replicate ((l0.length : Int) : Int).toNat false) t231)) else (none)) else (none)) = some r := h
 clear h
 by_cases c3 : 0 <= (l0.length : Int)
 rotate_left
 · rw [if_neg c3] at H
   exact absurd H (by simp)
 rw [if_pos c3] at H
 have c3b0 := eq_true c3
 have c3b1 : decide (0 <= (l0.length : Int)) = true := decide_eq_true c3
 clear c3
 by_cases c4 : ((l0.length : Int) : Int).toNat <= 281474976710656
 rotate_left
 · rw [if_neg c4] at H
   exact absurd H (by simp)
 rw [if_pos c4] at H
 have c4b0 := eq_true c4
 have c4b1 : decide (((l0.length : Int) : Int).toNat <= 281474976710656) = true := decide_eq_true c4
 clear c4
 obtain ⟨y228, hy228⟩ : ∃ y_ : List Bool, y_ = (List.replicate ((l0.length : Int) : Int).toNat false) := ⟨_, rfl⟩
 replace H : ((slices_Clone_int.f l1).bind fun t231 => (g_reached.l0 k l0 y228 t231)) = some r := by first | (rw [hy228]; with_reducible exact H) | (have H2_ := (Option.bind_some _ _).symm.trans H; rw [hy228]; with_reducible exact H2_) | (have H2_ := (Option.bind_some _ _).symm.trans H; with_reducible exact H2_) | with_reducible exact H | (rw [hy228]; exact H) | exact H
 have Ny228 := aM hy228
 clear hy228
 replace H := Option.bind_eq_some_iff.mp H
 obtain ⟨t231, A50, H⟩ := H
 try dsimp only at H
 have A5 := aM A50
 clear A50
 have H' := aM H
 clear H
 go_enter Try.func58, Try.ntmps58
 go_wp2_with (first | ((with_reducible refine gate_dst (N := 10) rfl ?_); refine R_make Kd.bool _ 4 rfl (N := 10) rfl 92 _ _ rfl (l0.length : Int) rfl rfl Try.underlying92 (.bool false) 1 info4 rfl (by decide) (by omega) false (ok := fun _ => True) (okp := fun _ => True) rfl (fun _ hk => hk) trivial (dt) (Nat.le_trans (Nat.mul_le_mul_right _ (dt : (l0.length : Int).toNat <= 281474976710656)) (by omega)) (Below.refl _ _) (Nat.le_refl _) ?_; intro v229 w6 ho7 hb hg_ hnew_; clear hg_ hnew_; (first | rw [<- Ny228.1] at ho7 | (simp only [Int.reduceToNat] at ho7; rw [<- Ny228.1] at ho7)); have HO230 := aM (R_lower ho7 (below_size (hh HB))); replace HB := bs HB hb; clear hb ho7) | ((with_reducible refine gate_callee (f := 65) rfl ?_); refine gL (some 12) rfl rfl Try.func65 (by kernel_rfl) rfl #[.slice A1 l1.length c1] rfl ?_; (with_reducible refine (slices_Clone_int.calls _ _ l1 t231 _ ?side1 ?side2 A5.1).mono ?_); (case side1 => exact cb HR1 HB); (case side2 => exact HC1.1); rintro e w8 ⟨v232, rfl, ho0, hb⟩; refine ⟨_, rfl, ?_⟩; have HO233 := aM (R_lower ho0 (below_size (hh HB))); replace HO230 := rb HO230 hb; replace HB := bs HB hb; clear hb ho0))
 go_loopg [6] k (fun kq v6 w' => ∃ (x5_1 : List Bool) (x6_1 : List Int), Az (g_reached.l0 kq l0 x5_1 x6_1 = some r) /\ Az (kq <= k) /\ Az (Kd.R Kd.bool 4 w' w.heap.size (fun _ => True) v229 x5_1) /\ Az (Kd.R (Kd.int .i64) 3 w' w.heap.size (fun _ => True) v6 x6_1) /\ Az (Below w.heap.size w w'))
 case atStart => exact ⟨(y228), (t231), H', ⟨Nat.le_refl _⟩, ⟨rk HO230⟩, ⟨rk HO233⟩, ⟨hh HB⟩⟩
 case round =>
  clear H'
  clear c3b0 c3b1 c4b0 c4b1
  obtain ⟨x5_1, x6_1, HA, HK1, HO_5, HO_6, HB⟩ := hrel
  cases gk with
  | zero => exact absurd HA.1 (by simp [g_reached.l0])
  | succ k1 =>
   have H := HA.1
   clear HA
   simp only [g_reached.l0] at H
   by_cases c9 : (x6_1.length : Int) > 0
   rotate_left
   · rw [if_neg c9] at H
     have c9b0 : decide (0 < (x6_1.length : Int)) = false := decide_eq_false c9
     have c9b1 : decide (0 < x6_1.length) = false := decide_eq_false (by omega)
     clear c9
     obtain rfl := Option.some.inj H
     obtain ⟨Ao30, co30, eo30⟩ := R_slice HO_6.1
     subst eo30
     go_wp2
     go_ret
     exact ⟨_, by first | rfl | (simp [errW_none, errW_some] <;> rfl) | (simp [*, errW_none, errW_some] <;> rfl), rk HO_5, hh HB⟩
   rw [if_pos c9] at H
   have c9b0 : decide (0 < (x6_1.length : Int)) = true := decide_eq_true c9
   have c9b1 : decide (0 < x6_1.length) = true := decide_eq_true (by omega)
   clear c9
   obtain ⟨ji10, hji10⟩ : ∃ j_ : Int, (wrap64 ((x6_1.length : Int) - 1)) = j_ := ⟨_, rfl⟩
   replace H : (if 0 <= (ji10) then (if (ji10) < (x6_1.length : Int) then (if (ji10) <= (x6_1.length : Int) then ((some (x6_1.take ((ji10) : Int).toNat : List Int)).bind fun y235 => (if 0 <= (rd x6_1 (ji10)) then (if (rd x6_1 (ji10)) < (x5_1.length : Int) then (if (rdOf false x5_1 (rd x6_1 (ji10)) = true) then (g_reached.l0 k1 l0 x5_1 y235) else (if (rd x6_1 (ji10)) < (l0.length : Int) then (if y235.length + (rd_L11 l0 (rd x6_1 (ji10))).length < 17592186044416 then (g_reached.l0 k1 l0 (x5_1.set ((rd x6_1 (ji10)) : Int).toNat true) (y235 ++ (rd_L11 l0 (rd x6_1 (ji10))))) else (none)) else (none))) else (none)) else (none))) else (none)) else (none)) else (none)) = some r := by first | (rw [hji10] at H; exact H) | (simp only [hji10] at H ⊢; exact H)
   have hji10w : (IntKind.i64.wrap ((x6_1.length : Int) - 1)) = ji10 := (i64_w _).trans hji10
   by_cases c11 : 0 <= (ji10)
   rotate_left
   · rw [if_neg c11] at H
     exact absurd H (by simp)
   rw [if_pos c11] at H
   have c11b0 : decide (0 <= (ji10)) = true := decide_eq_true c11
   clear c11
   by_cases c12 : (ji10) < (x6_1.length : Int)
   rotate_left
   · rw [if_neg c12] at H
     exact absurd H (by simp)
   rw [if_pos c12] at H
   have c12b0 : decide ((ji10) < (x6_1.length : Int)) = true := decide_eq_true c12
   clear c12
   by_cases c13 : (ji10) <= (x6_1.length : Int)
   rotate_left
   · rw [if_neg c13] at H
     exact absurd H (by simp)
   rw [if_pos c13] at H
   have c13b0 := eq_true c13
   have c13b1 : decide ((ji10) <= (x6_1.length : Int)) = true := decide_eq_true c13
   clear c13
   obtain ⟨y235, hy235⟩ : ∃ y_ : List Int, y_ = (x6_1.take ((ji10) : Int).toNat) := ⟨_, rfl⟩
   replace H : (if 0 <= (rd x6_1 (ji10)) then (if (rd x6_1 (ji10)) < (x5_1.length : Int) then (if (rdOf false x5_1 (rd x6_1 (ji10)) = true) then (g_reached.l0 k1 l0 x5_1 y235) else (if (rd x6_1 (ji10)) < (l0.length : Int) then (if y235.length + (rd_L11 l0 (rd x6_1 (ji10))).length < 17592186044416 then (g_reached.l0 k1 l0 (x5_1.set ((rd x6_1 (ji10)) : Int).toNat true) (y235 ++ (rd_L11 l0 (rd x6_1 (ji10))))) else (none)) else (none))) else (none)) else (none)) = some r := by first | (rw [hy235]; with_reducible exact H) | (have H2_ := (Option.bind_some _ _).symm.trans H; rw [hy235]; with_reducible exact H2_) | (have H2_ := (Option.bind_some _ _).symm.trans H; with_reducible exact H2_) | with_reducible exact H | (rw [hy235]; exact H) | exact H
   have Ny235 := aM hy235
   clear hy235
   by_cases c14 : 0 <= (rd x6_1 (ji10))
   rotate_left
   · rw [if_neg c14] at H
     exact absurd H (by simp)
   rw [if_pos c14] at H
   have c14b0 : decide (0 <= (rd x6_1 (ji10))) = true := decide_eq_true c14
   clear c14
   by_cases c15 : (rd x6_1 (ji10)) < (x5_1.length : Int)
   rotate_left
   · rw [if_neg c15] at H
     exact absurd H (by simp)
   rw [if_pos c15] at H
   have c15b0 : decide ((rd x6_1 (ji10)) < (x5_1.length : Int)) = true := decide_eq_true c15
   clear c15
   obtain ⟨bq16, hbq16⟩ : ∃ b_ : Bool, b_ = (rdOf false x5_1 (rd x6_1 (ji10))) := ⟨_, rfl⟩
   replace H : (if (bq16 = true) then (g_reached.l0 k1 l0 x5_1 y235) else (if (rd x6_1 (ji10)) < (l0.length : Int) then (if y235.length + (rd_L11 l0 (rd x6_1 (ji10))).length < 17592186044416 then (g_reached.l0 k1 l0 (x5_1.set ((rd x6_1 (ji10)) : Int).toNat true) (y235 ++ (rd_L11 l0 (rd x6_1 (ji10))))) else (none)) else (none))) = some r := by rw [<- hbq16] at H; exact H
   have Nbq16 := aM hbq16
   clear hbq16
   by_cases c17 : (bq16 = true)
   · subst c17
     rw [if_pos rfl] at H
     have H' := aM H
     clear H
     obtain ⟨Ao18, co18, eo18⟩ := R_slice HO_6.1
     subst eo18
     have p234 : 0 <= ((ji10) : Int) := dt
     have q234 : (ji10) < (x6_1.length : Int) := dt
     obtain ⟨ad234, e234, hx234_0⟩ := Kd.at_int (R_reads' HO_6.1).2.2 (ji10) p234 q234
     cases e234
     replace p234 := eq_true p234
     replace q234 := eq_true q234
     have q19 : ((ji10) : Int) <= ((x6_1.length : Int) : Int) := dt
     obtain ⟨i019, hi019, _, hsz19, _⟩ := info_parts info3
     have hcut19 := cut_to (P := Try.prog) 55 3 .i64 Try.underlying55 hi019 (some ad234) x6_1.length co18 (ji10) (dt) q19 (R_reads' HO_6.1).2.1
     have hr19 := R_take (m := ((ji10) : Int).toNat) HO_6.1 (by omega)
     have hy19 : y235.length = ((ji10) : Int).toNat := (by rw [Ny235.1, List.length_take]; omega)
     rw [<- Ny235.1] at hr19
     rw [<- hy19] at hr19 hcut19
     clear hy19 hi019 hsz19 HO_6
     have HO237 := aM hr19
     clear hr19
     replace q19 := eq_true q19
     obtain ⟨Ao20, co20, eo20⟩ := R_slice HO_5.1
     subst eo20
     have p238 : 0 <= ((rd x6_1 (ji10)) : Int) := dt
     have q238 : (rd x6_1 (ji10)) < (x5_1.length : Int) := dt
     obtain ⟨ad238, e238, hx238_0⟩ := Kd.at_bool (R_reads' HO_5.1).2.2 (rd x6_1 (ji10)) p238 q238
     (try rw [<- Nbq16.1] at hx238_0)
     cases e238
     replace p238 := eq_true p238
     replace q238 := eq_true q238
     go_wp2
     go_roundg k1
     case measure => have := HK1.1; omega
     case rel => exact ⟨(x5_1), (y235), H', ⟨by have := HK1.1; omega⟩, ⟨rk HO_5⟩, ⟨rk HO237⟩, ⟨hh HB⟩⟩
   replace c17 := Bool.eq_false_iff.mpr c17
   subst c17
   rw [if_neg (show ¬ (false = true) by decide)] at H
   obtain ⟨y239, hy239⟩ : ∃ y_ : List Bool, y_ = (x5_1.set ((rd x6_1 (ji10)) : Int).toNat true) := ⟨_, rfl⟩
   replace H : (if (rd x6_1 (ji10)) < (l0.length : Int) then (if y235.length + (rd_L11 l0 (rd x6_1 (ji10))).length < 17592186044416 then (g_reached.l0 k1 l0 y239 (y235 ++ (rd_L11 l0 (rd x6_1 (ji10))))) else (none)) else (none)) = some r := by first | (rw [hy239]; with_reducible exact H) | (have H2_ := (Option.bind_some _ _).symm.trans H; rw [hy239]; with_reducible exact H2_) | (have H2_ := (Option.bind_some _ _).symm.trans H; with_reducible exact H2_) | with_reducible exact H | (rw [hy239]; exact H) | exact H
   have Ny239 := aM hy239
   clear hy239
   by_cases c22 : (rd x6_1 (ji10)) < (l0.length : Int)
   rotate_left
   · rw [if_neg c22] at H
     exact absurd H (by simp)
   rw [if_pos c22] at H
   have c22b0 : decide ((rd x6_1 (ji10)) < (l0.length : Int)) = true := decide_eq_true c22
   clear c22
   by_cases c23 : y235.length + (rd_L11 l0 (rd x6_1 (ji10))).length < 17592186044416
   rotate_left
   · rw [if_neg c23] at H
     exact absurd H (by simp)
   rw [if_pos c23] at H
   have LMc23 := aM c23
   clear c23
   obtain ⟨y241, hy241⟩ : ∃ y_ : List Int, y_ = (y235 ++ (rd_L11 l0 (rd x6_1 (ji10)))) := ⟨_, rfl⟩
   replace H : (g_reached.l0 k1 l0 y239 y241) = some r := by first | (rw [hy241]; with_reducible exact H) | (have H2_ := (Option.bind_some _ _).symm.trans H; rw [hy241]; with_reducible exact H2_) | (have H2_ := (Option.bind_some _ _).symm.trans H; with_reducible exact H2_) | with_reducible exact H | (rw [hy241]; exact H) | exact H
   have Ny241 := aM hy241
   clear hy241
   have H' := aM H
   clear H
   obtain ⟨Ao24, co24, eo24⟩ := R_slice HO_6.1
   subst eo24
   have p234 : 0 <= ((ji10) : Int) := dt
   have q234 : (ji10) < (x6_1.length : Int) := dt
   obtain ⟨ad234, e234, hx234_0⟩ := Kd.at_int (R_reads' HO_6.1).2.2 (ji10) p234 q234
   cases e234
   replace p234 := eq_true p234
   replace q234 := eq_true q234
   have q25 : ((ji10) : Int) <= ((x6_1.length : Int) : Int) := dt
   obtain ⟨i025, hi025, _, hsz25, _⟩ := info_parts info3
   have hcut25 := cut_to (P := Try.prog) 55 3 .i64 Try.underlying55 hi025 (some ad234) x6_1.length co24 (ji10) (dt) q25 (R_reads' HO_6.1).2.1
   have hr25 := R_take (m := ((ji10) : Int).toNat) HO_6.1 (by omega)
   have hy25 : y235.length = ((ji10) : Int).toNat := (by rw [Ny235.1, List.length_take]; omega)
   rw [<- Ny235.1] at hr25
   rw [<- hy25] at hr25 hcut25
   clear hy25 hi025 hsz25 HO_6
   have HO237 := aM hr25
   clear hr25
   replace q25 := eq_true q25
   obtain ⟨Ao26, co26, eo26⟩ := R_slice HO_5.1
   subst eo26
   have p238 : 0 <= ((rd x6_1 (ji10)) : Int) := dt
   have q238 : (rd x6_1 (ji10)) < (x5_1.length : Int) := dt
   obtain ⟨ad238, e238, hx238_0⟩ := Kd.at_bool (R_reads' HO_5.1).2.2 (rd x6_1 (ji10)) p238 q238
   (try rw [<- Nbq16.1] at hx238_0)
   cases e238
   replace p238 := eq_true p238
   replace q238 := eq_true q238
   have p21 : 0 <= ((rd x6_1 (ji10)) : Int) := dt
   have q21 : ((rd x6_1 (ji10)) : Int) < ((x5_1.length : Int) : Int) := dt
   obtain ⟨go21, co21, eo21, gb21, gl21, cl21, HG21⟩ := R_form HO_5.1 (by omega)
   (first | cases eo21 | (injection eo21 with ea_ en_ ec_; (first | subst ea_ | (injection ea_ with ea_; subst ea_)); subst ec_; clear en_))
   have GB21 := aM gb21
   have GG21 := aM HG21
   clear gb21 gl21 HG21
   (first | simp only [add_plain] at hx238_0 | skip)
   obtain ⟨hx21_0, hf21_0⟩ := R_celln false HO_5.1 ((rd x6_1 (ji10)) : Int) p21 q21
   replace p21 := eq_true p21
   replace q21 := eq_true q21
   have HP27 := R_putg HO_5.1 ((rd x6_1 (ji10)) : Int) true
   go_wp2_with (first | ((with_reducible refine gate_store (t := 4) (p := 34) rfl ?_); refine store_event (t := 4) (p := 34) (v := ?vo_w28) (w1 := (wr.setCell ⟨go21, ((rd x6_1 (ji10)) : Int).toNat, none⟩ (.bool true))) ?hg ?ho ?hn ?hr ?_; (case ho => rfl); (case hg => rfl); (case hn => rfl); (case hr => first | (go_simp; done) | (go_simp; rfl)); intro w28 hw; have hg : wr.grownBy w28 (some go21) := (by rw [hw]; exact HP27.2); have hp_ : Kd.R Kd.bool 4 w28 w.heap.size (fun _ => True) (.slice (some ⟨go21, 0, none⟩) x5_1.length co26) y239 := (by rw [hw, Ny239.1]; exact HP27.1); clear HP27; replace HO237 := aM (R_over' (v := (.slice (some ⟨go21, 0, none⟩) x5_1.length co26)) (rk HO237) (R_typed HO_5.1) (by decide) hg); replace HO_5 := aM (hp_); replace HB := aM ((by rw [hw]; exact below_set (HB.1) GB21.1 : Below w.heap.size w w28)); clear hg hw hp_; have p240 : 0 <= ((rd x6_1 (ji10)) : Int) := dt; have q240 : (rd x6_1 (ji10)) < (l0.length : Int) := dt; obtain ⟨ad240, A240_0, c240_0, e240, hx240_0, hl240_0, hi240_0⟩ := at_L11 HR0.1 (rd x6_1 (ji10)) p240 q240; cases e240; replace hx240_0 := hx HB hx240_0; have HR240_0 := aM hi240_0; have HC240_0 := aM hl240_0; clear hi240_0 hl240_0; replace p240 := eq_true p240; replace q240 := eq_true q240) | ((with_reducible refine gate_builtin (b := .append) (xs := #[.tmp 35, .tmp 39]) rfl ?_); at_builtin; refine R_append_rows (Kd.int .i64) (w0 := w) w.heap.size rfl (.tmp 35) (.tmp 39) 55 3 (.int .i64 0) 8 rfl Try.underlying55 info3 rfl (by decide) (by omega) (.slice (some ad234) y235.length co24) y235 (rd_L11 l0 (rd x6_1 (ji10))) _ _ _ (fun _ => True) (fun _ => False) rfl rfl ?aO ?aR (fun _ _ h => h) (fun _ h => h.elim) ?aF ?aB ?aS ?aL ?_; (case aR => exact cb HR240_0 HB); (case aB => exact (hh HB)); (case aF => exact (fun _ _ => trivial)); (case aO => exact (rk HO237)); (case aS => exact (below_size (hh HB))); (case aL => have := LMc23.1; omega); intro v242 w29 ho hb hg hat; rw [<- Ny241.1] at ho; have HO243 := aM (ho); replace HO_5 := aM (R_over' (rk HO_5) (R_typed (rk HO237)) (by decide) hg); replace HB := aM (hb); clear HO237; clear ho hb hg hat))
   go_roundg k1
   case measure => have := HK1.1; omega
   case rel => exact ⟨(y239), (y241), H', ⟨by have := HK1.1; omega⟩, ⟨rk HO_5⟩, ⟨rk HO243⟩, ⟨hh HB⟩⟩
end Go.Proofs.Ytmadhaccjmakdaa.P
