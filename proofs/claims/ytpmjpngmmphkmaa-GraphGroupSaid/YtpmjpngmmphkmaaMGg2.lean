/- Part 2 of 5 of one proof: Words for the last loop of ordered: a row cut from the front; the list that is handed back is kept -/
import Derived.ChangeAlike
import Derived.Ground.Names2Prog
import Derived.Laws.EntriesVeiled
import Derived.Maps.OwnOps
import Derived.Maps.OwnSet
import Derived.Maps.Views
import Derived.Orders
import Derived.RegionTactic
import Derived.Shelf.Slices.Clone
import Derived.Shelf.Spec.SlicesInsert
import Derived.Shelf.Spec.SlicesInsertGrow
import Derived.Tactics
import Derived.Test.YtpmjpngmmphkmaaProg
import Derived.Test.YtpmjpngmmphkmaaMGg1
set_option linter.unusedVariables false
set_option linter.unusedSimpArgs false
set_option maxHeartbeats 8000000
set_option maxRecDepth 100000
namespace Go.Proofs.Ytpmjpngmmphkmaa.P
open Go.RowKit Go.Proofs.Yw.A Go.Proofs.Yw.A.Kd Go.Proofs.Yw.B Go.Proofs.Yw.C
attribute [local go_sem] max2_int min2_int max_two min_two max_three min_three max_four min_four
noncomputable def lazycref09_Reach.j0 : Nat -> Int -> Bool -> List (List Int) -> Option (List Int)
 | 0, _, _, _ => none
 | k + 1, x1, x18, x187000 => if x18 = true then (some ([] : List Int)) else ((lazycref09_from.f k x187000 (([x1] : List Int))).bind fun t191 => ((lazycref09_marked.f k t191).bind fun t194 => (some t194)))
noncomputable def lazycref09_Reach.f (k : Nat) (l0_0 : List (List Int)) (a1 : Int) : Option (List Int) := (lazycref09_Valid.f k l0_0).bind fun t187 => (if t187 = true then (if a1 < 0 then (lazycref09_Reach.j0 k a1 true l0_0) else (lazycref09_Reach.j0 k a1 (decide (a1 >= (l0_0.length : Int))) l0_0)) else (lazycref09_Reach.j0 k a1 true l0_0))
theorem lazycref09_Reach.calls (k : Nat) (A0_0 : Option Addr) (c0_0 : Nat) (l0_0 : List (List Int)) (a1 : Int) (r : List Int) (w : World) (hr0_0 : Kd.C (Kd.slice 3 (Kd.int .i64)) w A0_0 l0_0.length l0_0) (hc0_0 : l0_0.length <= c0_0) (h : lazycref09_Reach.f k l0_0 a1 = some r) :
 Calls Try.prog 19 #[.agg #[.slice A0_0 l0_0.length c0_0], .int .i64 a1] w fun e w' => ∃ v0_ : Value, e = .returned (v0_) /\ Kd.R (Kd.int .i64) 3 w' w.heap.size (fun _ => True) v0_ r /\ Below w.heap.size w w' := by
 have hu24 := Try.underlying24
 have HR0_0 := aM hr0_0
 have HC0_0 := aM hc0_0
 clear hr0_0 hc0_0
 have HB := aM (Below.refl w.heap.size w)
 have H : ((lazycref09_Valid.f k l0_0).bind fun t187 => (if t187 = true then (if a1 < 0 then (lazycref09_Reach.j0 k a1 true l0_0) else (lazycref09_Reach.j0 k a1 (decide (a1 >= (l0_0.length : Int))) l0_0)) else (lazycref09_Reach.j0 k a1 true l0_0))) = some r := h
 clear h
 have HC3 := aM H
 clear H
 go_enter Try.func19, Try.ntmps19
 go_upto_region 1 with (first | ((with_reducible refine gate_dst (N := 2) rfl ?_); (try (refine gate_guard (by rfl) ?_; dsimp only)); refine box_event ?hg (N := 2) ?hd (cs := #[.slice A0_0 l0_0.length c0_0]) (t := 24) ?hr ?_; (case hd => rfl); (case hg => rfl); (case hr => first | (go_simp; done) | (go_simp; rfl)); intro gb186 hg w4 hbox hb; have n0_ := aM (below_step (by repeat (first | (with_reducible first | exact HB.1 | apply bA | apply bN | apply bD) | exact HB.1)) hb); have n1_ := aM (hbox); have n2_ := aM ((by rw [hg]; exact (below_size (by repeat (first | (with_reducible first | exact HB.1 | apply bA | apply bN | apply bD) | exact HB.1))) : w.heap.size <= gb186)); have n3_ := aM ((by rw [hg]; exact (below_size (by repeat (first | (with_reducible first | exact HB.1 | apply bA | apply bN | apply bD) | exact HB.1))) : w.heap.size <= gb186)); clear HB; have HB := n0_; have BK186 := n1_; have GW186 := n2_; have GE186 := n3_; clear n0_ n1_ n2_ n3_; clear hb hbox hg))
 (try simp only [Act.put, List.setIfInBounds_toArray, List.set_cons_zero, List.set_cons_succ])
 go_cut [18] (fun v18 wc => ∃ (kq : Nat) (x18_2 : Bool), v18 = .bool x18_2 /\ Az (lazycref09_Reach.j0 kq a1 x18_2 l0_0 = some r) /\ Az (kq <= k) /\ Az (wc.heap[gb186]? = some (.cells #[(.slice A0_0 l0_0.length c0_0)] 24 (0, 0))) /\ Az (Below w.heap.size w wc))
 case first =>
  have H := HC3.1
  clear HC3
  replace H := Option.bind_eq_some_iff.mp H
  obtain ⟨t187, A50, H⟩ := H
  replace H : (if t187 = true then (if a1 < 0 then (lazycref09_Reach.j0 k a1 true l0_0) else (lazycref09_Reach.j0 k a1 (decide (a1 >= (l0_0.length : Int))) l0_0)) else (lazycref09_Reach.j0 k a1 true l0_0)) = some r := H
  have A5 := aM A50
  clear A50
  by_cases c6 : t187 = true
  rotate_left
  · replace c6 := Bool.eq_false_iff.mpr c6
    subst c6
    have H1 : (lazycref09_Reach.j0 k a1 true l0_0) = some r := by rw [if_neg (show ¬ (false = true) by decide)] at H; exact H
    clear H
    have H := H1
    clear H1
    have H' := aM H
    clear H
    have hcz13_0 : w4.cell? ⟨gb186, 0, none⟩ = some (.slice A0_0 l0_0.length c0_0) := (blk_cell BK186.1 0).trans rfl
    have hfz13_0 := blk_frozen BK186.1 0
    go_wp2_with (first | ((with_reducible refine gate_callee (f := 16) rfl ?_); refine goesL_ (some 6) rfl rfl Try.func16 (by kernel_rfl) rfl #[.agg #[.slice A0_0 l0_0.length c0_0]] rfl (by (try simp only [List.map_toArray, List.map_cons, List.map_nil]); first | done | rfl | (simp only [List.length_drop, List.length_take]; rfl)) ?_; (with_reducible refine (lazycref09_Valid.calls k _ _ l0_0 false _ ?side1 ?side2 A5.1).mono ?_); (case side1 => repeat (first | exact (C_below HR0_0.1 HB.1) | (with_reducible refine C_alloc ?_ _) | (with_reducible refine C_drewN ?_ _) | (with_reducible refine C_drew ?_))); (case side2 => exact HC0_0.1); rintro e w14 ⟨rfl, hb⟩; refine ⟨_, rfl, ?_⟩; have n0_ := aM (blk_below (g := gb186) (o := .cells #[.slice A0_0 l0_0.length c0_0] 24 (0, 0)) (by (with_reducible repeat (first | refine kN ?_ _ | refine kD ?_ | refine kA ?_ _)); exact BK186.1) hb); have n1_ := aM (below_step (by repeat (first | (with_reducible first | exact HB.1 | apply bA | apply bN | apply bD | refine below_set ?_ GE186.1) | exact HB.1)) hb); clear BK186; clear HB; have BK186 := n0_; have HB := n1_; clear n0_ n1_; (try clear hb); (try clear hb2); (try clear hk); (try clear hi)))
    go_meet
    case rel => exact ⟨_, (true), (by first | rfl | (simp; done) | (simp [*]; done)), H', ⟨by first | omega | exact Nat.le_refl _⟩, ⟨by (with_reducible repeat (first | refine kN ?_ _ | refine kD ?_ | refine kA ?_ _)); exact BK186.1⟩, ⟨by repeat (first | (with_reducible first | exact HB.1 | apply bA | apply bN | apply bD | refine below_set ?_ GE186.1) | exact HB.1)⟩⟩
  subst c6
  have H1 : (if a1 < 0 then (lazycref09_Reach.j0 k a1 true l0_0) else (lazycref09_Reach.j0 k a1 (decide (a1 >= (l0_0.length : Int))) l0_0)) = some r := by rw [if_pos rfl] at H; exact H
  clear H
  have H := H1
  clear H1
  by_cases c7 : a1 < 0
  · rw [if_pos c7] at H
    have c7b0 : decide (a1 < 0) = true := decide_eq_true c7
    clear c7
    (first | rw [c7b0] | (simp only [i64_w, i32_w]; rw [c7b0]) | skip)
    have H' := aM H
    clear H
    have hcz8_0 : w4.cell? ⟨gb186, 0, none⟩ = some (.slice A0_0 l0_0.length c0_0) := (blk_cell BK186.1 0).trans rfl
    have hfz8_0 := blk_frozen BK186.1 0
    go_wp2_with (first | ((with_reducible refine gate_callee (f := 16) rfl ?_); refine goesL_ (some 6) rfl rfl Try.func16 (by kernel_rfl) rfl #[.agg #[.slice A0_0 l0_0.length c0_0]] rfl (by (try simp only [List.map_toArray, List.map_cons, List.map_nil]); first | done | rfl | (simp only [List.length_drop, List.length_take]; rfl)) ?_; (with_reducible refine (lazycref09_Valid.calls k _ _ l0_0 true _ ?side1 ?side2 A5.1).mono ?_); (case side1 => repeat (first | exact (C_below HR0_0.1 HB.1) | (with_reducible refine C_alloc ?_ _) | (with_reducible refine C_drewN ?_ _) | (with_reducible refine C_drew ?_))); (case side2 => exact HC0_0.1); rintro e w9 ⟨rfl, hb⟩; refine ⟨_, rfl, ?_⟩; have n0_ := aM (blk_below (g := gb186) (o := .cells #[.slice A0_0 l0_0.length c0_0] 24 (0, 0)) (by (with_reducible repeat (first | refine kN ?_ _ | refine kD ?_ | refine kA ?_ _)); exact BK186.1) hb); have n1_ := aM (below_step (by repeat (first | (with_reducible first | exact HB.1 | apply bA | apply bN | apply bD | refine below_set ?_ GE186.1) | exact HB.1)) hb); clear BK186; clear HB; have BK186 := n0_; have HB := n1_; clear n0_ n1_; (try clear hb); (try clear hb2); (try clear hk); (try clear hi)))
    go_meet
    case rel => exact ⟨_, (true), (by first | rfl | (simp; done) | (simp [*]; done)), H', ⟨by first | omega | exact Nat.le_refl _⟩, ⟨by (with_reducible repeat (first | refine kN ?_ _ | refine kD ?_ | refine kA ?_ _)); exact BK186.1⟩, ⟨by repeat (first | (with_reducible first | exact HB.1 | apply bA | apply bN | apply bD | refine below_set ?_ GE186.1) | exact HB.1)⟩⟩
  rw [if_neg c7] at H
  have c7b0 : decide (a1 < 0) = false := decide_eq_false c7
  clear c7
  (first | rw [c7b0] | (simp only [i64_w, i32_w]; rw [c7b0]) | skip)
  have H' := aM H
  clear H
  have hcz10_0 : w4.cell? ⟨gb186, 0, none⟩ = some (.slice A0_0 l0_0.length c0_0) := (blk_cell BK186.1 0).trans rfl
  have hfz10_0 := blk_frozen BK186.1 0
  go_wp2_with (first | ((with_reducible refine gate_callee (f := 16) rfl ?_); refine goesL_ (some 6) rfl rfl Try.func16 (by kernel_rfl) rfl #[.agg #[.slice A0_0 l0_0.length c0_0]] rfl (by (try simp only [List.map_toArray, List.map_cons, List.map_nil]); first | done | rfl | (simp only [List.length_drop, List.length_take]; rfl)) ?_; (with_reducible refine (lazycref09_Valid.calls k _ _ l0_0 true _ ?side1 ?side2 A5.1).mono ?_); (case side1 => repeat (first | exact (C_below HR0_0.1 HB.1) | (with_reducible refine C_alloc ?_ _) | (with_reducible refine C_drewN ?_ _) | (with_reducible refine C_drew ?_))); (case side2 => exact HC0_0.1); rintro e w11 ⟨rfl, hb⟩; refine ⟨_, rfl, ?_⟩; have n0_ := aM (blk_below (g := gb186) (o := .cells #[.slice A0_0 l0_0.length c0_0] 24 (0, 0)) (by (with_reducible repeat (first | refine kN ?_ _ | refine kD ?_ | refine kA ?_ _)); exact BK186.1) hb); have n1_ := aM (below_step (by repeat (first | (with_reducible first | exact HB.1 | apply bA | apply bN | apply bD | refine below_set ?_ GE186.1) | exact HB.1)) hb); clear BK186; clear HB; have BK186 := n0_; have HB := n1_; clear n0_ n1_; (try clear hb); (try clear hb2); (try clear hk); (try clear hi); have hcz12_0 : w11.cell? ⟨gb186, 0, none⟩ = some (.slice A0_0 l0_0.length c0_0) := (blk_cell BK186.1 0).trans rfl; have hfz12_0 := blk_frozen BK186.1 0))
  go_meet
  case rel => exact ⟨_, (decide (a1 >= (l0_0.length : Int))), (by first | rfl | (simp; done) | (simp [*]; done)), H', ⟨by first | omega | exact Nat.le_refl _⟩, ⟨by (with_reducible repeat (first | refine kN ?_ _ | refine kD ?_ | refine kA ?_ _)); exact BK186.1⟩, ⟨by repeat (first | (with_reducible first | exact HB.1 | apply bA | apply bN | apply bD | refine below_set ?_ GE186.1) | exact HB.1)⟩⟩
 case rest =>
  clear HC3
  try clear c1
  try clear p2
  try clear c6
  try clear c7
  try clear c7b0
  try clear hcz10_0
  try clear hcz12_0
  try clear hcz13_0
  try clear hcz8_0
  try clear hfz10_0
  try clear hfz12_0
  try clear hfz13_0
  try clear hfz8_0
  obtain ⟨kq, x18_2, rfl, HA, HJ2, BK186, HB⟩ := hcut
  cases kq with
  | zero => exact absurd HA.1 (by simp [lazycref09_Reach.j0])
  | succ kj2 =>
   have H := HA.1
   clear HA
   simp only [lazycref09_Reach.j0] at H
   by_cases c15 : x18_2 = true
   · subst c15
     have H1 : (some ([] : List Int)) = some r := by rw [if_pos rfl] at H; exact H
     clear H
     have H := H1
     clear H1
     obtain rfl := Option.some.inj H
     go_wp2
     go_ret
     exact ⟨_, by first | rfl | (simp [errW_none, errW_some] <;> rfl) | (simp [*, errW_none, errW_some] <;> rfl), by first | exact R_nil _ _ _ _ _ | exact N_nil _ _ _ _ _ | exact V_nil _ _ _ _ _ | exact Q_nil _ _ _ _ _ | exact S_nil _ _ _ _ _, by repeat (first | (with_reducible first | exact HB.1 | apply bA | apply bN | apply bD | refine below_set ?_ GE186.1) | exact HB.1)⟩
   replace c15 := Bool.eq_false_iff.mpr c15
   subst c15
   have H1 : ((lazycref09_from.f kj2 l0_0 (([a1] : List Int))).bind fun t191 => ((lazycref09_marked.f kj2 t191).bind fun t194 => (some t194))) = some r := by rw [if_neg (show ¬ (false = true) by decide)] at H; exact H
   clear H
   have H := H1
   clear H1
   obtain ⟨y188, hy188⟩ : ∃ y_ : List Int, y_ = (([a1] : List Int)) := ⟨_, rfl⟩
   replace H : ((lazycref09_from.f kj2 l0_0 y188).bind fun t191 => ((lazycref09_marked.f kj2 t191).bind fun t194 => (some t194))) = some r := by first | (rw [hy188]; with_reducible exact H) | (have H2_ := (Option.bind_some _ _).symm.trans H; rw [hy188]; with_reducible exact H2_) | (have H2_ := (Option.bind_some _ _).symm.trans H; with_reducible exact H2_) | with_reducible exact H | (rw [hy188]; exact H) | exact H
   have Ny188 := aM hy188
   clear hy188
   replace H := Option.bind_eq_some_iff.mp H
   obtain ⟨t191, A160, H⟩ := H
   replace H : ((lazycref09_marked.f kj2 t191).bind fun t194 => (some t194)) = some r := H
   have A16 := aM A160
   clear A160
   replace H := Option.bind_eq_some_iff.mp H
   obtain ⟨t194, A170, H⟩ := H
   replace H : (some t194) = some r := H
   have A17 := aM A170
   clear A170
   obtain rfl := Option.some.inj H
   have hcz18_0 : wc.cell? ⟨gb186, 0, none⟩ = some (.slice A0_0 l0_0.length c0_0) := (blk_cell BK186.1 0).trans rfl
   have hfz18_0 := blk_frozen BK186.1 0
   go_wp2_with (first | ((with_reducible refine gate_dst (N := 21) rfl ?_); (try (refine gate_guard (by rfl) ?_; dsimp only)); refine R_lit (Kd.int .i64) _ 3 ?hg (N := 21) ?hd (xs := ([a1] : List Int)) (inner := [.int .i64 a1]) (ok := fun _ => True) (okp := fun _ => True) ?hr ?hp (fun _ hk => hk) trivial (Below.refl _ _) (Nat.le_refl _) (by simp) ?_; (case hd => rfl); (case hg => rfl); (case hr => first | (go_simp; done) | (go_simp; rfl)); (case hp => exact (Reps.one (show Kd.M (Kd.int .i64) _ _ _ a1 [.int .i64 a1] from rfl) (Reps.none _ _))); intro v189 w19 ho20 hb hg_ hnew_; clear hg_ hnew_; (first | rw [<- Ny188.1] at ho20 | (simp only [Int.reduceToNat] at ho20; rw [<- Ny188.1] at ho20)); have n0_ := aM (R_lower ho20 (below_size (by repeat (first | (with_reducible first | exact HB.1 | apply bA | apply bN | apply bD | refine below_set ?_ GE186.1) | exact HB.1)))); have n1_ := aM (blk_below (g := gb186) (o := .cells #[.slice A0_0 l0_0.length c0_0] 24 (0, 0)) (by (with_reducible repeat (first | refine kN ?_ _ | refine kD ?_ | refine kA ?_ _)); exact BK186.1) hb); have n2_ := aM (below_step (by repeat (first | (with_reducible first | exact HB.1 | apply bA | apply bN | apply bD | refine below_set ?_ GE186.1) | exact HB.1)) hb); clear BK186; clear HB; have HO190 := n0_; have BK186 := n1_; have HB := n2_; clear n0_ n1_ n2_; clear hb ho20; obtain ⟨Ao21, co21, eo21⟩ := R_slice HO190.1; subst eo21) | ((with_reducible refine gate_callee (f := 35) rfl ?_); refine goesL_ (some 22) rfl rfl Try.func35 (by kernel_rfl) rfl #[.agg #[.slice A0_0 l0_0.length c0_0], .slice Ao21 y188.length co21] rfl (by (try simp only [List.map_toArray, List.map_cons, List.map_nil]); first | done | rfl | (simp only [List.length_drop, List.length_take]; rfl)) ?_; (with_reducible refine (lazycref09_from.calls kj2 _ _ l0_0 _ _ y188 t191 _ ?side1 ?side2 ?side3 ?side4 A16.1).mono ?_); (case side1 => repeat (first | exact (C_below HR0_0.1 HB.1) | (with_reducible refine C_alloc ?_ _) | (with_reducible refine C_drewN ?_ _) | (with_reducible refine C_drew ?_))); (case side2 => exact HC0_0.1); (case side3 => repeat (first | exact (R_reads' HO190.1).2.2 | (with_reducible refine C_alloc ?_ _) | (with_reducible refine C_drewN ?_ _) | (with_reducible refine C_drew ?_))); (case side4 => exact (R_reads' HO190.1).2.1); rintro e w22 ⟨v192, rfl, ho0, hb⟩; refine ⟨_, rfl, ?_⟩; have n0_ := aM (R_below (by (with_reducible repeat (first | apply R_alloc | apply R_drewN | apply R_drew)); exact HO190.1) hb); have n1_ := aM (R_lower ho0 (below_size (by repeat (first | (with_reducible first | exact HB.1 | apply bA | apply bN | apply bD | refine below_set ?_ GE186.1) | exact HB.1)))); have n2_ := aM (blk_below (g := gb186) (o := .cells #[.slice A0_0 l0_0.length c0_0] 24 (0, 0)) (by (with_reducible repeat (first | refine kN ?_ _ | refine kD ?_ | refine kA ?_ _)); exact BK186.1) hb); have n3_ := aM (below_step (by repeat (first | (with_reducible first | exact HB.1 | apply bA | apply bN | apply bD | refine below_set ?_ GE186.1) | exact HB.1)) hb); clear HO190; clear BK186; clear HB; have HO190 := n0_; have HO193 := n1_; have BK186 := n2_; have HB := n3_; clear n0_ n1_ n2_ n3_; (try clear hb); (try clear hb2); (try clear hk); (try clear hi); (try clear ho0); obtain ⟨Ao23, co23, eo23⟩ := R_slice HO193.1; subst eo23) | ((with_reducible refine gate_callee (f := 34) rfl ?_); refine goesL_ (some 23) rfl rfl Try.func34 (by kernel_rfl) rfl #[.slice Ao23 t191.length co23] rfl (by (try simp only [List.map_toArray, List.map_cons, List.map_nil]); first | done | rfl | (simp only [List.length_drop, List.length_take]; rfl)) ?_; (with_reducible refine (lazycref09_marked.calls kj2 _ _ t191 t194 _ ?side1 ?side2 A17.1).mono ?_); (case side1 => repeat (first | exact (R_reads' HO193.1).2.2 | (with_reducible refine C_alloc ?_ _) | (with_reducible refine C_drewN ?_ _) | (with_reducible refine C_drew ?_))); (case side2 => exact (R_reads' HO193.1).2.1); rintro e w24 ⟨v195, rfl, ho0, hb⟩; refine ⟨_, rfl, ?_⟩; have n0_ := aM (R_elder' (by (with_reducible repeat (first | apply R_alloc | apply R_drewN | apply R_drew)); exact HO190.1) (R_base ho0) hb); have n1_ := aM (R_below (by (with_reducible repeat (first | apply R_alloc | apply R_drewN | apply R_drew)); exact HO193.1) hb); have n2_ := aM (R_lower (R_new' ho0 (R_lt (by (with_reducible repeat (first | apply R_alloc | apply R_drewN | apply R_drew)); exact HO190.1))) (below_size (by repeat (first | (with_reducible first | exact HB.1 | apply bA | apply bN | apply bD | refine below_set ?_ GE186.1) | exact HB.1)))); have n3_ := aM (blk_below (g := gb186) (o := .cells #[.slice A0_0 l0_0.length c0_0] 24 (0, 0)) (by (with_reducible repeat (first | refine kN ?_ _ | refine kD ?_ | refine kA ?_ _)); exact BK186.1) hb); have n4_ := aM (below_step (by repeat (first | (with_reducible first | exact HB.1 | apply bA | apply bN | apply bD | refine below_set ?_ GE186.1) | exact HB.1)) hb); clear HO190; clear HO193; clear BK186; clear HB; have HO190 := n0_; have HO193 := n1_; have HO196 := n2_; have BK186 := n3_; have HB := n4_; clear n0_ n1_ n2_ n3_ n4_; (try clear hb); (try clear hb2); (try clear hk); (try clear hi); (try clear ho0)))
   go_ret
   exact ⟨_, by first | rfl | (simp [errW_none, errW_some] <;> rfl) | (simp [*, errW_none, errW_some] <;> rfl), by (with_reducible repeat (first | apply R_alloc | apply R_drewN | apply R_drew)); exact R_mono HO196.1 (fun _ hk => trivial), by repeat (first | (with_reducible first | exact HB.1 | apply bA | apply bN | apply bD | refine below_set ?_ GE186.1) | exact HB.1)⟩
end Go.Proofs.Ytpmjpngmmphkmaa.P
namespace Go.Proofs.Ytpmjpngmmphkmaa.P
open Go.RowKit Go.Proofs.Yw.A Go.Proofs.Yw.B Go.Proofs.Yw.C
attribute [local go_sem] max2_int min2_int max_two min_two max_three min_three max_four min_four
noncomputable def lazycref09_has.l0 : Nat -> List Int -> Int -> Int -> Option (Bool)
 | 0, _, _, _ => none
 | k + 1, x0, x1, x5 => if x5 < (x0.length : Int) then (if 0 <= x5 then (if (rd x0 x5) = x1 then (some true) else (lazycref09_has.l0 k x0 x1 (wrap64 (x5 + 1)))) else (none)) else (some false)
noncomputable def lazycref09_has.f (k : Nat) (l0 : List Int) (a1 : Int) : Option (Bool) := lazycref09_has.l0 k l0 a1 0
theorem lazycref09_has.calls (k : Nat) (A0 : Option Addr) (c0 : Nat) (l0 : List Int) (a1 : Int) (r : Bool) (w : World) (hr0 : Kd.C (Kd.int .i64) w A0 l0.length l0) (hc0 : l0.length <= c0) (h : lazycref09_has.f k l0 a1 = some r) :
 Calls Try.prog 41 #[.slice A0 l0.length c0, .int .i64 a1] w fun e w' => e = .returned (.bool r) /\ Drawn0 w w' := by
 have HR0 := aM hr0
 have HC0 := aM hc0
 clear hr0 hc0
 have H : (lazycref09_has.l0 k l0 a1 0) = some r := h
 clear h
 have H' := aM H
 clear H
 go_enter Try.func41, Try.ntmps41
 go_wp2
 go_loopg [5] k (fun kq v5 w' => ∃ (x5_1 : Int), v5 = .int .i64 x5_1 /\ Az (lazycref09_has.l0 kq l0 a1 x5_1 = some r) /\ Az (kq <= k) /\ Drawn0 w w')
 case atStart => exact ⟨(0), (by first | rfl | (simp; done) | (simp [*]; done)), H', ⟨Nat.le_refl _⟩, by repeat (first | exact Drawn0.refl _ | apply Drawn0.step)⟩
 case round =>
  clear H'
  try clear p2
  obtain ⟨x5_1, rfl, HA, HK1, ⟨m1, rfl⟩⟩ := hrel
  cases gk with
  | zero => exact absurd HA.1 (by simp [lazycref09_has.l0])
  | succ k1 =>
   have H := HA.1
   clear HA
   simp only [lazycref09_has.l0] at H
   by_cases c3 : x5_1 < (l0.length : Int)
   rotate_left
   · rw [if_neg c3] at H
     have c3b0 : decide (x5_1 < (l0.length : Int)) = false := decide_eq_false c3
     clear c3
     obtain rfl := Option.some.inj H
     go_wp2
     go_ret
     exact ⟨by first | rfl | (simp; done) | (simp [*]; done), by repeat (first | exact Drawn0.refl _ | apply Drawn0.step)⟩
   rw [if_pos c3] at H
   have c3b0 : decide (x5_1 < (l0.length : Int)) = true := decide_eq_true c3
   clear c3
   by_cases c4 : 0 <= x5_1
   rotate_left
   · rw [if_neg c4] at H
     exact absurd H (by simp)
   rw [if_pos c4] at H
   have c4b0 : decide (0 <= x5_1) = true := decide_eq_true c4
   clear c4
   by_cases c5 : (rd l0 x5_1) = a1
   · rw [if_pos c5] at H
     have c5b0 : ((rd l0 x5_1) == a1) = true := beq_iff_eq.mpr c5
     have c5b1 : ((rd l0 x5_1) != a1) = false := bne_eq_false_iff_eq.mpr c5
     clear c5
     obtain rfl := Option.some.inj H
     have p217 : 0 <= (x5_1 : Int) := of_decide_eq_true (by first | (with_reducible assumption) | assumption)
     have q217 : x5_1 < (l0.length : Int) := of_decide_eq_true (by first | (with_reducible assumption) | assumption)
     obtain ⟨ad217, e217, hx217_0⟩ := Kd.at_int HR0.1 x5_1 p217 q217
     cases e217
     replace p217 := eq_true p217
     replace q217 := eq_true q217
     go_wp2
     go_ret
     exact ⟨by first | rfl | (simp; done) | (simp [*]; done), by repeat (first | exact Drawn0.refl _ | apply Drawn0.step)⟩
   rw [if_neg c5] at H
   have c5b0 : ((rd l0 x5_1) == a1) = false := beq_eq_false_iff_ne.mpr c5
   have c5b1 : ((rd l0 x5_1) != a1) = true := bne_iff_ne.mpr c5
   have H' := aM H
   clear H
   have p217 : 0 <= (x5_1 : Int) := of_decide_eq_true (by first | (with_reducible assumption) | assumption)
   have q217 : x5_1 < (l0.length : Int) := of_decide_eq_true (by first | (with_reducible assumption) | assumption)
   obtain ⟨ad217, e217, hx217_0⟩ := Kd.at_int HR0.1 x5_1 p217 q217
   cases e217
   replace p217 := eq_true p217
   replace q217 := eq_true q217
   go_wp2
   go_roundg k1
   case measure => have := HK1.1; omega
   case rel => exact ⟨(wrap64 (x5_1 + 1)), (by first | rfl | (simp; done) | (simp [*]; done)), H', ⟨by have := HK1.1; omega⟩, by repeat (first | exact Drawn0.refl _ | apply Drawn0.step)⟩
noncomputable def lazycref09_component.l0 : Nat -> Int -> List Int -> List Int -> Int -> List (List Int) -> Option (List Int)
 | 0, _, _, _, _, _ => none
 | k + 1, x1, x5, x6, x7, x219000 => if x7 < (x6.length : Int) then (if 0 <= x7 then ((lazycref09_Reach.f k x219000 (rd x6 x7)).bind fun t226 => ((lazycref09_has.f k t226 x1).bind fun t229 => (if t229 = true then (if x5.length < 17592186044416 then (lazycref09_component.l0 k x1 (x5 ++ [rd x6 x7]) x6 (wrap64 (x7 + 1)) x219000) else (none)) else (lazycref09_component.l0 k x1 x5 x6 (wrap64 (x7 + 1)) x219000)))) else (none)) else (some x5)
noncomputable def lazycref09_component.f (k : Nat) (l0_0 : List (List Int)) (a1 : Int) : Option (List Int) := (lazycref09_Reach.f k l0_0 a1).bind fun t222 => (lazycref09_component.l0 k a1 (([] : List Int)) t222 0 l0_0)
noncomputable def lazycref09_component.T6 : Bool × List (List Nat × List Nat) := (true, [([], []), ([], []), ([], []), ([1, 2], [1, 2]), ([3], [3]), ([0, 4], [0, 4]), ([], []), ([5, 6, 5], [5, 6])])
noncomputable def lazycref09_component.B6 : List Nat := [0, 0, 0, 6, 14, 31, 0, 127]
theorem lazycref09_component.tab6 : rtab .any (opsOf Try.f29 6) = lazycref09_component.T6 := by kernel_rfl
theorem lazycref09_component.bits6 : waitsOk lazycref09_component.T6.2 lazycref09_component.B6 = true := by kernel_rfl
theorem lazycref09_component.calls0 (k : Nat) (A0_0 : Option Addr) (c0_0 : Nat) (l0_0 : List (List Int)) (a1 : Int) (r : List Int) (w : World) (hr0_0 : Kd.C (Kd.slice 3 (Kd.int .i64)) w A0_0 l0_0.length l0_0) (hc0_0 : l0_0.length <= c0_0) (h : lazycref09_component.f k l0_0 a1 = some r) :
 Calls Try.prog 29 #[.agg #[.slice A0_0 l0_0.length c0_0], .int .i64 a1] w fun e w' => ∃ v0_ : Value, e = .returned (v0_) /\ Kd.R (Kd.int .i64) 3 w' w.heap.size (fun _ => True) v0_ r /\ Below w.heap.size w w' := by
 have hu24 := Try.underlying24
 have HR0_0 := aM hr0_0
 have HC0_0 := aM hc0_0
 clear hr0_0 hc0_0
 have HB := aM (Below.refl w.heap.size w)
 have H : ((lazycref09_Reach.f k l0_0 a1).bind fun t222 => (lazycref09_component.l0 k a1 (([] : List Int)) t222 0 l0_0)) = some r := h
 clear h
 obtain ⟨y219, hy219⟩ : ∃ y_ : List Int, y_ = (([] : List Int)) := ⟨_, rfl⟩
 replace H : ((lazycref09_Reach.f k l0_0 a1).bind fun t222 => (lazycref09_component.l0 k a1 y219 t222 0 l0_0)) = some r := by first | (rw [hy219]; with_reducible exact H) | (have H2_ := (Option.bind_some _ _).symm.trans H; rw [hy219]; with_reducible exact H2_) | (have H2_ := (Option.bind_some _ _).symm.trans H; with_reducible exact H2_) | with_reducible exact H | (rw [hy219]; exact H) | exact H
 have Ny219 := aM hy219
 clear hy219
 replace H := Option.bind_eq_some_iff.mp H
 obtain ⟨t222, A30, H⟩ := H
 replace H : (lazycref09_component.l0 k a1 y219 t222 0 l0_0) = some r := H
 have A3 := aM A30
 clear A30
 have H' := aM H
 clear H
 go_enter Try.func29, Try.ntmps29
 go_wp2_with (first | ((with_reducible refine gate_dst (N := 2) rfl ?_); refine box_event ?hg (N := 2) ?hd (cs := #[.slice A0_0 l0_0.length c0_0]) (t := 24) ?hr ?_; (case hd => rfl); (case hg => rfl); (case hr => first | (go_simp; done) | (go_simp; rfl)); intro gb218 hg w4 hbox hb; have n0_ := aM (below_step (by repeat (first | (with_reducible first | exact HB.1 | apply bA | apply bN | apply bD) | exact HB.1)) hb); have n1_ := aM (hbox); have n2_ := aM ((by rw [hg]; exact (below_size (by repeat (first | (with_reducible first | exact HB.1 | apply bA | apply bN | apply bD) | exact HB.1))) : w.heap.size <= gb218)); have n3_ := aM ((by rw [hg]; exact (below_size (by repeat (first | (with_reducible first | exact HB.1 | apply bA | apply bN | apply bD) | exact HB.1))) : w.heap.size <= gb218)); clear HB; have HB := n0_; have BK218 := n1_; have GW218 := n2_; have GE218 := n3_; clear n0_ n1_ n2_ n3_; clear hb hbox hg) | ((with_reducible refine gate_dst (N := 8) rfl ?_); refine Kd.R_lit (Kd.int .i64) _ 3 ?hg (N := 8) ?hd (xs := ([] : List Int)) (inner := []) (ok := fun _ => True) (okp := fun _ => True) ?hr ?hp (fun _ hk => hk) trivial (Below.refl _ _) (Nat.le_refl _) (by simp) ?_; (case hd => rfl); (case hg => rfl); (case hr => first | (go_simp; done) | (go_simp; rfl)); (case hp => exact (Reps.none _ _)); intro v220 w5 ho6 hb hg_ hnew_; clear hg_ hnew_; (first | rw [<- Ny219.1] at ho6 | (simp only [Int.reduceToNat] at ho6; rw [<- Ny219.1] at ho6)); have n0_ := aM (Kd.R_lower ho6 (below_size (by repeat (first | (with_reducible first | exact HB.1 | apply bA | apply bN | apply bD | refine below_set ?_ GE218.1) | exact HB.1)))); have n1_ := aM (blk_below (g := gb218) (o := .cells #[.slice A0_0 l0_0.length c0_0] 24 (0, 0)) (by (with_reducible repeat (first | refine kN ?_ _ | refine kD ?_ | refine kA ?_ _)); exact BK218.1) hb); have n2_ := aM (below_step (by repeat (first | (with_reducible first | exact HB.1 | apply bA | apply bN | apply bD | refine below_set ?_ GE218.1) | exact HB.1)) hb); clear BK218; clear HB; have HO221 := n0_; have BK218 := n1_; have HB := n2_; clear n0_ n1_ n2_; clear hb ho6; have hcz7_0 : w5.cell? ⟨gb218, 0, none⟩ = some (.slice A0_0 l0_0.length c0_0) := (blk_cell BK218.1 0).trans rfl; have hfz7_0 := blk_frozen BK218.1 0) | ((with_reducible refine gate_callee (f := 19) rfl ?_); refine goesL_ (some 11) rfl rfl Try.func19 (by kernel_rfl) rfl #[.agg #[.slice A0_0 l0_0.length c0_0], .int .i64 a1] rfl (by (try simp only [List.map_toArray, List.map_cons, List.map_nil]); first | done | rfl | (simp only [List.length_drop, List.length_take]; rfl)) ?_; (with_reducible refine (lazycref09_Reach.calls k _ _ l0_0 a1 t222 _ ?side1 ?side2 A3.1).mono ?_); (case side1 => repeat (first | exact (Kd.C_below HR0_0.1 HB.1) | (with_reducible refine Kd.C_alloc ?_ _) | (with_reducible refine Kd.C_drewN ?_ _) | (with_reducible refine Kd.C_drew ?_))); (case side2 => exact HC0_0.1); rintro e w8 ⟨v223, rfl, ho0, hb⟩; refine ⟨_, rfl, ?_⟩; have n0_ := aM (Kd.R_elder' (by (with_reducible repeat (first | apply Kd.R_alloc | apply Kd.R_drewN | apply Kd.R_drew)); exact HO221.1) (Kd.R_base ho0) hb); have n1_ := aM (Kd.R_lower (Kd.R_new' ho0 (Kd.R_lt (by (with_reducible repeat (first | apply Kd.R_alloc | apply Kd.R_drewN | apply Kd.R_drew)); exact HO221.1))) (below_size (by repeat (first | (with_reducible first | exact HB.1 | apply bA | apply bN | apply bD | refine below_set ?_ GE218.1) | exact HB.1)))); have n2_ := aM (blk_below (g := gb218) (o := .cells #[.slice A0_0 l0_0.length c0_0] 24 (0, 0)) (by (with_reducible repeat (first | refine kN ?_ _ | refine kD ?_ | refine kA ?_ _)); exact BK218.1) hb); have n3_ := aM (below_step (by repeat (first | (with_reducible first | exact HB.1 | apply bA | apply bN | apply bD | refine below_set ?_ GE218.1) | exact HB.1)) hb); clear HO221; clear BK218; clear HB; have HO221 := n0_; have HO224 := n1_; have BK218 := n2_; have HB := n3_; clear n0_ n1_ n2_ n3_; (try clear hb); (try clear hb2); (try clear hk); (try clear hi); (try clear ho0)))
 go_loopg [5, 7] k (fun kq v5 v7 w' => ∃ (x5_1 : List Int) (x7_1 : Int), v7 = .int .i64 x7_1 /\ Az (lazycref09_component.l0 kq a1 x5_1 t222 x7_1 l0_0 = some r) /\ Az (kq <= k) /\ Az (Kd.R (Kd.int .i64) 3 w' w.heap.size (fun k_ => some k_ ≠ (v223 : Value).ownBlock) v5 x5_1) /\ Az (Kd.R (Kd.int .i64) 3 w' w.heap.size (fun k_ => some k_ ≠ (v5 : Value).ownBlock) v223 t222) /\ Az (w'.heap[gb218]? = some (.cells #[(.slice A0_0 l0_0.length c0_0)] 24 (0, 0))) /\ Az (Below w.heap.size w w'))
 case atStart => exact ⟨(y219), (0), (by first | rfl | (simp; done) | (simp [*]; done)), H', ⟨Nat.le_refl _⟩, ⟨by (with_reducible repeat (first | apply Kd.R_alloc | apply Kd.R_drewN | apply Kd.R_drew)); exact Kd.R_mono HO221.1 (fun _ hk => hk.2)⟩, ⟨by (with_reducible repeat (first | apply Kd.R_alloc | apply Kd.R_drewN | apply Kd.R_drew)); exact Kd.R_mono HO224.1 (fun _ hk => hk.2)⟩, ⟨by (with_reducible repeat (first | refine kN ?_ _ | refine kD ?_ | refine kA ?_ _)); exact BK218.1⟩, ⟨by repeat (first | (with_reducible first | exact HB.1 | apply bA | apply bN | apply bD | refine below_set ?_ GE218.1) | exact HB.1)⟩⟩
 case round =>
  clear H'
  try clear c1
  try clear c2
  try clear p2
  try clear hcz7_0
  try clear hfz7_0
  obtain ⟨x5_1, x7_1, rfl, HA, HK1, HO_5, HO_6, BK218, HB⟩ := hrel
  cases gk with
  | zero => exact absurd HA.1 (by simp [lazycref09_component.l0])
  | succ k1 =>
   have H := HA.1
   clear HA
   simp only [lazycref09_component.l0] at H
   by_cases c9 : x7_1 < (t222.length : Int)
   rotate_left
   · rw [if_neg c9] at H
     have c9b0 : decide (x7_1 < (t222.length : Int)) = false := decide_eq_false c9
     clear c9
     obtain rfl := Option.some.inj H
     obtain ⟨Ao24, co24, eo24⟩ := Kd.R_slice HO_6.1
     subst eo24
     go_wp2
     go_ret
     exact ⟨_, by first | rfl | (simp [errW_none, errW_some] <;> rfl) | (simp [*, errW_none, errW_some] <;> rfl), by (with_reducible repeat (first | apply Kd.R_alloc | apply Kd.R_drewN | apply Kd.R_drew)); exact Kd.R_mono HO_5.1 (fun _ hk => trivial), by repeat (first | (with_reducible first | exact HB.1 | apply bA | apply bN | apply bD | refine below_set ?_ GE218.1) | exact HB.1)⟩
   rw [if_pos c9] at H
   have c9b0 : decide (x7_1 < (t222.length : Int)) = true := decide_eq_true c9
   clear c9
   by_cases c10 : 0 <= x7_1
   rotate_left
   · rw [if_neg c10] at H
     exact absurd H (by simp)
   rw [if_pos c10] at H
   have c10b0 : decide (0 <= x7_1) = true := decide_eq_true c10
   clear c10
   replace H := Option.bind_eq_some_iff.mp H
   obtain ⟨t226, A110, H⟩ := H
   replace H : ((lazycref09_has.f k1 t226 a1).bind fun t229 => (if t229 = true then (if x5_1.length < 17592186044416 then (lazycref09_component.l0 k1 a1 (x5_1 ++ [rd t222 x7_1]) t222 (wrap64 (x7_1 + 1)) l0_0) else (none)) else (lazycref09_component.l0 k1 a1 x5_1 t222 (wrap64 (x7_1 + 1)) l0_0))) = some r := H
   have A11 := aM A110
   clear A110
   replace H := Option.bind_eq_some_iff.mp H
   obtain ⟨t229, A120, H⟩ := H
   replace H : (if t229 = true then (if x5_1.length < 17592186044416 then (lazycref09_component.l0 k1 a1 (x5_1 ++ [rd t222 x7_1]) t222 (wrap64 (x7_1 + 1)) l0_0) else (none)) else (lazycref09_component.l0 k1 a1 x5_1 t222 (wrap64 (x7_1 + 1)) l0_0)) = some r := H
   have A12 := aM A120
   clear A120
   by_cases c13 : t229 = true
   rotate_left
   · replace c13 := Bool.eq_false_iff.mpr c13
     subst c13
     have H1 : (lazycref09_component.l0 k1 a1 x5_1 t222 (wrap64 (x7_1 + 1)) l0_0) = some r := by rw [if_neg (show ¬ (false = true) by decide)] at H; exact H
     clear H
     have H := H1
     clear H1
     have H' := aM H
     clear H
     obtain ⟨Ao20, co20, eo20⟩ := Kd.R_slice HO_6.1
     subst eo20
     try go_wp2
     have n0_ := aM (Kd.R_drew HO_5.1)
     have n1_ := aM (Kd.R_drew HO_6.1)
     have n2_ := aM (blk_drew BK218.1)
     have n3_ := aM (below_drew1 HB.1)
     clear HO_5
     clear HO_6
     clear BK218
     clear HB
     have HO_5 := n0_
     have HO_6 := n1_
     have BK218 := n2_
     have HB := n3_
     clear n0_ n1_ n2_ n3_
     have p225 : 0 <= (x7_1 : Int) := of_decide_eq_true (by first | (with_reducible assumption) | assumption)
     have q225 : x7_1 < (t222.length : Int) := of_decide_eq_true (by first | (with_reducible assumption) | assumption)
     obtain ⟨ad225, e225, hx225_0⟩ := Kd.at_int (Kd.R_reads' HO_6.1).2.2 x7_1 p225 q225
     cases e225
     replace p225 := eq_true p225
     replace q225 := eq_true q225
     refine start_ (n := 8) (S := fun w' => w'.cell? ⟨gb218, 0, none⟩ = some (.slice A0_0 l0_0.length c0_0) /\ w'.cell? (ad225.add (x7_1).toNat) = some (.int .i64 (rd t222 x7_1))) (ds := []) #[false, false, false, false, false, false, false, false] (by kernel_rfl) rfl rfl ⟨(blk_cell BK218.1 0).trans rfl, hx225_0⟩ (fun hHeld => ?_); refine with_tabW lazycref09_component.tab6 lazycref09_component.bits6 (fun HT_ HW_ => ?_)
     generalize wr.drew = w21 at HO_5 HO_6 BK218 HB hx225_0 hHeld ⊢
     refine pure_ (i := 1) (N := some 19) (v := ?_) (a' := ?_) #[false, true, false, false, false, false, false, false] rfl rfl (any_of HT_.1 (by kernel_rfl)) (fun _ _ _ h => h) (Or.inl ⟨by rfl, ?_⟩) ?_ ?_
     rotate_left
     · intro w'
       go_simp
       with_reducible rfl
     rotate_left
     · simp only [Act.put, List.setIfInBounds_toArray, List.set_cons_zero, List.set_cons_succ, i64_w, i32_w]
       rfl
     refine pure_ (i := 2) (N := some 20) (v := ?_) (a' := ?_) #[false, true, true, false, false, false, false, false] rfl rfl (any_of HT_.1 (by kernel_rfl)) (fun _ _ _ h => h) (Or.inl ⟨by rfl, ?_⟩) ?_ ?_
     rotate_left
     · intro w'
       go_simp
       with_reducible rfl
     rotate_left
     · simp only [Act.put, List.setIfInBounds_toArray, List.set_cons_zero, List.set_cons_succ, i64_w, i32_w]
       rfl
     refine pure_ (i := 3) (N := some 21) (v := ?_) (a' := ?_) #[false, true, true, true, false, false, false, false] rfl rfl (any_of HT_.1 (by kernel_rfl)) (fun _ _ _ h => h) (Or.inl ⟨by rfl, ?_⟩) ?_ ?_
     rotate_left
     · intro w'
       go_simp
       with_reducible rfl
     rotate_left
     · simp only [Act.put, List.setIfInBounds_toArray, List.set_cons_zero, List.set_cons_succ, i64_w, i32_w]
       rfl
     refine pure_ (i := 6) (N := some 24) (v := ?_) (a' := ?_) #[false, true, true, true, false, false, true, false] rfl rfl (any_of HT_.1 (by kernel_rfl)) (fun _ _ _ h => h) (Or.inl ⟨by rfl, ?_⟩) ?_ ?_
     rotate_left
     · intro w'
       go_simp
       with_reducible rfl
     rotate_left
     · simp only [Act.put, List.setIfInBounds_toArray, List.set_cons_zero, List.set_cons_succ, i64_w, i32_w]
       rfl
     refine take_ (i := 0) (N := some 18) (v := ?_) (a' := ?_) #[true, true, true, true, false, false, true, false] rfl rfl (take_ofW HT_.1 HW_.1 (by kernel_rfl)) (fun _ _ _ h => h) (Or.inl ⟨by rfl, ?_⟩) hHeld ?_ ?_
     rotate_left
     · rintro w' ⟨s0, s1⟩
       go_simp
       with_reducible rfl
     rotate_left
     · simp only [Act.put, List.setIfInBounds_toArray, List.set_cons_zero, List.set_cons_succ, i64_w, i32_w]
       rfl
     refine take_ (i := 4) (N := some 22) (v := ?_) (a' := ?_) #[true, true, true, true, true, false, true, false] rfl rfl (take_ofW HT_.1 HW_.1 (by kernel_rfl)) (fun _ _ _ h => h) (Or.inl ⟨by rfl, ?_⟩) hHeld ?_ ?_
     rotate_left
     · rintro w' ⟨s0, s1⟩
       go_simp
       with_reducible rfl
     rotate_left
     · simp only [Act.put, List.setIfInBounds_toArray, List.set_cons_zero, List.set_cons_succ, i64_w, i32_w]
       rfl
     refine one_ (i := 5) (N := some 23) #[true, true, true, true, true, true, true, false] rfl rfl (one_of HT_.1 (by kernel_rfl)) (by decide) (fun K hK => ?_)
     refine goes_ Try.func19 (by kernel_rfl) rfl #[.agg #[.slice A0_0 l0_0.length c0_0], .int .i64 (rd t222 x7_1)] (by rfl) rfl rfl (by (try simp only [List.map_toArray, List.map_cons, List.map_nil]); first | done | rfl | (simp only [List.length_drop, List.length_take]; rfl)) ?_
     with_reducible refine (lazycref09_Reach.calls k1 _ _ l0_0 (rd t222 x7_1) t226 _ ?side1 ?side2 A11.1).mono ?_
     (case side1 => repeat (first | exact (Kd.C_below HR0_0.1 HB.1) | (with_reducible refine Kd.C_alloc ?_ _) | (with_reducible refine Kd.C_drewN ?_ _) | (with_reducible refine Kd.C_drew ?_)))
     (case side2 => exact HC0_0.1)
     rintro e w22 ⟨v227, rfl, ho0, hb⟩
     have HS1_ := (hb.cell (World.block_lt_of_cell? _ _ (hHeld.2))).trans (hHeld.2)
     refine ⟨_, rfl, ?_⟩
     have n0_ := aM (Kd.R_elder' (by (with_reducible repeat (first | apply Kd.R_alloc | apply Kd.R_drewN | apply Kd.R_drew)); exact HO_5.1) (Kd.R_base ho0) hb)
     have n1_ := aM (Kd.R_elder' (by (with_reducible repeat (first | apply Kd.R_alloc | apply Kd.R_drewN | apply Kd.R_drew)); exact HO_6.1) (Kd.R_base ho0) hb)
     have n2_ := aM (Kd.R_lower (Kd.R_new' (Kd.R_new' ho0 (Kd.R_lt (by (with_reducible repeat (first | apply Kd.R_alloc | apply Kd.R_drewN | apply Kd.R_drew)); exact HO_5.1))) (Kd.R_lt (by (with_reducible repeat (first | apply Kd.R_alloc | apply Kd.R_drewN | apply Kd.R_drew)); exact HO_6.1))) (below_size (by repeat (first | (with_reducible first | exact HB.1 | apply bA | apply bN | apply bD | refine below_set ?_ GE218.1) | exact HB.1))))
     have n3_ := aM (blk_below (g := gb218) (o := .cells #[.slice A0_0 l0_0.length c0_0] 24 (0, 0)) (by (with_reducible repeat (first | refine kN ?_ _ | refine kD ?_ | refine kA ?_ _)); exact BK218.1) hb)
     have n4_ := aM (below_step (by repeat (first | (with_reducible first | exact HB.1 | apply bA | apply bN | apply bD | refine below_set ?_ GE218.1) | exact HB.1)) hb)
     clear HO_5
     clear HO_6
     clear BK218
     clear HB
     have HO_5 := n0_
     have HO_6 := n1_
     have HO228 := n2_
     have BK218 := n3_
     have HB := n4_
     clear n0_ n1_ n2_ n3_ n4_
     (try clear hb)
     (try clear hb2)
     (try clear hk)
     (try clear hi)
     (try clear ho0)
     obtain ⟨Ao23, co23, eo23⟩ := Kd.R_slice HO228.1
     (first | subst eo23 | (injection eo23 with f1_ f2_ f3_; have f4_ := f1_.symm; have f5_ := f3_.symm; clear f1_ f2_ f3_; subst f4_; subst f5_))
     refine hK.out _ _ ⟨(blk_cell BK218.1 0).trans rfl, HS1_⟩ (fun hHeld => ?_)
     clear hK K
     refine norm_ (a' := ?_) ?_ ?_
     rotate_left
     · show Act.put _ (some 23) _ = _
       simp only [Act.put, List.setIfInBounds_toArray, List.set_cons_zero, List.set_cons_succ, i64_w, i32_w]
       rfl
     refine one_ (i := 7) (N := some 25) #[true, true, true, true, true, true, true, true] rfl rfl (one_of HT_.1 (by kernel_rfl)) (by decide) (fun K hK => ?_)
     refine goes_ Try.func41 (by kernel_rfl) rfl #[.slice Ao23 t226.length co23, .int .i64 a1] (by rfl) rfl rfl (by (try simp only [List.map_toArray, List.map_cons, List.map_nil]); first | done | rfl | (simp only [List.length_drop, List.length_take]; rfl)) ?_
     with_reducible refine (lazycref09_has.calls k1 _ _ t226 a1 false _ ?side1 ?side2 A12.1).mono ?_
     (case side1 => repeat (first | exact (Kd.R_reads' HO228.1).2.2 | (with_reducible refine Kd.C_alloc ?_ _) | (with_reducible refine Kd.C_drewN ?_ _) | (with_reducible refine Kd.C_drew ?_)))
     (case side2 => exact (Kd.R_reads' HO228.1).2.1)
     rintro e w' ⟨rfl, ⟨nd, rfl⟩⟩
     refine ⟨_, rfl, ?_⟩
     refine hK.out _ _ ⟨(blk_cell BK218.1 0).trans rfl, hHeld.2⟩ (fun hHeld => ?_)
     clear hK K
     refine norm_ (a' := ?_) ?_ ?_
     rotate_left
     · show Act.put _ (some 25) _ = _
       simp only [Act.put, List.setIfInBounds_toArray, List.set_cons_zero, List.set_cons_succ, i64_w, i32_w]
       rfl
     refine done_ (done_of HT_.1 (by kernel_rfl)) ?_
     try go_wp2
     go_roundg k1
     case measure => have := HK1.1; omega
     case rel => exact ⟨(x5_1), (wrap64 (x7_1 + 1)), (by first | rfl | (simp; done) | (simp [*]; done)), H', ⟨by have := HK1.1; omega⟩, ⟨by (with_reducible repeat (first | apply Kd.R_alloc | apply Kd.R_drewN | apply Kd.R_drew)); exact Kd.R_mono HO_5.1 (fun _ hk => hk.1)⟩, ⟨by (with_reducible repeat (first | apply Kd.R_alloc | apply Kd.R_drewN | apply Kd.R_drew)); exact Kd.R_mono HO_6.1 (fun _ hk => hk.1)⟩, ⟨by (with_reducible repeat (first | refine kN ?_ _ | refine kD ?_ | refine kA ?_ _)); exact BK218.1⟩, ⟨by repeat (first | (with_reducible first | exact HB.1 | apply bA | apply bN | apply bD | refine below_set ?_ GE218.1) | exact HB.1)⟩⟩
   subst c13
   have H1 : (if x5_1.length < 17592186044416 then (lazycref09_component.l0 k1 a1 (x5_1 ++ [rd t222 x7_1]) t222 (wrap64 (x7_1 + 1)) l0_0) else (none)) = some r := by rw [if_pos rfl] at H; exact H
   clear H
   have H := H1
   clear H1
   by_cases c14 : x5_1.length < 17592186044416
   rotate_left
   · rw [if_neg c14] at H
     exact absurd H (by simp)
   rw [if_pos c14] at H
   have LMc14 := aM c14
   clear c14
   obtain ⟨y231, hy231⟩ : ∃ y_ : List Int, y_ = (x5_1 ++ [rd t222 x7_1]) := ⟨_, rfl⟩
   replace H : (lazycref09_component.l0 k1 a1 y231 t222 (wrap64 (x7_1 + 1)) l0_0) = some r := by first | (rw [hy231]; with_reducible exact H) | (have H2_ := (Option.bind_some _ _).symm.trans H; rw [hy231]; with_reducible exact H2_) | (have H2_ := (Option.bind_some _ _).symm.trans H; with_reducible exact H2_) | with_reducible exact H | (rw [hy231]; exact H) | exact H
   have Ny231 := aM hy231
   clear hy231
   have H' := aM H
   clear H
   obtain ⟨Ao15, co15, eo15⟩ := Kd.R_slice HO_6.1
   subst eo15
   try go_wp2
   have n0_ := aM (Kd.R_drew HO_5.1)
   have n1_ := aM (Kd.R_drew HO_6.1)
   have n2_ := aM (blk_drew BK218.1)
   have n3_ := aM (below_drew1 HB.1)
   clear HO_5
   clear HO_6
   clear BK218
   clear HB
   have HO_5 := n0_
   have HO_6 := n1_
   have BK218 := n2_
   have HB := n3_
   clear n0_ n1_ n2_ n3_
   have p225 : 0 <= (x7_1 : Int) := of_decide_eq_true (by first | (with_reducible assumption) | assumption)
   have q225 : x7_1 < (t222.length : Int) := of_decide_eq_true (by first | (with_reducible assumption) | assumption)
   obtain ⟨ad225, e225, hx225_0⟩ := Kd.at_int (Kd.R_reads' HO_6.1).2.2 x7_1 p225 q225
   cases e225
   replace p225 := eq_true p225
   replace q225 := eq_true q225
   refine start_ (n := 8) (S := fun w' => w'.cell? ⟨gb218, 0, none⟩ = some (.slice A0_0 l0_0.length c0_0) /\ w'.cell? (ad225.add (x7_1).toNat) = some (.int .i64 (rd t222 x7_1))) (ds := []) #[false, false, false, false, false, false, false, false] (by kernel_rfl) rfl rfl ⟨(blk_cell BK218.1 0).trans rfl, hx225_0⟩ (fun hHeld => ?_); refine with_tabW lazycref09_component.tab6 lazycref09_component.bits6 (fun HT_ HW_ => ?_)
   generalize wr.drew = w16 at HO_5 HO_6 BK218 HB hx225_0 hHeld ⊢
   refine pure_ (i := 1) (N := some 19) (v := ?_) (a' := ?_) #[false, true, false, false, false, false, false, false] rfl rfl (any_of HT_.1 (by kernel_rfl)) (fun _ _ _ h => h) (Or.inl ⟨by rfl, ?_⟩) ?_ ?_
   rotate_left
   · intro w'
     go_simp
     with_reducible rfl
   rotate_left
   · simp only [Act.put, List.setIfInBounds_toArray, List.set_cons_zero, List.set_cons_succ, i64_w, i32_w]
     rfl
   refine pure_ (i := 2) (N := some 20) (v := ?_) (a' := ?_) #[false, true, true, false, false, false, false, false] rfl rfl (any_of HT_.1 (by kernel_rfl)) (fun _ _ _ h => h) (Or.inl ⟨by rfl, ?_⟩) ?_ ?_
   rotate_left
   · intro w'
     go_simp
     with_reducible rfl
   rotate_left
   · simp only [Act.put, List.setIfInBounds_toArray, List.set_cons_zero, List.set_cons_succ, i64_w, i32_w]
     rfl
   refine pure_ (i := 3) (N := some 21) (v := ?_) (a' := ?_) #[false, true, true, true, false, false, false, false] rfl rfl (any_of HT_.1 (by kernel_rfl)) (fun _ _ _ h => h) (Or.inl ⟨by rfl, ?_⟩) ?_ ?_
   rotate_left
   · intro w'
     go_simp
     with_reducible rfl
   rotate_left
   · simp only [Act.put, List.setIfInBounds_toArray, List.set_cons_zero, List.set_cons_succ, i64_w, i32_w]
     rfl
   refine pure_ (i := 6) (N := some 24) (v := ?_) (a' := ?_) #[false, true, true, true, false, false, true, false] rfl rfl (any_of HT_.1 (by kernel_rfl)) (fun _ _ _ h => h) (Or.inl ⟨by rfl, ?_⟩) ?_ ?_
   rotate_left
   · intro w'
     go_simp
     with_reducible rfl
   rotate_left
   · simp only [Act.put, List.setIfInBounds_toArray, List.set_cons_zero, List.set_cons_succ, i64_w, i32_w]
     rfl
   refine take_ (i := 0) (N := some 18) (v := ?_) (a' := ?_) #[true, true, true, true, false, false, true, false] rfl rfl (take_ofW HT_.1 HW_.1 (by kernel_rfl)) (fun _ _ _ h => h) (Or.inl ⟨by rfl, ?_⟩) hHeld ?_ ?_
   rotate_left
   · rintro w' ⟨s0, s1⟩
     go_simp
     with_reducible rfl
   rotate_left
   · simp only [Act.put, List.setIfInBounds_toArray, List.set_cons_zero, List.set_cons_succ, i64_w, i32_w]
     rfl
   refine take_ (i := 4) (N := some 22) (v := ?_) (a' := ?_) #[true, true, true, true, true, false, true, false] rfl rfl (take_ofW HT_.1 HW_.1 (by kernel_rfl)) (fun _ _ _ h => h) (Or.inl ⟨by rfl, ?_⟩) hHeld ?_ ?_
   rotate_left
   · rintro w' ⟨s0, s1⟩
     go_simp
     with_reducible rfl
   rotate_left
   · simp only [Act.put, List.setIfInBounds_toArray, List.set_cons_zero, List.set_cons_succ, i64_w, i32_w]
     rfl
   refine one_ (i := 5) (N := some 23) #[true, true, true, true, true, true, true, false] rfl rfl (one_of HT_.1 (by kernel_rfl)) (by decide) (fun K hK => ?_)
   refine goes_ Try.func19 (by kernel_rfl) rfl #[.agg #[.slice A0_0 l0_0.length c0_0], .int .i64 (rd t222 x7_1)] (by rfl) rfl rfl (by (try simp only [List.map_toArray, List.map_cons, List.map_nil]); first | done | rfl | (simp only [List.length_drop, List.length_take]; rfl)) ?_
   with_reducible refine (lazycref09_Reach.calls k1 _ _ l0_0 (rd t222 x7_1) t226 _ ?side1 ?side2 A11.1).mono ?_
   (case side1 => repeat (first | exact (Kd.C_below HR0_0.1 HB.1) | (with_reducible refine Kd.C_alloc ?_ _) | (with_reducible refine Kd.C_drewN ?_ _) | (with_reducible refine Kd.C_drew ?_)))
   (case side2 => exact HC0_0.1)
   rintro e w17 ⟨v227, rfl, ho0, hb⟩
   have HS1_ := (hb.cell (World.block_lt_of_cell? _ _ (hHeld.2))).trans (hHeld.2)
   refine ⟨_, rfl, ?_⟩
   have n0_ := aM (Kd.R_elder' (by (with_reducible repeat (first | apply Kd.R_alloc | apply Kd.R_drewN | apply Kd.R_drew)); exact HO_5.1) (Kd.R_base ho0) hb)
   have n1_ := aM (Kd.R_elder' (by (with_reducible repeat (first | apply Kd.R_alloc | apply Kd.R_drewN | apply Kd.R_drew)); exact HO_6.1) (Kd.R_base ho0) hb)
   have n2_ := aM (Kd.R_lower (Kd.R_new' (Kd.R_new' ho0 (Kd.R_lt (by (with_reducible repeat (first | apply Kd.R_alloc | apply Kd.R_drewN | apply Kd.R_drew)); exact HO_5.1))) (Kd.R_lt (by (with_reducible repeat (first | apply Kd.R_alloc | apply Kd.R_drewN | apply Kd.R_drew)); exact HO_6.1))) (below_size (by repeat (first | (with_reducible first | exact HB.1 | apply bA | apply bN | apply bD | refine below_set ?_ GE218.1) | exact HB.1))))
   have n3_ := aM (blk_below (g := gb218) (o := .cells #[.slice A0_0 l0_0.length c0_0] 24 (0, 0)) (by (with_reducible repeat (first | refine kN ?_ _ | refine kD ?_ | refine kA ?_ _)); exact BK218.1) hb)
   have n4_ := aM (below_step (by repeat (first | (with_reducible first | exact HB.1 | apply bA | apply bN | apply bD | refine below_set ?_ GE218.1) | exact HB.1)) hb)
   clear HO_5
   clear HO_6
   clear BK218
   clear HB
   have HO_5 := n0_
   have HO_6 := n1_
   have HO228 := n2_
   have BK218 := n3_
   have HB := n4_
   clear n0_ n1_ n2_ n3_ n4_
   (try clear hb)
   (try clear hb2)
   (try clear hk)
   (try clear hi)
   (try clear ho0)
   obtain ⟨Ao18, co18, eo18⟩ := Kd.R_slice HO228.1
   (first | subst eo18 | (injection eo18 with f1_ f2_ f3_; have f4_ := f1_.symm; have f5_ := f3_.symm; clear f1_ f2_ f3_; subst f4_; subst f5_))
   refine hK.out _ _ ⟨(blk_cell BK218.1 0).trans rfl, HS1_⟩ (fun hHeld => ?_)
   clear hK K
   refine norm_ (a' := ?_) ?_ ?_
   rotate_left
   · show Act.put _ (some 23) _ = _
     simp only [Act.put, List.setIfInBounds_toArray, List.set_cons_zero, List.set_cons_succ, i64_w, i32_w]
     rfl
   refine one_ (i := 7) (N := some 25) #[true, true, true, true, true, true, true, true] rfl rfl (one_of HT_.1 (by kernel_rfl)) (by decide) (fun K hK => ?_)
   refine goes_ Try.func41 (by kernel_rfl) rfl #[.slice Ao18 t226.length co18, .int .i64 a1] (by rfl) rfl rfl (by (try simp only [List.map_toArray, List.map_cons, List.map_nil]); first | done | rfl | (simp only [List.length_drop, List.length_take]; rfl)) ?_
   with_reducible refine (lazycref09_has.calls k1 _ _ t226 a1 true _ ?side1 ?side2 A12.1).mono ?_
   (case side1 => repeat (first | exact (Kd.R_reads' HO228.1).2.2 | (with_reducible refine Kd.C_alloc ?_ _) | (with_reducible refine Kd.C_drewN ?_ _) | (with_reducible refine Kd.C_drew ?_)))
   (case side2 => exact (Kd.R_reads' HO228.1).2.1)
   rintro e w' ⟨rfl, ⟨nd, rfl⟩⟩
   refine ⟨_, rfl, ?_⟩
   refine hK.out _ _ ⟨(blk_cell BK218.1 0).trans rfl, hHeld.2⟩ (fun hHeld => ?_)
   clear hK K
   refine norm_ (a' := ?_) ?_ ?_
   rotate_left
   · show Act.put _ (some 25) _ = _
     simp only [Act.put, List.setIfInBounds_toArray, List.set_cons_zero, List.set_cons_succ, i64_w, i32_w]
     rfl
   refine done_ (done_of HT_.1 (by kernel_rfl)) ?_
   have p230 : 0 <= (x7_1 : Int) := of_decide_eq_true (by first | (with_reducible assumption) | assumption)
   have q230 : x7_1 < (t222.length : Int) := of_decide_eq_true (by first | (with_reducible assumption) | assumption)
   obtain ⟨ad230, e230, hx230_0⟩ := Kd.at_int (Kd.R_reads' HO_6.1).2.2 x7_1 p230 q230
   obtain rfl : ad225 = ad230 := (by injection e230)
   replace p230 := eq_true p230
   replace q230 := eq_true q230
   try go_wp2_with (first | ((with_reducible refine gate_builtin (b := .append) (xs := #[.tmp 26, .tmp 31]) rfl ?_); at_builtin; refine Kd.R_append (Kd.int .i64) (w0 := w) w.heap.size rfl (.tmp 26) (.tmp 31) 32 3 (.int .i64 0) 8 rfl Try.underlying32 info3 rfl (by decide) (by omega) u5 x5_1 (rd t222 x7_1) [.int .i64 (rd t222 x7_1)] (fun k_ => some k_ ≠ (.slice (some ad225) t222.length co15 : Value).ownBlock /\ some k_ ≠ (.slice Ao18 t226.length co18 : Value).ownBlock) (fun _ => False) rfl rfl ?aP (fun _ hk => hk.elim) ?aF ?aO ?aB ?aS ?aL ?_; (case aP => exact rfl); (case aB => exact (by repeat (first | (with_reducible first | exact HB.1 | apply bA | apply bN | apply bD | refine below_set ?_ GE218.1) | exact HB.1))); (case aF => exact (fun k_ hk => ⟨Kd.fresh' (Kd.R_lt (by (with_reducible repeat (first | apply Kd.R_alloc | apply Kd.R_drewN | apply Kd.R_drew)); exact HO_6.1)) k_ hk, Kd.fresh' (Kd.R_lt (by (with_reducible repeat (first | apply Kd.R_alloc | apply Kd.R_drewN | apply Kd.R_drew)); exact HO228.1)) k_ hk⟩)); (case aO => exact (by (with_reducible repeat (first | apply Kd.R_alloc | apply Kd.R_drewN | apply Kd.R_drew)); exact HO_5.1)); (case aS => exact (below_size (by repeat (first | (with_reducible first | exact HB.1 | apply bA | apply bN | apply bD | refine below_set ?_ GE218.1) | exact HB.1)))); (case aL => have := LMc14.1; omega); intro v232 w19 ho hb hg hat; rw [<- Ny231.1] at ho; have n0_ := aM (Kd.R_after (ok := (fun k_ => some k_ ≠ (.slice Ao18 t226.length co18 : Value).ownBlock)) (by (with_reducible repeat (first | apply Kd.R_alloc | apply Kd.R_drewN | apply Kd.R_drew)); exact Kd.R_mono HO_6.1 (fun _ hk => ⟨hk.2, hk.1⟩)) hg hat); have n1_ := aM (blk_grown (g := gb218) (o := .cells #[.slice A0_0 l0_0.length c0_0] 24 (0, 0)) (by (with_reducible repeat (first | refine kN ?_ _ | refine kD ?_ | refine kA ?_ _)); exact BK218.1) hg (Kd.R_ne HO_5.1 BK218.1 (by decide))); have n2_ := aM (Kd.R_after (ok := (fun k_ => some k_ ≠ (.slice (some ad225) t222.length co15 : Value).ownBlock)) (by (with_reducible repeat (first | apply Kd.R_alloc | apply Kd.R_drewN | apply Kd.R_drew)); exact Kd.R_mono HO228.1 (fun _ hk => ⟨hk.2, hk.1.2⟩)) hg hat); have n3_ := aM (hb); have n4_ := aM (ho); clear HO_6; clear BK218; clear HO228; clear HB; clear HO_5; have HO_6 := n0_; have BK218 := n1_; have HO228 := n2_; have HB := n3_; have HO233 := n4_; clear n0_ n1_ n2_ n3_ n4_; clear ho hb hg hat))
   go_roundg k1
   case measure => have := HK1.1; omega
   case rel => exact ⟨(y231), (wrap64 (x7_1 + 1)), (by first | rfl | (simp; done) | (simp [*]; done)), H', ⟨by have := HK1.1; omega⟩, ⟨by (with_reducible repeat (first | apply Kd.R_alloc | apply Kd.R_drewN | apply Kd.R_drew)); exact Kd.R_mono HO233.1 (fun _ hk => hk.1)⟩, ⟨by (with_reducible repeat (first | apply Kd.R_alloc | apply Kd.R_drewN | apply Kd.R_drew)); exact Kd.R_mono HO_6.1 (fun _ hk => hk.2)⟩, ⟨by (with_reducible repeat (first | refine kN ?_ _ | refine kD ?_ | refine kA ?_ _)); exact BK218.1⟩, ⟨by repeat (first | (with_reducible first | exact HB.1 | apply bA | apply bN | apply bD | refine below_set ?_ GE218.1) | exact HB.1)⟩⟩
theorem lazycref09_component.calls (k : Nat) (A0_0 : Option Addr) (c0_0 : Nat) (l0_0 : List (List Int)) (a1 : Int) (r : List Int) (w : World) (hr0_0 : Kd.C (Kd.slice 3 (Kd.int .i64)) w A0_0 l0_0.length l0_0) (hc0_0 : l0_0.length <= c0_0) (h : lazycref09_component.f k l0_0 a1 = some r) :
 Calls Try.prog 29 #[.agg #[.slice A0_0 l0_0.length c0_0], .int .i64 a1] w fun e w' => ∃ v0_, e = .returned v0_ /\ Kd.V (Kd.int .i64) 3 w' w.heap.size (fun k_ => w.heap.size <= k_) v0_ r /\ Below w.heap.size w w' :=
 (lazycref09_component.calls0 k A0_0 c0_0 l0_0 a1 r w hr0_0 hc0_0 h).mono fun _ _ ⟨v0, h1, h2, h3⟩ => ⟨v0, h1, Kd.V_mono (Kd.R_V (Kd.R_bound h2)) (fun _ hk => hk.2.1), h3⟩
end Go.Proofs.Ytpmjpngmmphkmaa.P
namespace Go.Proofs.Ytpmjpngmmphkmaa.P
open Go.RowKit Go.Proofs.Yw.A Go.Proofs.Yw.A.Kd Go.Proofs.Yw.B Go.Proofs.Yw.C
attribute [local go_sem] max2_int min2_int max_two min_two max_three min_three max_four min_four
noncomputable def lazycref09_ready.l0 : Nat -> List Int -> List Bool -> List Int -> Int -> Option (Bool)
 | 0, _, _, _, _ => none
 | k + 1, x1, x2, x7, x8 => if x8 < (x7.length : Int) then (if 0 <= x8 then (if 0 <= (rd x7 x8) then (if (rd x7 x8) < (x2.length : Int) then (if (rdOf false x2 (rd x7 x8) = true) then (lazycref09_ready.l0 k x1 x2 x7 (wrap64 (x8 + 1))) else ((lazycref09_has.f k x1 (rd x7 x8)).bind fun t225 => (if t225 = true then (lazycref09_ready.l0 k x1 x2 x7 (wrap64 (x8 + 1))) else (some false)))) else (none)) else (none)) else (none)) else (some true)
noncomputable def lazycref09_ready.f (k : Nat) (l0_0 : List (List Int)) (l1 : List Int) (l2 : List Bool) : Option (Bool) := if 0 < (l1.length : Int) then ((lazycref09_Reach.f k l0_0 (rd l1 0)).bind fun t219 => (lazycref09_ready.l0 k l1 l2 t219 0)) else (none)
theorem lazycref09_ready.calls (k : Nat) (A0_0 : Option Addr) (c0_0 : Nat) (l0_0 : List (List Int)) (A1 : Option Addr) (c1 : Nat) (l1 : List Int) (A2 : Option Addr) (c2 : Nat) (l2 : List Bool) (r : Bool) (w : World) (hr0_0 : Kd.C (Kd.slice 3 (Kd.int .i64)) w A0_0 l0_0.length l0_0) (hc0_0 : l0_0.length <= c0_0) (hr1 : Kd.C (Kd.int .i64) w A1 l1.length l1) (hc1 : l1.length <= c1) (hr2 : Kd.C Kd.bool w A2 l2.length l2) (hc2 : l2.length <= c2) (h : lazycref09_ready.f k l0_0 l1 l2 = some r) :
 Calls Try.prog 30 #[.agg #[.slice A0_0 l0_0.length c0_0], .slice A1 l1.length c1, .slice A2 l2.length c2] w fun e w' => e = .returned (.bool r) /\ Below w.heap.size w w' := by
 have hu24 := Try.underlying24
 have HR0_0 := aM hr0_0
 have HC0_0 := aM hc0_0
 clear hr0_0 hc0_0
 have HR1 := aM hr1
 have HC1 := aM hc1
 clear hr1 hc1
 have HR2 := aM hr2
 have HC2 := aM hc2
 clear hr2 hc2
 have HB := aM (Below.refl w.heap.size w)
 have H : (if 0 < (l1.length : Int) then ((lazycref09_Reach.f k l0_0 (rd l1 0)).bind fun t219 => (lazycref09_ready.l0 k l1 l2 t219 0)) else (none)) = some r := h
 clear h
 by_cases c4 : 0 < (l1.length : Int)
 rotate_left
 · rw [if_neg c4] at H
   exact absurd H (by simp)
 rw [if_pos c4] at H
 have c4b0 : decide (0 < (l1.length : Int)) = true := decide_eq_true c4
 have c4b1 : decide (0 < l1.length) = true := decide_eq_true (by omega)
 clear c4
 replace H := Option.bind_eq_some_iff.mp H
 obtain ⟨t219, A50, H⟩ := H
 replace H : (lazycref09_ready.l0 k l1 l2 t219 0) = some r := H
 have A5 := aM A50
 clear A50
 have H' := aM H
 clear H
 go_enter Try.func30, Try.ntmps30
 try go_wp2_with (first | ((with_reducible refine gate_dst (N := 3) rfl ?_); refine box_event ?hg (N := 3) ?hd (cs := #[.slice A0_0 l0_0.length c0_0]) (t := 24) ?hr ?_; (case hd => rfl); (case hg => rfl); (case hr => first | (go_simp; done) | (go_simp; rfl)); intro gb217 hg w6 hbox hb; have n0_ := aM (below_step (by repeat (first | (with_reducible first | exact HB.1 | apply bA | apply bN | apply bD) | exact HB.1)) hb); have n1_ := aM (hbox); have n2_ := aM ((by rw [hg]; exact (below_size (by repeat (first | (with_reducible first | exact HB.1 | apply bA | apply bN | apply bD) | exact HB.1))) : w.heap.size <= gb217)); have n3_ := aM ((by rw [hg]; exact (below_size (by repeat (first | (with_reducible first | exact HB.1 | apply bA | apply bN | apply bD) | exact HB.1))) : w.heap.size <= gb217)); clear HB; have HB := n0_; have BK217 := n1_; have GW217 := n2_; have GE217 := n3_; clear n0_ n1_ n2_ n3_; clear hb hbox hg))
 have n0_ := aM (blk_drew BK217.1)
 have n1_ := aM (below_drew1 HB.1)
 clear BK217
 clear HB
 have BK217 := n0_
 have HB := n1_
 clear n0_ n1_
 have p218 : 0 <= (0 : Int) := (by omega)
 have q218 : 0 < (l1.length : Int) := of_decide_eq_true (by first | (with_reducible assumption) | assumption)
 obtain ⟨ad218, e218, hx218_0⟩ := Kd.at_int HR1.1 0 p218 q218
 have hw218_0 := hx218_0
 (try rw [show ((0 : Int)).toNat = 0 from rfl] at hw218_0)
 (try rw [show 0 * 1 = 0 from rfl] at hw218_0)
 (try rw [Addr.add_zero'] at hw218_0)
 cases e218
 have qi218 : (0 < l1.length) = True := eq_true (by omega)
 (try rw [show ((0 : Int)).toNat = 0 from rfl] at hx218_0)
 (try rw [Addr.add_zero'] at hx218_0)
 replace hx218_0 := (HB.1.cell (World.block_lt_of_cell? w _ hx218_0)).trans hx218_0
 replace p218 := eq_true p218
 replace q218 := eq_true q218
 refine start_ (n := 6) (S := fun w' => w'.cell? ⟨gb217, 0, none⟩ = some (.slice A0_0 l0_0.length c0_0) /\ w'.cell? ad218 = some (.int .i64 (rd l1 0))) (ds := []) #[false, false, false, false, false, false] (by kernel_rfl) rfl rfl ⟨(blk_cell BK217.1 0).trans rfl, ((HB.1.cell (World.block_lt_of_cell? w _ hw218_0)).trans hw218_0)⟩ (fun hHeld => ?_)
 generalize w6.drew = w7 at BK217 HB hx218_0 hHeld ⊢
 refine pure_ (i := 1) (N := some 10) (v := ?_) (a' := ?_) #[false, true, false, false, false, false] rfl rfl (by kernel_rfl) (fun _ _ _ h => h) (Or.inl ⟨by rfl, ?_⟩) ?_ ?_
 rotate_left
 · intro w'
   go_simp
   with_reducible rfl
 rotate_left
 · simp only [Act.put, List.setIfInBounds_toArray, List.set_cons_zero, List.set_cons_succ, i64_w, i32_w]
   rfl
 refine pure_ (i := 2) (N := some 11) (v := ?_) (a' := ?_) #[false, true, true, false, false, false] rfl rfl (by kernel_rfl) (fun _ _ _ h => h) (Or.inl ⟨by rfl, ?_⟩) ?_ ?_
 rotate_left
 · intro w'
   go_simp
   with_reducible rfl
 rotate_left
 · simp only [Act.put, List.setIfInBounds_toArray, List.set_cons_zero, List.set_cons_succ, i64_w, i32_w]
   rfl
 refine take_ (i := 0) (N := some 9) (v := ?_) (a' := ?_) #[true, true, true, false, false, false] rfl rfl (by kernel_rfl) (fun _ _ _ h => h) (Or.inl ⟨by rfl, ?_⟩) hHeld ?_ ?_
 rotate_left
 · rintro w' ⟨s0, s1⟩
   go_simp
   with_reducible rfl
 rotate_left
 · simp only [Act.put, List.setIfInBounds_toArray, List.set_cons_zero, List.set_cons_succ, i64_w, i32_w]
   rfl
 refine take_ (i := 3) (N := some 12) (v := ?_) (a' := ?_) #[true, true, true, true, false, false] rfl rfl (by kernel_rfl) (fun _ _ _ h => h) (Or.inl ⟨by rfl, ?_⟩) hHeld ?_ ?_
 rotate_left
 · rintro w' ⟨s0, s1⟩
   go_simp
   with_reducible rfl
 rotate_left
 · simp only [Act.put, List.setIfInBounds_toArray, List.set_cons_zero, List.set_cons_succ, i64_w, i32_w]
   rfl
 refine one_ (i := 4) (N := some 13) #[true, true, true, true, true, false] rfl rfl (by kernel_rfl) (by decide) (fun K hK => ?_)
 refine goes_ Try.func19 (by kernel_rfl) rfl #[.agg #[.slice A0_0 l0_0.length c0_0], .int .i64 (rd l1 0)] (by rfl) rfl rfl (by (try simp only [List.map_toArray, List.map_cons, List.map_nil]); first | done | rfl | (simp only [List.length_drop, List.length_take]; rfl)) ?_
 with_reducible refine (lazycref09_Reach.calls k _ _ l0_0 (rd l1 0) t219 _ ?side1 ?side2 A5.1).mono ?_
 (case side1 => repeat (first | exact (C_below HR0_0.1 HB.1) | (with_reducible refine C_alloc ?_ _) | (with_reducible refine C_drewN ?_ _) | (with_reducible refine C_drew ?_)))
 (case side2 => exact HC0_0.1)
 rintro e w8 ⟨v220, rfl, ho0, hb⟩
 refine ⟨_, rfl, ?_⟩
 have n0_ := aM (R_lower ho0 (below_size (by repeat (first | (with_reducible first | exact HB.1 | apply bA | apply bN | apply bD | refine below_set ?_ GE217.1) | exact HB.1))))
 have n1_ := aM (blk_below (g := gb217) (o := .cells #[.slice A0_0 l0_0.length c0_0] 24 (0, 0)) (by (with_reducible repeat (first | refine kN ?_ _ | refine kD ?_ | refine kA ?_ _)); exact BK217.1) hb)
 have n2_ := aM (below_step (by repeat (first | (with_reducible first | exact HB.1 | apply bA | apply bN | apply bD | refine below_set ?_ GE217.1) | exact HB.1)) hb)
 clear BK217
 clear HB
 have HO221 := n0_
 have BK217 := n1_
 have HB := n2_
 clear n0_ n1_ n2_
 (try clear hb)
 (try clear hb2)
 (try clear hk)
 (try clear hi)
 (try clear ho0)
 refine hK.out _ _ ⟨(blk_cell BK217.1 0).trans rfl, ((HB.1.cell (World.block_lt_of_cell? w _ hw218_0)).trans hw218_0)⟩ (fun hHeld => ?_)
 clear hK K
 refine norm_ (a' := ?_) ?_ ?_
 rotate_left
 · show Act.put _ (some 13) _ = _
   simp only [Act.put, List.setIfInBounds_toArray, List.set_cons_zero, List.set_cons_succ, i64_w, i32_w]
   rfl
 refine pure_ (i := 5) (N := some 7) (v := ?_) (a' := ?_) #[true, true, true, true, true, true] rfl rfl (by kernel_rfl) (fun _ _ _ h => h) (Or.inl ⟨by rfl, ?_⟩) ?_ ?_
 rotate_left
 · intro w'
   go_simp
   with_reducible rfl
 rotate_left
 · simp only [Act.put, List.setIfInBounds_toArray, List.set_cons_zero, List.set_cons_succ, i64_w, i32_w]
   rfl
 refine done_ (by kernel_rfl) ?_
 try go_wp2
 go_loopg [8] k (fun kq v8 w' => ∃ (x8_1 : Int), v8 = .int .i64 x8_1 /\ Az (lazycref09_ready.l0 kq l1 l2 t219 x8_1 = some r) /\ Az (kq <= k) /\ Az (Kd.R (Kd.int .i64) 3 w' w.heap.size (fun _ => True) v220 t219) /\ Az (w'.heap[gb217]? = some (.cells #[(.slice A0_0 l0_0.length c0_0)] 24 (0, 0))) /\ Az (Below w.heap.size w w'))
 case atStart => exact ⟨(0), (by first | rfl | (simp; done) | (simp [*]; done)), H', ⟨Nat.le_refl _⟩, ⟨by (with_reducible repeat (first | apply R_alloc | apply R_drewN | apply R_drew)); exact HO221.1⟩, ⟨by (with_reducible repeat (first | refine kN ?_ _ | refine kD ?_ | refine kA ?_ _)); exact BK217.1⟩, ⟨by repeat (first | (with_reducible first | exact HB.1 | apply bA | apply bN | apply bD | refine below_set ?_ GE217.1) | exact HB.1)⟩⟩
 case round =>
  clear H'
  try clear c1
  try clear c2
  try clear p2
  try clear q2
  try clear hx2
  try clear qi2
  try clear c3
  try clear c4
  try clear c4b0
  try clear c4b1
  try clear hx218_0
  try clear p218
  try clear q218
  obtain ⟨x8_1, rfl, HA, HK1, HO_7, BK217, HB⟩ := hrel
  cases gk with
  | zero => exact absurd HA.1 (by simp [lazycref09_ready.l0])
  | succ k1 =>
   have H := HA.1
   clear HA
   simp only [lazycref09_ready.l0] at H
   by_cases c9 : x8_1 < (t219.length : Int)
   rotate_left
   · rw [if_neg c9] at H
     have c9b0 : decide (x8_1 < (t219.length : Int)) = false := decide_eq_false c9
     clear c9
     obtain rfl := Option.some.inj H
     obtain ⟨Ao20, co20, eo20⟩ := R_slice HO_7.1
     subst eo20
     go_wp2
     go_ret
     exact ⟨by first | rfl | (simp [errW_none, errW_some] <;> rfl) | (simp [*, errW_none, errW_some] <;> rfl), by repeat (first | (with_reducible first | exact HB.1 | apply bA | apply bN | apply bD | refine below_set ?_ GE217.1) | exact HB.1)⟩
   rw [if_pos c9] at H
   have c9b0 : decide (x8_1 < (t219.length : Int)) = true := decide_eq_true c9
   clear c9
   by_cases c10 : 0 <= x8_1
   rotate_left
   · rw [if_neg c10] at H
     exact absurd H (by simp)
   rw [if_pos c10] at H
   have c10b0 : decide (0 <= x8_1) = true := decide_eq_true c10
   clear c10
   by_cases c11 : 0 <= (rd t219 x8_1)
   rotate_left
   · rw [if_neg c11] at H
     exact absurd H (by simp)
   rw [if_pos c11] at H
   have c11b0 : decide (0 <= (rd t219 x8_1)) = true := decide_eq_true c11
   clear c11
   by_cases c12 : (rd t219 x8_1) < (l2.length : Int)
   rotate_left
   · rw [if_neg c12] at H
     exact absurd H (by simp)
   rw [if_pos c12] at H
   have c12b0 : decide ((rd t219 x8_1) < (l2.length : Int)) = true := decide_eq_true c12
   clear c12
   obtain ⟨bq13, hbq13⟩ : ∃ b_ : Bool, b_ = (rdOf false l2 (rd t219 x8_1)) := ⟨_, rfl⟩
   replace H : (if (bq13 = true) then (lazycref09_ready.l0 k1 l1 l2 t219 (wrap64 (x8_1 + 1))) else ((lazycref09_has.f k1 l1 (rd t219 x8_1)).bind fun t225 => (if t225 = true then (lazycref09_ready.l0 k1 l1 l2 t219 (wrap64 (x8_1 + 1))) else (some false)))) = some r := by rw [<- hbq13] at H; exact H
   have Nbq13 := aM hbq13
   clear hbq13
   by_cases c14 : (bq13 = true)
   · subst c14
     have H1 : (lazycref09_ready.l0 k1 l1 l2 t219 (wrap64 (x8_1 + 1))) = some r := by rw [if_pos rfl] at H; exact H
     clear H
     have H := H1
     clear H1
     have H' := aM H
     clear H
     obtain ⟨Ao15, co15, eo15⟩ := R_slice HO_7.1
     subst eo15
     have p222 : 0 <= (x8_1 : Int) := of_decide_eq_true (by first | (with_reducible assumption) | assumption)
     have q222 : x8_1 < (t219.length : Int) := of_decide_eq_true (by first | (with_reducible assumption) | assumption)
     obtain ⟨ad222, e222, hx222_0⟩ := Kd.at_int (R_reads' HO_7.1).2.2 x8_1 p222 q222
     cases e222
     replace p222 := eq_true p222
     replace q222 := eq_true q222
     have p223 : 0 <= ((rd t219 x8_1) : Int) := of_decide_eq_true (by first | (with_reducible assumption) | assumption)
     have q223 : (rd t219 x8_1) < (l2.length : Int) := of_decide_eq_true (by first | (with_reducible assumption) | assumption)
     obtain ⟨ad223, e223, hx223_0⟩ := Kd.at_bool HR2.1 (rd t219 x8_1) p223 q223
     (try rw [<- Nbq13.1] at hx223_0)
     cases e223
     replace hx223_0 := (HB.1.cell (World.block_lt_of_cell? w _ hx223_0)).trans hx223_0
     replace p223 := eq_true p223
     replace q223 := eq_true q223
     go_wp2
     go_roundg k1
     case measure => have := HK1.1; omega
     case rel => exact ⟨(wrap64 (x8_1 + 1)), (by first | rfl | (simp; done) | (simp [*]; done)), H', ⟨by have := HK1.1; omega⟩, ⟨by (with_reducible repeat (first | apply R_alloc | apply R_drewN | apply R_drew)); exact HO_7.1⟩, ⟨by (with_reducible repeat (first | refine kN ?_ _ | refine kD ?_ | refine kA ?_ _)); exact BK217.1⟩, ⟨by repeat (first | (with_reducible first | exact HB.1 | apply bA | apply bN | apply bD | refine below_set ?_ GE217.1) | exact HB.1)⟩⟩
   replace c14 := Bool.eq_false_iff.mpr c14
   subst c14
   have H1 : ((lazycref09_has.f k1 l1 (rd t219 x8_1)).bind fun t225 => (if t225 = true then (lazycref09_ready.l0 k1 l1 l2 t219 (wrap64 (x8_1 + 1))) else (some false))) = some r := by rw [if_neg (show ¬ (false = true) by decide)] at H; exact H
   clear H
   have H := H1
   clear H1
   replace H := Option.bind_eq_some_iff.mp H
   obtain ⟨t225, A160, H⟩ := H
   replace H : (if t225 = true then (lazycref09_ready.l0 k1 l1 l2 t219 (wrap64 (x8_1 + 1))) else (some false)) = some r := H
   have A16 := aM A160
   clear A160
   by_cases c17 : t225 = true
   rotate_left
   · replace c17 := Bool.eq_false_iff.mpr c17
     subst c17
     have H1 : (some false) = some r := by rw [if_neg (show ¬ (false = true) by decide)] at H; exact H
     clear H
     have H := H1
     clear H1
     obtain rfl := Option.some.inj H
     obtain ⟨Ao19, co19, eo19⟩ := R_slice HO_7.1
     subst eo19
     have p222 : 0 <= (x8_1 : Int) := of_decide_eq_true (by first | (with_reducible assumption) | assumption)
     have q222 : x8_1 < (t219.length : Int) := of_decide_eq_true (by first | (with_reducible assumption) | assumption)
     obtain ⟨ad222, e222, hx222_0⟩ := Kd.at_int (R_reads' HO_7.1).2.2 x8_1 p222 q222
     cases e222
     replace p222 := eq_true p222
     replace q222 := eq_true q222
     have p223 : 0 <= ((rd t219 x8_1) : Int) := of_decide_eq_true (by first | (with_reducible assumption) | assumption)
     have q223 : (rd t219 x8_1) < (l2.length : Int) := of_decide_eq_true (by first | (with_reducible assumption) | assumption)
     obtain ⟨ad223, e223, hx223_0⟩ := Kd.at_bool HR2.1 (rd t219 x8_1) p223 q223
     (try rw [<- Nbq13.1] at hx223_0)
     cases e223
     replace hx223_0 := (HB.1.cell (World.block_lt_of_cell? w _ hx223_0)).trans hx223_0
     replace p223 := eq_true p223
     replace q223 := eq_true q223
     have p224 : 0 <= (x8_1 : Int) := of_decide_eq_true (by first | (with_reducible assumption) | assumption)
     have q224 : x8_1 < (t219.length : Int) := of_decide_eq_true (by first | (with_reducible assumption) | assumption)
     obtain ⟨ad224, e224, hx224_0⟩ := Kd.at_int (R_reads' HO_7.1).2.2 x8_1 p224 q224
     obtain rfl : ad222 = ad224 := (by injection e224)
     replace p224 := eq_true p224
     replace q224 := eq_true q224
     go_wp2_with (first | (go_at_call 41; (with_reducible refine (lazycref09_has.calls k1 _ _ l1 (rd t219 x8_1) false _ ?side1 ?side2 A16.1).mono ?_); (case side1 => repeat (first | exact (C_below HR1.1 HB.1) | (with_reducible refine C_alloc ?_ _) | (with_reducible refine C_drewN ?_ _) | (with_reducible refine C_drew ?_))); (case side2 => exact HC1.1); rintro e w' ⟨rfl, ⟨nd, rfl⟩⟩))
     go_ret
     exact ⟨by first | rfl | (simp [errW_none, errW_some] <;> rfl) | (simp [*, errW_none, errW_some] <;> rfl), by repeat (first | (with_reducible first | exact HB.1 | apply bA | apply bN | apply bD | refine below_set ?_ GE217.1) | exact HB.1)⟩
   subst c17
   have H1 : (lazycref09_ready.l0 k1 l1 l2 t219 (wrap64 (x8_1 + 1))) = some r := by rw [if_pos rfl] at H; exact H
   clear H
   have H := H1
   clear H1
   have H' := aM H
   clear H
   obtain ⟨Ao18, co18, eo18⟩ := R_slice HO_7.1
   subst eo18
   have p222 : 0 <= (x8_1 : Int) := of_decide_eq_true (by first | (with_reducible assumption) | assumption)
   have q222 : x8_1 < (t219.length : Int) := of_decide_eq_true (by first | (with_reducible assumption) | assumption)
   obtain ⟨ad222, e222, hx222_0⟩ := Kd.at_int (R_reads' HO_7.1).2.2 x8_1 p222 q222
   cases e222
   replace p222 := eq_true p222
   replace q222 := eq_true q222
   have p223 : 0 <= ((rd t219 x8_1) : Int) := of_decide_eq_true (by first | (with_reducible assumption) | assumption)
   have q223 : (rd t219 x8_1) < (l2.length : Int) := of_decide_eq_true (by first | (with_reducible assumption) | assumption)
   obtain ⟨ad223, e223, hx223_0⟩ := Kd.at_bool HR2.1 (rd t219 x8_1) p223 q223
   (try rw [<- Nbq13.1] at hx223_0)
   cases e223
   replace hx223_0 := (HB.1.cell (World.block_lt_of_cell? w _ hx223_0)).trans hx223_0
   replace p223 := eq_true p223
   replace q223 := eq_true q223
   have p224 : 0 <= (x8_1 : Int) := of_decide_eq_true (by first | (with_reducible assumption) | assumption)
   have q224 : x8_1 < (t219.length : Int) := of_decide_eq_true (by first | (with_reducible assumption) | assumption)
   obtain ⟨ad224, e224, hx224_0⟩ := Kd.at_int (R_reads' HO_7.1).2.2 x8_1 p224 q224
   obtain rfl : ad222 = ad224 := (by injection e224)
   replace p224 := eq_true p224
   replace q224 := eq_true q224
   go_wp2_with (first | (go_at_call 41; (with_reducible refine (lazycref09_has.calls k1 _ _ l1 (rd t219 x8_1) true _ ?side1 ?side2 A16.1).mono ?_); (case side1 => repeat (first | exact (C_below HR1.1 HB.1) | (with_reducible refine C_alloc ?_ _) | (with_reducible refine C_drewN ?_ _) | (with_reducible refine C_drew ?_))); (case side2 => exact HC1.1); rintro e w' ⟨rfl, ⟨nd, rfl⟩⟩))
   go_roundg k1
   case measure => have := HK1.1; omega
   case rel => exact ⟨(wrap64 (x8_1 + 1)), (by first | rfl | (simp; done) | (simp [*]; done)), H', ⟨by have := HK1.1; omega⟩, ⟨by (with_reducible repeat (first | apply R_alloc | apply R_drewN | apply R_drew)); exact HO_7.1⟩, ⟨by (with_reducible repeat (first | refine kN ?_ _ | refine kD ?_ | refine kA ?_ _)); exact BK217.1⟩, ⟨by repeat (first | (with_reducible first | exact HB.1 | apply bA | apply bN | apply bD | refine below_set ?_ GE217.1) | exact HB.1)⟩⟩
mutual
noncomputable def lazycref09_Components.l0 : Nat -> List (List Int) -> List Bool -> Int -> List (List Int) -> Option ((List (List Int)))
 | 0, _, _, _, _ => none
 | k + 1, x3, x4, x5, x227000 => if x5 < (x227000.length : Int) then (if 0 <= x5 then (if x5 < (x4.length : Int) then (if rdOf false x4 x5 = true then (lazycref09_Components.l0 k x3 x4 (wrap64 (x5 + 1)) x227000) else ((lazycref09_component.f k x227000 x5).bind fun t235 => ((lazycref09_ready.f k x227000 t235 x4).bind fun t238 => (if t238 = true then (if x3.length < 5864062014805 then (lazycref09_Components.l1 k (x3 ++ [t235]) x4 t235 0 x227000) else (none)) else (lazycref09_Components.l0 k x3 x4 (wrap64 (x5 + 1)) x227000))))) else (none)) else (none)) else (some x3)
noncomputable def lazycref09_Components.l1 : Nat -> List (List Int) -> List Bool -> List Int -> Int -> List (List Int) -> Option ((List (List Int)))
 | 0, _, _, _, _, _ => none
 | k + 1, x3, x4, x6, x7, x227000 => if x7 < (x6.length : Int) then (if 0 <= x7 then (if 0 <= (rd x6 x7) then (if (rd x6 x7) < (x4.length : Int) then (lazycref09_Components.l1 k x3 (x4.set ((rd x6 x7) : Int).toNat true) x6 (wrap64 (x7 + 1)) x227000) else (none)) else (none)) else (none)) else (lazycref09_Components.l0 k x3 x4 ((-1) + 1) x227000)
end
noncomputable def lazycref09_Components.f (k : Nat) (l0_0 : List (List Int)) : Option ((List (List Int))) := (lazycref09_Valid.f k l0_0).bind fun t227 => (if t227 = true then (if 0 <= (l0_0.length : Int) then (if ((l0_0.length : Int) : Int).toNat <= 281474976710656 then (lazycref09_Components.l0 k (([] : List (List Int))) (List.replicate ((l0_0.length : Int) : Int).toNat false) 0 l0_0) else (none)) else (none)) else (some ([] : List (List Int))))
theorem lazycref09_Components.calls (k : Nat) (A0_0 : Option Addr) (c0_0 : Nat) (l0_0 : List (List Int)) (r : List (List Int)) (w : World) (hr0_0 : Kd.C (Kd.slice 3 (Kd.int .i64)) w A0_0 l0_0.length l0_0) (hc0_0 : l0_0.length <= c0_0) (h : lazycref09_Components.f k l0_0 = some r) :
 Calls Try.prog 13 #[.agg #[.slice A0_0 l0_0.length c0_0]] w fun e w' => ∃ v0_ : Value, e = .returned (v0_) /\ Kd.N (Kd.slice 3 (Kd.int .i64)) 32 w' w.heap.size (fun k_ => (w.heap.size <= k_)) v0_ r /\ Below w.heap.size w w' := by
 have hu24 := Try.underlying24
 have HR0_0 := aM hr0_0
 have HC0_0 := aM hc0_0
 clear hr0_0 hc0_0
 have HB := aM (Below.refl w.heap.size w)
 have H : ((lazycref09_Valid.f k l0_0).bind fun t227 => (if t227 = true then (if 0 <= (l0_0.length : Int) then (if ((l0_0.length : Int) : Int).toNat <= 281474976710656 then (lazycref09_Components.l0 k (([] : List (List Int))) (List.replicate ((l0_0.length : Int) : Int).toNat false) 0 l0_0) else (none)) else (none)) else (some ([] : List (List Int))))) = some r := h
 clear h
 replace H := Option.bind_eq_some_iff.mp H
 obtain ⟨t227, A20, H⟩ := H
 replace H : (if t227 = true then (if 0 <= (l0_0.length : Int) then (if ((l0_0.length : Int) : Int).toNat <= 281474976710656 then (lazycref09_Components.l0 k (([] : List (List Int))) (List.replicate ((l0_0.length : Int) : Int).toNat false) 0 l0_0) else (none)) else (none)) else (some ([] : List (List Int)))) = some r := H
 have A2 := aM A20
 clear A20
 by_cases c3 : t227 = true
 rotate_left
 · replace c3 := Bool.eq_false_iff.mpr c3
   subst c3
   have H1 : (some ([] : List (List Int))) = some r := by rw [if_neg (show ¬ (false = true) by decide)] at H; exact H
   clear H
   have H := H1
   clear H1
   obtain rfl := Option.some.inj H
   go_enter Try.func13, Try.ntmps13
   go_wp2_with (first | ((with_reducible refine gate_dst (N := 1) rfl ?_); refine box_event ?hg (N := 1) ?hd (cs := #[.slice A0_0 l0_0.length c0_0]) (t := 24) ?hr ?_; (case hd => rfl); (case hg => rfl); (case hr => first | (go_simp; done) | (go_simp; rfl)); intro gb226 hg w46 hbox hb; have n0_ := aM (below_step (by repeat (first | (with_reducible first | exact HB.1 | apply bA | apply bN | apply bD) | exact HB.1)) hb); have n1_ := aM (hbox); have n2_ := aM ((by rw [hg]; exact (below_size (by repeat (first | (with_reducible first | exact HB.1 | apply bA | apply bN | apply bD) | exact HB.1))) : w.heap.size <= gb226)); have n3_ := aM ((by rw [hg]; exact (below_size (by repeat (first | (with_reducible first | exact HB.1 | apply bA | apply bN | apply bD) | exact HB.1))) : w.heap.size <= gb226)); clear HB; have HB := n0_; have BK226 := n1_; have GW226 := n2_; have GE226 := n3_; clear n0_ n1_ n2_ n3_; clear hb hbox hg; have hcz47_0 : w46.cell? ⟨gb226, 0, none⟩ = some (.slice A0_0 l0_0.length c0_0) := (blk_cell BK226.1 0).trans rfl; have hfz47_0 := blk_frozen BK226.1 0) | ((with_reducible refine gate_callee (f := 16) rfl ?_); refine goesL_ (some 9) rfl rfl Try.func16 (by kernel_rfl) rfl #[.agg #[.slice A0_0 l0_0.length c0_0]] rfl (by (try simp only [List.map_toArray, List.map_cons, List.map_nil]); first | done | rfl | (simp only [List.length_drop, List.length_take]; rfl)) ?_; (with_reducible refine (lazycref09_Valid.calls k _ _ l0_0 false _ ?side1 ?side2 A2.1).mono ?_); (case side1 => repeat (first | exact (C_below HR0_0.1 HB.1) | (with_reducible refine C_alloc ?_ _) | (with_reducible refine C_drewN ?_ _) | (with_reducible refine C_drew ?_))); (case side2 => exact HC0_0.1); rintro e w48 ⟨rfl, hb⟩; refine ⟨_, rfl, ?_⟩; have n0_ := aM (blk_below (g := gb226) (o := .cells #[.slice A0_0 l0_0.length c0_0] 24 (0, 0)) (by (with_reducible repeat (first | refine kN ?_ _ | refine kD ?_ | refine kA ?_ _)); exact BK226.1) hb); have n1_ := aM (below_step (by repeat (first | (with_reducible first | exact HB.1 | apply bA | apply bN | apply bD | refine below_set ?_ GE226.1) | exact HB.1)) hb); clear BK226; clear HB; have BK226 := n0_; have HB := n1_; clear n0_ n1_; (try clear hb); (try clear hb2); (try clear hk); (try clear hi)))
   go_ret
   exact ⟨_, by first | rfl | (simp [errW_none, errW_some] <;> rfl) | (simp [*, errW_none, errW_some] <;> rfl), by first | exact S_nil _ _ _ _ _ | exact N_nil _ _ _ _ _ | exact V_nil _ _ _ _ _ | exact Q_nil _ _ _ _ _ | exact R_nil _ _ _ _ _, by repeat (first | (with_reducible first | exact HB.1 | apply bA | apply bN | apply bD | refine below_set ?_ GE226.1) | exact HB.1)⟩
 subst c3
 have H1 : (if 0 <= (l0_0.length : Int) then (if ((l0_0.length : Int) : Int).toNat <= 281474976710656 then (lazycref09_Components.l0 k (([] : List (List Int))) (List.replicate ((l0_0.length : Int) : Int).toNat false) 0 l0_0) else (none)) else (none)) = some r := by rw [if_pos rfl] at H; exact H
 clear H
 have H := H1
 clear H1
 obtain ⟨y228, hy228⟩ : ∃ y_ : List (List Int), y_ = (([] : List (List Int))) := ⟨_, rfl⟩
 replace H : (if 0 <= (l0_0.length : Int) then (if ((l0_0.length : Int) : Int).toNat <= 281474976710656 then (lazycref09_Components.l0 k y228 (List.replicate ((l0_0.length : Int) : Int).toNat false) 0 l0_0) else (none)) else (none)) = some r := by first | (rw [hy228]; with_reducible exact H) | (have H2_ := (Option.bind_some _ _).symm.trans H; rw [hy228]; with_reducible exact H2_) | (have H2_ := (Option.bind_some _ _).symm.trans H; with_reducible exact H2_) | with_reducible exact H | (rw [hy228]; exact H) | exact H
 have Ny228 := aM hy228
 clear hy228
 by_cases c4 : 0 <= (l0_0.length : Int)
 rotate_left
 · rw [if_neg c4] at H
   exact absurd H (by simp)
 rw [if_pos c4] at H
 have c4b0 := eq_true c4
 have c4b1 : decide (0 <= (l0_0.length : Int)) = true := decide_eq_true c4
 clear c4
 by_cases c5 : ((l0_0.length : Int) : Int).toNat <= 281474976710656
 rotate_left
 · rw [if_neg c5] at H
   exact absurd H (by simp)
 rw [if_pos c5] at H
 have c5b0 := eq_true c5
 have c5b1 : decide (((l0_0.length : Int) : Int).toNat <= 281474976710656) = true := decide_eq_true c5
 clear c5
 obtain ⟨y231, hy231⟩ : ∃ y_ : List Bool, y_ = (List.replicate ((l0_0.length : Int) : Int).toNat false) := ⟨_, rfl⟩
 replace H : (lazycref09_Components.l0 k y228 y231 0 l0_0) = some r := by first | (rw [hy231]; with_reducible exact H) | (have H2_ := (Option.bind_some _ _).symm.trans H; rw [hy231]; with_reducible exact H2_) | (have H2_ := (Option.bind_some _ _).symm.trans H; with_reducible exact H2_) | with_reducible exact H | (rw [hy231]; exact H) | exact H
 have Ny231 := aM hy231
 clear hy231
 have H' := aM H
 clear H
 go_enter Try.func13, Try.ntmps13
 go_wp2_with (first | ((with_reducible refine gate_dst (N := 1) rfl ?_); refine box_event ?hg (N := 1) ?hd (cs := #[.slice A0_0 l0_0.length c0_0]) (t := 24) ?hr ?_; (case hd => rfl); (case hg => rfl); (case hr => first | (go_simp; done) | (go_simp; rfl)); intro gb226 hg w6 hbox hb; have n0_ := aM (below_step (by repeat (first | (with_reducible first | exact HB.1 | apply bA | apply bN | apply bD) | exact HB.1)) hb); have n1_ := aM (hbox); have n2_ := aM ((by rw [hg]; exact (below_size (by repeat (first | (with_reducible first | exact HB.1 | apply bA | apply bN | apply bD) | exact HB.1))) : w.heap.size <= gb226)); have n3_ := aM ((by rw [hg]; exact (below_size (by repeat (first | (with_reducible first | exact HB.1 | apply bA | apply bN | apply bD) | exact HB.1))) : w.heap.size <= gb226)); clear HB; have HB := n0_; have BK226 := n1_; have GW226 := n2_; have GE226 := n3_; clear n0_ n1_ n2_ n3_; clear hb hbox hg; have hcz7_0 : w6.cell? ⟨gb226, 0, none⟩ = some (.slice A0_0 l0_0.length c0_0) := (blk_cell BK226.1 0).trans rfl; have hfz7_0 := blk_frozen BK226.1 0) | ((with_reducible refine gate_callee (f := 16) rfl ?_); refine goesL_ (some 9) rfl rfl Try.func16 (by kernel_rfl) rfl #[.agg #[.slice A0_0 l0_0.length c0_0]] rfl (by (try simp only [List.map_toArray, List.map_cons, List.map_nil]); first | done | rfl | (simp only [List.length_drop, List.length_take]; rfl)) ?_; (with_reducible refine (lazycref09_Valid.calls k _ _ l0_0 true _ ?side1 ?side2 A2.1).mono ?_); (case side1 => repeat (first | exact (C_below HR0_0.1 HB.1) | (with_reducible refine C_alloc ?_ _) | (with_reducible refine C_drewN ?_ _) | (with_reducible refine C_drew ?_))); (case side2 => exact HC0_0.1); rintro e w8 ⟨rfl, hb⟩; refine ⟨_, rfl, ?_⟩; have n0_ := aM (blk_below (g := gb226) (o := .cells #[.slice A0_0 l0_0.length c0_0] 24 (0, 0)) (by (with_reducible repeat (first | refine kN ?_ _ | refine kD ?_ | refine kA ?_ _)); exact BK226.1) hb); have n1_ := aM (below_step (by repeat (first | (with_reducible first | exact HB.1 | apply bA | apply bN | apply bD | refine below_set ?_ GE226.1) | exact HB.1)) hb); clear BK226; clear HB; have BK226 := n0_; have HB := n1_; clear n0_ n1_; (try clear hb); (try clear hb2); (try clear hk); (try clear hi)) | ((with_reducible refine gate_dst (N := 11) rfl ?_); refine N_lit (Kd.slice 3 (Kd.int .i64)) _ 32 ?hg (N' := 11) ?hd (xs := ([] : List (List Int))) (inner := []) (ok := (fun k_ => (w.heap.size <= k_) /\ k_ ≠ gb226)) (okp := (fun k_ => (w.heap.size <= k_) /\ k_ ≠ gb226)) ?hr ?hp (fun _ hk => hk) ((show ∀ k_, w8.heap.size <= k_ -> (fun k_ => (w.heap.size <= k_) /\ k_ ≠ gb226) k_ from fun k_ hk => ⟨(Nat.le_trans (below_size (by repeat (first | (with_reducible first | exact HB.1 | apply bA | apply bN | apply bD | refine below_set ?_ GE226.1) | exact HB.1))) hk), Kd.freshB (g := gb226) (o := .cells #[.slice A0_0 l0_0.length c0_0] 24 (0, 0)) (by (with_reducible repeat (first | refine kN ?_ _ | refine kD ?_ | refine kA ?_ _)); exact BK226.1) k_ hk⟩) _ (Nat.le_refl _)) (Below.refl _ _) (Nat.le_refl _) (by simp) ?_; (case hd => rfl); (case hg => rfl); (case hr => first | (go_simp; done) | (go_simp; rfl)); (case hp => exact (Reps.none _ _)); intro v229 w9 ho10 hb hg_ hnew_; clear hg_ hnew_; (first | rw [<- Ny228.1] at ho10 | (simp only [Int.reduceToNat] at ho10; rw [<- Ny228.1] at ho10)); have n0_ := aM (N_lower ho10 (below_size (by repeat (first | (with_reducible first | exact HB.1 | apply bA | apply bN | apply bD | refine below_set ?_ GE226.1) | exact HB.1)))); have n1_ := aM (blk_below (g := gb226) (o := .cells #[.slice A0_0 l0_0.length c0_0] 24 (0, 0)) (by (with_reducible repeat (first | refine kN ?_ _ | refine kD ?_ | refine kA ?_ _)); exact BK226.1) hb); have n2_ := aM (below_step (by repeat (first | (with_reducible first | exact HB.1 | apply bA | apply bN | apply bD | refine below_set ?_ GE226.1) | exact HB.1)) hb); clear BK226; clear HB; have HO230 := n0_; have BK226 := n1_; have HB := n2_; clear n0_ n1_ n2_; clear hb ho10; have hcz11_0 : w9.cell? ⟨gb226, 0, none⟩ = some (.slice A0_0 l0_0.length c0_0) := (blk_cell BK226.1 0).trans rfl; have hfz11_0 := blk_frozen BK226.1 0) | ((with_reducible refine gate_dst (N := 15) rfl ?_); refine R_make Kd.bool _ 4 rfl (N := 15) rfl 48 _ _ rfl (l0_0.length : Int) rfl rfl Try.underlying48 (.bool false) 1 info4 rfl (by decide) (by omega) false (ok := fun _ => True) (okp := fun _ => True) rfl (fun _ hk => hk) trivial (of_decide_eq_true (by first | (with_reducible assumption) | assumption)) (Nat.le_trans (Nat.mul_le_mul_right _ (of_decide_eq_true (by first | (with_reducible assumption) | assumption) : (l0_0.length : Int).toNat <= 281474976710656)) (by omega)) (Below.refl _ _) (Nat.le_refl _) ?_; intro v232 w12 ho13 hb hg_ hnew_; clear hg_ hnew_; (first | rw [<- Ny231.1] at ho13 | (simp only [Int.reduceToNat] at ho13; rw [<- Ny231.1] at ho13)); have n0_ := aM (N_elder' (by (with_reducible repeat (first | apply N_alloc | apply N_drewN | apply N_drew)); exact HO230.1) (R_base ho13) hb); have n1_ := aM (R_lower (R_newM (M := fun k_ => (w.heap.size <= k_)) ho13 (below_size (by repeat (first | (with_reducible first | exact HB.1 | apply bA | apply bN | apply bD | refine below_set ?_ GE226.1) | exact HB.1))) (fun k_ h_ => h_)) (below_size (by repeat (first | (with_reducible first | exact HB.1 | apply bA | apply bN | apply bD | refine below_set ?_ GE226.1) | exact HB.1)))); have n2_ := aM (blk_below (g := gb226) (o := .cells #[.slice A0_0 l0_0.length c0_0] 24 (0, 0)) (by (with_reducible repeat (first | refine kN ?_ _ | refine kD ?_ | refine kA ?_ _)); exact BK226.1) hb); have n3_ := aM (below_step (by repeat (first | (with_reducible first | exact HB.1 | apply bA | apply bN | apply bD | refine below_set ?_ GE226.1) | exact HB.1)) hb); clear HO230; clear BK226; clear HB; have HO230 := n0_; have HO233 := n1_; have BK226 := n2_; have HB := n3_; clear n0_ n1_ n2_ n3_; clear hb ho13))
 go_loopg [3, 5] k (fun kq v3 v5 w' => ∃ (x3_1 : List (List Int)) (x4_1 : List Bool) (x5_1 : Int), v5 = .int .i64 x5_1 /\ Az (lazycref09_Components.l0 kq x3_1 x4_1 x5_1 l0_0 = some r) /\ Az (kq <= k) /\ Az (Kd.N (Kd.slice 3 (Kd.int .i64)) 32 w' w.heap.size (fun k_ => (w.heap.size <= k_) /\ some k_ ≠ (v232 : Value).ownBlock /\ k_ ≠ gb226) v3 x3_1) /\ Az (Kd.R Kd.bool 4 w' w.heap.size (fun k_ => (w.heap.size <= k_)) v232 x4_1) /\ Az (w'.heap[gb226]? = some (.cells #[(.slice A0_0 l0_0.length c0_0)] 24 (0, 0))) /\ Az (Below w.heap.size w w'))
 case atStart => exact ⟨(y228), (y231), (0), (by first | rfl | (simp; done) | (simp [*]; done)), H', ⟨Nat.le_refl _⟩, ⟨by (with_reducible repeat (first | apply N_alloc | apply N_drewN | apply N_drew)); exact N_mono HO230.1 (fun _ hk => ⟨hk.1.1, ⟨hk.2, hk.1.2⟩⟩)⟩, ⟨by (with_reducible repeat (first | apply R_alloc | apply R_drewN | apply R_drew)); exact R_mono HO233.1 (fun _ hk => hk.1)⟩, ⟨by (with_reducible repeat (first | refine kN ?_ _ | refine kD ?_ | refine kA ?_ _)); exact BK226.1⟩, ⟨by repeat (first | (with_reducible first | exact HB.1 | apply bA | apply bN | apply bD | refine below_set ?_ GE226.1) | exact HB.1)⟩⟩
 case round =>
  clear H'
  try clear c1
  try clear p2
  try clear c3
  try clear c4
  try clear c4b0
  try clear c4b1
  try clear c5
  try clear c5b0
  try clear c5b1
  try clear c13
  try clear hcz11_0
  try clear hcz7_0
  try clear hfz11_0
  try clear hfz7_0
  obtain ⟨x3_1, x4_1, x5_1, rfl, HA, HK1, HO_3, HO_4, BK226, HB⟩ := hrel
  cases gk with
  | zero => exact absurd HA.1 (by simp [lazycref09_Components.l0])
  | succ k1 =>
   have H := HA.1
   clear HA
   simp only [lazycref09_Components.l0] at H
   by_cases c14 : x5_1 < (l0_0.length : Int)
   rotate_left
   · rw [if_neg c14] at H
     have c14b0 : decide (x5_1 < (l0_0.length : Int)) = false := decide_eq_false c14
     clear c14
     obtain rfl := Option.some.inj H
     have hcz45_0 : wr.cell? ⟨gb226, 0, none⟩ = some (.slice A0_0 l0_0.length c0_0) := (blk_cell BK226.1 0).trans rfl
     have hfz45_0 := blk_frozen BK226.1 0
     go_wp2
     go_ret
     exact ⟨_, by first | rfl | (simp [errW_none, errW_some] <;> rfl) | (simp [*, errW_none, errW_some] <;> rfl), by (with_reducible repeat (first | apply N_alloc | apply N_drewN | apply N_drew)); exact N_mono HO_3.1 (fun _ hk => hk.1), by repeat (first | (with_reducible first | exact HB.1 | apply bA | apply bN | apply bD | refine below_set ?_ GE226.1) | exact HB.1)⟩
   rw [if_pos c14] at H
   have c14b0 : decide (x5_1 < (l0_0.length : Int)) = true := decide_eq_true c14
   clear c14
   by_cases c15 : 0 <= x5_1
   rotate_left
   · rw [if_neg c15] at H
     exact absurd H (by simp)
   rw [if_pos c15] at H
   have c15b0 : decide (0 <= x5_1) = true := decide_eq_true c15
   clear c15
   by_cases c16 : x5_1 < (x4_1.length : Int)
   rotate_left
   · rw [if_neg c16] at H
     exact absurd H (by simp)
   rw [if_pos c16] at H
   have c16b0 : decide (x5_1 < (x4_1.length : Int)) = true := decide_eq_true c16
   clear c16
   obtain ⟨bq17, hbq17⟩ : ∃ b_ : Bool, b_ = (rdOf false x4_1 x5_1) := ⟨_, rfl⟩
   replace H : (if bq17 = true then (lazycref09_Components.l0 k1 x3_1 x4_1 (wrap64 (x5_1 + 1)) l0_0) else ((lazycref09_component.f k1 l0_0 x5_1).bind fun t235 => ((lazycref09_ready.f k1 l0_0 t235 x4_1).bind fun t238 => (if t238 = true then (if x3_1.length < 5864062014805 then (lazycref09_Components.l1 k1 (x3_1 ++ [t235]) x4_1 t235 0 l0_0) else (none)) else (lazycref09_Components.l0 k1 x3_1 x4_1 (wrap64 (x5_1 + 1)) l0_0))))) = some r := by rw [<- hbq17] at H; exact H
   have Nbq17 := aM hbq17
   clear hbq17
   by_cases c18 : bq17 = true
   · subst c18
     have H1 : (lazycref09_Components.l0 k1 x3_1 x4_1 (wrap64 (x5_1 + 1)) l0_0) = some r := by rw [if_pos rfl] at H; exact H
     clear H
     have H := H1
     clear H1
     have H' := aM H
     clear H
     have hcz19_0 : wr.cell? ⟨gb226, 0, none⟩ = some (.slice A0_0 l0_0.length c0_0) := (blk_cell BK226.1 0).trans rfl
     have hfz19_0 := blk_frozen BK226.1 0
     obtain ⟨Ao20, co20, eo20⟩ := R_slice HO_4.1
     subst eo20
     have p234 : 0 <= (x5_1 : Int) := of_decide_eq_true (by first | (with_reducible assumption) | assumption)
     have q234 : x5_1 < (x4_1.length : Int) := of_decide_eq_true (by first | (with_reducible assumption) | assumption)
     obtain ⟨ad234, e234, hx234_0⟩ := Kd.at_bool (R_reads' HO_4.1).2.2 x5_1 p234 q234
     (try rw [<- Nbq17.1] at hx234_0)
     cases e234
     replace p234 := eq_true p234
     replace q234 := eq_true q234
     go_wp2
     go_roundg k1
     case measure => have := HK1.1; omega
     case rel => exact ⟨(x3_1), (x4_1), (wrap64 (x5_1 + 1)), (by first | rfl | (simp; done) | (simp [*]; done)), H', ⟨by have := HK1.1; omega⟩, ⟨by (with_reducible repeat (first | apply N_alloc | apply N_drewN | apply N_drew)); exact HO_3.1⟩, ⟨by (with_reducible repeat (first | apply R_alloc | apply R_drewN | apply R_drew)); exact HO_4.1⟩, ⟨by (with_reducible repeat (first | refine kN ?_ _ | refine kD ?_ | refine kA ?_ _)); exact BK226.1⟩, ⟨by repeat (first | (with_reducible first | exact HB.1 | apply bA | apply bN | apply bD | refine below_set ?_ GE226.1) | exact HB.1)⟩⟩
   replace c18 := Bool.eq_false_iff.mpr c18
   subst c18
   have H1 : ((lazycref09_component.f k1 l0_0 x5_1).bind fun t235 => ((lazycref09_ready.f k1 l0_0 t235 x4_1).bind fun t238 => (if t238 = true then (if x3_1.length < 5864062014805 then (lazycref09_Components.l1 k1 (x3_1 ++ [t235]) x4_1 t235 0 l0_0) else (none)) else (lazycref09_Components.l0 k1 x3_1 x4_1 (wrap64 (x5_1 + 1)) l0_0)))) = some r := by rw [if_neg (show ¬ (false = true) by decide)] at H; exact H
   clear H
   have H := H1
   clear H1
   replace H := Option.bind_eq_some_iff.mp H
   obtain ⟨t235, A210, H⟩ := H
   replace H : ((lazycref09_ready.f k1 l0_0 t235 x4_1).bind fun t238 => (if t238 = true then (if x3_1.length < 5864062014805 then (lazycref09_Components.l1 k1 (x3_1 ++ [t235]) x4_1 t235 0 l0_0) else (none)) else (lazycref09_Components.l0 k1 x3_1 x4_1 (wrap64 (x5_1 + 1)) l0_0))) = some r := H
   have A21 := aM A210
   clear A210
   replace H := Option.bind_eq_some_iff.mp H
   obtain ⟨t238, A220, H⟩ := H
   replace H : (if t238 = true then (if x3_1.length < 5864062014805 then (lazycref09_Components.l1 k1 (x3_1 ++ [t235]) x4_1 t235 0 l0_0) else (none)) else (lazycref09_Components.l0 k1 x3_1 x4_1 (wrap64 (x5_1 + 1)) l0_0)) = some r := H
   have A22 := aM A220
   clear A220
   by_cases c23 : t238 = true
   rotate_left
   · replace c23 := Bool.eq_false_iff.mpr c23
     subst c23
     have H1 : (lazycref09_Components.l0 k1 x3_1 x4_1 (wrap64 (x5_1 + 1)) l0_0) = some r := by rw [if_neg (show ¬ (false = true) by decide)] at H; exact H
     clear H
     have H := H1
     clear H1
     have H' := aM H
     clear H
     have hcz39_0 : wr.cell? ⟨gb226, 0, none⟩ = some (.slice A0_0 l0_0.length c0_0) := (blk_cell BK226.1 0).trans rfl
     have hfz39_0 := blk_frozen BK226.1 0
     obtain ⟨Ao40, co40, eo40⟩ := R_slice HO_4.1
     subst eo40
     have p234 : 0 <= (x5_1 : Int) := of_decide_eq_true (by first | (with_reducible assumption) | assumption)
     have q234 : x5_1 < (x4_1.length : Int) := of_decide_eq_true (by first | (with_reducible assumption) | assumption)
     obtain ⟨ad234, e234, hx234_0⟩ := Kd.at_bool (R_reads' HO_4.1).2.2 x5_1 p234 q234
     (try rw [<- Nbq17.1] at hx234_0)
     cases e234
     replace p234 := eq_true p234
     replace q234 := eq_true q234
     go_wp2_with (first | ((with_reducible refine gate_callee (f := 29) rfl ?_); refine goesL_ (some 29) rfl rfl Try.func29 (by kernel_rfl) rfl #[.agg #[.slice A0_0 l0_0.length c0_0], .int .i64 x5_1] rfl (by (try simp only [List.map_toArray, List.map_cons, List.map_nil]); first | done | rfl | (simp only [List.length_drop, List.length_take]; rfl)) ?_; (with_reducible refine (lazycref09_component.calls k1 _ _ l0_0 x5_1 t235 _ ?side1 ?side2 A21.1).mono ?_); (case side1 => repeat (first | exact (C_below HR0_0.1 HB.1) | (with_reducible refine C_alloc ?_ _) | (with_reducible refine C_drewN ?_ _) | (with_reducible refine C_drew ?_))); (case side2 => exact HC0_0.1); rintro e w41 ⟨v236, rfl, ho0, hb⟩; refine ⟨_, rfl, ?_⟩; have n0_ := aM (N_below (by (with_reducible repeat (first | apply N_alloc | apply N_drewN | apply N_drew)); exact HO_3.1) hb); have n1_ := aM (R_below (by (with_reducible repeat (first | apply R_alloc | apply R_drewN | apply R_drew)); exact HO_4.1) hb); have n2_ := aM (V_lower (V_mono (ok' := fun k_ => (w.heap.size <= k_) /\ some k_ ≠ (u3 : Value).ownBlock /\ some k_ ≠ (.slice (some ad234) x4_1.length co40 : Value).ownBlock /\ k_ ≠ gb226) ho0 (fun k_ hk_ => ⟨(Nat.le_trans (below_size (by repeat (first | (with_reducible first | exact HB.1 | apply bA | apply bN | apply bD | refine below_set ?_ GE226.1) | exact HB.1))) hk_), (Kd.fresh' (N_lt (by (with_reducible repeat (first | apply N_alloc | apply N_drewN | apply N_drew)); exact HO_3.1)) k_ hk_), (Kd.fresh' (R_lt (by (with_reducible repeat (first | apply R_alloc | apply R_drewN | apply R_drew)); exact HO_4.1)) k_ hk_), (Kd.freshB (g := gb226) (o := .cells #[.slice A0_0 l0_0.length c0_0] 24 (0, 0)) (by (with_reducible repeat (first | refine kN ?_ _ | refine kD ?_ | refine kA ?_ _)); exact BK226.1) k_ hk_)⟩)) (below_size (by repeat (first | (with_reducible first | exact HB.1 | apply bA | apply bN | apply bD | refine below_set ?_ GE226.1) | exact HB.1)))); have n3_ := aM (blk_below (g := gb226) (o := .cells #[.slice A0_0 l0_0.length c0_0] 24 (0, 0)) (by (with_reducible repeat (first | refine kN ?_ _ | refine kD ?_ | refine kA ?_ _)); exact BK226.1) hb); have n4_ := aM (below_step (by repeat (first | (with_reducible first | exact HB.1 | apply bA | apply bN | apply bD | refine below_set ?_ GE226.1) | exact HB.1)) hb); clear HO_3; clear HO_4; clear BK226; clear HB; have HO_3 := n0_; have HO_4 := n1_; have HO237 := n2_; have BK226 := n3_; have HB := n4_; clear n0_ n1_ n2_ n3_ n4_; (try clear hb); (try clear hb2); (try clear hk); (try clear hi); (try clear ho0); have hcz42_0 : w41.cell? ⟨gb226, 0, none⟩ = some (.slice A0_0 l0_0.length c0_0) := (blk_cell BK226.1 0).trans rfl; have hfz42_0 := blk_frozen BK226.1 0; obtain ⟨Ao43, co43, eo43⟩ := V_slice HO237.1; subst eo43) | ((with_reducible refine gate_callee (f := 30) rfl ?_); refine goesL_ (some 33) rfl rfl Try.func30 (by kernel_rfl) rfl #[.agg #[.slice A0_0 l0_0.length c0_0], .slice Ao43 t235.length co43, .slice (some ad234) x4_1.length co40] rfl (by (try simp only [List.map_toArray, List.map_cons, List.map_nil]); first | done | rfl | (simp only [List.length_drop, List.length_take]; rfl)) ?_; (with_reducible refine (lazycref09_ready.calls k1 _ _ l0_0 _ _ t235 _ _ x4_1 false _ ?side1 ?side2 ?side3 ?side4 ?side5 ?side6 A22.1).mono ?_); (case side1 => repeat (first | exact (C_below HR0_0.1 HB.1) | (with_reducible refine C_alloc ?_ _) | (with_reducible refine C_drewN ?_ _) | (with_reducible refine C_drew ?_))); (case side2 => exact HC0_0.1); (case side3 => repeat (first | exact (V_reads' HO237.1).2.2 | (with_reducible refine C_alloc ?_ _) | (with_reducible refine C_drewN ?_ _) | (with_reducible refine C_drew ?_))); (case side4 => exact (V_reads' HO237.1).2.1); (case side5 => repeat (first | exact (R_reads' HO_4.1).2.2 | (with_reducible refine C_alloc ?_ _) | (with_reducible refine C_drewN ?_ _) | (with_reducible refine C_drew ?_))); (case side6 => exact (R_reads' HO_4.1).2.1); rintro e w44 ⟨rfl, hb⟩; refine ⟨_, rfl, ?_⟩; have n0_ := aM (N_below (by (with_reducible repeat (first | apply N_alloc | apply N_drewN | apply N_drew)); exact HO_3.1) hb); have n1_ := aM (R_below (by (with_reducible repeat (first | apply R_alloc | apply R_drewN | apply R_drew)); exact HO_4.1) hb); have n2_ := aM (V_below (by (with_reducible repeat (first | apply V_alloc | apply V_drewN | apply V_drew)); exact HO237.1) hb); have n3_ := aM (blk_below (g := gb226) (o := .cells #[.slice A0_0 l0_0.length c0_0] 24 (0, 0)) (by (with_reducible repeat (first | refine kN ?_ _ | refine kD ?_ | refine kA ?_ _)); exact BK226.1) hb); have n4_ := aM (below_step (by repeat (first | (with_reducible first | exact HB.1 | apply bA | apply bN | apply bD | refine below_set ?_ GE226.1) | exact HB.1)) hb); clear HO_3; clear HO_4; clear HO237; clear BK226; clear HB; have HO_3 := n0_; have HO_4 := n1_; have HO237 := n2_; have BK226 := n3_; have HB := n4_; clear n0_ n1_ n2_ n3_ n4_; (try clear hb); (try clear hb2); (try clear hk); (try clear hi)))
     go_roundg k1
     case measure => have := HK1.1; omega
     case rel => exact ⟨(x3_1), (x4_1), (wrap64 (x5_1 + 1)), (by first | rfl | (simp; done) | (simp [*]; done)), H', ⟨by have := HK1.1; omega⟩, ⟨by (with_reducible repeat (first | apply N_alloc | apply N_drewN | apply N_drew)); exact HO_3.1⟩, ⟨by (with_reducible repeat (first | apply R_alloc | apply R_drewN | apply R_drew)); exact HO_4.1⟩, ⟨by (with_reducible repeat (first | refine kN ?_ _ | refine kD ?_ | refine kA ?_ _)); exact BK226.1⟩, ⟨by repeat (first | (with_reducible first | exact HB.1 | apply bA | apply bN | apply bD | refine below_set ?_ GE226.1) | exact HB.1)⟩⟩
   subst c23
   have H1 : (if x3_1.length < 5864062014805 then (lazycref09_Components.l1 k1 (x3_1 ++ [t235]) x4_1 t235 0 l0_0) else (none)) = some r := by rw [if_pos rfl] at H; exact H
   clear H
   have H := H1
   clear H1
   by_cases c24 : x3_1.length < 5864062014805
   rotate_left
   · rw [if_neg c24] at H
     exact absurd H (by simp)
   rw [if_pos c24] at H
   have LMc24 := aM c24
   clear c24
   obtain ⟨y239, hy239⟩ : ∃ y_ : List (List Int), y_ = (x3_1 ++ [t235]) := ⟨_, rfl⟩
   replace H : (lazycref09_Components.l1 k1 y239 x4_1 t235 0 l0_0) = some r := by first | (rw [hy239]; with_reducible exact H) | (have H2_ := (Option.bind_some _ _).symm.trans H; rw [hy239]; with_reducible exact H2_) | (have H2_ := (Option.bind_some _ _).symm.trans H; with_reducible exact H2_) | with_reducible exact H | (rw [hy239]; exact H) | exact H
   have Ny239 := aM hy239
   clear hy239
   have H' := aM H
   clear H
   have hcz25_0 : wr.cell? ⟨gb226, 0, none⟩ = some (.slice A0_0 l0_0.length c0_0) := (blk_cell BK226.1 0).trans rfl
   have hfz25_0 := blk_frozen BK226.1 0
   obtain ⟨Ao26, co26, eo26⟩ := R_slice HO_4.1
   subst eo26
   have p234 : 0 <= (x5_1 : Int) := of_decide_eq_true (by first | (with_reducible assumption) | assumption)
   have q234 : x5_1 < (x4_1.length : Int) := of_decide_eq_true (by first | (with_reducible assumption) | assumption)
   obtain ⟨ad234, e234, hx234_0⟩ := Kd.at_bool (R_reads' HO_4.1).2.2 x5_1 p234 q234
   (try rw [<- Nbq17.1] at hx234_0)
   cases e234
   replace p234 := eq_true p234
   replace q234 := eq_true q234
   go_wp2_with (first | ((with_reducible refine gate_callee (f := 29) rfl ?_); refine goesL_ (some 29) rfl rfl Try.func29 (by kernel_rfl) rfl #[.agg #[.slice A0_0 l0_0.length c0_0], .int .i64 x5_1] rfl (by (try simp only [List.map_toArray, List.map_cons, List.map_nil]); first | done | rfl | (simp only [List.length_drop, List.length_take]; rfl)) ?_; (with_reducible refine (lazycref09_component.calls k1 _ _ l0_0 x5_1 t235 _ ?side1 ?side2 A21.1).mono ?_); (case side1 => repeat (first | exact (C_below HR0_0.1 HB.1) | (with_reducible refine C_alloc ?_ _) | (with_reducible refine C_drewN ?_ _) | (with_reducible refine C_drew ?_))); (case side2 => exact HC0_0.1); rintro e w27 ⟨v236, rfl, ho0, hb⟩; refine ⟨_, rfl, ?_⟩; have n0_ := aM (N_below (by (with_reducible repeat (first | apply N_alloc | apply N_drewN | apply N_drew)); exact HO_3.1) hb); have n1_ := aM (R_below (by (with_reducible repeat (first | apply R_alloc | apply R_drewN | apply R_drew)); exact HO_4.1) hb); have n2_ := aM (V_lower (V_mono (ok' := fun k_ => (w.heap.size <= k_) /\ some k_ ≠ (u3 : Value).ownBlock /\ some k_ ≠ (.slice (some ad234) x4_1.length co26 : Value).ownBlock /\ k_ ≠ gb226) ho0 (fun k_ hk_ => ⟨(Nat.le_trans (below_size (by repeat (first | (with_reducible first | exact HB.1 | apply bA | apply bN | apply bD | refine below_set ?_ GE226.1) | exact HB.1))) hk_), (Kd.fresh' (N_lt (by (with_reducible repeat (first | apply N_alloc | apply N_drewN | apply N_drew)); exact HO_3.1)) k_ hk_), (Kd.fresh' (R_lt (by (with_reducible repeat (first | apply R_alloc | apply R_drewN | apply R_drew)); exact HO_4.1)) k_ hk_), (Kd.freshB (g := gb226) (o := .cells #[.slice A0_0 l0_0.length c0_0] 24 (0, 0)) (by (with_reducible repeat (first | refine kN ?_ _ | refine kD ?_ | refine kA ?_ _)); exact BK226.1) k_ hk_)⟩)) (below_size (by repeat (first | (with_reducible first | exact HB.1 | apply bA | apply bN | apply bD | refine below_set ?_ GE226.1) | exact HB.1)))); have n3_ := aM (blk_below (g := gb226) (o := .cells #[.slice A0_0 l0_0.length c0_0] 24 (0, 0)) (by (with_reducible repeat (first | refine kN ?_ _ | refine kD ?_ | refine kA ?_ _)); exact BK226.1) hb); have n4_ := aM (below_step (by repeat (first | (with_reducible first | exact HB.1 | apply bA | apply bN | apply bD | refine below_set ?_ GE226.1) | exact HB.1)) hb); clear HO_3; clear HO_4; clear BK226; clear HB; have HO_3 := n0_; have HO_4 := n1_; have HO237 := n2_; have BK226 := n3_; have HB := n4_; clear n0_ n1_ n2_ n3_ n4_; (try clear hb); (try clear hb2); (try clear hk); (try clear hi); (try clear ho0); have hcz28_0 : w27.cell? ⟨gb226, 0, none⟩ = some (.slice A0_0 l0_0.length c0_0) := (blk_cell BK226.1 0).trans rfl; have hfz28_0 := blk_frozen BK226.1 0; obtain ⟨Ao29, co29, eo29⟩ := V_slice HO237.1; subst eo29) | ((with_reducible refine gate_callee (f := 30) rfl ?_); refine goesL_ (some 33) rfl rfl Try.func30 (by kernel_rfl) rfl #[.agg #[.slice A0_0 l0_0.length c0_0], .slice Ao29 t235.length co29, .slice (some ad234) x4_1.length co26] rfl (by (try simp only [List.map_toArray, List.map_cons, List.map_nil]); first | done | rfl | (simp only [List.length_drop, List.length_take]; rfl)) ?_; (with_reducible refine (lazycref09_ready.calls k1 _ _ l0_0 _ _ t235 _ _ x4_1 true _ ?side1 ?side2 ?side3 ?side4 ?side5 ?side6 A22.1).mono ?_); (case side1 => repeat (first | exact (C_below HR0_0.1 HB.1) | (with_reducible refine C_alloc ?_ _) | (with_reducible refine C_drewN ?_ _) | (with_reducible refine C_drew ?_))); (case side2 => exact HC0_0.1); (case side3 => repeat (first | exact (V_reads' HO237.1).2.2 | (with_reducible refine C_alloc ?_ _) | (with_reducible refine C_drewN ?_ _) | (with_reducible refine C_drew ?_))); (case side4 => exact (V_reads' HO237.1).2.1); (case side5 => repeat (first | exact (R_reads' HO_4.1).2.2 | (with_reducible refine C_alloc ?_ _) | (with_reducible refine C_drewN ?_ _) | (with_reducible refine C_drew ?_))); (case side6 => exact (R_reads' HO_4.1).2.1); rintro e w30 ⟨rfl, hb⟩; refine ⟨_, rfl, ?_⟩; have n0_ := aM (N_below (by (with_reducible repeat (first | apply N_alloc | apply N_drewN | apply N_drew)); exact HO_3.1) hb); have n1_ := aM (R_below (by (with_reducible repeat (first | apply R_alloc | apply R_drewN | apply R_drew)); exact HO_4.1) hb); have n2_ := aM (V_below (by (with_reducible repeat (first | apply V_alloc | apply V_drewN | apply V_drew)); exact HO237.1) hb); have n3_ := aM (blk_below (g := gb226) (o := .cells #[.slice A0_0 l0_0.length c0_0] 24 (0, 0)) (by (with_reducible repeat (first | refine kN ?_ _ | refine kD ?_ | refine kA ?_ _)); exact BK226.1) hb); have n4_ := aM (below_step (by repeat (first | (with_reducible first | exact HB.1 | apply bA | apply bN | apply bD | refine below_set ?_ GE226.1) | exact HB.1)) hb); clear HO_3; clear HO_4; clear HO237; clear BK226; clear HB; have HO_3 := n0_; have HO_4 := n1_; have HO237 := n2_; have BK226 := n3_; have HB := n4_; clear n0_ n1_ n2_ n3_ n4_; (try clear hb); (try clear hb2); (try clear hk); (try clear hi)) | ((with_reducible refine gate_builtin (b := .append) (xs := #[.tmp 34, .tmp 36]) rfl ?_); at_builtin; refine N_append (Kd.slice 3 (Kd.int .i64)) (w0 := w) w.heap.size rfl (.tmp 34) (.tmp 36) 22 32 (.slice none 0 0) 24 rfl Try.underlying22 info32 rfl (by decide) (by omega) u3 x3_1 t235 [.slice Ao29 t235.length co29] (fun k_ => (w.heap.size <= k_) /\ some k_ ≠ (.slice (some ad234) x4_1.length co26 : Value).ownBlock /\ k_ ≠ gb226) (fun k_ => ((fun k_ => (w.heap.size <= k_) /\ some k_ ≠ (.slice (some ad234) x4_1.length co26 : Value).ownBlock /\ k_ ≠ gb226)) k_ /\ some k_ ≠ (u3 : Value).ownBlock) rfl rfl ?aP (fun _ hk => hk) ?aF ?aO ?aB ?aS ?aL ?_; (case aP => exact (FK_slice_mk (V_reads' (V_mono (ok' := (fun k_ => ((fun k_ => (w.heap.size <= k_) /\ some k_ ≠ (.slice (some ad234) x4_1.length co26 : Value).ownBlock /\ k_ ≠ gb226)) k_ /\ some k_ ≠ (u3 : Value).ownBlock)) (HO237.1) (fun k_ hk => ⟨⟨hk.1, ⟨hk.2.2.1, hk.2.2.2⟩⟩, hk.2.1⟩))).2.1 (V_F (V_mono (ok' := (fun k_ => ((fun k_ => (w.heap.size <= k_) /\ some k_ ≠ (.slice (some ad234) x4_1.length co26 : Value).ownBlock /\ k_ ≠ gb226)) k_ /\ some k_ ≠ (u3 : Value).ownBlock)) (HO237.1) (fun k_ hk => ⟨⟨hk.1, ⟨hk.2.2.1, hk.2.2.2⟩⟩, hk.2.1⟩))))); (case aB => exact (by repeat (first | (with_reducible first | exact HB.1 | apply bA | apply bN | apply bD | refine below_set ?_ GE226.1) | exact HB.1))); (case aF => exact (fun k_ hk => ⟨(Nat.le_trans (below_size (by repeat (first | (with_reducible first | exact HB.1 | apply bA | apply bN | apply bD | refine below_set ?_ GE226.1) | exact HB.1))) hk), Kd.fresh' (R_lt (by (with_reducible repeat (first | apply R_alloc | apply R_drewN | apply R_drew)); exact HO_4.1)) k_ hk, Kd.freshB (g := gb226) (o := .cells #[.slice A0_0 l0_0.length c0_0] 24 (0, 0)) (by (with_reducible repeat (first | refine kN ?_ _ | refine kD ?_ | refine kA ?_ _)); exact BK226.1) k_ hk⟩)); (case aO => exact (by (with_reducible repeat (first | apply N_alloc | apply N_drewN | apply N_drew)); exact HO_3.1)); (case aS => exact (below_size (by repeat (first | (with_reducible first | exact HB.1 | apply bA | apply bN | apply bD | refine below_set ?_ GE226.1) | exact HB.1)))); (case aL => have := LMc24.1; omega); intro v240 w31 ho hb hg hat; rw [<- Ny239.1] at ho; have n0_ := aM (R_over' (by (with_reducible repeat (first | apply R_alloc | apply R_drewN | apply R_drew)); exact HO_4.1) (N_typed (by (with_reducible repeat (first | apply N_alloc | apply N_drewN | apply N_drew)); exact HO_3.1)) (by decide) hg); have n1_ := aM (blk_grown (g := gb226) (o := .cells #[.slice A0_0 l0_0.length c0_0] 24 (0, 0)) (by (with_reducible repeat (first | refine kN ?_ _ | refine kD ?_ | refine kA ?_ _)); exact BK226.1) hg (N_ne HO_3.1 BK226.1 (by decide))); have n2_ := aM (V_afterv (ok := (fun k_ => (w.heap.size <= k_) /\ some k_ ≠ (.slice (some ad234) x4_1.length co26 : Value).ownBlock /\ k_ ≠ gb226)) (by (with_reducible repeat (first | apply V_alloc | apply V_drewN | apply V_drew)); exact V_mono HO237.1 (fun _ hk => ⟨⟨hk.1, ⟨hk.2.2.1, hk.2.2.2⟩⟩, hk.2.1⟩)) hg hat); have n3_ := aM (hb); have n4_ := aM (ho); clear HO_4; clear BK226; clear HO237; clear HB; clear HO_3; have HO_4 := n0_; have BK226 := n1_; have HO237 := n2_; have HB := n3_; have HO241 := n4_; clear n0_ n1_ n2_ n3_ n4_; clear ho hb hg hat))
   go_loopg [7] k1 (fun kq v7 w' => ∃ (x4_2 : List Bool) (x7_2 : Int), v7 = .int .i64 x7_2 /\ Az (lazycref09_Components.l1 kq y239 x4_2 t235 x7_2 l0_0 = some r) /\ Az (kq <= k1) /\ Az (Kd.N (Kd.slice 3 (Kd.int .i64)) 32 w' w.heap.size (fun k_ => (w.heap.size <= k_) /\ some k_ ≠ ((.slice (some ad234) x4_1.length co26) : Value).ownBlock /\ k_ ≠ gb226) v240 y239) /\ Az (Kd.R Kd.bool 4 w' w.heap.size (fun k_ => (w.heap.size <= k_)) (.slice (some ad234) x4_1.length co26) x4_2) /\ Az (Kd.V (Kd.int .i64) 3 w' w.heap.size (fun k_ => (w.heap.size <= k_) /\ some k_ ≠ (v240 : Value).ownBlock /\ some k_ ≠ ((.slice (some ad234) x4_1.length co26) : Value).ownBlock /\ k_ ≠ gb226) (.slice Ao29 t235.length co29) t235) /\ Az (w'.heap[gb226]? = some (.cells #[(.slice A0_0 l0_0.length c0_0)] 24 (0, 0))) /\ Az (Below w.heap.size w w'))
   case atStart => exact ⟨(x4_1), (0), (by first | rfl | (simp; done) | (simp [*]; done)), H', ⟨Nat.le_refl _⟩, ⟨by (with_reducible repeat (first | apply N_alloc | apply N_drewN | apply N_drew)); exact HO241.1⟩, ⟨by (with_reducible repeat (first | apply R_alloc | apply R_drewN | apply R_drew)); exact HO_4.1⟩, ⟨by (with_reducible repeat (first | apply V_alloc | apply V_drewN | apply V_drew)); exact V_mono HO237.1 (fun _ hk => ⟨hk.1.1, ⟨hk.2, ⟨hk.1.2.1, hk.1.2.2⟩⟩⟩)⟩, ⟨by (with_reducible repeat (first | refine kN ?_ _ | refine kD ?_ | refine kA ?_ _)); exact BK226.1⟩, ⟨by repeat (first | (with_reducible first | exact HB.1 | apply bA | apply bN | apply bD | refine below_set ?_ GE226.1) | exact HB.1)⟩⟩
   case round =>
    clear H'
    try clear c1
    try clear q1
    try clear c2
    try clear p2
    try clear q2
    try clear hx2
    try clear c3
    try clear c4
    try clear c4b0
    try clear c4b1
    try clear c5
    try clear c5b0
    try clear c5b1
    try clear p6
    try clear c13
    try clear c14
    try clear c14b0
    try clear c15
    try clear c15b0
    try clear c16
    try clear c16b0
    try clear q17
    try clear c18
    try clear c23
    try clear p23
    try clear q23
    try clear hx23
    try clear c24
    try clear c29
    try clear c30
    try clear hcz11_0
    try clear hcz19_0
    try clear hcz25_0
    try clear hcz28_0
    try clear hcz7_0
    try clear hfz11_0
    try clear hfz19_0
    try clear hfz25_0
    try clear hfz28_0
    try clear hfz7_0
    try clear hx234_0
    try clear p2
    try clear p234
    try clear q234
    obtain ⟨x4_2, x7_2, rfl, HA, HK2, HO_3, HO_4, HO_6, BK226, HB⟩ := hrel
    have hl4_2 := (R_reads' HO_4.1).1
    rw [hl4_2] at HO_4
    (try simp only [hl4_2])
    (try simp only [hl4_2] at BK226)
    (try simp only [hl4_2] at HO_3)
    (try simp only [hl4_2] at HO_6)
    cases gk with
    | zero => exact absurd HA.1 (by simp [lazycref09_Components.l1])
    | succ k2 =>
     have H := HA.1
     clear HA
     simp only [lazycref09_Components.l1] at H
     by_cases c32 : x7_2 < (t235.length : Int)
     rotate_left
     · rw [if_neg c32] at H
       have c32b0 : decide (x7_2 < (t235.length : Int)) = false := decide_eq_false c32
       clear c32
       have H' := aM H
       clear H
       go_wp2
       (try simp only [<- hl4_2])
       go_roundg k2
       case measure => have := HK1.1; have := HK2.1; omega
       case rel => exact ⟨(y239), (x4_2), ((-1) + 1), (by first | rfl | (simp; done) | (simp [*]; done)), H', ⟨by have := HK1.1; have := HK2.1; omega⟩, ⟨by (try simp only [hl4_2]); (with_reducible repeat (first | apply N_alloc | apply N_drewN | apply N_drew)); exact HO_3.1⟩, ⟨by (try simp only [hl4_2]); (with_reducible repeat (first | apply R_alloc | apply R_drewN | apply R_drew)); exact HO_4.1⟩, ⟨by (try simp only [hl4_2]); (with_reducible repeat (first | refine kN ?_ _ | refine kD ?_ | refine kA ?_ _)); exact BK226.1⟩, ⟨by repeat (first | (with_reducible first | exact HB.1 | apply bA | apply bN | apply bD | refine below_set ?_ GE226.1) | exact HB.1)⟩⟩
     rw [if_pos c32] at H
     have c32b0 : decide (x7_2 < (t235.length : Int)) = true := decide_eq_true c32
     clear c32
     by_cases c33 : 0 <= x7_2
     rotate_left
     · rw [if_neg c33] at H
       exact absurd H (by simp)
     rw [if_pos c33] at H
     have c33b0 : decide (0 <= x7_2) = true := decide_eq_true c33
     clear c33
     by_cases c34 : 0 <= (rd t235 x7_2)
     rotate_left
     · rw [if_neg c34] at H
       exact absurd H (by simp)
     rw [if_pos c34] at H
     have c34b0 : decide (0 <= (rd t235 x7_2)) = true := decide_eq_true c34
     clear c34
     by_cases c35 : (rd t235 x7_2) < (x4_2.length : Int)
     rotate_left
     · rw [if_neg c35] at H
       exact absurd H (by simp)
     rw [if_pos c35] at H
     have c35b0 : decide ((rd t235 x7_2) < (x4_2.length : Int)) = true := decide_eq_true c35
     clear c35
     obtain ⟨y243, hy243⟩ : ∃ y_ : List Bool, y_ = (x4_2.set ((rd t235 x7_2) : Int).toNat true) := ⟨_, rfl⟩
     replace H : (lazycref09_Components.l1 k2 y239 y243 t235 (wrap64 (x7_2 + 1)) l0_0) = some r := by first | (rw [hy243]; with_reducible exact H) | (have H2_ := (Option.bind_some _ _).symm.trans H; rw [hy243]; with_reducible exact H2_) | (have H2_ := (Option.bind_some _ _).symm.trans H; with_reducible exact H2_) | with_reducible exact H | (rw [hy243]; exact H) | exact H
     have Ny243 := aM hy243
     clear hy243
     have H' := aM H
     clear H
     have p242 : 0 <= (x7_2 : Int) := of_decide_eq_true (by first | (with_reducible assumption) | assumption)
     have q242 : x7_2 < (t235.length : Int) := of_decide_eq_true (by first | (with_reducible assumption) | assumption)
     obtain ⟨ad242, e242, hx242_0⟩ := Kd.at_int (V_reads' HO_6.1).2.2 x7_2 p242 q242
     cases e242
     replace p242 := eq_true p242
     replace q242 := eq_true q242
     have p36 : 0 <= ((rd t235 x7_2) : Int) := of_decide_eq_true (by first | (with_reducible assumption) | assumption)
     have q36 : ((rd t235 x7_2) : Int) < ((x4_2.length : Int) : Int) := of_decide_eq_true (by first | (with_reducible assumption) | assumption)
     obtain ⟨go36, co36, eo36, gb36, gl36, cl36, HG36⟩ := R_form HO_4.1 (by omega)
     (first | cases eo36 | (injection eo36 with ea_ en_ ec_; (first | subst ea_ | (injection ea_ with ea_; subst ea_)); subst ec_; clear en_))
     have GB36 := aM gb36
     have GG36 := aM HG36
     clear gb36 gl36 HG36
     (first | simp only [add_plain] at hx234_0 | skip)
     obtain ⟨hx36_0, hf36_0⟩ := R_celln false HO_4.1 ((rd t235 x7_2) : Int) p36 q36
     replace p36 := eq_true p36
     replace q36 := eq_true q36
     have HP37 := R_putg HO_4.1 ((rd t235 x7_2) : Int) true
     go_wp2_with (first | ((with_reducible refine gate_store (t := 4) (p := 49) rfl ?_); refine store_event (t := 4) (p := 49) (v := ?vo_w38) (w1 := (wr.setCell ⟨go36, ((rd t235 x7_2) : Int).toNat, none⟩ (.bool true))) ?hg ?ho ?hn ?hr ?_; (case ho => rfl); (case hg => rfl); (case hn => rfl); (case hr => first | (go_simp; done) | (go_simp; rfl)); intro w38 hw; have hg : wr.grownBy w38 (some go36) := (by rw [hw]; exact HP37.2); have hp_ : Kd.R Kd.bool 4 w38 w.heap.size (fun k_ => (w.heap.size <= k_)) (.slice (some ⟨go36, 0, none⟩) x4_2.length co26) y243 := (by rw [hw, Ny243.1]; exact HP37.1); clear HP37; have n0_ := aM (N_afterv (v := (.slice (some ⟨go36, 0, none⟩) x4_2.length co26)) (v1 := (.slice (some ⟨go36, 0, none⟩) x4_2.length co26)) (ok := (fun k_ => (w.heap.size <= k_) /\ k_ ≠ gb226)) (by (with_reducible repeat (first | apply N_alloc | apply N_drewN | apply N_drew)); exact N_mono HO_3.1 (fun _ hk => ⟨⟨hk.1, hk.2.2⟩, hk.2.1⟩)) hg (.inl rfl)); have n1_ := aM (hp_); have n2_ := aM (V_afterv (v := (.slice (some ⟨go36, 0, none⟩) x4_2.length co26)) (v1 := (.slice (some ⟨go36, 0, none⟩) x4_2.length co26)) (ok := (fun k_ => (w.heap.size <= k_) /\ some k_ ≠ (v240 : Value).ownBlock /\ k_ ≠ gb226)) (by (with_reducible repeat (first | apply V_alloc | apply V_drewN | apply V_drew)); exact V_mono HO_6.1 (fun _ hk => ⟨⟨hk.1, ⟨hk.2.1, hk.2.2.2⟩⟩, hk.2.2.1⟩)) hg (.inl rfl)); have n3_ := aM (blk_grown (g := gb226) (o := .cells #[.slice A0_0 l0_0.length c0_0] 24 (0, 0)) (by (with_reducible repeat (first | refine kN ?_ _ | refine kD ?_ | refine kA ?_ _)); exact BK226.1) hg (R_ne HO_4.1 BK226.1 (by decide))); have n4_ := aM ((by rw [hw]; exact below_set (HB.1) GB36.1 : Below w.heap.size w w38)); clear HO_3; clear HO_4; clear HO_6; clear BK226; clear HB; have HO_3 := n0_; have HO_4 := n1_; have HO_6 := n2_; have BK226 := n3_; have HB := n4_; clear n0_ n1_ n2_ n3_ n4_; clear hg hw hp_))
     (try simp only [<- hl4_2])
     go_roundg k2
     case measure => have := HK1.1; have := HK2.1; omega
     case rel => exact ⟨(y243), (wrap64 (x7_2 + 1)), (by first | rfl | (simp; done) | (simp [*]; done)), H', ⟨by have := HK1.1; have := HK2.1; omega⟩, ⟨by (try simp only [hl4_2]); (with_reducible repeat (first | apply N_alloc | apply N_drewN | apply N_drew)); exact N_mono HO_3.1 (fun _ hk => ⟨hk.1.1, ⟨hk.2, hk.1.2⟩⟩)⟩, ⟨by (try simp only [hl4_2]); (with_reducible repeat (first | apply R_alloc | apply R_drewN | apply R_drew)); exact HO_4.1⟩, ⟨by (try simp only [hl4_2]); (with_reducible repeat (first | apply V_alloc | apply V_drewN | apply V_drew)); exact V_mono HO_6.1 (fun _ hk => ⟨hk.1.1, ⟨hk.1.2.1, ⟨hk.2, hk.1.2.2⟩⟩⟩)⟩, ⟨by (try simp only [hl4_2]); (with_reducible repeat (first | refine kN ?_ _ | refine kD ?_ | refine kA ?_ _)); exact BK226.1⟩, ⟨by repeat (first | (with_reducible first | exact HB.1 | apply bA | apply bN | apply bD | refine below_set ?_ GE226.1) | exact HB.1)⟩⟩
end Go.Proofs.Ytpmjpngmmphkmaa.P
namespace Go.Proofs.Ytpmjpngmmphkmaa.P
open Go.RowKit Go.Proofs.Yw.A Go.Proofs.Yw.A.Kd Go.Proofs.Yw.B Go.Proofs.Yw.C
attribute [local go_sem] max2_int min2_int max_two min_two max_three min_three max_four min_four
attribute [local go_sem high] eqA40
noncomputable def lazyclaw09_position.l0 : Nat -> List (S40) -> Int -> Int -> Int -> Option (Int)
 | 0, _, _, _, _ => none
 | k + 1, x0, x5, x320000, x320001 => if x5 < (x0.length : Int) then (if 0 <= x5 then (if (((rd_T40 x0 x5).f0) == x320000 && (((rd_T40 x0 x5).f1) == x320001)) = true then (some x5) else (lazyclaw09_position.l0 k x0 (wrap64 (x5 + 1)) x320000 x320001)) else (none)) else (some (-1))
noncomputable def lazyclaw09_position.f (k : Nat) (l0 : List (S40)) (a1_0 : Int) (a1_1 : Int) : Option (Int) := lazyclaw09_position.l0 k l0 0 a1_0 a1_1
theorem lazyclaw09_position.calls (k : Nat) (A0 : Option Addr) (c0 : Nat) (l0 : List (S40)) (a1_0 : Int) (a1_1 : Int) (r : Int) (w : World) (hr0 : Kd.C k40 w A0 l0.length l0) (hc0 : l0.length <= c0) (h : lazyclaw09_position.f k l0 a1_0 a1_1 = some r) :
 Calls Try.prog 25 #[.slice A0 l0.length c0, .agg #[.int .i64 a1_0, .int .i64 a1_1]] w fun e w' => e = .returned (.int .i64 r) /\ Below w.heap.size w w' := by
 have hu40 := Try.underlying40
 have HR0 := aM hr0
 have HC0 := aM hc0
 clear hr0 hc0
 have HB := aM (Below.refl w.heap.size w)
 have H : (lazyclaw09_position.l0 k l0 0 a1_0 a1_1) = some r := h
 clear h
 have H' := aM H
 clear H
 go_enter Try.func25, Try.ntmps25
 go_wp2_with (first | ((with_reducible refine gate_dst (N := 3) rfl ?_); refine box_event ?hg (N := 3) ?hd (cs := #[.int .i64 a1_0, .int .i64 a1_1]) (t := 40) ?hr ?_; (case hd => rfl); (case hg => rfl); (case hr => first | (go_simp; done) | (go_simp; rfl)); intro gb319 hg w3 hbox hb; have n0_ := aM (below_step (by repeat (first | (with_reducible first | exact HB.1 | apply bA | apply bN | apply bD) | exact HB.1)) hb); have n1_ := aM (hbox); have n2_ := aM ((by rw [hg]; exact (below_size (by repeat (first | (with_reducible first | exact HB.1 | apply bA | apply bN | apply bD) | exact HB.1))) : w.heap.size <= gb319)); have n3_ := aM ((by rw [hg]; exact (below_size (by repeat (first | (with_reducible first | exact HB.1 | apply bA | apply bN | apply bD) | exact HB.1))) : w.heap.size <= gb319)); clear HB; have HB := n0_; have BK319 := n1_; have GW319 := n2_; have GE319 := n3_; clear n0_ n1_ n2_ n3_; clear hb hbox hg))
 repeat (go_quiet (first | ((with_reducible refine gate_dst (N := 3) rfl ?_); refine box_event ?hg (N := 3) ?hd (cs := #[.int .i64 a1_0, .int .i64 a1_1]) (t := 40) ?hr ?_; (case hd => rfl); (case hg => rfl); (case hr => first | (go_simp; done) | (go_simp; rfl)); intro gb319 hg w3 hbox hb; have n0_ := aM (below_step (by repeat (first | (with_reducible first | exact HB.1 | apply bA | apply bN | apply bD) | exact HB.1)) hb); have n1_ := aM (hbox); have n2_ := aM ((by rw [hg]; exact (below_size (by repeat (first | (with_reducible first | exact HB.1 | apply bA | apply bN | apply bD) | exact HB.1))) : w.heap.size <= gb319)); have n3_ := aM ((by rw [hg]; exact (below_size (by repeat (first | (with_reducible first | exact HB.1 | apply bA | apply bN | apply bD) | exact HB.1))) : w.heap.size <= gb319)); clear HB; have HB := n0_; have BK319 := n1_; have GW319 := n2_; have GE319 := n3_; clear n0_ n1_ n2_ n3_; clear hb hbox hg)); try go_wp2_with (first | ((with_reducible refine gate_dst (N := 3) rfl ?_); refine box_event ?hg (N := 3) ?hd (cs := #[.int .i64 a1_0, .int .i64 a1_1]) (t := 40) ?hr ?_; (case hd => rfl); (case hg => rfl); (case hr => first | (go_simp; done) | (go_simp; rfl)); intro gb319 hg w3 hbox hb; have n0_ := aM (below_step (by repeat (first | (with_reducible first | exact HB.1 | apply bA | apply bN | apply bD) | exact HB.1)) hb); have n1_ := aM (hbox); have n2_ := aM ((by rw [hg]; exact (below_size (by repeat (first | (with_reducible first | exact HB.1 | apply bA | apply bN | apply bD) | exact HB.1))) : w.heap.size <= gb319)); have n3_ := aM ((by rw [hg]; exact (below_size (by repeat (first | (with_reducible first | exact HB.1 | apply bA | apply bN | apply bD) | exact HB.1))) : w.heap.size <= gb319)); clear HB; have HB := n0_; have BK319 := n1_; have GW319 := n2_; have GE319 := n3_; clear n0_ n1_ n2_ n3_; clear hb hbox hg)))
 go_loopg [5] k (fun kq v5 w' => ∃ (x5_1 : Int), v5 = .int .i64 x5_1 /\ Az (lazyclaw09_position.l0 kq l0 x5_1 a1_0 a1_1 = some r) /\ Az (kq <= k) /\ Az (w'.heap[gb319]? = some (.cells #[.int .i64 a1_0, .int .i64 a1_1] 40 (0, 0))) /\ Az (Below w.heap.size w w'))
 case atStart => exact ⟨(0), (by first | rfl | (simp; done) | (simp [*]; done)), H', ⟨Nat.le_refl _⟩, ⟨by (with_reducible repeat (first | refine kN ?_ _ | refine kD ?_ | refine kA ?_ _)); exact BK319.1⟩, ⟨by repeat (first | (with_reducible first | exact HB.1 | apply bA | apply bN | apply bD | refine below_set ?_ GE319.1) | exact HB.1)⟩⟩
 case round =>
  clear H'
  try clear c2
  try clear p2
  obtain ⟨x5_1, rfl, HA, HK1, BK319, HB⟩ := hrel
  cases gk with
  | zero => exact absurd HA.1 (by simp [lazyclaw09_position.l0])
  | succ k1 =>
   have H := HA.1
   clear HA
   simp only [lazyclaw09_position.l0] at H
   by_cases c4 : x5_1 < (l0.length : Int)
   rotate_left
   · rw [if_neg c4] at H
     have c4b0 : decide (x5_1 < (l0.length : Int)) = false := decide_eq_false c4
     clear c4
     obtain rfl := Option.some.inj H
     go_wp2
     repeat (go_quiet (fail); try go_wp2)
     go_ret
     exact ⟨by first | rfl | (simp [errW_none, errW_some] <;> rfl) | (simp [*, errW_none, errW_some] <;> rfl), by repeat (first | (with_reducible first | exact HB.1 | apply bA | apply bN | apply bD | refine below_set ?_ GE319.1) | exact HB.1)⟩
   rw [if_pos c4] at H
   have c4b0 : decide (x5_1 < (l0.length : Int)) = true := decide_eq_true c4
   clear c4
   by_cases c5 : 0 <= x5_1
   rotate_left
   · rw [if_neg c5] at H
     exact absurd H (by simp)
   rw [if_pos c5] at H
   have c5b0 : decide (0 <= x5_1) = true := decide_eq_true c5
   clear c5
   by_cases c6 : (((rd_T40 l0 x5_1).f0) == a1_0 && (((rd_T40 l0 x5_1).f1) == a1_1)) = true
   · rw [if_pos c6] at H
     have c6b0 : (((rd_T40 l0 x5_1).f0) == a1_0 && (((rd_T40 l0 x5_1).f1) == a1_1)) = true := c6
     (try (have c6b1 : decide (((rd_T40 l0 x5_1).f0) = a1_0 && (((rd_T40 l0 x5_1).f1) == a1_1)) = true := by simpa using c6))
     (try (have c6b2 : (((rd_T40 l0 x5_1).f0) == a1_0 && (((rd_T40 l0 x5_1).f1) == a1_1)) = true := by simpa using c6))
     clear c6
     obtain rfl := Option.some.inj H
     have p320 : 0 <= (x5_1 : Int) := of_decide_eq_true (by first | (with_reducible assumption) | assumption)
     have q320 : x5_1 < (l0.length : Int) := of_decide_eq_true (by first | (with_reducible assumption) | assumption)
     obtain ⟨ad320, e320, hx320_0, hx320_1⟩ := at_T40 HR0.1 x5_1 p320 q320
     cases e320
     replace hx320_0 := (HB.1.cell (World.block_lt_of_cell? w _ hx320_0)).trans hx320_0
     replace hx320_1 := (HB.1.cell (World.block_lt_of_cell? w _ hx320_1)).trans hx320_1
     replace p320 := eq_true p320
     replace q320 := eq_true q320
     have hcz7_0 : wr.cell? ⟨gb319, 0, none⟩ = some (.int .i64 a1_0) := (blk_cell BK319.1 0).trans rfl
     have hcz7_1 : wr.cell? ⟨gb319, 1, none⟩ = some (.int .i64 a1_1) := (blk_cell BK319.1 1).trans rfl
     have hfz7_0 := blk_frozen BK319.1 0
     have hfz7_1 := blk_frozen BK319.1 1
     go_wp2
     repeat (go_quiet (fail); try go_wp2)
     go_ret
     exact ⟨by first | rfl | (simp [errW_none, errW_some] <;> rfl) | (simp [*, errW_none, errW_some] <;> rfl), by repeat (first | (with_reducible first | exact HB.1 | apply bA | apply bN | apply bD | refine below_set ?_ GE319.1) | exact HB.1)⟩
   rw [if_neg c6] at H
   have c6b0 : (((rd_T40 l0 x5_1).f0) == a1_0 && (((rd_T40 l0 x5_1).f1) == a1_1)) = false := by simpa using c6
   (try (have c6b1 : decide (((rd_T40 l0 x5_1).f0) = a1_0 && (((rd_T40 l0 x5_1).f1) == a1_1)) = false := by simpa using c6))
   (try (have c6b2 : (((rd_T40 l0 x5_1).f0) == a1_0 && (((rd_T40 l0 x5_1).f1) == a1_1)) = false := by simpa using c6))
   (try (have c6b3 : ¬ (((rd_T40 l0 x5_1).f0) = a1_0 && (((rd_T40 l0 x5_1).f1) == a1_1)) := by simpa using c6))
   clear c6
   have H' := aM H
   clear H
   have p320 : 0 <= (x5_1 : Int) := of_decide_eq_true (by first | (with_reducible assumption) | assumption)
   have q320 : x5_1 < (l0.length : Int) := of_decide_eq_true (by first | (with_reducible assumption) | assumption)
   obtain ⟨ad320, e320, hx320_0, hx320_1⟩ := at_T40 HR0.1 x5_1 p320 q320
   cases e320
   replace hx320_0 := (HB.1.cell (World.block_lt_of_cell? w _ hx320_0)).trans hx320_0
   replace hx320_1 := (HB.1.cell (World.block_lt_of_cell? w _ hx320_1)).trans hx320_1
   replace p320 := eq_true p320
   replace q320 := eq_true q320
   have hcz8_0 : wr.cell? ⟨gb319, 0, none⟩ = some (.int .i64 a1_0) := (blk_cell BK319.1 0).trans rfl
   have hcz8_1 : wr.cell? ⟨gb319, 1, none⟩ = some (.int .i64 a1_1) := (blk_cell BK319.1 1).trans rfl
   have hfz8_0 := blk_frozen BK319.1 0
   have hfz8_1 := blk_frozen BK319.1 1
   go_wp2
   repeat (go_quiet (fail); try go_wp2)
   go_roundg k1
   case measure => have := HK1.1; omega
   case rel => exact ⟨(wrap64 (x5_1 + 1)), (by first | rfl | (simp; done) | (simp [*]; done)), H', ⟨by have := HK1.1; omega⟩, ⟨by (with_reducible repeat (first | refine kN ?_ _ | refine kD ?_ | refine kA ?_ _)); exact BK319.1⟩, ⟨by repeat (first | (with_reducible first | exact HB.1 | apply bA | apply bN | apply bD | refine below_set ?_ GE319.1) | exact HB.1)⟩⟩
noncomputable def lazyclaw09_different.l0 : Nat -> List (S40) -> List (S40) -> Int -> Option ((List (S40)))
 | 0, _, _, _ => none
 | k + 1, x0, x3, x4 => if x4 < (x0.length : Int) then (if 0 <= x4 then ((lazyclaw09_position.f k x3 ((rd_T40 x0 x4).f0) ((rd_T40 x0 x4).f1)).bind fun t325 => (if t325 < 0 then (if x3.length < 8796093022208 then (lazyclaw09_different.l0 k x0 (x3 ++ [(⟨(rd_T40 x0 x4).f0, (rd_T40 x0 x4).f1⟩ : S40)]) (wrap64 (x4 + 1))) else (none)) else (lazyclaw09_different.l0 k x0 x3 (wrap64 (x4 + 1))))) else (none)) else (some x3)
noncomputable def lazyclaw09_different.f (k : Nat) (l0 : List (S40)) : Option ((List (S40))) := lazyclaw09_different.l0 k l0 (([] : List (S40))) 0
theorem lazyclaw09_different.calls (k : Nat) (A0 : Option Addr) (c0 : Nat) (l0 : List (S40)) (r : List (S40)) (w : World) (hr0 : Kd.C k40 w A0 l0.length l0) (hc0 : l0.length <= c0) (h : lazyclaw09_different.f k l0 = some r) :
 Calls Try.prog 23 #[.slice A0 l0.length c0] w fun e w' => ∃ v0_ : Value, e = .returned (v0_) /\ Kd.R k40 40 w' w.heap.size (fun _ => True) v0_ r /\ Below w.heap.size w w' := by
 have hu40 := Try.underlying40
 have HR0 := aM hr0
 have HC0 := aM hc0
 clear hr0 hc0
 have HB := aM (Below.refl w.heap.size w)
 have H : (lazyclaw09_different.l0 k l0 (([] : List (S40))) 0) = some r := h
 clear h
 obtain ⟨y321, hy321⟩ : ∃ y_ : List (S40), y_ = (([] : List (S40))) := ⟨_, rfl⟩
 replace H : (lazyclaw09_different.l0 k l0 y321 0) = some r := by first | (rw [hy321]; with_reducible exact H) | (have H2_ := (Option.bind_some _ _).symm.trans H; rw [hy321]; with_reducible exact H2_) | (have H2_ := (Option.bind_some _ _).symm.trans H; with_reducible exact H2_) | with_reducible exact H | (rw [hy321]; exact H) | exact H
 have Ny321 := aM hy321
 clear hy321
 have H' := aM H
 clear H
 go_enter Try.func23, Try.ntmps23
 go_wp2_with (first | ((with_reducible refine gate_dst (N := 5) rfl ?_); refine R_lit k40 _ 40 ?hg (N := 5) ?hd (xs := ([] : List (S40))) (inner := []) (ok := fun _ => True) (okp := fun _ => True) ?hr ?hp (fun _ hk => hk) trivial (Below.refl _ _) (Nat.le_refl _) (by simp) ?_; (case hd => rfl); (case hg => rfl); (case hr => first | (go_simp; done) | (go_simp; rfl)); (case hp => exact (Reps.none _ _)); intro v322 w2 ho3 hb hg_ hnew_; clear hg_ hnew_; (first | rw [<- Ny321.1] at ho3 | (simp only [Int.reduceToNat] at ho3; rw [<- Ny321.1] at ho3)); have n0_ := aM (R_lower ho3 (below_size (by repeat (first | (with_reducible first | exact HB.1 | apply bA | apply bN | apply bD) | exact HB.1)))); have n1_ := aM (below_step (by repeat (first | (with_reducible first | exact HB.1 | apply bA | apply bN | apply bD) | exact HB.1)) hb); clear HB; have HO323 := n0_; have HB := n1_; clear n0_ n1_; clear hb ho3))
 go_loopg [3, 4] k (fun kq v3 v4 w' => ∃ (x3_1 : List (S40)) (x4_1 : Int), v4 = .int .i64 x4_1 /\ Az (lazyclaw09_different.l0 kq l0 x3_1 x4_1 = some r) /\ Az (kq <= k) /\ Az (Kd.R k40 40 w' w.heap.size (fun _ => True) v3 x3_1) /\ Az (Below w.heap.size w w'))
 case atStart => exact ⟨(y321), (0), (by first | rfl | (simp; done) | (simp [*]; done)), H', ⟨Nat.le_refl _⟩, ⟨by (with_reducible repeat (first | apply R_alloc | apply R_drewN | apply R_drew)); exact HO323.1⟩, ⟨by repeat (first | (with_reducible first | exact HB.1 | apply bA | apply bN | apply bD) | exact HB.1)⟩⟩
 case round =>
  clear H'
  try clear c2
  try clear p2
  obtain ⟨x3_1, x4_1, rfl, HA, HK1, HO_3, HB⟩ := hrel
  cases gk with
  | zero => exact absurd HA.1 (by simp [lazyclaw09_different.l0])
  | succ k1 =>
   have H := HA.1
   clear HA
   simp only [lazyclaw09_different.l0] at H
   by_cases c4 : x4_1 < (l0.length : Int)
   rotate_left
   · rw [if_neg c4] at H
     have c4b0 : decide (x4_1 < (l0.length : Int)) = false := decide_eq_false c4
     clear c4
     obtain rfl := Option.some.inj H
     go_wp2
     go_ret
     exact ⟨_, by first | rfl | (simp [errW_none, errW_some] <;> rfl) | (simp [*, errW_none, errW_some] <;> rfl), by (with_reducible repeat (first | apply R_alloc | apply R_drewN | apply R_drew)); exact HO_3.1, by repeat (first | (with_reducible first | exact HB.1 | apply bA | apply bN | apply bD) | exact HB.1)⟩
   rw [if_pos c4] at H
   have c4b0 : decide (x4_1 < (l0.length : Int)) = true := decide_eq_true c4
   clear c4
   by_cases c5 : 0 <= x4_1
   rotate_left
   · rw [if_neg c5] at H
     exact absurd H (by simp)
   rw [if_pos c5] at H
   have c5b0 : decide (0 <= x4_1) = true := decide_eq_true c5
   clear c5
   replace H := Option.bind_eq_some_iff.mp H
   obtain ⟨t325, A60, H⟩ := H
   replace H : (if t325 < 0 then (if x3_1.length < 8796093022208 then (lazyclaw09_different.l0 k1 l0 (x3_1 ++ [(⟨(rd_T40 l0 x4_1).f0, (rd_T40 l0 x4_1).f1⟩ : S40)]) (wrap64 (x4_1 + 1))) else (none)) else (lazyclaw09_different.l0 k1 l0 x3_1 (wrap64 (x4_1 + 1)))) = some r := H
   have A6 := aM A60
   clear A60
   by_cases c7 : t325 < 0
   rotate_left
   · rw [if_neg c7] at H
     have c7b0 : decide (t325 < 0) = false := decide_eq_false c7
     clear c7
     have H' := aM H
     clear H
     have p324 : 0 <= (x4_1 : Int) := of_decide_eq_true (by first | (with_reducible assumption) | assumption)
     have q324 : x4_1 < (l0.length : Int) := of_decide_eq_true (by first | (with_reducible assumption) | assumption)
     obtain ⟨ad324, e324, hx324_0, hx324_1⟩ := at_T40 HR0.1 x4_1 p324 q324
     cases e324
     replace hx324_0 := (HB.1.cell (World.block_lt_of_cell? w _ hx324_0)).trans hx324_0
     replace hx324_1 := (HB.1.cell (World.block_lt_of_cell? w _ hx324_1)).trans hx324_1
     replace p324 := eq_true p324
     replace q324 := eq_true q324
     obtain ⟨Ao12, co12, eo12⟩ := R_slice HO_3.1
     subst eo12
     go_wp2_with (first | ((with_reducible refine gate_callee (f := 25) rfl ?_); refine goesL_ (some 17) rfl rfl Try.func25 (by kernel_rfl) rfl #[.slice Ao12 x3_1.length co12, .agg #[.int .i64 ((rd_T40 l0 x4_1).f0), .int .i64 ((rd_T40 l0 x4_1).f1)]] rfl (by (try simp only [List.map_toArray, List.map_cons, List.map_nil]); first | done | rfl | (simp only [List.length_drop, List.length_take]; rfl)) ?_; (with_reducible refine (lazyclaw09_position.calls k1 _ _ x3_1 ((rd_T40 l0 x4_1).f0) ((rd_T40 l0 x4_1).f1) t325 _ ?side1 ?side2 A6.1).mono ?_); (case side1 => repeat (first | exact (R_reads' HO_3.1).2.2 | (with_reducible refine C_alloc ?_ _) | (with_reducible refine C_drewN ?_ _) | (with_reducible refine C_drew ?_))); (case side2 => exact (R_reads' HO_3.1).2.1); rintro e w13 ⟨rfl, hb⟩; refine ⟨_, rfl, ?_⟩; have n0_ := aM (R_below (by (with_reducible repeat (first | apply R_alloc | apply R_drewN | apply R_drew)); exact HO_3.1) hb); have n1_ := aM (below_step (by repeat (first | (with_reducible first | exact HB.1 | apply bA | apply bN | apply bD) | exact HB.1)) hb); clear HO_3; clear HB; have HO_3 := n0_; have HB := n1_; clear n0_ n1_; (try clear hb); (try clear hb2); (try clear hk); (try clear hi)))
     go_roundg k1
     case measure => have := HK1.1; omega
     case rel => exact ⟨(x3_1), (wrap64 (x4_1 + 1)), (by first | rfl | (simp; done) | (simp [*]; done)), H', ⟨by have := HK1.1; omega⟩, ⟨by (with_reducible repeat (first | apply R_alloc | apply R_drewN | apply R_drew)); exact HO_3.1⟩, ⟨by repeat (first | (with_reducible first | exact HB.1 | apply bA | apply bN | apply bD) | exact HB.1)⟩⟩
   rw [if_pos c7] at H
   have c7b0 : decide (t325 < 0) = true := decide_eq_true c7
   clear c7
   by_cases c8 : x3_1.length < 8796093022208
   rotate_left
   · rw [if_neg c8] at H
     exact absurd H (by simp)
   rw [if_pos c8] at H
   have LMc8 := aM c8
   clear c8
   obtain ⟨y327, hy327⟩ : ∃ y_ : List (S40), y_ = (x3_1 ++ [(⟨(rd_T40 l0 x4_1).f0, (rd_T40 l0 x4_1).f1⟩ : S40)]) := ⟨_, rfl⟩
   replace H : (lazyclaw09_different.l0 k1 l0 y327 (wrap64 (x4_1 + 1))) = some r := by first | (rw [hy327]; with_reducible exact H) | (have H2_ := (Option.bind_some _ _).symm.trans H; rw [hy327]; with_reducible exact H2_) | (have H2_ := (Option.bind_some _ _).symm.trans H; with_reducible exact H2_) | with_reducible exact H | (rw [hy327]; exact H) | exact H
   have Ny327 := aM hy327
   clear hy327
   have H' := aM H
   clear H
   have p324 : 0 <= (x4_1 : Int) := of_decide_eq_true (by first | (with_reducible assumption) | assumption)
   have q324 : x4_1 < (l0.length : Int) := of_decide_eq_true (by first | (with_reducible assumption) | assumption)
   obtain ⟨ad324, e324, hx324_0, hx324_1⟩ := at_T40 HR0.1 x4_1 p324 q324
   cases e324
   replace hx324_0 := (HB.1.cell (World.block_lt_of_cell? w _ hx324_0)).trans hx324_0
   replace hx324_1 := (HB.1.cell (World.block_lt_of_cell? w _ hx324_1)).trans hx324_1
   replace p324 := eq_true p324
   replace q324 := eq_true q324
   obtain ⟨Ao9, co9, eo9⟩ := R_slice HO_3.1
   subst eo9
   go_wp2_with (first | ((with_reducible refine gate_callee (f := 25) rfl ?_); refine goesL_ (some 17) rfl rfl Try.func25 (by kernel_rfl) rfl #[.slice Ao9 x3_1.length co9, .agg #[.int .i64 ((rd_T40 l0 x4_1).f0), .int .i64 ((rd_T40 l0 x4_1).f1)]] rfl (by (try simp only [List.map_toArray, List.map_cons, List.map_nil]); first | done | rfl | (simp only [List.length_drop, List.length_take]; rfl)) ?_; (with_reducible refine (lazyclaw09_position.calls k1 _ _ x3_1 ((rd_T40 l0 x4_1).f0) ((rd_T40 l0 x4_1).f1) t325 _ ?side1 ?side2 A6.1).mono ?_); (case side1 => repeat (first | exact (R_reads' HO_3.1).2.2 | (with_reducible refine C_alloc ?_ _) | (with_reducible refine C_drewN ?_ _) | (with_reducible refine C_drew ?_))); (case side2 => exact (R_reads' HO_3.1).2.1); rintro e w10 ⟨rfl, hb⟩; refine ⟨_, rfl, ?_⟩; have n0_ := aM (R_below (by (with_reducible repeat (first | apply R_alloc | apply R_drewN | apply R_drew)); exact HO_3.1) hb); have n1_ := aM (below_step (by repeat (first | (with_reducible first | exact HB.1 | apply bA | apply bN | apply bD) | exact HB.1)) hb); clear HO_3; clear HB; have HO_3 := n0_; have HB := n1_; clear n0_ n1_; (try clear hb); (try clear hb2); (try clear hk); (try clear hi); have p326 : 0 <= (x4_1 : Int) := of_decide_eq_true (by first | (with_reducible assumption) | assumption); have q326 : x4_1 < (l0.length : Int) := of_decide_eq_true (by first | (with_reducible assumption) | assumption); obtain ⟨ad326, e326, hx326_0, hx326_1⟩ := at_T40 HR0.1 x4_1 p326 q326; obtain rfl : ad324 = ad326 := (by injection e326); replace hx326_0 := (HB.1.cell (World.block_lt_of_cell? w _ hx326_0)).trans hx326_0; replace hx326_1 := (HB.1.cell (World.block_lt_of_cell? w _ hx326_1)).trans hx326_1; replace p326 := eq_true p326; replace q326 := eq_true q326) | ((with_reducible refine gate_builtin (b := .append) (xs := #[.tmp 19, .tmp 24]) rfl ?_); at_builtin; refine R_append k40 (w0 := w) w.heap.size rfl (.tmp 19) (.tmp 24) 38 40 (.agg #[(.int .i64 0), (.int .i64 0)]) 16 rfl Try.underlying38 info40 rfl (by decide) (by omega) (.slice Ao9 x3_1.length co9) x3_1 (⟨(rd_T40 l0 x4_1).f0, (rd_T40 l0 x4_1).f1⟩ : S40) [.int .i64 ((rd_T40 l0 x4_1).f0), .int .i64 ((rd_T40 l0 x4_1).f1)] (fun _ => True) (fun _ => False) rfl rfl ?aP (fun _ hk => hk.elim) ?aF ?aO ?aB ?aS ?aL ?_; (case aP => exact k40_mkM _ _ _ (⟨(rd_T40 l0 x4_1).f0, (rd_T40 l0 x4_1).f1⟩ : S40)); (case aB => exact (by repeat (first | (with_reducible first | exact HB.1 | apply bA | apply bN | apply bD) | exact HB.1))); (case aF => exact (fun _ _ => trivial)); (case aO => exact (by (with_reducible repeat (first | apply R_alloc | apply R_drewN | apply R_drew)); exact HO_3.1)); (case aS => exact (below_size (by repeat (first | (with_reducible first | exact HB.1 | apply bA | apply bN | apply bD) | exact HB.1)))); (case aL => have := LMc8.1; omega); intro v328 w11 ho hb hg hat; rw [<- Ny327.1] at ho; have n0_ := aM (hb); have n1_ := aM (ho); clear HB; clear HO_3; have HB := n0_; have HO329 := n1_; clear n0_ n1_; clear ho hb hg hat))
   go_roundg k1
   case measure => have := HK1.1; omega
   case rel => exact ⟨(y327), (wrap64 (x4_1 + 1)), (by first | rfl | (simp; done) | (simp [*]; done)), H', ⟨by have := HK1.1; omega⟩, ⟨by (with_reducible repeat (first | apply R_alloc | apply R_drewN | apply R_drew)); exact HO329.1⟩, ⟨by repeat (first | (with_reducible first | exact HB.1 | apply bA | apply bN | apply bD) | exact HB.1)⟩⟩
noncomputable def lazyclaw09_Uses.l0 : Nat -> List (S40) -> Int -> Int -> Int -> Option ((List (S40)))
 | 0, _, _, _, _ => none
 | k + 1, x3, x4, x331000, x331001 => if x4 < 3 then (if 0 <= (wrap64 (x331000 + (wrap64 (4 * x4)))) then (if (Go.bits .and .i64 (shr .i64 x331001 (wrap64 (x331000 + (wrap64 (4 * x4))))) 1) = 1 then (if x3.length < 8796093022208 then (lazyclaw09_Uses.l0 k (x3 ++ [(⟨Int.tmod (wrap64 ((wrap64 (x331000 * x4)) + (Int.tmod x331001 7))) 8, x331001⟩ : S40)]) (wrap64 (x4 + 1)) x331000 x331001) else (none)) else (lazyclaw09_Uses.l0 k x3 (wrap64 (x4 + 1)) x331000 x331001)) else (none)) else (some x3)
noncomputable def lazyclaw09_Uses.f (k : Nat) (a0_0 : Int) (a0_1 : Int) : Option ((List (S40))) := lazyclaw09_Uses.l0 k (([] : List (S40))) 1 a0_0 a0_1
theorem lazyclaw09_Uses.calls (k : Nat) (a0_0 : Int) (a0_1 : Int) (r : List (S40)) (w : World) (h : lazyclaw09_Uses.f k a0_0 a0_1 = some r) :
 Calls Try.prog 24 #[.agg #[.int .i64 a0_0, .int .i64 a0_1]] w fun e w' => ∃ v0_ : Value, e = .returned (v0_) /\ Kd.R k40 40 w' w.heap.size (fun _ => True) v0_ r /\ Below w.heap.size w w' := by
 have hu40 := Try.underlying40
 have HB := aM (Below.refl w.heap.size w)
 have H : (lazyclaw09_Uses.l0 k (([] : List (S40))) 1 a0_0 a0_1) = some r := h
 clear h
 obtain ⟨y331, hy331⟩ : ∃ y_ : List (S40), y_ = (([] : List (S40))) := ⟨_, rfl⟩
 replace H : (lazyclaw09_Uses.l0 k y331 1 a0_0 a0_1) = some r := by first | (rw [hy331]; with_reducible exact H) | (have H2_ := (Option.bind_some _ _).symm.trans H; rw [hy331]; with_reducible exact H2_) | (have H2_ := (Option.bind_some _ _).symm.trans H; with_reducible exact H2_) | with_reducible exact H | (rw [hy331]; exact H) | exact H
 have Ny331 := aM hy331
 clear hy331
 have H' := aM H
 clear H
 go_enter Try.func24, Try.ntmps24
 go_wp2_with (first | ((with_reducible refine gate_dst (N := 1) rfl ?_); refine box_event ?hg (N := 1) ?hd (cs := #[.int .i64 a0_0, .int .i64 a0_1]) (t := 40) ?hr ?_; (case hd => rfl); (case hg => rfl); (case hr => first | (go_simp; done) | (go_simp; rfl)); intro gb330 hg w2 hbox hb; have n0_ := aM (below_step (by repeat (first | (with_reducible first | exact HB.1 | apply bA | apply bN | apply bD) | exact HB.1)) hb); have n1_ := aM (hbox); have n2_ := aM ((by rw [hg]; exact (below_size (by repeat (first | (with_reducible first | exact HB.1 | apply bA | apply bN | apply bD) | exact HB.1))) : w.heap.size <= gb330)); have n3_ := aM ((by rw [hg]; exact (below_size (by repeat (first | (with_reducible first | exact HB.1 | apply bA | apply bN | apply bD) | exact HB.1))) : w.heap.size <= gb330)); clear HB; have HB := n0_; have BK330 := n1_; have GW330 := n2_; have GE330 := n3_; clear n0_ n1_ n2_ n3_; clear hb hbox hg) | ((with_reducible refine gate_dst (N := 5) rfl ?_); refine R_lit k40 _ 40 ?hg (N := 5) ?hd (xs := ([] : List (S40))) (inner := []) (ok := fun _ => True) (okp := fun _ => True) ?hr ?hp (fun _ hk => hk) trivial (Below.refl _ _) (Nat.le_refl _) (by simp) ?_; (case hd => rfl); (case hg => rfl); (case hr => first | (go_simp; done) | (go_simp; rfl)); (case hp => exact (Reps.none _ _)); intro v332 w3 ho4 hb hg_ hnew_; clear hg_ hnew_; (first | rw [<- Ny331.1] at ho4 | (simp only [Int.reduceToNat] at ho4; rw [<- Ny331.1] at ho4)); have n0_ := aM (R_lower (R_newB ho4 (g := gb330) (o := .cells #[.int .i64 a0_0, .int .i64 a0_1] 40 (0, 0)) (by (with_reducible repeat (first | refine kN ?_ _ | refine kD ?_ | refine kA ?_ _)); exact BK330.1)) (below_size (by repeat (first | (with_reducible first | exact HB.1 | apply bA | apply bN | apply bD | refine below_set ?_ GE330.1) | exact HB.1)))); have n1_ := aM (blk_below (g := gb330) (o := .cells #[.int .i64 a0_0, .int .i64 a0_1] 40 (0, 0)) (by (with_reducible repeat (first | refine kN ?_ _ | refine kD ?_ | refine kA ?_ _)); exact BK330.1) hb); have n2_ := aM (below_step (by repeat (first | (with_reducible first | exact HB.1 | apply bA | apply bN | apply bD | refine below_set ?_ GE330.1) | exact HB.1)) hb); clear BK330; clear HB; have HO333 := n0_; have BK330 := n1_; have HB := n2_; clear n0_ n1_ n2_; clear hb ho4))
 go_loopg [3, 4] k (fun kq v3 v4 w' => ∃ (x3_1 : List (S40)) (x4_1 : Int), v4 = .int .i64 x4_1 /\ Az (lazyclaw09_Uses.l0 kq x3_1 x4_1 a0_0 a0_1 = some r) /\ Az (kq <= k) /\ Az (Kd.R k40 40 w' w.heap.size (fun k_ => k_ ≠ gb330) v3 x3_1) /\ Az (w'.heap[gb330]? = some (.cells #[.int .i64 a0_0, .int .i64 a0_1] 40 (0, 0))) /\ Az (Below w.heap.size w w'))
 case atStart => exact ⟨(y331), (1), (by first | rfl | (simp; done) | (simp [*]; done)), H', ⟨Nat.le_refl _⟩, ⟨by (with_reducible repeat (first | apply R_alloc | apply R_drewN | apply R_drew)); exact R_mono HO333.1 (fun _ hk => hk.2)⟩, ⟨by (with_reducible repeat (first | refine kN ?_ _ | refine kD ?_ | refine kA ?_ _)); exact BK330.1⟩, ⟨by repeat (first | (with_reducible first | exact HB.1 | apply bA | apply bN | apply bD | refine below_set ?_ GE330.1) | exact HB.1)⟩⟩
 case round =>
  clear H'
  try clear c2
  try clear p2
  obtain ⟨x3_1, x4_1, rfl, HA, HK1, HO_3, BK330, HB⟩ := hrel
  cases gk with
  | zero => exact absurd HA.1 (by simp [lazyclaw09_Uses.l0])
  | succ k1 =>
   have H := HA.1
   clear HA
   simp only [lazyclaw09_Uses.l0] at H
   by_cases c5 : x4_1 < 3
   rotate_left
   · rw [if_neg c5] at H
     have c5b0 : decide (x4_1 < 3) = false := decide_eq_false c5
     clear c5
     obtain rfl := Option.some.inj H
     go_wp2
     go_ret
     exact ⟨_, by first | rfl | (simp [errW_none, errW_some] <;> rfl) | (simp [*, errW_none, errW_some] <;> rfl), by (with_reducible repeat (first | apply R_alloc | apply R_drewN | apply R_drew)); exact R_mono HO_3.1 (fun _ hk => trivial), by repeat (first | (with_reducible first | exact HB.1 | apply bA | apply bN | apply bD | refine below_set ?_ GE330.1) | exact HB.1)⟩
   rw [if_pos c5] at H
   have c5b0 : decide (x4_1 < 3) = true := decide_eq_true c5
   clear c5
   obtain ⟨ji6, hji6⟩ : ∃ j_ : Int, (wrap64 (a0_0 + (wrap64 (4 * x4_1)))) = j_ := ⟨_, rfl⟩
   replace H : (if 0 <= (ji6) then (if (Go.bits .and .i64 (shr .i64 a0_1 (ji6)) 1) = 1 then (if x3_1.length < 8796093022208 then (lazyclaw09_Uses.l0 k1 (x3_1 ++ [(⟨Int.tmod (wrap64 ((wrap64 (a0_0 * x4_1)) + (Int.tmod a0_1 7))) 8, a0_1⟩ : S40)]) (wrap64 (x4_1 + 1)) a0_0 a0_1) else (none)) else (lazyclaw09_Uses.l0 k1 x3_1 (wrap64 (x4_1 + 1)) a0_0 a0_1)) else (none)) = some r := by first | (rw [hji6] at H; exact H) | (simp only [hji6] at H ⊢; exact H)
   have hji6w : (IntKind.i64.wrap (a0_0 + (wrap64 (4 * x4_1)))) = ji6 := (i64_w _).trans hji6
   by_cases c7 : 0 <= (ji6)
   rotate_left
   · rw [if_neg c7] at H
     exact absurd H (by simp)
   rw [if_pos c7] at H
   have c7b0 := eq_true c7
   have c7b1 : decide (0 <= (ji6)) = true := decide_eq_true c7
   clear c7
   obtain ⟨ji8, hji8⟩ : ∃ j_ : Int, (shr .i64 a0_1 (ji6)) = j_ := ⟨_, rfl⟩
   replace H : (if (Go.bits .and .i64 (ji8) 1) = 1 then (if x3_1.length < 8796093022208 then (lazyclaw09_Uses.l0 k1 (x3_1 ++ [(⟨Int.tmod (wrap64 ((wrap64 (a0_0 * x4_1)) + (Int.tmod a0_1 7))) 8, a0_1⟩ : S40)]) (wrap64 (x4_1 + 1)) a0_0 a0_1) else (none)) else (lazyclaw09_Uses.l0 k1 x3_1 (wrap64 (x4_1 + 1)) a0_0 a0_1)) = some r := by first | (rw [hji8] at H; exact H) | (simp only [hji8] at H ⊢; exact H)
   have hji8_ : (a0_1 / 2 ^ min (ji6).toNat 64) = ji8 := hji8
   have hji8z : (ji6) <= 64 -> (a0_1 / 2 ^ (ji6).toNat) = ji8 := shr_small hji8
   by_cases c9 : (Go.bits .and .i64 (ji8) 1) = 1
   rotate_left
   · rw [if_neg c9] at H
     have c9b0 : ((Go.bits .and .i64 (ji8) 1) == 1) = false := beq_eq_false_iff_ne.mpr c9
     have c9b1 : ((Go.bits .and .i64 (ji8) 1) != 1) = true := bne_iff_ne.mpr c9
     have H' := aM H
     clear H
     have hcz13_0 : wr.cell? ⟨gb330, 0, none⟩ = some (.int .i64 a0_0) := (blk_cell BK330.1 0).trans rfl
     have hcz13_1 : wr.cell? ⟨gb330, 1, none⟩ = some (.int .i64 a0_1) := (blk_cell BK330.1 1).trans rfl
     have hfz13_0 := blk_frozen BK330.1 0
     have hfz13_1 := blk_frozen BK330.1 1
     go_wp2
     go_roundg k1
     case measure => have := HK1.1; omega
     case rel => exact ⟨(x3_1), (wrap64 (x4_1 + 1)), (by first | rfl | (simp; done) | (simp [*]; done)), H', ⟨by have := HK1.1; omega⟩, ⟨by (with_reducible repeat (first | apply R_alloc | apply R_drewN | apply R_drew)); exact HO_3.1⟩, ⟨by (with_reducible repeat (first | refine kN ?_ _ | refine kD ?_ | refine kA ?_ _)); exact BK330.1⟩, ⟨by repeat (first | (with_reducible first | exact HB.1 | apply bA | apply bN | apply bD | refine below_set ?_ GE330.1) | exact HB.1)⟩⟩
   rw [if_pos c9] at H
   have c9b0 : ((Go.bits .and .i64 (ji8) 1) == 1) = true := beq_iff_eq.mpr c9
   have c9b1 : ((Go.bits .and .i64 (ji8) 1) != 1) = false := bne_eq_false_iff_eq.mpr c9
   clear c9
   by_cases c10 : x3_1.length < 8796093022208
   rotate_left
   · rw [if_neg c10] at H
     exact absurd H (by simp)
   rw [if_pos c10] at H
   have LMc10 := aM c10
   clear c10
   obtain ⟨y334, hy334⟩ : ∃ y_ : List (S40), y_ = (x3_1 ++ [(⟨Int.tmod (wrap64 ((wrap64 (a0_0 * x4_1)) + (Int.tmod a0_1 7))) 8, a0_1⟩ : S40)]) := ⟨_, rfl⟩
   replace H : (lazyclaw09_Uses.l0 k1 y334 (wrap64 (x4_1 + 1)) a0_0 a0_1) = some r := by first | (rw [hy334]; with_reducible exact H) | (have H2_ := (Option.bind_some _ _).symm.trans H; rw [hy334]; with_reducible exact H2_) | (have H2_ := (Option.bind_some _ _).symm.trans H; with_reducible exact H2_) | with_reducible exact H | (rw [hy334]; exact H) | exact H
   have Ny334 := aM hy334
   clear hy334
   have H' := aM H
   clear H
   have hcz11_0 : wr.cell? ⟨gb330, 0, none⟩ = some (.int .i64 a0_0) := (blk_cell BK330.1 0).trans rfl
   have hcz11_1 : wr.cell? ⟨gb330, 1, none⟩ = some (.int .i64 a0_1) := (blk_cell BK330.1 1).trans rfl
   have hfz11_0 := blk_frozen BK330.1 0
   have hfz11_1 := blk_frozen BK330.1 1
   go_wp2_with (first | ((with_reducible refine gate_builtin (b := .append) (xs := #[.tmp 20, .tmp 33]) rfl ?_); at_builtin; refine R_append k40 (w0 := w) w.heap.size rfl (.tmp 20) (.tmp 33) 38 40 (.agg #[(.int .i64 0), (.int .i64 0)]) 16 rfl Try.underlying38 info40 rfl (by decide) (by omega) u3 x3_1 (⟨Int.tmod (wrap64 ((wrap64 (a0_0 * x4_1)) + (Int.tmod a0_1 7))) 8, a0_1⟩ : S40) [.int .i64 (Int.tmod (wrap64 ((wrap64 (a0_0 * x4_1)) + (Int.tmod a0_1 7))) 8), .int .i64 a0_1] (fun k_ => k_ ≠ gb330) (fun _ => False) rfl rfl ?aP (fun _ hk => hk.elim) ?aF ?aO ?aB ?aS ?aL ?_; (case aP => exact k40_mkM _ _ _ (⟨Int.tmod (wrap64 ((wrap64 (a0_0 * x4_1)) + (Int.tmod a0_1 7))) 8, a0_1⟩ : S40)); (case aB => exact (by repeat (first | (with_reducible first | exact HB.1 | apply bA | apply bN | apply bD | refine below_set ?_ GE330.1) | exact HB.1))); (case aF => exact (fun k_ hk => Kd.freshB (g := gb330) (o := .cells #[.int .i64 a0_0, .int .i64 a0_1] 40 (0, 0)) (by (with_reducible repeat (first | refine kN ?_ _ | refine kD ?_ | refine kA ?_ _)); exact BK330.1) k_ hk)); (case aO => exact (by (with_reducible repeat (first | apply R_alloc | apply R_drewN | apply R_drew)); exact HO_3.1)); (case aS => exact (below_size (by repeat (first | (with_reducible first | exact HB.1 | apply bA | apply bN | apply bD | refine below_set ?_ GE330.1) | exact HB.1)))); (case aL => have := LMc10.1; omega); intro v335 w12 ho hb hg hat; rw [<- Ny334.1] at ho; have n0_ := aM (blk_grown (g := gb330) (o := .cells #[.int .i64 a0_0, .int .i64 a0_1] 40 (0, 0)) (by (with_reducible repeat (first | refine kN ?_ _ | refine kD ?_ | refine kA ?_ _)); exact BK330.1) hg (R_away HO_3.1 (fun _ hk => hk))); have n1_ := aM (hb); have n2_ := aM (ho); clear BK330; clear HB; clear HO_3; have BK330 := n0_; have HB := n1_; have HO336 := n2_; clear n0_ n1_ n2_; clear ho hb hg hat))
   go_roundg k1
   case measure => have := HK1.1; omega
   case rel => exact ⟨(y334), (wrap64 (x4_1 + 1)), (by first | rfl | (simp; done) | (simp [*]; done)), H', ⟨by have := HK1.1; omega⟩, ⟨by (with_reducible repeat (first | apply R_alloc | apply R_drewN | apply R_drew)); exact HO336.1⟩, ⟨by (with_reducible repeat (first | refine kN ?_ _ | refine kD ?_ | refine kA ?_ _)); exact BK330.1⟩, ⟨by repeat (first | (with_reducible first | exact HB.1 | apply bA | apply bN | apply bD | refine below_set ?_ GE330.1) | exact HB.1)⟩⟩
end Go.Proofs.Ytpmjpngmmphkmaa.P
namespace Go.Proofs
open Go.Shelf
def Try.lays21_ren : Go.Shelf.Ren := ⟨fun | 21 => 40 | 27 => 45 | 28 => 46 | 35 => 47 | 39 => 48 | n => n, fun | 22 => 32 | 3 => 3 | 4 => 4 | 0 => 0 | n => n, fun | n => n⟩
theorem Try.lays21 : Go.Proofs.Lays2.n21 Try.prog Try.lays21_ren := {
 mixed := by kernel_rfl
 f21 := Try.func40.trans (congrArg some (by kernel_rfl))
 f27 := Try.func45.trans (congrArg some (by kernel_rfl))
 f28 := Try.func46.trans (congrArg some (by kernel_rfl))
 f35 := Try.func47.trans (congrArg some (by kernel_rfl))
 f39 := Try.func48.trans (congrArg some (by kernel_rfl))
 t0 := Try.underlying0
 a0 := Try.isAgg0
 z0 := Try.sizeOf0
 v0 := Try.zeroValue0
 t3 := Try.underlying3
 a3 := Try.isAgg3
 z3 := Try.sizeOf3
 v3 := Try.zeroValue3
 t4 := Try.underlying4
 a4 := Try.isAgg4
 z4 := Try.sizeOf4
 v4 := Try.zeroValue4
 t22 := Try.underlying32
 a22 := Try.isAgg32
 z22 := Try.sizeOf32
 v22 := Try.zeroValue32
 i3 := by kernel_rfl }
end Go.Proofs
namespace Go.Proofs.Ytpmjpngmmphkmaa
open Go.RowKit Go.Proofs.Yw.A Go.Proofs.Yw.B Go.Proofs.Yw.C
namespace Tj
structure TS where
 count : Int
 index : List Int
 low : List Int
 stack : List Int
 comp : List Int
 comps : Int
def row (es : List (List Int)) (v : Int) : List Int := es.getD v.toNat []
def pop : Nat -> Int -> TS -> Option TS
 | 0, _, _ => none
 | k + 1, v, st =>
  if 0 < st.stack.length then
   let x := rd st.stack ((st.stack.length : Int) - 1)
   if 0 <= x /\ x < st.comp.length then
    let st1 : TS := { st with stack := st.stack.take (st.stack.length - 1), comp := st.comp.set x.toNat st.comps }
    if x = v then some { st1 with comps := wrap64 (st.comps + 1) } else pop k v st1
   else none
  else none
def enter (v : Int) (st : TS) : TS :=
 { st with count := wrap64 (st.count + 1), index := st.index.set v.toNat (wrap64 (st.count + 1)), low := st.low.set v.toNat (wrap64 (st.count + 1)), stack := st.stack ++ [v] }
def lower (v x : Int) (st : TS) : TS := { st with low := st.low.set v.toNat (mn (rd st.low v) x) }
mutual
def visit : Nat -> List (List Int) -> Int -> TS -> Option TS
 | 0, _, _, _ => none
 | k + 1, es, v, st =>
  if 0 <= v /\ v < es.length /\ st.stack.length < 17592186044415 then each k es v (row es v) 0 (enter v st) else none
def each : Nat -> List (List Int) -> Int -> List Int -> Int -> TS -> Option TS
 | 0, _, _, _, _, _ => none
 | k + 1, es, v, l, i, st =>
  if i < l.length then
   if 0 <= rd l i /\ rd l i < es.length then
    if rd st.index (rd l i) = 0 then (visit k es (rd l i) st).bind fun st1 => each k es v l (i + 1) (lower v (rd st1.low (rd l i)) st1)
    else if rd st.comp (rd l i) < 0 then each k es v l (i + 1) (lower v (rd st.index (rd l i)) st)
    else each k es v l (i + 1) st
   else none
  else if rd st.low v = rd st.index v then pop k v st
  else some st
end
def outer : Nat -> List (List Int) -> Int -> TS -> Option TS
 | 0, _, _, _ => none
 | k + 1, es, v, st =>
  if v < es.length then
   if rd st.index v = 0 then (visit k es v st).bind fun st1 => outer k es (v + 1) st1 else outer k es (v + 1) st
  else some st
def init (n : Nat) : TS := { count := 0, index := List.replicate n 0, low := List.replicate n 0, stack := [], comp := List.replicate n (-1), comps := 0 }
def strongF (k : Nat) (es : List (List Int)) : Option (List Int × Int) :=
 if es.length < 17592186044416 then (outer k es 0 (init es.length)).map fun st => (st.comp, st.comps) else none
structure Cx where
 (bc bi bl bs be bv bp bm ai al ap : Nat)
 A : Option Addr
 c : Nat
 w0 : World
 es : List (List Int)
def Cx.ok (X : Cx) (k : Nat) : Prop := k ≠ X.bc /\ k ≠ X.bm /\ k ≠ X.ai /\ k ≠ X.al /\ k ≠ X.ap
structure Cx.Ok (X : Cx) : Prop where
 t1 : X.bc ≠ X.bm /\ X.bc ≠ X.ai /\ X.bc ≠ X.al /\ X.bc ≠ X.ap /\ X.bm ≠ X.ai /\ X.bm ≠ X.al /\ X.bm ≠ X.ap /\ X.ai ≠ X.al /\ X.ai ≠ X.ap /\ X.al ≠ X.ap
 t2 : X.bs ≠ X.bi /\ X.bs ≠ X.bl /\ X.bs ≠ X.bp
 b : X.w0.heap.size <= X.bc /\ X.w0.heap.size <= X.bs /\ X.w0.heap.size <= X.bm /\ X.w0.heap.size <= X.ai /\ X.w0.heap.size <= X.al /\ X.w0.heap.size <= X.ap
abbrev P1 (b : Nat) : Value := .pointer (some ⟨b, 0, none⟩)
abbrev Cx.clo (X : Cx) : Value := .func (.func 44) #[] #[P1 X.bc, P1 X.bi, P1 X.bl, P1 X.bs, P1 X.be, P1 X.bv, P1 X.bp, P1 X.bm]
def arr (xs : List Int) : Obj := .cells (nums .i64 xs).toArray 3 (0, 0)
structure Inv (X : Cx) (st : TS) (w : World) : Prop where
 hB : Below X.w0.heap.size X.w0 w
 hE : Kd.C (Kd.slice 3 (Kd.int .i64)) X.w0 X.A X.es.length X.es
 kc : w.heap[X.bc]? = some (.cells #[.int .i64 st.count] 3 (0, 0))
 ki : w.heap[X.bi]? = some (.cells #[.slice (some ⟨X.ai, 0, none⟩) X.es.length X.es.length] 32 (0, 0))
 kl : w.heap[X.bl]? = some (.cells #[.slice (some ⟨X.al, 0, none⟩) X.es.length X.es.length] 32 (0, 0))
 ks : ∃ v, w.heap[X.bs]? = some (.cells #[v] 32 (0, 0)) /\ Kd.R (Kd.int .i64) 3 w X.w0.heap.size X.ok v st.stack
 ke : w.heap[X.be]? = some (.cells #[.slice X.A X.es.length X.c] 22 (0, 0))
 kv : w.heap[X.bv]? = some (.cells #[X.clo] 62 (0, 0))
 kp : w.heap[X.bp]? = some (.cells #[.slice (some ⟨X.ap, 0, none⟩) X.es.length X.es.length] 32 (0, 0))
 km : w.heap[X.bm]? = some (.cells #[.int .i64 st.comps] 3 (0, 0))
 ai : w.heap[X.ai]? = some (arr st.index)
 al : w.heap[X.al]? = some (arr st.low)
 ap : w.heap[X.ap]? = some (arr st.comp)
 li : st.index.length = X.es.length
 ll : st.low.length = X.es.length
 lp : st.comp.length = X.es.length
theorem nums_set (k : IntKind) (xs : List Int) (j : Nat) (x : Int) : (nums k xs).toArray.setIfInBounds j (.int k x) = (nums k (xs.set j x)).toArray := by
 simp [nums, List.map_set]
theorem Inv.drew {X : Cx} {st : TS} {w : World} (h : Inv X st w) : Inv X st w.drew where
 hB := below_drew h.hB
 hE := h.hE
 kc := h.kc
 ki := h.ki
 kl := h.kl
 ks := by obtain ⟨v, h1, h2⟩ := h.ks; exact ⟨v, h1, Kd.R_drew h2⟩
 ke := h.ke
 kv := h.kv
 kp := h.kp
 km := h.km
 ai := h.ai
 al := h.al
 ap := h.ap
 li := h.li
 ll := h.ll
 lp := h.lp
theorem Inv.setCount {X : Cx} {st : TS} {w : World} (h : Inv X st w) (o : X.Ok) (x : Int) : Inv X { st with count := x } (w.setCell ⟨X.bc, 0, none⟩ (.int .i64 x)) where
 hB := h.hB.setCell o.b.1 _
 hE := h.hE
 kc := one_setCell h.kc
 ki := blk_far h.ki (blk_ne h.ki h.kc (by decide)) _
 kl := blk_far h.kl (blk_ne h.kl h.kc (by decide)) _
 ks := by
  obtain ⟨v, h1, h2⟩ := h.ks
  exact ⟨v, blk_far h1 (blk_ne h1 h.kc (by decide)) _, Kd.R_far (p := ⟨X.bc, 0, none⟩) h2 (fun k hk => hk.1) _⟩
 ke := blk_far h.ke (blk_ne h.ke h.kc (by decide)) _
 kv := blk_far h.kv (blk_ne h.kv h.kc (by decide)) _
 kp := blk_far h.kp (blk_ne h.kp h.kc (by decide)) _
 km := blk_far h.km o.t1.1.symm _
 ai := blk_far h.ai o.t1.2.1.symm _
 al := blk_far h.al o.t1.2.2.1.symm _
 ap := blk_far h.ap o.t1.2.2.2.1.symm _
 li := h.li
 ll := h.ll
 lp := h.lp
theorem Inv.setComps {X : Cx} {st : TS} {w : World} (h : Inv X st w) (o : X.Ok) (x : Int) : Inv X { st with comps := x } (w.setCell ⟨X.bm, 0, none⟩ (.int .i64 x)) where
 hB := h.hB.setCell o.b.2.2.1 _
 hE := h.hE
 km := one_setCell h.km
 ki := blk_far h.ki (blk_ne h.ki h.km (by decide)) _
 kl := blk_far h.kl (blk_ne h.kl h.km (by decide)) _
 ks := by
  obtain ⟨v, h1, h2⟩ := h.ks
  exact ⟨v, blk_far h1 (blk_ne h1 h.km (by decide)) _, Kd.R_far (p := ⟨X.bm, 0, none⟩) h2 (fun k hk => hk.2.1) _⟩
 ke := blk_far h.ke (blk_ne h.ke h.km (by decide)) _
 kv := blk_far h.kv (blk_ne h.kv h.km (by decide)) _
 kp := blk_far h.kp (blk_ne h.kp h.km (by decide)) _
 kc := blk_far h.kc o.t1.1 _
 ai := blk_far h.ai o.t1.2.2.2.2.1.symm _
 al := blk_far h.al o.t1.2.2.2.2.2.1.symm _
 ap := blk_far h.ap o.t1.2.2.2.2.2.2.1.symm _
 li := h.li
 ll := h.ll
 lp := h.lp
theorem Inv.setIndex {X : Cx} {st : TS} {w : World} (h : Inv X st w) (o : X.Ok) (j : Nat) (x : Int) : Inv X { st with index := st.index.set j x } (w.setCell ⟨X.ai, j, none⟩ (.int .i64 x)) where
 hB := h.hB.setCell o.b.2.2.2.1 _
 hE := h.hE
 ai := by unfold arr; rw [<- nums_set]; exact blk_set h.ai j _
 ki := blk_far h.ki (blk_ne h.ki h.ai (by decide)) _
 kl := blk_far h.kl (blk_ne h.kl h.ai (by decide)) _
 ks := by
  obtain ⟨v, h1, h2⟩ := h.ks
  exact ⟨v, blk_far h1 (blk_ne h1 h.ai (by decide)) _, Kd.R_far (p := ⟨X.ai, j, none⟩) h2 (fun k hk => hk.2.2.1) _⟩
 ke := blk_far h.ke (blk_ne h.ke h.ai (by decide)) _
 kv := blk_far h.kv (blk_ne h.kv h.ai (by decide)) _
 kp := blk_far h.kp (blk_ne h.kp h.ai (by decide)) _
 kc := blk_far h.kc o.t1.2.1 _
 km := blk_far h.km o.t1.2.2.2.2.1 _
 al := blk_far h.al o.t1.2.2.2.2.2.2.2.1.symm _
 ap := blk_far h.ap o.t1.2.2.2.2.2.2.2.2.1.symm _
 li := by simpa using h.li
 ll := h.ll
 lp := h.lp
theorem Inv.setLow {X : Cx} {st : TS} {w : World} (h : Inv X st w) (o : X.Ok) (j : Nat) (x : Int) : Inv X { st with low := st.low.set j x } (w.setCell ⟨X.al, j, none⟩ (.int .i64 x)) where
 hB := h.hB.setCell o.b.2.2.2.2.1 _
 hE := h.hE
 al := by unfold arr; rw [<- nums_set]; exact blk_set h.al j _
 ki := blk_far h.ki (blk_ne h.ki h.al (by decide)) _
 kl := blk_far h.kl (blk_ne h.kl h.al (by decide)) _
 ks := by
  obtain ⟨v, h1, h2⟩ := h.ks
  exact ⟨v, blk_far h1 (blk_ne h1 h.al (by decide)) _, Kd.R_far (p := ⟨X.al, j, none⟩) h2 (fun k hk => hk.2.2.2.1) _⟩
 ke := blk_far h.ke (blk_ne h.ke h.al (by decide)) _
 kv := blk_far h.kv (blk_ne h.kv h.al (by decide)) _
 kp := blk_far h.kp (blk_ne h.kp h.al (by decide)) _
 kc := blk_far h.kc o.t1.2.2.1 _
 km := blk_far h.km o.t1.2.2.2.2.2.1 _
 ai := blk_far h.ai o.t1.2.2.2.2.2.2.2.1 _
 ap := blk_far h.ap o.t1.2.2.2.2.2.2.2.2.2.symm _
 li := h.li
 ll := by simpa using h.ll
 lp := h.lp
theorem Inv.setComp {X : Cx} {st : TS} {w : World} (h : Inv X st w) (o : X.Ok) (j : Nat) (x : Int) : Inv X { st with comp := st.comp.set j x } (w.setCell ⟨X.ap, j, none⟩ (.int .i64 x)) where
 hB := h.hB.setCell o.b.2.2.2.2.2 _
 hE := h.hE
 ap := by unfold arr; rw [<- nums_set]; exact blk_set h.ap j _
 ki := blk_far h.ki (blk_ne h.ki h.ap (by decide)) _
 kl := blk_far h.kl (blk_ne h.kl h.ap (by decide)) _
 ks := by
  obtain ⟨v, h1, h2⟩ := h.ks
  exact ⟨v, blk_far h1 (blk_ne h1 h.ap (by decide)) _, Kd.R_far (p := ⟨X.ap, j, none⟩) h2 (fun k hk => hk.2.2.2.2) _⟩
 ke := blk_far h.ke (blk_ne h.ke h.ap (by decide)) _
 kv := blk_far h.kv (blk_ne h.kv h.ap (by decide)) _
 kp := blk_far h.kp (blk_ne h.kp h.ap (by decide)) _
 kc := blk_far h.kc o.t1.2.2.2.1 _
 km := blk_far h.km o.t1.2.2.2.2.2.2.1 _
 ai := blk_far h.ai o.t1.2.2.2.2.2.2.2.2.1 _
 al := blk_far h.al o.t1.2.2.2.2.2.2.2.2.2 _
 li := h.li
 ll := h.ll
 lp := by simpa using h.lp
theorem Inv.setStack {X : Cx} {st : TS} {w w1 : World} (h : Inv X st w) (o : X.Ok) {v : Value} {row : Option Nat} (hg : w.grownBy w1 row) (hb : Below X.w0.heap.size X.w0 w1)
 (hr : ∀ g, row = some g -> X.ok g /\ ∃ cs, w.heap[g]? = some (.cells cs 3 (0, 0))) {xs : List Int} (ho : Kd.R (Kd.int .i64) 3 w1 X.w0.heap.size X.ok v xs) :
 Inv X { st with stack := xs } (w1.setCell ⟨X.bs, 0, none⟩ v) := by
 have k3 : ∀ {g : Nat} {o1 : Obj}, w.heap[g]? = some o1 -> (∀ cs, o1 ≠ .cells cs 3 (0, 0)) -> w1.heap[g]? = some o1 := fun {g o1} hh hn => blk_grown hh hg (fun e => by
  obtain ⟨_, cs, hc⟩ := hr g e.symm
  rw [hh] at hc
  exact hn cs (Option.some.inj hc))
 have k1 : ∀ {g : Nat} {o1 : Obj}, w.heap[g]? = some o1 -> ¬ X.ok g -> w1.heap[g]? = some o1 := fun {g o1} hh hn => blk_grown hh hg (fun e => hn (hr g e.symm).1)
 obtain ⟨v0, s1, s2⟩ := h.ks
 have nx : ∀ {t : TypeId} {cs : Array Value}, Obj.cells cs t (0, 0) ≠ .cells cs t (0, 0) -> False := fun hh => hh rfl
 have g1 := k3 s1 (by intro cs hh; injection hh with _ hh; exact absurd hh (by decide))
 have gi := k3 h.ki (by intro cs hh; injection hh with _ hh; exact absurd hh (by decide))
 have gl := k3 h.kl (by intro cs hh; injection hh with _ hh; exact absurd hh (by decide))
 have ge := k3 h.ke (by intro cs hh; injection hh with _ hh; exact absurd hh (by decide))
 have gv := k3 h.kv (by intro cs hh; injection hh with _ hh; exact absurd hh (by decide))
 have gp := k3 h.kp (by intro cs hh; injection hh with _ hh; exact absurd hh (by decide))
 have gc := k1 h.kc (fun hh => hh.1 rfl)
 have gm := k1 h.km (fun hh => hh.2.1 rfl)
 have ga := k1 h.ai (fun hh => hh.2.2.1 rfl)
 have gb := k1 h.al (fun hh => hh.2.2.2.1 rfl)
 have gd := k1 h.ap (fun hh => hh.2.2.2.2 rfl)
 exact {
  hB := hb.setCell o.b.2.1 _
  hE := h.hE
  kc := blk_far gc (blk_ne gc g1 (by decide)) _
  ki := blk_far gi o.t2.1.symm _
  kl := blk_far gl o.t2.2.1.symm _
  ks := ⟨v, one_setCell g1, Kd.R_set ho g1 (by intro q hq; simp [Kd.int, Kd.scalar] at hq; subst hq; decide) 0 _⟩
  ke := blk_far ge (blk_ne ge g1 (by decide)) _
  kv := blk_far gv (blk_ne gv g1 (by decide)) _
  kp := blk_far gp o.t2.2.2.symm _
  km := blk_far gm (blk_ne gm g1 (by decide)) _
  ai := blk_far ga (blk_ne ga g1 (by decide)) _
  al := blk_far gb (blk_ne gb g1 (by decide)) _
  ap := blk_far gd (blk_ne gd g1 (by decide)) _
  li := h.li
  ll := h.ll
  lp := h.lp }
theorem arr_cell {w : World} {g : Nat} {xs : List Int} (h : w.heap[g]? = some (arr xs)) (i : Int) (h0 : 0 <= i) (h1 : i < xs.length) : w.cell? ⟨g, i.toNat, none⟩ = some (.int .i64 (rd xs i)) := by
 rw [blk_cell h]
 have hl : i.toNat < xs.length := by omega
 simp [nums, rd, List.getElem?_eq_getElem hl]
theorem arr_free {w : World} {g : Nat} {xs : List Int} (h : w.heap[g]? = some (arr xs)) (i : Nat) : w.frozen? ⟨g, i, none⟩ = false := blk_frozen h i
end Tj
end Go.Proofs.Ytpmjpngmmphkmaa
namespace Go.Proofs.Ytpmjpngmmphkmaa
open Go.RowKit Go.Proofs.Yw.A Go.Proofs.Yw.B Go.Proofs.Yw.C Go.Proofs.Ytpmjpngmmphkmaa.P
namespace Rw
def RowAt (w : World) (base : Nat) (v : Value) (xs : List Int) : Prop :=
 (v = .slice none 0 0 /\ xs = []) \/ ∃ g off cap cur, v = .slice (some ⟨g, off, none⟩) xs.length cap /\ base <= g /\ w.heap[g]? = some (.cells cur 3 (0, 0)) /\ xs.length <= cap /\ off + cap <= cur.size /\ cap <= maxLen /\
  ∀ (j : Nat) (x : Int), xs[j]? = some x -> cur[off + j]? = some (.int .i64 x)
theorem heap_setCells (g : Nat) (t : TypeId) : ∀ (vs : List Value) (o : Nat) (w : World) (cur : Array Value), w.heap[g]? = some (.cells cur t (0, 0)) ->
 ∃ cur' : Array Value, (w.setCells g o vs).heap[g]? = some (.cells cur' t (0, 0)) /\ cur'.size = cur.size /\ (∀ j, j < vs.length -> o + j < cur.size -> cur'[o + j]? = vs[j]?) /\ (∀ j, j < o \/ o + vs.length <= j -> cur'[j]? = cur[j]?)
 | [], o, w, cur, h => ⟨cur, h, rfl, fun j hj => by simp at hj, fun _ _ => rfl⟩
 | v :: r, o, w, cur, h => by
  obtain ⟨c1, h1, h2, h3, h4⟩ := heap_setCells g t r (o + 1) (w.setCell ⟨g, o, none⟩ v) _ (blk_set h o v)
  rw [Array.size_setIfInBounds] at h2
  refine ⟨c1, h1, h2, fun j hj ho => ?_, fun j hj => ?_⟩
  · cases j with
    | zero =>
     rw [h4 (o + 0) (by omega), Nat.add_zero, Array.getElem?_setIfInBounds_self_of_lt (by omega)]
     rfl
    | succ j =>
     have := h3 j (by simpa using hj) (by rw [Array.size_setIfInBounds]; omega)
     rw [show o + (j + 1) = o + 1 + j by omega, this]
     rfl
  · have hl : (v :: r).length = r.length + 1 := rfl
    rw [h4 j (by omega)]
    exact Array.getElem?_setIfInBounds_ne (by omega)
theorem grown_setCells (g : Nat) : ∀ (vs : List Value) (o : Nat) (w : World), w.grownBy (w.setCells g o vs) (some g)
 | [], _, _ => World.grownBy.refl _ _
 | v :: r, o, w => World.grownBy.trans (b := w.setCell ⟨g, o, none⟩ v) ⟨rfl, rfl, rfl, by simp, fun i hi hne => Below.heap_setCell w ⟨g, o, none⟩ v i (fun e => hne (by rw [e]))⟩ (grown_setCells g r (o + 1) _)
theorem below_cells {B b : Nat} {a : World} (hb : B <= b) : ∀ (vs : List Value) (o : Nat) (w : World), Below B a w -> Below B a (w.setCells b o vs)
 | [], _, _, h => h
 | v :: r, o, w, h => below_cells hb r (o + 1) _ (h.setCell hb v)
theorem RowAt.kept {w w1 : World} {base : Nat} {v : Value} {xs : List Int} (h : RowAt w base v xs) (hk : ∀ k, v.ownBlock = some k -> w1.heap[k]? = w.heap[k]?) : RowAt w1 base v xs := by
 rcases h with h | ⟨g, off, cap, cur, rfl, hb, hh, r⟩
 · exact .inl h
 · exact .inr ⟨g, off, cap, cur, rfl, hb, by rw [hk g (by simp [Value.ownBlock])]; exact hh, r⟩
theorem RowAt.lt {w : World} {base : Nat} {v : Value} {xs : List Int} (h : RowAt w base v xs) : ∀ k, v.ownBlock = some k -> base <= k /\ k < w.heap.size /\ ∃ cur, w.heap[k]? = some (.cells cur 3 (0, 0)) := by
 intro k hk
 rcases h with ⟨rfl, _⟩ | ⟨g, off, cap, cur, rfl, hb, hh, r⟩
 · simp [Value.ownBlock] at hk
 · obtain rfl : g = k := by simpa [Value.ownBlock] using hk
   exact ⟨hb, blk_lt hh, cur, hh⟩
theorem RowAt.slice {w : World} {base : Nat} {v : Value} {xs : List Int} (h : RowAt w base v xs) : ∃ A c, v = .slice A xs.length c /\ xs.length <= c /\ c <= maxLen := by
 rcases h with ⟨rfl, rfl⟩ | ⟨g, off, cap, cur, rfl, hb, hh, hl, _, hm, _⟩
 · exact ⟨none, 0, rfl, Nat.le_refl _, Nat.zero_le _⟩
 · exact ⟨_, cap, rfl, hl, hm⟩
def ins (xs : List Int) (i : Nat) (x : Int) : List Int := xs.take i ++ x :: xs.drop i
theorem ins_length (xs : List Int) (i : Nat) (x : Int) (hi : i <= xs.length) : (ins xs i x).length = xs.length + 1 := by
 simp [ins]
 omega
theorem ins_at (xs : List Int) (i : Nat) (x : Int) (hi : i <= xs.length) (j : Nat) : (ins xs i x)[j]? = if j < i then xs[j]? else if j = i then some x else xs[j - 1]? := by
 unfold ins
 have hl : (xs.take i).length = i := by simp; omega
 by_cases h1 : j < i
 · rw [if_pos h1, List.getElem?_append_left (by omega), List.getElem?_take_of_lt h1]
 rw [if_neg h1, List.getElem?_append_right (by omega), hl]
 by_cases h2 : j = i
 · subst h2
   rw [if_pos rfl, Nat.sub_self]
   rfl
 rw [if_neg h2]
 obtain ⟨m, rfl⟩ : ∃ m, j = i + 1 + m := ⟨j - i - 1, by omega⟩
 rw [show i + 1 + m - i = m + 1 by omega, List.getElem?_cons_succ, List.getElem?_drop]
 congr 1
 omega
theorem zero_size (n : Nat) : (Builtin.zeroCells (Value.int .i64 0).cells n).size = n := by simp [Builtin.zeroCells, Value.cells]
theorem new_row {w1 : World} {base g G : Nat} {cur : Array Value} {ys : List Int} (hh : w1.heap[g]? = some (.cells cur 3 (0, 0))) (hb : base <= g) (hs : cur.size = G) (hG : G <= maxLen) (hl : ys.length <= G) (hc : ∀ (j : Nat) (y : Int), ys[j]? = some y -> cur[j]? = some (.int .i64 y)) :
 RowAt w1 base (.slice (some ⟨g, 0, none⟩) ys.length G) ys :=
 .inr ⟨g, 0, G, cur, rfl, hb, hh, hl, by omega, hG, fun j y hj => by rw [Nat.zero_add]; exact hc j y hj⟩
theorem insert_calls (w : World) (base : Nat) (v : Value) (xs : List Int) (i : Nat) (x : Int) (vb : Nat) (h : RowAt w base v xs) (hi : i <= xs.length) (hbig : (xs.length + 1) * 8 <= 140737488355328)
 (hv : w.heap[vb]? = some (.cells #[.int .i64 x] 3 (0, 0))) (hne : v.ownBlock ≠ some vb) (hbase : base <= w.heap.size) :
 Calls Try.prog 40 #[v, .int .i64 i, .slice (some ⟨vb, 0, none⟩) 1 1] w fun e w' => ∃ v', e = .returned v' /\ RowAt w' base v' (ins xs i x) /\ w.grownBy w' v.ownBlock /\ (v'.ownBlock = v.ownBlock \/ ∃ b, v'.ownBlock = some b /\ w.heap.size <= b) := by
 have hvs : ∀ j u, [Value.int .i64 x][j]? = some u -> w.cell? ⟨vb, 0 + j, none⟩ = some u := by
  intro j u hu
  rw [Nat.zero_add, blk_cell hv]
  simpa using hu
 have h1v : ∀ u ∈ [Value.int .i64 x], u.oneCell' = true := by intro u hu; rw [List.mem_singleton.1 hu]; rfl
 have h1c : ∀ u ∈ xs.map (Value.int .i64), u.oneCell' = true := by
  intro u hu
  obtain ⟨y, _, rfl⟩ := List.mem_map.1 hu
  rfl
 have hlen := ins_length xs i x hi
 have T3 : Try.lays21_ren.t 3 = 3 := rfl
 have fin : ∀ (c : Nat) (w1 : World) (cur : Array Value), w1.heap[w.heap.size]? = some (.cells cur 3 (0, 0)) -> cur.size = grownCap w (xs.length + 1) c 3 -> (∀ (j : Nat) (y : Int), (ins xs i x)[j]? = some y -> cur[j]? = some (.int .i64 y)) -> w.grownBy w1 v.ownBlock ->
  ∃ v', (Ending.returned (.slice (some ⟨w.heap.size, 0, none⟩) (xs.length + 1) (grownCap w (xs.length + 1) c 3))) = .returned v' /\ RowAt w1 base v' (ins xs i x) /\ w.grownBy w1 v.ownBlock /\ (v'.ownBlock = v.ownBlock \/ ∃ b, v'.ownBlock = some b /\ w.heap.size <= b) := by
  intro c w1 cur hh hs hc hg
  refine ⟨_, rfl, ?_, hg, .inr ⟨w.heap.size, by simp [Value.ownBlock], Nat.le_refl _⟩⟩
  rw [<- hlen]
  refine new_row hh hbase (by rw [hs, hlen]) (by rw [hlen]; exact grownCap_le_maxLen _ _ _ _ (by unfold maxLen; omega)) (by rw [hlen]; exact grownCap_ge _ _ _ _) hc
 have grownAlloc : ∀ (o : Obj), w.grownBy (w.drew.alloc o) v.ownBlock := fun o => grown_of_below (below_alloc (below_drew (Below.refl _ _)) o) _
 rcases h with ⟨rfl, rfl⟩ | ⟨g, off, cap, cur, rfl, hb, hh, hl, hsz, hm, hc⟩
 · obtain rfl : i = 0 := by simpa using hi
   refine (Any2.slices_Insert_int_end_grow Try.lays21 none 0 0 vb 0 1 1 [] [.int .i64 x] w (by decide) (by decide) (by decide) (by decide) rfl rfl (fun _ => rfl) (fun a ha => by cases ha) hvs h1v).mono ?_
   rintro e w1 ⟨he, hw⟩
   rw [T3] at he hw
   subst he hw
   refine fin 0 _ _ (blk_new _ _) ?_ ?_ (grownAlloc _)
   · rw [Array.size_append, zero_size]
     have := grownCap_ge w (0 + 1) 0 3
     show 1 + (grownCap w (0 + 1) 0 3 - (0 + 1)) = grownCap w (0 + 1) 0 3
     omega
   · intro j y hj
     have hj0 : j = 0 := by
      have := (List.getElem?_eq_some_iff.1 hj).1
      rw [hlen] at this
      simpa using this
     subst hj0
     rw [Array.getElem?_append_left (by simp)]
     simp [ins] at hj ⊢
     exact hj
 · have hcs : ∀ j u, (xs.map (Value.int .i64))[j]? = some u -> w.cell? ⟨g, off + j, none⟩ = some u := by
    intro j u hu
    rw [List.getElem?_map] at hu
    obtain ⟨y, hy, rfl⟩ := Option.map_eq_some_iff.1 hu
    rw [blk_cell hh]
    exact hc j y hy
   have hsp : ∀ j, j < cap -> (w.cell? ⟨g, off + j, none⟩).isSome = true := by
    intro j hj
    rw [blk_cell hh]
    simp
    omega
   have hfz : ∀ j, w.frozen? ⟨g, j, none⟩ = false := fun j => blk_frozen hh j
   have hvg : vb ≠ g := fun e => hne (by rw [e]; simp [Value.ownBlock])
   have hown : (Value.slice (some ⟨g, off, none⟩) xs.length cap).ownBlock = some g := by simp [Value.ownBlock]
   by_cases hroom : xs.length + 1 <= cap
   · by_cases hin : i < xs.length
     · have hsa : w.shape? vb = some (3, 1) := by simp [World.shape?, hv]
       have hsb : w.shape? g = some (3, cur.size) := by simp [World.shape?, hh]
       refine (Any2.slices_Insert_int_shift Try.lays21 g off xs.length cap i vb 0 1 1 (xs.map (Value.int .i64)) [.int .i64 x] w hin (by decide) hroom (by unfold maxLen at hm; omega) hvg (by simp) rfl hcs (fun j hj => hsp j (by omega)) (fun j _ => hfz _) hvs h1c h1v 3 3 1 cur.size hsa hsb (by omega) (blk_frozen hv _) (blk_frozen hv _)).mono ?_
       rintro e w1 ⟨rfl, rfl⟩
       obtain ⟨c1, k1, k2, k3, k4⟩ := heap_setCells g 3 ((xs.map (Value.int .i64)).drop i) (off + (i + 1)) w.drew cur hh
       obtain ⟨c2, m1, m2, m3, m4⟩ := heap_setCells g 3 [.int .i64 x] (off + i) _ c1 k1
       refine ⟨_, rfl, ?_, (World.grownBy.trans (grown_of_below (below_drew (Below.refl _ _)) _) (World.grownBy.trans (grown_setCells g _ _ _) (grown_setCells g _ _ _))), .inl (by simp [Value.ownBlock])⟩
       rw [<- hlen]
       refine .inr ⟨g, off, cap, c2, rfl, hb, m1, by omega, by omega, hm, fun j y hj => ?_⟩
       have hjl := (List.getElem?_eq_some_iff.1 hj).1
       rw [hlen] at hjl
       rw [ins_at _ _ _ hi] at hj
       by_cases h1 : j < i
       · rw [if_pos h1] at hj
         rw [m4 (off + j) (by omega), k4 (off + j) (by omega)]
         exact hc j y hj
       rw [if_neg h1] at hj
       by_cases h2 : j = i
       · subst h2
         rw [if_pos rfl] at hj
         have := m3 0 (by simp) (by omega)
         rw [Nat.add_zero] at this
         rw [this]
         simpa using hj
       rw [if_neg h2] at hj
       have hd : (xs.map (Value.int .i64)).drop i = ((xs.drop i).map (Value.int .i64)) := List.map_drop.symm
       have := k3 (j - (i + 1)) (by rw [hd, List.length_map, List.length_drop]; omega) (by omega)
       rw [m4 (off + j) (by simp; omega), show off + j = off + (i + 1) + (j - (i + 1)) by omega, this, hd, List.getElem?_map, List.getElem?_drop, show i + (j - (i + 1)) = j - 1 by omega, hj]
       rfl
     · obtain rfl : i = xs.length := by omega
       refine (Any2.slices_Insert_int_end_room Try.lays21 g off xs.length cap vb 0 1 1 [.int .i64 x] w (by decide) hroom (by unfold maxLen at hm; omega) rfl (fun j hj => by rw [Nat.add_assoc]; exact hsp _ (by omega)) (fun j _ => by rw [Nat.add_assoc]; exact hfz _) hvs h1v).mono ?_
       rintro e w1 ⟨rfl, rfl⟩
       obtain ⟨c2, m1, m2, m3, m4⟩ := heap_setCells g 3 [.int .i64 x] (off + xs.length) w cur hh
       refine ⟨_, rfl, ?_, grown_setCells g _ _ _, .inl (by simp [Value.ownBlock])⟩
       rw [<- hlen]
       refine .inr ⟨g, off, cap, c2, rfl, hb, m1, by omega, by omega, hm, fun j y hj => ?_⟩
       have hjl := (List.getElem?_eq_some_iff.1 hj).1
       rw [hlen] at hjl
       rw [ins_at _ _ _ hi] at hj
       by_cases h1 : j < xs.length
       · rw [if_pos h1] at hj
         rw [m4 (off + j) (by omega)]
         exact hc j y hj
       obtain rfl : j = xs.length := by omega
       rw [if_neg h1, if_pos rfl] at hj
       have := m3 0 (by simp) (by omega)
       rw [Nat.add_zero] at this
       rw [this]
       simpa using hj
   by_cases hin : i < xs.length
   rotate_left
   · obtain rfl : i = xs.length := by omega
     refine (Any2.slices_Insert_int_end_grow Try.lays21 (some ⟨g, off, none⟩) xs.length cap vb 0 1 1 (xs.map (Value.int .i64)) [.int .i64 x] w (by decide) hl (by omega) hbig (by simp) rfl (fun h => by cases h) (fun a ha j u hu => by cases ha; rw [Addr.add_lit]; exact hcs j u hu) hvs h1v).mono ?_
     rintro e w1 ⟨he, hw⟩
     rw [T3] at he hw
     subst he hw
     have hG := grownCap_ge w (xs.length + 1) cap 3
     refine fin cap _ _ (blk_new _ _) ?_ ?_ (grownAlloc _)
     · rw [Array.size_append, zero_size]
       simp
       omega
     · intro j y hj
       have hjl := (List.getElem?_eq_some_iff.1 hj).1
       rw [hlen] at hjl
       rw [Array.getElem?_append_left (by simp; omega)]
       rw [ins_at _ _ _ hi] at hj
       by_cases h1 : j < xs.length
       rotate_left
       · obtain rfl : j = xs.length := by omega
         rw [if_neg h1, if_pos rfl] at hj
         simp at hj ⊢
         exact hj
       rw [if_pos h1] at hj
       have hj' := (List.getElem?_eq_some_iff.1 hj).2
       simp [List.getElem?_append_left, h1, hj']
   refine (Any2.slices_Insert_int_grow Try.lays21 g off xs.length cap i vb 0 1 1 (xs.map (Value.int .i64)) [.int .i64 x] w hin (by decide) hl (by omega) hbig (by simp) rfl hcs hvs h1c h1v).mono ?_
   rintro e w1 ⟨he, hw⟩
   rw [T3] at he hw
   subst he hw
   have hG := grownCap_ge w (xs.length + 1) cap 3
   obtain ⟨c1, k1, k2, k3, k4⟩ := heap_setCells w.heap.size 3 [.int .i64 x] i (w.alloc (.cells (((xs.map (Value.int .i64)).take i).toArray ++ Builtin.zeroCells (Value.int .i64 0).cells (xs.length + 1 - i) ++ Builtin.zeroCells (Value.int .i64 0).cells (grownCap w (xs.length + 1) cap 3 - (xs.length + 1))) 3)).drew _ (blk_new w _)
   obtain ⟨c2, m1, m2, m3, m4⟩ := heap_setCells w.heap.size 3 ((xs.map (Value.int .i64)).drop i) (i + 1) _ c1 (blk_drew k1)
   have hsz1 : c1.size = grownCap w (xs.length + 1) cap 3 := by
    rw [k2, Array.size_append, Array.size_append, zero_size, zero_size]
    simp
    omega
   refine fin cap _ c2 m1 (by rw [m2, hsz1]) (fun j y hj => ?_) ?_
   · have hjl := (List.getElem?_eq_some_iff.1 hj).1
     rw [hlen] at hjl
     rw [ins_at _ _ _ hi] at hj
     by_cases h1 : j < i
     · rw [if_pos h1] at hj
       rw [m4 j (by omega), k4 j (by omega), Array.append_assoc, Array.getElem?_append_left (by simp; omega)]
       simp [h1, hj]
     rw [if_neg h1] at hj
     by_cases h2 : j = i
     · subst h2
       rw [if_pos rfl] at hj
       have := k3 0 (by simp) (by rw [<- k2, hsz1]; omega)
       rw [Nat.add_zero] at this
       rw [m4 j (by omega), this]
       simpa using hj
     rw [if_neg h2] at hj
     have hd : (xs.map (Value.int .i64)).drop i = ((xs.drop i).map (Value.int .i64)) := List.map_drop.symm
     have := m3 (j - (i + 1)) (by rw [hd, List.length_map, List.length_drop]; omega) (by rw [hsz1]; omega)
     rw [show j = i + 1 + (j - (i + 1)) by omega, this, hd, List.getElem?_map, List.getElem?_drop, show i + (j - (i + 1)) = j - 1 by omega, hj]
     rfl
   · exact grown_of_below (below_cells (Nat.le_refl _) _ _ _ (below_drew (below_cells (Nat.le_refl _) _ _ _ (below_drew (below_alloc (Below.refl _ _) _))))) _
end Rw
end Go.Proofs.Ytpmjpngmmphkmaa
namespace Go.Proofs.Ytpmjpngmmphkmaa
open Go.RowKit Go.Proofs.Yw.A Go.Proofs.Yw.B Go.Proofs.Yw.C Go.Proofs.Ytpmjpngmmphkmaa.P
namespace Od
open Tj Rw
def first (ms : List (List Int)) (d : Int) : Int := rd (row ms d) 0
abbrev Fine (ms : List (List Int)) (d : Int) : Prop := 0 <= d /\ d < ms.length /\ 0 < (row ms d).length /\ 0 <= first ms d /\ first ms d < 4611686018427387904
structure MsAt (W1 : World) (bm : Nat) (ms : List (List Int)) : Prop where
 cell : ∃ A c, W1.heap[bm]? = some (.cells #[.slice A ms.length c] 22 (0, 0)) /\ Kd.C (Kd.slice 3 (Kd.int .i64)) W1 A ms.length ms
theorem cmp_calls (W1 w : World) (bm : Nat) (ms : List (List Int)) (d t : Int) (M : MsAt W1 bm ms) (hb : Below W1.heap.size W1 w) (hd : Fine ms d) (ht0 : 0 <= t) (ht1 : t < 4611686018427387904) :
 Calls Try.prog 39 #[.int .i64 d, .int .i64 t, P1 bm] w fun e w' => e = .returned (.int .i64 (first ms d - t)) /\ w = w' := by
 obtain ⟨h0, h1, h2, h3, h4⟩ := hd
 obtain ⟨A, c, k1, k2⟩ := M.cell
 clear M
 have c1 := cell_of_one (blk_below k1 hb)
 obtain ⟨ad, A0, c0, rfl, hx, hl0, hi0⟩ := at_L1 k2 d h0 h1
 have hx1 := (hb.cell (World.block_lt_of_cell? _ _ hx)).trans hx
 have el : rd_L1 ms d = row ms d := rfl
 rw [el] at hx1 hi0
 obtain ⟨ad2, rfl, hy⟩ := Kd.at_int hi0 0 (by omega) (by omega)
 have hy1 := (hb.cell (World.block_lt_of_cell? _ _ hy)).trans hy
 rw [show ((0 : Int)).toNat = 0 from rfl] at hy1
 have hz : (0 < (row ms d).length) = True := eq_true h2
 have q1 := eq_true h0
 have q2 := eq_true h1
 clear k1 k2 hx hy hl0 hi0 el hb
 have ef : rd (row ms d) 0 = first ms d := rfl
 rw [ef] at hy1
 clear ef h0 h1
 rw [Addr.add_zero'] at hy1
 go_enter Try.func39, Try.ntmps39
 go_wp2
 go_ret
 exact ⟨rfl, rfl⟩
def pos (ms : List (List Int)) (t : Int) (xs : List Int) : Nat := xs.countP fun d => decide (first ms d < t)
theorem pos_of {ms : List (List Int)} {t : Int} {xs : List Int} {i : Nat} (hi : i <= xs.length) (h1 : ∀ j x, xs[j]? = some x -> j < i -> first ms x < t) (h2 : ∀ j x, xs[j]? = some x -> i <= j -> ¬ first ms x < t) : pos ms t xs = i := by
 unfold pos
 have e : xs = xs.take i ++ xs.drop i := (List.take_append_drop i xs).symm
 rw [e, List.countP_append]
 have a1 : (xs.take i).countP (fun d => decide (first ms d < t)) = (xs.take i).length := by
  rw [List.countP_eq_length]
  intro x hx
  obtain ⟨j, hj, hjx⟩ := List.mem_iff_getElem.1 hx
  have hjl : j < i := by simp at hj; omega
  refine decide_eq_true (h1 j x ?_ hjl)
  rw [<- List.getElem?_take_of_lt hjl, List.getElem?_eq_getElem hj, hjx]
 have a2 : (xs.drop i).countP (fun d => decide (first ms d < t)) = 0 := by
  rw [List.countP_eq_zero]
  intro x hx
  obtain ⟨j, hj, hjx⟩ := List.mem_iff_getElem.1 hx
  have := h2 (i + j) x (by rw [<- List.getElem?_drop, List.getElem?_eq_getElem hj, hjx]) (by omega)
  simpa using this
 rw [a1, a2]
 simp
 omega
def fnd (ms : List (List Int)) (t : Int) (xs : List Int) : Bool := match xs[pos ms t xs]? with | some x => first ms x - t == 0 | none => false
theorem fnd_some {ms : List (List Int)} {t : Int} {xs : List Int} {i : Nat} {x : Int} (h : pos ms t xs = i) (hx : xs[i]? = some x) : fnd ms t xs = (first ms x - t == 0) := by
 unfold fnd
 rw [h, hx]
theorem fnd_none {ms : List (List Int)} {t : Int} {xs : List Int} {i : Nat} (h : pos ms t xs = i) (hx : xs.length <= i) : fnd ms t xs = false := by
 unfold fnd
 rw [h, List.getElem?_eq_none hx]
theorem ret_two {n m : Int} {b c : Bool} (h : n = m) (hb : b = c) : Ending.returned (.tuple #[.int .i64 n, .bool b]) = .returned (.tuple #[.int .i64 m, .bool c]) := by rw [h, hb]
abbrev FoundAt (n : Nat) (b : Bool) (w : World) (e : Ending) (w' : World) : Prop := e = .returned (.tuple #[.int .i64 (n : Int), .bool b]) /\ w' = w
theorem bsf_calls (W1 w : World) (bm : Nat) (ms : List (List Int)) (t : Int) (base : Nat) (v : Value) (xs : List Int) (M : MsAt W1 bm ms) (hb : Below W1.heap.size W1 w) (hR : RowAt w base v xs) (hd : ∀ d ∈ xs, Fine ms d) (ht0 : 0 <= t) (ht1 : t < 4611686018427387904)
 (hs : xs.Pairwise (fun a b => first ms a <= first ms b)) (hlen : xs.length < 17592186044416) :
 Calls Try.prog 38 #[v, .int .i64 t, .func (.func 39) #[] #[P1 bm]] w (FoundAt (pos ms t xs) (fnd ms t xs) w) := by
 have HM := Az.mk M
 have HB := Az.mk hb
 have HR := Az.mk hR
 have HD := Az.mk hd
 have HS := Az.mk hs
 obtain ⟨A, c, rfl, hlc, hcm⟩ := hR.slice
 have CMP := Az.mk (fun (d : Int) (hd : d ∈ xs) => cmp_calls W1 w bm ms d t M hb (HD.1 d hd) ht0 ht1)
 have CELL := Az.mk (show ∀ (j : Nat) (d : Int), xs[j]? = some d -> ∃ g off, A = some ⟨g, off, none⟩ /\ w.cell? ⟨g, off + j, none⟩ = some (.int .i64 d) from by
  intro j d hj
  rcases HR.1 with ⟨h1, h2⟩ | ⟨g, off, cap, cur, h1, -, hh, -, -, -, hc⟩
  · subst h2; simp at hj
  · injection h1 with h1
    exact ⟨g, off, h1, by rw [blk_cell hh]; exact hc j d hj⟩)
 clear M hb hR hd hs
 go_enter Try.func38, Try.ntmps38
 go_wp2_with fail
 go_loopg [9, 10] xs.length (fun kq v9 v10 w' => ∃ (i j : Nat), v9 = .int .i64 i /\ v10 = .int .i64 j /\ Az (i <= j /\ j <= xs.length /\ j - i <= kq) /\ Az (w' = w) /\ Az (∀ m x, xs[m]? = some x -> m < i -> first ms x < t) /\ Az (∀ m x, xs[m]? = some x -> j <= m -> ¬ first ms x < t))
 case atStart => exact ⟨0, xs.length, rfl, rfl, ⟨Nat.zero_le _, Nat.le_refl _, by omega⟩, ⟨rfl⟩, ⟨fun m x _ h => by omega⟩, ⟨fun m x h1 h2 => by have := (List.getElem?_eq_some_iff.1 h1).1; omega⟩⟩
 case round => as_aux_lemma =>
  obtain ⟨i, j, rfl, rfl, HI, HW, H1, H2⟩ := hrel
  obtain ⟨b1, b2, b3⟩ := HI.1
  have hw := HW.1
  subst hw
  by_cases hij : i < j
  rotate_left
  · as_aux_lemma =>
    obtain rfl : i = j := by omega
    have HP := Az.mk (pos_of b2 H1.1 H2.1)
    by_cases hin : i < xs.length
    rotate_left
    · as_aux_lemma =>
      have t3 : decide (i < xs.length) = false := decide_eq_false hin
      go_wp2_with fail
      go_ret2
      exact ⟨ret_two (by rw [HP.1]) (by rw [fnd_none HP.1 (by omega)]), rfl⟩
    as_aux_lemma =>
    obtain ⟨x, hx⟩ : ∃ x, xs[i]? = some x := ⟨xs[i]'hin, List.getElem?_eq_getElem _⟩
    have hmem := Az.mk (List.mem_of_getElem? hx)
    obtain ⟨g, off, rfl, hcell⟩ := CELL.1 i x hx
    have HF := Az.mk (fnd_some HP.1 hx)
    clear hx
    have t3 : decide (i < xs.length) = true := decide_eq_true hin
    go_wp2_with (go_at_call 39; refine (CMP.1 x hmem.1).mono ?_; rintro e w' ⟨rfl, rfl⟩)
    go_ret2
    exact ⟨ret_two (by rw [HP.1]) (by rw [HF.1]), rfl⟩
  as_aux_lemma =>
  obtain ⟨k1, rfl⟩ : ∃ m, gk = m + 1 := ⟨gk - 1, by omega⟩
  obtain ⟨h, hh⟩ : ∃ h : Nat, h = (i + j) / 2 := ⟨_, rfl⟩
  have hi1 : i <= h := by omega
  have hj1 : h < j := by omega
  have HH := Az.mk hh
  clear hh
  go_upto_region 5 with fail
  have hq : ((i : Int) + (j : Int)) / 2 = (h : Int) := by have := HH.1; omega
  rw [hq]
  clear hq
  obtain ⟨x, hx⟩ : ∃ x, xs[h]? = some x := ⟨xs[h]'(by omega), List.getElem?_eq_getElem _⟩
  have HX := Az.mk hx
  have hmem := Az.mk (List.mem_of_getElem? hx)
  obtain ⟨g, off, rfl, hcell⟩ := CELL.1 h x hx
  clear hx
  have hsort : ∀ (a b : Nat) (x y : Int), a < b -> xs[a]? = some x -> xs[b]? = some y -> first ms x <= first ms y := by
   intro a b x y hab ha hb
   obtain ⟨ha1, ha2⟩ := List.getElem?_eq_some_iff.1 ha
   obtain ⟨hb1, hb2⟩ := List.getElem?_eq_some_iff.1 hb
   have := List.pairwise_iff_getElem.1 HS.1 a b ha1 hb1 hab
   rw [ha2, hb2] at this
   exact this
  have HSO := Az.mk hsort
  clear hsort
  have hlh : h < xs.length := by omega
  by_cases hlt : first ms x < t
  rotate_left
  · as_aux_lemma =>
    have t1 : decide (first ms x - t < 0) = false := decide_eq_false (by omega)
    have t2 : decide (first ms x < t) = false := decide_eq_false hlt
    have HLT := Az.mk hlt
    clear hlt
    go_wp2_with (go_at_call 39; refine (CMP.1 x hmem.1).mono ?_; rintro e w' ⟨rfl, rfl⟩)
    go_roundg k1
    case measure => omega
    case rel =>
     refine ⟨i, h, rfl, rfl, ⟨by omega, by omega, by have := HH.1; omega⟩, ⟨rfl⟩, H1, ⟨fun m y hy hm => ?_⟩⟩
     have := HLT.1
     rcases Nat.lt_or_ge h m with h1 | h1
     · have := HSO.1 h m x y h1 HX.1 hy
       omega
     · obtain rfl : m = h := by omega
       rw [HX.1] at hy
       cases hy
       exact this
  as_aux_lemma =>
  have t1 : decide (first ms x - t < 0) = true := decide_eq_true (by omega)
  have t2 : decide (first ms x < t) = true := decide_eq_true hlt
  have HLT := Az.mk hlt
  clear hlt
  go_wp2_with (go_at_call 39; refine (CMP.1 x hmem.1).mono ?_; rintro e w' ⟨rfl, rfl⟩)
  go_roundg k1
  case measure => omega
  case rel =>
   refine ⟨h + 1, j, by go_num, rfl, ⟨by omega, b2, by have := HH.1; omega⟩, ⟨rfl⟩, ⟨fun m y hy hm => ?_⟩, H2⟩
   have := HLT.1
   rcases Nat.lt_or_ge m h with h1 | h1
   · have := HSO.1 m h y x h1 hy HX.1
     omega
   · obtain rfl : m = h := by omega
     rw [HX.1] at hy
     cases hy
     exact this
def enterF (ms : List (List Int)) (c : Int) (ready : List Int) : Option (List Int) :=
 if Fine ms c /\ (∀ d ∈ ready, Fine ms d) /\ ready.Pairwise (fun a b => first ms a <= first ms b) /\ ready.length < 17592186044415 then some (ins ready (pos ms (first ms c) ready) c) else none
def Entered (W1 : World) (base br : Nat) (vr : Value) (ready' : List Int) (w : World) (e : Ending) (w' : World) : Prop :=
 e = .returned (.tuple #[]) /\ Below W1.heap.size W1 w' /\ w.heap.size <= w'.heap.size /\ (∃ vr', w'.heap[br]? = some (.cells #[vr'] 32 (0, 0)) /\ RowAt w' base vr' ready') /\
  ∀ k, k < w.heap.size -> k ≠ br -> vr.ownBlock ≠ some k -> w'.heap[k]? = w.heap[k]?
theorem enter_calls (W1 w : World) (bm br : Nat) (ms : List (List Int)) (c : Int) (base : Nat) (vr : Value) (ready ready' : List Int) (M : MsAt W1 bm ms) (hb : Below W1.heap.size W1 w) (hbr : W1.heap.size <= br) (hbase : W1.heap.size <= base) (hbw : base <= w.heap.size)
 (hv : w.heap[br]? = some (.cells #[vr] 32 (0, 0))) (hR : RowAt w base vr ready) (h : enterF ms c ready = some ready') :
 Calls Try.prog 37 #[.int .i64 c, P1 br, P1 bm] w (Entered W1 base br vr ready' w) := by
 unfold enterF at h
 by_cases hc : Fine ms c /\ (∀ d ∈ ready, Fine ms d) /\ ready.Pairwise (fun a b => first ms a <= first ms b) /\ ready.length < 17592186044415
 case neg => rw [if_neg hc] at h; cases h
 rw [if_pos hc] at h
 obtain rfl := Option.some.inj h
 clear h
 obtain ⟨⟨h0, h1, h2, h3, h4⟩, hF, hS, hL⟩ := hc
 obtain ⟨A, cc, k1, k2⟩ := M.cell
 have BS := Az.mk (fun n => bsf_calls W1 (w.drewN n) bm ms (first ms c) base vr ready M (pw_below_drewN hb n) (hR.kept (fun _ _ => rfl)) hF h3 h4 hS (by omega))
 have HR := Az.mk hR
 have HB := Az.mk hb
 have HV := Az.mk hv
 clear hR hF hS M
 obtain ⟨A2, c2, rfl, hlc, hcm⟩ := HR.1.slice
 have c0 := cell_of_one hv
 have c1 := cell_of_one (blk_below k1 hb)
 obtain ⟨ad, A0, c0, rfl, hx, hl0, hi0⟩ := at_L1 k2 c h0 h1
 have hx1 := (hb.cell (World.block_lt_of_cell? _ _ hx)).trans hx
 have el : rd_L1 ms c = row ms c := rfl
 rw [el] at hx1 hi0
 obtain ⟨ad2, rfl, hy⟩ := Kd.at_int hi0 0 (by omega) (by omega)
 have hy1 := (hb.cell (World.block_lt_of_cell? _ _ hy)).trans hy
 rw [show ((0 : Int)).toNat = 0 from rfl] at hy1
 have hz : (0 < (row ms c).length) = True := eq_true h2
 have q1 := eq_true h0
 have q2 := eq_true h1
 clear k1 k2 hx hy hl0 hi0 el hb hv
 have ef : rd (row ms c) 0 = first ms c := rfl
 rw [ef, Addr.add_zero'] at hy1
 clear ef h0 h1
 go_enter Try.func37, Try.ntmps37
 go_wp2_with fail
 go_quiet ((go_at_call 38; exact Calls.quiet_of_same (BS.1 _)))
 clear hx1 hy1 c1 BS
 go_wp2_with fail
 have W0 := HB.1
 have hs5 : ((w.drewN nq).alloc (.cells #[.int .i64 c] 3)).heap.size = w.heap.size + 1 := by simp
 have hlt := blk_lt HV.1
 have R1 : RowAt ((w.drewN nq).alloc (.cells #[.int .i64 c] 3)) base (.slice A2 ready.length c2) ready := HR.1.kept (fun k hk => by
  have := (HR.1.lt k hk).2.1
  exact Below.heap_alloc (w.drewN nq) _ k this)
 have hpos : pos ms (first ms c) ready <= ready.length := List.countP_le_length
 have hown : ∀ k, (Value.slice A2 ready.length c2).ownBlock = some k -> k ≠ br /\ k < w.heap.size := by
  intro k hk
  obtain ⟨a1, a2, cur, a3⟩ := HR.1.lt k hk
  exact ⟨by rintro rfl; rw [HV.1] at a3; injection a3 with a3; injection a3 with _ a3; exact absurd a3 (by decide), a2⟩
 refine (insert_calls ((w.drewN nq).alloc (.cells #[.int .i64 c] 3)) base _ ready _ c w.heap.size R1 hpos (by omega) (blk_new (w.drewN nq) _) (fun e => by have := (hown _ e).2; omega) (by rw [hs5]; omega)).mono ?_
 rintro e w2 ⟨v', rfl, hr', hg, hat⟩
 have G1 : ∀ k, k < w.heap.size -> (Value.slice A2 ready.length c2).ownBlock ≠ some k -> w2.heap[k]? = w.heap[k]? := by
  intro k hk hne
  rw [hg.block k (by simp; omega) (fun e => hne e.symm)]
  exact Below.heap_alloc (w.drewN nq) _ k hk
 have hbr2 : w2.heap[br]? = some (.cells #[.slice A2 ready.length c2] 32 (0, 0)) := (G1 br hlt (fun e => (hown _ e).1 rfl)).trans HV.1
 have hsz : w.heap.size + 1 <= w2.heap.size := by have := hg.size; simpa using this
 have HB2 : Below W1.heap.size W1 w2 := by
  have b1 : Below W1.heap.size W1 ((w.drewN nq).alloc (.cells #[.int .i64 c] 3)) := below_alloc (pw_below_drewN W0 nq) _
  refine b1.grown hg (by rw [hs5]; omega) (fun k hk => ?_)
  have := (HR.1.lt k hk).1
  omega
 obtain ⟨A3, c3, rfl, -, -⟩ := hr'.slice
 have hr2 := Az.mk hr'
 have G2 := Az.mk G1
 have B2 := Az.mk HB2
 have V2 := Az.mk hbr2
 have O2 := Az.mk hown
 have T2 := Az.mk hat
 have S2 := Az.mk hsz
 have c4 := cell_of_one hbr2
 have f4 := free_of_one hbr2
 clear hr' G1 HB2 hbr2 hown hat hsz hg R1 W0 hpos hs5
 go_wp2_with fail
 go_end0
 have hne2 : ∀ k, (Value.slice A3 (ins ready (pos ms (first ms c) ready) c).length c3).ownBlock = some k -> k ≠ br := by
  intro k hk
  obtain ⟨_, _, cur, a3⟩ := hr2.1.lt k hk
  rintro rfl
  rw [V2.1] at a3
  injection a3 with a3
  injection a3 with _ a3
  exact absurd a3 (by decide)
 refine ⟨rfl, B2.1.setCell hbr _, ?_, ⟨_, one_setCell V2.1, hr2.1.kept (fun k hk => Below.heap_setCell _ _ _ _ (hne2 k hk))⟩, fun k hk hkb hko => ?_⟩
 · have := S2.1
   simp
   omega
 · rw [Below.heap_setCell _ _ _ _ (show k ≠ br from hkb)]
   exact G2.1 k hk hko
def SeenAt (w : World) (b : Nat) (S : List Int) : Prop := ∃ (n : Nat) (D : DataW Unit), w.ownsMap Try.prog 3 (plainElem Try.prog 4) b n D /\ n <= S.length /\ Maps.IsMap D /\
 ∀ x : Int, (Lit.int .i64 x).wf = true -> D.atKey (.int .i64 x) (.lit (.bool false)) = .lit (.bool (S.contains x))
theorem keys3 : Maps.Keyed Try.prog 3 := Maps.int_keyed Try.underlying3
theorem zero4 (w : World) : (zeroValue 4).run Try.prog w = .ok (.bool false) w := by kernel_rfl
theorem SeenAt.made (w : World) : SeenAt (w.alloc (.map #[] 0)) w.heap.size [] :=
 ⟨0, .map [], World.ownsMap_made _ _ _ _, Nat.le_refl _, Maps.isMap_empty, fun x _ => by simp [DataW.atKey]⟩
theorem SeenAt.kept {w w' : World} {b : Nat} {S : List Int} {row : Option Nat} (h : SeenAt w b S) (hg : w.grownBy w' row) (hne : some b ≠ row) : SeenAt w' b S := by
 obtain ⟨n, D, h1, h2⟩ := h
 exact ⟨n, D, h1.kept hg hne, h2⟩
theorem SeenAt.lt {w : World} {b : Nat} {S : List Int} (h : SeenAt w b S) : b < w.heap.size := by
 obtain ⟨n, D, h1, h2⟩ := h
 exact h1.lt
theorem SeenAt.obj {w : World} {b : Nat} {S : List Int} (h : SeenAt w b S) : ∃ es c, w.heap[b]? = some (.map es c) := by
 obtain ⟨n, D, ⟨es, c, h1, _⟩, _⟩ := h
 exact ⟨es, c, h1⟩
theorem SeenAt.look {w : World} {b : Nat} {S : List Int} (h : SeenAt w b S) (x : Int) (hx : (Lit.int .i64 x).wf = true) : (Instr.lookup 58 (.map (some b)) (.int .i64 x) false).run Try.prog w = .ok (.bool (S.contains x)) w := by
 obtain ⟨n, D, h1, h2, _, h3⟩ := h
 obtain ⟨v, ps, hrun, hv⟩ := h1.lookup keys3 Try.underlying58 (zero4 w) (plainElem_bool Try.underlying4 false) (Maps.keyOf_int_mk Try.underlying3 hx)
 rw [h3 x hx] at hv
 rw [hrun]
 unfold plainElem at hv
 rw [Try.underlying4] at hv
 cases v <;> simp at hv
 obtain ⟨rfl, _⟩ := hv
 simp
theorem SeenAt.put {w : World} {b : Nat} {S : List Int} (h : SeenAt w b S) (hn : S.length < maxLen) (x : Int) (hx : (Lit.int .i64 x).wf = true) :
 ∃ w', (Instr.mapUpdate 58 (.map (some b)) (.int .i64 x) (.bool true)).run Try.prog w = .ok () w' /\ SeenAt w' b (S ++ [x]) /\ w.grownBy w' (some b) := by
 obtain ⟨n, D, h1, h2, hm, h3⟩ := h
 obtain ⟨w', hrun, h4, hg⟩ := h1.update keys3 Try.underlying58 (by omega) (Maps.keyOf_int_mk Try.underlying3 hx) (plainElem_bool Try.underlying4 true)
 refine ⟨w', hrun, ⟨n + 1, _, h4, by simp; omega, hm.put _ _, fun y hy => ?_⟩, hg⟩
 by_cases hyx : y = x
 · subst hyx
   rw [Maps.atKey_put_same hm (by simp [WideAt.IsKeyLit])]
   simp
 rw [Maps.atKey_put_other (by intro e; injection e with _ e; exact hyx e), h3 y hy]
 simp [hyx]
def app (ms : List (List Int)) (c x : Int) : List (List Int) := ms.set c.toNat (row ms c ++ [x])
def grp : Nat -> List Int -> Int -> List (List Int) -> Option (List (List Int))
 | 0, _, _, _ => none
 | k + 1, comp, v, ms =>
  if v < comp.length then
   if 0 <= rd comp v /\ rd comp v < ms.length /\ (row ms (rd comp v)).length < 17592186044415 then grp k comp (v + 1) (app ms (rd comp v) v) else none
  else some ms
structure US where
 opn : List Int
 users : List (List Int)
 seen : List Int
def link (c d : Int) (u : US) : US := { opn := u.opn.set c.toNat (wrap64 (rd u.opn c + 1)), users := app u.users d c, seen := u.seen ++ [d] }
def ed3 : Nat -> List Int -> Int -> List Int -> Int -> US -> Option US
 | 0, _, _, _, _, _ => none
 | k + 1, comp, c, l, i, u =>
  if i < l.length then
   if 0 <= rd l i /\ rd l i < comp.length /\ (Lit.int .i64 (rd comp (rd l i))).wf = true then
    if u.seen.contains (rd comp (rd l i)) = true then ed3 k comp c l (i + 1) u
    else if 0 <= c /\ c < u.opn.length /\ 0 <= rd comp (rd l i) /\ rd comp (rd l i) < u.users.length /\ (row u.users (rd comp (rd l i))).length < 17592186044415 /\ u.seen.length < 17592186044415 then
     ed3 k comp c l (i + 1) (link c (rd comp (rd l i)) u)
    else none
   else none
  else some u
def ed2 : Nat -> List (List Int) -> List Int -> Int -> List Int -> Int -> US -> Option US
 | 0, _, _, _, _, _, _ => none
 | k + 1, es, comp, c, l, i, u =>
  if i < l.length then
   if 0 <= rd l i /\ rd l i < es.length then (ed3 k comp c (row es (rd l i)) 0 u).bind fun u1 => ed2 k es comp c l (i + 1) u1 else none
  else some u
def ed1 : Nat -> List (List Int) -> List Int -> List (List Int) -> Int -> US -> Option US
 | 0, _, _, _, _, _ => none
 | k + 1, es, comp, ms, c, u =>
  if c < ms.length then
   if (Lit.int .i64 c).wf = true then (ed2 k es comp c (row ms c) 0 { u with seen := [c] }).bind fun u1 => ed1 k es comp ms (c + 1) u1 else none
  else some u
def starts : Nat -> List (List Int) -> Int -> Int -> List Int -> List Int -> Option (List Int)
 | 0, _, _, _, _, _ => none
 | k + 1, ms, n, c, opn, ready =>
  if c < n then
   if 0 <= c /\ c < opn.length then
    if rd opn c = 0 then (enterF ms c ready).bind fun r => starts k ms n (c + 1) opn r else starts k ms n (c + 1) opn ready
   else none
  else some ready
def dec : Nat -> List (List Int) -> List Int -> Int -> List Int -> List Int -> Option (List Int × List Int)
 | 0, _, _, _, _, _ => none
 | k + 1, ms, l, i, opn, ready =>
  if i < l.length then
   if 0 <= rd l i /\ rd l i < opn.length then
    if rd (opn.set (rd l i).toNat (wrap64 (rd opn (rd l i) - 1))) (rd l i) = 0 then
     (enterF ms (rd l i) ready).bind fun r => dec k ms l (i + 1) (opn.set (rd l i).toNat (wrap64 (rd opn (rd l i) - 1))) r
    else dec k ms l (i + 1) (opn.set (rd l i).toNat (wrap64 (rd opn (rd l i) - 1))) ready
   else none
  else some (opn, ready)
def drain : Nat -> List (List Int) -> List (List Int) -> List Int -> List Int -> List (List Int) -> Option (List (List Int))
 | 0, _, _, _, _, _ => none
 | k + 1, ms, users, opn, ready, out =>
  if 0 < ready.length then
   if 0 <= rd ready 0 /\ rd ready 0 < ms.length /\ rd ready 0 < users.length /\ out.length < 5864062014805 then
    (dec k ms (row users (rd ready 0)) 0 opn (ready.drop 1)).bind fun p => drain k ms users p.1 p.2 (out ++ [row ms (rd ready 0)])
   else none
  else some out
def orderedF (k : Nat) (es : List (List Int)) : Option (List (List Int)) :=
 (strongF k es).bind fun p =>
  if 0 <= p.2 /\ p.2 < 5864062014805 then
   (grp k p.1 0 (List.replicate p.2.toNat [])).bind fun ms =>
    (ed1 k es p.1 ms 0 { opn := List.replicate p.2.toNat 0, users := List.replicate p.2.toNat [], seen := [] }).bind fun u =>
     (starts k ms p.2 0 u.opn []).bind fun ready => drain k ms u.users u.opn ready []
  else none
end Od
end Go.Proofs.Ytpmjpngmmphkmaa
namespace Go.Proofs.Ytpmjpngmmphkmaa
open Go.RowKit Go.Proofs.Yw.A Go.Proofs.Yw.B Go.Proofs.Yw.C Go.Proofs.Ytpmjpngmmphkmaa.P
namespace Tj
attribute [local go_sem] max2_int min2_int max_two min_two max_three min_three max_four min_four
theorem visit_step (X : Cx) (o : X.Ok) (k : Nat) (ih : Az (∀ k1, k1 < k -> ∀ (v : Int) (st st' : TS), visit k1 X.es v st = some st' -> ∀ w, Inv X st w -> Calls Try.prog 44 #[.int .i64 v, P1 X.bc, P1 X.bi, P1 X.bl, P1 X.bs, P1 X.be, P1 X.bv, P1 X.bp, P1 X.bm] w fun e w' => e = .returned (.tuple #[]) /\ Inv X st' w')) (v : Int) (st st' : TS) (w : World) (I : Inv X st w) (h : visit (k + 1) X.es v st = some st') :
    Calls Try.prog 44 #[.int .i64 v, P1 X.bc, P1 X.bi, P1 X.bl, P1 X.bs, P1 X.be, P1 X.bv, P1 X.bp, P1 X.bm] w fun e w' => e = .returned (.tuple #[]) /\ Inv X st' w' := by
  have H : (if 0 <= v /\ v < X.es.length /\ st.stack.length < 17592186044415 then each k X.es v (row X.es v) 0 (enter v st) else none) = some st' := by rw [<- h, visit]
  clear h
  by_cases hv : 0 <= v /\ v < X.es.length /\ st.stack.length < 17592186044415
  case neg => rw [if_neg hv] at H; cases H
  rw [if_pos hv] at H
  obtain ⟨hv0, hv1, hv2⟩ := hv
  have H' := Az.mk H
  clear H
  have J := Az.mk I
  have O := Az.mk o
  clear o
  have c1 := cell_of_one I.kc
  have f1 := free_of_one I.kc
  clear I
  go_enter Try.func44, Try.ntmps44
  go_wp2_with fail
  have J1 := Az.mk (J.1.setCount O.1 (wrap64 (st.count + 1)))
  clear J c1 f1
  generalize w.setCell ⟨X.bc, 0, none⟩ (.int .i64 (wrap64 (st.count + 1))) = w1 at J1 ⊢
  generalize hst1 : ({ st with count := wrap64 (st.count + 1) } : TS) = st1 at J1
  have N1 := Az.mk hst1
  clear hst1
  have c1 := cell_of_one J1.1.kc
  have c2 := cell_of_one J1.1.ki
  have c3 := cell_of_one J1.1.kl
  have c4 := arr_cell J1.1.ai v hv0 (by rw [J1.1.li]; exact hv1)
  have c5 := arr_cell J1.1.al v hv0 (by rw [J1.1.ll]; exact hv1)
  have f4 := arr_free J1.1.ai v.toNat
  have f5 := arr_free J1.1.al v.toNat
  have n1 : X.bc ≠ X.ai := O.1.t1.2.1
  have n2 : X.bl ≠ X.ai := blk_ne J1.1.kl J1.1.ai (by decide)
  have n3 : X.bc ≠ X.al := O.1.t1.2.2.1
  have n4 : X.bi ≠ X.al := blk_ne J1.1.ki J1.1.al (by decide)
  have n5 : X.al ≠ X.ai := O.1.t1.2.2.2.2.2.2.2.1.symm
  go_region
  go_upto_region 2 with fail
  have J2 := Az.mk ((J1.1.setIndex O.1 v.toNat st1.count).setLow O.1 v.toNat st1.count).drew
  clear J1 c1 c2 c3 c4 c5 f4 f5 n1 n2 n3 n4 n5
  generalize ((w1.setCell ⟨X.ai, v.toNat, none⟩ (.int .i64 st1.count)).setCell ⟨X.al, v.toNat, none⟩ (.int .i64 st1.count)).drew = w2 at J2 ⊢
  generalize hst2 : ({ st1 with index := st1.index.set v.toNat st1.count, low := st1.low.set v.toNat st1.count } : TS) = st2 at J2
  have N2 := Az.mk hst2
  clear hst2
  obtain ⟨vs, k1, k2⟩ := J2.1.ks
  have c1 := cell_of_one k1
  have f1 := free_of_one k1
  have K2 := Az.mk k2
  have S2 := Az.mk k1
  clear k1 k2
  go_wp2_with (first | ((with_reducible refine gate_builtin (b := .append) (xs := #[.tmp 23, .tmp 25]) rfl ?_); at_builtin; refine Kd.R_append (Kd.int .i64) (w0 := X.w0) X.w0.heap.size rfl (.tmp 23) (.tmp 25) 32 3 (.int .i64 0) 8 rfl Try.underlying32 info3 rfl (by decide) (by omega) vs st2.stack v [.int .i64 v] X.ok (fun _ => False) rfl rfl ?aP (fun _ hk => hk.elim) ?aF K2.1 J2.1.hB ?aS ?aL ?_) | fail)
  (case aP => exact rfl)
  (case aF => intro g hg; exact ⟨by have := blk_lt J2.1.kc; omega, by have := blk_lt J2.1.km; omega, by have := blk_lt J2.1.ai; omega, by have := blk_lt J2.1.al; omega, by have := blk_lt J2.1.ap; omega⟩)
  (case aS => exact J2.1.hB.size)
  (case aL => have e1 : st2.stack = st.stack := by rw [<- N2.1, <- N1.1]
              rw [e1]; omega)
  intro v1 w3 ho hb hg hat
  obtain ⟨A1, q1, rfl⟩ := Kd.R_slice ho
  have f3 := free_of_one (blk_grown S2.1 hg (Kd.R_ne K2.1 S2.1 (by decide)))
  have c3 := cell_of_one (blk_grown S2.1 hg (Kd.R_ne K2.1 S2.1 (by decide)))
  clear c1 f1 S2
  have Ho := Az.mk ho
  have Hb := Az.mk hb
  have Hg := Az.mk hg
  clear ho hb hg hat
  go_upto_region 3 with fail
  have J3 := Az.mk (J2.1.setStack O.1 Hg.1 Hb.1 (fun g hh => ⟨K2.1.1 g hh, (by obtain ⟨inner, hi⟩ := Kd.R_own K2.1; exact own_typed hi g hh)⟩) Ho.1)
  clear f3 c3 J2 K2 Ho Hb Hg
  have e3 : ({ st2 with stack := st2.stack ++ [v] } : TS) = enter v st := by rw [<- N2.1, <- N1.1]; rfl
  have e4 : (st2.stack ++ [v]).length = st2.stack.length + 1 := by simp
  rw [e3, e4] at J3
  (try rw [e4])
  clear e3 e4 N1 N2
  generalize w3.setCell ⟨X.bs, 0, none⟩ (.slice A1 (st2.stack.length + 1) q1) = w4 at J3 ⊢
  generalize hst3 : enter v st = st3 at J3 H'
  clear hst3
  have c1 := cell_of_one J3.1.ke
  obtain ⟨ad, A0, c0, eA, hx, hl0, hi0⟩ := at_L1 J3.1.hE v hv0 hv1
  have hx1 := (J3.1.hB.cell (World.block_lt_of_cell? _ _ hx)).trans hx
  rw [eA] at c1
  have hI0 := Az.mk hi0
  clear hx hl0 hi0 eA
  have q1 := eq_true hv0
  have q2 := eq_true hv1
  go_wp2_with fail
  have el : rd_L1 X.es v = row X.es v := rfl
  rw [el] at hI0 ⊢
  have hm : (row X.es v).length <= 9223372036854775807 := hI0.1.2.1
  go_loopg [32] k (fun kq v32 w' => ∃ (i : Int) (s : TS), v32 = .int .i64 i /\ Az (0 <= i) /\ Az (each kq X.es v (row X.es v) i s = some st') /\ Az (kq <= k) /\ Az (Inv X s w'))
  case atStart => exact ⟨0, st3, rfl, ⟨by omega⟩, H', ⟨Nat.le_refl _⟩, J3⟩
  case round => as_aux_lemma =>
    clear H' J3 c1 hx1
    obtain ⟨i, s, rfl, HI, HA, HK1, J⟩ := hrel
    cases gk with
    | zero => exact absurd HA.1 (by simp [each])
    | succ k1 =>
      have H := HA.1
      clear HA
      rw [each] at H
      by_cases ci : i < (row X.es v).length
      · rw [if_pos ci] at H
        have cb : decide (i < ((row X.es v).length : Int)) = true := decide_eq_true ci
        by_cases cr : 0 <= rd (row X.es v) i /\ rd (row X.es v) i < X.es.length
        case neg => rw [if_neg cr] at H; cases H
        rw [if_pos cr] at H
        obtain ⟨cr0, cr1⟩ := cr
        obtain ⟨ad2, e2, hx2⟩ := Kd.at_int hI0.1 i HI.1 ci
        cases e2
        have hx3 := (J.1.hB.cell (World.block_lt_of_cell? _ _ hx2)).trans hx2
        clear hx2
        have c2 := cell_of_one J.1.ki
        have hi0 := HI.1
        generalize rd (row X.es v) i = x at H cr0 cr1 hx3
        have c3 := arr_cell J.1.ai x cr0 (by rw [J.1.li]; exact cr1)
        have q3 := eq_true cr0
        have q4 := eq_true cr1
        have q5 := eq_true hi0
        have q6 := eq_true ci
        by_cases cz : rd s.index x = 0
        · as_aux_lemma =>
          rw [if_pos cz] at H
          obtain ⟨s1, hs1, H⟩ := Option.bind_eq_some_iff.1 H
          have Hs1 := Az.mk hs1
          have H' := Az.mk H
          clear hs1 H
          have cz1 : (rd s.index x == 0) = true := beq_iff_eq.2 cz
          clear cz
          have c5 := cell_of_one J.1.kv
          go_wp2_with (go_at_call 44; refine (ih.1 k1 (by have := HK1.1; omega) x s s1 Hs1.1 _ J.1).mono ?_; clear c2 c3 c5 hx3; rintro e w5 ⟨rfl, hI⟩; have J5 := Az.mk hI; clear hI)
          have c6 := cell_of_one J5.1.kl
          have c7 := arr_cell J5.1.al v hv0 (by rw [J5.1.ll]; exact hv1)
          have c8 := arr_cell J5.1.al x cr0 (by rw [J5.1.ll]; exact cr1)
          have f6 := arr_free J5.1.al v.toNat
          have key : ∀ y : Int, y = mn (rd s1.low v) (rd s1.low x) -> Az (Inv X (lower v (rd s1.low x) s1) ((w5.setCell ⟨X.al, v.toNat, none⟩ (.int .i64 y)).drew)) := by
            rintro y rfl
            exact ⟨(J5.1.setLow O.1 v.toNat _).drew⟩
          have KEY := Az.mk key
          clear key
          go_region
          all_goals (try go_wp2_with fail)
          all_goals as_aux_lemma =>
            first
            | (have J6 := KEY.1 (rd s1.low v) (by unfold mn; rw [if_neg (by omega)])
               generalize (w5.setCell ⟨X.al, v.toNat, none⟩ (.int .i64 (rd s1.low v))).drew = w6 at J6 ⊢
               clear KEY
               go_roundg k1
               case measure => have := HK1.1; omega
               case rel => exact ⟨i + 1, _, rfl, ⟨by omega⟩, H', ⟨by have := HK1.1; omega⟩, J6⟩)
            | (have J6 := KEY.1 (rd s1.low x) (by unfold mn; rw [if_pos (by omega)])
               generalize (w5.setCell ⟨X.al, v.toNat, none⟩ (.int .i64 (rd s1.low x))).drew = w6 at J6 ⊢
               clear KEY
               go_roundg k1
               case measure => have := HK1.1; omega
               case rel => exact ⟨i + 1, _, rfl, ⟨by omega⟩, H', ⟨by have := HK1.1; omega⟩, J6⟩)
        · as_aux_lemma =>
          rw [if_neg cz] at H
          have cz1 : (rd s.index x == 0) = false := beq_eq_false_iff_ne.2 cz
          clear cz
          have c9 := cell_of_one J.1.kp
          have c10 := arr_cell J.1.ap x cr0 (by rw [J.1.lp]; exact cr1)
          by_cases cn : rd s.comp x < 0
          · as_aux_lemma =>
            rw [if_pos cn] at H
            have H' := Az.mk H
            clear H
            have cn1 : decide (rd s.comp x < 0) = true := decide_eq_true cn
            clear cn
            go_wp2_with fail
            have c6 := cell_of_one J.1.kl
            have c7 := arr_cell J.1.al v hv0 (by rw [J.1.ll]; exact hv1)
            have f6 := arr_free J.1.al v.toNat
            have key : ∀ y : Int, y = mn (rd s.low v) (rd s.index x) -> Az (Inv X (lower v (rd s.index x) s) ((wr.setCell ⟨X.al, v.toNat, none⟩ (.int .i64 y)).drew)) := by
              rintro y rfl
              exact ⟨(J.1.setLow O.1 v.toNat _).drew⟩
            have KEY := Az.mk key
            clear key
            go_region
            all_goals (try go_wp2_with fail)
            all_goals as_aux_lemma =>
              first
              | (have J6 := KEY.1 (rd s.low v) (by unfold mn; rw [if_neg (by omega)])
                 generalize (wr.setCell ⟨X.al, v.toNat, none⟩ (.int .i64 (rd s.low v))).drew = w6 at J6 ⊢
                 clear KEY
                 go_roundg k1
                 case measure => have := HK1.1; omega
                 case rel => exact ⟨i + 1, _, rfl, ⟨by omega⟩, H', ⟨by have := HK1.1; omega⟩, J6⟩)
              | (have J6 := KEY.1 (rd s.index x) (by unfold mn; rw [if_pos (by omega)])
                 generalize (wr.setCell ⟨X.al, v.toNat, none⟩ (.int .i64 (rd s.index x))).drew = w6 at J6 ⊢
                 clear KEY
                 go_roundg k1
                 case measure => have := HK1.1; omega
                 case rel => exact ⟨i + 1, _, rfl, ⟨by omega⟩, H', ⟨by have := HK1.1; omega⟩, J6⟩)
          · as_aux_lemma =>
            rw [if_neg cn] at H
            have H' := Az.mk H
            clear H
            have cn1 : decide (rd s.comp x < 0) = false := decide_eq_false cn
            clear cn
            go_wp2_with fail
            go_roundg k1
            case measure => have := HK1.1; omega
            case rel => exact ⟨i + 1, _, rfl, ⟨by omega⟩, H', ⟨by have := HK1.1; omega⟩, J⟩
      · as_aux_lemma =>
        rw [if_neg ci] at H
        have cb : decide (i < ((row X.es v).length : Int)) = false := decide_eq_false ci
        have c2 := cell_of_one J.1.ki
        have c3 := cell_of_one J.1.kl
        have c4 := arr_cell J.1.ai v hv0 (by rw [J.1.li]; exact hv1)
        have c5 := arr_cell J.1.al v hv0 (by rw [J.1.ll]; exact hv1)
        by_cases ce : rd s.low v = rd s.index v
        case neg =>
          rw [if_neg ce] at H
          have H' := Az.mk H
          clear H
          have ce1 : (rd s.low v != rd s.index v) = true := bne_iff_ne.2 ce
          clear ce
          go_wp2_with fail
          go_region
          go_wp2_with fail
          refine bodyPost_ret (v := .tuple #[]) (by simp [results, Try.results44, go_sem]) rfl ⟨rfl, ?_⟩
          cases H'.1
          exact J.1.drew
        rw [if_pos ce] at H
        have H' := Az.mk H
        clear H
        have ce1 : (rd s.low v != rd s.index v) = false := bne_eq_false_iff_eq.2 ce
        clear ce
        go_wp2_with fail
        go_region
        go_wp2_with fail
        have J7 := Az.mk J.1.drew
        clear J c2 c3 c4 c5
        go_loopg [12] k1 (fun kq v12 w' => ∃ s : TS, Az (pop kq v s = some st') /\ Az (Inv X s w'))
        case atStart => exact ⟨s, H', J7⟩
        case round => as_aux_lemma =>
          clear H' J7
          obtain ⟨s2, HA, J⟩ := hrel
          cases gk with
          | zero => exact absurd HA.1 (by simp [pop])
          | succ k2 =>
            have H := HA.1
            clear HA
            rw [pop] at H
            by_cases cl : 0 < s2.stack.length
            case neg => rw [if_neg cl] at H; cases H
            rw [if_pos cl] at H
            obtain ⟨vs2, g1, g2⟩ := J.1.ks
            obtain ⟨A2, q2c, rfl, hle, hC⟩ := Kd.R_reads g2
            obtain ⟨ad3, e3, hx4⟩ := Kd.at_int hC ((s2.stack.length : Int) - 1) (by omega) (by omega)
            subst e3
            have e6 : ((s2.stack.length : Int) - 1).toNat = s2.stack.length - 1 := by omega
            rw [e6] at hx4
            generalize hgx : rd s2.stack ((s2.stack.length : Int) - 1) = x at H hx4
            clear hgx e6
            by_cases cx : 0 <= x /\ x < s2.comp.length
            case neg => rw [if_neg cx] at H; cases H
            rw [if_pos cx] at H
            obtain ⟨cx0, cx1⟩ := cx
            have H2 := Az.mk H
            clear H
            have c6 := cell_of_one g1
            have f6 := free_of_one g1
            have hm2 : s2.stack.length <= 9223372036854775807 := hC.2.1
            have qa : (0 <= (s2.stack.length : Int) - 1) = True := eq_true (by omega)
            have qb : ((s2.stack.length : Int) - 1 < (s2.stack.length : Int)) = True := eq_true (by omega)
            go_upto_region 14 with fail
            obtain ⟨i0, hi0, _, hsz, _⟩ := info_parts info3
            have hcut := cut_to (P := Try.prog) 32 3 .i64 Try.underlying32 hi0 (some ad3) s2.stack.length q2c ((s2.stack.length : Int) - 1) (by omega) (by omega) hle
            have e6 : ((s2.stack.length : Int) - 1).toNat = s2.stack.length - 1 := by omega
            rw [e6] at hcut
            have G2 := Az.mk (Kd.R_take (m := s2.stack.length - 1) g2 (by omega))
            clear hi0 hsz e6 g2 hx4
            have hl3 : (s2.stack.take (s2.stack.length - 1)).length = s2.stack.length - 1 := by rw [List.length_take]; omega
            go_upto_region 15 with fail
            have J8 := Az.mk (J.1.setStack O.1 (World.grownBy.refl _ none) J.1.hB (fun g hh => by cases hh) G2.1)
            generalize wr.setCell ⟨X.bs, 0, none⟩ (.slice (some ad3) (s2.stack.length - 1) q2c) = w8 at J8 ⊢
            clear c6 f6 hcut G2 g1
            have c7 := cell_of_one J8.1.kp
            have c8 := cell_of_one J8.1.km
            have c9 := arr_cell J8.1.ap x cx0 (by exact cx1)
            have f9 := arr_free J8.1.ap x.toNat
            have e9 : s2.comp.length = X.es.length := J.1.lp
            have qc : (0 <= x) = True := eq_true cx0
            have qd : (x < (X.es.length : Int)) = True := eq_true (by omega)
            clear e9
            go_upto_region 16 with fail
            have J9 := Az.mk (J8.1.setComp O.1 x.toNat s2.comps)
            clear c7 c8 c9 f9 J8
            generalize w8.setCell ⟨X.ap, x.toNat, none⟩ (.int .i64 s2.comps) = w9 at J9 ⊢
            by_cases cv : x = v
            · have cv1 : (x == v) = true := beq_iff_eq.2 cv
              have H3 := H2.1
              rw [if_pos cv] at H3
              have H4 := Az.mk H3
              clear H3 H2 cv
              have c8 := cell_of_one J9.1.km
              have f8 := free_of_one J9.1.km
              go_wp2_with fail
              have J10 := Az.mk (J9.1.setComps O.1 (wrap64 (s2.comps + 1)))
              go_end0
              refine ⟨rfl, ?_⟩
              cases H4.1
              exact J10.1
            · have cv1 : (x == v) = false := beq_eq_false_iff_ne.2 cv
              have H3 := H2.1
              rw [if_neg cv] at H3
              have H4 := Az.mk H3
              clear H3 H2 cv
              go_wp2_with fail
              go_roundg k2
              case measure => omega
              case rel => exact ⟨_, H4, J9⟩
theorem visit_calls (X : Cx) (o : X.Ok) (k : Nat) : ∀ (v : Int) (st st' : TS), visit k X.es v st = some st' -> ∀ w, Inv X st w -> Calls Try.prog 44 #[.int .i64 v, P1 X.bc, P1 X.bi, P1 X.bl, P1 X.bs, P1 X.be, P1 X.bv, P1 X.bp, P1 X.bm] w fun e w' => e = .returned (.tuple #[]) /\ Inv X st' w' := by
  induction k using Nat.strongRecOn with
  | _ k ih =>
    intro v st st' h w I
    cases k with
    | zero => exact absurd h (by simp [visit])
    | succ k => exact visit_step X o k ⟨fun k1 h1 => ih k1 (by omega)⟩ v st st' w I h
end Tj
end Go.Proofs.Ytpmjpngmmphkmaa
namespace Go.Proofs.Ytpmjpngmmphkmaa
namespace Rg
variable {P : Program} {ops : Array Oper} {Q : Exit -> Act -> World -> Prop} {md : Region.Mode}
theorem getD_size {l : Array Bool} {i : Nat} (h : l.getD i true = false) : ∃ hi : i < l.size, l[i] = false := by
 rcases Nat.lt_or_ge i l.size with h1 | h1
 · exact ⟨h1, by simpa [h1] using h⟩
 · simp [Array.getElem?_eq_none h1] at h
theorem count_set {l : Array Bool} {i : Nat} (h : l.getD i true = false) : (l.setIfInBounds i true).toList.count false + 1 = l.toList.count false := by
 obtain ⟨hi, he⟩ := getD_size h
 rw [Array.toList_setIfInBounds, List.count_set (by simpa using hi)]
 have h1 : l.toList[i]'(by simpa using hi) = false := by simpa using he
 have h2 : 0 < l.toList.count false := List.count_pos_iff.2 (by rw [<- h1]; exact List.getElem_mem _)
 rw [h1, if_pos (by decide), if_neg (by decide)]
 omega
theorem any_inv (J : Array Bool -> Act -> World -> Prop)
 (hs : ∀ l a w i, l.size = ops.size -> i ∈ Region.ready md ops l -> J l a w -> wpOp P ops Q i (fun a' w' => J (l.setIfInBounds i true) a' w') a w)
 (he : ∀ l a w, l.size = ops.size -> Region.ready md ops l = [] -> J l a w -> Q .normal a w) :
 ∀ (fuel : Nat) (l : Array Bool) (a : Act) (w : World), l.size = ops.size -> l.toList.count false <= fuel -> J l a w -> wpAny P md ops Q fuel l a w := by
 intro fuel
 induction fuel with
 | zero =>
  intro l a w hsz hc hJ
  have hr : Region.ready md ops l = [] := by
   refine List.eq_nil_iff_forall_not_mem.2 fun j hj => ?_
   obtain ⟨h1, _⟩ := mem_ready.1 hj
   obtain ⟨hi, h2⟩ := getD_size h1
   have h3 : 0 < l.toList.count false := List.count_pos_iff.2 (by rw [<- h2]; exact Array.getElem_mem_toList hi)
   omega
  exact ⟨hr, he l a w hsz hr hJ⟩
 | succ fuel ih =>
  intro l a w hsz hc hJ
  refine ⟨fun hr => he l a w hsz hr hJ, fun i hi => ?_⟩
  refine wpOp_mono (fun a' w' h => ih _ a' w' (by simpa using hsz) ?_ h) (hs l a w i hsz hi hJ)
  have := count_set (mem_ready.1 hi).1
  omega
theorem region_inv {id : Nat} {a : Act} {w : World} (hm : P.follows .mixedOrders = true) (J : Array Bool -> Act -> World -> Prop)
 (h0 : J (Array.replicate ops.size false) a w.drew)
 (hs : ∀ l a w i, l.size = ops.size -> i ∈ Region.ready .any ops l -> J l a w -> wpOp P ops Q i (fun a' w' => J (l.setIfInBounds i true) a' w') a w)
 (he : ∀ l a w, l.size = ops.size -> Region.ready .any ops l = [] -> J l a w -> Q .normal a w) : (Code.region id ops true).wp P Q a w :=
 wp_region_any hm (any_inv J hs he ops.size _ a _ (by simp) (Nat.le_trans List.count_le_length (by simp)) h0)
def backB (ops : Array Oper) : Bool := (List.range ops.size).all fun j => match ops[j]? with
 | some o => o.after.all fun e => decide (e.on < j)
 | none => true
theorem all_listed (hb : backB ops = true) {l : Array Bool} (hsz : l.size = ops.size) (hr : Region.ready md ops l = []) : ∀ i, i < ops.size -> l.getD i true = true := by
 intro i
 induction i using Nat.strongRecOn with
 | _ i ih =>
  intro hi
  cases hl : l.getD i true with
  | true => rfl
  | false =>
   have h1 := List.all_eq_true.1 hb i (List.mem_range.2 hi)
   rw [Array.getElem?_eq_getElem hi] at h1
   have h2 : i ∈ Region.ready md ops l := by
    refine mem_ready.2 ⟨hl, _, Array.getElem?_eq_getElem hi, fun e he _ => ?_⟩
    have h3 := of_decide_eq_true (Array.all_eq_true_iff_forall_mem.1 h1 e he)
    have h4 := ih e.on h3 (by omega)
    have h5 : e.on < l.size := by omega
    simpa [h5] using h4
   rw [hr] at h2
   cases h2
theorem up_of {l : Array Bool} {i : Nat} (h : l.getD i true = false) : l.getD i false = false := by
 obtain ⟨hi, he⟩ := getD_size h
 simpa [hi] using he
theorem up_ne {l : Array Bool} {i j : Nat} (h : i ≠ j) : (l.setIfInBounds i true).getD j false = l.getD j false := getD_set_ne false h
theorem up_eq {l : Array Bool} {i : Nat} (h : i < l.size) : (l.setIfInBounds i true).getD i false = true := by simp [h]
theorem none_up {m i : Nat} (h : (Array.replicate m false).getD i false = true) : False := by
 rw [Array.getD_eq_getD_getElem?, Array.getElem?_replicate] at h
 split at h <;> cases h
theorem op_of {i : Nat} {o : Oper} {K : Act -> World -> Prop} {a : Act} {w : World} (ho : ops[i]? = some o) (h : if Region.wanted o (yielded ops a.tmps) = true then Oper.wp P o a w K Q else K (a.put o.dst undef) w) : wpOp P ops Q i K a w := by
 unfold wpOp
 rw [ho]
 split at h
 · rename_i hw
   simp only [hw, if_true]
   exact .inl h
 · rename_i hw
   simp only [hw]
   exact h
theorem op_val {i : Nat} {o : Oper} {K : Act -> World -> Prop} {a : Act} {w w1 : World} {v : Value} (ho : ops[i]? = some o) (hg : o.guard = none) (hrun : (execOp a.eval o).run P w = .ok (.value v) w1) (h : K (a.put o.dst v) w1) : wpOp P ops Q i K a w := by
 refine op_of ho ?_
 have hw : Region.wanted o (yielded ops a.tmps) = true := by simp [Region.wanted, hg]
 rw [if_pos hw]
 unfold Oper.wp
 rw [hrun]
 exact h
theorem op_skip {i : Nat} {o : Oper} {K : Act -> World -> Prop} {a : Act} {w w1 : World} (ho : ops[i]? = some o) (hg : o.guard = none) (hd : o.dst = none) (hrun : (execOp a.eval o).run P w = .ok .skip w1) (h : K a w1) : wpOp P ops Q i K a w := by
 refine op_of ho ?_
 have hw : Region.wanted o (yielded ops a.tmps) = true := by simp [Region.wanted, hg]
 rw [if_pos hw]
 unfold Oper.wp
 rw [hrun]
 show K (a.put o.dst undef) w1
 rw [hd]
 exact h
end Rg
end Go.Proofs.Ytpmjpngmmphkmaa
namespace Go.Proofs.Ytpmjpngmmphkmaa
open Go.RowKit Go.Proofs.Yw.A Go.Proofs.Yw.B Go.Proofs.Yw.C Go.Proofs.Ytpmjpngmmphkmaa.P
namespace Tj
abbrev sl (n g : Nat) : Value := .slice (some ⟨g, 0, none⟩) n n
def up (l : Array Bool) (i : Nat) (v : Value) : Value := if l.getD i false = true then v else undef
def Fr (A : Option Addr) (c n be : Nat) (M : Nat -> Nat) (l : Array Bool) : Act :=
  { tmps := #[.slice A n c, P1 be, .slice none 0 0, .int .i64 0, .int .i64 n, up l 6 (P1 (M 6)), up l 7 (P1 (M 7)), up l 8 (P1 (M 8)), undef, undef, undef, undef, undef, undef, .slice A n c, .int .i64 n,
      up l 0 (.int .i64 n), up l 1 (sl n (M 1)), up l 2 (.int .i64 n), up l 3 (sl n (M 3)), up l 4 (.int .i64 n), up l 5 (sl n (M 5)),
      undef, undef, undef, undef, undef, undef, undef, undef, undef, undef, undef, undef, undef, undef, undef, undef, undef, undef, undef, undef, undef, undef, undef, undef, undef], defers := [] }
def held (l : Array Bool) (n i : Nat) (g : Nat) : Value := if l.getD i false = true then sl n g else .slice none 0 0
def cont (n : Nat) (M : Nat -> Nat) (l : Array Bool) : Nat -> Obj
  | 6 => .cells #[held l n 9 (M 1)] 32 (0, 0)
  | 7 => .cells #[held l n 10 (M 3)] 32 (0, 0)
  | 8 => .cells #[held l n 11 (M 5)] 32 (0, 0)
  | _ => arr (List.replicate n 0)
def mk6 : List Nat := [1, 3, 5, 6, 7, 8]
def J2 (A : Option Addr) (c n be : Nat) (wb : World) (l : Array Bool) (a : Act) (w : World) : Prop :=
  ∃ M : Nat -> Nat, a = Fr A c n be M l /\ Below wb.heap.size wb w /\
    (∀ i, i ∈ mk6 -> l.getD i false = true -> wb.heap.size <= M i /\ w.heap[M i]? = some (cont n M l i)) /\
    (∀ i j, i ∈ mk6 -> j ∈ mk6 -> i ≠ j -> l.getD i false = true -> l.getD j false = true -> M i ≠ M j) /\
    (l.getD 9 false = true -> l.getD 6 false = true /\ l.getD 1 false = true) /\ (l.getD 10 false = true -> l.getD 7 false = true /\ l.getD 3 false = true) /\ (l.getD 11 false = true -> l.getD 8 false = true /\ l.getD 5 false = true)
theorem J2.move {A : Option Addr} {c n be : Nat} {wb w : World} {l : Array Bool} {a : Act} (h : J2 A c n be wb l a w) (hsz : l.size = 12) (i d : Nat) (hi : i = 0 /\ d = 16 \/ i = 2 /\ d = 18 \/ i = 4 /\ d = 20) :
    J2 A c n be wb (l.setIfInBounds i true) (a.put (some d) (.int .i64 n)) w := by
  obtain ⟨M, rfl, hb, hm, hd, h9, h10, h11⟩ := h
  have hne : ∀ j, j ≠ 0 -> j ≠ 2 -> j ≠ 4 -> (l.setIfInBounds i true).getD j false = l.getD j false := fun j a0 a2 a4 => Rg.up_ne (by omega)
  have hc : ∀ j, j ∈ mk6 -> cont n M (l.setIfInBounds i true) j = cont n M l j := by
    intro j hj
    simp only [mk6, List.mem_cons, List.not_mem_nil, or_false] at hj
    rcases hj with rfl | rfl | rfl | rfl | rfl | rfl <;> simp only [cont, held] <;> rw [hne _ (by decide) (by decide) (by decide)]
  have hk : ∀ j, j ∈ mk6 -> (l.setIfInBounds i true).getD j false = l.getD j false := by
    intro j hj
    simp only [mk6, List.mem_cons, List.not_mem_nil, or_false] at hj
    exact hne j (by omega) (by omega) (by omega)
  refine ⟨M, ?_, hb, fun j hj hl => ?_, fun j j' hj hj' hne' hl hl' => hd j j' hj hj' hne' (by rw [<- hk j hj]; exact hl) (by rw [<- hk j' hj']; exact hl'), ?_, ?_, ?_⟩
  · have h1 := hne 1 (by decide) (by decide) (by decide)
    have h3 := hne 3 (by decide) (by decide) (by decide)
    have h5 := hne 5 (by decide) (by decide) (by decide)
    have h6 := hne 6 (by decide) (by decide) (by decide)
    have h7 := hne 7 (by decide) (by decide) (by decide)
    have h8 := hne 8 (by decide) (by decide) (by decide)
    rcases hi with ⟨rfl, rfl⟩ | ⟨rfl, rfl⟩ | ⟨rfl, rfl⟩
    · have e0 := Rg.up_eq (l := l) (i := 0) (by omega)
      have e2 : (l.setIfInBounds 0 true).getD 2 false = _ := Rg.up_ne (by decide)
      have e4 : (l.setIfInBounds 0 true).getD 4 false = _ := Rg.up_ne (by decide)
      simp only [Fr, up, Act.put, h1, h3, h5, h6, h7, h8, e0, e2, e4, if_true]
      rfl
    · have e0 := Rg.up_eq (l := l) (i := 2) (by omega)
      have e2 : (l.setIfInBounds 2 true).getD 0 false = _ := Rg.up_ne (by decide)
      have e4 : (l.setIfInBounds 2 true).getD 4 false = _ := Rg.up_ne (by decide)
      simp only [Fr, up, Act.put, h1, h3, h5, h6, h7, h8, e0, e2, e4, if_true]
      rfl
    · have e0 := Rg.up_eq (l := l) (i := 4) (by omega)
      have e2 : (l.setIfInBounds 4 true).getD 0 false = _ := Rg.up_ne (by decide)
      have e4 : (l.setIfInBounds 4 true).getD 2 false = _ := Rg.up_ne (by decide)
      simp only [Fr, up, Act.put, h1, h3, h5, h6, h7, h8, e0, e2, e4, if_true]
      rfl
  · rw [hc j hj]
    exact hm j hj (by rw [<- hk j hj]; exact hl)
  · rw [hne 9 (by decide) (by decide) (by decide), hne 6 (by decide) (by decide) (by decide), hne 1 (by decide) (by decide) (by decide)]; exact h9
  · rw [hne 10 (by decide) (by decide) (by decide), hne 7 (by decide) (by decide) (by decide), hne 3 (by decide) (by decide) (by decide)]; exact h10
  · rw [hne 11 (by decide) (by decide) (by decide), hne 8 (by decide) (by decide) (by decide), hne 5 (by decide) (by decide) (by decide)]; exact h11
theorem J2.make {A : Option Addr} {c n be : Nat} {wb w : World} {l : Array Bool} {a : Act} (h : J2 A c n be wb l a w) (hsz : l.size = 12) (i d : Nat) (v : Value) (hl0 : l.getD i false = false)
    (hi : (i = 1 /\ d = 17 /\ v = sl n w.heap.size) \/ (i = 3 /\ d = 19 /\ v = sl n w.heap.size) \/ (i = 5 /\ d = 21 /\ v = sl n w.heap.size) \/ (i = 6 /\ d = 5 /\ v = P1 w.heap.size) \/ (i = 7 /\ d = 6 /\ v = P1 w.heap.size) \/ (i = 8 /\ d = 7 /\ v = P1 w.heap.size))
    {o : Obj} (ho : o = if i < 6 then arr (List.replicate n 0) else .cells #[.slice none 0 0] 32 (0, 0)) :
    J2 A c n be wb (l.setIfInBounds i true) (a.put (some d) v) (w.alloc o) := by
  obtain ⟨M, rfl, hb, hm, hd, h9, h10, h11⟩ := h
  have hne : ∀ j, j ≠ i -> (l.setIfInBounds i true).getD j false = l.getD j false := fun j a0 => Rg.up_ne (by omega)
  have he : (l.setIfInBounds i true).getD i false = true := Rg.up_eq (by omega)
  have hmi : i ∈ mk6 := by simp only [mk6, List.mem_cons, List.not_mem_nil, or_false]; omega
  have n9 : l.getD i false = true -> False := by rw [hl0]; exact fun h => by cases h
  refine ⟨fun j => if j = i then w.heap.size else M j, ?_, hb.alloc hb.size _, fun j hj hl => ?_, fun j j' hj hj' hn hl hl' => ?_, ?_, ?_, ?_⟩
  · have z : ∀ j, j ≠ i -> (if j = i then w.heap.size else M j) = M j := fun j hj => if_neg hj
    have hw : ∀ (j : Nat) (x : Nat -> Value), j ≠ i -> up (l.setIfInBounds i true) j (x (if j = i then w.heap.size else M j)) = up l j (x (M j)) := fun j x hj => by rw [z j hj]; unfold up; rw [hne j hj]
    rcases hi with ⟨rfl, rfl, rfl⟩ | ⟨rfl, rfl, rfl⟩ | ⟨rfl, rfl, rfl⟩ | ⟨rfl, rfl, rfl⟩ | ⟨rfl, rfl, rfl⟩ | ⟨rfl, rfl, rfl⟩ <;>
      simp (config := { decide := true }) only [Fr, up, Act.put, he, hne, ne_eq, if_true, if_false] <;> rfl
  · have hcont : ∀ j, j ∈ mk6 -> j ≠ i -> l.getD j false = true -> cont n (fun j => if j = i then w.heap.size else M j) (l.setIfInBounds i true) j = cont n M l j := by
      intro j hj hji hlj
      simp only [mk6, List.mem_cons, List.not_mem_nil, or_false] at hj
      have key : ∀ (s m : Nat), s ≠ i -> (l.getD s false = true -> l.getD m false = true) -> held (l.setIfInBounds i true) n s (if m = i then w.heap.size else M m) = held l n s (M m) := by
        intro s m hs hsm
        unfold held
        rw [hne s hs]
        cases hq : l.getD s false with
        | false => rfl
        | true =>
          have : m ≠ i := by rintro rfl; exact n9 (hsm hq)
          rw [if_neg this]
      have b9 : 9 ≠ i := by omega
      have b10 : 10 ≠ i := by omega
      have b11 : 11 ≠ i := by omega
      rcases hj with rfl | rfl | rfl | rfl | rfl | rfl
      · rfl
      · rfl
      · rfl
      · simp only [cont]; rw [key 9 1 b9 (fun h => (h9 h).2)]
      · simp only [cont]; rw [key 10 3 b10 (fun h => (h10 h).2)]
      · simp only [cont]; rw [key 11 5 b11 (fun h => (h11 h).2)]
    dsimp only
    by_cases hji : j = i
    · subst hji
      rw [if_pos rfl]
      refine ⟨hb.size, ?_⟩
      rw [blk_new, ho]
      congr 1
      have e9 : ∀ s, s ≠ j -> (l.getD s false = true -> l.getD j false = true) -> (l.setIfInBounds j true).getD s false = false := fun s hs hsj => by
        rw [hne s hs]
        cases hq : l.getD s false with
        | false => rfl
        | true => exact (n9 (hsj hq)).elim
      rcases hi with ⟨rfl, rfl, rfl⟩ | ⟨rfl, rfl, rfl⟩ | ⟨rfl, rfl, rfl⟩ | ⟨rfl, rfl, rfl⟩ | ⟨rfl, rfl, rfl⟩ | ⟨rfl, rfl, rfl⟩
      · rfl
      · rfl
      · rfl
      · rw [if_neg (by decide)]; simp only [cont, held]; rw [e9 9 (by decide) (fun h => (h9 h).1)]; rfl
      · rw [if_neg (by decide)]; simp only [cont, held]; rw [e9 10 (by decide) (fun h => (h10 h).1)]; rfl
      · rw [if_neg (by decide)]; simp only [cont, held]; rw [e9 11 (by decide) (fun h => (h11 h).1)]; rfl
    · rw [hne j hji] at hl
      obtain ⟨h1, h2⟩ := hm j hj hl
      rw [if_neg hji, hcont j hj hji hl]
      exact ⟨h1, blk_alloc h2 _⟩
  · have lt : ∀ j, j ∈ mk6 -> l.getD j false = true -> M j < w.heap.size := fun j hj hl => blk_lt (hm j hj hl).2
    dsimp only
    by_cases h1 : j = i
    · have h2 : j' ≠ i := by omega
      rw [hne j' h2] at hl'
      rw [if_pos h1, if_neg h2]
      have := lt j' hj' hl'
      omega
    · rw [hne j h1] at hl
      by_cases h2 : j' = i
      · rw [if_neg h1, if_pos h2]
        have := lt j hj hl
        omega
      · rw [hne j' h2] at hl'
        rw [if_neg h1, if_neg h2]
        exact hd j j' hj hj' hn hl hl'
  · intro h
    rw [hne 9 (by omega)] at h
    obtain ⟨a1, a2⟩ := h9 h
    exact ⟨by rw [hne 6 (by rintro rfl; exact n9 a1)]; exact a1, by rw [hne 1 (by rintro rfl; exact n9 a2)]; exact a2⟩
  · intro h
    rw [hne 10 (by omega)] at h
    obtain ⟨a1, a2⟩ := h10 h
    exact ⟨by rw [hne 7 (by rintro rfl; exact n9 a1)]; exact a1, by rw [hne 3 (by rintro rfl; exact n9 a2)]; exact a2⟩
  · intro h
    rw [hne 11 (by omega)] at h
    obtain ⟨a1, a2⟩ := h11 h
    exact ⟨by rw [hne 8 (by rintro rfl; exact n9 a1)]; exact a1, by rw [hne 5 (by rintro rfl; exact n9 a2)]; exact a2⟩
theorem J2.store {A : Option Addr} {c n be : Nat} {wb w : World} {l : Array Bool} {a : Act} (h : J2 A c n be wb l a w) (hsz : l.size = 12) (i p m : Nat)
    (hi : i = 9 /\ p = 6 /\ m = 1 \/ i = 10 /\ p = 7 /\ m = 3 \/ i = 11 /\ p = 8 /\ m = 5) (hp : l.getD p false = true) (hm1 : l.getD m false = true) :
    ∃ M : Nat -> Nat, a = Fr A c n be M l /\ w.heap[M p]? = some (cont n M l p) /\ J2 A c n be wb (l.setIfInBounds i true) a (w.setCell ⟨M p, 0, none⟩ (sl n (M m))) := by
  obtain ⟨M, rfl, hb, hm, hd, h9, h10, h11⟩ := h
  have hne : ∀ j, j ≠ i -> (l.setIfInBounds i true).getD j false = l.getD j false := fun j a0 => Rg.up_ne (by omega)
  have he : (l.setIfInBounds i true).getD i false = true := Rg.up_eq (by omega)
  have hpm : p ∈ mk6 := by simp only [mk6, List.mem_cons, List.not_mem_nil, or_false]; omega
  obtain ⟨b1, b2⟩ := hm p hpm hp
  refine ⟨M, rfl, b2, M, ?_, hb.setCell b1 _, fun j hj hl => ?_, fun j j' hj hj' hn hl hl' => ?_, ?_, ?_, ?_⟩
  · have q0 := hne 0 (by omega)
    have q1 := hne 1 (by omega)
    have q2 := hne 2 (by omega)
    have q3 := hne 3 (by omega)
    have q4 := hne 4 (by omega)
    have q5 := hne 5 (by omega)
    have q6 := hne 6 (by omega)
    have q7 := hne 7 (by omega)
    have q8 := hne 8 (by omega)
    simp only [Fr, up, q0, q1, q2, q3, q4, q5, q6, q7, q8]
  · have hji : j ≠ i := by simp only [mk6, List.mem_cons, List.not_mem_nil, or_false] at hj; omega
    rw [hne j hji] at hl
    obtain ⟨a1, a2⟩ := hm j hj hl
    refine ⟨a1, ?_⟩
    by_cases hjp : j = p
    · subst hjp
      rcases hi with ⟨rfl, rfl, rfl⟩ | ⟨rfl, rfl, rfl⟩ | ⟨rfl, rfl, rfl⟩ <;>
        (simp only [cont] at a2 ⊢; rw [one_setCell a2]; unfold held; rw [he]; rfl)
    · have hh : (w.setCell ⟨M p, 0, none⟩ (sl n (M m))).heap[M j]? = w.heap[M j]? := Below.heap_setCell _ _ _ _ (hd j p hj hpm hjp hl hp)
      rw [hh, a2]
      have hq : ∀ s x, s ≠ i -> held (l.setIfInBounds i true) n s x = held l n s x := fun s x hs => by unfold held; rw [hne s hs]
      simp only [mk6, List.mem_cons, List.not_mem_nil, or_false] at hj
      rcases hj with rfl | rfl | rfl | rfl | rfl | rfl
      · rfl
      · rfl
      · rfl
      · simp only [cont]; rw [hq 9 _ (by omega)]
      · simp only [cont]; rw [hq 10 _ (by omega)]
      · simp only [cont]; rw [hq 11 _ (by omega)]
  · have z : ∀ j, j ∈ mk6 -> j ≠ i := fun j hj => by simp only [mk6, List.mem_cons, List.not_mem_nil, or_false] at hj; omega
    rw [hne j (z j hj)] at hl
    rw [hne j' (z j' hj')] at hl'
    exact hd j j' hj hj' hn hl hl'
  all_goals
    intro h
    rw [hne _ (by omega), hne _ (by omega)]
    first
    | (by_cases hq : i = 9
       · obtain ⟨rfl, rfl⟩ : p = 6 /\ m = 1 := by omega
         first | exact ⟨hp, hm1⟩ | (rw [hne _ (by omega)] at h; first | exact h10 h | exact h11 h)
       · by_cases hq2 : i = 10
         · obtain ⟨rfl, rfl⟩ : p = 7 /\ m = 3 := by omega
           first | exact ⟨hp, hm1⟩ | (rw [hne _ (by omega)] at h; first | exact h9 h | exact h11 h)
         · obtain ⟨rfl, rfl⟩ : p = 8 /\ m = 5 := by omega
           first | exact ⟨hp, hm1⟩ | (rw [hne _ (by omega)] at h; first | exact h9 h | exact h10 h))
structure Pre (w0 : World) (A : Option Addr) (c n be bi bl bp ai al ap : Nat) (comp : List Int) (w : World) : Prop where
 hB : Below w0.heap.size w0 w
 ke : w.heap[be]? = some (.cells #[.slice A n c] 22 (0, 0))
 ki : w.heap[bi]? = some (.cells #[sl n ai] 32 (0, 0))
 kl : w.heap[bl]? = some (.cells #[sl n al] 32 (0, 0))
 kp : w.heap[bp]? = some (.cells #[sl n ap] 32 (0, 0))
 fi : w.heap[ai]? = some (arr (List.replicate n 0))
 fl : w.heap[al]? = some (arr (List.replicate n 0))
 fp : w.heap[ap]? = some (arr comp)
 lp : comp.length = n
 d : ai ≠ al /\ ai ≠ ap /\ al ≠ ap /\ bi ≠ bl /\ bi ≠ bp /\ bl ≠ bp
 b : w0.heap.size <= ai /\ w0.heap.size <= al /\ w0.heap.size <= ap
theorem Pre.setComp {w0 : World} {A : Option Addr} {c n be bi bl bp ai al ap : Nat} {comp : List Int} {w : World} (h : Pre w0 A c n be bi bl bp ai al ap comp w) (j : Nat) (x : Int) :
 Pre w0 A c n be bi bl bp ai al ap (comp.set j x) (w.setCell ⟨ap, j, none⟩ (.int .i64 x)) where
 hB := h.hB.setCell h.b.2.2 _
 ke := blk_far h.ke (blk_ne h.ke h.fp (by decide)) _
 ki := blk_far h.ki (blk_ne h.ki h.fp (by decide)) _
 kl := blk_far h.kl (blk_ne h.kl h.fp (by decide)) _
 kp := blk_far h.kp (blk_ne h.kp h.fp (by decide)) _
 fi := blk_far h.fi h.d.2.1 _
 fl := blk_far h.fl h.d.2.2.1 _
 fp := by unfold arr; rw [<- nums_set]; exact blk_set h.fp j _
 lp := by simpa using h.lp
 d := h.d
 b := h.b
theorem made_zeros (n : Nat) : Obj.cells (madeCells (Value.int IntKind.i64 0).cells ((n : Int).toNat * 1)) 3 (0, 0) = arr (List.replicate n 0) := by
 unfold arr madeCells nums
 congr 1
 rw [Int.toNat_natCast, Nat.mul_one]
 apply Array.ext
 · simp
 · intro i h1 h2
   simp [Value.cells, Nat.mod_one]
theorem arr_R {w : World} {base g : Nat} {xs : List Int} (h : w.heap[g]? = some (arr xs)) (hb : base <= g) (hm : xs.length <= maxLen) : Kd.R (Kd.int .i64) 3 w base (fun _ => True) (sl xs.length g) xs :=
 Kd.R_of_own ⟨by simp [encs], .inr ⟨g, xs.length, _, rfl, hb, h, Nat.le_refl _, hm, by simp [nums], by simp only [nums, encs, Nat.mul_one]; exact List.take_of_length_le (by simp)⟩⟩ (fun _ _ => trivial)
theorem strong_calls (k : Nat) (A : Option Addr) (c : Nat) (es : List (List Int)) (r1 : List Int) (r2 : Int) (w : World) (hr : Kd.C (Kd.slice 3 (Kd.int .i64)) w A es.length es) (hc : es.length <= c) (h : strongF k es = some (r1, r2)) :
 Calls Try.prog 36 #[.slice A es.length c] w fun e w' => ∃ v, e = .returned (.tuple #[v, .int .i64 r2]) /\ Kd.R (Kd.int .i64) 3 w' w.heap.size (fun _ => True) v r1 /\ Below w.heap.size w w' := by
 unfold strongF at h
 by_cases hn : es.length < 17592186044416
 case neg => rw [if_neg hn] at h; cases h
 rw [if_pos hn] at h
 obtain ⟨stf, hst, hrr⟩ := Option.map_eq_some_iff.1 h
 have HST := Az.mk hst
 have HRR := Az.mk hrr
 have HR := Az.mk hr
 clear h hst hrr hr
 generalize hN : es.length = n at *
 have HN := Az.mk hN
 clear hN
 go_enter Try.func36, Try.ntmps36
 go_wp2_with fail
 refine Rg.region_inv (by kernel_rfl) (J2 A c n w.heap.size (w.alloc (.cells #[.slice A n c] 22))) ?h0 ?hs ?he
 case h0 =>
  refine ⟨fun _ => 0, rfl, below_drew (Below.refl _ _), ?_, ?_, ?_, ?_, ?_⟩
  · intro i hi hl; exact (Rg.none_up hl).elim
  · intro i j hi hj hn hl; exact (Rg.none_up hl).elim
  all_goals (intro hl; exact (Rg.none_up hl).elim)
 case hs => as_aux_lemma =>
  generalize hw0 : w = w0
  clear hw0
  intro l a w i hsz hi hJ
  obtain ⟨hl, o, ho, hall⟩ := mem_ready.1 hi
  have hl0 := Rg.up_of hl
  match i, ho with
  | 0, ho =>
   simp at ho
   subst ho
   refine Rg.op_val (v := .int .i64 n) (w1 := w) rfl rfl ?_ (hJ.move hsz 0 16 (by omega))
   obtain ⟨M, rfl, -⟩ := hJ
   go_simp
   first | done | rfl
  | 1, ho =>
   simp at ho
   subst ho
   have hm := hall ⟨0, .data⟩ (by simp) (by rfl)
   refine Rg.op_val (v := sl n w.heap.size) (w1 := w.alloc (arr (List.replicate n 0))) rfl rfl ?_ (hJ.make hsz 1 17 _ hl0 (by simp) (by simp))
   obtain ⟨M, rfl, -⟩ := hJ
   have hm2 : (Fr A c n w0.heap.size M l).tmps[16]?.getD undef = .int .i64 n := by
    show up l 0 (.int .i64 n) = _
    unfold up
    rw [hm]
    rfl
   obtain ⟨i0, e0, e1, e2, e3⟩ := info_parts info3
   have hrun := run_make w 32 3 i0 _ Try.underlying32 e0 e1 .i64 .i64 n n (by omega) (by omega) (by rw [e3]; omega) (by omega)
   have hz : Obj.cells (madeCells (Value.int IntKind.i64 0).cells ((n : Int).toNat * i0.size)) 3 (0, 0) = arr (List.replicate n 0) := by rw [e2]; exact made_zeros n
   rw [hz] at hrun
   rw [Int.toNat_natCast] at hrun
   clear e0 e1 e2 e3 HST HRR HR hall hl hl0 hi
   go_simp
   first | done | rfl
  | 2, ho =>
   simp at ho
   subst ho
   refine Rg.op_val (v := .int .i64 n) (w1 := w) rfl rfl ?_ (hJ.move hsz 2 18 (by omega))
   obtain ⟨M, rfl, -⟩ := hJ
   go_simp
   first | done | rfl
  | 3, ho =>
   simp at ho
   subst ho
   have hm := hall ⟨2, .data⟩ (by simp) (by rfl)
   refine Rg.op_val (v := sl n w.heap.size) (w1 := w.alloc (arr (List.replicate n 0))) rfl rfl ?_ (hJ.make hsz 3 19 _ hl0 (by simp) (by simp))
   obtain ⟨M, rfl, -⟩ := hJ
   have hm2 : (Fr A c n w0.heap.size M l).tmps[18]?.getD undef = .int .i64 n := by
    show up l 2 (.int .i64 n) = _
    unfold up
    rw [hm]
    rfl
   obtain ⟨i0, e0, e1, e2, e3⟩ := info_parts info3
   have hrun := run_make w 32 3 i0 _ Try.underlying32 e0 e1 .i64 .i64 n n (by omega) (by omega) (by rw [e3]; omega) (by omega)
   have hz : Obj.cells (madeCells (Value.int IntKind.i64 0).cells ((n : Int).toNat * i0.size)) 3 (0, 0) = arr (List.replicate n 0) := by rw [e2]; exact made_zeros n
   rw [hz] at hrun
   rw [Int.toNat_natCast] at hrun
   clear e0 e1 e2 e3 HST HRR HR hall hl hl0 hi
   go_simp
   first | done | rfl
  | 4, ho =>
   simp at ho
   subst ho
   refine Rg.op_val (v := .int .i64 n) (w1 := w) rfl rfl ?_ (hJ.move hsz 4 20 (by omega))
   obtain ⟨M, rfl, -⟩ := hJ
   go_simp
   first | done | rfl
  | 5, ho =>
   simp at ho
   subst ho
   have hm := hall ⟨4, .data⟩ (by simp) (by rfl)
   refine Rg.op_val (v := sl n w.heap.size) (w1 := w.alloc (arr (List.replicate n 0))) rfl rfl ?_ (hJ.make hsz 5 21 _ hl0 (by simp) (by simp))
   obtain ⟨M, rfl, -⟩ := hJ
   have hm2 : (Fr A c n w0.heap.size M l).tmps[20]?.getD undef = .int .i64 n := by
    show up l 4 (.int .i64 n) = _
    unfold up
    rw [hm]
    rfl
   obtain ⟨i0, e0, e1, e2, e3⟩ := info_parts info3
   have hrun := run_make w 32 3 i0 _ Try.underlying32 e0 e1 .i64 .i64 n n (by omega) (by omega) (by rw [e3]; omega) (by omega)
   have hz : Obj.cells (madeCells (Value.int IntKind.i64 0).cells ((n : Int).toNat * i0.size)) 3 (0, 0) = arr (List.replicate n 0) := by rw [e2]; exact made_zeros n
   rw [hz] at hrun
   rw [Int.toNat_natCast] at hrun
   clear e0 e1 e2 e3 HST HRR HR hall hl hl0 hi
   go_simp
   first | done | rfl
  | 6, ho =>
   simp at ho
   subst ho
   refine Rg.op_val (v := P1 w.heap.size) (w1 := w.alloc (.cells #[.slice none 0 0] 32)) rfl rfl ?_ (hJ.make hsz 6 5 _ hl0 (by simp) (by simp))
   go_simp
   first | done | rfl
  | 7, ho =>
   simp at ho
   subst ho
   refine Rg.op_val (v := P1 w.heap.size) (w1 := w.alloc (.cells #[.slice none 0 0] 32)) rfl rfl ?_ (hJ.make hsz 7 6 _ hl0 (by simp) (by simp))
   go_simp
   first | done | rfl
  | 8, ho =>
   simp at ho
   subst ho
   refine Rg.op_val (v := P1 w.heap.size) (w1 := w.alloc (.cells #[.slice none 0 0] 32)) rfl rfl ?_ (hJ.make hsz 8 7 _ hl0 (by simp) (by simp))
   go_simp
   first | done | rfl
  | 9, ho =>
   simp at ho
   subst ho
   have hp := hall ⟨6, .data⟩ (by simp) (by rfl)
   have hm := hall ⟨1, .data⟩ (by simp) (by rfl)
   obtain ⟨M, rfl, hb, hK⟩ := hJ.store hsz 9 6 1 (by omega) hp hm
   refine Rg.op_skip (w1 := w.setCell ⟨M 6, 0, none⟩ (sl n (M 1))) rfl rfl rfl ?_ hK
   have e1 : (Fr A c n w0.heap.size M l).tmps[5]?.getD undef = P1 (M 6) := by
    show up l 6 (P1 (M 6)) = _
    unfold up
    rw [hp]
    rfl
   have e2 : (Fr A c n w0.heap.size M l).tmps[17]?.getD undef = sl n (M 1) := by
    show up l 1 (sl n (M 1)) = _
    unfold up
    rw [hm]
    rfl
   have c1 := cell_of_one hb
   have f1 := free_of_one hb
   clear hK hJ hb HST HRR HR hall hl hl0 hi
   go_simp
   first | done | rfl
  | 10, ho =>
   simp at ho
   subst ho
   have hp := hall ⟨7, .data⟩ (by simp) (by rfl)
   have hm := hall ⟨3, .data⟩ (by simp) (by rfl)
   obtain ⟨M, rfl, hb, hK⟩ := hJ.store hsz 10 7 3 (by omega) hp hm
   refine Rg.op_skip (w1 := w.setCell ⟨M 7, 0, none⟩ (sl n (M 3))) rfl rfl rfl ?_ hK
   have e1 : (Fr A c n w0.heap.size M l).tmps[6]?.getD undef = P1 (M 7) := by
    show up l 7 (P1 (M 7)) = _
    unfold up
    rw [hp]
    rfl
   have e2 : (Fr A c n w0.heap.size M l).tmps[19]?.getD undef = sl n (M 3) := by
    show up l 3 (sl n (M 3)) = _
    unfold up
    rw [hm]
    rfl
   have c1 := cell_of_one hb
   have f1 := free_of_one hb
   clear hK hJ hb HST HRR HR hall hl hl0 hi
   go_simp
   first | done | rfl
  | 11, ho =>
   simp at ho
   subst ho
   have hp := hall ⟨8, .data⟩ (by simp) (by rfl)
   have hm := hall ⟨5, .data⟩ (by simp) (by rfl)
   obtain ⟨M, rfl, hb, hK⟩ := hJ.store hsz 11 8 5 (by omega) hp hm
   refine Rg.op_skip (w1 := w.setCell ⟨M 8, 0, none⟩ (sl n (M 5))) rfl rfl rfl ?_ hK
   have e1 : (Fr A c n w0.heap.size M l).tmps[7]?.getD undef = P1 (M 8) := by
    show up l 8 (P1 (M 8)) = _
    unfold up
    rw [hp]
    rfl
   have e2 : (Fr A c n w0.heap.size M l).tmps[21]?.getD undef = sl n (M 5) := by
    show up l 5 (sl n (M 5)) = _
    unfold up
    rw [hm]
    rfl
   have c1 := cell_of_one hb
   have f1 := free_of_one hb
   clear hK hJ hb HST HRR HR hall hl hl0 hi
   go_simp
   first | done | rfl
  | i + 12, ho => simp at ho
 case he => as_aux_lemma =>
  intro l a w2 hsz hrd hJ
  have hall := Rg.all_listed (by kernel_rfl) hsz hrd
  have hal : ∀ i, i < 12 -> l.getD i false = true := by
   intro i hi
   have h1 := hall i hi
   have h2 : i < l.size := by rw [hsz]; exact hi
   simpa [h2] using h1
  obtain ⟨M, rfl, hb, hm, hd, -, -, -⟩ := hJ
  have P0 : Pre w A c n w.heap.size (M 6) (M 7) (M 8) (M 1) (M 3) (M 5) (List.replicate n 0) w2 := by
   have k1 := hm 1 (by decide) (hal 1 (by decide))
   have k3 := hm 3 (by decide) (hal 3 (by decide))
   have k5 := hm 5 (by decide) (hal 5 (by decide))
   have k6 := hm 6 (by decide) (hal 6 (by decide))
   have k7 := hm 7 (by decide) (hal 7 (by decide))
   have k8 := hm 8 (by decide) (hal 8 (by decide))
   have hsz2 : (w.alloc (.cells #[.slice A n c] 22)).heap.size = w.heap.size + 1 := by simp
   rw [hsz2] at k1 k3 k5
   simp only [cont, held, hal 9 (by decide), hal 10 (by decide), hal 11 (by decide), if_true] at k1 k3 k5 k6 k7 k8
   have dd : ∀ i j, i ∈ mk6 -> j ∈ mk6 -> i < 12 -> j < 12 -> i ≠ j -> M i ≠ M j := fun i j hi hj h1 h2 hne => hd i j hi hj hne (hal i h1) (hal j h2)
   exact {
    hB := (below_alloc (Below.refl _ _) _).trans (hb.mono (by rw [hsz2]; omega))
    ke := blk_below (blk_new w _) hb
    ki := k6.2
    kl := k7.2
    kp := k8.2
    fi := k1.2
    fl := k3.2
    fp := k5.2
    lp := by simp
    d := ⟨dd 1 3 (by decide) (by decide) (by decide) (by decide) (by decide), dd 1 5 (by decide) (by decide) (by decide) (by decide) (by decide), dd 3 5 (by decide) (by decide) (by decide) (by decide) (by decide), dd 6 7 (by decide) (by decide) (by decide) (by decide) (by decide), dd 6 8 (by decide) (by decide) (by decide) (by decide) (by decide), dd 7 8 (by decide) (by decide) (by decide) (by decide) (by decide)⟩
    b := ⟨by omega, by omega, by omega⟩ }
  have hF : Fr A c n w.heap.size M l = Fr A c n w.heap.size M (Array.replicate 12 true) := by
   unfold Fr up
   simp only [hal 0 (by decide), hal 1 (by decide), hal 2 (by decide), hal 3 (by decide), hal 4 (by decide), hal 5 (by decide), hal 6 (by decide), hal 7 (by decide), hal 8 (by decide)]
   rfl
  rw [hF]
  clear hF hm hd hal hall hrd hsz hb
  unfold Fr
  have u0 : ∀ i v, i < 12 -> up (Array.replicate 12 true) i v = v := by
   intro i v hi
   unfold up
   simp [hi]
  rw [u0 6 _ (by decide), u0 7 _ (by decide), u0 8 _ (by decide), u0 0 _ (by decide), u0 1 _ (by decide), u0 2 _ (by decide), u0 3 _ (by decide), u0 4 _ (by decide), u0 5 _ (by decide)]
  generalize M 1 = ai at P0 ⊢
  generalize M 3 = al at P0 ⊢
  generalize M 5 = ap at P0 ⊢
  generalize M 6 = bi at P0 ⊢
  generalize M 7 = bl at P0 ⊢
  generalize M 8 = bp at P0 ⊢
  clear u0
  have P1_ := Az.mk P0
  have c1 := cell_of_one P0.kp
  clear P0
  go_wp2_with fail
  go_loopg [24] n (fun kq v24 w' => ∃ (i : Nat) (comp : List Int), v24 = .int .i64 i /\ Az (kq + i = n) /\ Az (Pre w A c n w.heap.size bi bl bp ai al ap comp w') /\ Az (∀ j, j < i -> comp.getD j 0 = -1))
  case atStart => exact ⟨0, _, rfl, ⟨by omega⟩, P1_, ⟨fun j hj => by omega⟩⟩
  case round => as_aux_lemma =>
   clear P1_ c1
   obtain ⟨i, comp, rfl, HK, HP, HJ⟩ := hrel
   by_cases hi : i < n
   · as_aux_lemma =>
     have hk := HK.1
     obtain ⟨k1, rfl⟩ : ∃ m, gk = m + 1 := ⟨gk - 1, by omega⟩
     have c2 := cell_of_one HP.1.kp
     have e1 := HP.1.lp
     have c3 := arr_cell HP.1.fp i (by omega) (by omega)
     have f3 := arr_free HP.1.fp i
     rw [Int.toNat_natCast] at c3
     clear e1 hk
     go_upto_region 7 with fail
     have HP2 := Az.mk (HP.1.setComp i (-1))
     clear c2 c3 f3
     generalize wr.setCell ⟨ap, i, none⟩ (.int .i64 (-1)) = w3 at HP2 ⊢
     go_wp2_with fail
     go_roundg k1
     case measure => omega
     case rel =>
      refine ⟨i + 1, _, by go_num, ⟨by have := HK.1; omega⟩, HP2, ⟨fun j hj => ?_⟩⟩
      have hlen : i < comp.length := by rw [HP.1.lp]; exact hi
      rw [List.getD_eq_getElem?_getD, List.getElem?_set]
      by_cases hji : i = j
      · subst hji
        rw [if_pos rfl, if_pos hlen]
        rfl
      rw [if_neg hji, <- List.getD_eq_getElem?_getD]
      exact HJ.1 j (by omega)
   have hin : i = n := by have := HK.1; omega
   subst hin
   have ec : comp = List.replicate i (-1) := by
    apply List.ext_getElem
    · rw [HP.1.lp]; simp
    · intro j h1 h2
      have := HJ.1 j (by simpa using h2)
      rw [List.getD_eq_getElem?_getD, List.getElem?_eq_getElem h1] at this
      simpa using this
   rw [ec] at HP
   clear ec HJ HK comp hi
   go_upto_region 11 with fail
   have n1 := blk_new wr (.cells #[.slice none 0 0] 32)
   have n2 := blk_new (wr.alloc (.cells #[.slice none 0 0] 32)) (.cells #[.int .i64 0] 3)
   have n3 := blk_new ((wr.alloc (.cells #[.slice none 0 0] 32)).alloc (.cells #[.int .i64 0] 3)) (.cells #[.int .i64 0] 3)
   have n4 := blk_new (((wr.alloc (.cells #[.slice none 0 0] 32)).alloc (.cells #[.int .i64 0] 3)).alloc (.cells #[.int .i64 0] 3)) (.cells #[.nilFunc] 62)
   have n1' := blk_alloc (blk_alloc (blk_alloc n1 (.cells #[.int .i64 0] 3)) (.cells #[.int .i64 0] 3)) (.cells #[.nilFunc] 62)
   have n2' := blk_alloc (blk_alloc n2 (.cells #[.int .i64 0] 3)) (.cells #[.nilFunc] 62)
   have n3' := blk_alloc n3 (.cells #[.nilFunc] 62)
   have hb := below_alloc (below_alloc (below_alloc (below_alloc (Below.refl wr.heap.size wr) (.cells #[.slice none 0 0] 32)) (.cells #[.int .i64 0] 3)) (.cells #[.int .i64 0] 3)) (.cells #[.nilFunc] 62)
   have s2 : (wr.alloc (.cells #[.slice none 0 0] 32)).heap.size = wr.heap.size + 1 := by simp
   have s3 : ((wr.alloc (.cells #[.slice none 0 0] 32)).alloc (.cells #[.int .i64 0] 3)).heap.size = wr.heap.size + 1 + 1 := by simp
   have s4 : (((wr.alloc (.cells #[.slice none 0 0] 32)).alloc (.cells #[.int .i64 0] 3)).alloc (.cells #[.int .i64 0] 3)).heap.size = wr.heap.size + 1 + 1 + 1 := by simp
   rw [s2] at n2'
   rw [s3] at n3'
   rw [s4] at n4
   clear n1 n2 n3 s2 s3 s4
   have M1 := Az.mk n1'
   have M2 := Az.mk n2'
   have M3 := Az.mk n3'
   have M4 := Az.mk n4
   have HB := Az.mk hb
   have c4 := cell_of_one n4
   have f4 := free_of_one n4
   clear n1' n2' n3' n4 hb
   generalize ((((wr.alloc (.cells #[.slice none 0 0] 32)).alloc (.cells #[.int .i64 0] 3)).alloc (.cells #[.int .i64 0] 3)).alloc (.cells #[.nilFunc] 62)) = w5 at M1 M2 M3 M4 HB c4 f4 ⊢
   go_wp2_with fail
   have hN := HN.1
   subst hN
   have hlt1 := blk_lt HP.1.ke
   have hlt2 := blk_lt HP.1.ki
   have hlt3 := blk_lt HP.1.kl
   have hlt4 := blk_lt HP.1.kp
   have hlt5 := blk_lt HP.1.fi
   have hlt6 := blk_lt HP.1.fl
   have hlt7 := blk_lt HP.1.fp
   have hw := HP.1.hB.size
   obtain ⟨d1, d2, d3, d4, d5, d6⟩ := HP.1.d
   obtain ⟨b1, b2, b3⟩ := HP.1.b
   have OK : Cx.Ok { bc := wr.heap.size + 1, bi := bi, bl := bl, bs := wr.heap.size, be := w.heap.size, bv := wr.heap.size + 1 + 1 + 1, bp := bp, bm := wr.heap.size + 1 + 1, ai := ai, al := al, ap := ap, A := A, c := c, w0 := w, es := es } := by
    constructor
    · refine ⟨?_, ?_, ?_, ?_, ?_, ?_, ?_, d1, d2, d3⟩ <;> (dsimp only; omega)
    · refine ⟨?_, ?_, ?_⟩ <;> (dsimp only; omega)
    · refine ⟨?_, ?_, ?_, b1, b2, b3⟩ <;> (dsimp only; omega)
   have I0 : Inv { bc := wr.heap.size + 1, bi := bi, bl := bl, bs := wr.heap.size, be := w.heap.size, bv := wr.heap.size + 1 + 1 + 1, bp := bp, bm := wr.heap.size + 1 + 1, ai := ai, al := al, ap := ap, A := A, c := c, w0 := w, es := es } (init es.length)
    (w5.setCell ⟨wr.heap.size + 1 + 1 + 1, 0, none⟩ (.func (.func 44) #[] #[P1 (wr.heap.size + 1), P1 bi, P1 bl, P1 wr.heap.size, P1 w.heap.size, P1 (wr.heap.size + 1 + 1 + 1), P1 bp, P1 (wr.heap.size + 1 + 1)])) := {
    hB := (HP.1.hB.trans (HB.1.mono hw)).setCell (by dsimp only; omega) _
    hE := HR.1
    kc := blk_far M2.1 (by dsimp only; omega) _
    ki := blk_far (blk_below HP.1.ki HB.1) (by dsimp only; omega) _
    kl := blk_far (blk_below HP.1.kl HB.1) (by dsimp only; omega) _
    ks := ⟨.slice none 0 0, blk_far M1.1 (by dsimp only; omega) _, Kd.R_nil _ _ _ _ _⟩
    ke := blk_far (blk_below HP.1.ke HB.1) (by dsimp only; omega) _
    kv := one_setCell M4.1
    kp := blk_far (blk_below HP.1.kp HB.1) (by dsimp only; omega) _
    km := blk_far M3.1 (by dsimp only; omega) _
    ai := blk_far (blk_below HP.1.fi HB.1) (by dsimp only; omega) _
    al := blk_far (blk_below HP.1.fl HB.1) (by dsimp only; omega) _
    ap := blk_far (blk_below HP.1.fp HB.1) (by dsimp only; omega) _
    li := by simp [init]
    ll := by simp [init]
    lp := by simp [init] }
   have VC := Az.mk (visit_calls _ OK)
   have HBP := Az.mk b3
   have J0 := Az.mk I0
   clear I0 OK d1 d2 d3 d4 d5 d6 b1 b2 b3 hw hlt1 hlt2 hlt3 hlt4 hlt5 hlt6 hlt7 c4 f4 M1 M2 M3 M4 HB HP
   generalize (w5.setCell ⟨wr.heap.size + 1 + 1 + 1, 0, none⟩ (.func (.func 44) #[] #[P1 (wr.heap.size + 1), P1 bi, P1 bl, P1 wr.heap.size, P1 w.heap.size, P1 (wr.heap.size + 1 + 1 + 1), P1 bp, P1 (wr.heap.size + 1 + 1)])) = w6 at J0 ⊢
   generalize wr.heap.size = s at J0 VC ⊢
   go_loopg [33] k (fun kq v33 w' => ∃ (v : Int) (st : TS), v33 = .int .i64 v /\ Az (0 <= v) /\ Az (outer kq es v st = some stf) /\ Az (kq <= k) /\ Az (Inv { bc := s + 1, bi := bi, bl := bl, bs := s, be := w.heap.size, bv := s + 1 + 1 + 1, bp := bp, bm := s + 1 + 1, ai := ai, al := al, ap := ap, A := A, c := c, w0 := w, es := es } st w'))
   case atStart => exact ⟨0, _, rfl, ⟨by omega⟩, HST, ⟨Nat.le_refl _⟩, J0⟩
   case round => as_aux_lemma =>
    clear J0 HST
    obtain ⟨v, st, rfl, HV, HA, HK1, J⟩ := hrel
    cases gk with
    | zero => exact absurd HA.1 (by simp [outer])
    | succ k1 =>
     have H := HA.1
     clear HA
     rw [outer] at H
     have hm : es.length <= 9223372036854775807 := HR.1.2.1
     by_cases ci : v < es.length
     rotate_left
     · as_aux_lemma =>
       rw [if_neg ci] at H
       have cb : decide (v < (es.length : Int)) = false := decide_eq_false ci
       have c2 := cell_of_one J.1.kp
       have c3 := cell_of_one J.1.km
       obtain rfl : st = stf := Option.some.inj H
       go_wp2_with fail
       go_region
       go_wp2_with fail
       go_ret2
       obtain ⟨rfl, rfl⟩ := Prod.mk.inj HRR.1
       refine ⟨sl es.length ap, rfl, ?_, below_drew J.1.hB⟩
       have hl := J.1.lp
       have h1 := arr_R (w := wr) (base := w.heap.size) J.1.ap (by have := HBP.1; omega) (by rw [hl]; unfold maxLen; omega)
       rw [hl] at h1
       exact Kd.R_drew h1
     as_aux_lemma =>
     rw [if_pos ci] at H
     have hv0 := HV.1
     have cb : decide (v < (es.length : Int)) = true := decide_eq_true ci
     have c2 := cell_of_one J.1.ki
     have c3 := arr_cell J.1.ai v hv0 (by rw [J.1.li]; exact ci)
     have q1 := eq_true hv0
     have q2 := eq_true ci
     by_cases cz : rd st.index v = 0
     rotate_left
     · as_aux_lemma =>
       rw [if_neg cz] at H
       have H' := Az.mk H
       clear H
       have cz1 : (rd st.index v == 0) = false := beq_eq_false_iff_ne.2 cz
       clear cz
       go_wp2_with fail
       go_roundg k1
       case measure => omega
       case rel => exact ⟨v + 1, _, rfl, ⟨by have := HV.1; omega⟩, H', ⟨by have := HK1.1; omega⟩, J⟩
     as_aux_lemma =>
     rw [if_pos cz] at H
     obtain ⟨s1, hs1, H⟩ := Option.bind_eq_some_iff.1 H
     have Hs1 := Az.mk hs1
     have H' := Az.mk H
     clear hs1 H
     have cz1 : (rd st.index v == 0) = true := beq_iff_eq.2 cz
     clear cz
     have c5 := cell_of_one J.1.kv
     go_wp2_with (go_at_call 44; refine (VC.1 k1 v st s1 Hs1.1 _ J.1).mono ?_; clear c2 c3 c5; rintro e w7 ⟨rfl, hI⟩; have J5 := Az.mk hI; clear hI)
     go_roundg k1
     case measure => omega
     case rel => exact ⟨v + 1, _, rfl, ⟨by have := HV.1; omega⟩, H', ⟨by have := HK1.1; omega⟩, J5⟩
end Tj
end Go.Proofs.Ytpmjpngmmphkmaa
namespace Go.Proofs.Ytpmjpngmmphkmaa
open Go.RowKit Go.Proofs.Yw.A Go.Proofs.Yw.B Go.Proofs.Yw.C Go.Proofs.Ytpmjpngmmphkmaa.P
namespace Od
open Tj Rw
abbrev KS : Kd (List Int) := Kd.slice 3 (Kd.int .i64)
theorem S_upd {g n cap base : Nat} {W : World} {ok : Nat -> Prop} {xs : List (List Int)} (h : Kd.S KS 32 W base ok (.slice (some ⟨g, 0, none⟩) n cap) xs) (hfresh : ∀ k, W.heap.size <= k -> ok k) (i : Int) (h0 : 0 <= i) (h1 : i < n) :
    ∃ (v0 : Value) (oki : Nat -> Prop), W.cell? ⟨g, i.toNat, none⟩ = some v0 /\ W.frozen? ⟨g, i.toNat, none⟩ = false /\ Kd.R (Kd.int .i64) 3 W base oki v0 (row xs i) /\ (∀ k, oki k -> ok k /\ k ≠ g) /\
      ∀ (w1 : World) (v1 : Value) (ys : List Int), W.grownBy w1 v0.ownBlock -> Kd.R (Kd.int .i64) 3 w1 base (fun k => oki k \/ W.heap.size <= k) v1 ys ->
        Kd.S KS 32 (w1.setCell ⟨g, i.toNat, none⟩ v1) base ok (.slice (some ⟨g, 0, none⟩) n cap) (xs.set i.toNat ys) /\ w1.grownBy (w1.setCell ⟨g, i.toNat, none⟩ v1) (some g) := by
  obtain ⟨oki, c, hcl, hM, hcc, hfr, hoki, hH⟩ := Kd.S_elem h [] i h0 h1
  obtain ⟨v0, rfl, hR⟩ := hM
  have hsz : KS.sz = 1 := rfl
  have hg : g < W.heap.size := Kd.S_lt h g (by simp [Value.ownBlock])
  refine ⟨v0, oki, ?_, ?_, hR, hoki, ?_⟩
  · have := hcc 0 v0 rfl
    rwa [hsz, Nat.mul_one, Nat.add_zero] at this
  · have := hfr 0
    rwa [hsz, Nat.mul_one, Nat.add_zero] at this
  · intro w1 v1 ys hg1 hR1
    have hw : Kd.H KS 32 W base ok (.slice (some ⟨g, 0, none⟩) n cap) xs i (fun k => oki k \/ W.heap.size <= k) [v0] := by
      have := Kd.H_widen hH
      have e : (fun k => oki k \/ ok k /\ W.heap.size <= k) = (fun k => oki k \/ W.heap.size <= k) := by
        funext k
        exact propext ⟨fun hk => hk.elim .inl (fun h2 => .inr h2.2), fun hk => hk.elim .inl (fun h2 => .inr ⟨hfresh k h2, h2⟩)⟩
      rwa [e] at this
    have h2 := Kd.H_grown hw hg1 (fun k hk => .inl (hR.1 k hk))
    obtain ⟨h3, h4⟩ := Kd.H_seg h2 h0 h1 (seg := [v1]) (j := 0) (by rw [hsz]; simp) (by
      intro q hq
      rw [List.mem_singleton.1 hq]
      exact (Kd.R_val hR1).2)
    have e1 : w1.setCells g (i.toNat * KS.sz + 0) [v1] = w1.setCell ⟨g, i.toNat, none⟩ v1 := by rw [hsz, Nat.mul_one, Nat.add_zero]; rfl
    rw [e1] at h3 h4
    refine ⟨Kd.H_back h3 (okp := fun k => oki k \/ W.heap.size <= k) ⟨v1, rfl, ?_⟩ (fun _ hk => hk), h4⟩
    refine Kd.R_far (p := ⟨g, i.toNat, none⟩) hR1 (fun k hk => ?_) _
    rcases hk with hk | hk
    · exact (hoki k hk).2
    · show k ≠ g
      omega
theorem S_made {W : World} {g n base : Nat} {ok : Nat -> Prop} (hh : W.heap[g]? = some (.cells (madeCells #[.slice none 0 0] n) 32 (0, 0))) (hb : base <= g) (hm : n <= maxLen) (hok : ok g) :
    Kd.S KS 32 W base ok (.slice (some ⟨g, 0, none⟩) n n) (List.replicate n []) := by
  refine Kd.S_bare ⟨fun k hk => by obtain rfl : g = k := by simpa [Value.ownBlock] using hk
                                   exact hok, List.replicate n (.slice none 0 0), ?_, ?_, fun j p hj => ?_⟩
  · refine ⟨by simp [Kd.bare, KS, Kd.slice], .inr ⟨g, n, _, by rw [List.length_replicate], hb, hh, by rw [List.length_replicate]; exact Nat.le_refl _, hm, by rw [size_madeCells]; simp [Kd.bare, KS, Kd.slice], ?_⟩⟩
    have e : (madeCells #[.slice none 0 0] n).toList = List.replicate n (.slice none 0 0) := by
      apply List.ext_getElem
      · simp [madeCells]
      · intro i h1 h2
        simp [madeCells, Nat.mod_one]
    rw [e, List.length_replicate]
    simp [Kd.bare, KS, Kd.slice]
  · simp [Kd.bare, KS, Kd.slice]
  · have hjl := (List.getElem?_eq_some_iff.1 hj).1
    rw [List.length_replicate] at hjl
    have hp : p = [] := by
      rw [List.getElem?_replicate_of_lt hjl] at hj
      exact (Option.some.inj hj).symm
    subst hp
    show ∃ v, _ = [v] /\ _
    refine ⟨.slice none 0 0, ?_, Kd.R_nil _ _ _ _ _⟩
    have e1 : (Kd.bare KS).sz = 1 := rfl
    rw [e1, Nat.mul_one, List.drop_replicate, List.take_replicate]
    rw [show min 1 (n - j) = 1 by omega]
    rfl
section
variable {P : Program} {ops : Array Oper} {o : Oper} {a : Act} {Q : Exit -> Act -> World -> Prop} {Kc : Act -> World -> Prop}
theorem skip_step {W w1 : World} (hw : Region.wanted o (yielded ops a.tmps) = true) (hd : o.dst = none) (hrun : (execOp a.eval o).run P W = .ok .skip w1) (h : Kc a w1) :
    if Region.wanted o (yielded ops a.tmps) = true then Oper.wp P o a W Kc Q else Kc (a.put none undef) W := by
  rw [if_pos hw]
  unfold Oper.wp
  rw [hrun]
  show Kc (a.put o.dst undef) w1
  rw [hd]
  exact h
end
theorem S_mapstep {w w1 : World} {e base gs c : Nat} {ok : Nat -> Prop} {v : Value} {xs : List (List Int)} {es : Array MapEntry} (h : Kd.S KS e w base ok v xs) (hm : w.heap[gs]? = some (.map es c)) (hg : w.grownBy w1 (some gs)) : Kd.S KS e w1 base ok v xs :=
  Kd.S_mono (Kd.S_grown (Kd.S_bound h) hg (fun k hk he => by
    obtain ⟨_, _, _, q, _, cells, hc⟩ := hk
    injection he with he
    subst he
    rw [hm] at hc
    cases hc)) (fun k hk => hk.1)
theorem arr_made {W : World} {g n : Nat} (hh : W.heap[g]? = some (.cells (madeCells #[.int .i64 0] n) 3 (0, 0))) : W.heap[g]? = some (arr (List.replicate n 0)) := by
  rw [hh, <- made_zeros n]
  simp [Value.cells]
def outK (W1 : World) (okm : Nat -> Prop) : Kd (List Int) where
  sz := 1
  E := []
  K := fun _ x cs => Kd.FK KS W1 okm x cs
  M := fun _ _ _ x cs => Kd.FK KS W1 okm x cs
  K_len := fun h => KS.K_len (Kd.FK_now h)
  K_one := fun h => KS.K_one (Kd.FK_now h)
  K_below := fun _ h => h
  K_of_M := fun h => h
  M_mono := fun _ h => h
  M_bound := fun h => h
  M_move := fun _ h => h
  M_lower := fun _ h => h
theorem outK_V {W1 w : World} {gm base b0 : Nat} {ok : Nat -> Prop} {v : Value} {xs : List (List Int)} (h : (outK W1 (fun k => gm <= k)).R 32 w base ok v xs) (hb : Below W1.heap.size W1 w) (hg : gm <= base) {g0 : Nat} (hg0 : g0 <= gm) :
    Kd.V KS 32 w b0 (fun k => g0 <= k) v xs := by
  obtain ⟨A, c, rfl⟩ := Kd.R_slice h
  have hl := (Kd.R_reads' h).2.1
  refine ⟨A, c, rfl, hl, fun W' hW => ?_⟩
  have hbase := Kd.R_base h
  have hR := Kd.R_step (w1 := W') (Kd.R_tight rfl h) (fun k hk hlt => hW k (by have := hbase k hk.symm; omega) hlt)
  have h2 := (Kd.R_reads' hR).2.2
  refine ReadsRow.imp_ h2 (Below.refl _ _) (fun x cs hx => hx W' (fun k hk hlt => ?_))
  rw [hW k (by omega) (by have := hb.size; omega)]
  exact hb.block k hlt
def ReadyAt (w : World) (br : Nat) (ready : List Int) : Prop := ∃ vr, w.heap[br]? = some (.cells #[vr] 32 (0, 0)) /\ RowAt w (br + 1) vr ready
theorem Entered.keeps {W1 w w' : World} {br : Nat} {vr : Value} {ready ready' : List Int} {e : Ending} (h : Entered W1 (br + 1) br vr ready' w e w') (hR : RowAt w (br + 1) vr ready) :
    e = .returned (.tuple #[]) /\ Below W1.heap.size W1 w' /\ w.heap.size <= w'.heap.size /\ ReadyAt w' br ready' /\ (∀ k, k < br -> k < w.heap.size -> w'.heap[k]? = w.heap[k]?) /\
      ∀ (k : Nat) (t : TypeId) (cs : Array Value), k ≠ br -> w.heap[k]? = some (.cells cs t (0, 0)) -> t ≠ 3 -> w'.heap[k]? = w.heap[k]? := by
  obtain ⟨h1, h2, h3, h4, h5⟩ := h
  refine ⟨h1, h2, h3, h4, fun k hk hlt => h5 k hlt (by omega) (fun e => ?_), fun k t cs hk hc ht => h5 k (blk_lt hc) hk (fun e => ?_)⟩
  · have := (hR.lt k e).1
    omega
  · obtain ⟨_, _, cur, a3⟩ := hR.lt k e
    rw [hc] at a3
    injection a3 with a3
    injection a3 with _ a3
    exact ht a3
theorem ReadyAt.kept {w w1 : World} {br : Nat} {ready : List Int} (h : ReadyAt w br ready) (hk : ∀ k, br <= k -> k < w.heap.size -> w1.heap[k]? = w.heap[k]?) : ReadyAt w1 br ready := by
  obtain ⟨vr, h1, h2⟩ := h
  exact ⟨vr, by rw [hk br (Nat.le_refl _) (blk_lt h1)]; exact h1, h2.kept (fun k hkk => by
    obtain ⟨a1, a2, _⟩ := h2.lt k hkk
    exact hk k (by omega) a2)⟩
end Od
end Go.Proofs.Ytpmjpngmmphkmaa
namespace Go.Proofs.Ytpmjpngmmphkmaa
open Go.RowKit Go.Proofs.Yw.A Go.Proofs.Yw.B Go.Proofs.Yw.C Go.Proofs.Ytpmjpngmmphkmaa.P
namespace Rw
open Tj
theorem RowAt.cut {w : World} {base : Nat} {v : Value} {xs : List Int} (h : RowAt w base v xs) (hne : 0 < xs.length) :
    ∃ g off cap A, v = .slice (some ⟨g, off, none⟩) xs.length cap /\ base <= g /\ g < w.heap.size /\ xs.length <= cap /\ w.cell? ⟨g, off, none⟩ = some (.int .i64 (rd xs 0)) /\
      (if cap = 1 then some ⟨g, off, none⟩ else some ⟨g, off + 1, none⟩) = A /\ RowAt w base (.slice A (xs.length - 1) (cap - 1)) (xs.drop 1) := by
  rcases h with ⟨rfl, rfl⟩ | ⟨g, off, cap, cur, rfl, hb, hh, hl, hs, hm, hc⟩
  · cases hne
  · refine ⟨g, off, cap, _, rfl, hb, blk_lt hh, hl, ?_, rfl, ?_⟩
    · rw [blk_cell hh]
      have := hc 0 (rd xs 0) (by
        show xs[0]? = some (xs.getD 0 0)
        rw [List.getD_eq_getElem?_getD, List.getElem?_eq_getElem hne]
        rfl)
      rwa [Nat.add_zero] at this
    · have hdl : (xs.drop 1).length = xs.length - 1 := by simp
      rw [<- hdl]
      by_cases h1 : cap = 1
      · rw [if_pos h1]
        refine .inr ⟨g, off, cap - 1, cur, rfl, hb, hh, by omega, by omega, by omega, fun j x hj => ?_⟩
        have := (List.getElem?_eq_some_iff.1 hj).1
        omega
      · rw [if_neg h1]
        refine .inr ⟨g, off + 1, cap - 1, cur, rfl, hb, hh, by omega, by omega, by omega, fun j x hj => ?_⟩
        rw [List.getElem?_drop] at hj
        have := hc (1 + j) x hj
        rwa [show off + (1 + j) = off + 1 + j by omega] at this
end Rw
namespace Od
open Tj Rw
abbrev OutR (W1 : World) (gm : Nat) (w : World) (base : Nat) (v : Value) (xs : List (List Int)) : Prop := (outK W1 (fun k => gm <= k)).R 32 w base (fun _ => True) v xs
theorem OutR.kept {W1 w w1 : World} {gm base : Nat} {v : Value} {xs : List (List Int)} (h : OutR W1 gm w base v xs) (hk : ∀ k, v.ownBlock = some k -> w1.heap[k]? = w.heap[k]?) : OutR W1 gm w1 base v xs :=
  Kd.R_mono (Kd.R_step (Kd.R_tight rfl h) (fun k e _ => hk k e.symm)) (fun _ _ => trivial)
theorem OutR.typed {W1 w : World} {gm base : Nat} {v : Value} {xs : List (List Int)} (h : OutR W1 gm w base v xs) : ∀ k, v.ownBlock = some k -> base <= k /\ k < w.heap.size /\ ∃ cells, w.heap[k]? = some (.cells cells 32 (0, 0)) := by
  intro k hk
  obtain ⟨inner, hi⟩ := Kd.R_own h
  obtain ⟨cells, hc⟩ := own_typed hi k hk
  exact ⟨Kd.R_base h k hk, blk_lt hc, cells, hc⟩
theorem row_out_ne {W1 w : World} {gm base base' : Nat} {v u : Value} {xs : List (List Int)} {ys : List Int} (h : OutR W1 gm w base v xs) (hR : RowAt w base' u ys) : ∀ k, u.ownBlock = some k -> some k ≠ v.ownBlock := by
  intro k hk e
  obtain ⟨_, _, cells, hc⟩ := h.typed k e.symm
  obtain ⟨_, _, cur, hc2⟩ := hR.lt k hk
  rw [hc] at hc2
  injection hc2 with hc2
  injection hc2 with _ hc2
  exact absurd hc2 (by decide)
end Od
end Go.Proofs.Ytpmjpngmmphkmaa
