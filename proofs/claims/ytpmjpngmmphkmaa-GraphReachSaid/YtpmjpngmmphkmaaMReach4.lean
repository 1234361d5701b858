/- Part 4 of 4 of one proof: The law GraphReach of the graph chapter holds: for every input it returns true, and the input reads as it did -/
import Derived.Below
import Derived.ChangeOld
import Derived.OpenShut
import Derived.ProofKit
import Derived.ShutString
import Derived.SizedLaws
import Derived.Test.YtpmjpngmmphkmaaRows
import Derived.WalkKit
import Derived.Test.YtpmjpngmmphkmaaMReach1
import Derived.Test.YtpmjpngmmphkmaaMReach2
import Derived.Test.YtpmjpngmmphkmaaMReach3
namespace Go.Proofs.Ytpmjpngmmphkmaa.P
open Go.RowKit Go.Proofs.YtpmjpngmmphkmaaW.PrintWords Go.Proofs.YtpmjpngmmphkmaaW.PrintLast Go.Proofs.YtpmjpngmmphkmaaW.PrintMore
attribute [local go_sem] max2_int min2_int max_two min_two max_three min_three max_four min_four   -- for this text's walks alone
set_option linter.unusedVariables false
set_option linter.unusedSimpArgs false

/-! ### lazycref09_has: function 41 -/
noncomputable def lazycref09_has.l0 : Nat → List Int → Int → Int → Option (Bool)
  | 0, _, _, _ => none
  | k + 1, x0, x1, x5 => if x5 < (x0.length : Int) then (if 0 ≤ x5 then (if (rd x0 x5) = x1 then (some true) else (lazycref09_has.l0 k x0 x1 (wrap64 (x5 + 1)))) else (none)) else (some false)
noncomputable def lazycref09_has.f (k : Nat) (l0 : List Int) (a1 : Int) : Option (Bool) := lazycref09_has.l0 k l0 a1 0
theorem lazycref09_has.mono_l : ∀ k, (∀ y0 y1 y2, LeO (lazycref09_has.l0 k y0 y1 y2) (lazycref09_has.l0 (k + 1) y0 y1 y2))
  | 0 => fun _ _ _ r h => by simp [lazycref09_has.l0] at h
  | k + 1 => by
    have ih0 := lazycref09_has.mono_l k
    · intro y0 y1 y2
      unfold lazycref09_has.l0
      repeat' first
      | (with_reducible exact ih0 _ _ _)
      | (with_reducible exact LeO.refl _)
      | (with_reducible exact LeO.none _)
      | (with_reducible refine LeO.ite ?_ ?_)
      | (with_reducible refine LeO.bind ?_ (fun _ => ?_))
      | exact ih0 _ _ _
      | exact LeO.none _
      | refine LeO.ite ?_ ?_
      | refine LeO.bind ?_ (fun _ => ?_)
theorem lazycref09_has.mono : ∀ a0 a1 k, LeO (lazycref09_has.f k a0 a1) (lazycref09_has.f (k + 1) a0 a1) := by
  intro a0 a1 k
  have ih0 := lazycref09_has.mono_l k
  unfold lazycref09_has.f
  repeat' first
      | (with_reducible exact ih0 _ _ _)
      | (with_reducible exact LeO.refl _)
      | (with_reducible exact LeO.none _)
      | (with_reducible refine LeO.ite ?_ ?_)
      | (with_reducible refine LeO.bind ?_ (fun _ => ?_))
      | exact ih0 _ _ _
      | exact LeO.none _
      | refine LeO.ite ?_ ?_
      | refine LeO.bind ?_ (fun _ => ?_)
set_option maxHeartbeats 8000000 in
set_option maxRecDepth 100000 in
theorem lazycref09_has.calls (k : Nat) (A0 : Option Addr) (c0 : Nat) (l0 : List Int) (a1 : Int) (r : Bool) (w : World) (hr0 : Kd.C (Kd.int .i64) w A0 l0.length l0) (hc0 : l0.length ≤ c0) (h : lazycref09_has.f k l0 a1 = some r) :
    Calls Try.prog 41 #[.slice A0 l0.length c0, .int .i64 a1] w fun e w' => e = .returned (.bool r) ∧ Drawn0 w w' := by
  have HR0 := aM hr0
  have HC0 := aM hc0
  clear hr0 hc0
  have H : (lazycref09_has.l0 k l0 a1 0) = some r := h
  clear h
  have H' := aM H
  clear H
  go_enter Try.func41, Try.ntmps41
  go_wp2
  go_loopg [5] k (fun kq v5 w' => ∃ (x5_1 : Int), v5 = .int .i64 x5_1 ∧ Aside0 (lazycref09_has.l0 kq l0 a1 x5_1 = some r) ∧ Aside0 (kq ≤ k) ∧ Drawn0 w w')
  case atStart => exact ⟨(0), (by first | rfl | (simp; done) | (simp [*]; done)), H', ⟨Nat.le_refl _⟩, by repeat (first | exact Drawn0.refl _ | apply Drawn0.step)⟩
  case round =>
    clear H'
    try clear p2
    obtain ⟨x5_1, rfl, HA, HK1, ⟨m1, rfl⟩⟩ := hrel
    cases gk with
    | zero => exact absurd HA.out (by simp [lazycref09_has.l0])
    | succ k1 =>
      have H := HA.out
      clear HA
      simp only [lazycref09_has.l0] at H
      by_cases c3 : x5_1 < (l0.length : Int)
      · rw [if_pos c3] at H
        have c3b0 : decide (x5_1 < (l0.length : Int)) = true := decide_eq_true c3
        clear c3
        by_cases c4 : 0 ≤ x5_1
        · rw [if_pos c4] at H
          have c4b0 : decide (0 ≤ x5_1) = true := decide_eq_true c4
          clear c4
          by_cases c5 : (rd l0 x5_1) = a1
          · rw [if_pos c5] at H
            have c5b0 : ((rd l0 x5_1) == a1) = true := beq_iff_eq.mpr c5
            have c5b1 : ((rd l0 x5_1) != a1) = false := bne_eq_false_iff_eq.mpr c5
            clear c5
            obtain rfl := Option.some.inj H
            have p217 : 0 ≤ (x5_1 : Int) := of_decide_eq_true (by first | (with_reducible assumption) | assumption)
            have q217 : x5_1 < (l0.length : Int) := of_decide_eq_true (by first | (with_reducible assumption) | assumption)
            obtain ⟨ad217, e217, hx217_0⟩ := Kd.at_int HR0.out x5_1 p217 q217
            cases e217
            replace p217 := eq_true p217
            replace q217 := eq_true q217
            go_wp2
            go_ret
            exact ⟨by first | rfl | (simp; done) | (simp [*]; done), by repeat (first | exact Drawn0.refl _ | apply Drawn0.step)⟩
          · rw [if_neg c5] at H
            have c5b0 : ((rd l0 x5_1) == a1) = false := beq_eq_false_iff_ne.mpr c5
            have c5b1 : ((rd l0 x5_1) != a1) = true := bne_iff_ne.mpr c5
            have H' := aM H
            clear H
            have p217 : 0 ≤ (x5_1 : Int) := of_decide_eq_true (by first | (with_reducible assumption) | assumption)
            have q217 : x5_1 < (l0.length : Int) := of_decide_eq_true (by first | (with_reducible assumption) | assumption)
            obtain ⟨ad217, e217, hx217_0⟩ := Kd.at_int HR0.out x5_1 p217 q217
            cases e217
            replace p217 := eq_true p217
            replace q217 := eq_true q217
            go_wp2
            go_roundg k1
            case measure => have := HK1.out; omega
            case rel => exact ⟨(wrap64 (x5_1 + 1)), (by first | rfl | (simp; done) | (simp [*]; done)), H', ⟨by have := HK1.out; omega⟩, by repeat (first | exact Drawn0.refl _ | apply Drawn0.step)⟩
        · rw [if_neg c4] at H
          exact absurd H (by simp)
      · rw [if_neg c3] at H
        have c3b0 : decide (x5_1 < (l0.length : Int)) = false := decide_eq_false c3
        clear c3
        obtain rfl := Option.some.inj H
        go_wp2
        go_ret
        exact ⟨by first | rfl | (simp; done) | (simp [*]; done), by repeat (first | exact Drawn0.refl _ | apply Drawn0.step)⟩

/-! ### lazycref09_component: function 29 -/
noncomputable def lazycref09_component.l0 : Nat → Int → List Int → List Int → Int → List (List Int) → Option (List Int)
  | 0, _, _, _, _, _ => none
  | k + 1, x1, x5, x6, x7, x219000 => if x7 < (x6.length : Int) then (if 0 ≤ x7 then ((lazycref09_Reach.f k x219000 (rd x6 x7)).bind fun t226 => ((lazycref09_has.f k t226 x1).bind fun t229 => (if t229 = true then (if x5.length < 17592186044416 then (lazycref09_component.l0 k x1 (x5 ++ [rd x6 x7]) x6 (wrap64 (x7 + 1)) x219000) else (none)) else (lazycref09_component.l0 k x1 x5 x6 (wrap64 (x7 + 1)) x219000)))) else (none)) else (some x5)
noncomputable def lazycref09_component.f (k : Nat) (l0_0 : List (List Int)) (a1 : Int) : Option (List Int) := (lazycref09_Reach.f k l0_0 a1).bind fun t222 => (lazycref09_component.l0 k a1 (([] : List Int)) t222 0 l0_0)
theorem lazycref09_component.mono_l : ∀ k, (∀ y0 y1 y2 y3 y4, LeO (lazycref09_component.l0 k y0 y1 y2 y3 y4) (lazycref09_component.l0 (k + 1) y0 y1 y2 y3 y4))
  | 0 => fun _ _ _ _ _ r h => by simp [lazycref09_component.l0] at h
  | k + 1 => by
    have ih0 := lazycref09_component.mono_l k
    · intro y0 y1 y2 y3 y4
      unfold lazycref09_component.l0
      repeat' first
      | (with_reducible exact ih0 _ _ _ _ _)
      | (with_reducible exact lazycref09_Reach.mono _ _ _)
      | (with_reducible exact lazycref09_has.mono _ _ _)
      | (with_reducible exact LeO.refl _)
      | (with_reducible exact LeO.none _)
      | (with_reducible refine LeO.ite ?_ ?_)
      | (with_reducible refine LeO.bind ?_ (fun _ => ?_))
      | exact ih0 _ _ _ _ _
      | exact lazycref09_Reach.mono _ _ _
      | exact lazycref09_has.mono _ _ _
      | exact LeO.none _
      | refine LeO.ite ?_ ?_
      | refine LeO.bind ?_ (fun _ => ?_)
theorem lazycref09_component.mono : ∀ a0 a1 k, LeO (lazycref09_component.f k a0 a1) (lazycref09_component.f (k + 1) a0 a1) := by
  intro a0 a1 k
  have ih0 := lazycref09_component.mono_l k
  unfold lazycref09_component.f
  repeat' first
      | (with_reducible exact ih0 _ _ _ _ _)
      | (with_reducible exact lazycref09_Reach.mono _ _ _)
      | (with_reducible exact lazycref09_has.mono _ _ _)
      | (with_reducible exact LeO.refl _)
      | (with_reducible exact LeO.none _)
      | (with_reducible refine LeO.ite ?_ ?_)
      | (with_reducible refine LeO.bind ?_ (fun _ => ?_))
      | exact ih0 _ _ _ _ _
      | exact lazycref09_Reach.mono _ _ _
      | exact lazycref09_has.mono _ _ _
      | exact LeO.none _
      | refine LeO.ite ?_ ?_
      | refine LeO.bind ?_ (fun _ => ?_)
noncomputable def lazycref09_component.T6 : Bool × List (List Nat × List Nat) := (true, [([], []), ([], []), ([], []), ([1, 2], [1, 2]), ([3], [3]), ([0, 4], [0, 4]), ([], []), ([5, 6, 5], [5, 6])])
noncomputable def lazycref09_component.B6 : List Nat := [0, 0, 0, 6, 14, 31, 0, 127]
theorem lazycref09_component.tab6 : rtab .any (opsOf Try.f29 6) = lazycref09_component.T6 := by kernel_rfl
theorem lazycref09_component.bits6 : waitsOk lazycref09_component.T6.2 lazycref09_component.B6 = true := by kernel_rfl
set_option maxHeartbeats 8000000 in
set_option maxRecDepth 100000 in
theorem lazycref09_component.calls (k : Nat) (A0_0 : Option Addr) (c0_0 : Nat) (l0_0 : List (List Int)) (a1 : Int) (r : List Int) (w : World) (hr0_0 : Kd.C (Kd.slice 3 (Kd.int .i64)) w A0_0 l0_0.length l0_0) (hc0_0 : l0_0.length ≤ c0_0) (h : lazycref09_component.f k l0_0 a1 = some r) :
    Calls Try.prog 29 #[.agg #[.slice A0_0 l0_0.length c0_0], .int .i64 a1] w fun e w' => ∃ v0_ : Value, e = .returned (v0_) ∧ Kd.R (Kd.int .i64) 3 w' w.heap.size (fun _ => True) v0_ r ∧ Below w.heap.size w w' := by
  have hu24 := Try.underlying24
  have HR0_0 := aM hr0_0
  have HC0_0 := aM hc0_0
  clear hr0_0 hc0_0
  have HB := aM (Below.refl w.heap.size w)
  have H : ((lazycref09_Reach.f k l0_0 a1).bind fun t222 => (lazycref09_component.l0 k a1 (([] : List Int)) t222 0 l0_0)) = some r := h
  clear h
  obtain ⟨y219, hy219⟩ : ∃ y_ : List Int, y_ = (([] : List Int)) := ⟨_, rfl⟩
  replace H : ((lazycref09_Reach.f k l0_0 a1).bind fun t222 => (lazycref09_component.l0 k a1 y219 t222 0 l0_0)) = some r := by first | (rw [hy219]; with_reducible exact H) | (have H2_ := (Option.bind_some _ _).symm.trans H; rw [hy219]; with_reducible exact H2_) | (have H2_ := (Option.bind_some _ _).symm.trans H; with_reducible exact H2_) | with_reducible exact H | (rw [hy219]; exact H) | exact H
  have Ny219 := aM hy219
  clear hy219
  replace H := Option.bind_eq_some_iff.mp H
  obtain ⟨t222, A30, H⟩ := H
  replace H : (lazycref09_component.l0 k a1 y219 t222 0 l0_0) = some r := H
  have A3 := aM A30
  clear A30
  have H' := aM H
  clear H
  go_enter Try.func29, Try.ntmps29
  go_wp2_with (first | ((with_reducible refine gate_dst (N := 2) rfl ?_); refine box_event ?hg (N := 2) ?hd (cs := #[.slice A0_0 l0_0.length c0_0]) (t := 24) ?hr ?_; (case hd => rfl); (case hg => rfl); (case hr => first | (go_simp; done) | (go_simp; rfl)); intro gb218 hg w4 hbox hb; have n0_ := aM (below_step (by repeat (first | (with_reducible first | exact HB.out | apply bA | apply bN | apply bD) | exact HB.out)) hb); have n1_ := aM (hbox); have n2_ := aM ((by rw [hg]; exact (below_size (by repeat (first | (with_reducible first | exact HB.out | apply bA | apply bN | apply bD) | exact HB.out))) : w.heap.size ≤ gb218)); have n3_ := aM ((by rw [hg]; exact (below_size (by repeat (first | (with_reducible first | exact HB.out | apply bA | apply bN | apply bD) | exact HB.out))) : w.heap.size ≤ gb218)); clear HB; have HB := n0_; have BK218 := n1_; have GW218 := n2_; have GE218 := n3_; clear n0_ n1_ n2_ n3_; clear hb hbox hg) | ((with_reducible refine gate_dst (N := 8) rfl ?_); refine Kd.R_lit (Kd.int .i64) _ 3 ?hg (N := 8) ?hd (xs := ([] : List Int)) (inner := []) (ok := fun _ => True) (okp := fun _ => True) ?hr ?hp (fun _ hk => hk) trivial (Below.refl _ _) (Nat.le_refl _) (by simp) ?_; (case hd => rfl); (case hg => rfl); (case hr => first | (go_simp; done) | (go_simp; rfl)); (case hp => exact (Reps.none _ _)); intro v220 w5 ho6 hb hg_ hnew_; clear hg_ hnew_; (first | rw [← Ny219.out] at ho6 | (simp only [Int.reduceToNat] at ho6; rw [← Ny219.out] at ho6)); have n0_ := aM (Kd.R_lower ho6 (below_size (by repeat (first | (with_reducible first | exact HB.out | apply bA | apply bN | apply bD | refine below_set ?_ GE218.out) | exact HB.out)))); have n1_ := aM (blk_below (g := gb218) (o := .cells #[.slice A0_0 l0_0.length c0_0] 24 (0, 0)) (by (with_reducible repeat (first | refine kN ?_ _ | refine kD ?_ | refine kA ?_ _)); exact BK218.out) hb); have n2_ := aM (below_step (by repeat (first | (with_reducible first | exact HB.out | apply bA | apply bN | apply bD | refine below_set ?_ GE218.out) | exact HB.out)) hb); clear BK218; clear HB; have HO221 := n0_; have BK218 := n1_; have HB := n2_; clear n0_ n1_ n2_; clear hb ho6; have hcz7_0 : w5.cell? ⟨gb218, 0, none⟩ = some (.slice A0_0 l0_0.length c0_0) := (blk_cell BK218.out 0).trans rfl; have hfz7_0 := blk_frozen BK218.out 0) | ((with_reducible refine gate_callee (f := 19) rfl ?_); refine goesL_ (some 11) rfl rfl Try.func19 (by kernel_rfl) rfl #[.agg #[.slice A0_0 l0_0.length c0_0], .int .i64 a1] rfl (by (try simp only [List.map_toArray, List.map_cons, List.map_nil]); first | done | rfl | (simp only [List.length_drop, List.length_take]; rfl)) ?_; (with_reducible refine (lazycref09_Reach.calls k _ _ l0_0 a1 t222 _ ?side1 ?side2 A3.out).mono ?_); (case side1 => repeat (first | exact (Kd.C_below HR0_0.out HB.out) | (with_reducible refine Kd.C_alloc ?_ _) | (with_reducible refine Kd.C_drewN ?_ _) | (with_reducible refine Kd.C_drew ?_))); (case side2 => exact HC0_0.out); rintro e w8 ⟨v223, rfl, ho0, hb⟩; refine ⟨_, rfl, ?_⟩; have n0_ := aM (Kd.R_elder' (by (with_reducible repeat (first | apply Kd.R_alloc | apply Kd.R_drewN | apply Kd.R_drew)); exact HO221.out) (Kd.R_base ho0) hb); have n1_ := aM (Kd.R_lower (Kd.R_new' ho0 (Kd.R_lt (by (with_reducible repeat (first | apply Kd.R_alloc | apply Kd.R_drewN | apply Kd.R_drew)); exact HO221.out))) (below_size (by repeat (first | (with_reducible first | exact HB.out | apply bA | apply bN | apply bD | refine below_set ?_ GE218.out) | exact HB.out)))); have n2_ := aM (blk_below (g := gb218) (o := .cells #[.slice A0_0 l0_0.length c0_0] 24 (0, 0)) (by (with_reducible repeat (first | refine kN ?_ _ | refine kD ?_ | refine kA ?_ _)); exact BK218.out) hb); have n3_ := aM (below_step (by repeat (first | (with_reducible first | exact HB.out | apply bA | apply bN | apply bD | refine below_set ?_ GE218.out) | exact HB.out)) hb); clear HO221; clear BK218; clear HB; have HO221 := n0_; have HO224 := n1_; have BK218 := n2_; have HB := n3_; clear n0_ n1_ n2_ n3_; (try clear hb); (try clear hb2); (try clear hk); (try clear hi); (try clear ho0)))
  go_loopg [5, 7] k (fun kq v5 v7 w' => ∃ (x5_1 : List Int) (x7_1 : Int), v7 = .int .i64 x7_1 ∧ Aside0 (lazycref09_component.l0 kq a1 x5_1 t222 x7_1 l0_0 = some r) ∧ Aside0 (kq ≤ k) ∧ Aside0 (Kd.R (Kd.int .i64) 3 w' w.heap.size (fun k_ => some k_ ≠ (v223 : Value).ownBlock) v5 x5_1) ∧ Aside0 (Kd.R (Kd.int .i64) 3 w' w.heap.size (fun k_ => some k_ ≠ (v5 : Value).ownBlock) v223 t222) ∧ Aside0 (w'.heap[gb218]? = some (.cells #[(.slice A0_0 l0_0.length c0_0)] 24 (0, 0))) ∧ Aside0 (Below w.heap.size w w'))
  case atStart => exact ⟨(y219), (0), (by first | rfl | (simp; done) | (simp [*]; done)), H', ⟨Nat.le_refl _⟩, ⟨by (with_reducible repeat (first | apply Kd.R_alloc | apply Kd.R_drewN | apply Kd.R_drew)); exact Kd.R_mono HO221.out (fun _ hk => hk.2)⟩, ⟨by (with_reducible repeat (first | apply Kd.R_alloc | apply Kd.R_drewN | apply Kd.R_drew)); exact Kd.R_mono HO224.out (fun _ hk => hk.2)⟩, ⟨by (with_reducible repeat (first | refine kN ?_ _ | refine kD ?_ | refine kA ?_ _)); exact BK218.out⟩, ⟨by repeat (first | (with_reducible first | exact HB.out | apply bA | apply bN | apply bD | refine below_set ?_ GE218.out) | exact HB.out)⟩⟩
  case round =>
    clear H'
    try clear c1
    try clear c2
    try clear p2
    try clear hcz7_0
    try clear hfz7_0
    obtain ⟨x5_1, x7_1, rfl, HA, HK1, HO_5, HO_6, BK218, HB⟩ := hrel
    cases gk with
    | zero => exact absurd HA.out (by simp [lazycref09_component.l0])
    | succ k1 =>
      have H := HA.out
      clear HA
      simp only [lazycref09_component.l0] at H
      by_cases c9 : x7_1 < (t222.length : Int)
      · rw [if_pos c9] at H
        have c9b0 : decide (x7_1 < (t222.length : Int)) = true := decide_eq_true c9
        clear c9
        by_cases c10 : 0 ≤ x7_1
        · rw [if_pos c10] at H
          have c10b0 : decide (0 ≤ x7_1) = true := decide_eq_true c10
          clear c10
          replace H := Option.bind_eq_some_iff.mp H
          obtain ⟨t226, A110, H⟩ := H
          replace H : ((lazycref09_has.f k1 t226 a1).bind fun t229 => (if t229 = true then (if x5_1.length < 17592186044416 then (lazycref09_component.l0 k1 a1 (x5_1 ++ [rd t222 x7_1]) t222 (wrap64 (x7_1 + 1)) l0_0) else (none)) else (lazycref09_component.l0 k1 a1 x5_1 t222 (wrap64 (x7_1 + 1)) l0_0))) = some r := H
          have A11 := aM A110
          clear A110
          replace H := Option.bind_eq_some_iff.mp H
          obtain ⟨t229, A120, H⟩ := H
          replace H : (if t229 = true then (if x5_1.length < 17592186044416 then (lazycref09_component.l0 k1 a1 (x5_1 ++ [rd t222 x7_1]) t222 (wrap64 (x7_1 + 1)) l0_0) else (none)) else (lazycref09_component.l0 k1 a1 x5_1 t222 (wrap64 (x7_1 + 1)) l0_0)) = some r := H
          have A12 := aM A120
          clear A120
          by_cases c13 : t229 = true
          · subst c13
            have H1 : (if x5_1.length < 17592186044416 then (lazycref09_component.l0 k1 a1 (x5_1 ++ [rd t222 x7_1]) t222 (wrap64 (x7_1 + 1)) l0_0) else (none)) = some r := by rw [if_pos rfl] at H; exact H
            clear H
            have H := H1
            clear H1
            by_cases c14 : x5_1.length < 17592186044416
            · rw [if_pos c14] at H
              have LMc14 := aM c14
              clear c14
              obtain ⟨y231, hy231⟩ : ∃ y_ : List Int, y_ = (x5_1 ++ [rd t222 x7_1]) := ⟨_, rfl⟩
              replace H : (lazycref09_component.l0 k1 a1 y231 t222 (wrap64 (x7_1 + 1)) l0_0) = some r := by first | (rw [hy231]; with_reducible exact H) | (have H2_ := (Option.bind_some _ _).symm.trans H; rw [hy231]; with_reducible exact H2_) | (have H2_ := (Option.bind_some _ _).symm.trans H; with_reducible exact H2_) | with_reducible exact H | (rw [hy231]; exact H) | exact H
              have Ny231 := aM hy231
              clear hy231
              have H' := aM H
              clear H
              obtain ⟨Ao15, co15, eo15⟩ := Kd.R_slice HO_6.out
              subst eo15
              try go_wp2
              have n0_ := aM (Kd.R_drew HO_5.out)
              have n1_ := aM (Kd.R_drew HO_6.out)
              have n2_ := aM (blk_drew BK218.out)
              have n3_ := aM (below_drew1 HB.out)
              clear HO_5
              clear HO_6
              clear BK218
              clear HB
              have HO_5 := n0_
              have HO_6 := n1_
              have BK218 := n2_
              have HB := n3_
              clear n0_ n1_ n2_ n3_
              have p225 : 0 ≤ (x7_1 : Int) := of_decide_eq_true (by first | (with_reducible assumption) | assumption)
              have q225 : x7_1 < (t222.length : Int) := of_decide_eq_true (by first | (with_reducible assumption) | assumption)
              obtain ⟨ad225, e225, hx225_0⟩ := Kd.at_int (Kd.R_reads' HO_6.out).2.2 x7_1 p225 q225
              cases e225
              replace p225 := eq_true p225
              replace q225 := eq_true q225
              refine start_ (n := 8) (S := fun w' => w'.cell? ⟨gb218, 0, none⟩ = some (.slice A0_0 l0_0.length c0_0) ∧ w'.cell? (ad225.add (x7_1).toNat) = some (.int .i64 (rd t222 x7_1))) (ds := []) #[false, false, false, false, false, false, false, false] (by kernel_rfl) rfl rfl ⟨(blk_cell BK218.out 0).trans rfl, hx225_0⟩ (fun hHeld => ?_); refine with_tabW lazycref09_component.tab6 lazycref09_component.bits6 (fun HT_ HW_ => ?_)
              generalize wr.drew = w16 at HO_5 HO_6 BK218 HB hx225_0 hHeld ⊢
              refine pure_ (i := 1) (N := some 19) (v := ?_) (a' := ?_) #[false, true, false, false, false, false, false, false] rfl rfl (any_of HT_.out (by kernel_rfl)) (fun _ _ _ h => h) (Or.inl ⟨by rfl, ?_⟩) ?_ ?_
              rotate_left
              · intro w'
                go_simp
                with_reducible rfl
              rotate_left
              · simp only [Act.put, List.setIfInBounds_toArray, List.set_cons_zero, List.set_cons_succ, i64_w, i32_w]
                rfl
              refine pure_ (i := 2) (N := some 20) (v := ?_) (a' := ?_) #[false, true, true, false, false, false, false, false] rfl rfl (any_of HT_.out (by kernel_rfl)) (fun _ _ _ h => h) (Or.inl ⟨by rfl, ?_⟩) ?_ ?_
              rotate_left
              · intro w'
                go_simp
                with_reducible rfl
              rotate_left
              · simp only [Act.put, List.setIfInBounds_toArray, List.set_cons_zero, List.set_cons_succ, i64_w, i32_w]
                rfl
              refine pure_ (i := 3) (N := some 21) (v := ?_) (a' := ?_) #[false, true, true, true, false, false, false, false] rfl rfl (any_of HT_.out (by kernel_rfl)) (fun _ _ _ h => h) (Or.inl ⟨by rfl, ?_⟩) ?_ ?_
              rotate_left
              · intro w'
                go_simp
                with_reducible rfl
              rotate_left
              · simp only [Act.put, List.setIfInBounds_toArray, List.set_cons_zero, List.set_cons_succ, i64_w, i32_w]
                rfl
              refine pure_ (i := 6) (N := some 24) (v := ?_) (a' := ?_) #[false, true, true, true, false, false, true, false] rfl rfl (any_of HT_.out (by kernel_rfl)) (fun _ _ _ h => h) (Or.inl ⟨by rfl, ?_⟩) ?_ ?_
              rotate_left
              · intro w'
                go_simp
                with_reducible rfl
              rotate_left
              · simp only [Act.put, List.setIfInBounds_toArray, List.set_cons_zero, List.set_cons_succ, i64_w, i32_w]
                rfl
              refine take_ (i := 0) (N := some 18) (v := ?_) (a' := ?_) #[true, true, true, true, false, false, true, false] rfl rfl (take_ofW HT_.out HW_.out (by kernel_rfl)) (fun _ _ _ h => h) (Or.inl ⟨by rfl, ?_⟩) hHeld ?_ ?_
              rotate_left
              · rintro w' ⟨s0, s1⟩
                go_simp
                with_reducible rfl
              rotate_left
              · simp only [Act.put, List.setIfInBounds_toArray, List.set_cons_zero, List.set_cons_succ, i64_w, i32_w]
                rfl
              refine take_ (i := 4) (N := some 22) (v := ?_) (a' := ?_) #[true, true, true, true, true, false, true, false] rfl rfl (take_ofW HT_.out HW_.out (by kernel_rfl)) (fun _ _ _ h => h) (Or.inl ⟨by rfl, ?_⟩) hHeld ?_ ?_
              rotate_left
              · rintro w' ⟨s0, s1⟩
                go_simp
                with_reducible rfl
              rotate_left
              · simp only [Act.put, List.setIfInBounds_toArray, List.set_cons_zero, List.set_cons_succ, i64_w, i32_w]
                rfl
              refine one_ (i := 5) (N := some 23) #[true, true, true, true, true, true, true, false] rfl rfl (one_of HT_.out (by kernel_rfl)) (by decide) (fun K hK => ?_)
              refine goes_ Try.func19 (by kernel_rfl) rfl #[.agg #[.slice A0_0 l0_0.length c0_0], .int .i64 (rd t222 x7_1)] (by rfl) rfl rfl (by (try simp only [List.map_toArray, List.map_cons, List.map_nil]); first | done | rfl | (simp only [List.length_drop, List.length_take]; rfl)) ?_
              with_reducible refine (lazycref09_Reach.calls k1 _ _ l0_0 (rd t222 x7_1) t226 _ ?side1 ?side2 A11.out).mono ?_
              (case side1 => repeat (first | exact (Kd.C_below HR0_0.out HB.out) | (with_reducible refine Kd.C_alloc ?_ _) | (with_reducible refine Kd.C_drewN ?_ _) | (with_reducible refine Kd.C_drew ?_)))
              (case side2 => exact HC0_0.out)
              rintro e w17 ⟨v227, rfl, ho0, hb⟩
              have HS1_ := (hb.cell (World.block_lt_of_cell? _ _ (hHeld.2))).trans (hHeld.2)
              refine ⟨_, rfl, ?_⟩
              have n0_ := aM (Kd.R_elder' (by (with_reducible repeat (first | apply Kd.R_alloc | apply Kd.R_drewN | apply Kd.R_drew)); exact HO_5.out) (Kd.R_base ho0) hb)
              have n1_ := aM (Kd.R_elder' (by (with_reducible repeat (first | apply Kd.R_alloc | apply Kd.R_drewN | apply Kd.R_drew)); exact HO_6.out) (Kd.R_base ho0) hb)
              have n2_ := aM (Kd.R_lower (Kd.R_new' (Kd.R_new' ho0 (Kd.R_lt (by (with_reducible repeat (first | apply Kd.R_alloc | apply Kd.R_drewN | apply Kd.R_drew)); exact HO_5.out))) (Kd.R_lt (by (with_reducible repeat (first | apply Kd.R_alloc | apply Kd.R_drewN | apply Kd.R_drew)); exact HO_6.out))) (below_size (by repeat (first | (with_reducible first | exact HB.out | apply bA | apply bN | apply bD | refine below_set ?_ GE218.out) | exact HB.out))))
              have n3_ := aM (blk_below (g := gb218) (o := .cells #[.slice A0_0 l0_0.length c0_0] 24 (0, 0)) (by (with_reducible repeat (first | refine kN ?_ _ | refine kD ?_ | refine kA ?_ _)); exact BK218.out) hb)
              have n4_ := aM (below_step (by repeat (first | (with_reducible first | exact HB.out | apply bA | apply bN | apply bD | refine below_set ?_ GE218.out) | exact HB.out)) hb)
              clear HO_5
              clear HO_6
              clear BK218
              clear HB
              have HO_5 := n0_
              have HO_6 := n1_
              have HO228 := n2_
              have BK218 := n3_
              have HB := n4_
              clear n0_ n1_ n2_ n3_ n4_
              (try clear hb)
              (try clear hb2)
              (try clear hk)
              (try clear hi)
              (try clear ho0)
              obtain ⟨Ao18, co18, eo18⟩ := Kd.R_slice HO228.out
              (first | subst eo18 | (injection eo18 with f1_ f2_ f3_; have f4_ := f1_.symm; have f5_ := f3_.symm; clear f1_ f2_ f3_; subst f4_; subst f5_))
              refine hK.out _ _ ⟨(blk_cell BK218.out 0).trans rfl, HS1_⟩ (fun hHeld => ?_)
              clear hK K
              refine norm_ (a' := ?_) ?_ ?_
              rotate_left
              · show Act.put _ (some 23) _ = _
                simp only [Act.put, List.setIfInBounds_toArray, List.set_cons_zero, List.set_cons_succ, i64_w, i32_w]
                rfl
              refine one_ (i := 7) (N := some 25) #[true, true, true, true, true, true, true, true] rfl rfl (one_of HT_.out (by kernel_rfl)) (by decide) (fun K hK => ?_)
              refine goes_ Try.func41 (by kernel_rfl) rfl #[.slice Ao18 t226.length co18, .int .i64 a1] (by rfl) rfl rfl (by (try simp only [List.map_toArray, List.map_cons, List.map_nil]); first | done | rfl | (simp only [List.length_drop, List.length_take]; rfl)) ?_
              with_reducible refine (lazycref09_has.calls k1 _ _ t226 a1 true _ ?side1 ?side2 A12.out).mono ?_
              (case side1 => repeat (first | exact (Kd.R_reads' HO228.out).2.2 | (with_reducible refine Kd.C_alloc ?_ _) | (with_reducible refine Kd.C_drewN ?_ _) | (with_reducible refine Kd.C_drew ?_)))
              (case side2 => exact (Kd.R_reads' HO228.out).2.1)
              rintro e w' ⟨rfl, ⟨nd, rfl⟩⟩
              refine ⟨_, rfl, ?_⟩
              refine hK.out _ _ ⟨(blk_cell BK218.out 0).trans rfl, hHeld.2⟩ (fun hHeld => ?_)
              clear hK K
              refine norm_ (a' := ?_) ?_ ?_
              rotate_left
              · show Act.put _ (some 25) _ = _
                simp only [Act.put, List.setIfInBounds_toArray, List.set_cons_zero, List.set_cons_succ, i64_w, i32_w]
                rfl
              refine done_ (done_of HT_.out (by kernel_rfl)) ?_
              have p230 : 0 ≤ (x7_1 : Int) := of_decide_eq_true (by first | (with_reducible assumption) | assumption)
              have q230 : x7_1 < (t222.length : Int) := of_decide_eq_true (by first | (with_reducible assumption) | assumption)
              obtain ⟨ad230, e230, hx230_0⟩ := Kd.at_int (Kd.R_reads' HO_6.out).2.2 x7_1 p230 q230
              obtain rfl : ad225 = ad230 := (by injection e230)
              replace p230 := eq_true p230
              replace q230 := eq_true q230
              try go_wp2_with (first | ((with_reducible refine gate_builtin (b := .append) (xs := #[.tmp 26, .tmp 31]) rfl ?_); at_builtin; refine Kd.R_append (Kd.int .i64) (w0 := w) w.heap.size rfl (.tmp 26) (.tmp 31) 32 3 (.int .i64 0) 8 rfl Try.underlying32 info3 rfl (by decide) (by omega) u5 x5_1 (rd t222 x7_1) [.int .i64 (rd t222 x7_1)] (fun k_ => some k_ ≠ (.slice (some ad225) t222.length co15 : Value).ownBlock ∧ some k_ ≠ (.slice Ao18 t226.length co18 : Value).ownBlock) (fun _ => False) rfl rfl ?aP (fun _ hk => hk.elim) ?aF ?aO ?aB ?aS ?aL ?_; (case aP => exact rfl); (case aB => exact (by repeat (first | (with_reducible first | exact HB.out | apply bA | apply bN | apply bD | refine below_set ?_ GE218.out) | exact HB.out))); (case aF => exact (fun k_ hk => ⟨Kd.fresh' (Kd.R_lt (by (with_reducible repeat (first | apply Kd.R_alloc | apply Kd.R_drewN | apply Kd.R_drew)); exact HO_6.out)) k_ hk, Kd.fresh' (Kd.R_lt (by (with_reducible repeat (first | apply Kd.R_alloc | apply Kd.R_drewN | apply Kd.R_drew)); exact HO228.out)) k_ hk⟩)); (case aO => exact (by (with_reducible repeat (first | apply Kd.R_alloc | apply Kd.R_drewN | apply Kd.R_drew)); exact HO_5.out)); (case aS => exact (below_size (by repeat (first | (with_reducible first | exact HB.out | apply bA | apply bN | apply bD | refine below_set ?_ GE218.out) | exact HB.out)))); (case aL => have := LMc14.out; omega); intro v232 w19 ho hb hg hat; rw [← Ny231.out] at ho; have n0_ := aM (Kd.R_after (ok := (fun k_ => some k_ ≠ (.slice Ao18 t226.length co18 : Value).ownBlock)) (by (with_reducible repeat (first | apply Kd.R_alloc | apply Kd.R_drewN | apply Kd.R_drew)); exact Kd.R_mono HO_6.out (fun _ hk => ⟨hk.2, hk.1⟩)) hg hat); have n1_ := aM (blk_grown (g := gb218) (o := .cells #[.slice A0_0 l0_0.length c0_0] 24 (0, 0)) (by (with_reducible repeat (first | refine kN ?_ _ | refine kD ?_ | refine kA ?_ _)); exact BK218.out) hg (Kd.R_ne HO_5.out BK218.out (by decide))); have n2_ := aM (Kd.R_after (ok := (fun k_ => some k_ ≠ (.slice (some ad225) t222.length co15 : Value).ownBlock)) (by (with_reducible repeat (first | apply Kd.R_alloc | apply Kd.R_drewN | apply Kd.R_drew)); exact Kd.R_mono HO228.out (fun _ hk => ⟨hk.2, hk.1.2⟩)) hg hat); have n3_ := aM (hb); have n4_ := aM (ho); clear HO_6; clear BK218; clear HO228; clear HB; clear HO_5; have HO_6 := n0_; have BK218 := n1_; have HO228 := n2_; have HB := n3_; have HO233 := n4_; clear n0_ n1_ n2_ n3_ n4_; clear ho hb hg hat))
              go_roundg k1
              case measure => have := HK1.out; omega
              case rel => exact ⟨(y231), (wrap64 (x7_1 + 1)), (by first | rfl | (simp; done) | (simp [*]; done)), H', ⟨by have := HK1.out; omega⟩, ⟨by (with_reducible repeat (first | apply Kd.R_alloc | apply Kd.R_drewN | apply Kd.R_drew)); exact Kd.R_mono HO233.out (fun _ hk => hk.1)⟩, ⟨by (with_reducible repeat (first | apply Kd.R_alloc | apply Kd.R_drewN | apply Kd.R_drew)); exact Kd.R_mono HO_6.out (fun _ hk => hk.2)⟩, ⟨by (with_reducible repeat (first | refine kN ?_ _ | refine kD ?_ | refine kA ?_ _)); exact BK218.out⟩, ⟨by repeat (first | (with_reducible first | exact HB.out | apply bA | apply bN | apply bD | refine below_set ?_ GE218.out) | exact HB.out)⟩⟩
            · rw [if_neg c14] at H
              exact absurd H (by simp)
          · replace c13 := Bool.eq_false_iff.mpr c13
            subst c13
            have H1 : (lazycref09_component.l0 k1 a1 x5_1 t222 (wrap64 (x7_1 + 1)) l0_0) = some r := by rw [if_neg (show ¬ (false = true) by decide)] at H; exact H
            clear H
            have H := H1
            clear H1
            have H' := aM H
            clear H
            obtain ⟨Ao20, co20, eo20⟩ := Kd.R_slice HO_6.out
            subst eo20
            try go_wp2
            have n0_ := aM (Kd.R_drew HO_5.out)
            have n1_ := aM (Kd.R_drew HO_6.out)
            have n2_ := aM (blk_drew BK218.out)
            have n3_ := aM (below_drew1 HB.out)
            clear HO_5
            clear HO_6
            clear BK218
            clear HB
            have HO_5 := n0_
            have HO_6 := n1_
            have BK218 := n2_
            have HB := n3_
            clear n0_ n1_ n2_ n3_
            have p225 : 0 ≤ (x7_1 : Int) := of_decide_eq_true (by first | (with_reducible assumption) | assumption)
            have q225 : x7_1 < (t222.length : Int) := of_decide_eq_true (by first | (with_reducible assumption) | assumption)
            obtain ⟨ad225, e225, hx225_0⟩ := Kd.at_int (Kd.R_reads' HO_6.out).2.2 x7_1 p225 q225
            cases e225
            replace p225 := eq_true p225
            replace q225 := eq_true q225
            refine start_ (n := 8) (S := fun w' => w'.cell? ⟨gb218, 0, none⟩ = some (.slice A0_0 l0_0.length c0_0) ∧ w'.cell? (ad225.add (x7_1).toNat) = some (.int .i64 (rd t222 x7_1))) (ds := []) #[false, false, false, false, false, false, false, false] (by kernel_rfl) rfl rfl ⟨(blk_cell BK218.out 0).trans rfl, hx225_0⟩ (fun hHeld => ?_); refine with_tabW lazycref09_component.tab6 lazycref09_component.bits6 (fun HT_ HW_ => ?_)
            generalize wr.drew = w21 at HO_5 HO_6 BK218 HB hx225_0 hHeld ⊢
            refine pure_ (i := 1) (N := some 19) (v := ?_) (a' := ?_) #[false, true, false, false, false, false, false, false] rfl rfl (any_of HT_.out (by kernel_rfl)) (fun _ _ _ h => h) (Or.inl ⟨by rfl, ?_⟩) ?_ ?_
            rotate_left
            · intro w'
              go_simp
              with_reducible rfl
            rotate_left
            · simp only [Act.put, List.setIfInBounds_toArray, List.set_cons_zero, List.set_cons_succ, i64_w, i32_w]
              rfl
            refine pure_ (i := 2) (N := some 20) (v := ?_) (a' := ?_) #[false, true, true, false, false, false, false, false] rfl rfl (any_of HT_.out (by kernel_rfl)) (fun _ _ _ h => h) (Or.inl ⟨by rfl, ?_⟩) ?_ ?_
            rotate_left
            · intro w'
              go_simp
              with_reducible rfl
            rotate_left
            · simp only [Act.put, List.setIfInBounds_toArray, List.set_cons_zero, List.set_cons_succ, i64_w, i32_w]
              rfl
            refine pure_ (i := 3) (N := some 21) (v := ?_) (a' := ?_) #[false, true, true, true, false, false, false, false] rfl rfl (any_of HT_.out (by kernel_rfl)) (fun _ _ _ h => h) (Or.inl ⟨by rfl, ?_⟩) ?_ ?_
            rotate_left
            · intro w'
              go_simp
              with_reducible rfl
            rotate_left
            · simp only [Act.put, List.setIfInBounds_toArray, List.set_cons_zero, List.set_cons_succ, i64_w, i32_w]
              rfl
            refine pure_ (i := 6) (N := some 24) (v := ?_) (a' := ?_) #[false, true, true, true, false, false, true, false] rfl rfl (any_of HT_.out (by kernel_rfl)) (fun _ _ _ h => h) (Or.inl ⟨by rfl, ?_⟩) ?_ ?_
            rotate_left
            · intro w'
              go_simp
              with_reducible rfl
            rotate_left
            · simp only [Act.put, List.setIfInBounds_toArray, List.set_cons_zero, List.set_cons_succ, i64_w, i32_w]
              rfl
            refine take_ (i := 0) (N := some 18) (v := ?_) (a' := ?_) #[true, true, true, true, false, false, true, false] rfl rfl (take_ofW HT_.out HW_.out (by kernel_rfl)) (fun _ _ _ h => h) (Or.inl ⟨by rfl, ?_⟩) hHeld ?_ ?_
            rotate_left
            · rintro w' ⟨s0, s1⟩
              go_simp
              with_reducible rfl
            rotate_left
            · simp only [Act.put, List.setIfInBounds_toArray, List.set_cons_zero, List.set_cons_succ, i64_w, i32_w]
              rfl
            refine take_ (i := 4) (N := some 22) (v := ?_) (a' := ?_) #[true, true, true, true, true, false, true, false] rfl rfl (take_ofW HT_.out HW_.out (by kernel_rfl)) (fun _ _ _ h => h) (Or.inl ⟨by rfl, ?_⟩) hHeld ?_ ?_
            rotate_left
            · rintro w' ⟨s0, s1⟩
              go_simp
              with_reducible rfl
            rotate_left
            · simp only [Act.put, List.setIfInBounds_toArray, List.set_cons_zero, List.set_cons_succ, i64_w, i32_w]
              rfl
            refine one_ (i := 5) (N := some 23) #[true, true, true, true, true, true, true, false] rfl rfl (one_of HT_.out (by kernel_rfl)) (by decide) (fun K hK => ?_)
            refine goes_ Try.func19 (by kernel_rfl) rfl #[.agg #[.slice A0_0 l0_0.length c0_0], .int .i64 (rd t222 x7_1)] (by rfl) rfl rfl (by (try simp only [List.map_toArray, List.map_cons, List.map_nil]); first | done | rfl | (simp only [List.length_drop, List.length_take]; rfl)) ?_
            with_reducible refine (lazycref09_Reach.calls k1 _ _ l0_0 (rd t222 x7_1) t226 _ ?side1 ?side2 A11.out).mono ?_
            (case side1 => repeat (first | exact (Kd.C_below HR0_0.out HB.out) | (with_reducible refine Kd.C_alloc ?_ _) | (with_reducible refine Kd.C_drewN ?_ _) | (with_reducible refine Kd.C_drew ?_)))
            (case side2 => exact HC0_0.out)
            rintro e w22 ⟨v227, rfl, ho0, hb⟩
            have HS1_ := (hb.cell (World.block_lt_of_cell? _ _ (hHeld.2))).trans (hHeld.2)
            refine ⟨_, rfl, ?_⟩
            have n0_ := aM (Kd.R_elder' (by (with_reducible repeat (first | apply Kd.R_alloc | apply Kd.R_drewN | apply Kd.R_drew)); exact HO_5.out) (Kd.R_base ho0) hb)
            have n1_ := aM (Kd.R_elder' (by (with_reducible repeat (first | apply Kd.R_alloc | apply Kd.R_drewN | apply Kd.R_drew)); exact HO_6.out) (Kd.R_base ho0) hb)
            have n2_ := aM (Kd.R_lower (Kd.R_new' (Kd.R_new' ho0 (Kd.R_lt (by (with_reducible repeat (first | apply Kd.R_alloc | apply Kd.R_drewN | apply Kd.R_drew)); exact HO_5.out))) (Kd.R_lt (by (with_reducible repeat (first | apply Kd.R_alloc | apply Kd.R_drewN | apply Kd.R_drew)); exact HO_6.out))) (below_size (by repeat (first | (with_reducible first | exact HB.out | apply bA | apply bN | apply bD | refine below_set ?_ GE218.out) | exact HB.out))))
            have n3_ := aM (blk_below (g := gb218) (o := .cells #[.slice A0_0 l0_0.length c0_0] 24 (0, 0)) (by (with_reducible repeat (first | refine kN ?_ _ | refine kD ?_ | refine kA ?_ _)); exact BK218.out) hb)
            have n4_ := aM (below_step (by repeat (first | (with_reducible first | exact HB.out | apply bA | apply bN | apply bD | refine below_set ?_ GE218.out) | exact HB.out)) hb)
            clear HO_5
            clear HO_6
            clear BK218
            clear HB
            have HO_5 := n0_
            have HO_6 := n1_
            have HO228 := n2_
            have BK218 := n3_
            have HB := n4_
            clear n0_ n1_ n2_ n3_ n4_
            (try clear hb)
            (try clear hb2)
            (try clear hk)
            (try clear hi)
            (try clear ho0)
            obtain ⟨Ao23, co23, eo23⟩ := Kd.R_slice HO228.out
            (first | subst eo23 | (injection eo23 with f1_ f2_ f3_; have f4_ := f1_.symm; have f5_ := f3_.symm; clear f1_ f2_ f3_; subst f4_; subst f5_))
            refine hK.out _ _ ⟨(blk_cell BK218.out 0).trans rfl, HS1_⟩ (fun hHeld => ?_)
            clear hK K
            refine norm_ (a' := ?_) ?_ ?_
            rotate_left
            · show Act.put _ (some 23) _ = _
              simp only [Act.put, List.setIfInBounds_toArray, List.set_cons_zero, List.set_cons_succ, i64_w, i32_w]
              rfl
            refine one_ (i := 7) (N := some 25) #[true, true, true, true, true, true, true, true] rfl rfl (one_of HT_.out (by kernel_rfl)) (by decide) (fun K hK => ?_)
            refine goes_ Try.func41 (by kernel_rfl) rfl #[.slice Ao23 t226.length co23, .int .i64 a1] (by rfl) rfl rfl (by (try simp only [List.map_toArray, List.map_cons, List.map_nil]); first | done | rfl | (simp only [List.length_drop, List.length_take]; rfl)) ?_
            with_reducible refine (lazycref09_has.calls k1 _ _ t226 a1 false _ ?side1 ?side2 A12.out).mono ?_
            (case side1 => repeat (first | exact (Kd.R_reads' HO228.out).2.2 | (with_reducible refine Kd.C_alloc ?_ _) | (with_reducible refine Kd.C_drewN ?_ _) | (with_reducible refine Kd.C_drew ?_)))
            (case side2 => exact (Kd.R_reads' HO228.out).2.1)
            rintro e w' ⟨rfl, ⟨nd, rfl⟩⟩
            refine ⟨_, rfl, ?_⟩
            refine hK.out _ _ ⟨(blk_cell BK218.out 0).trans rfl, hHeld.2⟩ (fun hHeld => ?_)
            clear hK K
            refine norm_ (a' := ?_) ?_ ?_
            rotate_left
            · show Act.put _ (some 25) _ = _
              simp only [Act.put, List.setIfInBounds_toArray, List.set_cons_zero, List.set_cons_succ, i64_w, i32_w]
              rfl
            refine done_ (done_of HT_.out (by kernel_rfl)) ?_
            try go_wp2
            go_roundg k1
            case measure => have := HK1.out; omega
            case rel => exact ⟨(x5_1), (wrap64 (x7_1 + 1)), (by first | rfl | (simp; done) | (simp [*]; done)), H', ⟨by have := HK1.out; omega⟩, ⟨by (with_reducible repeat (first | apply Kd.R_alloc | apply Kd.R_drewN | apply Kd.R_drew)); exact Kd.R_mono HO_5.out (fun _ hk => hk.1)⟩, ⟨by (with_reducible repeat (first | apply Kd.R_alloc | apply Kd.R_drewN | apply Kd.R_drew)); exact Kd.R_mono HO_6.out (fun _ hk => hk.1)⟩, ⟨by (with_reducible repeat (first | refine kN ?_ _ | refine kD ?_ | refine kA ?_ _)); exact BK218.out⟩, ⟨by repeat (first | (with_reducible first | exact HB.out | apply bA | apply bN | apply bD | refine below_set ?_ GE218.out) | exact HB.out)⟩⟩
        · rw [if_neg c10] at H
          exact absurd H (by simp)
      · rw [if_neg c9] at H
        have c9b0 : decide (x7_1 < (t222.length : Int)) = false := decide_eq_false c9
        clear c9
        obtain rfl := Option.some.inj H
        obtain ⟨Ao24, co24, eo24⟩ := Kd.R_slice HO_6.out
        subst eo24
        go_wp2
        go_ret
        exact ⟨_, by first | rfl | (simp [errW_none, errW_some] <;> rfl) | (simp [*, errW_none, errW_some] <;> rfl), by (with_reducible repeat (first | apply Kd.R_alloc | apply Kd.R_drewN | apply Kd.R_drew)); exact Kd.R_mono HO_5.out (fun _ hk => trivial), by repeat (first | (with_reducible first | exact HB.out | apply bA | apply bN | apply bD | refine below_set ?_ GE218.out) | exact HB.out)⟩

/-! ### lazycref09_ready: function 30 -/
noncomputable def lazycref09_ready.l0 : Nat → List Int → List Bool → List Int → Int → Option (Bool)
  | 0, _, _, _, _ => none
  | k + 1, x1, x2, x7, x8 => if x8 < (x7.length : Int) then (if 0 ≤ x8 then (if 0 ≤ (rd x7 x8) then (if (rd x7 x8) < (x2.length : Int) then (if (rdOf false x2 (rd x7 x8) = true) then (lazycref09_ready.l0 k x1 x2 x7 (wrap64 (x8 + 1))) else ((lazycref09_has.f k x1 (rd x7 x8)).bind fun t242 => (if t242 = true then (lazycref09_ready.l0 k x1 x2 x7 (wrap64 (x8 + 1))) else (some false)))) else (none)) else (none)) else (none)) else (some true)
noncomputable def lazycref09_ready.f (k : Nat) (l0_0 : List (List Int)) (l1 : List Int) (l2 : List Bool) : Option (Bool) := if 0 < (l1.length : Int) then ((lazycref09_Reach.f k l0_0 (rd l1 0)).bind fun t236 => (lazycref09_ready.l0 k l1 l2 t236 0)) else (none)
theorem lazycref09_ready.mono_l : ∀ k, (∀ y0 y1 y2 y3, LeO (lazycref09_ready.l0 k y0 y1 y2 y3) (lazycref09_ready.l0 (k + 1) y0 y1 y2 y3))
  | 0 => fun _ _ _ _ r h => by simp [lazycref09_ready.l0] at h
  | k + 1 => by
    have ih0 := lazycref09_ready.mono_l k
    · intro y0 y1 y2 y3
      unfold lazycref09_ready.l0
      repeat' first
      | (with_reducible exact ih0 _ _ _ _)
      | (with_reducible exact lazycref09_Reach.mono _ _ _)
      | (with_reducible exact lazycref09_has.mono _ _ _)
      | (with_reducible exact LeO.refl _)
      | (with_reducible exact LeO.none _)
      | (with_reducible refine LeO.ite ?_ ?_)
      | (with_reducible refine LeO.bind ?_ (fun _ => ?_))
      | exact ih0 _ _ _ _
      | exact lazycref09_Reach.mono _ _ _
      | exact lazycref09_has.mono _ _ _
      | exact LeO.none _
      | refine LeO.ite ?_ ?_
      | refine LeO.bind ?_ (fun _ => ?_)
theorem lazycref09_ready.mono : ∀ a0 a1 a2 k, LeO (lazycref09_ready.f k a0 a1 a2) (lazycref09_ready.f (k + 1) a0 a1 a2) := by
  intro a0 a1 a2 k
  have ih0 := lazycref09_ready.mono_l k
  unfold lazycref09_ready.f
  repeat' first
      | (with_reducible exact ih0 _ _ _ _)
      | (with_reducible exact lazycref09_Reach.mono _ _ _)
      | (with_reducible exact lazycref09_has.mono _ _ _)
      | (with_reducible exact LeO.refl _)
      | (with_reducible exact LeO.none _)
      | (with_reducible refine LeO.ite ?_ ?_)
      | (with_reducible refine LeO.bind ?_ (fun _ => ?_))
      | exact ih0 _ _ _ _
      | exact lazycref09_Reach.mono _ _ _
      | exact lazycref09_has.mono _ _ _
      | exact LeO.none _
      | refine LeO.ite ?_ ?_
      | refine LeO.bind ?_ (fun _ => ?_)
set_option maxHeartbeats 8000000 in
set_option maxRecDepth 100000 in
theorem lazycref09_ready.calls (k : Nat) (A0_0 : Option Addr) (c0_0 : Nat) (l0_0 : List (List Int)) (A1 : Option Addr) (c1 : Nat) (l1 : List Int) (A2 : Option Addr) (c2 : Nat) (l2 : List Bool) (r : Bool) (w : World) (hr0_0 : Kd.C (Kd.slice 3 (Kd.int .i64)) w A0_0 l0_0.length l0_0) (hc0_0 : l0_0.length ≤ c0_0) (hr1 : Kd.C (Kd.int .i64) w A1 l1.length l1) (hc1 : l1.length ≤ c1) (hr2 : Kd.C Kd.bool w A2 l2.length l2) (hc2 : l2.length ≤ c2) (h : lazycref09_ready.f k l0_0 l1 l2 = some r) :
    Calls Try.prog 30 #[.agg #[.slice A0_0 l0_0.length c0_0], .slice A1 l1.length c1, .slice A2 l2.length c2] w fun e w' => e = .returned (.bool r) ∧ Below w.heap.size w w' := by
  have hu24 := Try.underlying24
  have HR0_0 := aM hr0_0
  have HC0_0 := aM hc0_0
  clear hr0_0 hc0_0
  have HR1 := aM hr1
  have HC1 := aM hc1
  clear hr1 hc1
  have HR2 := aM hr2
  have HC2 := aM hc2
  clear hr2 hc2
  have HB := aM (Below.refl w.heap.size w)
  have H : (if 0 < (l1.length : Int) then ((lazycref09_Reach.f k l0_0 (rd l1 0)).bind fun t236 => (lazycref09_ready.l0 k l1 l2 t236 0)) else (none)) = some r := h
  clear h
  by_cases c4 : 0 < (l1.length : Int)
  · rw [if_pos c4] at H
    have c4b0 : decide (0 < (l1.length : Int)) = true := decide_eq_true c4
    have c4b1 : decide (0 < l1.length) = true := decide_eq_true (by omega)
    clear c4
    replace H := Option.bind_eq_some_iff.mp H
    obtain ⟨t236, A50, H⟩ := H
    replace H : (lazycref09_ready.l0 k l1 l2 t236 0) = some r := H
    have A5 := aM A50
    clear A50
    have H' := aM H
    clear H
    go_enter Try.func30, Try.ntmps30
    try go_wp2_with (first | ((with_reducible refine gate_dst (N := 3) rfl ?_); refine box_event ?hg (N := 3) ?hd (cs := #[.slice A0_0 l0_0.length c0_0]) (t := 24) ?hr ?_; (case hd => rfl); (case hg => rfl); (case hr => first | (go_simp; done) | (go_simp; rfl)); intro gb234 hg w6 hbox hb; have n0_ := aM (below_step (by repeat (first | (with_reducible first | exact HB.out | apply bA | apply bN | apply bD) | exact HB.out)) hb); have n1_ := aM (hbox); have n2_ := aM ((by rw [hg]; exact (below_size (by repeat (first | (with_reducible first | exact HB.out | apply bA | apply bN | apply bD) | exact HB.out))) : w.heap.size ≤ gb234)); have n3_ := aM ((by rw [hg]; exact (below_size (by repeat (first | (with_reducible first | exact HB.out | apply bA | apply bN | apply bD) | exact HB.out))) : w.heap.size ≤ gb234)); clear HB; have HB := n0_; have BK234 := n1_; have GW234 := n2_; have GE234 := n3_; clear n0_ n1_ n2_ n3_; clear hb hbox hg))
    have n0_ := aM (blk_drew BK234.out)
    have n1_ := aM (below_drew1 HB.out)
    clear BK234
    clear HB
    have BK234 := n0_
    have HB := n1_
    clear n0_ n1_
    have p235 : 0 ≤ (0 : Int) := (by omega)
    have q235 : 0 < (l1.length : Int) := of_decide_eq_true (by first | (with_reducible assumption) | assumption)
    obtain ⟨ad235, e235, hx235_0⟩ := Kd.at_int HR1.out 0 p235 q235
    have hw235_0 := hx235_0
    (try rw [show ((0 : Int)).toNat = 0 from rfl] at hw235_0)
    (try rw [show 0 * 1 = 0 from rfl] at hw235_0)
    (try rw [Addr.add_zero'] at hw235_0)
    cases e235
    have qi235 : (0 < l1.length) = True := eq_true (by omega)
    (try rw [show ((0 : Int)).toNat = 0 from rfl] at hx235_0)
    (try rw [Addr.add_zero'] at hx235_0)
    replace hx235_0 := (HB.out.cell (World.block_lt_of_cell? w _ hx235_0)).trans hx235_0
    replace p235 := eq_true p235
    replace q235 := eq_true q235
    refine start_ (n := 6) (S := fun w' => w'.cell? ⟨gb234, 0, none⟩ = some (.slice A0_0 l0_0.length c0_0) ∧ w'.cell? ad235 = some (.int .i64 (rd l1 0))) (ds := []) #[false, false, false, false, false, false] (by kernel_rfl) rfl rfl ⟨(blk_cell BK234.out 0).trans rfl, ((HB.out.cell (World.block_lt_of_cell? w _ hw235_0)).trans hw235_0)⟩ (fun hHeld => ?_)
    generalize w6.drew = w7 at BK234 HB hx235_0 hHeld ⊢
    refine pure_ (i := 1) (N := some 10) (v := ?_) (a' := ?_) #[false, true, false, false, false, false] rfl rfl (by kernel_rfl) (fun _ _ _ h => h) (Or.inl ⟨by rfl, ?_⟩) ?_ ?_
    rotate_left
    · intro w'
      go_simp
      with_reducible rfl
    rotate_left
    · simp only [Act.put, List.setIfInBounds_toArray, List.set_cons_zero, List.set_cons_succ, i64_w, i32_w]
      rfl
    refine pure_ (i := 2) (N := some 11) (v := ?_) (a' := ?_) #[false, true, true, false, false, false] rfl rfl (by kernel_rfl) (fun _ _ _ h => h) (Or.inl ⟨by rfl, ?_⟩) ?_ ?_
    rotate_left
    · intro w'
      go_simp
      with_reducible rfl
    rotate_left
    · simp only [Act.put, List.setIfInBounds_toArray, List.set_cons_zero, List.set_cons_succ, i64_w, i32_w]
      rfl
    refine take_ (i := 0) (N := some 9) (v := ?_) (a' := ?_) #[true, true, true, false, false, false] rfl rfl (by kernel_rfl) (fun _ _ _ h => h) (Or.inl ⟨by rfl, ?_⟩) hHeld ?_ ?_
    rotate_left
    · rintro w' ⟨s0, s1⟩
      go_simp
      with_reducible rfl
    rotate_left
    · simp only [Act.put, List.setIfInBounds_toArray, List.set_cons_zero, List.set_cons_succ, i64_w, i32_w]
      rfl
    refine take_ (i := 3) (N := some 12) (v := ?_) (a' := ?_) #[true, true, true, true, false, false] rfl rfl (by kernel_rfl) (fun _ _ _ h => h) (Or.inl ⟨by rfl, ?_⟩) hHeld ?_ ?_
    rotate_left
    · rintro w' ⟨s0, s1⟩
      go_simp
      with_reducible rfl
    rotate_left
    · simp only [Act.put, List.setIfInBounds_toArray, List.set_cons_zero, List.set_cons_succ, i64_w, i32_w]
      rfl
    refine one_ (i := 4) (N := some 13) #[true, true, true, true, true, false] rfl rfl (by kernel_rfl) (by decide) (fun K hK => ?_)
    refine goes_ Try.func19 (by kernel_rfl) rfl #[.agg #[.slice A0_0 l0_0.length c0_0], .int .i64 (rd l1 0)] (by rfl) rfl rfl (by (try simp only [List.map_toArray, List.map_cons, List.map_nil]); first | done | rfl | (simp only [List.length_drop, List.length_take]; rfl)) ?_
    with_reducible refine (lazycref09_Reach.calls k _ _ l0_0 (rd l1 0) t236 _ ?side1 ?side2 A5.out).mono ?_
    (case side1 => repeat (first | exact (Kd.C_below HR0_0.out HB.out) | (with_reducible refine Kd.C_alloc ?_ _) | (with_reducible refine Kd.C_drewN ?_ _) | (with_reducible refine Kd.C_drew ?_)))
    (case side2 => exact HC0_0.out)
    rintro e w8 ⟨v237, rfl, ho0, hb⟩
    refine ⟨_, rfl, ?_⟩
    have n0_ := aM (Kd.R_lower ho0 (below_size (by repeat (first | (with_reducible first | exact HB.out | apply bA | apply bN | apply bD | refine below_set ?_ GE234.out) | exact HB.out))))
    have n1_ := aM (blk_below (g := gb234) (o := .cells #[.slice A0_0 l0_0.length c0_0] 24 (0, 0)) (by (with_reducible repeat (first | refine kN ?_ _ | refine kD ?_ | refine kA ?_ _)); exact BK234.out) hb)
    have n2_ := aM (below_step (by repeat (first | (with_reducible first | exact HB.out | apply bA | apply bN | apply bD | refine below_set ?_ GE234.out) | exact HB.out)) hb)
    clear BK234
    clear HB
    have HO238 := n0_
    have BK234 := n1_
    have HB := n2_
    clear n0_ n1_ n2_
    (try clear hb)
    (try clear hb2)
    (try clear hk)
    (try clear hi)
    (try clear ho0)
    refine hK.out _ _ ⟨(blk_cell BK234.out 0).trans rfl, ((HB.out.cell (World.block_lt_of_cell? w _ hw235_0)).trans hw235_0)⟩ (fun hHeld => ?_)
    clear hK K
    refine norm_ (a' := ?_) ?_ ?_
    rotate_left
    · show Act.put _ (some 13) _ = _
      simp only [Act.put, List.setIfInBounds_toArray, List.set_cons_zero, List.set_cons_succ, i64_w, i32_w]
      rfl
    refine pure_ (i := 5) (N := some 7) (v := ?_) (a' := ?_) #[true, true, true, true, true, true] rfl rfl (by kernel_rfl) (fun _ _ _ h => h) (Or.inl ⟨by rfl, ?_⟩) ?_ ?_
    rotate_left
    · intro w'
      go_simp
      with_reducible rfl
    rotate_left
    · simp only [Act.put, List.setIfInBounds_toArray, List.set_cons_zero, List.set_cons_succ, i64_w, i32_w]
      rfl
    refine done_ (by kernel_rfl) ?_
    try go_wp2
    go_loopg [8] k (fun kq v8 w' => ∃ (x8_1 : Int), v8 = .int .i64 x8_1 ∧ Aside0 (lazycref09_ready.l0 kq l1 l2 t236 x8_1 = some r) ∧ Aside0 (kq ≤ k) ∧ Aside0 (Kd.R (Kd.int .i64) 3 w' w.heap.size (fun _ => True) v237 t236) ∧ Aside0 (w'.heap[gb234]? = some (.cells #[(.slice A0_0 l0_0.length c0_0)] 24 (0, 0))) ∧ Aside0 (Below w.heap.size w w'))
    case atStart => exact ⟨(0), (by first | rfl | (simp; done) | (simp [*]; done)), H', ⟨Nat.le_refl _⟩, ⟨by (with_reducible repeat (first | apply Kd.R_alloc | apply Kd.R_drewN | apply Kd.R_drew)); exact HO238.out⟩, ⟨by (with_reducible repeat (first | refine kN ?_ _ | refine kD ?_ | refine kA ?_ _)); exact BK234.out⟩, ⟨by repeat (first | (with_reducible first | exact HB.out | apply bA | apply bN | apply bD | refine below_set ?_ GE234.out) | exact HB.out)⟩⟩
    case round =>
      clear H'
      try clear c1
      try clear c2
      try clear p2
      try clear q2
      try clear hx2
      try clear qi2
      try clear c3
      try clear c4
      try clear c4b0
      try clear c4b1
      try clear hx235_0
      try clear p235
      try clear q235
      obtain ⟨x8_1, rfl, HA, HK1, HO_7, BK234, HB⟩ := hrel
      cases gk with
      | zero => exact absurd HA.out (by simp [lazycref09_ready.l0])
      | succ k1 =>
        have H := HA.out
        clear HA
        simp only [lazycref09_ready.l0] at H
        by_cases c9 : x8_1 < (t236.length : Int)
        · rw [if_pos c9] at H
          have c9b0 : decide (x8_1 < (t236.length : Int)) = true := decide_eq_true c9
          clear c9
          by_cases c10 : 0 ≤ x8_1
          · rw [if_pos c10] at H
            have c10b0 : decide (0 ≤ x8_1) = true := decide_eq_true c10
            clear c10
            by_cases c11 : 0 ≤ (rd t236 x8_1)
            · rw [if_pos c11] at H
              have c11b0 : decide (0 ≤ (rd t236 x8_1)) = true := decide_eq_true c11
              clear c11
              by_cases c12 : (rd t236 x8_1) < (l2.length : Int)
              · rw [if_pos c12] at H
                have c12b0 : decide ((rd t236 x8_1) < (l2.length : Int)) = true := decide_eq_true c12
                clear c12
                obtain ⟨bq13, hbq13⟩ : ∃ b_ : Bool, b_ = (rdOf false l2 (rd t236 x8_1)) := ⟨_, rfl⟩
                replace H : (if (bq13 = true) then (lazycref09_ready.l0 k1 l1 l2 t236 (wrap64 (x8_1 + 1))) else ((lazycref09_has.f k1 l1 (rd t236 x8_1)).bind fun t242 => (if t242 = true then (lazycref09_ready.l0 k1 l1 l2 t236 (wrap64 (x8_1 + 1))) else (some false)))) = some r := by rw [← hbq13] at H; exact H
                have Nbq13 := aM hbq13
                clear hbq13
                by_cases c14 : (bq13 = true)
                · subst c14
                  have H1 : (lazycref09_ready.l0 k1 l1 l2 t236 (wrap64 (x8_1 + 1))) = some r := by rw [if_pos rfl] at H; exact H
                  clear H
                  have H := H1
                  clear H1
                  have H' := aM H
                  clear H
                  obtain ⟨Ao15, co15, eo15⟩ := Kd.R_slice HO_7.out
                  subst eo15
                  have p239 : 0 ≤ (x8_1 : Int) := of_decide_eq_true (by first | (with_reducible assumption) | assumption)
                  have q239 : x8_1 < (t236.length : Int) := of_decide_eq_true (by first | (with_reducible assumption) | assumption)
                  obtain ⟨ad239, e239, hx239_0⟩ := Kd.at_int (Kd.R_reads' HO_7.out).2.2 x8_1 p239 q239
                  cases e239
                  replace p239 := eq_true p239
                  replace q239 := eq_true q239
                  have p240 : 0 ≤ ((rd t236 x8_1) : Int) := of_decide_eq_true (by first | (with_reducible assumption) | assumption)
                  have q240 : (rd t236 x8_1) < (l2.length : Int) := of_decide_eq_true (by first | (with_reducible assumption) | assumption)
                  obtain ⟨ad240, e240, hx240_0⟩ := Kd.at_bool HR2.out (rd t236 x8_1) p240 q240
                  (try rw [← Nbq13.out] at hx240_0)
                  cases e240
                  replace hx240_0 := (HB.out.cell (World.block_lt_of_cell? w _ hx240_0)).trans hx240_0
                  replace p240 := eq_true p240
                  replace q240 := eq_true q240
                  go_wp2
                  go_roundg k1
                  case measure => have := HK1.out; omega
                  case rel => exact ⟨(wrap64 (x8_1 + 1)), (by first | rfl | (simp; done) | (simp [*]; done)), H', ⟨by have := HK1.out; omega⟩, ⟨by (with_reducible repeat (first | apply Kd.R_alloc | apply Kd.R_drewN | apply Kd.R_drew)); exact HO_7.out⟩, ⟨by (with_reducible repeat (first | refine kN ?_ _ | refine kD ?_ | refine kA ?_ _)); exact BK234.out⟩, ⟨by repeat (first | (with_reducible first | exact HB.out | apply bA | apply bN | apply bD | refine below_set ?_ GE234.out) | exact HB.out)⟩⟩
                · replace c14 := Bool.eq_false_iff.mpr c14
                  subst c14
                  have H1 : ((lazycref09_has.f k1 l1 (rd t236 x8_1)).bind fun t242 => (if t242 = true then (lazycref09_ready.l0 k1 l1 l2 t236 (wrap64 (x8_1 + 1))) else (some false))) = some r := by rw [if_neg (show ¬ (false = true) by decide)] at H; exact H
                  clear H
                  have H := H1
                  clear H1
                  replace H := Option.bind_eq_some_iff.mp H
                  obtain ⟨t242, A160, H⟩ := H
                  replace H : (if t242 = true then (lazycref09_ready.l0 k1 l1 l2 t236 (wrap64 (x8_1 + 1))) else (some false)) = some r := H
                  have A16 := aM A160
                  clear A160
                  by_cases c17 : t242 = true
                  · subst c17
                    have H1 : (lazycref09_ready.l0 k1 l1 l2 t236 (wrap64 (x8_1 + 1))) = some r := by rw [if_pos rfl] at H; exact H
                    clear H
                    have H := H1
                    clear H1
                    have H' := aM H
                    clear H
                    obtain ⟨Ao18, co18, eo18⟩ := Kd.R_slice HO_7.out
                    subst eo18
                    have p239 : 0 ≤ (x8_1 : Int) := of_decide_eq_true (by first | (with_reducible assumption) | assumption)
                    have q239 : x8_1 < (t236.length : Int) := of_decide_eq_true (by first | (with_reducible assumption) | assumption)
                    obtain ⟨ad239, e239, hx239_0⟩ := Kd.at_int (Kd.R_reads' HO_7.out).2.2 x8_1 p239 q239
                    cases e239
                    replace p239 := eq_true p239
                    replace q239 := eq_true q239
                    have p240 : 0 ≤ ((rd t236 x8_1) : Int) := of_decide_eq_true (by first | (with_reducible assumption) | assumption)
                    have q240 : (rd t236 x8_1) < (l2.length : Int) := of_decide_eq_true (by first | (with_reducible assumption) | assumption)
                    obtain ⟨ad240, e240, hx240_0⟩ := Kd.at_bool HR2.out (rd t236 x8_1) p240 q240
                    (try rw [← Nbq13.out] at hx240_0)
                    cases e240
                    replace hx240_0 := (HB.out.cell (World.block_lt_of_cell? w _ hx240_0)).trans hx240_0
                    replace p240 := eq_true p240
                    replace q240 := eq_true q240
                    have p241 : 0 ≤ (x8_1 : Int) := of_decide_eq_true (by first | (with_reducible assumption) | assumption)
                    have q241 : x8_1 < (t236.length : Int) := of_decide_eq_true (by first | (with_reducible assumption) | assumption)
                    obtain ⟨ad241, e241, hx241_0⟩ := Kd.at_int (Kd.R_reads' HO_7.out).2.2 x8_1 p241 q241
                    obtain rfl : ad239 = ad241 := (by injection e241)
                    replace p241 := eq_true p241
                    replace q241 := eq_true q241
                    go_wp2_with (first | (go_at_call 41; (with_reducible refine (lazycref09_has.calls k1 _ _ l1 (rd t236 x8_1) true _ ?side1 ?side2 A16.out).mono ?_); (case side1 => repeat (first | exact (Kd.C_below HR1.out HB.out) | (with_reducible refine Kd.C_alloc ?_ _) | (with_reducible refine Kd.C_drewN ?_ _) | (with_reducible refine Kd.C_drew ?_))); (case side2 => exact HC1.out); rintro e w' ⟨rfl, ⟨nd, rfl⟩⟩))
                    go_roundg k1
                    case measure => have := HK1.out; omega
                    case rel => exact ⟨(wrap64 (x8_1 + 1)), (by first | rfl | (simp; done) | (simp [*]; done)), H', ⟨by have := HK1.out; omega⟩, ⟨by (with_reducible repeat (first | apply Kd.R_alloc | apply Kd.R_drewN | apply Kd.R_drew)); exact HO_7.out⟩, ⟨by (with_reducible repeat (first | refine kN ?_ _ | refine kD ?_ | refine kA ?_ _)); exact BK234.out⟩, ⟨by repeat (first | (with_reducible first | exact HB.out | apply bA | apply bN | apply bD | refine below_set ?_ GE234.out) | exact HB.out)⟩⟩
                  · replace c17 := Bool.eq_false_iff.mpr c17
                    subst c17
                    have H1 : (some false) = some r := by rw [if_neg (show ¬ (false = true) by decide)] at H; exact H
                    clear H
                    have H := H1
                    clear H1
                    obtain rfl := Option.some.inj H
                    obtain ⟨Ao19, co19, eo19⟩ := Kd.R_slice HO_7.out
                    subst eo19
                    have p239 : 0 ≤ (x8_1 : Int) := of_decide_eq_true (by first | (with_reducible assumption) | assumption)
                    have q239 : x8_1 < (t236.length : Int) := of_decide_eq_true (by first | (with_reducible assumption) | assumption)
                    obtain ⟨ad239, e239, hx239_0⟩ := Kd.at_int (Kd.R_reads' HO_7.out).2.2 x8_1 p239 q239
                    cases e239
                    replace p239 := eq_true p239
                    replace q239 := eq_true q239
                    have p240 : 0 ≤ ((rd t236 x8_1) : Int) := of_decide_eq_true (by first | (with_reducible assumption) | assumption)
                    have q240 : (rd t236 x8_1) < (l2.length : Int) := of_decide_eq_true (by first | (with_reducible assumption) | assumption)
                    obtain ⟨ad240, e240, hx240_0⟩ := Kd.at_bool HR2.out (rd t236 x8_1) p240 q240
                    (try rw [← Nbq13.out] at hx240_0)
                    cases e240
                    replace hx240_0 := (HB.out.cell (World.block_lt_of_cell? w _ hx240_0)).trans hx240_0
                    replace p240 := eq_true p240
                    replace q240 := eq_true q240
                    have p241 : 0 ≤ (x8_1 : Int) := of_decide_eq_true (by first | (with_reducible assumption) | assumption)
                    have q241 : x8_1 < (t236.length : Int) := of_decide_eq_true (by first | (with_reducible assumption) | assumption)
                    obtain ⟨ad241, e241, hx241_0⟩ := Kd.at_int (Kd.R_reads' HO_7.out).2.2 x8_1 p241 q241
                    obtain rfl : ad239 = ad241 := (by injection e241)
                    replace p241 := eq_true p241
                    replace q241 := eq_true q241
                    go_wp2_with (first | (go_at_call 41; (with_reducible refine (lazycref09_has.calls k1 _ _ l1 (rd t236 x8_1) false _ ?side1 ?side2 A16.out).mono ?_); (case side1 => repeat (first | exact (Kd.C_below HR1.out HB.out) | (with_reducible refine Kd.C_alloc ?_ _) | (with_reducible refine Kd.C_drewN ?_ _) | (with_reducible refine Kd.C_drew ?_))); (case side2 => exact HC1.out); rintro e w' ⟨rfl, ⟨nd, rfl⟩⟩))
                    go_ret
                    exact ⟨by first | rfl | (simp [errW_none, errW_some] <;> rfl) | (simp [*, errW_none, errW_some] <;> rfl), by repeat (first | (with_reducible first | exact HB.out | apply bA | apply bN | apply bD | refine below_set ?_ GE234.out) | exact HB.out)⟩
              · rw [if_neg c12] at H
                exact absurd H (by simp)
            · rw [if_neg c11] at H
              exact absurd H (by simp)
          · rw [if_neg c10] at H
            exact absurd H (by simp)
        · rw [if_neg c9] at H
          have c9b0 : decide (x8_1 < (t236.length : Int)) = false := decide_eq_false c9
          clear c9
          obtain rfl := Option.some.inj H
          obtain ⟨Ao20, co20, eo20⟩ := Kd.R_slice HO_7.out
          subst eo20
          go_wp2
          go_ret
          exact ⟨by first | rfl | (simp [errW_none, errW_some] <;> rfl) | (simp [*, errW_none, errW_some] <;> rfl), by repeat (first | (with_reducible first | exact HB.out | apply bA | apply bN | apply bD | refine below_set ?_ GE234.out) | exact HB.out)⟩
  · rw [if_neg c4] at H
    exact absurd H (by simp)

-- NOT PRINTED: function 13 (lazycref09_Components)

-- NOT PRINTED: function 3 (lazyclaw09_GraphComponents)

-- NOT PRINTED: function 32 (lazycref09_longest)

-- NOT PRINTED: function 15 (lazycref09_Levels)

-- NOT PRINTED: function 4 (lazyclaw09_GraphLevels)

end Go.Proofs.Ytpmjpngmmphkmaa.P
namespace Go.Proofs.Ytpmjpngmmphkmaa.P
open Go.RowKit Go.Proofs.YtpmjpngmmphkmaaW.PrintWords Go.Proofs.YtpmjpngmmphkmaaW.PrintLast Go.Proofs.YtpmjpngmmphkmaaW.PrintMore
attribute [local go_sem] max2_int min2_int max_two min_two max_three min_three max_four min_four   -- for this text's walks alone
set_option linter.unusedVariables false
set_option linter.unusedSimpArgs false

/-! ### lazyclaw09_has: function 22 -/
noncomputable def lazyclaw09_has.l0 : Nat → List Int → Int → Int → Option (Bool)
  | 0, _, _, _ => none
  | k + 1, x0, x1, x5 => if x5 < (x0.length : Int) then (if 0 ≤ x5 then (if (rd x0 x5) = x1 then (some true) else (lazyclaw09_has.l0 k x0 x1 (wrap64 (x5 + 1)))) else (none)) else (some false)
noncomputable def lazyclaw09_has.f (k : Nat) (l0 : List Int) (a1 : Int) : Option (Bool) := lazyclaw09_has.l0 k l0 a1 0
theorem lazyclaw09_has.mono_l : ∀ k, (∀ y0 y1 y2, LeO (lazyclaw09_has.l0 k y0 y1 y2) (lazyclaw09_has.l0 (k + 1) y0 y1 y2))
  | 0 => fun _ _ _ r h => by simp [lazyclaw09_has.l0] at h
  | k + 1 => by
    have ih0 := lazyclaw09_has.mono_l k
    · intro y0 y1 y2
      unfold lazyclaw09_has.l0
      repeat' first
      | (with_reducible exact ih0 _ _ _)
      | (with_reducible exact LeO.refl _)
      | (with_reducible exact LeO.none _)
      | (with_reducible refine LeO.ite ?_ ?_)
      | (with_reducible refine LeO.bind ?_ (fun _ => ?_))
      | exact ih0 _ _ _
      | exact LeO.none _
      | refine LeO.ite ?_ ?_
      | refine LeO.bind ?_ (fun _ => ?_)
theorem lazyclaw09_has.mono : ∀ a0 a1 k, LeO (lazyclaw09_has.f k a0 a1) (lazyclaw09_has.f (k + 1) a0 a1) := by
  intro a0 a1 k
  have ih0 := lazyclaw09_has.mono_l k
  unfold lazyclaw09_has.f
  repeat' first
      | (with_reducible exact ih0 _ _ _)
      | (with_reducible exact LeO.refl _)
      | (with_reducible exact LeO.none _)
      | (with_reducible refine LeO.ite ?_ ?_)
      | (with_reducible refine LeO.bind ?_ (fun _ => ?_))
      | exact ih0 _ _ _
      | exact LeO.none _
      | refine LeO.ite ?_ ?_
      | refine LeO.bind ?_ (fun _ => ?_)
set_option maxHeartbeats 8000000 in
set_option maxRecDepth 100000 in
theorem lazyclaw09_has.calls (k : Nat) (A0 : Option Addr) (c0 : Nat) (l0 : List Int) (a1 : Int) (r : Bool) (w : World) (hr0 : Kd.C (Kd.int .i64) w A0 l0.length l0) (hc0 : l0.length ≤ c0) (h : lazyclaw09_has.f k l0 a1 = some r) :
    Calls Try.prog 22 #[.slice A0 l0.length c0, .int .i64 a1] w fun e w' => e = .returned (.bool r) ∧ Drawn0 w w' := by
  have HR0 := aM hr0
  have HC0 := aM hc0
  clear hr0 hc0
  have H : (lazyclaw09_has.l0 k l0 a1 0) = some r := h
  clear h
  have H' := aM H
  clear H
  go_enter Try.func22, Try.ntmps22
  go_wp2
  go_loopg [5] k (fun kq v5 w' => ∃ (x5_1 : Int), v5 = .int .i64 x5_1 ∧ Aside0 (lazyclaw09_has.l0 kq l0 a1 x5_1 = some r) ∧ Aside0 (kq ≤ k) ∧ Drawn0 w w')
  case atStart => exact ⟨(0), (by first | rfl | (simp; done) | (simp [*]; done)), H', ⟨Nat.le_refl _⟩, by repeat (first | exact Drawn0.refl _ | apply Drawn0.step)⟩
  case round =>
    clear H'
    try clear c2
    try clear p2
    obtain ⟨x5_1, rfl, HA, HK1, ⟨m1, rfl⟩⟩ := hrel
    cases gk with
    | zero => exact absurd HA.out (by simp [lazyclaw09_has.l0])
    | succ k1 =>
      have H := HA.out
      clear HA
      simp only [lazyclaw09_has.l0] at H
      by_cases c3 : x5_1 < (l0.length : Int)
      · rw [if_pos c3] at H
        have c3b0 : decide (x5_1 < (l0.length : Int)) = true := decide_eq_true c3
        clear c3
        by_cases c4 : 0 ≤ x5_1
        · rw [if_pos c4] at H
          have c4b0 : decide (0 ≤ x5_1) = true := decide_eq_true c4
          clear c4
          by_cases c5 : (rd l0 x5_1) = a1
          · rw [if_pos c5] at H
            have c5b0 : ((rd l0 x5_1) == a1) = true := beq_iff_eq.mpr c5
            have c5b1 : ((rd l0 x5_1) != a1) = false := bne_eq_false_iff_eq.mpr c5
            clear c5
            obtain rfl := Option.some.inj H
            have p308 : 0 ≤ (x5_1 : Int) := of_decide_eq_true (by first | (with_reducible assumption) | assumption)
            have q308 : x5_1 < (l0.length : Int) := of_decide_eq_true (by first | (with_reducible assumption) | assumption)
            obtain ⟨ad308, e308, hx308_0⟩ := Kd.at_int HR0.out x5_1 p308 q308
            cases e308
            replace p308 := eq_true p308
            replace q308 := eq_true q308
            go_wp2
            go_ret
            exact ⟨by first | rfl | (simp; done) | (simp [*]; done), by repeat (first | exact Drawn0.refl _ | apply Drawn0.step)⟩
          · rw [if_neg c5] at H
            have c5b0 : ((rd l0 x5_1) == a1) = false := beq_eq_false_iff_ne.mpr c5
            have c5b1 : ((rd l0 x5_1) != a1) = true := bne_iff_ne.mpr c5
            have H' := aM H
            clear H
            have p308 : 0 ≤ (x5_1 : Int) := of_decide_eq_true (by first | (with_reducible assumption) | assumption)
            have q308 : x5_1 < (l0.length : Int) := of_decide_eq_true (by first | (with_reducible assumption) | assumption)
            obtain ⟨ad308, e308, hx308_0⟩ := Kd.at_int HR0.out x5_1 p308 q308
            cases e308
            replace p308 := eq_true p308
            replace q308 := eq_true q308
            go_wp2
            go_roundg k1
            case measure => have := HK1.out; omega
            case rel => exact ⟨(wrap64 (x5_1 + 1)), (by first | rfl | (simp; done) | (simp [*]; done)), H', ⟨by have := HK1.out; omega⟩, by repeat (first | exact Drawn0.refl _ | apply Drawn0.step)⟩
        · rw [if_neg c4] at H
          exact absurd H (by simp)
      · rw [if_neg c3] at H
        have c3b0 : decide (x5_1 < (l0.length : Int)) = false := decide_eq_false c3
        clear c3
        obtain rfl := Option.some.inj H
        go_wp2
        go_ret
        exact ⟨by first | rfl | (simp; done) | (simp [*]; done), by repeat (first | exact Drawn0.refl _ | apply Drawn0.step)⟩

end Go.Proofs.Ytpmjpngmmphkmaa.P
/- What the small functions of the graph chapter answer: small, valid, has, SameInts, Same; and the search for what can be reached. -/
namespace Go.Proofs.Ytpmjpngmmphkmaa
open Go.RowKit Go.Proofs.YtpmjpngmmphkmaaW.PrintWords Go.Proofs.YtpmjpngmmphkmaaW.PrintLast Go.Proofs.YtpmjpngmmphkmaaW.PrintMore Go.Proofs.Ytpmjpngmmphkmaa.P
namespace Tp
open Tj Rw Od
set_option linter.unusedVariables false

theorem succ_cast (i : Nat) (h : i < 1000000000) : wrap64 ((i : Int) + 1) = ((i + 1 : Nat) : Int) := by
  rw [w64 _ (by omega) (by omega)]
  omega
theorem L1_row (l : List (List Int)) (i : Int) : rd_L1 l i = row l i := rfl
theorem row_in (l : List (List Int)) (i : Nat) (h : i < l.length) : row l (i : Int) ∈ l := by
  rw [row_mem l i h]
  exact List.getElem_mem _

/-- A graph of a size that the statements speak of. -/
def Sm (l : List (List Int)) : Prop := l.length ≤ 60 ∧ ∀ j : Nat, j < l.length → (row l j).length ≤ 2000
theorem Sm.row {l : List (List Int)} (h : Sm l) (v : Int) : (row l v).length ≤ 2000 := by
  by_cases hv : v.toNat < l.length
  · have := h.2 v.toNat hv
    unfold Tj.row at *
    rw [Int.toNat_natCast] at this
    exact this
  · unfold Tj.row
    rw [List.getD_eq_getElem?_getD, List.getElem?_eq_none (by omega)]
    simp

theorem small_loop (l : List (List Int)) (h : ∀ r ∈ l, r.length * 8 ≤ 140737488351232) : ∀ (m i : Nat) (s : Int), i + m = 61 → 0 ≤ s → s ≤ (i : Int) * 17592186043904 →
    ∃ b, Ev (fun k => lazyclaw09_small.l0 k s i l) b ∧ (b = true → l.length ≤ 60 ∧ s ≤ 2000 ∧ ∀ j : Nat, i ≤ j → j < l.length → (row l j).length ≤ 2000) := by
  intro m
  induction m with
  | zero =>
    intro i s hi h0 h1
    obtain rfl : i = 61 := by omega
    by_cases hl : (l.length : Int) ≤ 60
    · refine ⟨decide (s ≤ 2000), Ev.step (fun k => ?_) (Ev.now _), fun hb => ⟨by omega, of_decide_eq_true hb, fun j hj hjl => by omega⟩⟩
      simp only [lazyclaw09_small.l0]
      rw [if_neg (by omega), if_pos hl]
    · refine ⟨false, Ev.step (fun k => ?_) (Ev.now _), fun hb => by cases hb⟩
      simp only [lazyclaw09_small.l0]
      by_cases h2 : ((61 : Nat) : Int) < l.length
      · rw [if_pos h2, if_neg (by omega), if_neg hl]
      · rw [if_neg h2, if_neg hl]
  | succ m ih =>
    intro i s hi h0 h1
    by_cases hil : i < l.length
    · have hr := h _ (row_in l i hil)
      have hw : wrap64 (s + ((row l i).length : Int)) = s + (row l i).length := w64 _ (by omega) (by omega)
      obtain ⟨b, b1, b2⟩ := ih (i + 1) (s + (row l i).length) (by omega) (by omega) (by omega)
      refine ⟨b, Ev.step (fun k => ?_) b1, fun hb => ?_⟩
      · simp only [lazyclaw09_small.l0, L1_row]
        rw [if_pos (by omega), if_pos (by omega), if_pos (by omega), hw, succ_cast i (by omega)]
      · obtain ⟨c1, c2, c3⟩ := b2 hb
        refine ⟨c1, by omega, fun j hj hjl => ?_⟩
        by_cases e : j = i
        · subst e; omega
        · exact c3 j (by omega) hjl
    · by_cases hl : (l.length : Int) ≤ 60
      · refine ⟨decide (s ≤ 2000), Ev.step (fun k => ?_) (Ev.now _), fun hb => ⟨by omega, of_decide_eq_true hb, fun j hj hjl => by omega⟩⟩
        simp only [lazyclaw09_small.l0]
        rw [if_neg (by omega), if_pos hl]
      · refine ⟨false, Ev.step (fun k => ?_) (Ev.now _), fun hb => by cases hb⟩
        simp only [lazyclaw09_small.l0]
        rw [if_neg (by omega), if_neg hl]
theorem small_ev (l : List (List Int)) (h : ∀ r ∈ l, r.length * 8 ≤ 140737488351232) : ∃ b, Ev (fun k => lazyclaw09_small.f k l) b ∧ (b = true → Sm l) := by
  obtain ⟨b, b1, b2⟩ := small_loop l h 61 0 0 (by omega) (by omega) (by omega)
  exact ⟨b, b1, fun hb => ⟨(b2 hb).1, fun j hj => (b2 hb).2.2 j (by omega) hj⟩⟩

/-- Is the graph valid? -/
def okn (n : Nat) (w : Int) : Bool := decide (0 ≤ w) && decide (w < n)
def vldB (l : List (List Int)) : Bool := l.all fun r => r.all (okn l.length)
theorem vldB_iff (l : List (List Int)) : vldB l = true ↔ Vld l := by
  unfold vldB Vld nd
  rw [List.all_eq_true]
  constructor
  · intro h v hv w hw
    obtain ⟨i, rfl⟩ := Int.eq_ofNat_of_zero_le hv.1
    have := List.all_eq_true.1 (h _ (row_in l i (by omega))) w hw
    simpa [okn] using this
  · intro h r hr
    obtain ⟨i, hi, rfl⟩ := List.mem_iff_getElem.1 hr
    rw [List.all_eq_true]
    intro w hw
    rw [← row_mem l i hi] at hw
    have := h i ⟨by omega, by omega⟩ w hw
    simpa [okn] using this
theorem drop_row (r : List Int) (j : Nat) (hj : j < r.length) : r.drop j = rd r j :: r.drop (j + 1) := by
  rw [rd_at r j hj]
  exact List.drop_eq_getElem_cons hj
theorem drop_rows (l : List (List Int)) (i : Nat) (hi : i < l.length) : l.drop i = row l i :: l.drop (i + 1) := by
  rw [row_mem l i hi]
  exact List.drop_eq_getElem_cons hi

theorem gv_in (l : List (List Int)) (hs : Sm l) (i : Nat) (hi : i < l.length) (ih : ∀ i' : Nat, i' = i + 1 → Ev (fun k => graph_valid.l0 k l (l.length : Int) (i' : Int) l) ((l.drop i').all fun r => r.all (okn l.length))) : ∀ (m j : Nat), j + m = (row l i).length →
    Ev (fun k => graph_valid.l1 k l (l.length : Int) i (row l i) ((row l i).length : Int) j l) (((row l i).drop j).all (okn l.length) && (l.drop (i + 1)).all fun r => r.all (okn l.length)) := by
  have hrl := hs.2 i hi
  have hl := hs.1
  intro m
  induction m with
  | zero =>
    intro j hj
    refine Ev.step (fun k => ?_) (by rw [List.drop_eq_nil_of_le (by omega), List.all_nil, Bool.true_and]; exact ih _ rfl)
    simp only [graph_valid.l1]
    (try rw [L1_row])
    rw [if_neg (by omega), succ_cast i (by omega)]
  | succ m ihm =>
    intro j hj
    have hjl : j < (row l i).length := by omega
    rw [drop_row _ j hjl, List.all_cons]
    by_cases hw : okn l.length (rd (row l i) j) = true
    · rw [hw, Bool.true_and]
      have hw2 : 0 ≤ rd (row l i) j ∧ rd (row l i) j < l.length := by simpa [okn] using hw
      refine Ev.step (fun k => ?_) (ihm (j + 1) (by omega))
      simp only [graph_valid.l1]
      (try rw [L1_row])
      rw [if_pos (by omega), if_pos (by omega), if_pos (by omega), if_neg (by omega), if_neg (by omega), succ_cast j (by omega)]
    · have hf : okn l.length (rd (row l i) j) = false := by simpa using hw
      rw [hf, Bool.false_and, Bool.false_and]
      have hw2 : ¬ (0 ≤ rd (row l i) j ∧ rd (row l i) j < l.length) := by simpa [okn] using hw
      refine Ev.step (fun k => ?_) (Ev.now _)
      simp only [graph_valid.l1]
      (try rw [L1_row])
      rw [if_pos (by omega), if_pos (by omega), if_pos (by omega)]
      by_cases h0 : rd (row l i) j < 0
      · rw [if_pos h0]
      · rw [if_neg h0, if_pos (by omega)]
theorem gv_out (l : List (List Int)) (hs : Sm l) : ∀ (m i : Nat), i + m = l.length → Ev (fun k => graph_valid.l0 k l (l.length : Int) i l) ((l.drop i).all fun r => r.all (okn l.length)) := by
  have hl := hs.1
  intro m
  induction m with
  | zero =>
    intro i hi
    rw [List.drop_eq_nil_of_le (by omega)]
    refine Ev.step (fun k => ?_) (Ev.now _)
    simp only [graph_valid.l0]
    rw [if_neg (by omega)]
    rfl
  | succ m ih =>
    intro i hi
    have hil : i < l.length := by omega
    have h := gv_in l hs i hil (fun i' e => ih i' (by omega)) (row l i).length 0 (by omega)
    rw [drop_rows l i hil, List.all_cons]
    refine Ev.step (fun k => ?_) h
    simp only [graph_valid.l0, L1_row]
    rw [if_pos (by omega), if_pos (by omega), if_pos (by omega)]
    rfl
theorem gv_ev (l : List (List Int)) (hs : Sm l) : Ev (fun k => graph_valid.f k l) (vldB l) := gv_out l hs l.length 0 (by omega)

theorem rv_in (l : List (List Int)) (hs : Sm l) (i : Nat) (hi : i < l.length) (ih : ∀ i' : Nat, i' = i + 1 → Ev (fun k => lazycref09_Valid.l0 k (i' : Int) l) ((l.drop i').all fun r => r.all (okn l.length))) : ∀ (m j : Nat), j + m = (row l i).length →
    Ev (fun k => lazycref09_Valid.l1 k i j l) (((row l i).drop j).all (okn l.length) && (l.drop (i + 1)).all fun r => r.all (okn l.length)) := by
  have hrl := hs.2 i hi
  have hl := hs.1
  intro m
  induction m with
  | zero =>
    intro j hj
    refine Ev.step (fun k => ?_) (by rw [List.drop_eq_nil_of_le (by omega), List.all_nil, Bool.true_and]; exact ih _ rfl)
    simp only [lazycref09_Valid.l1]
    rw [L1_row]
    rw [if_pos (show (0 : Int) ≤ (i : Int) by omega), if_pos (show (i : Int) < (l.length : Int) by omega), if_neg (show ¬ (j : Int) < ((row l i).length : Int) by omega), succ_cast i (by omega)]
  | succ m ihm =>
    intro j hj
    have hjl : j < (row l i).length := by omega
    rw [drop_row _ j hjl, List.all_cons]
    by_cases hw : okn l.length (rd (row l i) j) = true
    · rw [hw, Bool.true_and]
      have hw2 : 0 ≤ rd (row l i) j ∧ rd (row l i) j < l.length := by simpa [okn] using hw
      refine Ev.step (fun k => ?_) (ihm (j + 1) (by omega))
      simp only [lazycref09_Valid.l1]
      rw [L1_row]
      rw [if_pos (show (0 : Int) ≤ (i : Int) by omega), if_pos (show (i : Int) < (l.length : Int) by omega), if_pos (show (j : Int) < ((row l i).length : Int) by omega), if_pos (show (0 : Int) ≤ (j : Int) by omega), if_neg (by omega), if_neg (by omega), succ_cast j (by omega)]
    · have hf : okn l.length (rd (row l i) j) = false := by simpa using hw
      rw [hf, Bool.false_and, Bool.false_and]
      have hw2 : ¬ (0 ≤ rd (row l i) j ∧ rd (row l i) j < l.length) := by simpa [okn] using hw
      refine Ev.step (fun k => ?_) (Ev.now _)
      simp only [lazycref09_Valid.l1]
      rw [L1_row]
      rw [if_pos (show (0 : Int) ≤ (i : Int) by omega), if_pos (show (i : Int) < (l.length : Int) by omega), if_pos (show (j : Int) < ((row l i).length : Int) by omega), if_pos (show (0 : Int) ≤ (j : Int) by omega)]
      by_cases h0 : rd (row l i) j < 0
      · rw [if_pos h0]
      · rw [if_neg h0, if_pos (by omega)]
theorem rv_out (l : List (List Int)) (hs : Sm l) : ∀ (m i : Nat), i + m = l.length → Ev (fun k => lazycref09_Valid.l0 k i l) ((l.drop i).all fun r => r.all (okn l.length)) := by
  have hl := hs.1
  intro m
  induction m with
  | zero =>
    intro i hi
    rw [List.drop_eq_nil_of_le (by omega)]
    refine Ev.step (fun k => ?_) (Ev.now _)
    simp only [lazycref09_Valid.l0]
    rw [if_neg (by omega)]
    rfl
  | succ m ih =>
    intro i hi
    have hil : i < l.length := by omega
    have h := rv_in l hs i hil (fun i' e => ih i' (by omega)) (row l i).length 0 (by omega)
    rw [drop_rows l i hil, List.all_cons]
    refine Ev.step (fun k => ?_) h
    simp only [lazycref09_Valid.l0, L1_row]
    rw [if_pos (by omega)]
    rfl
theorem rv_ev (l : List (List Int)) (hs : Sm l) : Ev (fun k => lazycref09_Valid.f k l) (vldB l) := rv_out l hs l.length 0 (by omega)

theorem lh_ev (l : List Int) (x : Int) (hl : l.length < 1000000) : Ev (fun k => lazyclaw09_has.f k l x) (l.contains x) := by
  have key : ∀ (m j : Nat), j + m = l.length → Ev (fun k => lazyclaw09_has.l0 k l x j) ((l.drop j).contains x) := by
    intro m
    induction m with
    | zero =>
      intro j hj
      rw [List.drop_eq_nil_of_le (by omega)]
      refine Ev.step (fun k => ?_) (Ev.now _)
      simp only [lazyclaw09_has.l0]
      rw [if_neg (by omega)]
      rfl
    | succ m ih =>
      intro j hj
      have hjl : j < l.length := by omega
      rw [drop_row l j hjl, List.contains_cons]
      by_cases h : rd l j = x
      · rw [show (x == rd l j) = true by simp [h], Bool.true_or]
        refine Ev.step (fun k => ?_) (Ev.now _)
        simp only [lazyclaw09_has.l0]
        rw [if_pos (by omega), if_pos (by omega), if_pos h]
      · rw [show (x == rd l j) = false by simpa using fun e => h e.symm, Bool.false_or]
        refine Ev.step (fun k => ?_) (ih (j + 1) (by omega))
        simp only [lazyclaw09_has.l0]
        rw [if_pos (by omega), if_pos (by omega), if_neg h, succ_cast j (by omega)]
  exact key l.length 0 (by omega)

theorem rh_ev (l : List Int) (x : Int) (hl : l.length < 1000000) : Ev (fun k => lazycref09_has.f k l x) (l.contains x) := by
  have key : ∀ (m j : Nat), j + m = l.length → Ev (fun k => lazycref09_has.l0 k l x j) ((l.drop j).contains x) := by
    intro m
    induction m with
    | zero =>
      intro j hj
      rw [List.drop_eq_nil_of_le (by omega)]
      refine Ev.step (fun k => ?_) (Ev.now _)
      simp only [lazycref09_has.l0]
      rw [if_neg (by omega)]
      rfl
    | succ m ih =>
      intro j hj
      have hjl : j < l.length := by omega
      rw [drop_row l j hjl, List.contains_cons]
      by_cases h : rd l j = x
      · rw [show (x == rd l j) = true by simp [h], Bool.true_or]
        refine Ev.step (fun k => ?_) (Ev.now _)
        simp only [lazycref09_has.l0]
        rw [if_pos (by omega), if_pos (by omega), if_pos h]
      · rw [show (x == rd l j) = false by simpa using fun e => h e.symm, Bool.false_or]
        refine Ev.step (fun k => ?_) (ih (j + 1) (by omega))
        simp only [lazycref09_has.l0]
        rw [if_pos (by omega), if_pos (by omega), if_neg h, succ_cast j (by omega)]
  exact key l.length 0 (by omega)

theorem si_ev (a b : List Int) (hl : a.length < 1000000) : Ev (fun k => lazycref09_SameInts.f k a b) (decide (a = b)) := by
  by_cases hlen : a.length = b.length
  · have key : ∀ (m j : Nat), j + m = a.length → Ev (fun k => lazycref09_SameInts.l0 k a b j) (decide (a.drop j = b.drop j)) := by
      intro m
      induction m with
      | zero =>
        intro j hj
        rw [List.drop_eq_nil_of_le (by omega), List.drop_eq_nil_of_le (by omega)]
        refine Ev.step (fun k => ?_) (Ev.now _)
        simp only [lazycref09_SameInts.l0]
        rw [if_neg (by omega)]
        rfl
      | succ m ih =>
        intro j hj
        rw [drop_row a j (by omega), drop_row b j (by omega)]
        by_cases h : rd a j = rd b j
        · rw [show decide (rd a j :: a.drop (j + 1) = rd b j :: b.drop (j + 1)) = decide (a.drop (j + 1) = b.drop (j + 1)) by simp [h]]
          refine Ev.step (fun k => ?_) (ih (j + 1) (by omega))
          simp only [lazycref09_SameInts.l0]
          rw [if_pos (by omega), if_pos (by omega), if_pos (by omega), if_pos h, succ_cast j (by omega)]
        · rw [show decide (rd a j :: a.drop (j + 1) = rd b j :: b.drop (j + 1)) = false by simp [h]]
          refine Ev.step (fun k => ?_) (Ev.now _)
          simp only [lazycref09_SameInts.l0]
          rw [if_pos (by omega), if_pos (by omega), if_pos (by omega), if_neg h]
    refine Ev.congr (fun k => ?_) (key a.length 0 (by omega))
    unfold lazycref09_SameInts.f
    rw [if_pos (by omega)]
    rfl
  · rw [show decide (a = b) = false from decide_eq_false (fun e => hlen (by rw [e]))]
    refine Ev.congr (fun k => ?_) (Ev.now _)
    unfold lazycref09_SameInts.f
    rw [if_neg (by omega)]

theorem same_ev (a b : List (List Int)) (hl : a.length < 1000000) (hr : ∀ j : Nat, j < a.length → (row a j).length < 1000000) : Ev (fun k => lazycref09_Same.f k a b) (decide (a = b)) := by
  by_cases hlen : a.length = b.length
  · have key : ∀ (m j : Nat), j + m = a.length → Ev (fun k => lazycref09_Same.l0 k a b j) (decide (a.drop j = b.drop j)) := by
      intro m
      induction m with
      | zero =>
        intro j hj
        rw [List.drop_eq_nil_of_le (by omega), List.drop_eq_nil_of_le (by omega)]
        refine Ev.step (fun k => ?_) (Ev.now _)
        simp only [lazycref09_Same.l0]
        rw [if_neg (by omega)]
        rfl
      | succ m ih =>
        intro j hj
        rw [drop_rows a j (by omega), drop_rows b j (by omega)]
        have h1 := si_ev (row a j) (row b j) (hr j (by omega))
        by_cases h : row a j = row b j
        · rw [show decide (row a j :: a.drop (j + 1) = row b j :: b.drop (j + 1)) = decide (a.drop (j + 1) = b.drop (j + 1)) by simp [h]]
          rw [decide_eq_true h] at h1
          refine Ev.step (fun k => ?_) (Ev.bind h1 (f := fun k t => if t = true then lazycref09_Same.l0 k a b ((j + 1 : Nat) : Int) else some false) (ih (j + 1) (by omega)))
          simp only [lazycref09_Same.l0, L1_row]
          rw [if_pos (by omega), if_pos (by omega), if_pos (by omega), succ_cast j (by omega)]
        · rw [show decide (row a j :: a.drop (j + 1) = row b j :: b.drop (j + 1)) = false by simp [h]]
          rw [decide_eq_false h] at h1
          refine Ev.step (fun k => ?_) (Ev.bind h1 (f := fun k t => if t = true then lazycref09_Same.l0 k a b ((j + 1 : Nat) : Int) else some false) (Ev.now _))
          simp only [lazycref09_Same.l0, L1_row]
          rw [if_pos (by omega), if_pos (by omega), if_pos (by omega), succ_cast j (by omega)]
    refine Ev.congr (fun k => ?_) (key a.length 0 (by omega))
    unfold lazycref09_Same.f
    rw [if_pos (by omega)]
    rfl
  · rw [show decide (a = b) = false from decide_eq_false (fun e => hlen (by rw [e]))]
    refine Ev.congr (fun k => ?_) (Ev.now _)
    unfold lazycref09_Same.f
    rw [if_neg (by omega)]
end Tp
end Go.Proofs.Ytpmjpngmmphkmaa
/- What Reach and Cyclic answer: what can be reached by edges; the same in the program and in the reference. -/
namespace Go.Proofs.Ytpmjpngmmphkmaa
open Go.RowKit Go.Proofs.YtpmjpngmmphkmaaW.PrintWords Go.Proofs.YtpmjpngmmphkmaaW.PrintLast Go.Proofs.YtpmjpngmmphkmaaW.PrintMore Go.Proofs.Ytpmjpngmmphkmaa.P
namespace Tp
open Tj Rw Od
open Classical
set_option linter.unusedVariables false

theorem rdOf_set (l : List Bool) (u v : Int) (hu : 0 ≤ u) (hl : u < l.length) (hv : 0 ≤ v) : rdOf false (l.set u.toNat true) v = if v = u then true else rdOf false l v := by
  unfold rdOf
  rw [List.getD_eq_getElem?_getD, List.getElem?_set, List.getD_eq_getElem?_getD]
  by_cases h : v = u
  · subst h
    rw [if_pos rfl, if_pos (by omega), if_pos rfl]
    rfl
  · rw [if_neg (by omega), if_neg h]
theorem rdOf_at (l : List Bool) (i : Nat) (h : i < l.length) : rdOf false l (i : Int) = l[i] := by
  unfold rdOf
  rw [Int.toNat_natCast, List.getD_eq_getElem?_getD, List.getElem?_eq_getElem h]
  rfl
theorem count_setB (l : List Bool) (u : Int) (hu : 0 ≤ u) (hl : u < l.length) (h0 : rdOf false l u = false) : (l.set u.toNat true).count false + 1 = l.count false := by
  obtain ⟨i, rfl⟩ := Int.eq_ofNat_of_zero_le hu
  rw [rdOf_at l i (by omega)] at h0
  have hi : i < l.length := by omega
  have h1 : 0 < l.count false := List.count_pos_iff.2 (h0 ▸ List.getElem_mem hi)
  show (l.set i true).count false + 1 = l.count false
  rw [List.count_set hi]
  simp [h0]
  omega

theorem meas {c c' t y r M : Nat} (h : c' + 1 = c) (h1 : c * 2001 + t ≤ M + 1) (h2 : y + 1 = t) (h3 : r ≤ 2000) : c' * 2001 + (y + r) ≤ M := by
  rw [← h, Nat.add_mul, Nat.one_mul] at h1
  generalize c' * 2001 = q at h1 ⊢
  omega
/-- For each node: can it be reached from one of these? -/
noncomputable def rch (l : List (List Int)) (starts : List Int) : List Bool := (iota l.length).map fun v => decide (∃ s ∈ starts, Rc l s v)
theorem rch_len (l : List (List Int)) (starts : List Int) : (rch l starts).length = l.length := by simp [rch, iota_length]
theorem rch_at (l : List (List Int)) (starts : List Int) (v : Int) (h : nd l v) : rdOf false (rch l starts) v = decide (∃ s ∈ starts, Rc l s v) := by
  obtain ⟨i, rfl⟩ := Int.eq_ofNat_of_zero_le h.1
  have hi : i < l.length := by have := h.2; omega
  rw [rdOf_at _ i (by rw [rch_len]; exact hi)]
  simp [rch, iota]
theorem rc_nd {l : List (List Int)} (hv : Vld l) {a b : Int} (h : Rc l a b) (ha : nd l a) : nd l b := by
  induction h with
  | refl => exact ha
  | tail _ h2 ih => exact hv _ ih _ h2
theorem rch_eq {l : List (List Int)} (hv : Vld l) {starts : List Int} (hst : ∀ s ∈ starts, nd l s) {seen : List Bool} (hlen : seen.length = l.length) (hs : ∀ v, nd l v → rdOf false seen v = true → ∃ s ∈ starts, Rc l s v)
    (hc : ∀ v, nd l v → rdOf false seen v = true → ∀ w ∈ row l v, rdOf false seen w = true) (h0 : ∀ s ∈ starts, rdOf false seen s = true) : seen = rch l starts := by
  refine List.ext_getElem (by rw [rch_len, hlen]) fun i h1 h2 => ?_
  have hnd : nd l (i : Int) := ⟨by omega, by omega⟩
  rw [← rdOf_at seen i h1, ← rdOf_at _ i h2, rch_at l starts i hnd]
  by_cases h : ∃ s ∈ starts, Rc l s i
  · rw [decide_eq_true h]
    obtain ⟨s, hsm, hr⟩ := h
    have key : ∀ b, Rc l s b → nd l b ∧ rdOf false seen b = true := by
      intro b hb
      induction hb with
      | refl => exact ⟨hst s hsm, h0 s hsm⟩
      | tail _ h2 ih => exact ⟨hv _ ih.1 _ h2, hc _ ih.1 ih.2 _ h2⟩
    exact (key _ hr).2
  · rw [decide_eq_false h]
    exact Bool.eq_false_iff.2 fun e => h (hs _ hnd e)
/-- The nodes that can be reached, ascending. -/
noncomputable def rchL (l : List (List Int)) (starts : List Int) : List Int := (iota l.length).filter fun v => decide (∃ s ∈ starts, Rc l s v)
theorem mem_rchL {l : List (List Int)} {starts : List Int} {x : Int} : x ∈ rchL l starts ↔ nd l x ∧ ∃ s ∈ starts, Rc l s x := by
  unfold rchL nd
  rw [List.mem_filter, mem_iota]
  simp
theorem rchL_len (l : List (List Int)) (starts : List Int) : (rchL l starts).length ≤ l.length := by
  unfold rchL
  exact Nat.le_trans (List.length_filter_le _ _) (by rw [iota_length]; exact Nat.le_refl _)
theorem last_take (todo : List Int) (h : 0 < todo.length) : rd todo ((todo.length : Int) - 1) ∈ todo ∧ todo = todo.take (todo.length - 1) ++ [rd todo ((todo.length : Int) - 1)] := by
  rw [show ((todo.length : Int) - 1) = ((todo.length - 1 : Nat) : Int) by omega, rd_at _ _ (by omega)]
  refine ⟨List.getElem_mem _, ?_⟩
  rw [← List.take_succ_eq_append_getElem (by omega), List.take_of_length_le (by omega)]

theorem gr_loop {l : List (List Int)} (hv : Vld l) (hsm : Sm l) {starts : List Int} (hst : ∀ s ∈ starts, nd l s) : ∀ (M : Nat) (seen : List Bool) (todo : List Int), seen.count false * 2001 + todo.length ≤ M → M ≤ 1000000 → seen.length = l.length → (∀ v ∈ todo, nd l v) →
    (∀ v, nd l v → rdOf false seen v = true → ∃ s ∈ starts, Rc l s v) → (∀ v ∈ todo, ∃ s ∈ starts, Rc l s v) → (∀ v, nd l v → rdOf false seen v = true → ∀ w ∈ row l v, rdOf false seen w = true ∨ w ∈ todo) → (∀ s ∈ starts, rdOf false seen s = true ∨ s ∈ todo) →
    Ev (fun k => graph_reached.l0 k l seen todo) (rch l starts) := by
  have done : ∀ (seen : List Bool), seen.length = l.length → (∀ v, nd l v → rdOf false seen v = true → ∃ s ∈ starts, Rc l s v) → (∀ v, nd l v → rdOf false seen v = true → ∀ w ∈ row l v, rdOf false seen w = true ∨ w ∈ ([] : List Int)) → (∀ s ∈ starts, rdOf false seen s = true ∨ s ∈ ([] : List Int)) →
      Ev (fun k => graph_reached.l0 k l seen ([] : List Int)) (rch l starts) := by
    intro seen h1 h2 h3 h4
    have he := rch_eq hv hst h1 h2 (fun v a b w c => by simpa using h3 v a b w c) (fun s a => by simpa using h4 s a)
    refine Ev.step (fun k => ?_) (Ev.now _)
    simp only [graph_reached.l0]
    rw [if_neg (by simp)]
    rw [← he]
  intro M
  induction M with
  | zero =>
    intro seen todo hM hM2 hlen htd h1 h2 h3 h4
    obtain rfl : todo = [] := List.eq_nil_of_length_eq_zero (by omega)
    exact done seen hlen h1 h3 h4
  | succ M ih =>
    intro seen todo hM hM2 hlen htd h1 h2 h3 h4
    by_cases h0 : 0 < todo.length
    case neg =>
      obtain rfl : todo = [] := List.eq_nil_of_length_eq_zero (by omega)
      exact done seen hlen h1 h3 h4
    obtain ⟨hvm, htt⟩ := last_take todo h0
    have hw : wrap64 ((todo.length : Int) - 1) = (todo.length : Int) - 1 := w64 _ (by omega) (by omega)
    have htn : ((todo.length : Int) - 1).toNat = todo.length - 1 := by omega
    have hnv := htd _ hvm
    have hrv := h2 _ hvm
    generalize hvd : rd todo ((todo.length : Int) - 1) = v at *
    have hyl : (todo.take (todo.length - 1)).length = todo.length - 1 := by simp
    have hym : ∀ x, x ∈ todo ↔ x ∈ todo.take (todo.length - 1) ∨ x = v := fun x => by
      constructor
      · intro h
        rw [htt] at h
        rcases List.mem_append.1 h with e | e
        · exact .inl e
        · exact .inr (List.mem_singleton.1 e)
      · rintro (h | h)
        · exact List.mem_of_mem_take h
        · rw [h]; exact hvm
    generalize htk : todo.take (todo.length - 1) = y at *
    by_cases hsv : rdOf false seen v = true
    · refine Ev.step (fun k => ?_) (ih seen y (by omega) (by omega) hlen (fun x hx => htd x ((hym x).2 (.inl hx))) h1 (fun x hx => h2 x ((hym x).2 (.inl hx))) (fun x a b w c => ?_) (fun s a => ?_))
      · simp only [graph_reached.l0]
        rw [if_pos (by omega), hw, htn, htk, hvd]
        simp only [Option.bind_some]
        rw [if_pos (show 0 ≤ (todo.length : Int) - 1 by omega), if_pos (show (todo.length : Int) - 1 < todo.length by omega), if_pos (show (todo.length : Int) - 1 ≤ todo.length by omega), if_pos hnv.1, if_pos (show v < (seen.length : Int) by have := hnv.2; omega), if_pos hsv]
      · rcases h3 x a b w c with e | e
        · exact .inl e
        · rcases (hym w).1 e with e | e
          · exact .inr e
          · rw [e]; exact .inl hsv
      · rcases h4 s a with e | e
        · exact .inl e
        · rcases (hym s).1 e with e | e
          · exact .inr e
          · rw [e]; exact .inl hsv
    · have hsf : rdOf false seen v = false := by simpa using hsv
      have hct := count_setB seen v hnv.1 (by have := hnv.2; omega) hsf
      have hrl := hsm.row v
      have hset : ∀ u, 0 ≤ u → rdOf false (seen.set v.toNat true) u = if u = v then true else rdOf false seen u := fun u hu => rdOf_set seen v u hnv.1 (by have := hnv.2; omega) hu
      refine Ev.step (fun k => ?_) (ih (seen.set v.toNat true) (y ++ row l v) (by rw [List.length_append]; exact meas hct hM (by omega) hrl) (by omega) (by rw [List.length_set]; exact hlen) (fun x hx => ?_) (fun x a b => ?_) (fun x hx => ?_) (fun x a b w c => ?_) (fun s a => ?_))
      · simp only [graph_reached.l0]
        rw [if_pos (by omega), hw, htn, htk, hvd]
        simp only [Option.bind_some]
        rw [L1_row]
        rw [if_pos (show 0 ≤ (todo.length : Int) - 1 by omega), if_pos (show (todo.length : Int) - 1 < todo.length by omega), if_pos (show (todo.length : Int) - 1 ≤ todo.length by omega), if_pos hnv.1, if_pos (show v < (seen.length : Int) by have := hnv.2; omega), if_neg hsv, if_pos (show v < (l.length : Int) from hnv.2), if_pos (by omega)]
      · rcases List.mem_append.1 hx with e | e
        · exact htd x ((hym x).2 (.inl e))
        · exact hv v hnv x e
      · rw [hset x a.1] at b
        by_cases e : x = v
        · rw [e]; exact hrv
        · rw [if_neg e] at b; exact h1 x a b
      · rcases List.mem_append.1 hx with e | e
        · exact h2 x ((hym x).2 (.inl e))
        · obtain ⟨s, s1, s2⟩ := hrv
          exact ⟨s, s1, s2.tail e⟩
      · have hwn := hv x a w c
        rw [hset x a.1] at b
        rw [hset w hwn.1]
        by_cases e : x = v
        · subst e
          exact .inr (List.mem_append.2 (.inr c))
        · rw [if_neg e] at b
          by_cases e2 : w = v
          · rw [if_pos e2]; exact .inl rfl
          · rw [if_neg e2]
            rcases h3 x a b w c with e3 | e3
            · exact .inl e3
            · rcases (hym w).1 e3 with e4 | e4
              · exact .inr (List.mem_append.2 (.inl e4))
              · exact absurd e4 e2
      · rw [hset s (hst s a).1]
        by_cases e2 : s = v
        · rw [if_pos e2]; exact .inl rfl
        · rw [if_neg e2]
          rcases h4 s a with e3 | e3
          · exact .inl e3
          · rcases (hym s).1 e3 with e4 | e4
            · exact .inr (List.mem_append.2 (.inl e4))
            · exact absurd e4 e2
theorem gr_start {l : List (List Int)} (hv : Vld l) (hsm : Sm l) {starts : List Int} (hst : ∀ s ∈ starts, nd l s) (hsl : starts.length ≤ 2000) : Ev (fun k => graph_reached.l0 k l (List.replicate l.length false) starts) (rch l starts) := by
  have h60 := hsm.1
  have hr : ∀ v, nd l v → rdOf false (List.replicate l.length false) v = false := by
    intro v h
    obtain ⟨i, rfl⟩ := Int.eq_ofNat_of_zero_le h.1
    rw [rdOf_at _ i (by simp; have := h.2; omega)]
    simp
  refine gr_loop hv hsm hst 122060 _ _ ?_ (by omega) (by simp) hst (fun v a b => by rw [hr v a] at b; cases b) (fun v a => ⟨v, a, .refl v⟩) (fun v a b => by rw [hr v a] at b; cases b) (fun s a => .inr a)
  simp only [List.count_replicate_self]
  omega

theorem rf_loop {l : List (List Int)} (hv : Vld l) (hsm : Sm l) {starts : List Int} (hst : ∀ s ∈ starts, nd l s) : ∀ (M : Nat) (seen : List Bool) (todo : List Int), seen.count false * 2001 + todo.length ≤ M → M ≤ 1000000 → seen.length = l.length → (∀ v ∈ todo, nd l v) →
    (∀ v, nd l v → rdOf false seen v = true → ∃ s ∈ starts, Rc l s v) → (∀ v ∈ todo, ∃ s ∈ starts, Rc l s v) → (∀ v, nd l v → rdOf false seen v = true → ∀ w ∈ row l v, rdOf false seen w = true ∨ w ∈ todo) → (∀ s ∈ starts, rdOf false seen s = true ∨ s ∈ todo) →
    Ev (fun k => lazycref09_from.l0 k seen todo l) (rch l starts) := by
  have done : ∀ (seen : List Bool), seen.length = l.length → (∀ v, nd l v → rdOf false seen v = true → ∃ s ∈ starts, Rc l s v) → (∀ v, nd l v → rdOf false seen v = true → ∀ w ∈ row l v, rdOf false seen w = true ∨ w ∈ ([] : List Int)) → (∀ s ∈ starts, rdOf false seen s = true ∨ s ∈ ([] : List Int)) →
      Ev (fun k => lazycref09_from.l0 k seen ([] : List Int) l) (rch l starts) := by
    intro seen h1 h2 h3 h4
    have he := rch_eq hv hst h1 h2 (fun v a b w c => by simpa using h3 v a b w c) (fun s a => by simpa using h4 s a)
    refine Ev.step (fun k => ?_) (Ev.now _)
    simp only [lazycref09_from.l0]
    rw [if_neg (by simp)]
    rw [← he]
  intro M
  induction M with
  | zero =>
    intro seen todo hM hM2 hlen htd h1 h2 h3 h4
    obtain rfl : todo = [] := List.eq_nil_of_length_eq_zero (by omega)
    exact done seen hlen h1 h3 h4
  | succ M ih =>
    intro seen todo hM hM2 hlen htd h1 h2 h3 h4
    by_cases h0 : 0 < todo.length
    case neg =>
      obtain rfl : todo = [] := List.eq_nil_of_length_eq_zero (by omega)
      exact done seen hlen h1 h3 h4
    obtain ⟨hvm, htt⟩ := last_take todo h0
    have hw : wrap64 ((todo.length : Int) - 1) = (todo.length : Int) - 1 := w64 _ (by omega) (by omega)
    have htn : ((todo.length : Int) - 1).toNat = todo.length - 1 := by omega
    have hnv := htd _ hvm
    have hrv := h2 _ hvm
    generalize hvd : rd todo ((todo.length : Int) - 1) = v at *
    have hyl : (todo.take (todo.length - 1)).length = todo.length - 1 := by simp
    have hym : ∀ x, x ∈ todo ↔ x ∈ todo.take (todo.length - 1) ∨ x = v := fun x => by
      constructor
      · intro h
        rw [htt] at h
        rcases List.mem_append.1 h with e | e
        · exact .inl e
        · exact .inr (List.mem_singleton.1 e)
      · rintro (h | h)
        · exact List.mem_of_mem_take h
        · rw [h]; exact hvm
    generalize htk : todo.take (todo.length - 1) = y at *
    by_cases hsv : rdOf false seen v = true
    · refine Ev.step (fun k => ?_) (ih seen y (by omega) (by omega) hlen (fun x hx => htd x ((hym x).2 (.inl hx))) h1 (fun x hx => h2 x ((hym x).2 (.inl hx))) (fun x a b w c => ?_) (fun s a => ?_))
      · simp only [lazycref09_from.l0]
        rw [if_pos (by omega), hw, htn, htk, hvd]
        simp only [Option.bind_some]
        rw [if_pos (show 0 ≤ (todo.length : Int) - 1 by omega), if_pos (show (todo.length : Int) - 1 < todo.length by omega), if_pos (show (todo.length : Int) - 1 ≤ todo.length by omega), if_pos hnv.1, if_pos (show v < (seen.length : Int) by have := hnv.2; omega), if_pos hsv]
      · rcases h3 x a b w c with e | e
        · exact .inl e
        · rcases (hym w).1 e with e | e
          · exact .inr e
          · rw [e]; exact .inl hsv
      · rcases h4 s a with e | e
        · exact .inl e
        · rcases (hym s).1 e with e | e
          · exact .inr e
          · rw [e]; exact .inl hsv
    · have hsf : rdOf false seen v = false := by simpa using hsv
      have hct := count_setB seen v hnv.1 (by have := hnv.2; omega) hsf
      have hrl := hsm.row v
      have hset : ∀ u, 0 ≤ u → rdOf false (seen.set v.toNat true) u = if u = v then true else rdOf false seen u := fun u hu => rdOf_set seen v u hnv.1 (by have := hnv.2; omega) hu
      refine Ev.step (fun k => ?_) (ih (seen.set v.toNat true) (y ++ row l v) (by rw [List.length_append]; exact meas hct hM (by omega) hrl) (by omega) (by rw [List.length_set]; exact hlen) (fun x hx => ?_) (fun x a b => ?_) (fun x hx => ?_) (fun x a b w c => ?_) (fun s a => ?_))
      · simp only [lazycref09_from.l0]
        rw [if_pos (by omega), hw, htn, htk, hvd]
        simp only [Option.bind_some]
        rw [L1_row]
        rw [if_pos (show 0 ≤ (todo.length : Int) - 1 by omega), if_pos (show (todo.length : Int) - 1 < todo.length by omega), if_pos (show (todo.length : Int) - 1 ≤ todo.length by omega), if_pos hnv.1, if_pos (show v < (seen.length : Int) by have := hnv.2; omega), if_neg hsv, if_pos (show v < (l.length : Int) from hnv.2), if_pos (by omega)]
      · rcases List.mem_append.1 hx with e | e
        · exact htd x ((hym x).2 (.inl e))
        · exact hv v hnv x e
      · rw [hset x a.1] at b
        by_cases e : x = v
        · rw [e]; exact hrv
        · rw [if_neg e] at b; exact h1 x a b
      · rcases List.mem_append.1 hx with e | e
        · exact h2 x ((hym x).2 (.inl e))
        · obtain ⟨s, s1, s2⟩ := hrv
          exact ⟨s, s1, s2.tail e⟩
      · have hwn := hv x a w c
        rw [hset x a.1] at b
        rw [hset w hwn.1]
        by_cases e : x = v
        · subst e
          exact .inr (List.mem_append.2 (.inr c))
        · rw [if_neg e] at b
          by_cases e2 : w = v
          · rw [if_pos e2]; exact .inl rfl
          · rw [if_neg e2]
            rcases h3 x a b w c with e3 | e3
            · exact .inl e3
            · rcases (hym w).1 e3 with e4 | e4
              · exact .inr (List.mem_append.2 (.inl e4))
              · exact absurd e4 e2
      · rw [hset s (hst s a).1]
        by_cases e2 : s = v
        · rw [if_pos e2]; exact .inl rfl
        · rw [if_neg e2]
          rcases h4 s a with e3 | e3
          · exact .inl e3
          · rcases (hym s).1 e3 with e4 | e4
            · exact .inr (List.mem_append.2 (.inl e4))
            · exact absurd e4 e2
theorem rf_start {l : List (List Int)} (hv : Vld l) (hsm : Sm l) {starts : List Int} (hst : ∀ s ∈ starts, nd l s) (hsl : starts.length ≤ 2000) : Ev (fun k => lazycref09_from.l0 k (List.replicate l.length false) starts l) (rch l starts) := by
  have h60 := hsm.1
  have hr : ∀ v, nd l v → rdOf false (List.replicate l.length false) v = false := by
    intro v h
    obtain ⟨i, rfl⟩ := Int.eq_ofNat_of_zero_le h.1
    rw [rdOf_at _ i (by simp; have := h.2; omega)]
    simp
  refine rf_loop hv hsm hst 122060 _ _ ?_ (by omega) (by simp) hst (fun v a b => by rw [hr v a] at b; cases b) (fun v a => ⟨v, a, .refl v⟩) (fun v a b => by rw [hr v a] at b; cases b) (fun s a => .inr a)
  simp only [List.count_replicate_self]
  omega

theorem gr_ev {l : List (List Int)} (hv : Vld l) (hsm : Sm l) {starts : List Int} (hst : ∀ s ∈ starts, nd l s) (hsl : starts.length ≤ 2000) : Ev (fun k => graph_reached.f k l starts) (rch l starts) := by
  have h60 := hsm.1
  refine Ev.congr (fun k => ?_) (gr_start hv hsm hst hsl)
  unfold graph_reached.f slices_Clone_int.f
  rw [if_pos (by omega), if_pos (by omega), if_pos (by omega), Option.bind_some, Int.toNat_natCast]
theorem rf_ev {l : List (List Int)} (hv : Vld l) (hsm : Sm l) {starts : List Int} (hst : ∀ s ∈ starts, nd l s) (hsl : starts.length ≤ 2000) : Ev (fun k => lazycref09_from.f k l starts) (rch l starts) := by
  have h60 := hsm.1
  refine Ev.congr (fun k => ?_) (rf_start hv hsm hst hsl)
  unfold lazycref09_from.f
  rw [if_pos (by omega), if_pos (by omega), Option.bind_some, if_pos (by simp; omega), Int.toNat_natCast]
  rfl

theorem filt_snoc (p : Int → Bool) (i : Nat) : (iota (i + 1)).filter p = (iota i).filter p ++ (if p i = true then [(i : Int)] else []) := by
  rw [iota_succ, List.filter_append]
  by_cases h : p i = true <;> simp [h]
theorem filt_len (p : Int → Bool) (i : Nat) : ((iota i).filter p).length ≤ i := Nat.le_trans (List.length_filter_le _ _) (by rw [iota_length]; exact Nat.le_refl _)
theorem gc_ev (seen : List Bool) (hl : seen.length < 1000000) : Ev (fun k => graph_Reach.l0 k ([] : List Int) seen (seen.length : Int) 0) ((iota seen.length).filter (rdOf false seen)) := by
  have key : ∀ (m i : Nat), i + m = seen.length → Ev (fun k => graph_Reach.l0 k ((iota i).filter (rdOf false seen)) seen (seen.length : Int) i) ((iota seen.length).filter (rdOf false seen)) := by
    intro m
    induction m with
    | zero =>
      intro i hi
      obtain rfl : i = seen.length := by omega
      refine Ev.step (fun k => ?_) (Ev.now _)
      simp only [graph_Reach.l0]
      rw [if_neg (by omega)]
    | succ m ih =>
      intro i hi
      have h := ih (i + 1) (by omega)
      have hlen := filt_len (rdOf false seen) i
      rw [filt_snoc] at h
      refine Ev.step (fun k => ?_) h
      simp only [graph_Reach.l0]
      rw [if_pos (by omega), if_pos (by omega), if_pos (by omega), succ_cast i (by omega)]
      by_cases hp : rdOf false seen i = true
      · rw [if_pos hp, if_pos hp, if_pos (by omega)]
      · rw [if_neg hp, if_neg hp, List.append_nil]
  exact key seen.length 0 (by omega)
theorem mk_ev (seen : List Bool) (hl : seen.length < 1000000) : Ev (fun k => lazycref09_marked.f k seen) ((iota seen.length).filter (rdOf false seen)) := by
  have key : ∀ (m i : Nat), i + m = seen.length → Ev (fun k => lazycref09_marked.l0 k seen ((iota i).filter (rdOf false seen)) i) ((iota seen.length).filter (rdOf false seen)) := by
    intro m
    induction m with
    | zero =>
      intro i hi
      obtain rfl : i = seen.length := by omega
      refine Ev.step (fun k => ?_) (Ev.now _)
      simp only [lazycref09_marked.l0]
      rw [if_neg (by omega)]
    | succ m ih =>
      intro i hi
      have h := ih (i + 1) (by omega)
      have hlen := filt_len (rdOf false seen) i
      rw [filt_snoc] at h
      refine Ev.step (fun k => ?_) h
      simp only [lazycref09_marked.l0]
      rw [if_pos (by omega), if_pos (by omega), succ_cast i (by omega)]
      by_cases hp : rdOf false seen i = true
      · rw [if_pos hp, if_pos hp, if_pos (by omega)]
      · rw [if_neg hp, if_neg hp, List.append_nil]
  exact key seen.length 0 (by omega)
theorem rchL_eq (l : List (List Int)) (starts : List Int) : (iota (rch l starts).length).filter (rdOf false (rch l starts)) = rchL l starts := by
  rw [rch_len]
  unfold rchL
  refine List.filter_congr fun x hx => ?_
  rw [mem_iota] at hx
  exact rch_at l starts x hx

/-- What Reach answers. -/
noncomputable def reachM (l : List (List Int)) (i : Int) : List Int := if Vld l ∧ nd l i then rchL l [i] else []
theorem reach_ev {l : List (List Int)} (hsm : Sm l) (i : Int) : Ev (fun k => graph_Reach.f k l i) (reachM l i) := by
  have h60 := hsm.1
  have hb := gv_ev l hsm
  have hnil : Ev (fun k => graph_Reach.j0 k i true l) [] := Ev.step (fun k => by simp only [graph_Reach.j0]; rw [if_pos trivial]) (Ev.now _)
  by_cases hv : Vld l
  · rw [(vldB_iff l).2 hv] at hb
    by_cases hi : nd l i
    · have hm : reachM l i = rchL l [i] := by unfold reachM; rw [if_pos ⟨hv, hi⟩]
      rw [hm]
      have h1 := gr_ev hv hsm (starts := [i]) (fun s hs => by rw [List.mem_singleton.1 hs]; exact hi) (by simp)
      have h2 := gc_ev (rch l [i]) (by rw [rch_len]; omega)
      rw [rchL_eq] at h2
      have h3 : Ev (fun k => graph_Reach.j0 k i false l) (rchL l [i]) := Ev.step (fun k => by simp only [graph_Reach.j0]; rw [if_neg (by simp)]) (Ev.bind h1 (f := fun k t => graph_Reach.l0 k ([] : List Int) t (t.length : Int) 0) h2)
      refine Ev.congr (fun k => ?_) (Ev.bind hb (f := fun k t => if t = true then graph_Reach.j0 k i false l else graph_Reach.j0 k i true l) h3)
      unfold graph_Reach.f
      have h4 : decide (i ≥ (l.length : Int)) = false := decide_eq_false (by have := hi.2; omega)
      rw [h4, if_neg (show ¬ i < 0 by have := hi.1; omega)]
    · have hm : reachM l i = [] := by unfold reachM; rw [if_neg (fun h => hi h.2)]
      rw [hm]
      refine Ev.congr (fun k => ?_) (Ev.bind hb (f := fun k t => graph_Reach.j0 k i true l) hnil)
      unfold graph_Reach.f
      congr 1
      funext t
      by_cases h0 : i < 0
      · rw [if_pos h0]; split <;> rfl
      · have h4 : decide (i ≥ (l.length : Int)) = true := decide_eq_true (by unfold nd at hi; omega)
        rw [if_neg h0, h4]; split <;> rfl
  · have hf : vldB l = false := Bool.eq_false_iff.2 fun e => hv ((vldB_iff l).1 e)
    rw [hf] at hb
    have hm : reachM l i = [] := by unfold reachM; rw [if_neg (fun h => hv h.1)]
    rw [hm]
    refine Ev.congr (fun k => ?_) (Ev.bind hb (f := fun k t => if t = true then (if i < 0 then graph_Reach.j0 k i true l else graph_Reach.j0 k i (decide (i ≥ (l.length : Int))) l) else graph_Reach.j0 k i true l) hnil)
    unfold graph_Reach.f
    rfl
theorem refreach_ev {l : List (List Int)} (hsm : Sm l) (i : Int) : Ev (fun k => lazycref09_Reach.f k l i) (reachM l i) := by
  have h60 := hsm.1
  have hb := rv_ev l hsm
  have hnil : Ev (fun k => lazycref09_Reach.j0 k i true l) [] := Ev.step (fun k => by simp only [lazycref09_Reach.j0]; rw [if_pos trivial]) (Ev.now _)
  by_cases hv : Vld l
  · rw [(vldB_iff l).2 hv] at hb
    by_cases hi : nd l i
    · have hm : reachM l i = rchL l [i] := by unfold reachM; rw [if_pos ⟨hv, hi⟩]
      rw [hm]
      have h1 := rf_ev hv hsm (starts := [i]) (fun s hs => by rw [List.mem_singleton.1 hs]; exact hi) (by simp)
      have h2 := mk_ev (rch l [i]) (by rw [rch_len]; omega)
      rw [rchL_eq] at h2
      have h3 : Ev (fun k => lazycref09_Reach.j0 k i false l) (rchL l [i]) := Ev.step (fun k => by simp only [lazycref09_Reach.j0]; rw [if_neg (by simp)]) (Ev.bind h1 (f := fun k t => (lazycref09_marked.f k t).bind fun t194 => some t194) (Ev.bind h2 (f := fun k t => some t) (Ev.now _)))
      refine Ev.congr (fun k => ?_) (Ev.bind hb (f := fun k t => if t = true then lazycref09_Reach.j0 k i false l else lazycref09_Reach.j0 k i true l) h3)
      unfold lazycref09_Reach.f
      have h4 : decide (i ≥ (l.length : Int)) = false := decide_eq_false (by have := hi.2; omega)
      rw [h4, if_neg (show ¬ i < 0 by have := hi.1; omega)]
    · have hm : reachM l i = [] := by unfold reachM; rw [if_neg (fun h => hi h.2)]
      rw [hm]
      refine Ev.congr (fun k => ?_) (Ev.bind hb (f := fun k t => lazycref09_Reach.j0 k i true l) hnil)
      unfold lazycref09_Reach.f
      congr 1
      funext t
      by_cases h0 : i < 0
      · rw [if_pos h0]; split <;> rfl
      · have h4 : decide (i ≥ (l.length : Int)) = true := decide_eq_true (by unfold nd at hi; omega)
        rw [if_neg h0, h4]; split <;> rfl
  · have hf : vldB l = false := Bool.eq_false_iff.2 fun e => hv ((vldB_iff l).1 e)
    rw [hf] at hb
    have hm : reachM l i = [] := by unfold reachM; rw [if_neg (fun h => hv h.1)]
    rw [hm]
    refine Ev.congr (fun k => ?_) (Ev.bind hb (f := fun k t => if t = true then (if i < 0 then lazycref09_Reach.j0 k i true l else lazycref09_Reach.j0 k i (decide (i ≥ (l.length : Int))) l) else lazycref09_Reach.j0 k i true l) hnil)
    unfold lazycref09_Reach.f
    rfl

/-- What Cyclic answers. -/
noncomputable def cycM (l : List (List Int)) (i : Int) : Bool := decide (Vld l ∧ nd l i ∧ ∃ s ∈ row l i, Rc l s i)
theorem cyc_ev {l : List (List Int)} (hsm : Sm l) (i : Int) : Ev (fun k => graph_Cyclic.f k l i) (cycM l i) := by
  have hb := gv_ev l hsm
  by_cases hv : Vld l
  · rw [(vldB_iff l).2 hv] at hb
    by_cases hi : nd l i
    · have hm : cycM l i = rdOf false (rch l (row l i)) i := by
        rw [rch_at l _ i hi]
        unfold cycM
        simp only [hv, hi, true_and]
      rw [hm]
      have h1 := gr_ev hv hsm (starts := row l i) (fun s hs => hv i hi s hs) (hsm.row i)
      refine Ev.congr (fun k => ?_) (Ev.bind hb (f := fun k t => if t = true then (graph_reached.f k l (row l i)).bind fun t => if i < (t.length : Int) then some (rdOf false t i) else none else some false) ?_)
      · unfold graph_Cyclic.f
        rw [if_neg (show ¬ i < 0 by have := hi.1; omega), if_neg (show ¬ i ≥ (l.length : Int) by have := hi.2; omega), if_pos hi.1, if_pos (show i < (l.length : Int) from hi.2)]
        rfl
      · exact Ev.bind h1 (f := fun k t => if i < (t.length : Int) then some (rdOf false t i) else none) (Ev.congr (fun k => by rw [rch_len, if_pos (show i < (l.length : Int) from hi.2)]) (Ev.now _))
    · have hm : cycM l i = false := decide_eq_false fun h => hi h.2.1
      rw [hm]
      refine Ev.congr (fun k => ?_) (Ev.bind hb (f := fun k t => some false) (Ev.now _))
      unfold graph_Cyclic.f
      congr 1
      funext t
      by_cases h0 : i < 0
      · rw [if_pos h0]; split <;> rfl
      · rw [if_neg h0, if_pos (show i ≥ (l.length : Int) by unfold nd at hi; omega)]; split <;> rfl
  · have hf : vldB l = false := Bool.eq_false_iff.2 fun e => hv ((vldB_iff l).1 e)
    rw [hf] at hb
    have hm : cycM l i = false := decide_eq_false fun h => hv h.1
    rw [hm]
    obtain ⟨K, hK⟩ := hb
    refine ⟨K, fun k hk => ?_⟩
    show graph_Cyclic.f k l i = _
    have e : graph_valid.f k l = some false := hK k hk
    unfold graph_Cyclic.f
    rw [e]
    rfl
theorem refcyc_ev {l : List (List Int)} (hsm : Sm l) (i : Int) : Ev (fun k => lazycref09_Cyclic.f k l i) (cycM l i) := by
  have hb := rv_ev l hsm
  by_cases hv : Vld l
  · rw [(vldB_iff l).2 hv] at hb
    by_cases hi : nd l i
    · have hm : cycM l i = rdOf false (rch l (row l i)) i := by
        rw [rch_at l _ i hi]
        unfold cycM
        simp only [hv, hi, true_and]
      rw [hm]
      have h1 := rf_ev hv hsm (starts := row l i) (fun s hs => hv i hi s hs) (hsm.row i)
      refine Ev.congr (fun k => ?_) (Ev.bind hb (f := fun k t => if t = true then (lazycref09_from.f k l (row l i)).bind fun t => if i < (t.length : Int) then some (rdOf false t i) else none else some false) ?_)
      · unfold lazycref09_Cyclic.f
        rw [if_pos (show i ≥ 0 from hi.1), if_pos (show i < (l.length : Int) from hi.2), if_pos hi.1]
        rfl
      · exact Ev.bind h1 (f := fun k t => if i < (t.length : Int) then some (rdOf false t i) else none) (Ev.congr (fun k => by rw [rch_len, if_pos (show i < (l.length : Int) from hi.2)]) (Ev.now _))
    · have hm : cycM l i = false := decide_eq_false fun h => hi h.2.1
      rw [hm]
      refine Ev.congr (fun k => ?_) (Ev.bind hb (f := fun k t => some false) (Ev.now _))
      unfold lazycref09_Cyclic.f
      congr 1
      funext t
      by_cases h0 : i ≥ 0
      · rw [if_pos h0, if_neg (show ¬ i < (l.length : Int) by unfold nd at hi; omega)]; split <;> rfl
      · rw [if_neg h0]; split <;> rfl
  · have hf : vldB l = false := Bool.eq_false_iff.2 fun e => hv ((vldB_iff l).1 e)
    rw [hf] at hb
    have hm : cycM l i = false := decide_eq_false fun h => hv h.1
    rw [hm]
    obtain ⟨K, hK⟩ := hb
    refine ⟨K, fun k hk => ?_⟩
    show lazycref09_Cyclic.f k l i = _
    have e : lazycref09_Valid.f k l = some false := hK k hk
    unfold lazycref09_Cyclic.f
    rw [e]
    rfl
end Tp
end Go.Proofs.Ytpmjpngmmphkmaa
/- GraphReach as printed answers true for every graph whose rows have a bounded length. -/
namespace Go.Proofs.Ytpmjpngmmphkmaa
open Go.RowKit Go.Proofs.YtpmjpngmmphkmaaW.PrintWords Go.Proofs.YtpmjpngmmphkmaaW.PrintLast Go.Proofs.YtpmjpngmmphkmaaW.PrintMore Go.Proofs.Ytpmjpngmmphkmaa.P
namespace Tp
open Tj Rw Od
theorem GraphReach (l : List (List Int)) (h : ∀ r ∈ l, r.length * 8 ≤ 140737488351232) (i : Int) : ∃ k, lazyclaw09_GraphReach.f k l i = some true := by
  refine Ev.rounds (g := fun k => lazyclaw09_GraphReach.f k l i) ?_
  obtain ⟨b, b1, b2⟩ := small_ev l h
  refine Ev.bind b1 (f := fun k t => if t = true then _ else _) ?_
  cases b with
  | false => exact Ev.now true
  | true =>
    have hs := b2 rfl
    have hlen : (reachM l i).length < 1000000 := by
      unfold reachM
      split
      · have := rchL_len l [i]
        have := hs.1
        omega
      · simp
    refine Ev.bind (reach_ev hs i) (f := fun k t => _) (Ev.bind (refreach_ev hs i) (f := fun k t => _) (Ev.bind (si_ev _ _ hlen) (f := fun k t => _) ?_))
    rw [decide_eq_true rfl]
    refine Ev.bind (cyc_ev hs i) (f := fun k t => _) (Ev.bind (refcyc_ev hs i) (f := fun k t => _) ?_)
    rw [show (cycM l i == cycM l i) = true by simp]
    exact Ev.now true
end Tp
end Go.Proofs.Ytpmjpngmmphkmaa
/- The law GraphReach of the graph chapter holds: for every input it returns true, and the input reads as it did. -/
namespace Go.Proofs.Ytpmjpngmmphkmaa.graphReach
open Go.ChangeShapes Go.WideShapes Go.ChangeAt Go.RowKit
set_option linter.unusedVariables false
theorem own : ownKnob Try.prog.godebug = none := by kernel_rfl
theorem laidOut : laidOutB Try.prog = true := by kernel_rfl
set_option maxRecDepth 100000 in
theorem lifted (os : Os) (started : os.Started) (H : Type) (enc : TypeId × Value → H) :
    ReturnsInHanded {} Try.checked os 6 .any (Rows.graphReachSpec.pre6 enc Try.prog Try.f6 Rows.graphReachRow.domain false) (Rows.graphReachSpec.post enc Try.prog Try.f6 false true false false) := by
  refine returnsInHanded_of_change_sized (C := Try.checked) own started (by kernel_rfl) Try.func6
    (ChangeSpec.witness6 (enc := enc) (C := Try.checked) false ⟨#[], #[.agg #[.slice none 0 0], .int .i64 0], []⟩ 8 (by kernel_rfl) (by kernel_rfl) (by kernel_rfl) (by kernel_rfl)) ?_
  intro W base args ds gs before hval0 hW hcnd hsz0 _
  have hsz : (DataW.weightsEach Try.prog (Try.f6.params.toList ++ Rows.graphReachSpec.plain.varTypes Try.prog) (ds ++ gs)).all (· ≤ reachBytes) = true := hsz0
  have hval : ∀ (j : Nat) t v, Try.f6.params[j]? = some t → args[j]? = some v → Value.okWide Try.prog W .any base t v := hval0
  have hW' := hW
  obtain ⟨p, q, hA0, hV, rfl, hfz, hnd⟩ := hW
  have hA : DataW.TrodAll enc Try.prog W 0 (fun _ => true) true Try.f6.params.toList args.toList ds p := hA0
  rw [Try.params6] at hA hval hsz
  obtain ⟨v0, vs0, d0, ds0, p0, q0, hargs, rfl, rfl, h0, r0⟩ := trodAll_cons hA
  obtain ⟨v1, vs1, d1, ds1, p1, q1, rfl, rfl, rfl, h1, r1⟩ := trodAll_cons r0
  obtain ⟨rfl, rfl, rfl⟩ := trodAll_nil r1
  obtain rfl : args = #[v0, v1] := by cases args; simp_all
  obtain ⟨rfl, rfl⟩ := trodVars_none hV
  have k0 := h0
  have lt0 : ∀ x ∈ p0, x.block < W.heap.size := by obtain ⟨m, hm⟩ := k0; exact DataW.trod_lt m _ _ _ hm
  obtain ⟨A0, c0, l0, rfl, hc0, hr0, y0⟩ := Gr.open_graph (hval 0 24 v0 rfl rfl) hsz (j := 0) rfl rfl h0
  obtain ⟨a1, rfl, rfl, rfl, w1⟩ := open_int Try.underlying3 (hval 1 3 v1 rfl rfl) h1
  clear hA0 hval0 hsz0 hsz
  obtain ⟨kr, hkr⟩ := Tp.GraphReach l0 y0 a1
  refine (P.lazyclaw09_GraphReach.calls kr A0 c0 l0 a1 true W hr0 hc0 hkr).mono fun e W' ⟨he, bel⟩ => ?_
  subst he
  exact ⟨_, rfl, _, _, _, [], _, [], hW', trodAll_mk1 (shut_bool Try.underlying4 _), (trodAll_cons_mk (Below.trod laidOut (by kernel_rfl) (of_decide_eq_true (by kernel_rfl)) k0 bel lt0) (trodAll_cons_mk (shut_int Try.underlying3 w1) trodAll_mk0)), rfl, bel.frame _, fun h => by cases h⟩
theorem over : Rows.graphReachRow.holds Try.pinned (OpenSpec.ofChange Rows.graphReachSpec) :=
  OpenClaim.holds_of_wide 6 Try.f6 rfl rfl rfl rfl rfl rfl rfl ⟨rfl, rfl, rfl, rfl, rfl⟩ rfl rfl rfl rfl rfl (by kernel_rfl) Try.func6 (by kernel_rfl)
    (of_decide_eq_true (by kernel_rfl)) (by unfold Func.isWrapper; first | (rw [if_pos (by decide +kernel)]; kernel_rfl) | (rw [if_neg (by decide +kernel)]; exact ⟨rfl, rfl⟩))
    (fun os started H enc _ => lifted os started H enc)
theorem proved : Rows.GraphReachSaid := over
#print axioms proved
end Go.Proofs.Ytpmjpngmmphkmaa.graphReach
namespace Go.Proofs.Ytpmjpngmmphkmaa
/-- The row, under a short name, for the claim. -/
theorem graphReach_holds : Rows.GraphReachSaid := graphReach.proved
end Go.Proofs.Ytpmjpngmmphkmaa
