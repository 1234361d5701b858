/- Part 3 of 4 of one proof: The groups and the counts of open edges that graph.ordered makes are what the numbering of the components says: for every valid graph with less than 1000000 nodes -/
import Derived.Test.YtpmjpngmmphkmaaMComps1
import Derived.Test.YtpmjpngmmphkmaaMComps2
set_option linter.unusedVariables false
set_option linter.unusedSimpArgs false
namespace Go.Proofs.Ytpmjpngmmphkmaa.P
open Go.RowKit Go.Proofs.YtpmjpngmmphkmaaW.PrintWords Go.Proofs.YtpmjpngmmphkmaaW.PrintLast Go.Proofs.YtpmjpngmmphkmaaW.PrintMore
attribute [local go_sem] max2_int min2_int max_two min_two max_three min_three max_four min_four   -- for this text's walks alone
set_option linter.unusedVariables false
set_option linter.unusedSimpArgs false

/-! ### slices_Contains_int_int: function 31 -/
noncomputable def slices_Contains_int_int.f (k : Nat) (l0 : List Int) (a1 : Int) : Option (Bool) := (slices_Index_int_int.f k l0 a1).bind fun t117 => (some (decide (t117 ≥ 0)))
theorem slices_Contains_int_int.mono : ∀ a0 a1 k, LeO (slices_Contains_int_int.f k a0 a1) (slices_Contains_int_int.f (k + 1) a0 a1) := by
  intro a0 a1 k
  unfold slices_Contains_int_int.f
  repeat' first
      | (with_reducible exact slices_Index_int_int.mono _ _ _)
      | (with_reducible exact LeO.refl _)
      | (with_reducible exact LeO.none _)
      | (with_reducible refine LeO.ite ?_ ?_)
      | (with_reducible refine LeO.bind ?_ (fun _ => ?_))
      | exact slices_Index_int_int.mono _ _ _
      | exact LeO.none _
      | refine LeO.ite ?_ ?_
      | refine LeO.bind ?_ (fun _ => ?_)
set_option maxHeartbeats 8000000 in
set_option maxRecDepth 100000 in
theorem slices_Contains_int_int.calls (k : Nat) (A0 : Option Addr) (c0 : Nat) (l0 : List Int) (a1 : Int) (r : Bool) (w : World) (hr0 : Kd.C (Kd.int .i64) w A0 l0.length l0) (hc0 : l0.length ≤ c0) (h : slices_Contains_int_int.f k l0 a1 = some r) :
    Calls Try.prog 31 #[.slice A0 l0.length c0, .int .i64 a1] w fun e w' => e = .returned (.bool r) ∧ Drawn0 w w' := by
  have HR0 := aM hr0
  have HC0 := aM hc0
  clear hr0 hc0
  have H : ((slices_Index_int_int.f k l0 a1).bind fun t117 => (some (decide (t117 ≥ 0)))) = some r := h
  clear h
  replace H := Option.bind_eq_some_iff.mp H
  obtain ⟨t117, A30, H⟩ := H
  replace H : (some (decide (t117 ≥ 0))) = some r := H
  have A3 := aM A30
  clear A30
  obtain rfl := Option.some.inj H
  go_enter Try.func31, Try.ntmps31
  go_wp2_with (first | ((with_reducible refine gate_callee (f := 42) rfl ?_); refine goesL_ (some 7) rfl rfl Try.func42 (by kernel_rfl) rfl #[.slice A0 l0.length c0, .int .i64 a1] rfl (by (try simp only [List.map_toArray, List.map_cons, List.map_nil]); first | done | rfl | (simp only [List.length_drop, List.length_take]; rfl)) ?_; (with_reducible refine (slices_Index_int_int.calls k _ _ l0 a1 t117 _ ?side1 ?side2 A3.out).mono ?_); (case side1 => repeat (first | exact HR0.out | (with_reducible refine Kd.C_alloc ?_ _) | (with_reducible refine Kd.C_drewN ?_ _) | (with_reducible refine Kd.C_drew ?_))); (case side2 => exact HC0.out); rintro e w' ⟨rfl, ⟨nd, rfl⟩⟩; refine ⟨_, rfl, ?_⟩))
  go_ret
  exact ⟨by first | rfl | (simp; done) | (simp [*]; done), by repeat (first | exact Drawn0.refl _ | apply Drawn0.step)⟩

/-! ### graph_reached: function 33 -/
noncomputable def graph_reached.l0 : Nat → List (List Int) → List Bool → List Int → Option (List Bool)
  | 0, _, _, _ => none
  | k + 1, x0, x5, x6 => if (x6.length : Int) > 0 then (if 0 ≤ (wrap64 ((x6.length : Int) - 1)) then (if (wrap64 ((x6.length : Int) - 1)) < (x6.length : Int) then (if (wrap64 ((x6.length : Int) - 1)) ≤ (x6.length : Int) then ((some (x6.take ((wrap64 ((x6.length : Int) - 1)) : Int).toNat : List Int)).bind fun y125 => (if 0 ≤ (rd x6 (wrap64 ((x6.length : Int) - 1))) then (if (rd x6 (wrap64 ((x6.length : Int) - 1))) < (x5.length : Int) then (if (rdOf false x5 (rd x6 (wrap64 ((x6.length : Int) - 1))) = true) then (graph_reached.l0 k x0 x5 y125) else (if (rd x6 (wrap64 ((x6.length : Int) - 1))) < (x0.length : Int) then (if y125.length + (rd_L1 x0 (rd x6 (wrap64 ((x6.length : Int) - 1)))).length < 17592186044416 then (graph_reached.l0 k x0 (x5.set ((rd x6 (wrap64 ((x6.length : Int) - 1))) : Int).toNat true) (y125 ++ (rd_L1 x0 (rd x6 (wrap64 ((x6.length : Int) - 1)))))) else (none)) else (none))) else (none)) else (none))) else (none)) else (none)) else (none)) else (some x5)
noncomputable def graph_reached.f (k : Nat) (l0 : List (List Int)) (l1 : List Int) : Option (List Bool) := if 0 ≤ (l0.length : Int) then (if ((l0.length : Int) : Int).toNat ≤ 281474976710656 then ((slices_Clone_int.f l1).bind fun t121 => (graph_reached.l0 k l0 (List.replicate ((l0.length : Int) : Int).toNat false) t121)) else (none)) else (none)
theorem graph_reached.mono_l : ∀ k, (∀ y0 y1 y2, LeO (graph_reached.l0 k y0 y1 y2) (graph_reached.l0 (k + 1) y0 y1 y2))
  | 0 => fun _ _ _ r h => by simp [graph_reached.l0] at h
  | k + 1 => by
    have ih0 := graph_reached.mono_l k
    · intro y0 y1 y2
      unfold graph_reached.l0
      repeat' first
      | (with_reducible exact ih0 _ _ _)
      | (with_reducible exact LeO.refl _)
      | (with_reducible exact LeO.none _)
      | (with_reducible refine LeO.ite ?_ ?_)
      | (with_reducible refine LeO.bind ?_ (fun _ => ?_))
      | exact ih0 _ _ _
      | exact LeO.none _
      | refine LeO.ite ?_ ?_
      | refine LeO.bind ?_ (fun _ => ?_)
theorem graph_reached.mono : ∀ a0 a1 k, LeO (graph_reached.f k a0 a1) (graph_reached.f (k + 1) a0 a1) := by
  intro a0 a1 k
  have ih0 := graph_reached.mono_l k
  unfold graph_reached.f
  repeat' first
      | (with_reducible exact ih0 _ _ _)
      | (with_reducible exact LeO.refl _)
      | (with_reducible exact LeO.none _)
      | (with_reducible refine LeO.ite ?_ ?_)
      | (with_reducible refine LeO.bind ?_ (fun _ => ?_))
      | exact ih0 _ _ _
      | exact LeO.none _
      | refine LeO.ite ?_ ?_
      | refine LeO.bind ?_ (fun _ => ?_)
set_option maxHeartbeats 8000000 in
set_option maxRecDepth 100000 in
theorem graph_reached.calls (k : Nat) (A0 : Option Addr) (c0 : Nat) (l0 : List (List Int)) (A1 : Option Addr) (c1 : Nat) (l1 : List Int) (r : List Bool) (w : World) (hr0 : Kd.C (Kd.slice 3 (Kd.int .i64)) w A0 l0.length l0) (hc0 : l0.length ≤ c0) (hr1 : Kd.C (Kd.int .i64) w A1 l1.length l1) (hc1 : l1.length ≤ c1) (h : graph_reached.f k l0 l1 = some r) :
    Calls Try.prog 33 #[.slice A0 l0.length c0, .slice A1 l1.length c1] w fun e w' => ∃ v0_ : Value, e = .returned (v0_) ∧ Kd.R Kd.bool 4 w' w.heap.size (fun _ => True) v0_ r ∧ Below w.heap.size w w' := by
  have HR0 := aM hr0
  have HC0 := aM hc0
  clear hr0 hc0
  have HR1 := aM hr1
  have HC1 := aM hc1
  clear hr1 hc1
  have HB := aM (Below.refl w.heap.size w)
  have H : (if 0 ≤ (l0.length : Int) then (if ((l0.length : Int) : Int).toNat ≤ 281474976710656 then ((slices_Clone_int.f l1).bind fun t121 => (graph_reached.l0 k l0 (List.replicate ((l0.length : Int) : Int).toNat false) t121)) else (none)) else (none)) = some r := h
  clear h
  by_cases c3 : 0 ≤ (l0.length : Int)
  · rw [if_pos c3] at H
    have c3b0 := eq_true c3
    have c3b1 : decide (0 ≤ (l0.length : Int)) = true := decide_eq_true c3
    clear c3
    by_cases c4 : ((l0.length : Int) : Int).toNat ≤ 281474976710656
    · rw [if_pos c4] at H
      have c4b0 := eq_true c4
      have c4b1 : decide (((l0.length : Int) : Int).toNat ≤ 281474976710656) = true := decide_eq_true c4
      clear c4
      obtain ⟨y118, hy118⟩ : ∃ y_ : List Bool, y_ = (List.replicate ((l0.length : Int) : Int).toNat false) := ⟨_, rfl⟩
      replace H : ((slices_Clone_int.f l1).bind fun t121 => (graph_reached.l0 k l0 y118 t121)) = some r := by first | (rw [hy118]; with_reducible exact H) | (have H2_ := (Option.bind_some _ _).symm.trans H; rw [hy118]; with_reducible exact H2_) | (have H2_ := (Option.bind_some _ _).symm.trans H; with_reducible exact H2_) | with_reducible exact H | (rw [hy118]; exact H) | exact H
      have Ny118 := aM hy118
      clear hy118
      replace H := Option.bind_eq_some_iff.mp H
      obtain ⟨t121, A50, H⟩ := H
      replace H : (graph_reached.l0 k l0 y118 t121) = some r := H
      have A5 := aM A50
      clear A50
      have H' := aM H
      clear H
      go_enter Try.func33, Try.ntmps33
      go_wp2_with (first | ((with_reducible refine gate_dst (N := 10) rfl ?_); refine Kd.R_make Kd.bool _ 4 rfl (N := 10) rfl 48 _ _ rfl (l0.length : Int) rfl rfl Try.underlying48 (.bool false) 1 info4 rfl (by decide) (by omega) false (ok := fun _ => True) (okp := fun _ => True) rfl (fun _ hk => hk) trivial (of_decide_eq_true (by first | (with_reducible assumption) | assumption)) (Nat.le_trans (Nat.mul_le_mul_right _ (of_decide_eq_true (by first | (with_reducible assumption) | assumption) : (l0.length : Int).toNat ≤ 281474976710656)) (by omega)) (Below.refl _ _) (Nat.le_refl _) ?_; intro v119 w6 ho7 hb hg_ hnew_; clear hg_ hnew_; (first | rw [← Ny118.out] at ho7 | (simp only [Int.reduceToNat] at ho7; rw [← Ny118.out] at ho7)); have n0_ := aM (Kd.R_lower ho7 (below_size (by repeat (first | (with_reducible first | exact HB.out | apply bA | apply bN | apply bD) | exact HB.out)))); have n1_ := aM (below_step (by repeat (first | (with_reducible first | exact HB.out | apply bA | apply bN | apply bD) | exact HB.out)) hb); clear HB; have HO120 := n0_; have HB := n1_; clear n0_ n1_; clear hb ho7) | ((with_reducible refine gate_callee (f := 43) rfl ?_); refine goesL_ (some 12) rfl rfl Try.func43 (by kernel_rfl) rfl #[.slice A1 l1.length c1] rfl (by (try simp only [List.map_toArray, List.map_cons, List.map_nil]); first | done | rfl | (simp only [List.length_drop, List.length_take]; rfl)) ?_; (with_reducible refine (slices_Clone_int.calls _ _ l1 t121 _ ?side1 ?side2 A5.out).mono ?_); (case side1 => repeat (first | exact (Kd.C_below HR1.out HB.out) | (with_reducible refine Kd.C_alloc ?_ _) | (with_reducible refine Kd.C_drewN ?_ _) | (with_reducible refine Kd.C_drew ?_))); (case side2 => exact HC1.out); rintro e w8 ⟨v122, rfl, ho0, hb⟩; refine ⟨_, rfl, ?_⟩; have n0_ := aM (Kd.R_below (by (with_reducible repeat (first | apply Kd.R_alloc | apply Kd.R_drewN | apply Kd.R_drew)); exact HO120.out) hb); have n1_ := aM (Kd.R_lower ho0 (below_size (by repeat (first | (with_reducible first | exact HB.out | apply bA | apply bN | apply bD) | exact HB.out)))); have n2_ := aM (below_step (by repeat (first | (with_reducible first | exact HB.out | apply bA | apply bN | apply bD) | exact HB.out)) hb); clear HO120; clear HB; have HO120 := n0_; have HO123 := n1_; have HB := n2_; clear n0_ n1_ n2_; (try clear hb); (try clear hb2); (try clear hk); (try clear hi); (try clear ho0)))
      go_loopg [6] k (fun kq v6 w' => ∃ (x5_1 : List Bool) (x6_1 : List Int), Aside0 (graph_reached.l0 kq l0 x5_1 x6_1 = some r) ∧ Aside0 (kq ≤ k) ∧ Aside0 (Kd.R Kd.bool 4 w' w.heap.size (fun _ => True) v119 x5_1) ∧ Aside0 (Kd.R (Kd.int .i64) 3 w' w.heap.size (fun _ => True) v6 x6_1) ∧ Aside0 (Below w.heap.size w w'))
      case atStart => exact ⟨(y118), (t121), H', ⟨Nat.le_refl _⟩, ⟨by (with_reducible repeat (first | apply Kd.R_alloc | apply Kd.R_drewN | apply Kd.R_drew)); exact HO120.out⟩, ⟨by (with_reducible repeat (first | apply Kd.R_alloc | apply Kd.R_drewN | apply Kd.R_drew)); exact HO123.out⟩, ⟨by repeat (first | (with_reducible first | exact HB.out | apply bA | apply bN | apply bD) | exact HB.out)⟩⟩
      case round =>
        clear H'
        try clear c1
        try clear p2
        try clear c3
        try clear c3b0
        try clear c3b1
        try clear c4
        try clear c4b0
        try clear c4b1
        obtain ⟨x5_1, x6_1, HA, HK1, HO_5, HO_6, HB⟩ := hrel
        cases gk with
        | zero => exact absurd HA.out (by simp [graph_reached.l0])
        | succ k1 =>
          have H := HA.out
          clear HA
          simp only [graph_reached.l0] at H
          by_cases c9 : (x6_1.length : Int) > 0
          · rw [if_pos c9] at H
            have c9b0 : decide (0 < (x6_1.length : Int)) = true := decide_eq_true c9
            have c9b1 : decide (0 < x6_1.length) = true := decide_eq_true (by omega)
            clear c9
            obtain ⟨ji10, hji10⟩ : ∃ j_ : Int, (wrap64 ((x6_1.length : Int) - 1)) = j_ := ⟨_, rfl⟩
            replace H : (if 0 ≤ (ji10) then (if (ji10) < (x6_1.length : Int) then (if (ji10) ≤ (x6_1.length : Int) then ((some (x6_1.take ((ji10) : Int).toNat : List Int)).bind fun y125 => (if 0 ≤ (rd x6_1 (ji10)) then (if (rd x6_1 (ji10)) < (x5_1.length : Int) then (if (rdOf false x5_1 (rd x6_1 (ji10)) = true) then (graph_reached.l0 k1 l0 x5_1 y125) else (if (rd x6_1 (ji10)) < (l0.length : Int) then (if y125.length + (rd_L1 l0 (rd x6_1 (ji10))).length < 17592186044416 then (graph_reached.l0 k1 l0 (x5_1.set ((rd x6_1 (ji10)) : Int).toNat true) (y125 ++ (rd_L1 l0 (rd x6_1 (ji10))))) else (none)) else (none))) else (none)) else (none))) else (none)) else (none)) else (none)) = some r := by first | (rw [hji10] at H; exact H) | (simp only [hji10] at H ⊢; exact H)
            have hji10w : (IntKind.i64.wrap ((x6_1.length : Int) - 1)) = ji10 := (i64_w _).trans hji10
            by_cases c11 : 0 ≤ (ji10)
            · rw [if_pos c11] at H
              have c11b0 : decide (0 ≤ (ji10)) = true := decide_eq_true c11
              clear c11
              by_cases c12 : (ji10) < (x6_1.length : Int)
              · rw [if_pos c12] at H
                have c12b0 : decide ((ji10) < (x6_1.length : Int)) = true := decide_eq_true c12
                clear c12
                by_cases c13 : (ji10) ≤ (x6_1.length : Int)
                · rw [if_pos c13] at H
                  have c13b0 := eq_true c13
                  have c13b1 : decide ((ji10) ≤ (x6_1.length : Int)) = true := decide_eq_true c13
                  clear c13
                  obtain ⟨y125, hy125⟩ : ∃ y_ : List Int, y_ = (x6_1.take ((ji10) : Int).toNat) := ⟨_, rfl⟩
                  replace H : (if 0 ≤ (rd x6_1 (ji10)) then (if (rd x6_1 (ji10)) < (x5_1.length : Int) then (if (rdOf false x5_1 (rd x6_1 (ji10)) = true) then (graph_reached.l0 k1 l0 x5_1 y125) else (if (rd x6_1 (ji10)) < (l0.length : Int) then (if y125.length + (rd_L1 l0 (rd x6_1 (ji10))).length < 17592186044416 then (graph_reached.l0 k1 l0 (x5_1.set ((rd x6_1 (ji10)) : Int).toNat true) (y125 ++ (rd_L1 l0 (rd x6_1 (ji10))))) else (none)) else (none))) else (none)) else (none)) = some r := by first | (rw [hy125]; with_reducible exact H) | (have H2_ := (Option.bind_some _ _).symm.trans H; rw [hy125]; with_reducible exact H2_) | (have H2_ := (Option.bind_some _ _).symm.trans H; with_reducible exact H2_) | with_reducible exact H | (rw [hy125]; exact H) | exact H
                  have Ny125 := aM hy125
                  clear hy125
                  by_cases c14 : 0 ≤ (rd x6_1 (ji10))
                  · rw [if_pos c14] at H
                    have c14b0 : decide (0 ≤ (rd x6_1 (ji10))) = true := decide_eq_true c14
                    clear c14
                    by_cases c15 : (rd x6_1 (ji10)) < (x5_1.length : Int)
                    · rw [if_pos c15] at H
                      have c15b0 : decide ((rd x6_1 (ji10)) < (x5_1.length : Int)) = true := decide_eq_true c15
                      clear c15
                      obtain ⟨bq16, hbq16⟩ : ∃ b_ : Bool, b_ = (rdOf false x5_1 (rd x6_1 (ji10))) := ⟨_, rfl⟩
                      replace H : (if (bq16 = true) then (graph_reached.l0 k1 l0 x5_1 y125) else (if (rd x6_1 (ji10)) < (l0.length : Int) then (if y125.length + (rd_L1 l0 (rd x6_1 (ji10))).length < 17592186044416 then (graph_reached.l0 k1 l0 (x5_1.set ((rd x6_1 (ji10)) : Int).toNat true) (y125 ++ (rd_L1 l0 (rd x6_1 (ji10))))) else (none)) else (none))) = some r := by rw [← hbq16] at H; exact H
                      have Nbq16 := aM hbq16
                      clear hbq16
                      by_cases c17 : (bq16 = true)
                      · subst c17
                        have H1 : (graph_reached.l0 k1 l0 x5_1 y125) = some r := by rw [if_pos rfl] at H; exact H
                        clear H
                        have H := H1
                        clear H1
                        have H' := aM H
                        clear H
                        obtain ⟨Ao18, co18, eo18⟩ := Kd.R_slice HO_6.out
                        subst eo18
                        have p124 : 0 ≤ ((ji10) : Int) := of_decide_eq_true (by first | (with_reducible assumption) | assumption)
                        have q124 : (ji10) < (x6_1.length : Int) := of_decide_eq_true (by first | (with_reducible assumption) | assumption)
                        obtain ⟨ad124, e124, hx124_0⟩ := Kd.at_int (Kd.R_reads' HO_6.out).2.2 (ji10) p124 q124
                        cases e124
                        replace p124 := eq_true p124
                        replace q124 := eq_true q124
                        have q19 : ((ji10) : Int) ≤ ((x6_1.length : Int) : Int) := of_decide_eq_true (by first | (with_reducible assumption) | assumption)
                        obtain ⟨i019, hi019, _, hsz19, _⟩ := info_parts info3
                        have hcut19 := cut_to (P := Try.prog) 32 3 .i64 Try.underlying32 hi019 (some ad124) x6_1.length co18 (ji10) (of_decide_eq_true (by first | (with_reducible assumption) | assumption)) q19 (Kd.R_reads' HO_6.out).2.1
                        have hr19 := Kd.R_take (m := ((ji10) : Int).toNat) HO_6.out (by omega)
                        have hy19 : y125.length = ((ji10) : Int).toNat := (by rw [Ny125.out, List.length_take]; omega)
                        rw [← Ny125.out] at hr19
                        rw [← hy19] at hr19 hcut19
                        clear hy19 hi019 hsz19 HO_6
                        have HO127 := aM hr19
                        clear hr19
                        replace q19 := eq_true q19
                        obtain ⟨Ao20, co20, eo20⟩ := Kd.R_slice HO_5.out
                        subst eo20
                        have p128 : 0 ≤ ((rd x6_1 (ji10)) : Int) := of_decide_eq_true (by first | (with_reducible assumption) | assumption)
                        have q128 : (rd x6_1 (ji10)) < (x5_1.length : Int) := of_decide_eq_true (by first | (with_reducible assumption) | assumption)
                        obtain ⟨ad128, e128, hx128_0⟩ := Kd.at_bool (Kd.R_reads' HO_5.out).2.2 (rd x6_1 (ji10)) p128 q128
                        (try rw [← Nbq16.out] at hx128_0)
                        cases e128
                        replace p128 := eq_true p128
                        replace q128 := eq_true q128
                        go_wp2
                        go_roundg k1
                        case measure => have := HK1.out; omega
                        case rel => exact ⟨(x5_1), (y125), H', ⟨by have := HK1.out; omega⟩, ⟨by (with_reducible repeat (first | apply Kd.R_alloc | apply Kd.R_drewN | apply Kd.R_drew)); exact HO_5.out⟩, ⟨by (with_reducible repeat (first | apply Kd.R_alloc | apply Kd.R_drewN | apply Kd.R_drew)); exact HO127.out⟩, ⟨by repeat (first | (with_reducible first | exact HB.out | apply bA | apply bN | apply bD) | exact HB.out)⟩⟩
                      · replace c17 := Bool.eq_false_iff.mpr c17
                        subst c17
                        have H1 : (if (rd x6_1 (ji10)) < (l0.length : Int) then (if y125.length + (rd_L1 l0 (rd x6_1 (ji10))).length < 17592186044416 then (graph_reached.l0 k1 l0 (x5_1.set ((rd x6_1 (ji10)) : Int).toNat true) (y125 ++ (rd_L1 l0 (rd x6_1 (ji10))))) else (none)) else (none)) = some r := by rw [if_neg (show ¬ (false = true) by decide)] at H; exact H
                        clear H
                        have H := H1
                        clear H1
                        obtain ⟨y129, hy129⟩ : ∃ y_ : List Bool, y_ = (x5_1.set ((rd x6_1 (ji10)) : Int).toNat true) := ⟨_, rfl⟩
                        replace H : (if (rd x6_1 (ji10)) < (l0.length : Int) then (if y125.length + (rd_L1 l0 (rd x6_1 (ji10))).length < 17592186044416 then (graph_reached.l0 k1 l0 y129 (y125 ++ (rd_L1 l0 (rd x6_1 (ji10))))) else (none)) else (none)) = some r := by first | (rw [hy129]; with_reducible exact H) | (have H2_ := (Option.bind_some _ _).symm.trans H; rw [hy129]; with_reducible exact H2_) | (have H2_ := (Option.bind_some _ _).symm.trans H; with_reducible exact H2_) | with_reducible exact H | (rw [hy129]; exact H) | exact H
                        have Ny129 := aM hy129
                        clear hy129
                        by_cases c22 : (rd x6_1 (ji10)) < (l0.length : Int)
                        · rw [if_pos c22] at H
                          have c22b0 : decide ((rd x6_1 (ji10)) < (l0.length : Int)) = true := decide_eq_true c22
                          clear c22
                          by_cases c23 : y125.length + (rd_L1 l0 (rd x6_1 (ji10))).length < 17592186044416
                          · rw [if_pos c23] at H
                            have LMc23 := aM c23
                            clear c23
                            obtain ⟨y131, hy131⟩ : ∃ y_ : List Int, y_ = (y125 ++ (rd_L1 l0 (rd x6_1 (ji10)))) := ⟨_, rfl⟩
                            replace H : (graph_reached.l0 k1 l0 y129 y131) = some r := by first | (rw [hy131]; with_reducible exact H) | (have H2_ := (Option.bind_some _ _).symm.trans H; rw [hy131]; with_reducible exact H2_) | (have H2_ := (Option.bind_some _ _).symm.trans H; with_reducible exact H2_) | with_reducible exact H | (rw [hy131]; exact H) | exact H
                            have Ny131 := aM hy131
                            clear hy131
                            have H' := aM H
                            clear H
                            obtain ⟨Ao24, co24, eo24⟩ := Kd.R_slice HO_6.out
                            subst eo24
                            have p124 : 0 ≤ ((ji10) : Int) := of_decide_eq_true (by first | (with_reducible assumption) | assumption)
                            have q124 : (ji10) < (x6_1.length : Int) := of_decide_eq_true (by first | (with_reducible assumption) | assumption)
                            obtain ⟨ad124, e124, hx124_0⟩ := Kd.at_int (Kd.R_reads' HO_6.out).2.2 (ji10) p124 q124
                            cases e124
                            replace p124 := eq_true p124
                            replace q124 := eq_true q124
                            have q25 : ((ji10) : Int) ≤ ((x6_1.length : Int) : Int) := of_decide_eq_true (by first | (with_reducible assumption) | assumption)
                            obtain ⟨i025, hi025, _, hsz25, _⟩ := info_parts info3
                            have hcut25 := cut_to (P := Try.prog) 32 3 .i64 Try.underlying32 hi025 (some ad124) x6_1.length co24 (ji10) (of_decide_eq_true (by first | (with_reducible assumption) | assumption)) q25 (Kd.R_reads' HO_6.out).2.1
                            have hr25 := Kd.R_take (m := ((ji10) : Int).toNat) HO_6.out (by omega)
                            have hy25 : y125.length = ((ji10) : Int).toNat := (by rw [Ny125.out, List.length_take]; omega)
                            rw [← Ny125.out] at hr25
                            rw [← hy25] at hr25 hcut25
                            clear hy25 hi025 hsz25 HO_6
                            have HO127 := aM hr25
                            clear hr25
                            replace q25 := eq_true q25
                            obtain ⟨Ao26, co26, eo26⟩ := Kd.R_slice HO_5.out
                            subst eo26
                            have p128 : 0 ≤ ((rd x6_1 (ji10)) : Int) := of_decide_eq_true (by first | (with_reducible assumption) | assumption)
                            have q128 : (rd x6_1 (ji10)) < (x5_1.length : Int) := of_decide_eq_true (by first | (with_reducible assumption) | assumption)
                            obtain ⟨ad128, e128, hx128_0⟩ := Kd.at_bool (Kd.R_reads' HO_5.out).2.2 (rd x6_1 (ji10)) p128 q128
                            (try rw [← Nbq16.out] at hx128_0)
                            cases e128
                            replace p128 := eq_true p128
                            replace q128 := eq_true q128
                            have p21 : 0 ≤ ((rd x6_1 (ji10)) : Int) := of_decide_eq_true (by first | (with_reducible assumption) | assumption)
                            have q21 : ((rd x6_1 (ji10)) : Int) < ((x5_1.length : Int) : Int) := of_decide_eq_true (by first | (with_reducible assumption) | assumption)
                            obtain ⟨go21, co21, eo21, gb21, gl21, cl21, HG21⟩ := Kd.R_form HO_5.out (by omega)
                            (first | cases eo21 | (injection eo21 with ea_ en_ ec_; (first | subst ea_ | (injection ea_ with ea_; subst ea_)); subst ec_; clear en_))
                            have GB21 := aM gb21
                            have GG21 := aM HG21
                            clear gb21 gl21 HG21
                            (first | simp only [add_plain] at hx128_0 | skip)
                            obtain ⟨hx21_0, hf21_0⟩ := Kd.R_celln false HO_5.out ((rd x6_1 (ji10)) : Int) p21 q21
                            replace p21 := eq_true p21
                            replace q21 := eq_true q21
                            have HP27 := Kd.R_putg HO_5.out ((rd x6_1 (ji10)) : Int) true
                            go_wp2_with (first | ((with_reducible refine gate_store (t := 4) (p := 34) rfl ?_); refine store_event (t := 4) (p := 34) (v := ?vo_w28) (w1 := (wr.setCell ⟨go21, ((rd x6_1 (ji10)) : Int).toNat, none⟩ (.bool true))) ?hg ?ho ?hn ?hr ?_; (case ho => rfl); (case hg => rfl); (case hn => rfl); (case hr => first | (go_simp; done) | (go_simp; rfl)); intro w28 hw; have hg : wr.grownBy w28 (some go21) := (by rw [hw]; exact HP27.2); have hp_ : Kd.R Kd.bool 4 w28 w.heap.size (fun _ => True) (.slice (some ⟨go21, 0, none⟩) x5_1.length co26) y129 := (by rw [hw, Ny129.out]; exact HP27.1); clear HP27; have n0_ := aM (hp_); have n1_ := aM (Kd.R_over' (v := (.slice (some ⟨go21, 0, none⟩) x5_1.length co26)) (by (with_reducible repeat (first | apply Kd.R_alloc | apply Kd.R_drewN | apply Kd.R_drew)); exact HO127.out) (Kd.R_typed HO_5.out) (by decide) hg); have n2_ := aM ((by rw [hw]; exact below_set (HB.out) GB21.out : Below w.heap.size w w28)); clear HO_5; clear HO127; clear HB; have HO_5 := n0_; have HO127 := n1_; have HB := n2_; clear n0_ n1_ n2_; clear hg hw hp_; have p130 : 0 ≤ ((rd x6_1 (ji10)) : Int) := of_decide_eq_true (by first | (with_reducible assumption) | assumption); have q130 : (rd x6_1 (ji10)) < (l0.length : Int) := of_decide_eq_true (by first | (with_reducible assumption) | assumption); obtain ⟨ad130, A130_0, c130_0, e130, hx130_0, hl130_0, hi130_0⟩ := at_L1 HR0.out (rd x6_1 (ji10)) p130 q130; cases e130; replace hx130_0 := (HB.out.cell (World.block_lt_of_cell? w _ hx130_0)).trans hx130_0; have HR130_0 := aM hi130_0; have HC130_0 := aM hl130_0; clear hi130_0 hl130_0; replace p130 := eq_true p130; replace q130 := eq_true q130) | ((with_reducible refine gate_builtin (b := .append) (xs := #[.tmp 35, .tmp 39]) rfl ?_); at_builtin; refine Kd.R_append_rows (Kd.int .i64) (w0 := w) w.heap.size rfl (.tmp 35) (.tmp 39) 32 3 (.int .i64 0) 8 rfl Try.underlying32 info3 rfl (by decide) (by omega) (.slice (some ad124) y125.length co24) y125 (rd_L1 l0 (rd x6_1 (ji10))) _ _ _ (fun _ => True) (fun _ => False) rfl rfl ?aO ?aR (fun _ _ h => h) (fun _ h => h.elim) ?aF ?aB ?aS ?aL ?_; (case aR => repeat (first | exact (Kd.C_below HR130_0.out HB.out) | (with_reducible refine Kd.C_alloc ?_ _) | (with_reducible refine Kd.C_drewN ?_ _) | (with_reducible refine Kd.C_drew ?_))); (case aB => exact (by repeat (first | (with_reducible first | exact HB.out | apply bA | apply bN | apply bD) | exact HB.out))); (case aF => exact (fun _ _ => trivial)); (case aO => exact (by (with_reducible repeat (first | apply Kd.R_alloc | apply Kd.R_drewN | apply Kd.R_drew)); exact HO127.out)); (case aS => exact (below_size (by repeat (first | (with_reducible first | exact HB.out | apply bA | apply bN | apply bD) | exact HB.out)))); (case aL => have := LMc23.out; omega); intro v132 w29 ho hb hg hat; rw [← Ny131.out] at ho; have n0_ := aM (Kd.R_over' (by (with_reducible repeat (first | apply Kd.R_alloc | apply Kd.R_drewN | apply Kd.R_drew)); exact HO_5.out) (Kd.R_typed (by (with_reducible repeat (first | apply Kd.R_alloc | apply Kd.R_drewN | apply Kd.R_drew)); exact HO127.out)) (by decide) hg); have n1_ := aM (hb); have n2_ := aM (ho); clear HO_5; clear HB; clear HO127; have HO_5 := n0_; have HB := n1_; have HO133 := n2_; clear n0_ n1_ n2_; clear ho hb hg hat))
                            go_roundg k1
                            case measure => have := HK1.out; omega
                            case rel => exact ⟨(y129), (y131), H', ⟨by have := HK1.out; omega⟩, ⟨by (with_reducible repeat (first | apply Kd.R_alloc | apply Kd.R_drewN | apply Kd.R_drew)); exact HO_5.out⟩, ⟨by (with_reducible repeat (first | apply Kd.R_alloc | apply Kd.R_drewN | apply Kd.R_drew)); exact HO133.out⟩, ⟨by repeat (first | (with_reducible first | exact HB.out | apply bA | apply bN | apply bD) | exact HB.out)⟩⟩
                          · rw [if_neg c23] at H
                            exact absurd H (by simp)
                        · rw [if_neg c22] at H
                          exact absurd H (by simp)
                    · rw [if_neg c15] at H
                      exact absurd H (by simp)
                  · rw [if_neg c14] at H
                    exact absurd H (by simp)
                · rw [if_neg c13] at H
                  exact absurd H (by simp)
              · rw [if_neg c12] at H
                exact absurd H (by simp)
            · rw [if_neg c11] at H
              exact absurd H (by simp)
          · rw [if_neg c9] at H
            have c9b0 : decide (0 < (x6_1.length : Int)) = false := decide_eq_false c9
            have c9b1 : decide (0 < x6_1.length) = false := decide_eq_false (by omega)
            clear c9
            obtain rfl := Option.some.inj H
            obtain ⟨Ao30, co30, eo30⟩ := Kd.R_slice HO_6.out
            subst eo30
            go_wp2
            go_ret
            exact ⟨_, by first | rfl | (simp [errW_none, errW_some] <;> rfl) | (simp [*, errW_none, errW_some] <;> rfl), by (with_reducible repeat (first | apply Kd.R_alloc | apply Kd.R_drewN | apply Kd.R_drew)); exact HO_5.out, by repeat (first | (with_reducible first | exact HB.out | apply bA | apply bN | apply bD) | exact HB.out)⟩
    · rw [if_neg c4] at H
      exact absurd H (by simp)
  · rw [if_neg c3] at H
    exact absurd H (by simp)

/-! ### graph_Cyclic: function 20 -/
noncomputable def graph_Cyclic.f (k : Nat) (l0_0 : List (List Int)) (a1 : Int) : Option (Bool) := (graph_valid.f k l0_0).bind fun t135 => (if t135 = true then (if a1 < 0 then (some false) else (if a1 ≥ (l0_0.length : Int) then (some false) else (if 0 ≤ a1 then (if a1 < (l0_0.length : Int) then ((graph_reached.f k l0_0 (rd_L1 l0_0 a1)).bind fun t137 => (if a1 < (t137.length : Int) then (some (rdOf false t137 a1)) else (none))) else (none)) else (none)))) else (some false))
theorem graph_Cyclic.mono : ∀ a0 a1 k, LeO (graph_Cyclic.f k a0 a1) (graph_Cyclic.f (k + 1) a0 a1) := by
  intro a0 a1 k
  unfold graph_Cyclic.f
  repeat' first
      | (with_reducible exact graph_reached.mono _ _ _)
      | (with_reducible exact graph_valid.mono _ _)
      | (with_reducible exact LeO.refl _)
      | (with_reducible exact LeO.none _)
      | (with_reducible refine LeO.ite ?_ ?_)
      | (with_reducible refine LeO.bind ?_ (fun _ => ?_))
      | exact graph_reached.mono _ _ _
      | exact graph_valid.mono _ _
      | exact LeO.none _
      | refine LeO.ite ?_ ?_
      | refine LeO.bind ?_ (fun _ => ?_)
noncomputable def graph_Cyclic.T3 : Bool × List (List Nat × List Nat) := (true, [([], []), ([0], [0]), ([], []), ([2], [2]), ([], []), ([3, 4], [3, 4]), ([5], [5]), ([1, 6], [1, 6]), ([], []), ([7, 8], [7, 8]), ([9], [9]), ([10, 7, 0, 1, 2, 3, 4, 5, 6, 7, 8, 9, 10], [10])])
noncomputable def graph_Cyclic.B3 : List Nat := [0, 1, 0, 4, 0, 28, 60, 127, 0, 511, 1023, 2047]
theorem graph_Cyclic.tab3 : rtab .any (opsOf Try.f20 3) = graph_Cyclic.T3 := by kernel_rfl
theorem graph_Cyclic.bits3 : waitsOk graph_Cyclic.T3.2 graph_Cyclic.B3 = true := by kernel_rfl
set_option maxHeartbeats 8000000 in
set_option maxRecDepth 100000 in
theorem graph_Cyclic.calls (k : Nat) (A0_0 : Option Addr) (c0_0 : Nat) (l0_0 : List (List Int)) (a1 : Int) (r : Bool) (w : World) (hr0_0 : Kd.C (Kd.slice 3 (Kd.int .i64)) w A0_0 l0_0.length l0_0) (hc0_0 : l0_0.length ≤ c0_0) (h : graph_Cyclic.f k l0_0 a1 = some r) :
    Calls Try.prog 20 #[.agg #[.slice A0_0 l0_0.length c0_0], .int .i64 a1] w fun e w' => e = .returned (.bool r) ∧ Below w.heap.size w w' := by
  have hu24 := Try.underlying24
  have HR0_0 := aM hr0_0
  have HC0_0 := aM hc0_0
  clear hr0_0 hc0_0
  have HB := aM (Below.refl w.heap.size w)
  have H : ((graph_valid.f k l0_0).bind fun t135 => (if t135 = true then (if a1 < 0 then (some false) else (if a1 ≥ (l0_0.length : Int) then (some false) else (if 0 ≤ a1 then (if a1 < (l0_0.length : Int) then ((graph_reached.f k l0_0 (rd_L1 l0_0 a1)).bind fun t137 => (if a1 < (t137.length : Int) then (some (rdOf false t137 a1)) else (none))) else (none)) else (none)))) else (some false))) = some r := h
  clear h
  replace H := Option.bind_eq_some_iff.mp H
  obtain ⟨t135, A30, H⟩ := H
  replace H : (if t135 = true then (if a1 < 0 then (some false) else (if a1 ≥ (l0_0.length : Int) then (some false) else (if 0 ≤ a1 then (if a1 < (l0_0.length : Int) then ((graph_reached.f k l0_0 (rd_L1 l0_0 a1)).bind fun t137 => (if a1 < (t137.length : Int) then (some (rdOf false t137 a1)) else (none))) else (none)) else (none)))) else (some false)) = some r := H
  have A3 := aM A30
  clear A30
  by_cases c4 : t135 = true
  · subst c4
    have H1 : (if a1 < 0 then (some false) else (if a1 ≥ (l0_0.length : Int) then (some false) else (if 0 ≤ a1 then (if a1 < (l0_0.length : Int) then ((graph_reached.f k l0_0 (rd_L1 l0_0 a1)).bind fun t137 => (if a1 < (t137.length : Int) then (some (rdOf false t137 a1)) else (none))) else (none)) else (none)))) = some r := by rw [if_pos rfl] at H; exact H
    clear H
    have H := H1
    clear H1
    by_cases c5 : a1 < 0
    · rw [if_pos c5] at H
      have c5b0 : decide (a1 < 0) = true := decide_eq_true c5
      clear c5
      obtain rfl := Option.some.inj H
      go_enter Try.func20, Try.ntmps20
      go_wp2_with (first | ((with_reducible refine gate_dst (N := 2) rfl ?_); (try (refine gate_guard (by rfl) ?_; dsimp only)); refine box_event ?hg (N := 2) ?hd (cs := #[.slice A0_0 l0_0.length c0_0]) (t := 24) ?hr ?_; (case hd => rfl); (case hg => rfl); (case hr => first | (go_simp; done) | (go_simp; rfl)); intro gb134 hg w6 hbox hb; have n0_ := aM (below_step (by repeat (first | (with_reducible first | exact HB.out | apply bA | apply bN | apply bD) | exact HB.out)) hb); have n1_ := aM (hbox); have n2_ := aM ((by rw [hg]; exact (below_size (by repeat (first | (with_reducible first | exact HB.out | apply bA | apply bN | apply bD) | exact HB.out))) : w.heap.size ≤ gb134)); have n3_ := aM ((by rw [hg]; exact (below_size (by repeat (first | (with_reducible first | exact HB.out | apply bA | apply bN | apply bD) | exact HB.out))) : w.heap.size ≤ gb134)); clear HB; have HB := n0_; have BK134 := n1_; have GW134 := n2_; have GE134 := n3_; clear n0_ n1_ n2_ n3_; clear hb hbox hg; have hcz7_0 : w6.cell? ⟨gb134, 0, none⟩ = some (.slice A0_0 l0_0.length c0_0) := (blk_cell BK134.out 0).trans rfl; have hfz7_0 := blk_frozen BK134.out 0) | ((with_reducible refine gate_callee (f := 27) rfl ?_); refine goesL_ (some 6) rfl rfl Try.func27 (by kernel_rfl) rfl #[.agg #[.slice A0_0 l0_0.length c0_0]] rfl (by (try simp only [List.map_toArray, List.map_cons, List.map_nil]); first | done | rfl | (simp only [List.length_drop, List.length_take]; rfl)) ?_; (with_reducible refine (graph_valid.calls k _ _ l0_0 true _ ?side1 ?side2 A3.out).mono ?_); (case side1 => repeat (first | exact (Kd.C_below HR0_0.out HB.out) | (with_reducible refine Kd.C_alloc ?_ _) | (with_reducible refine Kd.C_drewN ?_ _) | (with_reducible refine Kd.C_drew ?_))); (case side2 => exact HC0_0.out); rintro e w8 ⟨rfl, hb⟩; refine ⟨_, rfl, ?_⟩; have n0_ := aM (blk_below (g := gb134) (o := .cells #[.slice A0_0 l0_0.length c0_0] 24 (0, 0)) (by (with_reducible repeat (first | refine kN ?_ _ | refine kD ?_ | refine kA ?_ _)); exact BK134.out) hb); have n1_ := aM (below_step (by repeat (first | (with_reducible first | exact HB.out | apply bA | apply bN | apply bD | refine below_set ?_ GE134.out) | exact HB.out)) hb); clear BK134; clear HB; have BK134 := n0_; have HB := n1_; clear n0_ n1_; (try clear hb); (try clear hb2); (try clear hk); (try clear hi)))
      go_ret
      exact ⟨by first | rfl | (simp [errW_none, errW_some] <;> rfl) | (simp [*, errW_none, errW_some] <;> rfl), by repeat (first | (with_reducible first | exact HB.out | apply bA | apply bN | apply bD | refine below_set ?_ GE134.out) | exact HB.out)⟩
    · rw [if_neg c5] at H
      have c5b0 : decide (a1 < 0) = false := decide_eq_false c5
      clear c5
      by_cases c9 : a1 ≥ (l0_0.length : Int)
      · rw [if_pos c9] at H
        have c9b0 : decide ((l0_0.length : Int) ≤ a1) = true := decide_eq_true c9
        clear c9
        obtain rfl := Option.some.inj H
        go_enter Try.func20, Try.ntmps20
        go_wp2_with (first | ((with_reducible refine gate_dst (N := 2) rfl ?_); (try (refine gate_guard (by rfl) ?_; dsimp only)); refine box_event ?hg (N := 2) ?hd (cs := #[.slice A0_0 l0_0.length c0_0]) (t := 24) ?hr ?_; (case hd => rfl); (case hg => rfl); (case hr => first | (go_simp; done) | (go_simp; rfl)); intro gb134 hg w10 hbox hb; have n0_ := aM (below_step (by repeat (first | (with_reducible first | exact HB.out | apply bA | apply bN | apply bD) | exact HB.out)) hb); have n1_ := aM (hbox); have n2_ := aM ((by rw [hg]; exact (below_size (by repeat (first | (with_reducible first | exact HB.out | apply bA | apply bN | apply bD) | exact HB.out))) : w.heap.size ≤ gb134)); have n3_ := aM ((by rw [hg]; exact (below_size (by repeat (first | (with_reducible first | exact HB.out | apply bA | apply bN | apply bD) | exact HB.out))) : w.heap.size ≤ gb134)); clear HB; have HB := n0_; have BK134 := n1_; have GW134 := n2_; have GE134 := n3_; clear n0_ n1_ n2_ n3_; clear hb hbox hg; have hcz11_0 : w10.cell? ⟨gb134, 0, none⟩ = some (.slice A0_0 l0_0.length c0_0) := (blk_cell BK134.out 0).trans rfl; have hfz11_0 := blk_frozen BK134.out 0) | ((with_reducible refine gate_callee (f := 27) rfl ?_); refine goesL_ (some 6) rfl rfl Try.func27 (by kernel_rfl) rfl #[.agg #[.slice A0_0 l0_0.length c0_0]] rfl (by (try simp only [List.map_toArray, List.map_cons, List.map_nil]); first | done | rfl | (simp only [List.length_drop, List.length_take]; rfl)) ?_; (with_reducible refine (graph_valid.calls k _ _ l0_0 true _ ?side1 ?side2 A3.out).mono ?_); (case side1 => repeat (first | exact (Kd.C_below HR0_0.out HB.out) | (with_reducible refine Kd.C_alloc ?_ _) | (with_reducible refine Kd.C_drewN ?_ _) | (with_reducible refine Kd.C_drew ?_))); (case side2 => exact HC0_0.out); rintro e w12 ⟨rfl, hb⟩; refine ⟨_, rfl, ?_⟩; have n0_ := aM (blk_below (g := gb134) (o := .cells #[.slice A0_0 l0_0.length c0_0] 24 (0, 0)) (by (with_reducible repeat (first | refine kN ?_ _ | refine kD ?_ | refine kA ?_ _)); exact BK134.out) hb); have n1_ := aM (below_step (by repeat (first | (with_reducible first | exact HB.out | apply bA | apply bN | apply bD | refine below_set ?_ GE134.out) | exact HB.out)) hb); clear BK134; clear HB; have BK134 := n0_; have HB := n1_; clear n0_ n1_; (try clear hb); (try clear hb2); (try clear hk); (try clear hi); have hcz13_0 : w12.cell? ⟨gb134, 0, none⟩ = some (.slice A0_0 l0_0.length c0_0) := (blk_cell BK134.out 0).trans rfl; have hfz13_0 := blk_frozen BK134.out 0))
        go_ret
        exact ⟨by first | rfl | (simp [errW_none, errW_some] <;> rfl) | (simp [*, errW_none, errW_some] <;> rfl), by repeat (first | (with_reducible first | exact HB.out | apply bA | apply bN | apply bD | refine below_set ?_ GE134.out) | exact HB.out)⟩
      · rw [if_neg c9] at H
        have c9b0 : decide ((l0_0.length : Int) ≤ a1) = false := decide_eq_false c9
        clear c9
        by_cases c14 : 0 ≤ a1
        · rw [if_pos c14] at H
          have c14b0 : decide (0 ≤ a1) = true := decide_eq_true c14
          clear c14
          by_cases c15 : a1 < (l0_0.length : Int)
          · rw [if_pos c15] at H
            have c15b0 : decide (a1 < (l0_0.length : Int)) = true := decide_eq_true c15
            clear c15
            replace H := Option.bind_eq_some_iff.mp H
            obtain ⟨t137, A160, H⟩ := H
            replace H : (if a1 < (t137.length : Int) then (some (rdOf false t137 a1)) else (none)) = some r := H
            have A16 := aM A160
            clear A160
            by_cases c17 : a1 < (t137.length : Int)
            · rw [if_pos c17] at H
              have c17b0 : decide (a1 < (t137.length : Int)) = true := decide_eq_true c17
              clear c17
              obtain rfl := Option.some.inj H
              go_enter Try.func20, Try.ntmps20
              try go_wp2_with (first | ((with_reducible refine gate_dst (N := 2) rfl ?_); (try (refine gate_guard (by rfl) ?_; dsimp only)); refine box_event ?hg (N := 2) ?hd (cs := #[.slice A0_0 l0_0.length c0_0]) (t := 24) ?hr ?_; (case hd => rfl); (case hg => rfl); (case hr => first | (go_simp; done) | (go_simp; rfl)); intro gb134 hg w18 hbox hb; have n0_ := aM (below_step (by repeat (first | (with_reducible first | exact HB.out | apply bA | apply bN | apply bD) | exact HB.out)) hb); have n1_ := aM (hbox); have n2_ := aM ((by rw [hg]; exact (below_size (by repeat (first | (with_reducible first | exact HB.out | apply bA | apply bN | apply bD) | exact HB.out))) : w.heap.size ≤ gb134)); have n3_ := aM ((by rw [hg]; exact (below_size (by repeat (first | (with_reducible first | exact HB.out | apply bA | apply bN | apply bD) | exact HB.out))) : w.heap.size ≤ gb134)); clear HB; have HB := n0_; have BK134 := n1_; have GW134 := n2_; have GE134 := n3_; clear n0_ n1_ n2_ n3_; clear hb hbox hg; have hcz19_0 : w18.cell? ⟨gb134, 0, none⟩ = some (.slice A0_0 l0_0.length c0_0) := (blk_cell BK134.out 0).trans rfl; have hfz19_0 := blk_frozen BK134.out 0) | ((with_reducible refine gate_callee (f := 27) rfl ?_); refine goesL_ (some 6) rfl rfl Try.func27 (by kernel_rfl) rfl #[.agg #[.slice A0_0 l0_0.length c0_0]] rfl (by (try simp only [List.map_toArray, List.map_cons, List.map_nil]); first | done | rfl | (simp only [List.length_drop, List.length_take]; rfl)) ?_; (with_reducible refine (graph_valid.calls k _ _ l0_0 true _ ?side1 ?side2 A3.out).mono ?_); (case side1 => repeat (first | exact (Kd.C_below HR0_0.out HB.out) | (with_reducible refine Kd.C_alloc ?_ _) | (with_reducible refine Kd.C_drewN ?_ _) | (with_reducible refine Kd.C_drew ?_))); (case side2 => exact HC0_0.out); rintro e w20 ⟨rfl, hb⟩; refine ⟨_, rfl, ?_⟩; have n0_ := aM (blk_below (g := gb134) (o := .cells #[.slice A0_0 l0_0.length c0_0] 24 (0, 0)) (by (with_reducible repeat (first | refine kN ?_ _ | refine kD ?_ | refine kA ?_ _)); exact BK134.out) hb); have n1_ := aM (below_step (by repeat (first | (with_reducible first | exact HB.out | apply bA | apply bN | apply bD | refine below_set ?_ GE134.out) | exact HB.out)) hb); clear BK134; clear HB; have BK134 := n0_; have HB := n1_; clear n0_ n1_; (try clear hb); (try clear hb2); (try clear hk); (try clear hi); have hcz21_0 : w20.cell? ⟨gb134, 0, none⟩ = some (.slice A0_0 l0_0.length c0_0) := (blk_cell BK134.out 0).trans rfl; have hfz21_0 := blk_frozen BK134.out 0))
              have n0_ := aM (blk_drew BK134.out)
              have n1_ := aM (below_drew1 HB.out)
              clear BK134
              clear HB
              have BK134 := n0_
              have HB := n1_
              clear n0_ n1_
              have p136 : 0 ≤ (a1 : Int) := of_decide_eq_true (by first | (with_reducible assumption) | assumption)
              have q136 : a1 < (l0_0.length : Int) := of_decide_eq_true (by first | (with_reducible assumption) | assumption)
              obtain ⟨ad136, A136_0, c136_0, e136, hx136_0, hl136_0, hi136_0⟩ := at_L1 HR0_0.out a1 p136 q136
              have hw136_0 := hx136_0
              cases e136
              replace hx136_0 := (HB.out.cell (World.block_lt_of_cell? w _ hx136_0)).trans hx136_0
              have HR136_0 := aM hi136_0
              have HC136_0 := aM hl136_0
              clear hi136_0 hl136_0
              replace p136 := eq_true p136
              replace q136 := eq_true q136
              refine start_ (n := 12) (S := fun w' => w'.cell? ⟨gb134, 0, none⟩ = some (.slice (some ad136) l0_0.length c0_0) ∧ w'.cell? (ad136.add (a1).toNat) = some (.slice A136_0 (rd_L1 l0_0 a1).length c136_0)) (ds := []) #[false, false, false, false, false, false, false, false, false, false, false, false] (by kernel_rfl) rfl rfl ⟨(blk_cell BK134.out 0).trans rfl, ((HB.out.cell (World.block_lt_of_cell? w _ hw136_0)).trans hw136_0)⟩ (fun hHeld => ?_); refine with_tabW graph_Cyclic.tab3 graph_Cyclic.bits3 (fun HT_ HW_ => ?_)
              generalize w20.drew = w22 at BK134 HB HR136_0 hx136_0 hHeld ⊢
              refine pure_ (i := 0) (N := some 19) (v := ?_) (a' := ?_) #[true, false, false, false, false, false, false, false, false, false, false, false] rfl rfl (any_of HT_.out (by kernel_rfl)) (fun _ _ _ h => h) (Or.inl ⟨by rfl, ?_⟩) ?_ ?_
              rotate_left
              · intro w'
                go_simp
                with_reducible rfl
              rotate_left
              · simp only [Act.put, List.setIfInBounds_toArray, List.set_cons_zero, List.set_cons_succ, i64_w, i32_w]
                rfl
              refine pure_ (i := 2) (N := some 21) (v := ?_) (a' := ?_) #[true, false, true, false, false, false, false, false, false, false, false, false] rfl rfl (any_of HT_.out (by kernel_rfl)) (fun _ _ _ h => h) (Or.inl ⟨by rfl, ?_⟩) ?_ ?_
              rotate_left
              · intro w'
                go_simp
                with_reducible rfl
              rotate_left
              · simp only [Act.put, List.setIfInBounds_toArray, List.set_cons_zero, List.set_cons_succ, i64_w, i32_w]
                rfl
              refine pure_ (i := 4) (N := some 23) (v := ?_) (a' := ?_) #[true, false, true, false, true, false, false, false, false, false, false, false] rfl rfl (any_of HT_.out (by kernel_rfl)) (fun _ _ _ h => h) (Or.inl ⟨by rfl, ?_⟩) ?_ ?_
              rotate_left
              · intro w'
                go_simp
                with_reducible rfl
              rotate_left
              · simp only [Act.put, List.setIfInBounds_toArray, List.set_cons_zero, List.set_cons_succ, i64_w, i32_w]
                rfl
              refine pure_ (i := 8) (N := some 27) (v := ?_) (a' := ?_) #[true, false, true, false, true, false, false, false, true, false, false, false] rfl rfl (any_of HT_.out (by kernel_rfl)) (fun _ _ _ h => h) (Or.inl ⟨by rfl, ?_⟩) ?_ ?_
              rotate_left
              · intro w'
                go_simp
                with_reducible rfl
              rotate_left
              · simp only [Act.put, List.setIfInBounds_toArray, List.set_cons_zero, List.set_cons_succ, i64_w, i32_w]
                rfl
              refine take_ (i := 1) (N := some 20) (v := ?_) (a' := ?_) #[true, true, true, false, true, false, false, false, true, false, false, false] rfl rfl (take_ofW HT_.out HW_.out (by kernel_rfl)) (fun _ _ _ h => h) (Or.inl ⟨by rfl, ?_⟩) hHeld ?_ ?_
              rotate_left
              · rintro w' ⟨s0, s1⟩
                go_simp
                with_reducible rfl
              rotate_left
              · simp only [Act.put, List.setIfInBounds_toArray, List.set_cons_zero, List.set_cons_succ, i64_w, i32_w]
                rfl
              refine take_ (i := 3) (N := some 22) (v := ?_) (a' := ?_) #[true, true, true, true, true, false, false, false, true, false, false, false] rfl rfl (take_ofW HT_.out HW_.out (by kernel_rfl)) (fun _ _ _ h => h) (Or.inl ⟨by rfl, ?_⟩) hHeld ?_ ?_
              rotate_left
              · rintro w' ⟨s0, s1⟩
                go_simp
                with_reducible rfl
              rotate_left
              · simp only [Act.put, List.setIfInBounds_toArray, List.set_cons_zero, List.set_cons_succ, i64_w, i32_w]
                rfl
              refine pure_ (i := 5) (N := some 24) (v := ?_) (a' := ?_) #[true, true, true, true, true, true, false, false, true, false, false, false] rfl rfl (any_of HT_.out (by kernel_rfl)) (fun _ _ _ h => h) (Or.inl ⟨by rfl, ?_⟩) ?_ ?_
              rotate_left
              · intro w'
                go_simp
                with_reducible rfl
              rotate_left
              · simp only [Act.put, List.setIfInBounds_toArray, List.set_cons_zero, List.set_cons_succ, i64_w, i32_w]
                rfl
              refine take_ (i := 6) (N := some 25) (v := ?_) (a' := ?_) #[true, true, true, true, true, true, true, false, true, false, false, false] rfl rfl (take_ofW HT_.out HW_.out (by kernel_rfl)) (fun _ _ _ h => h) (Or.inl ⟨by rfl, ?_⟩) hHeld ?_ ?_
              rotate_left
              · rintro w' ⟨s0, s1⟩
                go_simp
                with_reducible rfl
              rotate_left
              · simp only [Act.put, List.setIfInBounds_toArray, List.set_cons_zero, List.set_cons_succ, i64_w, i32_w]
                rfl
              refine one_ (i := 7) (N := some 26) #[true, true, true, true, true, true, true, true, true, false, false, false] rfl rfl (one_of HT_.out (by kernel_rfl)) (by decide) (fun K hK => ?_)
              refine goes_ Try.func33 (by kernel_rfl) rfl #[.slice (some ad136) l0_0.length c0_0, .slice A136_0 (rd_L1 l0_0 a1).length c136_0] (by rfl) rfl rfl (by (try simp only [List.map_toArray, List.map_cons, List.map_nil]); first | done | rfl | (simp only [List.length_drop, List.length_take]; rfl)) ?_
              with_reducible refine (graph_reached.calls k _ _ l0_0 _ _ (rd_L1 l0_0 a1) t137 _ ?side1 ?side2 ?side3 ?side4 A16.out).mono ?_
              (case side1 => repeat (first | exact (Kd.C_below HR0_0.out HB.out) | (with_reducible refine Kd.C_alloc ?_ _) | (with_reducible refine Kd.C_drewN ?_ _) | (with_reducible refine Kd.C_drew ?_)))
              (case side2 => exact HC0_0.out)
              (case side3 => repeat (first | exact (Kd.C_below HR136_0.out HB.out) | (with_reducible refine Kd.C_alloc ?_ _) | (with_reducible refine Kd.C_drewN ?_ _) | (with_reducible refine Kd.C_drew ?_)))
              (case side4 => exact HC136_0.out)
              rintro e w23 ⟨v138, rfl, ho0, hb⟩
              skip
              refine ⟨_, rfl, ?_⟩
              have n0_ := aM (Kd.R_lower ho0 (below_size (by repeat (first | (with_reducible first | exact HB.out | apply bA | apply bN | apply bD | refine below_set ?_ GE134.out) | exact HB.out))))
              have n1_ := aM (blk_below (g := gb134) (o := .cells #[.slice (some ad136) l0_0.length c0_0] 24 (0, 0)) (by (with_reducible repeat (first | refine kN ?_ _ | refine kD ?_ | refine kA ?_ _)); exact BK134.out) hb)
              have n2_ := aM (below_step (by repeat (first | (with_reducible first | exact HB.out | apply bA | apply bN | apply bD | refine below_set ?_ GE134.out) | exact HB.out)) hb)
              clear BK134
              clear HB
              have HO139 := n0_
              have BK134 := n1_
              have HB := n2_
              clear n0_ n1_ n2_
              (try clear hb)
              (try clear hb2)
              (try clear hk)
              (try clear hi)
              (try clear ho0)
              obtain ⟨Ao24, co24, eo24⟩ := Kd.R_slice HO139.out
              (first | subst eo24 | (injection eo24 with f1_ f2_ f3_; have f4_ := f1_.symm; have f5_ := f3_.symm; clear f1_ f2_ f3_; subst f4_; subst f5_))
              have p140 : 0 ≤ (a1 : Int) := of_decide_eq_true (by first | (with_reducible assumption) | assumption)
              have q140 : a1 < (t137.length : Int) := of_decide_eq_true (by first | (with_reducible assumption) | assumption)
              obtain ⟨ad140, e140, hx140_0⟩ := Kd.at_bool (Kd.R_reads' HO139.out).2.2 a1 p140 q140
              cases e140
              replace p140 := eq_true p140
              replace q140 := eq_true q140
              refine hK.out _ _ ⟨(blk_cell BK134.out 0).trans rfl, ((HB.out.cell (World.block_lt_of_cell? w _ hw136_0)).trans hw136_0)⟩ (fun hHeld => ?_)
              have hHeld2 := hHeld
              refine resay_ (S2 := fun w' => w'.cell? ⟨gb134, 0, none⟩ = some (.slice (some ad136) l0_0.length c0_0) ∧ w'.cell? (ad136.add (a1).toNat) = some (.slice A136_0 (rd_L1 l0_0 a1).length c136_0) ∧ w'.cell? (ad140.add (a1).toNat) = some (.bool (rdOf false t137 a1))) ⟨hHeld.1, hHeld.2, hx140_0⟩ (fun _ h_ => ⟨h_.1, h_.2.1⟩) ?_
              clear hHeld
              have hHeld := (show _ ∧ _ ∧ _ from ⟨hHeld2.1, hHeld2.2, hx140_0⟩)
              clear hHeld2
              clear hK K
              refine norm_ (a' := ?_) ?_ ?_
              rotate_left
              · show Act.put _ (some 26) _ = _
                simp only [Act.put, List.setIfInBounds_toArray, List.set_cons_zero, List.set_cons_succ, i64_w, i32_w]
                rfl
              refine pure_ (i := 9) (N := some 28) (v := ?_) (a' := ?_) #[true, true, true, true, true, true, true, true, true, true, false, false] rfl rfl (any_of HT_.out (by kernel_rfl)) (fun _ _ _ h => h) (Or.inl ⟨by rfl, ?_⟩) ?_ ?_
              rotate_left
              · intro w'
                go_simp
                with_reducible rfl
              rotate_left
              · simp only [Act.put, List.setIfInBounds_toArray, List.set_cons_zero, List.set_cons_succ, i64_w, i32_w]
                rfl
              refine take_ (i := 10) (N := some 29) (v := ?_) (a' := ?_) #[true, true, true, true, true, true, true, true, true, true, true, false] rfl rfl (take_ofW HT_.out HW_.out (by kernel_rfl)) (fun _ _ _ h => h) (Or.inl ⟨by rfl, ?_⟩) hHeld ?_ ?_
              rotate_left
              · rintro w' ⟨s0, s1, s2⟩
                go_simp
                with_reducible rfl
              rotate_left
              · simp only [Act.put, List.setIfInBounds_toArray, List.set_cons_zero, List.set_cons_succ, i64_w, i32_w]
                rfl
              refine pure_ (i := 11) (N := some 4) (v := ?_) (a' := ?_) #[true, true, true, true, true, true, true, true, true, true, true, true] rfl rfl (any_of HT_.out (by kernel_rfl)) (fun _ _ _ h => h) (Or.inl ⟨by rfl, ?_⟩) ?_ ?_
              rotate_left
              · intro w'
                go_simp
                with_reducible rfl
              rotate_left
              · simp only [Act.put, List.setIfInBounds_toArray, List.set_cons_zero, List.set_cons_succ, i64_w, i32_w]
                rfl
              refine done_ (done_of HT_.out (by kernel_rfl)) ?_
              try go_wp2
              go_ret
              exact ⟨by first | rfl | (simp [errW_none, errW_some] <;> rfl) | (simp [*, errW_none, errW_some] <;> rfl), by repeat (first | (with_reducible first | exact HB.out | apply bA | apply bN | apply bD | refine below_set ?_ GE134.out) | exact HB.out)⟩
            · rw [if_neg c17] at H
              exact absurd H (by simp)
          · rw [if_neg c15] at H
            exact absurd H (by simp)
        · rw [if_neg c14] at H
          exact absurd H (by simp)
  · replace c4 := Bool.eq_false_iff.mpr c4
    subst c4
    have H1 : (some false) = some r := by rw [if_neg (show ¬ (false = true) by decide)] at H; exact H
    clear H
    have H := H1
    clear H1
    obtain rfl := Option.some.inj H
    go_enter Try.func20, Try.ntmps20
    go_wp2_with (first | ((with_reducible refine gate_dst (N := 2) rfl ?_); (try (refine gate_guard (by rfl) ?_; dsimp only)); refine box_event ?hg (N := 2) ?hd (cs := #[.slice A0_0 l0_0.length c0_0]) (t := 24) ?hr ?_; (case hd => rfl); (case hg => rfl); (case hr => first | (go_simp; done) | (go_simp; rfl)); intro gb134 hg w25 hbox hb; have n0_ := aM (below_step (by repeat (first | (with_reducible first | exact HB.out | apply bA | apply bN | apply bD) | exact HB.out)) hb); have n1_ := aM (hbox); have n2_ := aM ((by rw [hg]; exact (below_size (by repeat (first | (with_reducible first | exact HB.out | apply bA | apply bN | apply bD) | exact HB.out))) : w.heap.size ≤ gb134)); have n3_ := aM ((by rw [hg]; exact (below_size (by repeat (first | (with_reducible first | exact HB.out | apply bA | apply bN | apply bD) | exact HB.out))) : w.heap.size ≤ gb134)); clear HB; have HB := n0_; have BK134 := n1_; have GW134 := n2_; have GE134 := n3_; clear n0_ n1_ n2_ n3_; clear hb hbox hg; have hcz26_0 : w25.cell? ⟨gb134, 0, none⟩ = some (.slice A0_0 l0_0.length c0_0) := (blk_cell BK134.out 0).trans rfl; have hfz26_0 := blk_frozen BK134.out 0) | ((with_reducible refine gate_callee (f := 27) rfl ?_); refine goesL_ (some 6) rfl rfl Try.func27 (by kernel_rfl) rfl #[.agg #[.slice A0_0 l0_0.length c0_0]] rfl (by (try simp only [List.map_toArray, List.map_cons, List.map_nil]); first | done | rfl | (simp only [List.length_drop, List.length_take]; rfl)) ?_; (with_reducible refine (graph_valid.calls k _ _ l0_0 false _ ?side1 ?side2 A3.out).mono ?_); (case side1 => repeat (first | exact (Kd.C_below HR0_0.out HB.out) | (with_reducible refine Kd.C_alloc ?_ _) | (with_reducible refine Kd.C_drewN ?_ _) | (with_reducible refine Kd.C_drew ?_))); (case side2 => exact HC0_0.out); rintro e w27 ⟨rfl, hb⟩; refine ⟨_, rfl, ?_⟩; have n0_ := aM (blk_below (g := gb134) (o := .cells #[.slice A0_0 l0_0.length c0_0] 24 (0, 0)) (by (with_reducible repeat (first | refine kN ?_ _ | refine kD ?_ | refine kA ?_ _)); exact BK134.out) hb); have n1_ := aM (below_step (by repeat (first | (with_reducible first | exact HB.out | apply bA | apply bN | apply bD | refine below_set ?_ GE134.out) | exact HB.out)) hb); clear BK134; clear HB; have BK134 := n0_; have HB := n1_; clear n0_ n1_; (try clear hb); (try clear hb2); (try clear hk); (try clear hi)))
    go_ret
    exact ⟨by first | rfl | (simp [errW_none, errW_some] <;> rfl) | (simp [*, errW_none, errW_some] <;> rfl), by repeat (first | (with_reducible first | exact HB.out | apply bA | apply bN | apply bD | refine below_set ?_ GE134.out) | exact HB.out)⟩

/-! ### graph_Reach: function 18 -/
mutual
noncomputable def graph_Reach.j0 : Nat → Int → Bool → List (List Int) → Option (List Int)
  | 0, _, _, _ => none
  | k + 1, x1, x21, x142000 => if x21 = true then (some ([] : List Int)) else ((graph_reached.f k x142000 (([x1] : List Int))).bind fun t146 => (graph_Reach.l0 k ([] : List Int) t146 (t146.length : Int) 0))
noncomputable def graph_Reach.l0 : Nat → List Int → List Bool → Int → Int → Option (List Int)
  | 0, _, _, _, _ => none
  | k + 1, x5, x26, x27, x28 => if x28 < x27 then (if 0 ≤ x28 then (if x28 < (x26.length : Int) then (if rdOf false x26 x28 = true then (if x5.length < 17592186044416 then (graph_Reach.l0 k (x5 ++ [x28]) x26 x27 (wrap64 (x28 + 1))) else (none)) else (graph_Reach.l0 k x5 x26 x27 (wrap64 (x28 + 1)))) else (none)) else (none)) else (some x5)
end
noncomputable def graph_Reach.f (k : Nat) (l0_0 : List (List Int)) (a1 : Int) : Option (List Int) := (graph_valid.f k l0_0).bind fun t142 => (if t142 = true then (if a1 < 0 then (graph_Reach.j0 k a1 true l0_0) else (graph_Reach.j0 k a1 (decide (a1 ≥ (l0_0.length : Int))) l0_0)) else (graph_Reach.j0 k a1 true l0_0))
theorem graph_Reach.mono_l : ∀ k, (∀ y0 y1 y2, LeO (graph_Reach.j0 k y0 y1 y2) (graph_Reach.j0 (k + 1) y0 y1 y2)) ∧ (∀ y0 y1 y2 y3, LeO (graph_Reach.l0 k y0 y1 y2 y3) (graph_Reach.l0 (k + 1) y0 y1 y2 y3))
  | 0 => ⟨fun _ _ _ r h => by simp [graph_Reach.j0] at h, fun _ _ _ _ r h => by simp [graph_Reach.l0] at h⟩
  | k + 1 => by
    obtain ⟨ih0, ih1⟩ := graph_Reach.mono_l k
    refine ⟨?_, ?_⟩
    · intro y0 y1 y2
      unfold graph_Reach.j0
      repeat' first
      | (with_reducible exact ih0 _ _ _)
      | (with_reducible exact ih1 _ _ _ _)
      | (with_reducible exact graph_reached.mono _ _ _)
      | (with_reducible exact graph_valid.mono _ _)
      | (with_reducible exact LeO.refl _)
      | (with_reducible exact LeO.none _)
      | (with_reducible refine LeO.ite ?_ ?_)
      | (with_reducible refine LeO.bind ?_ (fun _ => ?_))
      | exact ih0 _ _ _
      | exact ih1 _ _ _ _
      | exact graph_reached.mono _ _ _
      | exact graph_valid.mono _ _
      | exact LeO.none _
      | refine LeO.ite ?_ ?_
      | refine LeO.bind ?_ (fun _ => ?_)
    · intro y0 y1 y2 y3
      unfold graph_Reach.l0
      repeat' first
      | (with_reducible exact ih0 _ _ _)
      | (with_reducible exact ih1 _ _ _ _)
      | (with_reducible exact graph_reached.mono _ _ _)
      | (with_reducible exact graph_valid.mono _ _)
      | (with_reducible exact LeO.refl _)
      | (with_reducible exact LeO.none _)
      | (with_reducible refine LeO.ite ?_ ?_)
      | (with_reducible refine LeO.bind ?_ (fun _ => ?_))
      | exact ih0 _ _ _
      | exact ih1 _ _ _ _
      | exact graph_reached.mono _ _ _
      | exact graph_valid.mono _ _
      | exact LeO.none _
      | refine LeO.ite ?_ ?_
      | refine LeO.bind ?_ (fun _ => ?_)
theorem graph_Reach.mono : ∀ a0 a1 k, LeO (graph_Reach.f k a0 a1) (graph_Reach.f (k + 1) a0 a1) := by
  intro a0 a1 k
  obtain ⟨ih0, ih1⟩ := graph_Reach.mono_l k
  unfold graph_Reach.f
  repeat' first
      | (with_reducible exact ih0 _ _ _)
      | (with_reducible exact ih1 _ _ _ _)
      | (with_reducible exact graph_reached.mono _ _ _)
      | (with_reducible exact graph_valid.mono _ _)
      | (with_reducible exact LeO.refl _)
      | (with_reducible exact LeO.none _)
      | (with_reducible refine LeO.ite ?_ ?_)
      | (with_reducible refine LeO.bind ?_ (fun _ => ?_))
      | exact ih0 _ _ _
      | exact ih1 _ _ _ _
      | exact graph_reached.mono _ _ _
      | exact graph_valid.mono _ _
      | exact LeO.none _
      | refine LeO.ite ?_ ?_
      | refine LeO.bind ?_ (fun _ => ?_)
set_option maxHeartbeats 8000000 in
set_option maxRecDepth 100000 in
theorem graph_Reach.calls (k : Nat) (A0_0 : Option Addr) (c0_0 : Nat) (l0_0 : List (List Int)) (a1 : Int) (r : List Int) (w : World) (hr0_0 : Kd.C (Kd.slice 3 (Kd.int .i64)) w A0_0 l0_0.length l0_0) (hc0_0 : l0_0.length ≤ c0_0) (h : graph_Reach.f k l0_0 a1 = some r) :
    Calls Try.prog 18 #[.agg #[.slice A0_0 l0_0.length c0_0], .int .i64 a1] w fun e w' => ∃ v0_ : Value, e = .returned (v0_) ∧ Kd.R (Kd.int .i64) 3 w' w.heap.size (fun _ => True) v0_ r ∧ Below w.heap.size w w' := by
  have hu24 := Try.underlying24
  have HR0_0 := aM hr0_0
  have HC0_0 := aM hc0_0
  clear hr0_0 hc0_0
  have HB := aM (Below.refl w.heap.size w)
  have H : ((graph_valid.f k l0_0).bind fun t142 => (if t142 = true then (if a1 < 0 then (graph_Reach.j0 k a1 true l0_0) else (graph_Reach.j0 k a1 (decide (a1 ≥ (l0_0.length : Int))) l0_0)) else (graph_Reach.j0 k a1 true l0_0))) = some r := h
  clear h
  have HC3 := aM H
  clear H
  go_enter Try.func18, Try.ntmps18
  go_upto_region 1 with (first | ((with_reducible refine gate_dst (N := 2) rfl ?_); (try (refine gate_guard (by rfl) ?_; dsimp only)); refine box_event ?hg (N := 2) ?hd (cs := #[.slice A0_0 l0_0.length c0_0]) (t := 24) ?hr ?_; (case hd => rfl); (case hg => rfl); (case hr => first | (go_simp; done) | (go_simp; rfl)); intro gb141 hg w4 hbox hb; have n0_ := aM (below_step (by repeat (first | (with_reducible first | exact HB.out | apply bA | apply bN | apply bD) | exact HB.out)) hb); have n1_ := aM (hbox); have n2_ := aM ((by rw [hg]; exact (below_size (by repeat (first | (with_reducible first | exact HB.out | apply bA | apply bN | apply bD) | exact HB.out))) : w.heap.size ≤ gb141)); have n3_ := aM ((by rw [hg]; exact (below_size (by repeat (first | (with_reducible first | exact HB.out | apply bA | apply bN | apply bD) | exact HB.out))) : w.heap.size ≤ gb141)); clear HB; have HB := n0_; have BK141 := n1_; have GW141 := n2_; have GE141 := n3_; clear n0_ n1_ n2_ n3_; clear hb hbox hg))
  (try simp only [Act.put, List.setIfInBounds_toArray, List.set_cons_zero, List.set_cons_succ])
  go_cut [21] (fun v21 wc => ∃ (kq : Nat) (x21_2 : Bool), v21 = .bool x21_2 ∧ Aside0 (graph_Reach.j0 kq a1 x21_2 l0_0 = some r) ∧ Aside0 (kq ≤ k) ∧ Aside0 (wc.heap[gb141]? = some (.cells #[(.slice A0_0 l0_0.length c0_0)] 24 (0, 0))) ∧ Aside0 (Below w.heap.size w wc))
  case first =>
    have H := HC3.out
    clear HC3
    replace H := Option.bind_eq_some_iff.mp H
    obtain ⟨t142, A50, H⟩ := H
    replace H : (if t142 = true then (if a1 < 0 then (graph_Reach.j0 k a1 true l0_0) else (graph_Reach.j0 k a1 (decide (a1 ≥ (l0_0.length : Int))) l0_0)) else (graph_Reach.j0 k a1 true l0_0)) = some r := H
    have A5 := aM A50
    clear A50
    by_cases c6 : t142 = true
    · subst c6
      have H1 : (if a1 < 0 then (graph_Reach.j0 k a1 true l0_0) else (graph_Reach.j0 k a1 (decide (a1 ≥ (l0_0.length : Int))) l0_0)) = some r := by rw [if_pos rfl] at H; exact H
      clear H
      have H := H1
      clear H1
      by_cases c7 : a1 < 0
      · rw [if_pos c7] at H
        have c7b0 : decide (a1 < 0) = true := decide_eq_true c7
        clear c7
        (first | rw [c7b0] | (simp only [i64_w, i32_w]; rw [c7b0]) | skip)
        have H' := aM H
        clear H
        have hcz8_0 : w4.cell? ⟨gb141, 0, none⟩ = some (.slice A0_0 l0_0.length c0_0) := (blk_cell BK141.out 0).trans rfl
        have hfz8_0 := blk_frozen BK141.out 0
        go_wp2_with (first | ((with_reducible refine gate_callee (f := 27) rfl ?_); refine goesL_ (some 9) rfl rfl Try.func27 (by kernel_rfl) rfl #[.agg #[.slice A0_0 l0_0.length c0_0]] rfl (by (try simp only [List.map_toArray, List.map_cons, List.map_nil]); first | done | rfl | (simp only [List.length_drop, List.length_take]; rfl)) ?_; (with_reducible refine (graph_valid.calls k _ _ l0_0 true _ ?side1 ?side2 A5.out).mono ?_); (case side1 => repeat (first | exact (Kd.C_below HR0_0.out HB.out) | (with_reducible refine Kd.C_alloc ?_ _) | (with_reducible refine Kd.C_drewN ?_ _) | (with_reducible refine Kd.C_drew ?_))); (case side2 => exact HC0_0.out); rintro e w9 ⟨rfl, hb⟩; refine ⟨_, rfl, ?_⟩; have n0_ := aM (blk_below (g := gb141) (o := .cells #[.slice A0_0 l0_0.length c0_0] 24 (0, 0)) (by (with_reducible repeat (first | refine kN ?_ _ | refine kD ?_ | refine kA ?_ _)); exact BK141.out) hb); have n1_ := aM (below_step (by repeat (first | (with_reducible first | exact HB.out | apply bA | apply bN | apply bD | refine below_set ?_ GE141.out) | exact HB.out)) hb); clear BK141; clear HB; have BK141 := n0_; have HB := n1_; clear n0_ n1_; (try clear hb); (try clear hb2); (try clear hk); (try clear hi)))
        go_meet
        case rel => exact ⟨_, (true), (by first | rfl | (simp; done) | (simp [*]; done)), H', ⟨by first | omega | exact Nat.le_refl _⟩, ⟨by (with_reducible repeat (first | refine kN ?_ _ | refine kD ?_ | refine kA ?_ _)); exact BK141.out⟩, ⟨by repeat (first | (with_reducible first | exact HB.out | apply bA | apply bN | apply bD | refine below_set ?_ GE141.out) | exact HB.out)⟩⟩
      · rw [if_neg c7] at H
        have c7b0 : decide (a1 < 0) = false := decide_eq_false c7
        clear c7
        (first | rw [c7b0] | (simp only [i64_w, i32_w]; rw [c7b0]) | skip)
        have H' := aM H
        clear H
        have hcz10_0 : w4.cell? ⟨gb141, 0, none⟩ = some (.slice A0_0 l0_0.length c0_0) := (blk_cell BK141.out 0).trans rfl
        have hfz10_0 := blk_frozen BK141.out 0
        go_wp2_with (first | ((with_reducible refine gate_callee (f := 27) rfl ?_); refine goesL_ (some 9) rfl rfl Try.func27 (by kernel_rfl) rfl #[.agg #[.slice A0_0 l0_0.length c0_0]] rfl (by (try simp only [List.map_toArray, List.map_cons, List.map_nil]); first | done | rfl | (simp only [List.length_drop, List.length_take]; rfl)) ?_; (with_reducible refine (graph_valid.calls k _ _ l0_0 true _ ?side1 ?side2 A5.out).mono ?_); (case side1 => repeat (first | exact (Kd.C_below HR0_0.out HB.out) | (with_reducible refine Kd.C_alloc ?_ _) | (with_reducible refine Kd.C_drewN ?_ _) | (with_reducible refine Kd.C_drew ?_))); (case side2 => exact HC0_0.out); rintro e w11 ⟨rfl, hb⟩; refine ⟨_, rfl, ?_⟩; have n0_ := aM (blk_below (g := gb141) (o := .cells #[.slice A0_0 l0_0.length c0_0] 24 (0, 0)) (by (with_reducible repeat (first | refine kN ?_ _ | refine kD ?_ | refine kA ?_ _)); exact BK141.out) hb); have n1_ := aM (below_step (by repeat (first | (with_reducible first | exact HB.out | apply bA | apply bN | apply bD | refine below_set ?_ GE141.out) | exact HB.out)) hb); clear BK141; clear HB; have BK141 := n0_; have HB := n1_; clear n0_ n1_; (try clear hb); (try clear hb2); (try clear hk); (try clear hi); have hcz12_0 : w11.cell? ⟨gb141, 0, none⟩ = some (.slice A0_0 l0_0.length c0_0) := (blk_cell BK141.out 0).trans rfl; have hfz12_0 := blk_frozen BK141.out 0))
        go_meet
        case rel => exact ⟨_, (decide (a1 ≥ (l0_0.length : Int))), (by first | rfl | (simp; done) | (simp [*]; done)), H', ⟨by first | omega | exact Nat.le_refl _⟩, ⟨by (with_reducible repeat (first | refine kN ?_ _ | refine kD ?_ | refine kA ?_ _)); exact BK141.out⟩, ⟨by repeat (first | (with_reducible first | exact HB.out | apply bA | apply bN | apply bD | refine below_set ?_ GE141.out) | exact HB.out)⟩⟩
    · replace c6 := Bool.eq_false_iff.mpr c6
      subst c6
      have H1 : (graph_Reach.j0 k a1 true l0_0) = some r := by rw [if_neg (show ¬ (false = true) by decide)] at H; exact H
      clear H
      have H := H1
      clear H1
      have H' := aM H
      clear H
      have hcz13_0 : w4.cell? ⟨gb141, 0, none⟩ = some (.slice A0_0 l0_0.length c0_0) := (blk_cell BK141.out 0).trans rfl
      have hfz13_0 := blk_frozen BK141.out 0
      go_wp2_with (first | ((with_reducible refine gate_callee (f := 27) rfl ?_); refine goesL_ (some 9) rfl rfl Try.func27 (by kernel_rfl) rfl #[.agg #[.slice A0_0 l0_0.length c0_0]] rfl (by (try simp only [List.map_toArray, List.map_cons, List.map_nil]); first | done | rfl | (simp only [List.length_drop, List.length_take]; rfl)) ?_; (with_reducible refine (graph_valid.calls k _ _ l0_0 false _ ?side1 ?side2 A5.out).mono ?_); (case side1 => repeat (first | exact (Kd.C_below HR0_0.out HB.out) | (with_reducible refine Kd.C_alloc ?_ _) | (with_reducible refine Kd.C_drewN ?_ _) | (with_reducible refine Kd.C_drew ?_))); (case side2 => exact HC0_0.out); rintro e w14 ⟨rfl, hb⟩; refine ⟨_, rfl, ?_⟩; have n0_ := aM (blk_below (g := gb141) (o := .cells #[.slice A0_0 l0_0.length c0_0] 24 (0, 0)) (by (with_reducible repeat (first | refine kN ?_ _ | refine kD ?_ | refine kA ?_ _)); exact BK141.out) hb); have n1_ := aM (below_step (by repeat (first | (with_reducible first | exact HB.out | apply bA | apply bN | apply bD | refine below_set ?_ GE141.out) | exact HB.out)) hb); clear BK141; clear HB; have BK141 := n0_; have HB := n1_; clear n0_ n1_; (try clear hb); (try clear hb2); (try clear hk); (try clear hi)))
      go_meet
      case rel => exact ⟨_, (true), (by first | rfl | (simp; done) | (simp [*]; done)), H', ⟨by first | omega | exact Nat.le_refl _⟩, ⟨by (with_reducible repeat (first | refine kN ?_ _ | refine kD ?_ | refine kA ?_ _)); exact BK141.out⟩, ⟨by repeat (first | (with_reducible first | exact HB.out | apply bA | apply bN | apply bD | refine below_set ?_ GE141.out) | exact HB.out)⟩⟩
  case rest =>
    clear HC3
    try clear c1
    try clear c2
    try clear p2
    try clear c6
    try clear c7
    try clear c7b0
    try clear hcz10_0
    try clear hcz12_0
    try clear hcz13_0
    try clear hcz8_0
    try clear hfz10_0
    try clear hfz12_0
    try clear hfz13_0
    try clear hfz8_0
    obtain ⟨kq, x21_2, rfl, HA, HJ2, BK141, HB⟩ := hcut
    cases kq with
    | zero => exact absurd HA.out (by simp [graph_Reach.j0])
    | succ kj2 =>
      have H := HA.out
      clear HA
      simp only [graph_Reach.j0] at H
      by_cases c15 : x21_2 = true
      · subst c15
        have H1 : (some ([] : List Int)) = some r := by rw [if_pos rfl] at H; exact H
        clear H
        have H := H1
        clear H1
        obtain rfl := Option.some.inj H
        go_wp2
        go_ret
        exact ⟨_, by first | rfl | (simp [errW_none, errW_some] <;> rfl) | (simp [*, errW_none, errW_some] <;> rfl), by first | exact Kd.R_nil _ _ _ _ _ | exact Kd.N_nil _ _ _ _ _ | exact Kd.V_nil _ _ _ _ _ | exact Kd.Q_nil _ _ _ _ _ | exact Kd.S_nil _ _ _ _ _, by repeat (first | (with_reducible first | exact HB.out | apply bA | apply bN | apply bD | refine below_set ?_ GE141.out) | exact HB.out)⟩
      · replace c15 := Bool.eq_false_iff.mpr c15
        subst c15
        have H1 : ((graph_reached.f kj2 l0_0 (([a1] : List Int))).bind fun t146 => (graph_Reach.l0 kj2 ([] : List Int) t146 (t146.length : Int) 0)) = some r := by rw [if_neg (show ¬ (false = true) by decide)] at H; exact H
        clear H
        have H := H1
        clear H1
        obtain ⟨y143, hy143⟩ : ∃ y_ : List Int, y_ = (([a1] : List Int)) := ⟨_, rfl⟩
        replace H : ((graph_reached.f kj2 l0_0 y143).bind fun t146 => (graph_Reach.l0 kj2 ([] : List Int) t146 (t146.length : Int) 0)) = some r := by first | (rw [hy143]; with_reducible exact H) | (have H2_ := (Option.bind_some _ _).symm.trans H; rw [hy143]; with_reducible exact H2_) | (have H2_ := (Option.bind_some _ _).symm.trans H; with_reducible exact H2_) | with_reducible exact H | (rw [hy143]; exact H) | exact H
        have Ny143 := aM hy143
        clear hy143
        replace H := Option.bind_eq_some_iff.mp H
        obtain ⟨t146, A160, H⟩ := H
        replace H : (graph_Reach.l0 kj2 ([] : List Int) t146 (t146.length : Int) 0) = some r := H
        have A16 := aM A160
        clear A160
        have H' := aM H
        clear H
        have hcz17_0 : wc.cell? ⟨gb141, 0, none⟩ = some (.slice A0_0 l0_0.length c0_0) := (blk_cell BK141.out 0).trans rfl
        have hfz17_0 := blk_frozen BK141.out 0
        go_wp2_with (first | ((with_reducible refine gate_dst (N := 25) rfl ?_); (try (refine gate_guard (by rfl) ?_; dsimp only)); refine Kd.R_lit (Kd.int .i64) _ 3 ?hg (N := 25) ?hd (xs := ([a1] : List Int)) (inner := [.int .i64 a1]) (ok := fun _ => True) (okp := fun _ => True) ?hr ?hp (fun _ hk => hk) trivial (Below.refl _ _) (Nat.le_refl _) (by simp) ?_; (case hd => rfl); (case hg => rfl); (case hr => first | (go_simp; done) | (go_simp; rfl)); (case hp => exact (Reps.one (show Kd.M (Kd.int .i64) _ _ _ a1 [.int .i64 a1] from rfl) (Reps.none _ _))); intro v144 w18 ho19 hb hg_ hnew_; clear hg_ hnew_; (first | rw [← Ny143.out] at ho19 | (simp only [Int.reduceToNat] at ho19; rw [← Ny143.out] at ho19)); have n0_ := aM (Kd.R_lower ho19 (below_size (by repeat (first | (with_reducible first | exact HB.out | apply bA | apply bN | apply bD | refine below_set ?_ GE141.out) | exact HB.out)))); have n1_ := aM (blk_below (g := gb141) (o := .cells #[.slice A0_0 l0_0.length c0_0] 24 (0, 0)) (by (with_reducible repeat (first | refine kN ?_ _ | refine kD ?_ | refine kA ?_ _)); exact BK141.out) hb); have n2_ := aM (below_step (by repeat (first | (with_reducible first | exact HB.out | apply bA | apply bN | apply bD | refine below_set ?_ GE141.out) | exact HB.out)) hb); clear BK141; clear HB; have HO145 := n0_; have BK141 := n1_; have HB := n2_; clear n0_ n1_ n2_; clear hb ho19; obtain ⟨Ao20, co20, eo20⟩ := Kd.R_slice HO145.out; subst eo20) | ((with_reducible refine gate_callee (f := 33) rfl ?_); refine goesL_ (some 26) rfl rfl Try.func33 (by kernel_rfl) rfl #[.slice A0_0 l0_0.length c0_0, .slice Ao20 y143.length co20] rfl (by (try simp only [List.map_toArray, List.map_cons, List.map_nil]); first | done | rfl | (simp only [List.length_drop, List.length_take]; rfl)) ?_; (with_reducible refine (graph_reached.calls kj2 _ _ l0_0 _ _ y143 t146 _ ?side1 ?side2 ?side3 ?side4 A16.out).mono ?_); (case side1 => repeat (first | exact (Kd.C_below HR0_0.out HB.out) | (with_reducible refine Kd.C_alloc ?_ _) | (with_reducible refine Kd.C_drewN ?_ _) | (with_reducible refine Kd.C_drew ?_))); (case side2 => exact HC0_0.out); (case side3 => repeat (first | exact (Kd.R_reads' HO145.out).2.2 | (with_reducible refine Kd.C_alloc ?_ _) | (with_reducible refine Kd.C_drewN ?_ _) | (with_reducible refine Kd.C_drew ?_))); (case side4 => exact (Kd.R_reads' HO145.out).2.1); rintro e w21 ⟨v147, rfl, ho0, hb⟩; refine ⟨_, rfl, ?_⟩; have n0_ := aM (Kd.R_below (by (with_reducible repeat (first | apply Kd.R_alloc | apply Kd.R_drewN | apply Kd.R_drew)); exact HO145.out) hb); have n1_ := aM (Kd.R_lower ho0 (below_size (by repeat (first | (with_reducible first | exact HB.out | apply bA | apply bN | apply bD | refine below_set ?_ GE141.out) | exact HB.out)))); have n2_ := aM (blk_below (g := gb141) (o := .cells #[.slice A0_0 l0_0.length c0_0] 24 (0, 0)) (by (with_reducible repeat (first | refine kN ?_ _ | refine kD ?_ | refine kA ?_ _)); exact BK141.out) hb); have n3_ := aM (below_step (by repeat (first | (with_reducible first | exact HB.out | apply bA | apply bN | apply bD | refine below_set ?_ GE141.out) | exact HB.out)) hb); clear HO145; clear BK141; clear HB; have HO145 := n0_; have HO148 := n1_; have BK141 := n2_; have HB := n3_; clear n0_ n1_ n2_ n3_; (try clear hb); (try clear hb2); (try clear hk); (try clear hi); (try clear ho0); obtain ⟨Ao22, co22, eo22⟩ := Kd.R_slice HO148.out; subst eo22))
        go_loopg [5, 28] kj2 (fun kq v5 v28 w' => ∃ (x5_2 : List Int) (x28_2 : Int), v28 = .int .i64 x28_2 ∧ Aside0 (graph_Reach.l0 kq x5_2 t146 (t146.length : Int) x28_2 = some r) ∧ Aside0 (kq ≤ kj2) ∧ Aside0 (Kd.R (Kd.int .i64) 3 w' w.heap.size (fun _ => True) v5 x5_2) ∧ Aside0 (Kd.R Kd.bool 4 w' w.heap.size (fun _ => True) (.slice Ao22 t146.length co22) t146) ∧ Aside0 (w'.heap[gb141]? = some (.cells #[(.slice A0_0 l0_0.length c0_0)] 24 (0, 0))) ∧ Aside0 (Below w.heap.size w w'))
        case atStart => exact ⟨(([] : List Int)), (0), (by first | rfl | (simp; done) | (simp [*]; done)), H', ⟨Nat.le_refl _⟩, ⟨by first | exact Kd.R_nil _ _ _ _ _ | exact Kd.N_nil _ _ _ _ _ | exact Kd.V_nil _ _ _ _ _ | exact Kd.Q_nil _ _ _ _ _ | exact Kd.S_nil _ _ _ _ _⟩, ⟨by (with_reducible repeat (first | apply Kd.R_alloc | apply Kd.R_drewN | apply Kd.R_drew)); exact HO148.out⟩, ⟨by (with_reducible repeat (first | refine kN ?_ _ | refine kD ?_ | refine kA ?_ _)); exact BK141.out⟩, ⟨by repeat (first | (with_reducible first | exact HB.out | apply bA | apply bN | apply bD | refine below_set ?_ GE141.out) | exact HB.out)⟩⟩
        case round =>
          clear H'
          try clear c1
          try clear c2
          try clear p2
          try clear c3
          try clear c6
          try clear c7
          try clear c7b0
          try clear c15
          try clear c18
          try clear hcz10_0
          try clear hcz12_0
          try clear hcz13_0
          try clear hcz17_0
          try clear hcz8_0
          try clear hfz10_0
          try clear hfz12_0
          try clear hfz13_0
          try clear hfz17_0
          try clear hfz8_0
          try clear p2
          obtain ⟨x5_2, x28_2, rfl, HA, HK2, HO_5, HO_26, BK141, HB⟩ := hrel
          cases gk with
          | zero => exact absurd HA.out (by simp [graph_Reach.l0])
          | succ k2 =>
            have H := HA.out
            clear HA
            simp only [graph_Reach.l0] at H
            by_cases c23 : x28_2 < (t146.length : Int)
            · rw [if_pos c23] at H
              have c23b0 : decide (x28_2 < (t146.length : Int)) = true := decide_eq_true c23
              clear c23
              by_cases c24 : 0 ≤ x28_2
              · rw [if_pos c24] at H
                have c24b0 : decide (0 ≤ x28_2) = true := decide_eq_true c24
                clear c24
                by_cases c25 : x28_2 < (t146.length : Int)
                · rw [if_pos c25] at H
                  have c25b0 : decide (x28_2 < (t146.length : Int)) = true := decide_eq_true c25
                  clear c25
                  obtain ⟨bq26, hbq26⟩ : ∃ b_ : Bool, b_ = (rdOf false t146 x28_2) := ⟨_, rfl⟩
                  replace H : (if bq26 = true then (if x5_2.length < 17592186044416 then (graph_Reach.l0 k2 (x5_2 ++ [x28_2]) t146 (t146.length : Int) (wrap64 (x28_2 + 1))) else (none)) else (graph_Reach.l0 k2 x5_2 t146 (t146.length : Int) (wrap64 (x28_2 + 1)))) = some r := by rw [← hbq26] at H; exact H
                  have Nbq26 := aM hbq26
                  clear hbq26
                  by_cases c27 : bq26 = true
                  · subst c27
                    have H1 : (if x5_2.length < 17592186044416 then (graph_Reach.l0 k2 (x5_2 ++ [x28_2]) t146 (t146.length : Int) (wrap64 (x28_2 + 1))) else (none)) = some r := by rw [if_pos rfl] at H; exact H
                    clear H
                    have H := H1
                    clear H1
                    by_cases c28 : x5_2.length < 17592186044416
                    · rw [if_pos c28] at H
                      have LMc28 := aM c28
                      clear c28
                      obtain ⟨y150, hy150⟩ : ∃ y_ : List Int, y_ = (x5_2 ++ [x28_2]) := ⟨_, rfl⟩
                      replace H : (graph_Reach.l0 k2 y150 t146 (t146.length : Int) (wrap64 (x28_2 + 1))) = some r := by first | (rw [hy150]; with_reducible exact H) | (have H2_ := (Option.bind_some _ _).symm.trans H; rw [hy150]; with_reducible exact H2_) | (have H2_ := (Option.bind_some _ _).symm.trans H; with_reducible exact H2_) | with_reducible exact H | (rw [hy150]; exact H) | exact H
                      have Ny150 := aM hy150
                      clear hy150
                      have H' := aM H
                      clear H
                      have p149 : 0 ≤ (x28_2 : Int) := of_decide_eq_true (by first | (with_reducible assumption) | assumption)
                      have q149 : x28_2 < (t146.length : Int) := of_decide_eq_true (by first | (with_reducible assumption) | assumption)
                      obtain ⟨ad149, e149, hx149_0⟩ := Kd.at_bool (Kd.R_reads' HO_26.out).2.2 x28_2 p149 q149
                      (try rw [← Nbq26.out] at hx149_0)
                      cases e149
                      replace p149 := eq_true p149
                      replace q149 := eq_true q149
                      go_wp2_with (first | ((with_reducible refine gate_builtin (b := .append) (xs := #[.tmp 34, .tmp 36]) rfl ?_); (try (refine gate_guard (by rfl) ?_; dsimp only)); at_builtin; refine Kd.R_append (Kd.int .i64) (w0 := w) w.heap.size rfl (.tmp 34) (.tmp 36) 32 3 (.int .i64 0) 8 rfl Try.underlying32 info3 rfl (by decide) (by omega) u5 x5_2 x28_2 [.int .i64 x28_2] (fun _ => True) (fun _ => False) rfl rfl ?aP (fun _ hk => hk.elim) ?aF ?aO ?aB ?aS ?aL ?_; (case aP => exact rfl); (case aB => exact (by repeat (first | (with_reducible first | exact HB.out | apply bA | apply bN | apply bD | refine below_set ?_ GE141.out) | exact HB.out))); (case aF => exact (fun _ _ => trivial)); (case aO => exact (by (with_reducible repeat (first | apply Kd.R_alloc | apply Kd.R_drewN | apply Kd.R_drew)); exact HO_5.out)); (case aS => exact (below_size (by repeat (first | (with_reducible first | exact HB.out | apply bA | apply bN | apply bD | refine below_set ?_ GE141.out) | exact HB.out)))); (case aL => have := LMc28.out; omega); intro v151 w29 ho hb hg hat; rw [← Ny150.out] at ho; have n0_ := aM (Kd.R_over' (by (with_reducible repeat (first | apply Kd.R_alloc | apply Kd.R_drewN | apply Kd.R_drew)); exact HO_26.out) (Kd.R_typed (by (with_reducible repeat (first | apply Kd.R_alloc | apply Kd.R_drewN | apply Kd.R_drew)); exact HO_5.out)) (by decide) hg); have n1_ := aM (blk_grown (g := gb141) (o := .cells #[.slice A0_0 l0_0.length c0_0] 24 (0, 0)) (by (with_reducible repeat (first | refine kN ?_ _ | refine kD ?_ | refine kA ?_ _)); exact BK141.out) hg (Kd.R_ne HO_5.out BK141.out (by decide))); have n2_ := aM (hb); have n3_ := aM (ho); clear HO_26; clear BK141; clear HB; clear HO_5; have HO_26 := n0_; have BK141 := n1_; have HB := n2_; have HO152 := n3_; clear n0_ n1_ n2_ n3_; clear ho hb hg hat))
                      go_roundg k2
                      case measure => have := HJ2.out; have := HK2.out; omega
                      case rel => exact ⟨(y150), (wrap64 (x28_2 + 1)), (by first | rfl | (simp; done) | (simp [*]; done)), H', ⟨by have := HJ2.out; have := HK2.out; omega⟩, ⟨by (with_reducible repeat (first | apply Kd.R_alloc | apply Kd.R_drewN | apply Kd.R_drew)); exact HO152.out⟩, ⟨by (with_reducible repeat (first | apply Kd.R_alloc | apply Kd.R_drewN | apply Kd.R_drew)); exact HO_26.out⟩, ⟨by (with_reducible repeat (first | refine kN ?_ _ | refine kD ?_ | refine kA ?_ _)); exact BK141.out⟩, ⟨by repeat (first | (with_reducible first | exact HB.out | apply bA | apply bN | apply bD | refine below_set ?_ GE141.out) | exact HB.out)⟩⟩
                    · rw [if_neg c28] at H
                      exact absurd H (by simp)
                  · replace c27 := Bool.eq_false_iff.mpr c27
                    subst c27
                    have H1 : (graph_Reach.l0 k2 x5_2 t146 (t146.length : Int) (wrap64 (x28_2 + 1))) = some r := by rw [if_neg (show ¬ (false = true) by decide)] at H; exact H
                    clear H
                    have H := H1
                    clear H1
                    have H' := aM H
                    clear H
                    have p149 : 0 ≤ (x28_2 : Int) := of_decide_eq_true (by first | (with_reducible assumption) | assumption)
                    have q149 : x28_2 < (t146.length : Int) := of_decide_eq_true (by first | (with_reducible assumption) | assumption)
                    obtain ⟨ad149, e149, hx149_0⟩ := Kd.at_bool (Kd.R_reads' HO_26.out).2.2 x28_2 p149 q149
                    (try rw [← Nbq26.out] at hx149_0)
                    cases e149
                    replace p149 := eq_true p149
                    replace q149 := eq_true q149
                    go_wp2
                    go_roundg k2
                    case measure => have := HJ2.out; have := HK2.out; omega
                    case rel => exact ⟨(x5_2), (wrap64 (x28_2 + 1)), (by first | rfl | (simp; done) | (simp [*]; done)), H', ⟨by have := HJ2.out; have := HK2.out; omega⟩, ⟨by (with_reducible repeat (first | apply Kd.R_alloc | apply Kd.R_drewN | apply Kd.R_drew)); exact HO_5.out⟩, ⟨by (with_reducible repeat (first | apply Kd.R_alloc | apply Kd.R_drewN | apply Kd.R_drew)); exact HO_26.out⟩, ⟨by (with_reducible repeat (first | refine kN ?_ _ | refine kD ?_ | refine kA ?_ _)); exact BK141.out⟩, ⟨by repeat (first | (with_reducible first | exact HB.out | apply bA | apply bN | apply bD | refine below_set ?_ GE141.out) | exact HB.out)⟩⟩
                · rw [if_neg c25] at H
                  exact absurd H (by simp)
              · rw [if_neg c24] at H
                exact absurd H (by simp)
            · rw [if_neg c23] at H
              have c23b0 : decide (x28_2 < (t146.length : Int)) = false := decide_eq_false c23
              clear c23
              obtain rfl := Option.some.inj H
              go_wp2
              go_ret
              exact ⟨_, by first | rfl | (simp [errW_none, errW_some] <;> rfl) | (simp [*, errW_none, errW_some] <;> rfl), by (with_reducible repeat (first | apply Kd.R_alloc | apply Kd.R_drewN | apply Kd.R_drew)); exact HO_5.out, by repeat (first | (with_reducible first | exact HB.out | apply bA | apply bN | apply bD | refine below_set ?_ GE141.out) | exact HB.out)⟩

end Go.Proofs.Ytpmjpngmmphkmaa.P
/- graph.Levels as a Lean function on lists. -/
namespace Go.Proofs.Ytpmjpngmmphkmaa
open Go.RowKit Go.Proofs.YtpmjpngmmphkmaaW.PrintWords Go.Proofs.YtpmjpngmmphkmaaW.PrintLast Go.Proofs.YtpmjpngmmphkmaaW.PrintMore Go.Proofs.Ytpmjpngmmphkmaa.P
namespace Lv
open Tj Rw Od

/-- The level of v by its successors. -/
def lv1 : Nat → Int → List Int → Int → List Int → Option (List Int)
  | 0, _, _, _, _ => none
  | k + 1, v, l, i, lv =>
    if i < l.length then
      if 0 ≤ rd l i ∧ rd l i < lv.length then lv1 k v l (i + 1) (lv.set v.toNat (max (rd lv v) (wrap64 (rd lv (rd l i) + 1)))) else none
    else some lv

/-- The levels, component by component; none inside: a cycle. -/
def lv0 : Nat → List (List Int) → List (List Int) → Int → List Int → Int → Option (Option (List Int × Int))
  | 0, _, _, _, _, _ => none
  | k + 1, es, comps, i, lv, top =>
    if i < comps.length then
      if 0 < (row comps i).length ∧ 0 ≤ rd (row comps i) 0 ∧ rd (row comps i) 0 < es.length then
        if 1 < (row comps i).length ∨ (row es (rd (row comps i) 0)).contains (rd (row comps i) 0) = true then some none
        else (lv1 k (rd (row comps i) 0) (row es (rd (row comps i) 0)) 0 lv).bind fun lv2 => lv0 k es comps (i + 1) lv2 (max top (rd lv2 (rd (row comps i) 0)))
      else none
    else some (some (lv, top))

/-- The nodes by their levels. -/
def lv3 : Nat → List Int → Int → List (List Int) → Option (List (List Int))
  | 0, _, _, _ => none
  | k + 1, lv, i, out =>
    if i < lv.length then
      if 0 ≤ rd lv i ∧ rd lv i < out.length ∧ (row out (rd lv i)).length < 17592186044415 then lv3 k lv (i + 1) (app out (rd lv i) i) else none
    else some out

noncomputable def levelsF (k : Nat) (es : List (List Int)) : Option (List (List Int) × Int) :=
  (graph_valid.f k es).bind fun b =>
    if b = true then
      (graph_ordered.f es).bind fun comps =>
        if es.length < 17592186044416 then
          (lv0 k es comps 0 (List.replicate es.length 0) (-1)).bind fun o =>
            match o with
            | none => some ([], 18)
            | some (lv, top) => if 0 ≤ wrap64 (top + 1) ∧ wrap64 (top + 1) < 5864062014805 then (lv3 k lv 0 (List.replicate (wrap64 (top + 1)).toNat [])).map fun out => (out, 0) else none
        else none
    else some ([], 1)
end Lv
end Go.Proofs.Ytpmjpngmmphkmaa
/- slices.Contains as printed says whether the list has the number. -/
namespace Go.Proofs.Ytpmjpngmmphkmaa
open Go.RowKit Go.Proofs.YtpmjpngmmphkmaaW.PrintWords Go.Proofs.YtpmjpngmmphkmaaW.PrintLast Go.Proofs.YtpmjpngmmphkmaaW.PrintMore Go.Proofs.Ytpmjpngmmphkmaa.P
namespace Lv
open Tj Rw Od
theorem wrap_small (x : Int) (h0 : -9223372036854775808 ≤ x) (h1 : x < 9223372036854775808) : wrap64 x = x := by
  unfold wrap64
  omega
theorem index_run (l : List Int) (a : Int) (hl : l.length ≤ 9223372036854775807) : ∀ (m : Nat) (i : Nat), i + m = l.length → (l.take i).contains a = false → ∃ r : Int, slices_Index_int_int.l0 (m + 1) l a l.length i = some r ∧ (decide (r ≥ 0)) = l.contains a := by
  intro m
  induction m with
  | zero =>
    intro i hi hc
    have : i = l.length := by omega
    subst this
    rw [List.take_length] at hc
    refine ⟨-1, ?_, by rw [hc]; decide⟩
    unfold slices_Index_int_int.l0
    rw [if_neg (by omega)]
  | succ m ih =>
    intro i hi hc
    unfold slices_Index_int_int.l0
    rw [if_pos (by omega), if_pos (by omega), if_pos (by omega)]
    have hil : i < l.length := by omega
    have hrd : rd l (i : Int) = l[i] := by
      show l.getD (i : Int).toNat 0 = l[i]
      rw [Int.toNat_natCast, List.getD_eq_getElem?_getD, List.getElem?_eq_getElem hil]
      rfl
    rw [hrd]
    by_cases he : a = l[i]
    · rw [if_pos he]
      refine ⟨i, rfl, ?_⟩
      have h1 : l.contains a = true := by
        rw [List.contains_iff_mem, he]
        exact List.getElem_mem hil
      rw [h1]
      exact decide_eq_true (by omega)
    · rw [if_neg he]
      have hw : wrap64 ((i : Int) + 1) = ((i + 1 : Nat) : Int) := by
        rw [wrap_small _ (by omega) (by omega)]
        omega
      rw [hw]
      refine ih (i + 1) (by omega) ?_
      rw [List.take_succ_eq_append_getElem hil, List.contains_append, hc]
      simp [he]
theorem contains_run (l : List Int) (a : Int) (hl : l.length ≤ 9223372036854775807) : slices_Contains_int_int.f (l.length + 1) l a = some (l.contains a) := by
  obtain ⟨r, h1, h2⟩ := index_run l a hl l.length 0 (by omega) rfl
  unfold slices_Contains_int_int.f slices_Index_int_int.f
  rw [show ((0 : Int)) = ((0 : Nat) : Int) from rfl, h1]
  show some (decide (r ≥ 0)) = _
  rw [h2]
end Lv
end Go.Proofs.Ytpmjpngmmphkmaa
/- graph.Levels: what the call does, by its Lean function. -/
namespace Go.Proofs.Ytpmjpngmmphkmaa
open Go.RowKit Go.Proofs.YtpmjpngmmphkmaaW.PrintWords Go.Proofs.YtpmjpngmmphkmaaW.PrintLast Go.Proofs.YtpmjpngmmphkmaaW.PrintMore Go.Proofs.Ytpmjpngmmphkmaa.P
namespace Lv
set_option linter.unusedVariables false
set_option linter.unusedSimpArgs false
open Tj Rw Od

set_option maxRecDepth 100000 in
set_option maxHeartbeats 4000000 in
theorem levels_calls (k : Nat) (A : Option Addr) (c : Nat) (es : List (List Int)) (r1 : List (List Int)) (r2 : Int) (w : World) (hr : Kd.C KS w A es.length es) (hc : es.length ≤ c) (h : levelsF k es = some (r1, r2)) :
    Calls Try.prog 14 #[.agg #[.slice A es.length c]] w fun e w' => ∃ v, e = .returned (.tuple #[v, .int .i64 r2]) ∧ Kd.S KS 32 w' w.heap.size (fun _ => True) v r1 ∧ Below w.heap.size w w' := by
  have hu24 := Try.underlying24
  unfold levelsF at h
  obtain ⟨b, hb, h⟩ := Option.bind_eq_some_iff.1 h
  have HR := Aside0.mk hr
  have HC := Aside0.mk hc
  clear hr hc
  cases b with
  | false =>
    have HVA := Aside0.mk hb
    rw [if_neg (by decide)] at h
    obtain ⟨rfl, rfl⟩ := Prod.mk.inj (Option.some.inj h)
    clear hb h
    go_enter Try.func14, Try.ntmps14
    go_wp2_with (first | ((with_reducible refine gate_dst (N := 1) rfl ?_); refine box_event ?hg (N := 1) ?hd (cs := #[.slice A es.length c]) (t := 24) ?hr ?_; (case hd => rfl); (case hg => rfl); (case hr => first | (go_simp; done) | (go_simp; rfl)); intro gb hg w5 hbox hb; have B5 := Aside0.mk (below_step (Below.refl w.heap.size w) hb); have K5 := Aside0.mk hbox; have GE : Aside0 (w.heap.size ≤ gb) := Aside0.mk (by rw [hg]; exact Nat.le_refl _); have hcz : w5.cell? ⟨gb, 0, none⟩ = some (.slice A es.length c) := (blk_cell K5.out 0).trans rfl; clear hb hbox hg) | (go_at_call 27; refine (graph_valid.calls k A c es false _ (Kd.C_below HR.out B5.out) HC.out HVA.out).mono ?_; rintro e w7 ⟨rfl, hb7⟩; have B7 := Aside0.mk (below_step B5.out hb7); have K7 := Aside0.mk (blk_below K5.out hb7); clear hb7 hcz B5 K5; have hcz : w7.cell? ⟨gb, 0, none⟩ = some (.slice A es.length c) := (blk_cell K7.out 0).trans rfl) | fail)
    go_ret2
    exact ⟨_, rfl, Kd.S_nil _ _ _ _ _, B7.out⟩
  | true =>
    have HVA := Aside0.mk hb
    rw [if_pos rfl] at h
    obtain ⟨comps, ho, h⟩ := Option.bind_eq_some_iff.1 h
    have HO := Aside0.mk ho
    by_cases hL : es.length < 17592186044416
    case neg => rw [if_neg hL] at h; cases h
    rw [if_pos hL] at h
    obtain ⟨o, hlv, h⟩ := Option.bind_eq_some_iff.1 h
    have HLV := Aside0.mk hlv
    have HH := Aside0.mk h
    have HLL := Aside0.mk hL
    clear hb ho h hlv hL
    go_enter Try.func14, Try.ntmps14
    go_upto_region 4 with (first | ((with_reducible refine gate_dst (N := 1) rfl ?_); refine box_event ?hg (N := 1) ?hd (cs := #[.slice A es.length c]) (t := 24) ?hr ?_; (case hd => rfl); (case hg => rfl); (case hr => first | (go_simp; done) | (go_simp; rfl)); intro gb hg w5 hbox hb; have B5 := Aside0.mk (below_step (Below.refl w.heap.size w) hb); have K5 := Aside0.mk hbox; have GE : Aside0 (w.heap.size ≤ gb) := Aside0.mk (by rw [hg]; exact Nat.le_refl _); have hcz : w5.cell? ⟨gb, 0, none⟩ = some (.slice A es.length c) := (blk_cell K5.out 0).trans rfl; clear hb hbox hg) | (go_at_call 27; refine (graph_valid.calls k A c es true _ (Kd.C_below HR.out B5.out) HC.out HVA.out).mono ?_; rintro e w7 ⟨rfl, hb7⟩; have B7 := Aside0.mk (below_step B5.out hb7); have K7 := Aside0.mk (blk_below K5.out hb7); clear hb7 hcz B5 K5; have hcz : w7.cell? ⟨gb, 0, none⟩ = some (.slice A es.length c) := (blk_cell K7.out 0).trans rfl) | (go_at_call 28; refine (graph_ordered.calls A c es comps _ (Kd.C_below HR.out B7.out) HC.out HO.out).mono ?_; rintro e w9 ⟨vc, rfl, hV, hb9⟩; obtain ⟨Ac, cc, rfl, hlc, hF⟩ := hV; have V9 := Aside0.mk (Kd.F_bound hF); have B9 := Aside0.mk (below_step B7.out hb9); have K9 := Aside0.mk (blk_below K7.out hb9); have S7 := Aside0.mk (B7.out.size); have LC := Aside0.mk (Kd.F_max hF); clear hF hb9 hcz B7 K7 hlc; have hcz : w9.cell? ⟨gb, 0, none⟩ = some (.slice A es.length c) := (blk_cell K9.out 0).trans rfl) | fail)
    obtain ⟨i0, e0, e1, e2, e3⟩ := info_parts info3
    have hll := HLL.out
    have hmk := run_make w9 32 3 i0 _ Try.underlying32 e0 e1 .i64 .i64 es.length es.length (by omega) (by omega) (by rw [e3]; omega) (by omega)
    rw [Int.toNat_natCast, e2, Nat.mul_one] at hmk
    have hz0 : (Value.int .i64 0).cells = #[.int .i64 0] := rfl
    rw [hz0] at hmk
    clear e0 e1 e2 e3 hz0
    go_upto_region 6 with fail
    have hb0 := B9.out.size
    have O3 := Aside0.mk (arr_made (blk_new w9 (.cells (madeCells #[.int .i64 0] es.length) 3)))
    have B3 := Aside0.mk (below_alloc B9.out (.cells (madeCells #[.int .i64 0] es.length) 3))
    have K3 := Aside0.mk (blk_alloc K9.out (.cells (madeCells #[.int .i64 0] es.length) 3))
    have F3 := Aside0.mk (Kd.F_alloc V9.out (.cells (madeCells #[.int .i64 0] es.length) 3))
    have HGA : Aside0 (w.heap.size ≤ w9.heap.size ∧ gb < w9.heap.size) := ⟨hb0, blk_lt K9.out⟩
    clear hmk B9 K9 V9 hb0 hcz
    generalize w9.alloc (.cells (madeCells #[.int .i64 0] es.length) 3) = w10 at O3 B3 K3 F3 ⊢
    generalize w9.heap.size = ga at O3 B3 K3 F3 HGA ⊢
    have hlc := LC.out
    have hll2 : Aside0 ((List.replicate es.length (0 : Int)).length = es.length) := ⟨by simp⟩
    go_wp2_with fail
    go_loopg [6, 27] k (fun kq v6 v27 w' => ∃ (i top : Int) (lv : List Int), v27 = .int .i64 i ∧ v6 = .int .i64 top ∧ Aside0 (0 ≤ i) ∧ Aside0 (lv.length = es.length) ∧ Aside0 (lv0 kq es comps i lv top = some o) ∧ Aside0 (kq ≤ k) ∧ Aside0 (Below w.heap.size w w') ∧ Aside0 (w'.heap[gb]? = some (.cells #[.slice A es.length c] 24 (0, 0))) ∧ Aside0 (w'.heap[ga]? = some (arr lv)) ∧ Aside0 (Kd.F KS w' (fun k => w7.heap.size ≤ k ∧ k < ga) Ac comps.length comps))
    case atStart => exact ⟨0, -1, _, rfl, rfl, ⟨by omega⟩, hll2, HLV, ⟨Nat.le_refl _⟩, B3, K3, O3, F3⟩
    case round => as_aux_lemma =>
      clear HLV B3 K3 O3 F3 hll2
      obtain ⟨i, top, lv, rfl, rfl, HI, HLEN, HA, HK1, B3, K3, O3, F3⟩ := hrel
      cases gk with
      | zero => exact absurd HA.out (by simp [lv0])
      | succ k1 =>
        have H := HA.out
        clear HA
        rw [lv0] at H
        by_cases ci : i < comps.length
        · as_aux_lemma =>
          rw [if_pos ci] at H
          by_cases cx : 0 < (row comps i).length ∧ 0 ≤ rd (row comps i) 0 ∧ rd (row comps i) 0 < es.length
          case neg => rw [if_neg cx] at H; cases H
          rw [if_pos cx] at H
          obtain ⟨cx0, cx1, cx2⟩ := cx
          have hi0 := HI.out
          obtain ⟨adc, Ar, cr, er, hx, hxl, hxi⟩ := at_L1 (Kd.F_now F3.out) i hi0 ci
          subst er
          have el : rd_L1 comps i = row comps i := rfl
          rw [el] at hx hxl hxi
          have HXI := Aside0.mk hxi
          have HXL := Aside0.mk hxl
          obtain ⟨ad0, e0, hy⟩ := Kd.at_int hxi 0 (by omega) (by omega)
          subst e0
          rw [show ((0 : Int)).toNat = 0 from rfl, Addr.add_zero'] at hy
          clear hxi hxl el
          have cb : decide (i < (comps.length : Int)) = true := decide_eq_true ci
          have q0 := eq_true hi0
          have cz : (0 < (row comps i).length) = True := eq_true cx0
          have H' := Aside0.mk H
          clear H
          go_upto_region 10 with fail
          clear hy hx cz cb q0
          generalize rd (row comps i) 0 = v at H' cx1 cx2 ⊢
          have hcz := (blk_cell K3.out 0)
          have hcy : wr.cell? ⟨gb, 0, none⟩ = some (.slice A es.length c) := hcz.trans rfl
          clear hcz
          by_cases c1 : 1 < (row comps i).length
          · as_aux_lemma =>
            have H := H'.out
            clear H'
            rw [if_pos (Or.inl c1)] at H
            obtain rfl := Option.some.inj H
            obtain ⟨rfl, rfl⟩ := Prod.mk.inj (Option.some.inj HH.out)
            have cb1 : decide ((1 : Int) < ((row comps i).length : Int)) = true := decide_eq_true (by omega)
            clear H HH
            go_wp2_with fail
            go_ret2
            exact ⟨_, rfl, Kd.S_nil _ _ _ _ _, B3.out⟩
          · as_aux_lemma =>
            have cb1 : decide ((1 : Int) < ((row comps i).length : Int)) = false := decide_eq_false (by omega)
            obtain ⟨adE, Ae, ce, er, hx, hxl, hxi⟩ := at_L1 HR.out v cx1 cx2
            subst er
            have el : rd_L1 es v = row es v := rfl
            rw [el] at hx hxl hxi
            have hx1 := (B3.out.cell (World.block_lt_of_cell? _ _ hx)).trans hx
            have HXE := Aside0.mk hx
            have EXI := Aside0.mk hxi
            have EXL := Aside0.mk hxl
            clear hx hxi hxl el
            have q1 := eq_true cx1
            have q2 := eq_true cx2
            have CON := Aside0.mk (fun (wq : World) (hq : Below w.heap.size w wq) => slices_Contains_int_int.calls ((row es v).length + 1) Ae ce (row es v) v _ wq (Kd.C_below EXI.out hq) EXL.out (contains_run _ _ (EXI.out.2.1)))
            by_cases cc1 : (row es v).contains v = true
            · as_aux_lemma =>
              have H := H'.out
              clear H'
              rw [if_pos (Or.inr cc1)] at H
              obtain rfl := Option.some.inj H
              obtain ⟨rfl, rfl⟩ := Prod.mk.inj (Option.some.inj HH.out)
              clear H HH
              rw [cc1] at CON
              go_wp2_with (go_at_call 31; refine (CON.out wr B3.out).mono ?_; rintro e w11 ⟨rfl, hd11⟩; obtain ⟨⟨nq, rfl⟩⟩ := hd11)
              go_ret2
              exact ⟨_, rfl, Kd.S_nil _ _ _ _ _, pw_below_drewN B3.out nq⟩
            · as_aux_lemma =>
              have cc2 : (row es v).contains v = false := by simpa using cc1
              rw [cc2] at CON
              have H := H'.out
              clear H'
              rw [if_neg (by rintro (h | h); exact c1 h; exact cc1 h)] at H
              obtain ⟨lv2, hl2, H⟩ := Option.bind_eq_some_iff.1 H
              have HL2 := Aside0.mk hl2
              have H' := Aside0.mk H
              clear H hl2
              go_upto_region 12 with (go_at_call 31; refine (CON.out wr B3.out).mono ?_; rintro e w11 ⟨rfl, hd11⟩; obtain ⟨⟨nq, rfl⟩⟩ := hd11)
              have B4 := Aside0.mk (pw_below_drewN B3.out nq)
              have K4 := Aside0.mk (blk_drewN K3.out nq)
              have O4 := Aside0.mk (show (wr.drewN nq).heap[ga]? = some (arr lv) from blk_drewN O3.out nq)
              have F4 := Aside0.mk (Kd.F_drewN F3.out nq)
              clear B3 K3 O3 F3 CON hcy hx1
              generalize wr.drewN nq = w12 at B4 K4 O4 F4 ⊢
              have hcy : w12.cell? ⟨gb, 0, none⟩ = some (.slice (some adE) es.length c) := (blk_cell K4.out 0).trans rfl
              have hx1 := (B4.out.cell (World.block_lt_of_cell? _ _ HXE.out)).trans HXE.out
              have hel := EXI.out.2.1
              go_wp2_with fail
              clear hx1 hcy q1 q2
              go_loopg [52] k1 (fun kq v52 w' => ∃ (j : Int) (lv3 : List Int), v52 = .int .i64 j ∧ Aside0 (0 ≤ j) ∧ Aside0 (lv3.length = es.length) ∧ Aside0 (lv1 kq v (row es v) j lv3 = some lv2) ∧ Aside0 (kq ≤ k1) ∧ Aside0 (Below w.heap.size w w') ∧ Aside0 (w'.heap[gb]? = some (.cells #[.slice (some adE) es.length c] 24 (0, 0))) ∧ Aside0 (w'.heap[ga]? = some (arr lv3)) ∧ Aside0 (Kd.F KS w' (fun k => w7.heap.size ≤ k ∧ k < ga) (some adc) comps.length comps))
              case atStart => exact ⟨0, _, rfl, ⟨by omega⟩, HLEN, HL2, ⟨Nat.le_refl _⟩, B4, K4, O4, F4⟩
              case round => as_aux_lemma =>
                clear HL2 B4 K4 O4 F4
                obtain ⟨j, lv3, rfl, HJ, HLEN3, HA, HK2, B4, K4, O4, F4⟩ := hrel
                obtain ⟨W2, rfl⟩ : ∃ W2 : World, W2 = wr := ⟨_, rfl⟩
                cases gk with
                | zero => exact absurd HA.out (by simp [lv1])
                | succ k2 =>
                  have H := HA.out
                  clear HA
                  rw [lv1] at H
                  by_cases cj : j < (row es v).length
                  · as_aux_lemma =>
                    rw [if_pos cj] at H
                    by_cases cd : 0 ≤ rd (row es v) j ∧ rd (row es v) j < lv3.length
                    case neg => rw [if_neg cd] at H; cases H
                    rw [if_pos cd] at H
                    have hj0 := HJ.out
                    obtain ⟨adj, ej, hx⟩ := Kd.at_int EXI.out j hj0 cj
                    subst ej
                    have hxj := (B4.out.cell (World.block_lt_of_cell? _ _ hx)).trans hx
                    clear hx
                    generalize rd (row es v) j = d at H cd hxj
                    obtain ⟨cd0, cd1⟩ := cd
                    have H' := Aside0.mk H
                    clear H
                    have cbj : decide (j < ((row es v).length : Int)) = true := decide_eq_true cj
                    have qj := eq_true hj0
                    have q1 := eq_true cx1
                    have q2 := eq_true cx2
                    have q3 := eq_true cd0
                    have q4 : (d < (es.length : Int)) = True := eq_true (by rw [← HLEN3.out]; exact cd1)
                    have cv := arr_cell O4.out v cx1 (by rw [HLEN3.out]; exact cx2)
                    have cdd := arr_cell O4.out d cd0 cd1
                    have fv := arr_free O4.out v.toNat
                    go_upto_region 15 with fail
                    go_region
                    have B5 := Aside0.mk (below_drew (B4.out.setCell (show w.heap.size ≤ (⟨ga, v.toNat, none⟩ : Addr).block from HGA.out.1) (.int .i64 (max (rd lv3 v) (wrap64 (rd lv3 d + 1))))))
                    have K5 := Aside0.mk (blk_drew (blk_far K4.out (p := ⟨ga, v.toNat, none⟩) (show gb ≠ ga from Nat.ne_of_lt HGA.out.2) (.int .i64 (max (rd lv3 v) (wrap64 (rd lv3 d + 1))))))
                    have O5 := Aside0.mk (show (W2.setCell ⟨ga, v.toNat, none⟩ (.int .i64 (max (rd lv3 v) (wrap64 (rd lv3 d + 1))))).drew.heap[ga]? = some (arr (lv3.set v.toNat (max (rd lv3 v) (wrap64 (rd lv3 d + 1))))) from by unfold arr; rw [← nums_set]; exact blk_drew (blk_set O4.out v.toNat _))
                    have F5 := Aside0.mk (Kd.F_drew (Kd.F_far (p := ⟨ga, v.toNat, none⟩) F4.out (fun k hk => show k ≠ ga from Nat.ne_of_lt hk.2) (.int .i64 (max (rd lv3 v) (wrap64 (rd lv3 d + 1))))))
                    have L5 : Aside0 ((lv3.set v.toNat (max (rd lv3 v) (wrap64 (rd lv3 d + 1)))).length = es.length) := ⟨by rw [List.length_set]; exact HLEN3.out⟩
                    clear B4 K4 O4 F4 cv cdd fv hxj HLEN3
                    generalize (W2.setCell ⟨ga, v.toNat, none⟩ (.int .i64 (max (rd lv3 v) (wrap64 (rd lv3 d + 1))))).drew = w13 at B5 K5 O5 F5 ⊢
                    go_wp2_with fail
                    go_roundg k2
                    case measure => omega
                    case rel => exact ⟨j + 1, _, rfl, ⟨by omega⟩, L5, H', ⟨by have := HK2.out; omega⟩, B5, K5, O5, F5⟩
                  · as_aux_lemma =>
                    rw [if_neg cj] at H
                    obtain rfl := Option.some.inj H
                    have cbj : decide (j < ((row es v).length : Int)) = false := decide_eq_false cj
                    clear H
                    have q1 := eq_true cx1
                    have q2 := eq_true cx2
                    have cv := arr_cell O4.out v cx1 (by rw [HLEN3.out]; exact cx2)
                    go_wp2_with fail
                    go_roundg k1
                    case measure => omega
                    case rel => exact ⟨i + 1, _, _, rfl, rfl, ⟨by have := HI.out; omega⟩, HLEN3, H', ⟨by have := HK1.out; omega⟩, B4, K4, O4, F4⟩
        · as_aux_lemma =>
          rw [if_neg ci] at H
          obtain rfl := Option.some.inj H
          have cb : decide (i < (comps.length : Int)) = false := decide_eq_false ci
          clear H
          by_cases ct : 0 ≤ wrap64 (top + 1) ∧ wrap64 (top + 1) < 5864062014805
          case neg => have := HH.out; simp only at this; rw [if_neg ct] at this; cases this
          have HH1 := HH.out
          simp only at HH1
          rw [if_pos ct] at HH1
          obtain ⟨out0, h3, h4⟩ := Option.map_eq_some_iff.1 HH1
          obtain ⟨rfl, rfl⟩ := Prod.mk.inj h4
          have H3 := Aside0.mk h3
          obtain ⟨ct0, ct1⟩ := ct
          obtain ⟨n, hn⟩ := Int.eq_ofNat_of_zero_le ct0
          rw [hn] at ct1
          rw [hn, Int.toNat_natCast] at H3
          have HN := Aside0.mk hn
          clear HH HH1 h3 h4 ct0 hn
          go_upto_region 19 with fail
          have hn := HN.out
          obtain ⟨i0, e0, e1, e2, e3⟩ := info_parts info32
          have hmk := run_make wr 22 32 i0 _ Try.underlying22 e0 e1 .i64 .i64 n n (by omega) (by omega) (by rw [e3]; omega) (by omega)
          rw [Int.toNat_natCast, e2, Nat.mul_one] at hmk
          have hz0 : (Value.slice none 0 0).cells = #[.slice none 0 0] := rfl
          rw [hz0] at hmk
          clear e0 e1 e2 e3 hz0
          go_upto_region 20 with fail
          obtain ⟨W3, rfl⟩ : ∃ W3 : World, W3 = wr := ⟨_, rfl⟩
          have O6 := Aside0.mk (show (W3.alloc (.cells (madeCells #[.slice none 0 0] n) 32)).heap[ga]? = some (arr lv) from blk_alloc O3.out (.cells (madeCells #[.slice none 0 0] n) 32))
          have B6 := Aside0.mk (below_alloc B3.out (.cells (madeCells #[.slice none 0 0] n) 32))
          have hbs := B3.out.size
          have S6 := Aside0.mk (S_made (base := w.heap.size) (ok := fun k => W3.heap.size ≤ k) (blk_new W3 (.cells (madeCells #[.slice none 0 0] n) 32)) hbs (by unfold maxLen; omega) (Nat.le_refl _))
          have HGO : Aside0 (w.heap.size ≤ W3.heap.size ∧ ga < W3.heap.size) := ⟨hbs, blk_lt O3.out⟩
          have hll2 : Aside0 ((List.replicate n ([] : List Int)).length = n) := ⟨by simp⟩
          have HLE : Aside0 (lv.length ≤ 9223372036854775807) := ⟨by have := HLL.out; rw [HLEN.out]; omega⟩
          clear hmk hn hbs K3 O3 B3 F3
          generalize W3.alloc (.cells (madeCells #[.slice none 0 0] n) 32) = W4 at O6 B6 S6 ⊢
          generalize W3.heap.size = go at S6 HGO ⊢
          have hle := HLE.out
          have hel := HLEN.out
          go_wp2_with fail
          go_loopg [82] k (fun kq v82 w' => ∃ (j : Int) (out : List (List Int)), v82 = .int .i64 j ∧ Aside0 (0 ≤ j) ∧ Aside0 (out.length = n) ∧ Aside0 (lv3 kq lv j out = some out0) ∧ Aside0 (kq ≤ k) ∧ Aside0 (Below w.heap.size w w') ∧ Aside0 (w'.heap[ga]? = some (arr lv)) ∧ Aside0 (Kd.S KS 32 w' w.heap.size (fun k => go ≤ k) (.slice (some ⟨go, 0, none⟩) n n) out))
          case atStart => exact ⟨0, _, rfl, ⟨by omega⟩, hll2, H3, ⟨Nat.le_refl _⟩, B6, O6, S6⟩
          case round => as_aux_lemma =>
            clear H3 B6 O6 S6 hll2
            obtain ⟨j, out, rfl, HJ, HLO, HA, HK2, B6, O6, S6⟩ := hrel
            obtain ⟨W5, rfl⟩ : ∃ W5 : World, W5 = wr := ⟨_, rfl⟩
            cases gk with
            | zero => exact absurd HA.out (by simp [lv3])
            | succ k2 =>
              have H := HA.out
              clear HA
              rw [lv3] at H
              by_cases cj : j < lv.length
              · as_aux_lemma =>
                rw [if_pos cj] at H
                by_cases cd : 0 ≤ rd lv j ∧ rd lv j < out.length ∧ (row out (rd lv j)).length < 17592186044415
                case neg => rw [if_neg cd] at H; cases H
                rw [if_pos cd] at H
                have hj0 := HJ.out
                have cx := arr_cell O6.out j hj0 cj
                have cj2 : j < (es.length : Int) := by rw [← hel]; exact cj
                have cbj : decide (j < (es.length : Int)) = true := decide_eq_true cj2
                have qj := eq_true hj0
                generalize rd lv j = d at H cd cx
                obtain ⟨cd0, cd1, cd2⟩ := cd
                rw [HLO.out] at cd1
                have H' := Aside0.mk H
                clear H
                have q9 := eq_true cd0
                have q10 := eq_true cd1
                go_upto_region 23 with fail
                have hgo := Kd.S_lt S6.out go (by simp [Value.ownBlock])
                have hgs := B6.out.size
                obtain ⟨v0, oki, x1, x2, x3, x4, x5⟩ := S_upd S6.out (fun k hk => by omega) d cd0 cd1
                have X3 := Aside0.mk (Kd.R_mono (ok' := fun k => oki k ∨ W5.heap.size ≤ k) x3 (fun k hk => .inl hk))
                have X4 := Aside0.mk x4
                have X5 := Aside0.mk (@x5)
                have X6 := Aside0.mk x3
                clear x3 x4 x5 cx
                go_wp2_with ((with_reducible refine gate_builtin (b := .append) (xs := #[.tmp 92, .tmp 94]) rfl ?_); at_builtin; refine Kd.R_append (Kd.int .i64) (w0 := W5) w.heap.size rfl (.tmp 92) (.tmp 94) 32 3 (.int .i64 0) 8 rfl Try.underlying32 info3 rfl (by decide) (by omega) v0 (row out d) j [.int .i64 j] (fun k => oki k ∨ W5.heap.size ≤ k) (fun _ => False) rfl rfl rfl (fun _ hk => hk.elim) (fun k hk => .inr hk) X3.out (Below.refl _ _) ?hs ?hl ?_)
                (case hs => omega)
                (case hl => omega)
                intro v1 w9 ho hb hg hat
                obtain ⟨A9, q9c, rfl⟩ := Kd.R_slice ho
                have hown : ∀ k, v0.ownBlock = some k → go ≤ k ∧ k ≠ go := fun k hk => X4.out k (X6.out.1 k hk)
                have hga := HGO.out.2
                have hgw := HGO.out.1
                have O9 := Aside0.mk (blk_grown O6.out hg (fun e => by have := (hown ga e.symm).1; omega))
                have B9 := Aside0.mk (B6.out.grown hg (by omega) (fun k hk => by have := (hown k hk).1; omega))
                have hne9 : some go ≠ v0.ownBlock := fun e => (hown _ e.symm).2 rfl
                have k2 : w9.cell? ⟨go, d.toNat, none⟩ = some v0 := (World.cell?_of_block (hg.block go hgo hne9)).trans x1
                have k3 : w9.frozen? ⟨go, d.toNat, none⟩ = false := (World.frozen?_of_block (hg.block go hgo hne9)).trans x2
                have G9 := Aside0.mk hg
                have R9 := Aside0.mk ho
                clear hg ho hb hat hown x1 x2 hne9 B6 O6 S6 X3 X4 X6 hga hgw
                go_upto_region 24 with fail
                obtain ⟨S10, g10⟩ := X5.out w9 _ _ G9.out R9.out
                have S11 := Aside0.mk S10
                have O11 := Aside0.mk (blk_grown O9.out g10 (by have := HGO.out.2; intro e; injection e with e; omega))
                have B11 := Aside0.mk (B9.out.grown g10 (by have := G9.out.size; omega) (fun k hk => by cases hk; exact HGO.out.1))
                have HL11 : Aside0 ((app out d j).length = n) := ⟨by unfold app; simp only [List.length_set]; exact HLO.out⟩
                clear S10 g10 k2 k3 G9 R9 X5 O9 B9 hgs hgo
                have e9 : (row out d ++ [j]).length = (row out d).length + 1 := by simp
                rw [e9] at S11 O11 B11
                clear e9
                generalize w9.setCell ⟨go, d.toNat, none⟩ (.slice A9 ((row out d).length + 1) q9c) = w11 at S11 O11 B11 ⊢
                go_wp2_with fail
                go_roundg k2
                case measure => omega
                case rel => exact ⟨j + 1, _, rfl, ⟨by omega⟩, HL11, H', ⟨by have := HK2.out; omega⟩, B11, O11, S11⟩
              · as_aux_lemma =>
                rw [if_neg cj] at H
                obtain rfl := Option.some.inj H
                have cbj : decide (j < (es.length : Int)) = false := decide_eq_false (by rw [← hel]; exact cj)
                clear H
                go_wp2_with fail
                go_ret2
                exact ⟨_, rfl, Kd.S_mono S6.out (fun _ _ => trivial), B6.out⟩
end Lv
end Go.Proofs.Ytpmjpngmmphkmaa
/- graph.Levels in the form in which printed texts call it. -/
namespace Go.Proofs.Ytpmjpngmmphkmaa
open Go.RowKit Go.Proofs.YtpmjpngmmphkmaaW.PrintWords Go.Proofs.YtpmjpngmmphkmaaW.PrintLast Go.Proofs.YtpmjpngmmphkmaaW.PrintMore Go.Proofs.Ytpmjpngmmphkmaa.P
namespace P
noncomputable def graph_Levels.f (l : List (List Int)) : Option (List (List Int) × Int) := Od.lim fun k => Lv.levelsF k l
theorem graph_Levels.calls (A0_0 : Option Addr) (c0_0 : Nat) (l0_0 : List (List Int)) (r1 : List (List Int)) (r2 : Int) (w : World) (hr0_0 : Kd.C (Kd.slice 3 (Kd.int .i64)) w A0_0 l0_0.length l0_0) (hc0_0 : l0_0.length ≤ c0_0) (h : graph_Levels.f l0_0 = some (r1, r2)) :
    Calls Try.prog 14 #[.agg #[.slice A0_0 l0_0.length c0_0]] w fun e w' => ∃ v0_ : Value, e = .returned (.tuple #[v0_, .int .i64 r2]) ∧ Kd.S (Kd.slice 3 (Kd.int .i64)) 32 w' w.heap.size (fun _ => True) v0_ r1 ∧ Below w.heap.size w w' := by
  obtain ⟨k0, h0⟩ := Od.lim_some h
  exact Lv.levels_calls k0 A0_0 c0_0 l0_0 r1 r2 w hr0_0 hc0_0 (h0 k0 (Nat.le_refl _))
end P
end Go.Proofs.Ytpmjpngmmphkmaa
/- The examples' function returns true. -/
namespace Go.Proofs.Ytpmjpngmmphkmaa.P
open Go.RowKit Go.Proofs.YtpmjpngmmphkmaaW.PrintWords Go.Proofs.YtpmjpngmmphkmaaW.PrintLast Go.Proofs.YtpmjpngmmphkmaaW.PrintMore
attribute [local go_sem] max2_int min2_int max_two min_two max_three min_three max_four min_four
set_option linter.unusedVariables false
set_option linter.unusedSimpArgs false
theorem ord_b : graph_ordered.f [[1, 2], [2], []] = some [[2], [1], [0]] := Od.lim_of (k0 := 40) (fun k hk => by
  obtain ⟨m, rfl⟩ : ∃ m, k = m + 40 := ⟨k - 40, by omega⟩
  kernel_rfl)
theorem ord_a : graph_ordered.f [[1], [0], [0]] = some [[0, 1], [2]] := Od.lim_of (k0 := 40) (fun k hk => by
  obtain ⟨m, rfl⟩ : ∃ m, k = m + 40 := ⟨k - 40, by omega⟩
  kernel_rfl)
theorem lev_b : graph_Levels.f [[1, 2], [2], []] = some ([[2], [1], [0]], 0) := Od.lim_of (k0 := 40) (fun k hk => by
  obtain ⟨m, rfl⟩ : ∃ m, k = m + 40 := ⟨k - 40, by omega⟩
  unfold Lv.levelsF
  rw [ord_b]
  kernel_rfl)
theorem lev_a : graph_Levels.f [[1], [0], [0]] = some ([], 18) := Od.lim_of (k0 := 40) (fun k hk => by
  obtain ⟨m, rfl⟩ : ∃ m, k = m + 40 := ⟨k - 40, by omega⟩
  unfold Lv.levelsF
  rw [ord_a]
  kernel_rfl)
theorem comp_a : graph_Components.f 40 [[1], [0], [0]] = some [[0, 1], [2]] := by
  unfold graph_Components.f
  rw [ord_a]
  kernel_rfl
theorem same_a : lazycref09_Same.f 40 [[0, 1], [2]] [[0, 1], [2]] = some true := by kernel_rfl
theorem same_b : lazycref09_Same.f 40 [[2], [1], [0]] [[2], [1], [0]] = some true := by kernel_rfl
theorem cyc_a : graph_Cyclic.f 40 [[1], [0], [0]] 1 = some true := by kernel_rfl
set_option maxHeartbeats 8000000 in
set_option maxRecDepth 100000 in
theorem example_walk (k : Nat) (w : World) (y141 y144 y147 y154 y157 y175 y178 y186 y189 y192 : List Int) (y150 y160 y181 y195 t164 t168 t172 : List (List Int)) (t167 t171 : Int)
    (hy141 : y141 = [1]) (hy144 : y144 = [0]) (hy147 : y147 = [0]) (hy150 : y150 = [y141, y144, y147]) (hy154 : y154 = [1, 2]) (hy157 : y157 = [2]) (hy160 : y160 = [y154, y157, []])
    (hy175 : y175 = [0, 1]) (hy178 : y178 = [2]) (hy181 : y181 = [y175, y178]) (hy186 : y186 = [2]) (hy189 : y189 = [1]) (hy192 : y192 = [0]) (hy195 : y195 = [y186, y189, y192])
    (A10 : graph_Levels.f y160 = some (t164, t167)) (A20 : graph_Levels.f y150 = some (t168, t171)) (A30 : graph_Components.f k y150 = some t172) (A40 : lazycref09_Same.f k t172 y181 = some true)
    (A60 : graph_Cyclic.f k y150 1 = some true) (c8b0 : (t167 == 0) = true) (A90 : lazycref09_Same.f k t164 y195 = some true) :
    Calls Try.prog 10 #[] w fun e w' => e = .returned (.bool (t171 == 18)) ∧ Below w.heap.size w w' := by
  have hu24 := Try.underlying24
  have HB := aM (Below.refl w.heap.size w)
  have Ny141 := aM hy141
  clear hy141
  have Ny144 := aM hy144
  clear hy144
  have Ny147 := aM hy147
  clear hy147
  have Ny150 := aM hy150
  clear hy150
  have Ny154 := aM hy154
  clear hy154
  have Ny157 := aM hy157
  clear hy157
  have Ny160 := aM hy160
  clear hy160
  have Ny175 := aM hy175
  clear hy175
  have Ny178 := aM hy178
  clear hy178
  have Ny181 := aM hy181
  clear hy181
  have Ny186 := aM hy186
  clear hy186
  have Ny189 := aM hy189
  clear hy189
  have Ny192 := aM hy192
  clear hy192
  have Ny195 := aM hy195
  clear hy195
  have A1 := aM A10
  clear A10
  have A2 := aM A20
  clear A20
  have A3 := aM A30
  clear A30
  have A4 := aM A40
  clear A40
  have A6 := aM A60
  clear A60
  have A9 := aM A90
  clear A90
  go_enter Try.func10, Try.ntmps10
  go_wp2_with (first | ((with_reducible refine gate_dst (N := 7) rfl ?_); (try (refine gate_guard (by rfl) ?_; dsimp only)); refine Kd.R_lit (Kd.int .i64) _ 3 ?hg (N := 7) ?hd (xs := ([1] : List Int)) (inner := [.int .i64 1]) (ok := fun _ => True) (okp := fun _ => True) ?hr ?hp (fun _ hk => hk) trivial (Below.refl _ _) (Nat.le_refl _) (by simp) ?_; (case hd => rfl); (case hg => rfl); (case hr => first | (go_simp; done) | (go_simp; rfl)); (case hp => exact (Reps.one (show Kd.M (Kd.int .i64) _ _ _ 1 [.int .i64 1] from rfl) (Reps.none _ _))); intro v142 w11 ho12 hb hg_ hnew_; clear hg_ hnew_; (first | rw [← Ny141.out] at ho12 | (simp only [Int.reduceToNat] at ho12; rw [← Ny141.out] at ho12)); have n0_ := aM (Kd.R_lower ho12 (below_size (by repeat (first | (with_reducible first | exact HB.out | apply bA | apply bN | apply bD) | exact HB.out)))); have n1_ := aM (below_step (by repeat (first | (with_reducible first | exact HB.out | apply bA | apply bN | apply bD) | exact HB.out)) hb); clear HB; have HO143 := n0_; have HB := n1_; clear n0_ n1_; clear hb ho12) | ((with_reducible refine gate_dst (N := 8) rfl ?_); (try (refine gate_guard (by rfl) ?_; dsimp only)); refine Kd.R_lit (Kd.int .i64) _ 3 ?hg (N := 8) ?hd (xs := ([0] : List Int)) (inner := [.int .i64 0]) (ok := fun _ => True) (okp := fun _ => True) ?hr ?hp (fun _ hk => hk) trivial (Below.refl _ _) (Nat.le_refl _) (by simp) ?_; (case hd => rfl); (case hg => rfl); (case hr => first | (go_simp; done) | (go_simp; rfl)); (case hp => exact (Reps.one (show Kd.M (Kd.int .i64) _ _ _ 0 [.int .i64 0] from rfl) (Reps.none _ _))); intro v145 w13 ho14 hb hg_ hnew_; clear hg_ hnew_; (first | rw [← Ny144.out] at ho14 | (simp only [Int.reduceToNat] at ho14; rw [← Ny144.out] at ho14)); have n0_ := aM (Kd.R_elder' (by (with_reducible repeat (first | apply Kd.R_alloc | apply Kd.R_drewN | apply Kd.R_drew)); exact HO143.out) (Kd.R_base ho14) hb); have n1_ := aM (Kd.R_lower (Kd.R_new' ho14 (Kd.R_lt (by (with_reducible repeat (first | apply Kd.R_alloc | apply Kd.R_drewN | apply Kd.R_drew)); exact HO143.out))) (below_size (by repeat (first | (with_reducible first | exact HB.out | apply bA | apply bN | apply bD) | exact HB.out)))); have n2_ := aM (below_step (by repeat (first | (with_reducible first | exact HB.out | apply bA | apply bN | apply bD) | exact HB.out)) hb); clear HO143; clear HB; have HO143 := n0_; have HO146 := n1_; have HB := n2_; clear n0_ n1_ n2_; clear hb ho14) | ((with_reducible refine gate_dst (N := 9) rfl ?_); (try (refine gate_guard (by rfl) ?_; dsimp only)); refine Kd.R_lit (Kd.int .i64) _ 3 ?hg (N := 9) ?hd (xs := ([0] : List Int)) (inner := [.int .i64 0]) (ok := fun _ => True) (okp := fun _ => True) ?hr ?hp (fun _ hk => hk) trivial (Below.refl _ _) (Nat.le_refl _) (by simp) ?_; (case hd => rfl); (case hg => rfl); (case hr => first | (go_simp; done) | (go_simp; rfl)); (case hp => exact (Reps.one (show Kd.M (Kd.int .i64) _ _ _ 0 [.int .i64 0] from rfl) (Reps.none _ _))); intro v148 w15 ho16 hb hg_ hnew_; clear hg_ hnew_; (first | rw [← Ny147.out] at ho16 | (simp only [Int.reduceToNat] at ho16; rw [← Ny147.out] at ho16)); have n0_ := aM (Kd.R_elder' (by (with_reducible repeat (first | apply Kd.R_alloc | apply Kd.R_drewN | apply Kd.R_drew)); exact HO143.out) (Kd.R_base ho16) hb); have n1_ := aM (Kd.R_elder' (by (with_reducible repeat (first | apply Kd.R_alloc | apply Kd.R_drewN | apply Kd.R_drew)); exact HO146.out) (Kd.R_base ho16) hb); have n2_ := aM (Kd.R_lower (Kd.R_new' (Kd.R_new' ho16 (Kd.R_lt (by (with_reducible repeat (first | apply Kd.R_alloc | apply Kd.R_drewN | apply Kd.R_drew)); exact HO143.out))) (Kd.R_lt (by (with_reducible repeat (first | apply Kd.R_alloc | apply Kd.R_drewN | apply Kd.R_drew)); exact HO146.out))) (below_size (by repeat (first | (with_reducible first | exact HB.out | apply bA | apply bN | apply bD) | exact HB.out)))); have n3_ := aM (below_step (by repeat (first | (with_reducible first | exact HB.out | apply bA | apply bN | apply bD) | exact HB.out)) hb); clear HO143; clear HO146; clear HB; have HO143 := n0_; have HO146 := n1_; have HO149 := n2_; have HB := n3_; clear n0_ n1_ n2_ n3_; clear hb ho16; obtain ⟨Ao17, co17, eo17⟩ := Kd.R_slice HO143.out; subst eo17; obtain ⟨Ao18, co18, eo18⟩ := Kd.R_slice HO146.out; subst eo18; obtain ⟨Ao19, co19, eo19⟩ := Kd.R_slice HO149.out; subst eo19) | ((with_reducible refine gate_dst (N := 10) rfl ?_); (try (refine gate_guard (by rfl) ?_; dsimp only)); refine Kd.N_lit (Kd.slice 3 (Kd.int .i64)) _ 32 ?hg (N' := 10) ?hd (xs := ([y141, y144, y147] : List (List Int))) (inner := [.slice Ao17 y141.length co17, .slice Ao18 y144.length co18, .slice Ao19 y147.length co19]) (ok := (fun _ => True)) (okp := (fun _ => True)) ?hr ?hp (fun _ hk => hk) ((show ∀ k_, w15.heap.size ≤ k_ → (fun _ => True) k_ from fun k_ hk => trivial) _ (Nat.le_refl _)) (Below.refl _ _) (Nat.le_refl _) (by simp) ?_; (case hd => rfl); (case hg => rfl); (case hr => first | (go_simp; done) | (go_simp; rfl)); (case hp => exact (Reps.one (show Kd.FK (Kd.slice 3 (Kd.int .i64)) _ _ y141 [.slice Ao17 y141.length co17] from (Kd.FK_slice_mk (Kd.R_reads' (Kd.R_mono (ok' := (fun _ => True)) (HO143.out) (fun k_ hk => trivial))).2.1 (Kd.R_F (Kd.R_mono (ok' := (fun _ => True)) (HO143.out) (fun k_ hk => trivial))))) (Reps.one (show Kd.FK (Kd.slice 3 (Kd.int .i64)) _ _ y144 [.slice Ao18 y144.length co18] from (Kd.FK_slice_mk (Kd.R_reads' (Kd.R_mono (ok' := (fun _ => True)) (HO146.out) (fun k_ hk => trivial))).2.1 (Kd.R_F (Kd.R_mono (ok' := (fun _ => True)) (HO146.out) (fun k_ hk => trivial))))) (Reps.one (show Kd.FK (Kd.slice 3 (Kd.int .i64)) _ _ y147 [.slice Ao19 y147.length co19] from (Kd.FK_slice_mk (Kd.R_reads' (Kd.R_mono (ok' := (fun _ => True)) (HO149.out) (fun k_ hk => trivial))).2.1 (Kd.R_F (Kd.R_mono (ok' := (fun _ => True)) (HO149.out) (fun k_ hk => trivial))))) (Reps.none _ _))))); intro v151 w20 ho21 hb hg_ hnew_; clear hg_ hnew_; (first | rw [← Ny150.out] at ho21 | (simp only [Int.reduceToNat] at ho21; rw [← Ny150.out] at ho21)); have n0_ := aM (Kd.N_lower ho21 (below_size (by repeat (first | (with_reducible first | exact HB.out | apply bA | apply bN | apply bD) | exact HB.out)))); have n1_ := aM (below_step (by repeat (first | (with_reducible first | exact HB.out | apply bA | apply bN | apply bD) | exact HB.out)) hb); clear HB; clear HO143; clear HO146; clear HO149; have HO152 := n0_; have HB := n1_; clear n0_ n1_; clear hb ho21; obtain ⟨Ao22, co22, eo22⟩ := Kd.N_slice HO152.out; subst eo22) | ((with_reducible refine gate_dst (N := 1) rfl ?_); (try (refine gate_guard (by rfl) ?_; dsimp only)); refine box_event ?hg (N := 1) ?hd (cs := #[.slice none 0 0]) (t := 24) ?hr ?_; (case hd => rfl); (case hg => rfl); (case hr => first | (go_simp; done) | (go_simp; rfl)); intro gb153 hg w23 hbox hb; have n0_ := aM (Kd.N_below (Kd.N_elderB (by (with_reducible repeat (first | apply Kd.N_alloc | apply Kd.N_drewN | apply Kd.N_drew)); exact HO152.out) gb153 (Nat.le_of_eq hg.symm)) hb); have n1_ := aM (below_step (by repeat (first | (with_reducible first | exact HB.out | apply bA | apply bN | apply bD) | exact HB.out)) hb); have n2_ := aM (hbox); have n3_ := aM ((by rw [hg]; exact (below_size (by repeat (first | (with_reducible first | exact HB.out | apply bA | apply bN | apply bD) | exact HB.out))) : w.heap.size ≤ gb153)); have n4_ := aM ((by rw [hg]; exact (below_size (by repeat (first | (with_reducible first | exact HB.out | apply bA | apply bN | apply bD) | exact HB.out))) : w.heap.size ≤ gb153)); clear HO152; clear HB; have HO152 := n0_; have HB := n1_; have BK153 := n2_; have GW153 := n3_; have GE153 := n4_; clear n0_ n1_ n2_ n3_ n4_; clear hb hbox hg; have hcz24_0 : w23.cell? ⟨gb153, 0, none⟩ = some (.slice none 0 0) := (blk_cell BK153.out 0).trans rfl; have hfz24_0 := blk_frozen BK153.out 0) | ((with_reducible refine gate_dst (N := 12) rfl ?_); (try (refine gate_guard (by rfl) ?_; dsimp only)); refine Kd.R_lit (Kd.int .i64) _ 3 ?hg (N := 12) ?hd (xs := ([1, 2] : List Int)) (inner := [.int .i64 1, .int .i64 2]) (ok := fun _ => True) (okp := fun _ => True) ?hr ?hp (fun _ hk => hk) trivial (Below.refl _ _) (Nat.le_refl _) (by simp) ?_; (case hd => rfl); (case hg => rfl); (case hr => first | (go_simp; done) | (go_simp; rfl)); (case hp => exact (Reps.one (show Kd.M (Kd.int .i64) _ _ _ 1 [.int .i64 1] from rfl) (Reps.one (show Kd.M (Kd.int .i64) _ _ _ 2 [.int .i64 2] from rfl) (Reps.none _ _)))); intro v155 w25 ho26 hb hg_ hnew_; clear hg_ hnew_; (first | rw [← Ny154.out] at ho26 | (simp only [Int.reduceToNat] at ho26; rw [← Ny154.out] at ho26)); have n0_ := aM (Kd.N_elder' (by (with_reducible repeat (first | apply Kd.N_alloc | apply Kd.N_drewN | apply Kd.N_drew)); exact (Kd.N_mono (Kd.N_far (p := ⟨gb153, 0, none⟩) (Kd.N_mono HO152.out (fun k_ hk => (⟨hk, hk.2⟩ : _ ∧ k_ ≠ gb153))) (fun _ hk => hk.2) (.slice Ao22 y150.length co22)) (fun _ h_ => h_.1))) (Kd.R_base ho26) hb); have n1_ := aM (Kd.R_lower ho26 (below_size (by repeat (first | (with_reducible first | exact HB.out | apply bA | apply bN | apply bD | refine below_set ?_ GE153.out) | exact HB.out)))); have n2_ := aM (blk_below (g := gb153) (o := .cells #[.slice Ao22 y150.length co22] 24 (0, 0)) (by (with_reducible repeat (first | refine kN ?_ _ | refine kD ?_ | refine kA ?_ _)); refine blk_put (cs := #[.slice none 0 0]) ?_ 0 _ rfl; (with_reducible repeat (first | refine kN ?_ _ | refine kD ?_ | refine kA ?_ _)); exact BK153.out) hb); have n3_ := aM (below_step (by repeat (first | (with_reducible first | exact HB.out | apply bA | apply bN | apply bD | refine below_set ?_ GE153.out) | exact HB.out)) hb); clear HO152; clear BK153; clear HB; have HO152 := n0_; have HO156 := n1_; have BK153 := n2_; have HB := n3_; clear n0_ n1_ n2_ n3_; clear hb ho26) | ((with_reducible refine gate_dst (N := 13) rfl ?_); (try (refine gate_guard (by rfl) ?_; dsimp only)); refine Kd.R_lit (Kd.int .i64) _ 3 ?hg (N := 13) ?hd (xs := ([2] : List Int)) (inner := [.int .i64 2]) (ok := fun _ => True) (okp := fun _ => True) ?hr ?hp (fun _ hk => hk) trivial (Below.refl _ _) (Nat.le_refl _) (by simp) ?_; (case hd => rfl); (case hg => rfl); (case hr => first | (go_simp; done) | (go_simp; rfl)); (case hp => exact (Reps.one (show Kd.M (Kd.int .i64) _ _ _ 2 [.int .i64 2] from rfl) (Reps.none _ _))); intro v158 w27 ho28 hb hg_ hnew_; clear hg_ hnew_; (first | rw [← Ny157.out] at ho28 | (simp only [Int.reduceToNat] at ho28; rw [← Ny157.out] at ho28)); have n0_ := aM (Kd.N_elder' (by (with_reducible repeat (first | apply Kd.N_alloc | apply Kd.N_drewN | apply Kd.N_drew)); exact HO152.out) (Kd.R_base ho28) hb); have n1_ := aM (Kd.R_elder' (by (with_reducible repeat (first | apply Kd.R_alloc | apply Kd.R_drewN | apply Kd.R_drew)); exact HO156.out) (Kd.R_base ho28) hb); have n2_ := aM (Kd.R_lower (Kd.R_new' ho28 (Kd.R_lt (by (with_reducible repeat (first | apply Kd.R_alloc | apply Kd.R_drewN | apply Kd.R_drew)); exact HO156.out))) (below_size (by repeat (first | (with_reducible first | exact HB.out | apply bA | apply bN | apply bD | refine below_set ?_ GE153.out) | exact HB.out)))); have n3_ := aM (blk_below (g := gb153) (o := .cells #[.slice Ao22 y150.length co22] 24 (0, 0)) (by (with_reducible repeat (first | refine kN ?_ _ | refine kD ?_ | refine kA ?_ _)); exact BK153.out) hb); have n4_ := aM (below_step (by repeat (first | (with_reducible first | exact HB.out | apply bA | apply bN | apply bD | refine below_set ?_ GE153.out) | exact HB.out)) hb); clear HO152; clear HO156; clear BK153; clear HB; have HO152 := n0_; have HO156 := n1_; have HO159 := n2_; have BK153 := n3_; have HB := n4_; clear n0_ n1_ n2_ n3_ n4_; clear hb ho28; obtain ⟨Ao29, co29, eo29⟩ := Kd.R_slice HO156.out; subst eo29; obtain ⟨Ao30, co30, eo30⟩ := Kd.R_slice HO159.out; subst eo30) | ((with_reducible refine gate_dst (N := 14) rfl ?_); (try (refine gate_guard (by rfl) ?_; dsimp only)); refine Kd.N_lit (Kd.slice 3 (Kd.int .i64)) _ 32 ?hg (N' := 14) ?hd (xs := ([y154, y157, []] : List (List Int))) (inner := [.slice Ao29 y154.length co29, .slice Ao30 y157.length co30, .slice none 0 0]) (ok := (fun k_ => some k_ ≠ (.slice Ao22 y150.length co22 : Value).ownBlock ∧ k_ ≠ gb153)) (okp := (fun k_ => some k_ ≠ (.slice Ao22 y150.length co22 : Value).ownBlock ∧ k_ ≠ gb153)) ?hr ?hp (fun _ hk => hk) ((show ∀ k_, w27.heap.size ≤ k_ → (fun k_ => some k_ ≠ (.slice Ao22 y150.length co22 : Value).ownBlock ∧ k_ ≠ gb153) k_ from fun k_ hk => ⟨Kd.fresh' (Kd.N_lt (by (with_reducible repeat (first | apply Kd.N_alloc | apply Kd.N_drewN | apply Kd.N_drew)); exact HO152.out)) k_ hk, Kd.freshB (g := gb153) (o := .cells #[.slice Ao22 y150.length co22] 24 (0, 0)) (by (with_reducible repeat (first | refine kN ?_ _ | refine kD ?_ | refine kA ?_ _)); exact BK153.out) k_ hk⟩) _ (Nat.le_refl _)) (Below.refl _ _) (Nat.le_refl _) (by simp) ?_; (case hd => rfl); (case hg => rfl); (case hr => first | (go_simp; done) | (go_simp; rfl)); (case hp => exact (Reps.one (show Kd.FK (Kd.slice 3 (Kd.int .i64)) _ _ y154 [.slice Ao29 y154.length co29] from (Kd.FK_slice_mk (Kd.R_reads' (Kd.R_mono (ok' := (fun k_ => some k_ ≠ (.slice Ao22 y150.length co22 : Value).ownBlock ∧ k_ ≠ gb153)) (Kd.R_types (Kd.R_apart' (HO156.out) (Kd.N_typed HO152.out) (by decide)) BK153.out (by decide)) (fun k_ hk => ⟨hk.1.2, hk.2⟩))).2.1 (Kd.R_F (Kd.R_mono (ok' := (fun k_ => some k_ ≠ (.slice Ao22 y150.length co22 : Value).ownBlock ∧ k_ ≠ gb153)) (Kd.R_types (Kd.R_apart' (HO156.out) (Kd.N_typed HO152.out) (by decide)) BK153.out (by decide)) (fun k_ hk => ⟨hk.1.2, hk.2⟩))))) (Reps.one (show Kd.FK (Kd.slice 3 (Kd.int .i64)) _ _ y157 [.slice Ao30 y157.length co30] from (Kd.FK_slice_mk (Kd.R_reads' (Kd.R_mono (ok' := (fun k_ => some k_ ≠ (.slice Ao22 y150.length co22 : Value).ownBlock ∧ k_ ≠ gb153)) (Kd.R_types (Kd.R_apart' (HO159.out) (Kd.N_typed HO152.out) (by decide)) BK153.out (by decide)) (fun k_ hk => ⟨hk.1.2, hk.2⟩))).2.1 (Kd.R_F (Kd.R_mono (ok' := (fun k_ => some k_ ≠ (.slice Ao22 y150.length co22 : Value).ownBlock ∧ k_ ≠ gb153)) (Kd.R_types (Kd.R_apart' (HO159.out) (Kd.N_typed HO152.out) (by decide)) BK153.out (by decide)) (fun k_ hk => ⟨hk.1.2, hk.2⟩))))) (Reps.one (show Kd.FK (Kd.slice 3 (Kd.int .i64)) _ _ [] [.slice none 0 0] from (Kd.FK_slice_mk (Nat.le_refl _) (Kd.F_nil _ _ _))) (Reps.none _ _))))); intro v161 w31 ho32 hb hg_ hnew_; clear hg_ hnew_; (first | rw [← Ny160.out] at ho32 | (simp only [Int.reduceToNat] at ho32; rw [← Ny160.out] at ho32)); have n0_ := aM (Kd.N_elder' (by (with_reducible repeat (first | apply Kd.N_alloc | apply Kd.N_drewN | apply Kd.N_drew)); exact HO152.out) (Kd.N_base ho32) hb); have n1_ := aM (Kd.N_lower ho32 (below_size (by repeat (first | (with_reducible first | exact HB.out | apply bA | apply bN | apply bD | refine below_set ?_ GE153.out) | exact HB.out)))); have n2_ := aM (blk_below (g := gb153) (o := .cells #[.slice Ao22 y150.length co22] 24 (0, 0)) (by (with_reducible repeat (first | refine kN ?_ _ | refine kD ?_ | refine kA ?_ _)); exact BK153.out) hb); have n3_ := aM (below_step (by repeat (first | (with_reducible first | exact HB.out | apply bA | apply bN | apply bD | refine below_set ?_ GE153.out) | exact HB.out)) hb); clear HO152; clear BK153; clear HB; clear HO156; clear HO159; have HO152 := n0_; have HO162 := n1_; have BK153 := n2_; have HB := n3_; clear n0_ n1_ n2_ n3_; clear hb ho32; obtain ⟨Ao33, co33, eo33⟩ := Kd.N_slice HO162.out; subst eo33) | ((with_reducible refine gate_dst (N := 2) rfl ?_); (try (refine gate_guard (by rfl) ?_; dsimp only)); refine box_event ?hg (N := 2) ?hd (cs := #[.slice none 0 0]) (t := 24) ?hr ?_; (case hd => rfl); (case hg => rfl); (case hr => first | (go_simp; done) | (go_simp; rfl)); intro gb163 hg w34 hbox hb; have n0_ := aM (Kd.N_below (Kd.N_elderB (by (with_reducible repeat (first | apply Kd.N_alloc | apply Kd.N_drewN | apply Kd.N_drew)); exact HO152.out) gb163 (Nat.le_of_eq hg.symm)) hb); have n1_ := aM (Kd.N_below (Kd.N_elderB (by (with_reducible repeat (first | apply Kd.N_alloc | apply Kd.N_drewN | apply Kd.N_drew)); exact HO162.out) gb163 (Nat.le_of_eq hg.symm)) hb); have n2_ := aM (blk_below (g := gb153) (o := .cells #[.slice Ao22 y150.length co22] 24 (0, 0)) (by (with_reducible repeat (first | refine kN ?_ _ | refine kD ?_ | refine kA ?_ _)); exact BK153.out) hb); have n3_ := aM (below_step (by repeat (first | (with_reducible first | exact HB.out | apply bA | apply bN | apply bD | refine below_set ?_ GE153.out) | exact HB.out)) hb); have n4_ := aM (hbox); have n5_ := aM ((by rw [hg]; exact (below_size (by repeat (first | (with_reducible first | exact HB.out | apply bA | apply bN | apply bD | refine below_set ?_ GE153.out) | exact HB.out))) : w.heap.size ≤ gb163)); have n6_ := aM ((by rw [hg]; exact (below_size (by repeat (first | (with_reducible first | exact HB.out | apply bA | apply bN | apply bD | refine below_set ?_ GE153.out) | exact HB.out))) : w.heap.size ≤ gb163)); have n7_ := aM ((by rw [hg]; exact Nat.ne_of_lt (blk_lt (g := gb153) (o := .cells #[.slice Ao22 y150.length co22] 24 (0, 0)) (by (with_reducible repeat (first | refine kN ?_ _ | refine kD ?_ | refine kA ?_ _)); exact BK153.out)) : gb153 ≠ gb163)); have n8_ := aM ((by rw [hg]; exact Nat.ne_of_gt (blk_lt (g := gb153) (o := .cells #[.slice Ao22 y150.length co22] 24 (0, 0)) (by (with_reducible repeat (first | refine kN ?_ _ | refine kD ?_ | refine kA ?_ _)); exact BK153.out)) : gb163 ≠ gb153)); clear HO152; clear HO162; clear BK153; clear HB; have HO152 := n0_; have HO162 := n1_; have BK153 := n2_; have HB := n3_; have BK163 := n4_; have GW163 := n5_; have GE163 := n6_; have NB153_163 := n7_; have NB163_153 := n8_; clear n0_ n1_ n2_ n3_ n4_ n5_ n6_ n7_ n8_; clear hb hbox hg; have hnb35 := NB163_153.out; have hnc35 := NB153_163.out; have hcz36_0 : w34.cell? ⟨gb163, 0, none⟩ = some (.slice none 0 0) := (blk_cell BK163.out 0).trans rfl; have hfz36_0 := blk_frozen BK163.out 0) | ((with_reducible refine gate_callee (f := 14) rfl ?_); refine goesL_ (some 18) rfl rfl Try.func14 (by kernel_rfl) rfl #[.agg #[.slice Ao33 y160.length co33]] rfl (by (try simp only [List.map_toArray, List.map_cons, List.map_nil]); first | done | rfl | (simp only [List.length_drop, List.length_take]; rfl)) ?_; (with_reducible refine (graph_Levels.calls _ _ y160 t164 t167 _ ?side1 ?side2 A1.out).mono ?_); (case side1 => refine (Kd.N_reads' (e := 32) (base := w.heap.size) (ok := fun k_ => ((some k_ ≠ (.slice Ao22 y150.length co22 : Value).ownBlock ∧ k_ ≠ gb153) ∧ k_ ≠ gb163)) (n := y160.length) (c := co33) ?_).2.2; exact (by (with_reducible repeat (first | apply Kd.N_alloc | apply Kd.N_drewN | apply Kd.N_drew)); exact (Kd.N_mono (Kd.N_far (p := ⟨gb163, 0, none⟩) (Kd.N_mono HO162.out (fun k_ hk => (⟨hk, hk.2⟩ : _ ∧ k_ ≠ gb163))) (fun _ hk => hk.2) (.slice Ao33 y160.length co33)) (fun _ h_ => h_.1)))); (case side2 => exact (Kd.N_reads' HO162.out).2.1); rintro e w37 ⟨v165, rfl, ho0, hb⟩; refine ⟨_, rfl, ?_⟩; have n0_ := aM (Kd.N_elder' (by (with_reducible repeat (first | apply Kd.N_alloc | apply Kd.N_drewN | apply Kd.N_drew)); exact (Kd.N_mono (Kd.N_far (p := ⟨gb163, 0, none⟩) (Kd.N_mono HO152.out (fun k_ hk => (⟨hk, hk.2⟩ : _ ∧ k_ ≠ gb163))) (fun _ hk => hk.2) (.slice Ao33 y160.length co33)) (fun _ h_ => h_.1))) (by first | exact Kd.N_base ho0 | exact Kd.S_base ho0) hb); have n1_ := aM (Kd.N_elder' (by (with_reducible repeat (first | apply Kd.N_alloc | apply Kd.N_drewN | apply Kd.N_drew)); exact (Kd.N_mono (Kd.N_far (p := ⟨gb163, 0, none⟩) (Kd.N_mono HO162.out (fun k_ hk => (⟨hk, hk.2⟩ : _ ∧ k_ ≠ gb163))) (fun _ hk => hk.2) (.slice Ao33 y160.length co33)) (fun _ h_ => h_.1))) (by first | exact Kd.N_base ho0 | exact Kd.S_base ho0) hb); have n2_ := aM (Kd.N_lower (Kd.N_mono (ok' := fun k_ => some k_ ≠ (.slice Ao22 y150.length co22 : Value).ownBlock ∧ some k_ ≠ (.slice Ao33 y160.length co33 : Value).ownBlock ∧ k_ ≠ gb153 ∧ k_ ≠ gb163) (Kd.S_N (Kd.S_bound ho0)) (fun k_ hk_ => ⟨(Kd.fresh' (Kd.N_lt (by (with_reducible repeat (first | apply Kd.N_alloc | apply Kd.N_drewN | apply Kd.N_drew)); exact (Kd.N_mono (Kd.N_far (p := ⟨gb163, 0, none⟩) (Kd.N_mono HO152.out (fun k_ hk => (⟨hk, hk.2⟩ : _ ∧ k_ ≠ gb163))) (fun _ hk => hk.2) (.slice Ao33 y160.length co33)) (fun _ h_ => h_.1)))) k_ hk_.2.1), (Kd.fresh' (Kd.N_lt (by (with_reducible repeat (first | apply Kd.N_alloc | apply Kd.N_drewN | apply Kd.N_drew)); exact (Kd.N_mono (Kd.N_far (p := ⟨gb163, 0, none⟩) (Kd.N_mono HO162.out (fun k_ hk => (⟨hk, hk.2⟩ : _ ∧ k_ ≠ gb163))) (fun _ hk => hk.2) (.slice Ao33 y160.length co33)) (fun _ h_ => h_.1)))) k_ hk_.2.1), (Kd.freshB (g := gb153) (o := .cells #[.slice Ao22 y150.length co22] 24 (0, 0)) (by (with_reducible repeat (first | refine kN ?_ _ | refine kD ?_ | refine kA ?_ _)); refine blk_far ?_ NB153_163.out _; (with_reducible repeat (first | refine kN ?_ _ | refine kD ?_ | refine kA ?_ _)); exact BK153.out) k_ hk_.2.1), (Kd.freshB (g := gb163) (o := .cells #[.slice Ao33 y160.length co33] 24 (0, 0)) (by (with_reducible repeat (first | refine kN ?_ _ | refine kD ?_ | refine kA ?_ _)); refine blk_put (cs := #[.slice none 0 0]) ?_ 0 _ rfl; (with_reducible repeat (first | refine kN ?_ _ | refine kD ?_ | refine kA ?_ _)); exact BK163.out) k_ hk_.2.1)⟩)) (below_size (by repeat (first | (with_reducible first | exact HB.out | apply bA | apply bN | apply bD | refine below_set ?_ GE153.out | refine below_set ?_ GE163.out) | exact HB.out)))); have n3_ := aM (blk_below (g := gb153) (o := .cells #[.slice Ao22 y150.length co22] 24 (0, 0)) (by (with_reducible repeat (first | refine kN ?_ _ | refine kD ?_ | refine kA ?_ _)); refine blk_far ?_ NB153_163.out _; (with_reducible repeat (first | refine kN ?_ _ | refine kD ?_ | refine kA ?_ _)); exact BK153.out) hb); have n4_ := aM (blk_below (g := gb163) (o := .cells #[.slice Ao33 y160.length co33] 24 (0, 0)) (by (with_reducible repeat (first | refine kN ?_ _ | refine kD ?_ | refine kA ?_ _)); refine blk_put (cs := #[.slice none 0 0]) ?_ 0 _ rfl; (with_reducible repeat (first | refine kN ?_ _ | refine kD ?_ | refine kA ?_ _)); exact BK163.out) hb); have n5_ := aM (below_step (by repeat (first | (with_reducible first | exact HB.out | apply bA | apply bN | apply bD | refine below_set ?_ GE153.out | refine below_set ?_ GE163.out) | exact HB.out)) hb); clear HO152; clear HO162; clear BK153; clear BK163; clear HB; have HO152 := n0_; have HO162 := n1_; have HO166 := n2_; have BK153 := n3_; have BK163 := n4_; have HB := n5_; clear n0_ n1_ n2_ n3_ n4_ n5_; (try clear hb); (try clear hb2); (try clear hk); (try clear hi); (try clear ho0); have hcz38_0 : w37.cell? ⟨gb153, 0, none⟩ = some (.slice Ao22 y150.length co22) := (blk_cell BK153.out 0).trans rfl; have hfz38_0 := blk_frozen BK153.out 0) | ((with_reducible refine gate_callee (f := 14) rfl ?_); refine goesL_ (some 23) rfl rfl Try.func14 (by kernel_rfl) rfl #[.agg #[.slice Ao22 y150.length co22]] rfl (by (try simp only [List.map_toArray, List.map_cons, List.map_nil]); first | done | rfl | (simp only [List.length_drop, List.length_take]; rfl)) ?_; (with_reducible refine (graph_Levels.calls _ _ y150 t168 t171 _ ?side1 ?side2 A2.out).mono ?_); (case side1 => repeat (first | exact (Kd.N_reads' HO152.out).2.2 | (with_reducible refine Kd.C_alloc ?_ _) | (with_reducible refine Kd.C_drewN ?_ _) | (with_reducible refine Kd.C_drew ?_))); (case side2 => exact (Kd.N_reads' HO152.out).2.1); rintro e w39 ⟨v169, rfl, ho0, hb⟩; refine ⟨_, rfl, ?_⟩; have n0_ := aM (Kd.N_elder' (by (with_reducible repeat (first | apply Kd.N_alloc | apply Kd.N_drewN | apply Kd.N_drew)); exact HO152.out) (by first | exact Kd.N_base ho0 | exact Kd.S_base ho0) hb); have n1_ := aM (Kd.N_elder' (by (with_reducible repeat (first | apply Kd.N_alloc | apply Kd.N_drewN | apply Kd.N_drew)); exact HO162.out) (by first | exact Kd.N_base ho0 | exact Kd.S_base ho0) hb); have n2_ := aM (Kd.N_elder' (by (with_reducible repeat (first | apply Kd.N_alloc | apply Kd.N_drewN | apply Kd.N_drew)); exact HO166.out) (by first | exact Kd.N_base ho0 | exact Kd.S_base ho0) hb); have n3_ := aM (Kd.N_lower (Kd.N_mono (ok' := fun k_ => some k_ ≠ (.slice Ao22 y150.length co22 : Value).ownBlock ∧ some k_ ≠ (.slice Ao33 y160.length co33 : Value).ownBlock ∧ some k_ ≠ (v165 : Value).ownBlock ∧ k_ ≠ gb153 ∧ k_ ≠ gb163) (Kd.S_N (Kd.S_bound ho0)) (fun k_ hk_ => ⟨(Kd.fresh' (Kd.N_lt (by (with_reducible repeat (first | apply Kd.N_alloc | apply Kd.N_drewN | apply Kd.N_drew)); exact HO152.out)) k_ hk_.2.1), (Kd.fresh' (Kd.N_lt (by (with_reducible repeat (first | apply Kd.N_alloc | apply Kd.N_drewN | apply Kd.N_drew)); exact HO162.out)) k_ hk_.2.1), (Kd.fresh' (Kd.N_lt (by (with_reducible repeat (first | apply Kd.N_alloc | apply Kd.N_drewN | apply Kd.N_drew)); exact HO166.out)) k_ hk_.2.1), (Kd.freshB (g := gb153) (o := .cells #[.slice Ao22 y150.length co22] 24 (0, 0)) (by (with_reducible repeat (first | refine kN ?_ _ | refine kD ?_ | refine kA ?_ _)); exact BK153.out) k_ hk_.2.1), (Kd.freshB (g := gb163) (o := .cells #[.slice Ao33 y160.length co33] 24 (0, 0)) (by (with_reducible repeat (first | refine kN ?_ _ | refine kD ?_ | refine kA ?_ _)); exact BK163.out) k_ hk_.2.1)⟩)) (below_size (by repeat (first | (with_reducible first | exact HB.out | apply bA | apply bN | apply bD | refine below_set ?_ GE153.out | refine below_set ?_ GE163.out) | exact HB.out)))); have n4_ := aM (blk_below (g := gb153) (o := .cells #[.slice Ao22 y150.length co22] 24 (0, 0)) (by (with_reducible repeat (first | refine kN ?_ _ | refine kD ?_ | refine kA ?_ _)); exact BK153.out) hb); have n5_ := aM (blk_below (g := gb163) (o := .cells #[.slice Ao33 y160.length co33] 24 (0, 0)) (by (with_reducible repeat (first | refine kN ?_ _ | refine kD ?_ | refine kA ?_ _)); exact BK163.out) hb); have n6_ := aM (below_step (by repeat (first | (with_reducible first | exact HB.out | apply bA | apply bN | apply bD | refine below_set ?_ GE153.out | refine below_set ?_ GE163.out) | exact HB.out)) hb); clear HO152; clear HO162; clear HO166; clear BK153; clear BK163; clear HB; have HO152 := n0_; have HO162 := n1_; have HO166 := n2_; have HO170 := n3_; have BK153 := n4_; have BK163 := n5_; have HB := n6_; clear n0_ n1_ n2_ n3_ n4_ n5_ n6_; (try clear hb); (try clear hb2); (try clear hk); (try clear hi); (try clear ho0); have hcz40_0 : w39.cell? ⟨gb153, 0, none⟩ = some (.slice Ao22 y150.length co22) := (blk_cell BK153.out 0).trans rfl; have hfz40_0 := blk_frozen BK153.out 0) | ((with_reducible refine gate_callee (f := 12) rfl ?_); refine goesL_ (some 27) rfl rfl Try.func12 (by kernel_rfl) rfl #[.agg #[.slice Ao22 y150.length co22]] rfl (by (try simp only [List.map_toArray, List.map_cons, List.map_nil]); first | done | rfl | (simp only [List.length_drop, List.length_take]; rfl)) ?_; (with_reducible refine (graph_Components.calls k _ _ y150 t172 _ ?side1 ?side2 A3.out).mono ?_); (case side1 => repeat (first | exact (Kd.N_reads' HO152.out).2.2 | (with_reducible refine Kd.C_alloc ?_ _) | (with_reducible refine Kd.C_drewN ?_ _) | (with_reducible refine Kd.C_drew ?_))); (case side2 => exact (Kd.N_reads' HO152.out).2.1); rintro e w41 ⟨v173, rfl, ho0, hb⟩; refine ⟨_, rfl, ?_⟩; have n0_ := aM (Kd.N_below (by (with_reducible repeat (first | apply Kd.N_alloc | apply Kd.N_drewN | apply Kd.N_drew)); exact HO152.out) hb); have n1_ := aM (Kd.N_below (by (with_reducible repeat (first | apply Kd.N_alloc | apply Kd.N_drewN | apply Kd.N_drew)); exact HO162.out) hb); have n2_ := aM (Kd.N_below (by (with_reducible repeat (first | apply Kd.N_alloc | apply Kd.N_drewN | apply Kd.N_drew)); exact HO166.out) hb); have n3_ := aM (Kd.N_below (by (with_reducible repeat (first | apply Kd.N_alloc | apply Kd.N_drewN | apply Kd.N_drew)); exact HO170.out) hb); have n4_ := aM (Kd.V_lower (Kd.V_mono (ok' := fun k_ => some k_ ≠ (.slice Ao22 y150.length co22 : Value).ownBlock ∧ some k_ ≠ (.slice Ao33 y160.length co33 : Value).ownBlock ∧ some k_ ≠ (v165 : Value).ownBlock ∧ some k_ ≠ (v169 : Value).ownBlock ∧ k_ ≠ gb153 ∧ k_ ≠ gb163) ho0 (fun k_ hk_ => ⟨(Kd.fresh' (Kd.N_lt (by (with_reducible repeat (first | apply Kd.N_alloc | apply Kd.N_drewN | apply Kd.N_drew)); exact HO152.out)) k_ hk_), (Kd.fresh' (Kd.N_lt (by (with_reducible repeat (first | apply Kd.N_alloc | apply Kd.N_drewN | apply Kd.N_drew)); exact HO162.out)) k_ hk_), (Kd.fresh' (Kd.N_lt (by (with_reducible repeat (first | apply Kd.N_alloc | apply Kd.N_drewN | apply Kd.N_drew)); exact HO166.out)) k_ hk_), (Kd.fresh' (Kd.N_lt (by (with_reducible repeat (first | apply Kd.N_alloc | apply Kd.N_drewN | apply Kd.N_drew)); exact HO170.out)) k_ hk_), (Kd.freshB (g := gb153) (o := .cells #[.slice Ao22 y150.length co22] 24 (0, 0)) (by (with_reducible repeat (first | refine kN ?_ _ | refine kD ?_ | refine kA ?_ _)); exact BK153.out) k_ hk_), (Kd.freshB (g := gb163) (o := .cells #[.slice Ao33 y160.length co33] 24 (0, 0)) (by (with_reducible repeat (first | refine kN ?_ _ | refine kD ?_ | refine kA ?_ _)); exact BK163.out) k_ hk_)⟩)) (below_size (by repeat (first | (with_reducible first | exact HB.out | apply bA | apply bN | apply bD | refine below_set ?_ GE153.out | refine below_set ?_ GE163.out) | exact HB.out)))); have n5_ := aM (blk_below (g := gb153) (o := .cells #[.slice Ao22 y150.length co22] 24 (0, 0)) (by (with_reducible repeat (first | refine kN ?_ _ | refine kD ?_ | refine kA ?_ _)); exact BK153.out) hb); have n6_ := aM (blk_below (g := gb163) (o := .cells #[.slice Ao33 y160.length co33] 24 (0, 0)) (by (with_reducible repeat (first | refine kN ?_ _ | refine kD ?_ | refine kA ?_ _)); exact BK163.out) hb); have n7_ := aM (below_step (by repeat (first | (with_reducible first | exact HB.out | apply bA | apply bN | apply bD | refine below_set ?_ GE153.out | refine below_set ?_ GE163.out) | exact HB.out)) hb); clear HO152; clear HO162; clear HO166; clear HO170; clear BK153; clear BK163; clear HB; have HO152 := n0_; have HO162 := n1_; have HO166 := n2_; have HO170 := n3_; have HO174 := n4_; have BK153 := n5_; have BK163 := n6_; have HB := n7_; clear n0_ n1_ n2_ n3_ n4_ n5_ n6_ n7_; (try clear hb); (try clear hb2); (try clear hk); (try clear hi); (try clear ho0)) | ((with_reducible refine gate_dst (N := 28) rfl ?_); (try (refine gate_guard (by rfl) ?_; dsimp only)); refine Kd.R_lit (Kd.int .i64) _ 3 ?hg (N := 28) ?hd (xs := ([0, 1] : List Int)) (inner := [.int .i64 0, .int .i64 1]) (ok := fun _ => True) (okp := fun _ => True) ?hr ?hp (fun _ hk => hk) trivial (Below.refl _ _) (Nat.le_refl _) (by simp) ?_; (case hd => rfl); (case hg => rfl); (case hr => first | (go_simp; done) | (go_simp; rfl)); (case hp => exact (Reps.one (show Kd.M (Kd.int .i64) _ _ _ 0 [.int .i64 0] from rfl) (Reps.one (show Kd.M (Kd.int .i64) _ _ _ 1 [.int .i64 1] from rfl) (Reps.none _ _)))); intro v176 w42 ho43 hb hg_ hnew_; clear hg_ hnew_; (first | rw [← Ny175.out] at ho43 | (simp only [Int.reduceToNat] at ho43; rw [← Ny175.out] at ho43)); have n0_ := aM (Kd.N_elder' (by (with_reducible repeat (first | apply Kd.N_alloc | apply Kd.N_drewN | apply Kd.N_drew)); exact HO152.out) (Kd.R_base ho43) hb); have n1_ := aM (Kd.N_elder' (by (with_reducible repeat (first | apply Kd.N_alloc | apply Kd.N_drewN | apply Kd.N_drew)); exact HO162.out) (Kd.R_base ho43) hb); have n2_ := aM (Kd.N_elder' (by (with_reducible repeat (first | apply Kd.N_alloc | apply Kd.N_drewN | apply Kd.N_drew)); exact HO166.out) (Kd.R_base ho43) hb); have n3_ := aM (Kd.N_elder' (by (with_reducible repeat (first | apply Kd.N_alloc | apply Kd.N_drewN | apply Kd.N_drew)); exact HO170.out) (Kd.R_base ho43) hb); have n4_ := aM (Kd.V_elder' (by (with_reducible repeat (first | apply Kd.V_alloc | apply Kd.V_drewN | apply Kd.V_drew)); exact HO174.out) (Kd.R_base ho43) hb); have n5_ := aM (Kd.R_lower ho43 (below_size (by repeat (first | (with_reducible first | exact HB.out | apply bA | apply bN | apply bD | refine below_set ?_ GE153.out | refine below_set ?_ GE163.out) | exact HB.out)))); have n6_ := aM (blk_below (g := gb153) (o := .cells #[.slice Ao22 y150.length co22] 24 (0, 0)) (by (with_reducible repeat (first | refine kN ?_ _ | refine kD ?_ | refine kA ?_ _)); exact BK153.out) hb); have n7_ := aM (blk_below (g := gb163) (o := .cells #[.slice Ao33 y160.length co33] 24 (0, 0)) (by (with_reducible repeat (first | refine kN ?_ _ | refine kD ?_ | refine kA ?_ _)); exact BK163.out) hb); have n8_ := aM (below_step (by repeat (first | (with_reducible first | exact HB.out | apply bA | apply bN | apply bD | refine below_set ?_ GE153.out | refine below_set ?_ GE163.out) | exact HB.out)) hb); clear HO152; clear HO162; clear HO166; clear HO170; clear HO174; clear BK153; clear BK163; clear HB; have HO152 := n0_; have HO162 := n1_; have HO166 := n2_; have HO170 := n3_; have HO174 := n4_; have HO177 := n5_; have BK153 := n6_; have BK163 := n7_; have HB := n8_; clear n0_ n1_ n2_ n3_ n4_ n5_ n6_ n7_ n8_; clear hb ho43) | ((with_reducible refine gate_dst (N := 29) rfl ?_); (try (refine gate_guard (by rfl) ?_; dsimp only)); refine Kd.R_lit (Kd.int .i64) _ 3 ?hg (N := 29) ?hd (xs := ([2] : List Int)) (inner := [.int .i64 2]) (ok := fun _ => True) (okp := fun _ => True) ?hr ?hp (fun _ hk => hk) trivial (Below.refl _ _) (Nat.le_refl _) (by simp) ?_; (case hd => rfl); (case hg => rfl); (case hr => first | (go_simp; done) | (go_simp; rfl)); (case hp => exact (Reps.one (show Kd.M (Kd.int .i64) _ _ _ 2 [.int .i64 2] from rfl) (Reps.none _ _))); intro v179 w44 ho45 hb hg_ hnew_; clear hg_ hnew_; (first | rw [← Ny178.out] at ho45 | (simp only [Int.reduceToNat] at ho45; rw [← Ny178.out] at ho45)); have n0_ := aM (Kd.N_elder' (by (with_reducible repeat (first | apply Kd.N_alloc | apply Kd.N_drewN | apply Kd.N_drew)); exact HO152.out) (Kd.R_base ho45) hb); have n1_ := aM (Kd.N_elder' (by (with_reducible repeat (first | apply Kd.N_alloc | apply Kd.N_drewN | apply Kd.N_drew)); exact HO162.out) (Kd.R_base ho45) hb); have n2_ := aM (Kd.N_elder' (by (with_reducible repeat (first | apply Kd.N_alloc | apply Kd.N_drewN | apply Kd.N_drew)); exact HO166.out) (Kd.R_base ho45) hb); have n3_ := aM (Kd.N_elder' (by (with_reducible repeat (first | apply Kd.N_alloc | apply Kd.N_drewN | apply Kd.N_drew)); exact HO170.out) (Kd.R_base ho45) hb); have n4_ := aM (Kd.V_elder' (by (with_reducible repeat (first | apply Kd.V_alloc | apply Kd.V_drewN | apply Kd.V_drew)); exact HO174.out) (Kd.R_base ho45) hb); have n5_ := aM (Kd.R_elder' (by (with_reducible repeat (first | apply Kd.R_alloc | apply Kd.R_drewN | apply Kd.R_drew)); exact HO177.out) (Kd.R_base ho45) hb); have n6_ := aM (Kd.R_lower (Kd.R_new' ho45 (Kd.R_lt (by (with_reducible repeat (first | apply Kd.R_alloc | apply Kd.R_drewN | apply Kd.R_drew)); exact HO177.out))) (below_size (by repeat (first | (with_reducible first | exact HB.out | apply bA | apply bN | apply bD | refine below_set ?_ GE153.out | refine below_set ?_ GE163.out) | exact HB.out)))); have n7_ := aM (blk_below (g := gb153) (o := .cells #[.slice Ao22 y150.length co22] 24 (0, 0)) (by (with_reducible repeat (first | refine kN ?_ _ | refine kD ?_ | refine kA ?_ _)); exact BK153.out) hb); have n8_ := aM (blk_below (g := gb163) (o := .cells #[.slice Ao33 y160.length co33] 24 (0, 0)) (by (with_reducible repeat (first | refine kN ?_ _ | refine kD ?_ | refine kA ?_ _)); exact BK163.out) hb); have n9_ := aM (below_step (by repeat (first | (with_reducible first | exact HB.out | apply bA | apply bN | apply bD | refine below_set ?_ GE153.out | refine below_set ?_ GE163.out) | exact HB.out)) hb); clear HO152; clear HO162; clear HO166; clear HO170; clear HO174; clear HO177; clear BK153; clear BK163; clear HB; have HO152 := n0_; have HO162 := n1_; have HO166 := n2_; have HO170 := n3_; have HO174 := n4_; have HO177 := n5_; have HO180 := n6_; have BK153 := n7_; have BK163 := n8_; have HB := n9_; clear n0_ n1_ n2_ n3_ n4_ n5_ n6_ n7_ n8_ n9_; clear hb ho45; obtain ⟨Ao46, co46, eo46⟩ := Kd.R_slice HO177.out; subst eo46; obtain ⟨Ao47, co47, eo47⟩ := Kd.R_slice HO180.out; subst eo47) | ((with_reducible refine gate_dst (N := 30) rfl ?_); (try (refine gate_guard (by rfl) ?_; dsimp only)); refine Kd.N_lit (Kd.slice 3 (Kd.int .i64)) _ 32 ?hg (N' := 30) ?hd (xs := ([y175, y178] : List (List Int))) (inner := [.slice Ao46 y175.length co46, .slice Ao47 y178.length co47]) (ok := (fun k_ => some k_ ≠ (.slice Ao22 y150.length co22 : Value).ownBlock ∧ some k_ ≠ (.slice Ao33 y160.length co33 : Value).ownBlock ∧ some k_ ≠ (v165 : Value).ownBlock ∧ some k_ ≠ (v169 : Value).ownBlock ∧ k_ ≠ gb153 ∧ k_ ≠ gb163)) (okp := (fun k_ => some k_ ≠ (.slice Ao22 y150.length co22 : Value).ownBlock ∧ some k_ ≠ (.slice Ao33 y160.length co33 : Value).ownBlock ∧ some k_ ≠ (v165 : Value).ownBlock ∧ some k_ ≠ (v169 : Value).ownBlock ∧ k_ ≠ gb153 ∧ k_ ≠ gb163)) ?hr ?hp (fun _ hk => hk) ((show ∀ k_, w44.heap.size ≤ k_ → (fun k_ => some k_ ≠ (.slice Ao22 y150.length co22 : Value).ownBlock ∧ some k_ ≠ (.slice Ao33 y160.length co33 : Value).ownBlock ∧ some k_ ≠ (v165 : Value).ownBlock ∧ some k_ ≠ (v169 : Value).ownBlock ∧ k_ ≠ gb153 ∧ k_ ≠ gb163) k_ from fun k_ hk => ⟨Kd.fresh' (Kd.N_lt (by (with_reducible repeat (first | apply Kd.N_alloc | apply Kd.N_drewN | apply Kd.N_drew)); exact HO152.out)) k_ hk, Kd.fresh' (Kd.N_lt (by (with_reducible repeat (first | apply Kd.N_alloc | apply Kd.N_drewN | apply Kd.N_drew)); exact HO162.out)) k_ hk, Kd.fresh' (Kd.N_lt (by (with_reducible repeat (first | apply Kd.N_alloc | apply Kd.N_drewN | apply Kd.N_drew)); exact HO166.out)) k_ hk, Kd.fresh' (Kd.N_lt (by (with_reducible repeat (first | apply Kd.N_alloc | apply Kd.N_drewN | apply Kd.N_drew)); exact HO170.out)) k_ hk, Kd.freshB (g := gb153) (o := .cells #[.slice Ao22 y150.length co22] 24 (0, 0)) (by (with_reducible repeat (first | refine kN ?_ _ | refine kD ?_ | refine kA ?_ _)); exact BK153.out) k_ hk, Kd.freshB (g := gb163) (o := .cells #[.slice Ao33 y160.length co33] 24 (0, 0)) (by (with_reducible repeat (first | refine kN ?_ _ | refine kD ?_ | refine kA ?_ _)); exact BK163.out) k_ hk⟩) _ (Nat.le_refl _)) (Below.refl _ _) (Nat.le_refl _) (by simp) ?_; (case hd => rfl); (case hg => rfl); (case hr => first | (go_simp; done) | (go_simp; rfl)); (case hp => exact (Reps.one (show Kd.FK (Kd.slice 3 (Kd.int .i64)) _ _ y175 [.slice Ao46 y175.length co46] from (Kd.FK_slice_mk (Kd.R_reads' (Kd.R_mono (ok' := (fun k_ => some k_ ≠ (.slice Ao22 y150.length co22 : Value).ownBlock ∧ some k_ ≠ (.slice Ao33 y160.length co33 : Value).ownBlock ∧ some k_ ≠ (v165 : Value).ownBlock ∧ some k_ ≠ (v169 : Value).ownBlock ∧ k_ ≠ gb153 ∧ k_ ≠ gb163)) (Kd.R_types (Kd.R_types (Kd.R_apart' (Kd.R_apart' (Kd.R_apart' (Kd.R_apart' (HO177.out) (Kd.N_typed HO152.out) (by decide)) (Kd.N_typed HO162.out) (by decide)) (Kd.N_typed HO166.out) (by decide)) (Kd.N_typed HO170.out) (by decide)) BK153.out (by decide)) BK163.out (by decide)) (fun k_ hk => ⟨hk.1.1.1.1.1.2, ⟨hk.1.1.1.1.2, ⟨hk.1.1.1.2, ⟨hk.1.1.2, ⟨hk.1.2, hk.2⟩⟩⟩⟩⟩))).2.1 (Kd.R_F (Kd.R_mono (ok' := (fun k_ => some k_ ≠ (.slice Ao22 y150.length co22 : Value).ownBlock ∧ some k_ ≠ (.slice Ao33 y160.length co33 : Value).ownBlock ∧ some k_ ≠ (v165 : Value).ownBlock ∧ some k_ ≠ (v169 : Value).ownBlock ∧ k_ ≠ gb153 ∧ k_ ≠ gb163)) (Kd.R_types (Kd.R_types (Kd.R_apart' (Kd.R_apart' (Kd.R_apart' (Kd.R_apart' (HO177.out) (Kd.N_typed HO152.out) (by decide)) (Kd.N_typed HO162.out) (by decide)) (Kd.N_typed HO166.out) (by decide)) (Kd.N_typed HO170.out) (by decide)) BK153.out (by decide)) BK163.out (by decide)) (fun k_ hk => ⟨hk.1.1.1.1.1.2, ⟨hk.1.1.1.1.2, ⟨hk.1.1.1.2, ⟨hk.1.1.2, ⟨hk.1.2, hk.2⟩⟩⟩⟩⟩))))) (Reps.one (show Kd.FK (Kd.slice 3 (Kd.int .i64)) _ _ y178 [.slice Ao47 y178.length co47] from (Kd.FK_slice_mk (Kd.R_reads' (Kd.R_mono (ok' := (fun k_ => some k_ ≠ (.slice Ao22 y150.length co22 : Value).ownBlock ∧ some k_ ≠ (.slice Ao33 y160.length co33 : Value).ownBlock ∧ some k_ ≠ (v165 : Value).ownBlock ∧ some k_ ≠ (v169 : Value).ownBlock ∧ k_ ≠ gb153 ∧ k_ ≠ gb163)) (Kd.R_types (Kd.R_types (Kd.R_apart' (Kd.R_apart' (Kd.R_apart' (Kd.R_apart' (HO180.out) (Kd.N_typed HO152.out) (by decide)) (Kd.N_typed HO162.out) (by decide)) (Kd.N_typed HO166.out) (by decide)) (Kd.N_typed HO170.out) (by decide)) BK153.out (by decide)) BK163.out (by decide)) (fun k_ hk => ⟨hk.1.1.1.1.1.2, ⟨hk.1.1.1.1.2, ⟨hk.1.1.1.2, ⟨hk.1.1.2, ⟨hk.1.2, hk.2⟩⟩⟩⟩⟩))).2.1 (Kd.R_F (Kd.R_mono (ok' := (fun k_ => some k_ ≠ (.slice Ao22 y150.length co22 : Value).ownBlock ∧ some k_ ≠ (.slice Ao33 y160.length co33 : Value).ownBlock ∧ some k_ ≠ (v165 : Value).ownBlock ∧ some k_ ≠ (v169 : Value).ownBlock ∧ k_ ≠ gb153 ∧ k_ ≠ gb163)) (Kd.R_types (Kd.R_types (Kd.R_apart' (Kd.R_apart' (Kd.R_apart' (Kd.R_apart' (HO180.out) (Kd.N_typed HO152.out) (by decide)) (Kd.N_typed HO162.out) (by decide)) (Kd.N_typed HO166.out) (by decide)) (Kd.N_typed HO170.out) (by decide)) BK153.out (by decide)) BK163.out (by decide)) (fun k_ hk => ⟨hk.1.1.1.1.1.2, ⟨hk.1.1.1.1.2, ⟨hk.1.1.1.2, ⟨hk.1.1.2, ⟨hk.1.2, hk.2⟩⟩⟩⟩⟩))))) (Reps.none _ _)))); intro v182 w48 ho49 hb hg_ hnew_; clear hg_ hnew_; (first | rw [← Ny181.out] at ho49 | (simp only [Int.reduceToNat] at ho49; rw [← Ny181.out] at ho49)); have n0_ := aM (Kd.N_elder' (by (with_reducible repeat (first | apply Kd.N_alloc | apply Kd.N_drewN | apply Kd.N_drew)); exact HO152.out) (Kd.N_base ho49) hb); have n1_ := aM (Kd.N_elder' (by (with_reducible repeat (first | apply Kd.N_alloc | apply Kd.N_drewN | apply Kd.N_drew)); exact HO162.out) (Kd.N_base ho49) hb); have n2_ := aM (Kd.N_elder' (by (with_reducible repeat (first | apply Kd.N_alloc | apply Kd.N_drewN | apply Kd.N_drew)); exact HO166.out) (Kd.N_base ho49) hb); have n3_ := aM (Kd.N_elder' (by (with_reducible repeat (first | apply Kd.N_alloc | apply Kd.N_drewN | apply Kd.N_drew)); exact HO170.out) (Kd.N_base ho49) hb); have n4_ := aM (Kd.V_elder' (by (with_reducible repeat (first | apply Kd.V_alloc | apply Kd.V_drewN | apply Kd.V_drew)); exact HO174.out) (Kd.N_base ho49) hb); have n5_ := aM (Kd.N_lower ho49 (below_size (by repeat (first | (with_reducible first | exact HB.out | apply bA | apply bN | apply bD | refine below_set ?_ GE153.out | refine below_set ?_ GE163.out) | exact HB.out)))); have n6_ := aM (blk_below (g := gb153) (o := .cells #[.slice Ao22 y150.length co22] 24 (0, 0)) (by (with_reducible repeat (first | refine kN ?_ _ | refine kD ?_ | refine kA ?_ _)); exact BK153.out) hb); have n7_ := aM (blk_below (g := gb163) (o := .cells #[.slice Ao33 y160.length co33] 24 (0, 0)) (by (with_reducible repeat (first | refine kN ?_ _ | refine kD ?_ | refine kA ?_ _)); exact BK163.out) hb); have n8_ := aM (below_step (by repeat (first | (with_reducible first | exact HB.out | apply bA | apply bN | apply bD | refine below_set ?_ GE153.out | refine below_set ?_ GE163.out) | exact HB.out)) hb); clear HO152; clear HO162; clear HO166; clear HO170; clear HO174; clear BK153; clear BK163; clear HB; clear HO177; clear HO180; have HO152 := n0_; have HO162 := n1_; have HO166 := n2_; have HO170 := n3_; have HO174 := n4_; have HO183 := n5_; have BK153 := n6_; have BK163 := n7_; have HB := n8_; clear n0_ n1_ n2_ n3_ n4_ n5_ n6_ n7_ n8_; clear hb ho49; obtain ⟨Ao50, co50, eo50⟩ := Kd.V_slice HO174.out; subst eo50; obtain ⟨Ao51, co51, eo51⟩ := Kd.N_slice HO183.out; subst eo51) | ((with_reducible refine gate_callee (f := 11) rfl ?_); refine goesL_ (some 31) rfl rfl Try.func11 (by kernel_rfl) rfl #[.slice Ao50 t172.length co50, .slice Ao51 y181.length co51] rfl (by (try simp only [List.map_toArray, List.map_cons, List.map_nil]); first | done | rfl | (simp only [List.length_drop, List.length_take]; rfl)) ?_; (with_reducible refine (lazycref09_Same.calls k _ _ t172 _ _ y181 true _ ?side1 ?side2 ?side3 ?side4 A4.out).mono ?_); (case side1 => repeat (first | exact (Kd.V_reads' HO174.out).2.2 | (with_reducible refine Kd.C_alloc ?_ _) | (with_reducible refine Kd.C_drewN ?_ _) | (with_reducible refine Kd.C_drew ?_))); (case side2 => exact (Kd.V_reads' HO174.out).2.1); (case side3 => repeat (first | exact (Kd.N_reads' HO183.out).2.2 | (with_reducible refine Kd.C_alloc ?_ _) | (with_reducible refine Kd.C_drewN ?_ _) | (with_reducible refine Kd.C_drew ?_))); (case side4 => exact (Kd.N_reads' HO183.out).2.1); rintro e w' ⟨rfl, ⟨nd, rfl⟩⟩; refine ⟨_, rfl, ?_⟩; have hcz52_0 : w48.cell? ⟨gb153, 0, none⟩ = some (.slice Ao22 y150.length co22) := (blk_cell BK153.out 0).trans rfl; have hfz52_0 := blk_frozen BK153.out 0) | (go_at_call 20; (with_reducible refine (graph_Cyclic.calls k _ _ y150 1 true _ ?side1 ?side2 A6.out).mono ?_); (case side1 => repeat (first | exact (Kd.N_reads' HO152.out).2.2 | (with_reducible refine Kd.C_alloc ?_ _) | (with_reducible refine Kd.C_drewN ?_ _) | (with_reducible refine Kd.C_drew ?_))); (case side2 => exact (Kd.N_reads' HO152.out).2.1); rintro e w53 ⟨rfl, hb⟩; have n0_ := aM (Kd.N_below (by (with_reducible repeat (first | apply Kd.N_alloc | apply Kd.N_drewN | apply Kd.N_drew)); exact HO152.out) hb); have n1_ := aM (Kd.N_below (by (with_reducible repeat (first | apply Kd.N_alloc | apply Kd.N_drewN | apply Kd.N_drew)); exact HO162.out) hb); have n2_ := aM (Kd.N_below (by (with_reducible repeat (first | apply Kd.N_alloc | apply Kd.N_drewN | apply Kd.N_drew)); exact HO166.out) hb); have n3_ := aM (Kd.N_below (by (with_reducible repeat (first | apply Kd.N_alloc | apply Kd.N_drewN | apply Kd.N_drew)); exact HO170.out) hb); have n4_ := aM (Kd.V_below (by (with_reducible repeat (first | apply Kd.V_alloc | apply Kd.V_drewN | apply Kd.V_drew)); exact HO174.out) hb); have n5_ := aM (Kd.N_below (by (with_reducible repeat (first | apply Kd.N_alloc | apply Kd.N_drewN | apply Kd.N_drew)); exact HO183.out) hb); have n6_ := aM (blk_below (g := gb153) (o := .cells #[.slice Ao22 y150.length co22] 24 (0, 0)) (by (with_reducible repeat (first | refine kN ?_ _ | refine kD ?_ | refine kA ?_ _)); exact BK153.out) hb); have n7_ := aM (blk_below (g := gb163) (o := .cells #[.slice Ao33 y160.length co33] 24 (0, 0)) (by (with_reducible repeat (first | refine kN ?_ _ | refine kD ?_ | refine kA ?_ _)); exact BK163.out) hb); have n8_ := aM (below_step (by repeat (first | (with_reducible first | exact HB.out | apply bA | apply bN | apply bD | refine below_set ?_ GE153.out | refine below_set ?_ GE163.out) | exact HB.out)) hb); clear HO152; clear HO162; clear HO166; clear HO170; clear HO174; clear HO183; clear BK153; clear BK163; clear HB; have HO152 := n0_; have HO162 := n1_; have HO166 := n2_; have HO170 := n3_; have HO174 := n4_; have HO183 := n5_; have BK153 := n6_; have BK163 := n7_; have HB := n8_; clear n0_ n1_ n2_ n3_ n4_ n5_ n6_ n7_ n8_; (try clear hb); (try clear hb2); (try clear hk); (try clear hi)) | ((with_reducible refine gate_dst (N := 42) rfl ?_); (try (refine gate_guard (by rfl) ?_; dsimp only)); refine Kd.R_lit (Kd.int .i64) _ 3 ?hg (N := 42) ?hd (xs := ([2] : List Int)) (inner := [.int .i64 2]) (ok := fun _ => True) (okp := fun _ => True) ?hr ?hp (fun _ hk => hk) trivial (Below.refl _ _) (Nat.le_refl _) (by simp) ?_; (case hd => rfl); (case hg => rfl); (case hr => first | (go_simp; done) | (go_simp; rfl)); (case hp => exact (Reps.one (show Kd.M (Kd.int .i64) _ _ _ 2 [.int .i64 2] from rfl) (Reps.none _ _))); intro v187 w54 ho55 hb hg_ hnew_; clear hg_ hnew_; (first | rw [← Ny186.out] at ho55 | (simp only [Int.reduceToNat] at ho55; rw [← Ny186.out] at ho55)); have n0_ := aM (Kd.N_elder' (by (with_reducible repeat (first | apply Kd.N_alloc | apply Kd.N_drewN | apply Kd.N_drew)); exact HO152.out) (Kd.R_base ho55) hb); have n1_ := aM (Kd.N_elder' (by (with_reducible repeat (first | apply Kd.N_alloc | apply Kd.N_drewN | apply Kd.N_drew)); exact HO162.out) (Kd.R_base ho55) hb); have n2_ := aM (Kd.N_elder' (by (with_reducible repeat (first | apply Kd.N_alloc | apply Kd.N_drewN | apply Kd.N_drew)); exact HO166.out) (Kd.R_base ho55) hb); have n3_ := aM (Kd.N_elder' (by (with_reducible repeat (first | apply Kd.N_alloc | apply Kd.N_drewN | apply Kd.N_drew)); exact HO170.out) (Kd.R_base ho55) hb); have n4_ := aM (Kd.V_elder' (by (with_reducible repeat (first | apply Kd.V_alloc | apply Kd.V_drewN | apply Kd.V_drew)); exact HO174.out) (Kd.R_base ho55) hb); have n5_ := aM (Kd.N_elder' (by (with_reducible repeat (first | apply Kd.N_alloc | apply Kd.N_drewN | apply Kd.N_drew)); exact HO183.out) (Kd.R_base ho55) hb); have n6_ := aM (Kd.R_lower ho55 (below_size (by repeat (first | (with_reducible first | exact HB.out | apply bA | apply bN | apply bD | refine below_set ?_ GE153.out | refine below_set ?_ GE163.out) | exact HB.out)))); have n7_ := aM (blk_below (g := gb153) (o := .cells #[.slice Ao22 y150.length co22] 24 (0, 0)) (by (with_reducible repeat (first | refine kN ?_ _ | refine kD ?_ | refine kA ?_ _)); exact BK153.out) hb); have n8_ := aM (blk_below (g := gb163) (o := .cells #[.slice Ao33 y160.length co33] 24 (0, 0)) (by (with_reducible repeat (first | refine kN ?_ _ | refine kD ?_ | refine kA ?_ _)); exact BK163.out) hb); have n9_ := aM (below_step (by repeat (first | (with_reducible first | exact HB.out | apply bA | apply bN | apply bD | refine below_set ?_ GE153.out | refine below_set ?_ GE163.out) | exact HB.out)) hb); clear HO152; clear HO162; clear HO166; clear HO170; clear HO174; clear HO183; clear BK153; clear BK163; clear HB; have HO152 := n0_; have HO162 := n1_; have HO166 := n2_; have HO170 := n3_; have HO174 := n4_; have HO183 := n5_; have HO188 := n6_; have BK153 := n7_; have BK163 := n8_; have HB := n9_; clear n0_ n1_ n2_ n3_ n4_ n5_ n6_ n7_ n8_ n9_; clear hb ho55) | ((with_reducible refine gate_dst (N := 43) rfl ?_); (try (refine gate_guard (by rfl) ?_; dsimp only)); refine Kd.R_lit (Kd.int .i64) _ 3 ?hg (N := 43) ?hd (xs := ([1] : List Int)) (inner := [.int .i64 1]) (ok := fun _ => True) (okp := fun _ => True) ?hr ?hp (fun _ hk => hk) trivial (Below.refl _ _) (Nat.le_refl _) (by simp) ?_; (case hd => rfl); (case hg => rfl); (case hr => first | (go_simp; done) | (go_simp; rfl)); (case hp => exact (Reps.one (show Kd.M (Kd.int .i64) _ _ _ 1 [.int .i64 1] from rfl) (Reps.none _ _))); intro v190 w56 ho57 hb hg_ hnew_; clear hg_ hnew_; (first | rw [← Ny189.out] at ho57 | (simp only [Int.reduceToNat] at ho57; rw [← Ny189.out] at ho57)); have n0_ := aM (Kd.N_elder' (by (with_reducible repeat (first | apply Kd.N_alloc | apply Kd.N_drewN | apply Kd.N_drew)); exact HO152.out) (Kd.R_base ho57) hb); have n1_ := aM (Kd.N_elder' (by (with_reducible repeat (first | apply Kd.N_alloc | apply Kd.N_drewN | apply Kd.N_drew)); exact HO162.out) (Kd.R_base ho57) hb); have n2_ := aM (Kd.N_elder' (by (with_reducible repeat (first | apply Kd.N_alloc | apply Kd.N_drewN | apply Kd.N_drew)); exact HO166.out) (Kd.R_base ho57) hb); have n3_ := aM (Kd.N_elder' (by (with_reducible repeat (first | apply Kd.N_alloc | apply Kd.N_drewN | apply Kd.N_drew)); exact HO170.out) (Kd.R_base ho57) hb); have n4_ := aM (Kd.V_elder' (by (with_reducible repeat (first | apply Kd.V_alloc | apply Kd.V_drewN | apply Kd.V_drew)); exact HO174.out) (Kd.R_base ho57) hb); have n5_ := aM (Kd.N_elder' (by (with_reducible repeat (first | apply Kd.N_alloc | apply Kd.N_drewN | apply Kd.N_drew)); exact HO183.out) (Kd.R_base ho57) hb); have n6_ := aM (Kd.R_elder' (by (with_reducible repeat (first | apply Kd.R_alloc | apply Kd.R_drewN | apply Kd.R_drew)); exact HO188.out) (Kd.R_base ho57) hb); have n7_ := aM (Kd.R_lower (Kd.R_new' ho57 (Kd.R_lt (by (with_reducible repeat (first | apply Kd.R_alloc | apply Kd.R_drewN | apply Kd.R_drew)); exact HO188.out))) (below_size (by repeat (first | (with_reducible first | exact HB.out | apply bA | apply bN | apply bD | refine below_set ?_ GE153.out | refine below_set ?_ GE163.out) | exact HB.out)))); have n8_ := aM (blk_below (g := gb153) (o := .cells #[.slice Ao22 y150.length co22] 24 (0, 0)) (by (with_reducible repeat (first | refine kN ?_ _ | refine kD ?_ | refine kA ?_ _)); exact BK153.out) hb); have n9_ := aM (blk_below (g := gb163) (o := .cells #[.slice Ao33 y160.length co33] 24 (0, 0)) (by (with_reducible repeat (first | refine kN ?_ _ | refine kD ?_ | refine kA ?_ _)); exact BK163.out) hb); have n10_ := aM (below_step (by repeat (first | (with_reducible first | exact HB.out | apply bA | apply bN | apply bD | refine below_set ?_ GE153.out | refine below_set ?_ GE163.out) | exact HB.out)) hb); clear HO152; clear HO162; clear HO166; clear HO170; clear HO174; clear HO183; clear HO188; clear BK153; clear BK163; clear HB; have HO152 := n0_; have HO162 := n1_; have HO166 := n2_; have HO170 := n3_; have HO174 := n4_; have HO183 := n5_; have HO188 := n6_; have HO191 := n7_; have BK153 := n8_; have BK163 := n9_; have HB := n10_; clear n0_ n1_ n2_ n3_ n4_ n5_ n6_ n7_ n8_ n9_ n10_; clear hb ho57) | ((with_reducible refine gate_dst (N := 44) rfl ?_); (try (refine gate_guard (by rfl) ?_; dsimp only)); refine Kd.R_lit (Kd.int .i64) _ 3 ?hg (N := 44) ?hd (xs := ([0] : List Int)) (inner := [.int .i64 0]) (ok := fun _ => True) (okp := fun _ => True) ?hr ?hp (fun _ hk => hk) trivial (Below.refl _ _) (Nat.le_refl _) (by simp) ?_; (case hd => rfl); (case hg => rfl); (case hr => first | (go_simp; done) | (go_simp; rfl)); (case hp => exact (Reps.one (show Kd.M (Kd.int .i64) _ _ _ 0 [.int .i64 0] from rfl) (Reps.none _ _))); intro v193 w58 ho59 hb hg_ hnew_; clear hg_ hnew_; (first | rw [← Ny192.out] at ho59 | (simp only [Int.reduceToNat] at ho59; rw [← Ny192.out] at ho59)); have n0_ := aM (Kd.N_elder' (by (with_reducible repeat (first | apply Kd.N_alloc | apply Kd.N_drewN | apply Kd.N_drew)); exact HO152.out) (Kd.R_base ho59) hb); have n1_ := aM (Kd.N_elder' (by (with_reducible repeat (first | apply Kd.N_alloc | apply Kd.N_drewN | apply Kd.N_drew)); exact HO162.out) (Kd.R_base ho59) hb); have n2_ := aM (Kd.N_elder' (by (with_reducible repeat (first | apply Kd.N_alloc | apply Kd.N_drewN | apply Kd.N_drew)); exact HO166.out) (Kd.R_base ho59) hb); have n3_ := aM (Kd.N_elder' (by (with_reducible repeat (first | apply Kd.N_alloc | apply Kd.N_drewN | apply Kd.N_drew)); exact HO170.out) (Kd.R_base ho59) hb); have n4_ := aM (Kd.V_elder' (by (with_reducible repeat (first | apply Kd.V_alloc | apply Kd.V_drewN | apply Kd.V_drew)); exact HO174.out) (Kd.R_base ho59) hb); have n5_ := aM (Kd.N_elder' (by (with_reducible repeat (first | apply Kd.N_alloc | apply Kd.N_drewN | apply Kd.N_drew)); exact HO183.out) (Kd.R_base ho59) hb); have n6_ := aM (Kd.R_elder' (by (with_reducible repeat (first | apply Kd.R_alloc | apply Kd.R_drewN | apply Kd.R_drew)); exact HO188.out) (Kd.R_base ho59) hb); have n7_ := aM (Kd.R_elder' (by (with_reducible repeat (first | apply Kd.R_alloc | apply Kd.R_drewN | apply Kd.R_drew)); exact HO191.out) (Kd.R_base ho59) hb); have n8_ := aM (Kd.R_lower (Kd.R_new' (Kd.R_new' ho59 (Kd.R_lt (by (with_reducible repeat (first | apply Kd.R_alloc | apply Kd.R_drewN | apply Kd.R_drew)); exact HO188.out))) (Kd.R_lt (by (with_reducible repeat (first | apply Kd.R_alloc | apply Kd.R_drewN | apply Kd.R_drew)); exact HO191.out))) (below_size (by repeat (first | (with_reducible first | exact HB.out | apply bA | apply bN | apply bD | refine below_set ?_ GE153.out | refine below_set ?_ GE163.out) | exact HB.out)))); have n9_ := aM (blk_below (g := gb153) (o := .cells #[.slice Ao22 y150.length co22] 24 (0, 0)) (by (with_reducible repeat (first | refine kN ?_ _ | refine kD ?_ | refine kA ?_ _)); exact BK153.out) hb); have n10_ := aM (blk_below (g := gb163) (o := .cells #[.slice Ao33 y160.length co33] 24 (0, 0)) (by (with_reducible repeat (first | refine kN ?_ _ | refine kD ?_ | refine kA ?_ _)); exact BK163.out) hb); have n11_ := aM (below_step (by repeat (first | (with_reducible first | exact HB.out | apply bA | apply bN | apply bD | refine below_set ?_ GE153.out | refine below_set ?_ GE163.out) | exact HB.out)) hb); clear HO152; clear HO162; clear HO166; clear HO170; clear HO174; clear HO183; clear HO188; clear HO191; clear BK153; clear BK163; clear HB; have HO152 := n0_; have HO162 := n1_; have HO166 := n2_; have HO170 := n3_; have HO174 := n4_; have HO183 := n5_; have HO188 := n6_; have HO191 := n7_; have HO194 := n8_; have BK153 := n9_; have BK163 := n10_; have HB := n11_; clear n0_ n1_ n2_ n3_ n4_ n5_ n6_ n7_ n8_ n9_ n10_ n11_; clear hb ho59; obtain ⟨Ao60, co60, eo60⟩ := Kd.R_slice HO188.out; subst eo60; obtain ⟨Ao61, co61, eo61⟩ := Kd.R_slice HO191.out; subst eo61; obtain ⟨Ao62, co62, eo62⟩ := Kd.R_slice HO194.out; subst eo62) | ((with_reducible refine gate_dst (N := 45) rfl ?_); (try (refine gate_guard (by rfl) ?_; dsimp only)); refine Kd.N_lit (Kd.slice 3 (Kd.int .i64)) _ 32 ?hg (N' := 45) ?hd (xs := ([y186, y189, y192] : List (List Int))) (inner := [.slice Ao60 y186.length co60, .slice Ao61 y189.length co61, .slice Ao62 y192.length co62]) (ok := (fun k_ => some k_ ≠ (.slice Ao22 y150.length co22 : Value).ownBlock ∧ some k_ ≠ (.slice Ao33 y160.length co33 : Value).ownBlock ∧ some k_ ≠ (v165 : Value).ownBlock ∧ some k_ ≠ (v169 : Value).ownBlock ∧ some k_ ≠ (.slice Ao51 y181.length co51 : Value).ownBlock ∧ k_ ≠ gb153 ∧ k_ ≠ gb163)) (okp := (fun k_ => some k_ ≠ (.slice Ao22 y150.length co22 : Value).ownBlock ∧ some k_ ≠ (.slice Ao33 y160.length co33 : Value).ownBlock ∧ some k_ ≠ (v165 : Value).ownBlock ∧ some k_ ≠ (v169 : Value).ownBlock ∧ some k_ ≠ (.slice Ao51 y181.length co51 : Value).ownBlock ∧ k_ ≠ gb153 ∧ k_ ≠ gb163)) ?hr ?hp (fun _ hk => hk) ((show ∀ k_, w58.heap.size ≤ k_ → (fun k_ => some k_ ≠ (.slice Ao22 y150.length co22 : Value).ownBlock ∧ some k_ ≠ (.slice Ao33 y160.length co33 : Value).ownBlock ∧ some k_ ≠ (v165 : Value).ownBlock ∧ some k_ ≠ (v169 : Value).ownBlock ∧ some k_ ≠ (.slice Ao51 y181.length co51 : Value).ownBlock ∧ k_ ≠ gb153 ∧ k_ ≠ gb163) k_ from fun k_ hk => ⟨Kd.fresh' (Kd.N_lt (by (with_reducible repeat (first | apply Kd.N_alloc | apply Kd.N_drewN | apply Kd.N_drew)); exact HO152.out)) k_ hk, Kd.fresh' (Kd.N_lt (by (with_reducible repeat (first | apply Kd.N_alloc | apply Kd.N_drewN | apply Kd.N_drew)); exact HO162.out)) k_ hk, Kd.fresh' (Kd.N_lt (by (with_reducible repeat (first | apply Kd.N_alloc | apply Kd.N_drewN | apply Kd.N_drew)); exact HO166.out)) k_ hk, Kd.fresh' (Kd.N_lt (by (with_reducible repeat (first | apply Kd.N_alloc | apply Kd.N_drewN | apply Kd.N_drew)); exact HO170.out)) k_ hk, Kd.fresh' (Kd.N_lt (by (with_reducible repeat (first | apply Kd.N_alloc | apply Kd.N_drewN | apply Kd.N_drew)); exact HO183.out)) k_ hk, Kd.freshB (g := gb153) (o := .cells #[.slice Ao22 y150.length co22] 24 (0, 0)) (by (with_reducible repeat (first | refine kN ?_ _ | refine kD ?_ | refine kA ?_ _)); exact BK153.out) k_ hk, Kd.freshB (g := gb163) (o := .cells #[.slice Ao33 y160.length co33] 24 (0, 0)) (by (with_reducible repeat (first | refine kN ?_ _ | refine kD ?_ | refine kA ?_ _)); exact BK163.out) k_ hk⟩) _ (Nat.le_refl _)) (Below.refl _ _) (Nat.le_refl _) (by simp) ?_; (case hd => rfl); (case hg => rfl); (case hr => first | (go_simp; done) | (go_simp; rfl)); (case hp => exact (Reps.one (show Kd.FK (Kd.slice 3 (Kd.int .i64)) _ _ y186 [.slice Ao60 y186.length co60] from (Kd.FK_slice_mk (Kd.R_reads' (Kd.R_mono (ok' := (fun k_ => some k_ ≠ (.slice Ao22 y150.length co22 : Value).ownBlock ∧ some k_ ≠ (.slice Ao33 y160.length co33 : Value).ownBlock ∧ some k_ ≠ (v165 : Value).ownBlock ∧ some k_ ≠ (v169 : Value).ownBlock ∧ some k_ ≠ (.slice Ao51 y181.length co51 : Value).ownBlock ∧ k_ ≠ gb153 ∧ k_ ≠ gb163)) (Kd.R_types (Kd.R_types (Kd.R_apart' (Kd.R_apart' (Kd.R_apart' (Kd.R_apart' (Kd.R_apart' (HO188.out) (Kd.N_typed HO152.out) (by decide)) (Kd.N_typed HO162.out) (by decide)) (Kd.N_typed HO166.out) (by decide)) (Kd.N_typed HO170.out) (by decide)) (Kd.N_typed HO183.out) (by decide)) BK153.out (by decide)) BK163.out (by decide)) (fun k_ hk => ⟨hk.1.1.1.1.1.1.2, ⟨hk.1.1.1.1.1.2, ⟨hk.1.1.1.1.2, ⟨hk.1.1.1.2, ⟨hk.1.1.2, ⟨hk.1.2, hk.2⟩⟩⟩⟩⟩⟩))).2.1 (Kd.R_F (Kd.R_mono (ok' := (fun k_ => some k_ ≠ (.slice Ao22 y150.length co22 : Value).ownBlock ∧ some k_ ≠ (.slice Ao33 y160.length co33 : Value).ownBlock ∧ some k_ ≠ (v165 : Value).ownBlock ∧ some k_ ≠ (v169 : Value).ownBlock ∧ some k_ ≠ (.slice Ao51 y181.length co51 : Value).ownBlock ∧ k_ ≠ gb153 ∧ k_ ≠ gb163)) (Kd.R_types (Kd.R_types (Kd.R_apart' (Kd.R_apart' (Kd.R_apart' (Kd.R_apart' (Kd.R_apart' (HO188.out) (Kd.N_typed HO152.out) (by decide)) (Kd.N_typed HO162.out) (by decide)) (Kd.N_typed HO166.out) (by decide)) (Kd.N_typed HO170.out) (by decide)) (Kd.N_typed HO183.out) (by decide)) BK153.out (by decide)) BK163.out (by decide)) (fun k_ hk => ⟨hk.1.1.1.1.1.1.2, ⟨hk.1.1.1.1.1.2, ⟨hk.1.1.1.1.2, ⟨hk.1.1.1.2, ⟨hk.1.1.2, ⟨hk.1.2, hk.2⟩⟩⟩⟩⟩⟩))))) (Reps.one (show Kd.FK (Kd.slice 3 (Kd.int .i64)) _ _ y189 [.slice Ao61 y189.length co61] from (Kd.FK_slice_mk (Kd.R_reads' (Kd.R_mono (ok' := (fun k_ => some k_ ≠ (.slice Ao22 y150.length co22 : Value).ownBlock ∧ some k_ ≠ (.slice Ao33 y160.length co33 : Value).ownBlock ∧ some k_ ≠ (v165 : Value).ownBlock ∧ some k_ ≠ (v169 : Value).ownBlock ∧ some k_ ≠ (.slice Ao51 y181.length co51 : Value).ownBlock ∧ k_ ≠ gb153 ∧ k_ ≠ gb163)) (Kd.R_types (Kd.R_types (Kd.R_apart' (Kd.R_apart' (Kd.R_apart' (Kd.R_apart' (Kd.R_apart' (HO191.out) (Kd.N_typed HO152.out) (by decide)) (Kd.N_typed HO162.out) (by decide)) (Kd.N_typed HO166.out) (by decide)) (Kd.N_typed HO170.out) (by decide)) (Kd.N_typed HO183.out) (by decide)) BK153.out (by decide)) BK163.out (by decide)) (fun k_ hk => ⟨hk.1.1.1.1.1.1.2, ⟨hk.1.1.1.1.1.2, ⟨hk.1.1.1.1.2, ⟨hk.1.1.1.2, ⟨hk.1.1.2, ⟨hk.1.2, hk.2⟩⟩⟩⟩⟩⟩))).2.1 (Kd.R_F (Kd.R_mono (ok' := (fun k_ => some k_ ≠ (.slice Ao22 y150.length co22 : Value).ownBlock ∧ some k_ ≠ (.slice Ao33 y160.length co33 : Value).ownBlock ∧ some k_ ≠ (v165 : Value).ownBlock ∧ some k_ ≠ (v169 : Value).ownBlock ∧ some k_ ≠ (.slice Ao51 y181.length co51 : Value).ownBlock ∧ k_ ≠ gb153 ∧ k_ ≠ gb163)) (Kd.R_types (Kd.R_types (Kd.R_apart' (Kd.R_apart' (Kd.R_apart' (Kd.R_apart' (Kd.R_apart' (HO191.out) (Kd.N_typed HO152.out) (by decide)) (Kd.N_typed HO162.out) (by decide)) (Kd.N_typed HO166.out) (by decide)) (Kd.N_typed HO170.out) (by decide)) (Kd.N_typed HO183.out) (by decide)) BK153.out (by decide)) BK163.out (by decide)) (fun k_ hk => ⟨hk.1.1.1.1.1.1.2, ⟨hk.1.1.1.1.1.2, ⟨hk.1.1.1.1.2, ⟨hk.1.1.1.2, ⟨hk.1.1.2, ⟨hk.1.2, hk.2⟩⟩⟩⟩⟩⟩))))) (Reps.one (show Kd.FK (Kd.slice 3 (Kd.int .i64)) _ _ y192 [.slice Ao62 y192.length co62] from (Kd.FK_slice_mk (Kd.R_reads' (Kd.R_mono (ok' := (fun k_ => some k_ ≠ (.slice Ao22 y150.length co22 : Value).ownBlock ∧ some k_ ≠ (.slice Ao33 y160.length co33 : Value).ownBlock ∧ some k_ ≠ (v165 : Value).ownBlock ∧ some k_ ≠ (v169 : Value).ownBlock ∧ some k_ ≠ (.slice Ao51 y181.length co51 : Value).ownBlock ∧ k_ ≠ gb153 ∧ k_ ≠ gb163)) (Kd.R_types (Kd.R_types (Kd.R_apart' (Kd.R_apart' (Kd.R_apart' (Kd.R_apart' (Kd.R_apart' (HO194.out) (Kd.N_typed HO152.out) (by decide)) (Kd.N_typed HO162.out) (by decide)) (Kd.N_typed HO166.out) (by decide)) (Kd.N_typed HO170.out) (by decide)) (Kd.N_typed HO183.out) (by decide)) BK153.out (by decide)) BK163.out (by decide)) (fun k_ hk => ⟨hk.1.1.1.1.1.1.2, ⟨hk.1.1.1.1.1.2, ⟨hk.1.1.1.1.2, ⟨hk.1.1.1.2, ⟨hk.1.1.2, ⟨hk.1.2, hk.2⟩⟩⟩⟩⟩⟩))).2.1 (Kd.R_F (Kd.R_mono (ok' := (fun k_ => some k_ ≠ (.slice Ao22 y150.length co22 : Value).ownBlock ∧ some k_ ≠ (.slice Ao33 y160.length co33 : Value).ownBlock ∧ some k_ ≠ (v165 : Value).ownBlock ∧ some k_ ≠ (v169 : Value).ownBlock ∧ some k_ ≠ (.slice Ao51 y181.length co51 : Value).ownBlock ∧ k_ ≠ gb153 ∧ k_ ≠ gb163)) (Kd.R_types (Kd.R_types (Kd.R_apart' (Kd.R_apart' (Kd.R_apart' (Kd.R_apart' (Kd.R_apart' (HO194.out) (Kd.N_typed HO152.out) (by decide)) (Kd.N_typed HO162.out) (by decide)) (Kd.N_typed HO166.out) (by decide)) (Kd.N_typed HO170.out) (by decide)) (Kd.N_typed HO183.out) (by decide)) BK153.out (by decide)) BK163.out (by decide)) (fun k_ hk => ⟨hk.1.1.1.1.1.1.2, ⟨hk.1.1.1.1.1.2, ⟨hk.1.1.1.1.2, ⟨hk.1.1.1.2, ⟨hk.1.1.2, ⟨hk.1.2, hk.2⟩⟩⟩⟩⟩⟩))))) (Reps.none _ _))))); intro v196 w63 ho64 hb hg_ hnew_; clear hg_ hnew_; (first | rw [← Ny195.out] at ho64 | (simp only [Int.reduceToNat] at ho64; rw [← Ny195.out] at ho64)); have n0_ := aM (Kd.N_elder' (by (with_reducible repeat (first | apply Kd.N_alloc | apply Kd.N_drewN | apply Kd.N_drew)); exact HO152.out) (Kd.N_base ho64) hb); have n1_ := aM (Kd.N_elder' (by (with_reducible repeat (first | apply Kd.N_alloc | apply Kd.N_drewN | apply Kd.N_drew)); exact HO162.out) (Kd.N_base ho64) hb); have n2_ := aM (Kd.N_elder' (by (with_reducible repeat (first | apply Kd.N_alloc | apply Kd.N_drewN | apply Kd.N_drew)); exact HO166.out) (Kd.N_base ho64) hb); have n3_ := aM (Kd.N_elder' (by (with_reducible repeat (first | apply Kd.N_alloc | apply Kd.N_drewN | apply Kd.N_drew)); exact HO170.out) (Kd.N_base ho64) hb); have n4_ := aM (Kd.V_elder' (by (with_reducible repeat (first | apply Kd.V_alloc | apply Kd.V_drewN | apply Kd.V_drew)); exact HO174.out) (Kd.N_base ho64) hb); have n5_ := aM (Kd.N_elder' (by (with_reducible repeat (first | apply Kd.N_alloc | apply Kd.N_drewN | apply Kd.N_drew)); exact HO183.out) (Kd.N_base ho64) hb); have n6_ := aM (Kd.N_lower ho64 (below_size (by repeat (first | (with_reducible first | exact HB.out | apply bA | apply bN | apply bD | refine below_set ?_ GE153.out | refine below_set ?_ GE163.out) | exact HB.out)))); have n7_ := aM (blk_below (g := gb153) (o := .cells #[.slice Ao22 y150.length co22] 24 (0, 0)) (by (with_reducible repeat (first | refine kN ?_ _ | refine kD ?_ | refine kA ?_ _)); exact BK153.out) hb); have n8_ := aM (blk_below (g := gb163) (o := .cells #[.slice Ao33 y160.length co33] 24 (0, 0)) (by (with_reducible repeat (first | refine kN ?_ _ | refine kD ?_ | refine kA ?_ _)); exact BK163.out) hb); have n9_ := aM (below_step (by repeat (first | (with_reducible first | exact HB.out | apply bA | apply bN | apply bD | refine below_set ?_ GE153.out | refine below_set ?_ GE163.out) | exact HB.out)) hb); clear HO152; clear HO162; clear HO166; clear HO170; clear HO174; clear HO183; clear BK153; clear BK163; clear HB; clear HO188; clear HO191; clear HO194; have HO152 := n0_; have HO162 := n1_; have HO166 := n2_; have HO170 := n3_; have HO174 := n4_; have HO183 := n5_; have HO197 := n6_; have BK153 := n7_; have BK163 := n8_; have HB := n9_; clear n0_ n1_ n2_ n3_ n4_ n5_ n6_ n7_ n8_ n9_; clear hb ho64; obtain ⟨Ao65, co65, eo65⟩ := Kd.N_slice HO166.out; subst eo65; obtain ⟨Ao66, co66, eo66⟩ := Kd.N_slice HO197.out; subst eo66) | (go_at_call 11; (with_reducible refine (lazycref09_Same.calls k _ _ t164 _ _ y195 true _ ?side1 ?side2 ?side3 ?side4 A9.out).mono ?_); (case side1 => repeat (first | exact (Kd.N_reads' HO166.out).2.2 | (with_reducible refine Kd.C_alloc ?_ _) | (with_reducible refine Kd.C_drewN ?_ _) | (with_reducible refine Kd.C_drew ?_))); (case side2 => exact (Kd.N_reads' HO166.out).2.1); (case side3 => repeat (first | exact (Kd.N_reads' HO197.out).2.2 | (with_reducible refine Kd.C_alloc ?_ _) | (with_reducible refine Kd.C_drewN ?_ _) | (with_reducible refine Kd.C_drew ?_))); (case side4 => exact (Kd.N_reads' HO197.out).2.1); rintro e w' ⟨rfl, ⟨nd, rfl⟩⟩))
  go_ret
  exact ⟨by first | rfl | (simp [errW_none, errW_some] <;> rfl) | (simp [*, errW_none, errW_some] <;> rfl), by repeat (first | (with_reducible first | exact HB.out | apply bA | apply bN | apply bD | refine below_set ?_ GE153.out | refine below_set ?_ GE163.out) | exact HB.out)⟩
def lazyclaw09_example.f : Option Bool := some true
theorem lazyclaw09_example.calls (r : Bool) (w : World) (h : lazyclaw09_example.f = some r) : Calls Try.prog 10 #[] w fun e w' => e = .returned (.bool r) ∧ Below w.heap.size w w' := by
  obtain rfl : true = r := Option.some.inj h
  exact example_walk 40 w _ _ _ _ _ _ _ _ _ _ _ _ _ _ _ _ _ _ _ rfl rfl rfl rfl rfl rfl rfl rfl rfl rfl rfl rfl rfl rfl lev_b lev_a comp_a same_a cyc_a rfl same_b
end Go.Proofs.Ytpmjpngmmphkmaa.P
namespace Go.Proofs.Ytpmjpngmmphkmaa.P
open Go.RowKit Go.Proofs.YtpmjpngmmphkmaaW.PrintWords Go.Proofs.YtpmjpngmmphkmaaW.PrintLast Go.Proofs.YtpmjpngmmphkmaaW.PrintMore
attribute [local go_sem] max2_int min2_int max_two min_two max_three min_three max_four min_four   -- for this text's walks alone
set_option linter.unusedVariables false
set_option linter.unusedSimpArgs false

/-! ### lazyclaw09_GraphComponents: function 3 -/
noncomputable def lazyclaw09_GraphComponents.f (k : Nat) (l0_0 : List (List Int)) : Option (Bool) := (lazyclaw09_small.f k l0_0).bind fun t245 => (if t245 = true then ((graph_Components.f k l0_0).bind fun t247 => ((lazycref09_Components.f k l0_0).bind fun t250 => ((lazycref09_Same.f k t247 t250).bind fun t253 => (if t253 = true then ((lazyclaw09_example.f).bind fun t254 => (some t254)) else (some false))))) else ((lazyclaw09_example.f).bind fun t246 => (some t246)))
theorem lazyclaw09_GraphComponents.mono : ∀ a0 k, LeO (lazyclaw09_GraphComponents.f k a0) (lazyclaw09_GraphComponents.f (k + 1) a0) := by
  intro a0 k
  unfold lazyclaw09_GraphComponents.f
  repeat' first
      | (with_reducible exact graph_Components.mono _ _)
      | (with_reducible exact lazyclaw09_small.mono _ _)
      | (with_reducible exact lazycref09_Components.mono _ _)
      | (with_reducible exact lazycref09_Same.mono _ _ _)
      | (with_reducible exact LeO.refl _)
      | (with_reducible exact LeO.none _)
      | (with_reducible refine LeO.ite ?_ ?_)
      | (with_reducible refine LeO.bind ?_ (fun _ => ?_))
      | exact graph_Components.mono _ _
      | exact lazyclaw09_small.mono _ _
      | exact lazycref09_Components.mono _ _
      | exact lazycref09_Same.mono _ _ _
      | exact LeO.none _
      | refine LeO.ite ?_ ?_
      | refine LeO.bind ?_ (fun _ => ?_)
noncomputable def lazyclaw09_GraphComponents.T3 : Bool × List (List Nat × List Nat) := (true, [([], []), ([0], [0]), ([], []), ([2, 1], [2]), ([1, 3, 3], [1, 3]), ([4, 4], [4]), ([5, 5], [5]), ([5, 6], [5, 6]), ([7, 6, 0, 1, 2, 3, 4, 5, 6, 7], [7])])
noncomputable def lazyclaw09_GraphComponents.B3 : List Nat := [0, 1, 0, 7, 15, 31, 63, 127, 255]
theorem lazyclaw09_GraphComponents.tab3 : rtab .any (opsOf Try.f3 3) = lazyclaw09_GraphComponents.T3 := by kernel_rfl
theorem lazyclaw09_GraphComponents.bits3 : waitsOk lazyclaw09_GraphComponents.T3.2 lazyclaw09_GraphComponents.B3 = true := by kernel_rfl
set_option maxHeartbeats 8000000 in
set_option maxRecDepth 100000 in
theorem lazyclaw09_GraphComponents.calls (k : Nat) (A0_0 : Option Addr) (c0_0 : Nat) (l0_0 : List (List Int)) (r : Bool) (w : World) (hr0_0 : Kd.C (Kd.slice 3 (Kd.int .i64)) w A0_0 l0_0.length l0_0) (hc0_0 : l0_0.length ≤ c0_0) (h : lazyclaw09_GraphComponents.f k l0_0 = some r) :
    Calls Try.prog 3 #[.agg #[.slice A0_0 l0_0.length c0_0]] w fun e w' => e = .returned (.bool r) ∧ Below w.heap.size w w' := by
  have hu24 := Try.underlying24
  have HR0_0 := aM hr0_0
  have HC0_0 := aM hc0_0
  clear hr0_0 hc0_0
  have HB := aM (Below.refl w.heap.size w)
  have H : ((lazyclaw09_small.f k l0_0).bind fun t245 => (if t245 = true then ((graph_Components.f k l0_0).bind fun t247 => ((lazycref09_Components.f k l0_0).bind fun t250 => ((lazycref09_Same.f k t247 t250).bind fun t253 => (if t253 = true then ((lazyclaw09_example.f).bind fun t254 => (some t254)) else (some false))))) else ((lazyclaw09_example.f).bind fun t246 => (some t246)))) = some r := h
  clear h
  replace H := Option.bind_eq_some_iff.mp H
  obtain ⟨t245, A20, H⟩ := H
  replace H : (if t245 = true then ((graph_Components.f k l0_0).bind fun t247 => ((lazycref09_Components.f k l0_0).bind fun t250 => ((lazycref09_Same.f k t247 t250).bind fun t253 => (if t253 = true then ((lazyclaw09_example.f).bind fun t254 => (some t254)) else (some false))))) else ((lazyclaw09_example.f).bind fun t246 => (some t246))) = some r := H
  have A2 := aM A20
  clear A20
  by_cases c3 : t245 = true
  · subst c3
    have H1 : ((graph_Components.f k l0_0).bind fun t247 => ((lazycref09_Components.f k l0_0).bind fun t250 => ((lazycref09_Same.f k t247 t250).bind fun t253 => (if t253 = true then ((lazyclaw09_example.f).bind fun t254 => (some t254)) else (some false))))) = some r := by rw [if_pos rfl] at H; exact H
    clear H
    have H := H1
    clear H1
    replace H := Option.bind_eq_some_iff.mp H
    obtain ⟨t247, A40, H⟩ := H
    replace H : ((lazycref09_Components.f k l0_0).bind fun t250 => ((lazycref09_Same.f k t247 t250).bind fun t253 => (if t253 = true then ((lazyclaw09_example.f).bind fun t254 => (some t254)) else (some false)))) = some r := H
    have A4 := aM A40
    clear A40
    replace H := Option.bind_eq_some_iff.mp H
    obtain ⟨t250, A50, H⟩ := H
    replace H : ((lazycref09_Same.f k t247 t250).bind fun t253 => (if t253 = true then ((lazyclaw09_example.f).bind fun t254 => (some t254)) else (some false))) = some r := H
    have A5 := aM A50
    clear A50
    replace H := Option.bind_eq_some_iff.mp H
    obtain ⟨t253, A60, H⟩ := H
    replace H : (if t253 = true then ((lazyclaw09_example.f).bind fun t254 => (some t254)) else (some false)) = some r := H
    have A6 := aM A60
    clear A60
    by_cases c7 : t253 = true
    · subst c7
      have H1 : ((lazyclaw09_example.f).bind fun t254 => (some t254)) = some r := by rw [if_pos rfl] at H; exact H
      clear H
      have H := H1
      clear H1
      replace H := Option.bind_eq_some_iff.mp H
      obtain ⟨t254, A80, H⟩ := H
      replace H : (some t254) = some r := H
      have A8 := aM A80
      clear A80
      obtain rfl := Option.some.inj H
      go_enter Try.func3, Try.ntmps3
      try go_wp2_with (first | ((with_reducible refine gate_dst (N := 1) rfl ?_); refine box_event ?hg (N := 1) ?hd (cs := #[.slice A0_0 l0_0.length c0_0]) (t := 24) ?hr ?_; (case hd => rfl); (case hg => rfl); (case hr => first | (go_simp; done) | (go_simp; rfl)); intro gb244 hg w9 hbox hb; have n0_ := aM (below_step (by repeat (first | (with_reducible first | exact HB.out | apply bA | apply bN | apply bD) | exact HB.out)) hb); have n1_ := aM (hbox); have n2_ := aM ((by rw [hg]; exact (below_size (by repeat (first | (with_reducible first | exact HB.out | apply bA | apply bN | apply bD) | exact HB.out))) : w.heap.size ≤ gb244)); have n3_ := aM ((by rw [hg]; exact (below_size (by repeat (first | (with_reducible first | exact HB.out | apply bA | apply bN | apply bD) | exact HB.out))) : w.heap.size ≤ gb244)); clear HB; have HB := n0_; have BK244 := n1_; have GW244 := n2_; have GE244 := n3_; clear n0_ n1_ n2_ n3_; clear hb hbox hg; have hcz10_0 : w9.cell? ⟨gb244, 0, none⟩ = some (.slice A0_0 l0_0.length c0_0) := (blk_cell BK244.out 0).trans rfl; have hfz10_0 := blk_frozen BK244.out 0) | ((with_reducible refine gate_callee (f := 9) rfl ?_); refine goesL_ (some 4) rfl rfl Try.func9 (by kernel_rfl) rfl #[.agg #[.slice A0_0 l0_0.length c0_0]] rfl (by (try simp only [List.map_toArray, List.map_cons, List.map_nil]); first | done | rfl | (simp only [List.length_drop, List.length_take]; rfl)) ?_; (with_reducible refine (lazyclaw09_small.calls k _ _ l0_0 true _ ?side1 ?side2 A2.out).mono ?_); (case side1 => repeat (first | exact (Kd.C_below HR0_0.out HB.out) | (with_reducible refine Kd.C_alloc ?_ _) | (with_reducible refine Kd.C_drewN ?_ _) | (with_reducible refine Kd.C_drew ?_))); (case side2 => exact HC0_0.out); rintro e w11 ⟨rfl, hb⟩; refine ⟨_, rfl, ?_⟩; have n0_ := aM (blk_below (g := gb244) (o := .cells #[.slice A0_0 l0_0.length c0_0] 24 (0, 0)) (by (with_reducible repeat (first | refine kN ?_ _ | refine kD ?_ | refine kA ?_ _)); exact BK244.out) hb); have n1_ := aM (below_step (by repeat (first | (with_reducible first | exact HB.out | apply bA | apply bN | apply bD | refine below_set ?_ GE244.out) | exact HB.out)) hb); clear BK244; clear HB; have BK244 := n0_; have HB := n1_; clear n0_ n1_; (try clear hb); (try clear hb2); (try clear hk); (try clear hi)))
      have n0_ := aM (blk_drew BK244.out)
      have n1_ := aM (below_drew1 HB.out)
      clear BK244
      clear HB
      have BK244 := n0_
      have HB := n1_
      clear n0_ n1_
      refine start_ (n := 9) (S := fun w' => w'.cell? ⟨gb244, 0, none⟩ = some (.slice A0_0 l0_0.length c0_0)) (ds := []) #[false, false, false, false, false, false, false, false, false] (by kernel_rfl) rfl rfl ((blk_cell BK244.out 0).trans rfl) (fun hHeld => ?_); refine with_tabW lazyclaw09_GraphComponents.tab3 lazyclaw09_GraphComponents.bits3 (fun HT_ HW_ => ?_)
      generalize w11.drew = w12 at BK244 HB hHeld ⊢
      refine take_ (i := 0) (N := some 7) (v := ?_) (a' := ?_) #[true, false, false, false, false, false, false, false, false] rfl rfl (take_ofW HT_.out HW_.out (by kernel_rfl)) (fun _ _ _ h => h) (Or.inl ⟨by rfl, ?_⟩) hHeld ?_ ?_
      rotate_left
      · intro w' s0
        go_simp
        with_reducible rfl
      rotate_left
      · simp only [Act.put, List.setIfInBounds_toArray, List.set_cons_zero, List.set_cons_succ, i64_w, i32_w]
        rfl
      refine take_ (i := 2) (N := some 9) (v := ?_) (a' := ?_) #[true, false, true, false, false, false, false, false, false] rfl rfl (take_ofW HT_.out HW_.out (by kernel_rfl)) (fun _ _ _ h => h) (Or.inl ⟨by rfl, ?_⟩) hHeld ?_ ?_
      rotate_left
      · intro w' s0
        go_simp
        with_reducible rfl
      rotate_left
      · simp only [Act.put, List.setIfInBounds_toArray, List.set_cons_zero, List.set_cons_succ, i64_w, i32_w]
        rfl
      refine one_ (i := 1) (N := some 8) #[true, true, true, false, false, false, false, false, false] rfl rfl (one_of HT_.out (by kernel_rfl)) (by decide) (fun K hK => ?_)
      refine goes_ Try.func12 (by kernel_rfl) rfl #[.agg #[.slice A0_0 l0_0.length c0_0]] (by rfl) rfl rfl (by (try simp only [List.map_toArray, List.map_cons, List.map_nil]); first | done | rfl | (simp only [List.length_drop, List.length_take]; rfl)) ?_
      with_reducible refine (graph_Components.calls k _ _ l0_0 t247 _ ?side1 ?side2 A4.out).mono ?_
      (case side1 => repeat (first | exact (Kd.C_below HR0_0.out HB.out) | (with_reducible refine Kd.C_alloc ?_ _) | (with_reducible refine Kd.C_drewN ?_ _) | (with_reducible refine Kd.C_drew ?_)))
      (case side2 => exact HC0_0.out)
      rintro e w13 ⟨v248, rfl, ho0, hb⟩
      refine ⟨_, rfl, ?_⟩
      have n0_ := aM (Kd.V_lower (Kd.V_mono (ok' := fun k_ => k_ ≠ gb244) ho0 (fun k_ hk_ => (Kd.freshB (g := gb244) (o := .cells #[.slice A0_0 l0_0.length c0_0] 24 (0, 0)) (by (with_reducible repeat (first | refine kN ?_ _ | refine kD ?_ | refine kA ?_ _)); exact BK244.out) k_ hk_))) (below_size (by repeat (first | (with_reducible first | exact HB.out | apply bA | apply bN | apply bD | refine below_set ?_ GE244.out) | exact HB.out))))
      have n1_ := aM (blk_below (g := gb244) (o := .cells #[.slice A0_0 l0_0.length c0_0] 24 (0, 0)) (by (with_reducible repeat (first | refine kN ?_ _ | refine kD ?_ | refine kA ?_ _)); exact BK244.out) hb)
      have n2_ := aM (below_step (by repeat (first | (with_reducible first | exact HB.out | apply bA | apply bN | apply bD | refine below_set ?_ GE244.out) | exact HB.out)) hb)
      clear BK244
      clear HB
      have HO249 := n0_
      have BK244 := n1_
      have HB := n2_
      clear n0_ n1_ n2_
      (try clear hb)
      (try clear hb2)
      (try clear hk)
      (try clear hi)
      (try clear ho0)
      refine hK.out _ _ ((blk_cell BK244.out 0).trans rfl) (fun hHeld => ?_)
      clear hK K
      refine norm_ (a' := ?_) ?_ ?_
      rotate_left
      · show Act.put _ (some 8) _ = _
        simp only [Act.put, List.setIfInBounds_toArray, List.set_cons_zero, List.set_cons_succ, i64_w, i32_w]
        rfl
      refine one_ (i := 3) (N := some 10) #[true, true, true, true, false, false, false, false, false] rfl rfl (one_of HT_.out (by kernel_rfl)) (by decide) (fun K hK => ?_)
      refine goes_ Try.func13 (by kernel_rfl) rfl #[.agg #[.slice A0_0 l0_0.length c0_0]] (by rfl) rfl rfl (by (try simp only [List.map_toArray, List.map_cons, List.map_nil]); first | done | rfl | (simp only [List.length_drop, List.length_take]; rfl)) ?_
      with_reducible refine (lazycref09_Components.calls k _ _ l0_0 t250 _ ?side1 ?side2 A5.out).mono ?_
      (case side1 => repeat (first | exact (Kd.C_below HR0_0.out HB.out) | (with_reducible refine Kd.C_alloc ?_ _) | (with_reducible refine Kd.C_drewN ?_ _) | (with_reducible refine Kd.C_drew ?_)))
      (case side2 => exact HC0_0.out)
      rintro e w14 ⟨v251, rfl, ho0, hb⟩
      refine ⟨_, rfl, ?_⟩
      have n0_ := aM (Kd.V_elder' (by (with_reducible repeat (first | apply Kd.V_alloc | apply Kd.V_drewN | apply Kd.V_drew)); exact HO249.out) (by first | exact Kd.N_base ho0 | exact Kd.S_base ho0) hb)
      have n1_ := aM (Kd.N_lower (Kd.N_mono (ok' := fun k_ => k_ ≠ gb244) ho0 (fun k_ hk_ => (Kd.freshB (g := gb244) (o := .cells #[.slice A0_0 l0_0.length c0_0] 24 (0, 0)) (by (with_reducible repeat (first | refine kN ?_ _ | refine kD ?_ | refine kA ?_ _)); exact BK244.out) k_ hk_))) (below_size (by repeat (first | (with_reducible first | exact HB.out | apply bA | apply bN | apply bD | refine below_set ?_ GE244.out) | exact HB.out))))
      have n2_ := aM (blk_below (g := gb244) (o := .cells #[.slice A0_0 l0_0.length c0_0] 24 (0, 0)) (by (with_reducible repeat (first | refine kN ?_ _ | refine kD ?_ | refine kA ?_ _)); exact BK244.out) hb)
      have n3_ := aM (below_step (by repeat (first | (with_reducible first | exact HB.out | apply bA | apply bN | apply bD | refine below_set ?_ GE244.out) | exact HB.out)) hb)
      clear HO249
      clear BK244
      clear HB
      have HO249 := n0_
      have HO252 := n1_
      have BK244 := n2_
      have HB := n3_
      clear n0_ n1_ n2_ n3_
      (try clear hb)
      (try clear hb2)
      (try clear hk)
      (try clear hi)
      (try clear ho0)
      obtain ⟨Ao15, co15, eo15⟩ := Kd.V_slice HO249.out
      (first | subst eo15 | (injection eo15 with f1_ f2_ f3_; have f4_ := f1_.symm; have f5_ := f3_.symm; clear f1_ f2_ f3_; subst f4_; subst f5_))
      obtain ⟨Ao16, co16, eo16⟩ := Kd.N_slice HO252.out
      (first | subst eo16 | (injection eo16 with f1_ f2_ f3_; have f4_ := f1_.symm; have f5_ := f3_.symm; clear f1_ f2_ f3_; subst f4_; subst f5_))
      refine hK.out _ _ ((blk_cell BK244.out 0).trans rfl) (fun hHeld => ?_)
      clear hK K
      refine norm_ (a' := ?_) ?_ ?_
      rotate_left
      · show Act.put _ (some 10) _ = _
        simp only [Act.put, List.setIfInBounds_toArray, List.set_cons_zero, List.set_cons_succ, i64_w, i32_w]
        rfl
      refine one_ (i := 4) (N := some 11) #[true, true, true, true, true, false, false, false, false] rfl rfl (one_of HT_.out (by kernel_rfl)) (by decide) (fun K hK => ?_)
      refine goes_ Try.func11 (by kernel_rfl) rfl #[.slice Ao15 t247.length co15, .slice Ao16 t250.length co16] (by rfl) rfl rfl (by (try simp only [List.map_toArray, List.map_cons, List.map_nil]); first | done | rfl | (simp only [List.length_drop, List.length_take]; rfl)) ?_
      with_reducible refine (lazycref09_Same.calls k _ _ t247 _ _ t250 true _ ?side1 ?side2 ?side3 ?side4 A6.out).mono ?_
      (case side1 => repeat (first | exact (Kd.V_reads' HO249.out).2.2 | (with_reducible refine Kd.C_alloc ?_ _) | (with_reducible refine Kd.C_drewN ?_ _) | (with_reducible refine Kd.C_drew ?_)))
      (case side2 => exact (Kd.V_reads' HO249.out).2.1)
      (case side3 => repeat (first | exact (Kd.N_reads' HO252.out).2.2 | (with_reducible refine Kd.C_alloc ?_ _) | (with_reducible refine Kd.C_drewN ?_ _) | (with_reducible refine Kd.C_drew ?_)))
      (case side4 => exact (Kd.N_reads' HO252.out).2.1)
      rintro e w' ⟨rfl, ⟨nd, rfl⟩⟩
      refine ⟨_, rfl, ?_⟩
      refine hK.out _ _ ((blk_cell BK244.out 0).trans rfl) (fun hHeld => ?_)
      clear hK K
      refine norm_ (a' := ?_) ?_ ?_
      rotate_left
      · show Act.put _ (some 11) _ = _
        simp only [Act.put, List.setIfInBounds_toArray, List.set_cons_zero, List.set_cons_succ, i64_w, i32_w]
        rfl
      refine pure_ (i := 5) (N := some 12) (v := ?_) (a' := ?_) #[true, true, true, true, true, true, false, false, false] rfl rfl (any_of HT_.out (by kernel_rfl)) (fun _ _ _ h => h) (Or.inl ⟨by rfl, ?_⟩) ?_ ?_
      rotate_left
      · intro w'
        go_simp
        with_reducible rfl
      rotate_left
      · simp only [Act.put, List.setIfInBounds_toArray, List.set_cons_zero, List.set_cons_succ, i64_w, i32_w]
        rfl
      refine one_ (i := 6) (N := some 13) #[true, true, true, true, true, true, true, false, false] rfl rfl (one_of HT_.out (by kernel_rfl)) (by decide) (fun K hK => ?_)
      refine goes_ Try.func10 (by kernel_rfl) rfl #[] (by rfl) rfl rfl (by (try simp only [List.map_toArray, List.map_cons, List.map_nil]); first | done | rfl | (simp only [List.length_drop, List.length_take]; rfl)) ?_
      with_reducible refine (lazyclaw09_example.calls  t254 _ A8.out).mono ?_
      rintro e w17 ⟨rfl, hb⟩
      refine ⟨_, rfl, ?_⟩
      have n0_ := aM (Kd.V_below (by (with_reducible repeat (first | apply Kd.V_alloc | apply Kd.V_drewN | apply Kd.V_drew)); exact HO249.out) hb)
      have n1_ := aM (Kd.N_below (by (with_reducible repeat (first | apply Kd.N_alloc | apply Kd.N_drewN | apply Kd.N_drew)); exact HO252.out) hb)
      have n2_ := aM (blk_below (g := gb244) (o := .cells #[.slice A0_0 l0_0.length c0_0] 24 (0, 0)) (by (with_reducible repeat (first | refine kN ?_ _ | refine kD ?_ | refine kA ?_ _)); exact BK244.out) hb)
      have n3_ := aM (below_step (by repeat (first | (with_reducible first | exact HB.out | apply bA | apply bN | apply bD | refine below_set ?_ GE244.out) | exact HB.out)) hb)
      clear HO249
      clear HO252
      clear BK244
      clear HB
      have HO249 := n0_
      have HO252 := n1_
      have BK244 := n2_
      have HB := n3_
      clear n0_ n1_ n2_ n3_
      (try clear hb)
      (try clear hb2)
      (try clear hk)
      (try clear hi)
      refine hK.out _ _ ((blk_cell BK244.out 0).trans rfl) (fun hHeld => ?_)
      clear hK K
      refine norm_ (a' := ?_) ?_ ?_
      rotate_left
      · show Act.put _ (some 13) _ = _
        simp only [Act.put, List.setIfInBounds_toArray, List.set_cons_zero, List.set_cons_succ, i64_w, i32_w]
        rfl
      refine pure_ (i := 7) (N := some 14) (v := ?_) (a' := ?_) #[true, true, true, true, true, true, true, true, false] rfl rfl (any_of HT_.out (by kernel_rfl)) (fun _ _ _ h => h) (Or.inl ⟨by rfl, ?_⟩) ?_ ?_
      rotate_left
      · intro w'
        go_simp
        with_reducible rfl
      rotate_left
      · simp only [Act.put, List.setIfInBounds_toArray, List.set_cons_zero, List.set_cons_succ, i64_w, i32_w]
        rfl
      refine pure_ (i := 8) (N := some 2) (v := ?_) (a' := ?_) #[true, true, true, true, true, true, true, true, true] rfl rfl (any_of HT_.out (by kernel_rfl)) (fun _ _ _ h => h) (Or.inl ⟨by rfl, ?_⟩) ?_ ?_
      rotate_left
      · intro w'
        go_simp
        with_reducible rfl
      rotate_left
      · simp only [Act.put, List.setIfInBounds_toArray, List.set_cons_zero, List.set_cons_succ, i64_w, i32_w]
        rfl
      refine done_ (done_of HT_.out (by kernel_rfl)) ?_
      try go_wp2
      go_ret
      exact ⟨by first | rfl | (simp [errW_none, errW_some] <;> rfl) | (simp [*, errW_none, errW_some] <;> rfl), by repeat (first | (with_reducible first | exact HB.out | apply bA | apply bN | apply bD | refine below_set ?_ GE244.out) | exact HB.out)⟩
    · replace c7 := Bool.eq_false_iff.mpr c7
      subst c7
      have H1 : (some false) = some r := by rw [if_neg (show ¬ (false = true) by decide)] at H; exact H
      clear H
      have H := H1
      clear H1
      obtain rfl := Option.some.inj H
      go_enter Try.func3, Try.ntmps3
      try go_wp2_with (first | ((with_reducible refine gate_dst (N := 1) rfl ?_); refine box_event ?hg (N := 1) ?hd (cs := #[.slice A0_0 l0_0.length c0_0]) (t := 24) ?hr ?_; (case hd => rfl); (case hg => rfl); (case hr => first | (go_simp; done) | (go_simp; rfl)); intro gb244 hg w18 hbox hb; have n0_ := aM (below_step (by repeat (first | (with_reducible first | exact HB.out | apply bA | apply bN | apply bD) | exact HB.out)) hb); have n1_ := aM (hbox); have n2_ := aM ((by rw [hg]; exact (below_size (by repeat (first | (with_reducible first | exact HB.out | apply bA | apply bN | apply bD) | exact HB.out))) : w.heap.size ≤ gb244)); have n3_ := aM ((by rw [hg]; exact (below_size (by repeat (first | (with_reducible first | exact HB.out | apply bA | apply bN | apply bD) | exact HB.out))) : w.heap.size ≤ gb244)); clear HB; have HB := n0_; have BK244 := n1_; have GW244 := n2_; have GE244 := n3_; clear n0_ n1_ n2_ n3_; clear hb hbox hg; have hcz19_0 : w18.cell? ⟨gb244, 0, none⟩ = some (.slice A0_0 l0_0.length c0_0) := (blk_cell BK244.out 0).trans rfl; have hfz19_0 := blk_frozen BK244.out 0) | ((with_reducible refine gate_callee (f := 9) rfl ?_); refine goesL_ (some 4) rfl rfl Try.func9 (by kernel_rfl) rfl #[.agg #[.slice A0_0 l0_0.length c0_0]] rfl (by (try simp only [List.map_toArray, List.map_cons, List.map_nil]); first | done | rfl | (simp only [List.length_drop, List.length_take]; rfl)) ?_; (with_reducible refine (lazyclaw09_small.calls k _ _ l0_0 true _ ?side1 ?side2 A2.out).mono ?_); (case side1 => repeat (first | exact (Kd.C_below HR0_0.out HB.out) | (with_reducible refine Kd.C_alloc ?_ _) | (with_reducible refine Kd.C_drewN ?_ _) | (with_reducible refine Kd.C_drew ?_))); (case side2 => exact HC0_0.out); rintro e w20 ⟨rfl, hb⟩; refine ⟨_, rfl, ?_⟩; have n0_ := aM (blk_below (g := gb244) (o := .cells #[.slice A0_0 l0_0.length c0_0] 24 (0, 0)) (by (with_reducible repeat (first | refine kN ?_ _ | refine kD ?_ | refine kA ?_ _)); exact BK244.out) hb); have n1_ := aM (below_step (by repeat (first | (with_reducible first | exact HB.out | apply bA | apply bN | apply bD | refine below_set ?_ GE244.out) | exact HB.out)) hb); clear BK244; clear HB; have BK244 := n0_; have HB := n1_; clear n0_ n1_; (try clear hb); (try clear hb2); (try clear hk); (try clear hi)))
      have n0_ := aM (blk_drew BK244.out)
      have n1_ := aM (below_drew1 HB.out)
      clear BK244
      clear HB
      have BK244 := n0_
      have HB := n1_
      clear n0_ n1_
      refine start_ (n := 9) (S := fun w' => w'.cell? ⟨gb244, 0, none⟩ = some (.slice A0_0 l0_0.length c0_0)) (ds := []) #[false, false, false, false, false, false, false, false, false] (by kernel_rfl) rfl rfl ((blk_cell BK244.out 0).trans rfl) (fun hHeld => ?_); refine with_tabW lazyclaw09_GraphComponents.tab3 lazyclaw09_GraphComponents.bits3 (fun HT_ HW_ => ?_)
      generalize w20.drew = w21 at BK244 HB hHeld ⊢
      refine take_ (i := 0) (N := some 7) (v := ?_) (a' := ?_) #[true, false, false, false, false, false, false, false, false] rfl rfl (take_ofW HT_.out HW_.out (by kernel_rfl)) (fun _ _ _ h => h) (Or.inl ⟨by rfl, ?_⟩) hHeld ?_ ?_
      rotate_left
      · intro w' s0
        go_simp
        with_reducible rfl
      rotate_left
      · simp only [Act.put, List.setIfInBounds_toArray, List.set_cons_zero, List.set_cons_succ, i64_w, i32_w]
        rfl
      refine take_ (i := 2) (N := some 9) (v := ?_) (a' := ?_) #[true, false, true, false, false, false, false, false, false] rfl rfl (take_ofW HT_.out HW_.out (by kernel_rfl)) (fun _ _ _ h => h) (Or.inl ⟨by rfl, ?_⟩) hHeld ?_ ?_
      rotate_left
      · intro w' s0
        go_simp
        with_reducible rfl
      rotate_left
      · simp only [Act.put, List.setIfInBounds_toArray, List.set_cons_zero, List.set_cons_succ, i64_w, i32_w]
        rfl
      refine one_ (i := 1) (N := some 8) #[true, true, true, false, false, false, false, false, false] rfl rfl (one_of HT_.out (by kernel_rfl)) (by decide) (fun K hK => ?_)
      refine goes_ Try.func12 (by kernel_rfl) rfl #[.agg #[.slice A0_0 l0_0.length c0_0]] (by rfl) rfl rfl (by (try simp only [List.map_toArray, List.map_cons, List.map_nil]); first | done | rfl | (simp only [List.length_drop, List.length_take]; rfl)) ?_
      with_reducible refine (graph_Components.calls k _ _ l0_0 t247 _ ?side1 ?side2 A4.out).mono ?_
      (case side1 => repeat (first | exact (Kd.C_below HR0_0.out HB.out) | (with_reducible refine Kd.C_alloc ?_ _) | (with_reducible refine Kd.C_drewN ?_ _) | (with_reducible refine Kd.C_drew ?_)))
      (case side2 => exact HC0_0.out)
      rintro e w22 ⟨v248, rfl, ho0, hb⟩
      refine ⟨_, rfl, ?_⟩
      have n0_ := aM (Kd.V_lower (Kd.V_mono (ok' := fun k_ => k_ ≠ gb244) ho0 (fun k_ hk_ => (Kd.freshB (g := gb244) (o := .cells #[.slice A0_0 l0_0.length c0_0] 24 (0, 0)) (by (with_reducible repeat (first | refine kN ?_ _ | refine kD ?_ | refine kA ?_ _)); exact BK244.out) k_ hk_))) (below_size (by repeat (first | (with_reducible first | exact HB.out | apply bA | apply bN | apply bD | refine below_set ?_ GE244.out) | exact HB.out))))
      have n1_ := aM (blk_below (g := gb244) (o := .cells #[.slice A0_0 l0_0.length c0_0] 24 (0, 0)) (by (with_reducible repeat (first | refine kN ?_ _ | refine kD ?_ | refine kA ?_ _)); exact BK244.out) hb)
      have n2_ := aM (below_step (by repeat (first | (with_reducible first | exact HB.out | apply bA | apply bN | apply bD | refine below_set ?_ GE244.out) | exact HB.out)) hb)
      clear BK244
      clear HB
      have HO249 := n0_
      have BK244 := n1_
      have HB := n2_
      clear n0_ n1_ n2_
      (try clear hb)
      (try clear hb2)
      (try clear hk)
      (try clear hi)
      (try clear ho0)
      refine hK.out _ _ ((blk_cell BK244.out 0).trans rfl) (fun hHeld => ?_)
      clear hK K
      refine norm_ (a' := ?_) ?_ ?_
      rotate_left
      · show Act.put _ (some 8) _ = _
        simp only [Act.put, List.setIfInBounds_toArray, List.set_cons_zero, List.set_cons_succ, i64_w, i32_w]
        rfl
      refine one_ (i := 3) (N := some 10) #[true, true, true, true, false, false, false, false, false] rfl rfl (one_of HT_.out (by kernel_rfl)) (by decide) (fun K hK => ?_)
      refine goes_ Try.func13 (by kernel_rfl) rfl #[.agg #[.slice A0_0 l0_0.length c0_0]] (by rfl) rfl rfl (by (try simp only [List.map_toArray, List.map_cons, List.map_nil]); first | done | rfl | (simp only [List.length_drop, List.length_take]; rfl)) ?_
      with_reducible refine (lazycref09_Components.calls k _ _ l0_0 t250 _ ?side1 ?side2 A5.out).mono ?_
      (case side1 => repeat (first | exact (Kd.C_below HR0_0.out HB.out) | (with_reducible refine Kd.C_alloc ?_ _) | (with_reducible refine Kd.C_drewN ?_ _) | (with_reducible refine Kd.C_drew ?_)))
      (case side2 => exact HC0_0.out)
      rintro e w23 ⟨v251, rfl, ho0, hb⟩
      refine ⟨_, rfl, ?_⟩
      have n0_ := aM (Kd.V_elder' (by (with_reducible repeat (first | apply Kd.V_alloc | apply Kd.V_drewN | apply Kd.V_drew)); exact HO249.out) (by first | exact Kd.N_base ho0 | exact Kd.S_base ho0) hb)
      have n1_ := aM (Kd.N_lower (Kd.N_mono (ok' := fun k_ => k_ ≠ gb244) ho0 (fun k_ hk_ => (Kd.freshB (g := gb244) (o := .cells #[.slice A0_0 l0_0.length c0_0] 24 (0, 0)) (by (with_reducible repeat (first | refine kN ?_ _ | refine kD ?_ | refine kA ?_ _)); exact BK244.out) k_ hk_))) (below_size (by repeat (first | (with_reducible first | exact HB.out | apply bA | apply bN | apply bD | refine below_set ?_ GE244.out) | exact HB.out))))
      have n2_ := aM (blk_below (g := gb244) (o := .cells #[.slice A0_0 l0_0.length c0_0] 24 (0, 0)) (by (with_reducible repeat (first | refine kN ?_ _ | refine kD ?_ | refine kA ?_ _)); exact BK244.out) hb)
      have n3_ := aM (below_step (by repeat (first | (with_reducible first | exact HB.out | apply bA | apply bN | apply bD | refine below_set ?_ GE244.out) | exact HB.out)) hb)
      clear HO249
      clear BK244
      clear HB
      have HO249 := n0_
      have HO252 := n1_
      have BK244 := n2_
      have HB := n3_
      clear n0_ n1_ n2_ n3_
      (try clear hb)
      (try clear hb2)
      (try clear hk)
      (try clear hi)
      (try clear ho0)
      obtain ⟨Ao24, co24, eo24⟩ := Kd.V_slice HO249.out
      (first | subst eo24 | (injection eo24 with f1_ f2_ f3_; have f4_ := f1_.symm; have f5_ := f3_.symm; clear f1_ f2_ f3_; subst f4_; subst f5_))
      obtain ⟨Ao25, co25, eo25⟩ := Kd.N_slice HO252.out
      (first | subst eo25 | (injection eo25 with f1_ f2_ f3_; have f4_ := f1_.symm; have f5_ := f3_.symm; clear f1_ f2_ f3_; subst f4_; subst f5_))
      refine hK.out _ _ ((blk_cell BK244.out 0).trans rfl) (fun hHeld => ?_)
      clear hK K
      refine norm_ (a' := ?_) ?_ ?_
      rotate_left
      · show Act.put _ (some 10) _ = _
        simp only [Act.put, List.setIfInBounds_toArray, List.set_cons_zero, List.set_cons_succ, i64_w, i32_w]
        rfl
      refine one_ (i := 4) (N := some 11) #[true, true, true, true, true, false, false, false, false] rfl rfl (one_of HT_.out (by kernel_rfl)) (by decide) (fun K hK => ?_)
      refine goes_ Try.func11 (by kernel_rfl) rfl #[.slice Ao24 t247.length co24, .slice Ao25 t250.length co25] (by rfl) rfl rfl (by (try simp only [List.map_toArray, List.map_cons, List.map_nil]); first | done | rfl | (simp only [List.length_drop, List.length_take]; rfl)) ?_
      with_reducible refine (lazycref09_Same.calls k _ _ t247 _ _ t250 false _ ?side1 ?side2 ?side3 ?side4 A6.out).mono ?_
      (case side1 => repeat (first | exact (Kd.V_reads' HO249.out).2.2 | (with_reducible refine Kd.C_alloc ?_ _) | (with_reducible refine Kd.C_drewN ?_ _) | (with_reducible refine Kd.C_drew ?_)))
      (case side2 => exact (Kd.V_reads' HO249.out).2.1)
      (case side3 => repeat (first | exact (Kd.N_reads' HO252.out).2.2 | (with_reducible refine Kd.C_alloc ?_ _) | (with_reducible refine Kd.C_drewN ?_ _) | (with_reducible refine Kd.C_drew ?_)))
      (case side4 => exact (Kd.N_reads' HO252.out).2.1)
      rintro e w' ⟨rfl, ⟨nd, rfl⟩⟩
      refine ⟨_, rfl, ?_⟩
      refine hK.out _ _ ((blk_cell BK244.out 0).trans rfl) (fun hHeld => ?_)
      clear hK K
      refine norm_ (a' := ?_) ?_ ?_
      rotate_left
      · show Act.put _ (some 11) _ = _
        simp only [Act.put, List.setIfInBounds_toArray, List.set_cons_zero, List.set_cons_succ, i64_w, i32_w]
        rfl
      refine pure_ (i := 5) (N := some 12) (v := ?_) (a' := ?_) #[true, true, true, true, true, true, false, false, false] rfl rfl (any_of HT_.out (by kernel_rfl)) (fun _ _ _ h => h) (Or.inl ⟨by rfl, ?_⟩) ?_ ?_
      rotate_left
      · intro w'
        go_simp
        with_reducible rfl
      rotate_left
      · simp only [Act.put, List.setIfInBounds_toArray, List.set_cons_zero, List.set_cons_succ, i64_w, i32_w]
        rfl
      refine pure_ (i := 6) (N := some 13) (v := undef) (a' := ?_) #[true, true, true, true, true, true, true, false, false] rfl rfl (any_of HT_.out (by kernel_rfl)) (fun _ _ _ h => h) (Or.inr ⟨by rfl, rfl⟩) ?_ ?_
      rotate_left
      · simp only [Act.put, List.setIfInBounds_toArray, List.set_cons_zero, List.set_cons_succ, i64_w, i32_w]
        rfl
      refine pure_ (i := 7) (N := some 14) (v := ?_) (a' := ?_) #[true, true, true, true, true, true, true, true, false] rfl rfl (any_of HT_.out (by kernel_rfl)) (fun _ _ _ h => h) (Or.inl ⟨by rfl, ?_⟩) ?_ ?_
      rotate_left
      · intro w'
        go_simp
        with_reducible rfl
      rotate_left
      · simp only [Act.put, List.setIfInBounds_toArray, List.set_cons_zero, List.set_cons_succ, i64_w, i32_w]
        rfl
      refine pure_ (i := 8) (N := some 2) (v := ?_) (a' := ?_) #[true, true, true, true, true, true, true, true, true] rfl rfl (any_of HT_.out (by kernel_rfl)) (fun _ _ _ h => h) (Or.inl ⟨by rfl, ?_⟩) ?_ ?_
      rotate_left
      · intro w'
        go_simp
        with_reducible rfl
      rotate_left
      · simp only [Act.put, List.setIfInBounds_toArray, List.set_cons_zero, List.set_cons_succ, i64_w, i32_w]
        rfl
      refine done_ (done_of HT_.out (by kernel_rfl)) ?_
      try go_wp2
      go_ret
      exact ⟨by first | rfl | (simp [errW_none, errW_some] <;> rfl) | (simp [*, errW_none, errW_some] <;> rfl), by repeat (first | (with_reducible first | exact HB.out | apply bA | apply bN | apply bD | refine below_set ?_ GE244.out) | exact HB.out)⟩
  · replace c3 := Bool.eq_false_iff.mpr c3
    subst c3
    have H1 : ((lazyclaw09_example.f).bind fun t246 => (some t246)) = some r := by rw [if_neg (show ¬ (false = true) by decide)] at H; exact H
    clear H
    have H := H1
    clear H1
    replace H := Option.bind_eq_some_iff.mp H
    obtain ⟨t246, A260, H⟩ := H
    replace H : (some t246) = some r := H
    have A26 := aM A260
    clear A260
    obtain rfl := Option.some.inj H
    go_enter Try.func3, Try.ntmps3
    go_wp2_with (first | ((with_reducible refine gate_dst (N := 1) rfl ?_); refine box_event ?hg (N := 1) ?hd (cs := #[.slice A0_0 l0_0.length c0_0]) (t := 24) ?hr ?_; (case hd => rfl); (case hg => rfl); (case hr => first | (go_simp; done) | (go_simp; rfl)); intro gb244 hg w27 hbox hb; have n0_ := aM (below_step (by repeat (first | (with_reducible first | exact HB.out | apply bA | apply bN | apply bD) | exact HB.out)) hb); have n1_ := aM (hbox); have n2_ := aM ((by rw [hg]; exact (below_size (by repeat (first | (with_reducible first | exact HB.out | apply bA | apply bN | apply bD) | exact HB.out))) : w.heap.size ≤ gb244)); have n3_ := aM ((by rw [hg]; exact (below_size (by repeat (first | (with_reducible first | exact HB.out | apply bA | apply bN | apply bD) | exact HB.out))) : w.heap.size ≤ gb244)); clear HB; have HB := n0_; have BK244 := n1_; have GW244 := n2_; have GE244 := n3_; clear n0_ n1_ n2_ n3_; clear hb hbox hg; have hcz28_0 : w27.cell? ⟨gb244, 0, none⟩ = some (.slice A0_0 l0_0.length c0_0) := (blk_cell BK244.out 0).trans rfl; have hfz28_0 := blk_frozen BK244.out 0) | ((with_reducible refine gate_callee (f := 9) rfl ?_); refine goesL_ (some 4) rfl rfl Try.func9 (by kernel_rfl) rfl #[.agg #[.slice A0_0 l0_0.length c0_0]] rfl (by (try simp only [List.map_toArray, List.map_cons, List.map_nil]); first | done | rfl | (simp only [List.length_drop, List.length_take]; rfl)) ?_; (with_reducible refine (lazyclaw09_small.calls k _ _ l0_0 false _ ?side1 ?side2 A2.out).mono ?_); (case side1 => repeat (first | exact (Kd.C_below HR0_0.out HB.out) | (with_reducible refine Kd.C_alloc ?_ _) | (with_reducible refine Kd.C_drewN ?_ _) | (with_reducible refine Kd.C_drew ?_))); (case side2 => exact HC0_0.out); rintro e w29 ⟨rfl, hb⟩; refine ⟨_, rfl, ?_⟩; have n0_ := aM (blk_below (g := gb244) (o := .cells #[.slice A0_0 l0_0.length c0_0] 24 (0, 0)) (by (with_reducible repeat (first | refine kN ?_ _ | refine kD ?_ | refine kA ?_ _)); exact BK244.out) hb); have n1_ := aM (below_step (by repeat (first | (with_reducible first | exact HB.out | apply bA | apply bN | apply bD | refine below_set ?_ GE244.out) | exact HB.out)) hb); clear BK244; clear HB; have BK244 := n0_; have HB := n1_; clear n0_ n1_; (try clear hb); (try clear hb2); (try clear hk); (try clear hi)) | ((with_reducible refine gate_callee (f := 10) rfl ?_); refine goesL_ (some 6) rfl rfl Try.func10 (by kernel_rfl) rfl #[] rfl (by (try simp only [List.map_toArray, List.map_cons, List.map_nil]); first | done | rfl | (simp only [List.length_drop, List.length_take]; rfl)) ?_; (with_reducible refine (lazyclaw09_example.calls  t246 _ A26.out).mono ?_); rintro e w30 ⟨rfl, hb⟩; refine ⟨_, rfl, ?_⟩; have n0_ := aM (blk_below (g := gb244) (o := .cells #[.slice A0_0 l0_0.length c0_0] 24 (0, 0)) (by (with_reducible repeat (first | refine kN ?_ _ | refine kD ?_ | refine kA ?_ _)); exact BK244.out) hb); have n1_ := aM (below_step (by repeat (first | (with_reducible first | exact HB.out | apply bA | apply bN | apply bD | refine below_set ?_ GE244.out) | exact HB.out)) hb); clear BK244; clear HB; have BK244 := n0_; have HB := n1_; clear n0_ n1_; (try clear hb); (try clear hb2); (try clear hk); (try clear hi)))
    go_ret
    exact ⟨by first | rfl | (simp [errW_none, errW_some] <;> rfl) | (simp [*, errW_none, errW_some] <;> rfl), by repeat (first | (with_reducible first | exact HB.out | apply bA | apply bN | apply bD | refine below_set ?_ GE244.out) | exact HB.out)⟩

-- NOT PRINTED: function 32 (lazycref09_longest)

-- NOT PRINTED: function 15 (lazycref09_Levels)

-- NOT PRINTED: function 4 (lazyclaw09_GraphLevels)

end Go.Proofs.Ytpmjpngmmphkmaa.P
/- Tarjan's search on lists finds the strongly connected components, numbered so that edges lead to numbers that are not greater: for every valid graph with less than 1000000 nodes. -/
namespace Go.Proofs.Ytpmjpngmmphkmaa
open Go.RowKit Go.Proofs.YtpmjpngmmphkmaaW.PrintWords Go.Proofs.YtpmjpngmmphkmaaW.PrintLast Go.Proofs.YtpmjpngmmphkmaaW.PrintMore
namespace Tp
open Tj
set_option linter.unusedVariables false

def nd (es : List (List Int)) (v : Int) : Prop := 0 ≤ v ∧ v < es.length
def Vld (es : List (List Int)) : Prop := ∀ v, nd es v → ∀ w ∈ row es v, nd es w
inductive Rc (es : List (List Int)) : Int → Int → Prop
  | refl (v : Int) : Rc es v v
  | tail {a b c : Int} : Rc es a b → c ∈ row es b → Rc es a c
theorem Rc.trans {es : List (List Int)} {a b c : Int} (h : Rc es a b) (h2 : Rc es b c) : Rc es a c := by
  induction h2 with
  | refl => exact h
  | tail _ h3 ih => exact .tail ih h3
theorem Rc.edge {es : List (List Int)} {a b : Int} (h : b ∈ row es a) : Rc es a b := .tail (.refl a) h

theorem w64 (x : Int) (h0 : -9223372036854775808 ≤ x) (h1 : x < 9223372036854775808) : wrap64 x = x := by
  unfold wrap64
  omega
theorem rd_set (l : List Int) (u v x : Int) (hu : 0 ≤ u) (hl : u < l.length) (hv : 0 ≤ v) : rd (l.set u.toNat x) v = if v = u then x else rd l v := by
  unfold rd
  rw [List.getD_eq_getElem?_getD, List.getElem?_set, List.getD_eq_getElem?_getD]
  by_cases h : v = u
  · subst h
    rw [if_pos rfl, if_pos (by omega), if_pos rfl]
    rfl
  · rw [if_neg (by omega), if_neg h]
theorem rd_at (l : List Int) (i : Nat) (h : i < l.length) : rd l (i : Int) = l[i] := by
  unfold rd
  rw [Int.toNat_natCast, List.getD_eq_getElem?_getD, List.getElem?_eq_getElem h]
  rfl
theorem rd_mem (l : List Int) (v : Int) (h0 : 0 ≤ v) (h : v < l.length) : rd l v ∈ l := by
  obtain ⟨i, rfl⟩ := Int.eq_ofNat_of_zero_le h0
  rw [rd_at l i (by omega)]
  exact List.getElem_mem _
theorem mem_rd (l : List Int) (x : Int) (h : x ∈ l) : ∃ i : Nat, i < l.length ∧ rd l (i : Int) = x := by
  obtain ⟨i, hi, e⟩ := List.mem_iff_getElem.1 h
  exact ⟨i, hi, by rw [rd_at l i hi]; exact e⟩
theorem rd_rep (n : Nat) (x v : Int) (h0 : 0 ≤ v) (h : v < n) : rd (List.replicate n x) v = x := by
  obtain ⟨i, rfl⟩ := Int.eq_ofNat_of_zero_le h0
  rw [rd_at _ i (by simp; omega)]
  simp

structure Inv (es : List (List Int)) (st : TS) : Prop where
  li : st.index.length = es.length
  ll : st.low.length = es.length
  lc : st.comp.length = es.length
  stk : ∀ x ∈ st.stack, nd es x ∧ 0 < rd st.index x ∧ rd st.comp x = -1
  ons : ∀ x, nd es x → rd st.index x ≠ 0 → rd st.comp x < 0 → x ∈ st.stack
  unv : ∀ x, nd es x → rd st.index x = 0 → rd st.comp x = -1
  idx : ∀ x, nd es x → 0 ≤ rd st.index x ∧ rd st.index x ≤ st.count
  cmp : ∀ x, nd es x → -1 ≤ rd st.comp x ∧ rd st.comp x < st.comps
  inj : ∀ x y, nd es x → nd es y → rd st.index x = rd st.index y → rd st.index x ≠ 0 → x = y
  srt : st.stack.Pairwise fun x y => rd st.index x < rd st.index y
  back : ∀ u, nd es u → 0 ≤ rd st.comp u → ∀ w ∈ row es u, 0 ≤ rd st.comp w ∧ rd st.comp w ≤ rd st.comp u
  same : ∀ u v, nd es u → nd es v → rd st.comp u = rd st.comp v → 0 ≤ rd st.comp u → Rc es u v
  onto : ∀ c, 0 ≤ c → c < st.comps → ∃ v, nd es v ∧ rd st.comp v = c
  cnt : st.count + (st.index.count 0 : Nat) = es.length
  cps : 0 ≤ st.comps ∧ st.comps + st.stack.length ≤ st.count

structure Ext (es : List (List Int)) (p : Int → Prop) (st st' : TS) : Prop where
  idx : ∀ x, nd es x → rd st.index x ≠ 0 → rd st'.index x = rd st.index x
  low : ∀ x, nd es x → rd st.index x ≠ 0 → p x → rd st'.low x = rd st.low x
  cmp : ∀ x, nd es x → 0 ≤ rd st.comp x → rd st'.comp x = rd st.comp x
  cnt : st.count ≤ st'.count
  new : ∀ x, nd es x → rd st.index x = 0 → rd st'.index x = 0 ∨ st.count < rd st'.index x

theorem Ext.refl (es : List (List Int)) (p : Int → Prop) (st : TS) : Ext es p st st := ⟨fun _ _ _ => rfl, fun _ _ _ _ => rfl, fun _ _ _ => rfl, Int.le_refl _, fun _ _ h => .inl h⟩
theorem Ext.trans {es : List (List Int)} {p : Int → Prop} {a b c : TS} (h : Ext es p a b) (k : Ext es p b c) : Ext es p a c where
  idx x hx h0 := by rw [k.idx x hx (by rw [h.idx x hx h0]; exact h0), h.idx x hx h0]
  low x hx h0 hp := by rw [k.low x hx (by rw [h.idx x hx h0]; exact h0) hp, h.low x hx h0 hp]
  cmp x hx h0 := by rw [k.cmp x hx (by rw [h.cmp x hx h0]; exact h0), h.cmp x hx h0]
  cnt := Int.le_trans h.cnt k.cnt
  new x hx h0 := by
    rcases h.new x hx h0 with h1 | h1
    · rcases k.new x hx h1 with h2 | h2
      · exact .inl h2
      · exact .inr (by have := h.cnt; omega)
    · by_cases h2 : rd b.index x = 0
      · rcases k.new x hx h2 with h3 | h3
        · exact .inl h3
        · exact .inr (by have := h.cnt; omega)
      · rw [k.idx x hx h2]
        exact .inr h1
theorem Ext.imp {es : List (List Int)} {p q : Int → Prop} {a b : TS} (h : Ext es p a b) (hq : ∀ x, q x → p x) : Ext es q a b := ⟨h.idx, fun x hx h0 hp => h.low x hx h0 (hq x hp), h.cmp, h.cnt, h.new⟩

/-- A node's edge leads to a finished node, or to one that is not below m. -/
def Ok (st : TS) (m w : Int) : Prop := 0 ≤ rd st.comp w ∨ (rd st.index w ≠ 0 ∧ m ≤ rd st.index w)

structure Post (es : List (List Int)) (S0 : List Int) (v c0 : Int) (st : TS) : Prop where
  inv : Inv es st
  idx : rd st.index v = c0 + 1
  way : (st.stack = S0 ∧ rd st.low v = c0 + 1 ∧ 0 ≤ rd st.comp v) ∨
    (∃ rest, st.stack = S0 ++ v :: rest ∧ (∀ x ∈ v :: rest, Rc es x v ∧ Rc es v x) ∧ (∀ x ∈ v :: rest, ∀ w ∈ row es x, Ok st (rd st.low v) w) ∧ rd st.low v < c0 + 1 ∧ ∃ y ∈ S0, rd st.index y = rd st.low v ∧ Rc es v y)

structure Lp (es : List (List Int)) (S0 : List Int) (v c0 : Int) (i : Nat) (st : TS) (rest : List Int) : Prop where
  inv : Inv es st
  nd : nd es v
  idx : rd st.index v = c0 + 1
  stk : st.stack = S0 ++ v :: rest
  tov : ∀ x ∈ st.stack, Rc es x v
  frm : ∀ x ∈ rest, Rc es v x
  low : rd st.low v ≤ rd st.index v
  wit : ∃ y ∈ st.stack, rd st.index y = rd st.low v ∧ Rc es v y
  blk : ∀ x ∈ rest, ∀ w ∈ row es x, Ok st (rd st.low v) w
  done : ∀ j : Nat, j < i → j < (row es v).length → Ok st (rd st.low v) (rd (row es v) j)

theorem row_nd {es : List (List Int)} (hv : Vld es) {v : Int} (h : nd es v) (j : Nat) (hj : j < (row es v).length) : nd es (rd (row es v) j) := hv v h _ (by rw [rd_at _ j hj]; exact List.getElem_mem _)

/-- What the emptying of the stack gives. -/
theorem pop_run (es : List (List Int)) (v : Int) (S0 : List Int) : ∀ (m : Nat) (rest : List Int) (k : Nat) (st : TS), rest.length = m → m < k → st.stack = S0 ++ v :: rest → v ∉ rest →
    (∀ x ∈ v :: rest, nd es x) → st.comp.length = es.length →
    ∃ cm : List Int, pop k v st = some { st with stack := S0, comp := cm, comps := wrap64 (st.comps + 1) } ∧ cm.length = es.length ∧
      (∀ x ∈ v :: rest, rd cm x = st.comps) ∧ (∀ x, nd es x → x ∉ v :: rest → rd cm x = rd st.comp x) := by
  intro m
  induction m with
  | zero =>
    intro rest k st hm hk hs hnv hnd hl
    obtain rfl : rest = [] := List.eq_nil_of_length_eq_zero hm
    obtain ⟨k, rfl⟩ : ∃ m, k = m + 1 := ⟨k - 1, by omega⟩
    have hv := hnd v (by simp)
    have hlen : st.stack.length = S0.length + 1 := by rw [hs]; simp
    have hx : rd st.stack ((st.stack.length : Int) - 1) = v := by
      rw [show ((st.stack.length : Int) - 1) = ((S0.length : Nat) : Int) by omega, rd_at _ _ (by omega)]
      simp [hs]
    have ht : st.stack.take (st.stack.length - 1) = S0 := by
      rw [hlen, Nat.add_sub_cancel, hs]; simp
    refine ⟨st.comp.set v.toNat st.comps, ?_, by simpa using hl, ?_, ?_⟩
    · unfold pop
      rw [if_pos (by omega)]
      simp only [hx, ht]
      rw [if_pos (by have := hv.1; have := hv.2; rw [hl]; omega), if_pos trivial]
    · intro x hx
      rw [List.mem_singleton] at hx
      subst hx
      rw [rd_set _ _ _ _ hv.1 (by rw [hl]; exact hv.2) hv.1, if_pos rfl]
    · intro x hx hne
      rw [rd_set _ _ _ _ hv.1 (by rw [hl]; exact hv.2) hx.1, if_neg (by simpa using hne)]
  | succ m ih =>
    intro rest k st hm hk hs hnv hnd hl
    obtain ⟨k, rfl⟩ : ∃ m, k = m + 1 := ⟨k - 1, by omega⟩
    obtain ⟨r0, z, rfl⟩ : ∃ r0 z, rest = r0 ++ [z] := ⟨rest.dropLast, rest.getLast (by intro e; rw [e] at hm; cases hm), (List.dropLast_concat_getLast _).symm⟩
    have hz := hnd z (by simp)
    have hlen : st.stack.length = S0.length + 1 + r0.length + 1 := by rw [hs]; simp; omega
    have hs2 : st.stack = (S0 ++ v :: r0) ++ [z] := by rw [hs]; simp
    have hx : rd st.stack ((st.stack.length : Int) - 1) = z := by
      rw [show ((st.stack.length : Int) - 1) = (((S0 ++ v :: r0).length : Nat) : Int) by simp; omega, rd_at _ _ (by simp; omega)]
      simp [hs2]
    have ht : st.stack.take (st.stack.length - 1) = S0 ++ v :: r0 := by
      rw [hlen, Nat.add_sub_cancel, hs2, List.take_left' (by simp; omega)]
    have hzv : z ≠ v := by rintro rfl; simp at hnv
    obtain ⟨cm, h1, h2, h3, h4⟩ := ih r0 k { st with stack := S0 ++ v :: r0, comp := st.comp.set z.toNat st.comps } (by simpa using hm) (by omega) rfl (by intro h; exact hnv (by simp [h]))
      (fun x hx => hnd x (by rcases List.mem_cons.1 hx with h | h <;> simp [h])) (by simpa using hl)
    refine ⟨cm, ?_, h2, ?_, ?_⟩
    · unfold pop
      rw [if_pos (by omega)]
      simp only [hx, ht]
      rw [if_pos (by have := hz.1; have := hz.2; rw [hl]; omega), if_neg hzv]
      exact h1
    · intro x hx
      by_cases h : x ∈ v :: r0
      · exact h3 x h
      · have hxz : x = z := by
          simp at hx h
          grind
        subst hxz
        rw [h4 x hz h]
        rw [rd_set _ _ _ _ hz.1 (by rw [hl]; exact hz.2) hz.1, if_pos rfl]
    · intro x hx hne
      rw [h4 x hx (by simp at hne ⊢; grind)]
      show rd (st.comp.set z.toNat st.comps) x = _
      rw [rd_set _ _ _ _ hz.1 (by rw [hl]; exact hz.2) hx.1, if_neg (by simp at hne; grind)]
end Tp
namespace Tp
open Tj
set_option linter.unusedVariables false

theorem Inv.count_le {es : List (List Int)} {st : TS} (h : Inv es st) : 0 ≤ st.count ∧ st.count ≤ es.length := by
  have := h.cnt
  have := h.cps
  omega

theorem count_set_lt (l : List Int) (u x : Int) (hu : 0 ≤ u) (hl : u < l.length) (h0 : rd l u = 0) (hx : x ≠ 0) : (l.set u.toNat x).count 0 + 1 = l.count 0 := by
  obtain ⟨i, rfl⟩ := Int.eq_ofNat_of_zero_le hu
  rw [rd_at l i (by omega)] at h0
  have hi : i < l.length := by omega
  have h1 : 0 < l.count 0 := List.count_pos_iff.2 (h0 ▸ List.getElem_mem hi)
  show (l.set i x).count 0 + 1 = l.count 0
  rw [List.count_set hi]
  simp [h0, hx]
  omega

theorem enter_inv {es : List (List Int)} {st : TS} {v : Int} (h : Inv es st) (hv : nd es v) (h0 : rd st.index v = 0) (hn : es.length < 1000000) :
    Inv es (enter v st) ∧ (enter v st).count = st.count + 1 ∧ (∀ x, nd es x → rd (enter v st).index x = if x = v then st.count + 1 else rd st.index x) ∧
      (∀ x, nd es x → rd (enter v st).low x = if x = v then st.count + 1 else rd st.low x) ∧ (enter v st).index.count 0 + 1 = st.index.count 0 := by
  have hc := h.count_le
  have hw : wrap64 (st.count + 1) = st.count + 1 := w64 _ (by omega) (by omega)
  have hix : ∀ x, nd es x → rd (enter v st).index x = if x = v then st.count + 1 else rd st.index x := by
    intro x hx
    show rd (st.index.set v.toNat (wrap64 (st.count + 1))) x = _
    rw [hw, rd_set _ _ _ _ hv.1 (by rw [h.li]; exact hv.2) hx.1]
  have hlx : ∀ x, nd es x → rd (enter v st).low x = if x = v then st.count + 1 else rd st.low x := by
    intro x hx
    show rd (st.low.set v.toNat (wrap64 (st.count + 1))) x = _
    rw [hw, rd_set _ _ _ _ hv.1 (by rw [h.ll]; exact hv.2) hx.1]
  have hcount : (enter v st).index.count 0 + 1 = st.index.count 0 := count_set_lt _ _ _ hv.1 (by rw [h.li]; exact hv.2) h0 (by rw [hw]; omega)
  have hcnt : (enter v st).count = st.count + 1 := hw
  have hnew : ∀ x ∈ st.stack, x ≠ v := by
    rintro x hx rfl
    have := (h.stk x hx).2.1
    omega
  refine ⟨⟨?_, ?_, h.lc, ?_, ?_, ?_, ?_, h.cmp, ?_, ?_, h.back, h.same, h.onto, ?_, ?_⟩, hcnt, hix, hlx, hcount⟩
  · show (st.index.set _ _).length = _
    rw [List.length_set]; exact h.li
  · show (st.low.set _ _).length = _
    rw [List.length_set]; exact h.ll
  · intro x hx
    rcases List.mem_append.1 (show x ∈ st.stack ++ [v] from hx) with h1 | h1
    · obtain ⟨a, b, c⟩ := h.stk x h1
      refine ⟨a, ?_, c⟩
      rw [hix x a, if_neg (hnew x h1)]
      exact b
    · rw [List.mem_singleton] at h1
      subst h1
      exact ⟨hv, by rw [hix x hv, if_pos rfl]; omega, h.unv x hv h0⟩
  · intro x hx hi hcx
    by_cases e : x = v
    · subst e; show x ∈ st.stack ++ [x]; simp
    · rw [hix x hx, if_neg e] at hi
      exact List.mem_append.2 (.inl (h.ons x hx hi hcx))
  · intro x hx hi
    by_cases e : x = v
    · subst e; exact h.unv x hx h0
    · rw [hix x hx, if_neg e] at hi
      exact h.unv x hx hi
  · intro x hx
    rw [hix x hx, hcnt]
    have := h.idx x hx
    split <;> omega
  · intro x y hx hy he hne
    rw [hix x hx] at he hne
    rw [hix y hy] at he
    have h1 := h.idx x hx
    have h2 := h.idx y hy
    by_cases ex : x = v
    · rw [if_pos ex] at he
      by_cases ey : y = v
      · rw [ex, ey]
      · rw [if_neg ey] at he; omega
    · rw [if_neg ex] at he hne
      by_cases ey : y = v
      · rw [if_pos ey] at he; omega
      · rw [if_neg ey] at he
        exact h.inj x y hx hy he hne
  · show (st.stack ++ [v]).Pairwise _
    rw [List.pairwise_append]
    refine ⟨?_, by simp, ?_⟩
    · refine h.srt.imp_of_mem ?_
      intro a b ha hb hab
      rw [hix a (h.stk a ha).1, hix b (h.stk b hb).1, if_neg (hnew a ha), if_neg (hnew b hb)]
      exact hab
    · intro a ha b hb
      rw [List.mem_singleton] at hb
      subst hb
      rw [hix a (h.stk a ha).1, hix b hv, if_neg (hnew a ha), if_pos rfl]
      have := (h.idx a (h.stk a ha).1).2
      omega
  · rw [hcnt]
    have := h.cnt
    omega
  · rw [hcnt]
    have := h.cps
    refine ⟨this.1, ?_⟩
    show st.comps + ((st.stack ++ [v]).length : Int) ≤ _
    rw [List.length_append, List.length_singleton]
    omega

theorem lower_inv {es : List (List Int)} {st : TS} {v x : Int} (h : Inv es st) : Inv es (lower v x st) :=
  ⟨h.li, by show (st.low.set _ _).length = _; rw [List.length_set]; exact h.ll, h.lc, h.stk, h.ons, h.unv, h.idx, h.cmp, h.inj, h.srt, h.back, h.same, h.onto, h.cnt, h.cps⟩
theorem lower_low {es : List (List Int)} {st : TS} {v x : Int} (h : Inv es st) (hv : nd es v) (u : Int) (hu : nd es u) : rd (lower v x st).low u = if u = v then mn (rd st.low v) x else rd st.low u := by
  show rd (st.low.set _ _) u = _
  rw [rd_set _ _ _ _ hv.1 (by rw [h.ll]; exact hv.2) hu.1]
theorem mn_le (a b : Int) : mn a b ≤ a ∧ mn a b ≤ b ∧ (mn a b = a ∨ mn a b = b) := by
  unfold mn
  split <;> omega
theorem lower_ext {es : List (List Int)} {st : TS} {v x : Int} (h : Inv es st) (hv : nd es v) : Ext es (· ≠ v) st (lower v x st) :=
  ⟨fun _ _ _ => rfl, fun u hu _ hp => by rw [lower_low h hv u hu, if_neg hp], fun _ _ _ => rfl, Int.le_refl _, fun _ _ h => .inl h⟩

theorem Lp.notin {es : List (List Int)} {S0 : List Int} {v c0 : Int} {i : Nat} {st : TS} {rest : List Int} (h : Lp es S0 v c0 i st rest) :
    v ∉ rest ∧ (∀ x ∈ S0, rd st.index x < rd st.index v) ∧ (∀ x ∈ rest, rd st.index v < rd st.index x) := by
  have hs := h.inv.srt
  rw [h.stk, List.pairwise_append] at hs
  obtain ⟨_, h2, h3⟩ := hs
  rw [List.pairwise_cons] at h2
  refine ⟨fun hm => ?_, fun x hx => h3 x hx v (by simp), h2.1⟩
  have := h2.1 v hm
  omega

/-- The loop's end: the stack is emptied down to v. -/
theorem end_pop {es : List (List Int)} (hvld : Vld es) {S0 : List Int} {v c0 : Int} {i k : Nat} {st : TS} {rest : List Int} (h : Lp es S0 v c0 i st rest) (hi : (row es v).length ≤ i)
    (hlow : rd st.low v = rd st.index v) (hk : es.length < k) (hn : es.length < 1000000) :
    ∃ st', pop k v st = some st' ∧ Post es S0 v c0 st' ∧ Ext es (· ≠ v) st st' ∧ st'.index = st.index := by
  obtain ⟨n1, n2, n3⟩ := h.notin
  have hI := h.inv
  have hcl := hI.count_le
  have hmem : ∀ x ∈ v :: rest, x ∈ st.stack := fun x hx => by rw [h.stk]; exact List.mem_append.2 (.inr hx)
  have hseg : ∀ x ∈ v :: rest, nd es x := fun x hx => (hI.stk x (hmem x hx)).1
  have hlen : st.stack.length = S0.length + rest.length + 1 := by rw [h.stk]; simp; omega
  obtain ⟨cm, h1, h2, h3, h4⟩ := pop_run es v S0 rest.length rest k st rfl (by have := hI.cps; omega) h.stk n1 hseg hI.lc
  have hw : wrap64 (st.comps + 1) = st.comps + 1 := w64 _ (by have := hI.cps; omega) (by have := hI.cps; omega)
  rw [hw] at h1
  refine ⟨_, h1, ?_, ?_, rfl⟩
  · have hS0 : ∀ x ∈ S0, x ∉ v :: rest := by
      intro x hx hm
      have a1 := n2 x hx
      rcases List.mem_cons.1 hm with e | e
      · rw [e] at a1; omega
      · have := n3 x e; omega
    have hold : ∀ x, nd es x → 0 ≤ rd st.comp x → x ∉ v :: rest := by
      intro x hx hc hm
      have := (hI.stk x (hmem x hm)).2.2
      omega
    have hsuc : ∀ u ∈ v :: rest, ∀ w ∈ row es u, Ok st (rd st.low v) w := by
      intro u hu w hw
      rcases List.mem_cons.1 hu with e | e
      · subst e
        obtain ⟨j, hj, rfl⟩ := mem_rd _ _ hw
        exact h.done j (by omega) hj
      · exact h.blk u e w hw
    refine ⟨⟨hI.li, hI.ll, h2, ?_, ?_, ?_, hI.idx, ?_, hI.inj, ?_, ?_, ?_, ?_, hI.cnt, ?_⟩, h.idx, .inl ⟨rfl, by rw [← h.idx]; exact hlow, ?_⟩⟩
    · intro x hx
      obtain ⟨a, b, c⟩ := hI.stk x (by rw [h.stk]; exact List.mem_append.2 (.inl hx))
      exact ⟨a, b, by show rd cm x = _; rw [h4 x a (hS0 x hx)]; exact c⟩
    · intro x hx hi0 hc
      have hc' : rd cm x < 0 := hc
      have hns : x ∉ v :: rest := by
        intro hm
        rw [h3 x hm] at hc'
        have := hI.cps
        omega
      rw [h4 x hx hns] at hc'
      have := hI.ons x hx hi0 hc'
      rw [h.stk] at this
      rcases List.mem_append.1 this with e | e
      · exact e
      · exact absurd e hns
    · intro x hx hi0
      have hns : x ∉ v :: rest := by
        intro hm
        have := (hI.stk x (hmem x hm)).2.1
        have hi1 : rd st.index x = 0 := hi0
        omega
      show rd cm x = _
      rw [h4 x hx hns]
      exact hI.unv x hx hi0
    · intro x hx
      show -1 ≤ rd cm x ∧ rd cm x < st.comps + 1
      by_cases hm : x ∈ v :: rest
      · rw [h3 x hm]; have := hI.cps; omega
      · rw [h4 x hx hm]; have := hI.cmp x hx; omega
    · have := hI.srt
      rw [h.stk, List.pairwise_append] at this
      exact this.1
    · intro u hu hc w hwm
      show 0 ≤ rd cm w ∧ rd cm w ≤ rd cm u
      have hc' : 0 ≤ rd cm u := hc
      have hwn : nd es w := hvld u hu w hwm
      by_cases hm : u ∈ v :: rest
      · rw [h3 u hm]
        by_cases hwm2 : w ∈ v :: rest
        · rw [h3 w hwm2]; have := hI.cps; omega
        · rw [h4 w hwn hwm2]
          rcases hsuc u hm w hwm with e | ⟨e1, e2⟩
          · have := hI.cmp w hwn; omega
          · by_cases hcw : 0 ≤ rd st.comp w
            · have := hI.cmp w hwn; omega
            · have hst := hI.ons w hwn e1 (by omega)
              rw [h.stk] at hst
              rcases List.mem_append.1 hst with e | e
              · have := n2 w e; omega
              · exact absurd e hwm2
      · rw [h4 u hu hm] at hc' ⊢
        have hb := hI.back u hu hc' w hwm
        rw [h4 w hwn (hold w hwn hb.1)]
        exact hb
    · intro x y hx hy he hc
      have he' : rd cm x = rd cm y := he
      by_cases hm : x ∈ v :: rest
      · by_cases hm2 : y ∈ v :: rest
        · have hxv : Rc es x v := h.tov x (hmem x hm)
          rcases List.mem_cons.1 hm2 with e | e
          · rw [e]; exact hxv
          · exact hxv.trans (h.frm y e)
        · rw [h3 x hm, h4 y hy hm2] at he'
          have := hI.cmp y hy
          omega
      · by_cases hm2 : y ∈ v :: rest
        · rw [h3 y hm2, h4 x hx hm] at he'
          have := hI.cmp x hx
          omega
        · have hc' : 0 ≤ rd cm x := hc
          rw [h4 x hx hm] at hc'
          rw [h4 x hx hm, h4 y hy hm2] at he'
          exact hI.same x y hx hy he' hc'
    · intro c h0 hc
      have hc' : c < st.comps + 1 := hc
      by_cases e : c = st.comps
      · exact ⟨v, h.nd, by rw [e]; exact h3 v (by simp)⟩
      · obtain ⟨u, hu, hcu⟩ := hI.onto c h0 (by omega)
        exact ⟨u, hu, by show rd cm u = c; rw [h4 u hu (hold u hu (by omega))]; exact hcu⟩
    · show 0 ≤ st.comps + 1 ∧ st.comps + 1 + (S0.length : Int) ≤ st.count
      have := hI.cps
      omega
    · show 0 ≤ rd cm v
      rw [h3 v (by simp)]
      exact hI.cps.1
  · refine ⟨fun _ _ _ => rfl, fun _ _ _ _ => rfl, fun x hx hc => ?_, Int.le_refl _, fun _ _ e => .inl e⟩
    have hns : x ∉ v :: rest := by
      intro hm
      have := (hI.stk x (hmem x hm)).2.2
      omega
    exact h4 x hx hns
end Tp
namespace Tp
open Tj
set_option linter.unusedVariables false

def VisitOk (es : List (List Int)) (L k : Nat) : Prop := ∀ (v : Int) (st : TS), Inv es st → nd es v → rd st.index v = 0 → (∀ x ∈ st.stack, Rc es x v) → st.index.count 0 * (L + 2) + es.length + 2 ≤ k →
  ∃ st', visit k es v st = some st' ∧ Post es st.stack v st.count st' ∧ Ext es (fun _ => True) st st' ∧ st'.index.count 0 ≤ st.index.count 0
def EachOk (es : List (List Int)) (L k : Nat) : Prop := ∀ (S0 : List Int) (v c0 : Int) (i : Nat) (st : TS) (rest : List Int), Lp es S0 v c0 i st rest → st.index.count 0 * (L + 2) + (L - i) + es.length + 2 ≤ k →
  ∃ st', each k es v (row es v) i st = some st' ∧ Post es S0 v c0 st' ∧ Ext es (· ≠ v) st st' ∧ st'.index.count 0 ≤ st.index.count 0

/-- The count of unvisited nodes does not grow. -/
theorem unv_le {es : List (List Int)} {a b : TS} (ha : Inv es a) (hb : Inv es b) (h : a.count ≤ b.count) : b.index.count 0 ≤ a.index.count 0 := by
  have := ha.cnt
  have := hb.cnt
  omega

theorem Ok.ext {es : List (List Int)} {p : Int → Prop} {a b : TS} (h : Ext es p a b) {m m' w : Int} (hw : nd es w) (hm : m' ≤ m) (ho : Ok a m w) : Ok b m' w := by
  rcases ho with e | ⟨e1, e2⟩
  · exact .inl (by rw [h.cmp w hw e]; exact e)
  · exact .inr (by rw [h.idx w hw e1]; exact ⟨e1, by omega⟩)

theorem visit_step {es : List (List Int)} (hvld : Vld es) {L k : Nat} (hL : ∀ v, (row es v).length ≤ L) (hn : es.length < 1000000) (he : EachOk es L k) : VisitOk es L (k + 1) := by
  intro v st hI hv h0 hto hk
  obtain ⟨hI1, hc1, hix, hlx, hct⟩ := enter_inv hI hv h0 hn
  have hcps := hI.cps
  have hcl := hI.count_le
  unfold visit
  rw [if_pos ⟨hv.1, hv.2, by omega⟩]
  have hlp : Lp es st.stack v st.count 0 (enter v st) [] := by
    refine ⟨hI1, hv, by rw [hix v hv, if_pos rfl], rfl, ?_, by simp, ?_, ?_, by simp, by intro j hj; omega⟩
    · intro x hx
      rcases List.mem_append.1 (show x ∈ st.stack ++ [v] from hx) with e | e
      · exact hto x e
      · rw [List.mem_singleton] at e; subst e; exact .refl _
    · rw [hlx v hv, hix v hv]; simp
    · exact ⟨v, by show v ∈ st.stack ++ [v]; simp, by rw [hlx v hv, hix v hv]; simp, .refl _⟩
  have hmul : st.index.count 0 * (L + 2) = (enter v st).index.count 0 * (L + 2) + (L + 2) := by
    rw [← hct, Nat.add_mul, Nat.one_mul]
  obtain ⟨st', h1, h2, h3, h4⟩ := he st.stack v st.count 0 (enter v st) [] hlp (by omega)
  refine ⟨st', h1, h2, ?_, by omega⟩
  refine ⟨?_, ?_, ?_, ?_, ?_⟩
  · intro x hx hi
    have e : x ≠ v := by rintro rfl; exact hi h0
    have := hix x hx
    rw [if_neg e] at this
    rw [h3.idx x hx (by rw [this]; exact hi), this]
  · intro x hx hi _
    have e : x ≠ v := by rintro rfl; exact hi h0
    have := hix x hx
    rw [if_neg e] at this
    rw [h3.low x hx (by rw [this]; exact hi) e, hlx x hx, if_neg e]
  · exact h3.cmp
  · have := h3.cnt; omega
  · intro x hx hi
    by_cases e : x = v
    · subst e
      right
      rw [h2.idx]; omega
    · have := hix x hx
      rw [if_neg e] at this
      rcases h3.new x hx (by rw [this]; exact hi) with e2 | e2
      · exact .inl e2
      · exact .inr (by omega)

theorem lp_next {es : List (List Int)} (hvld : Vld es) {S0 : List Int} {v c0 : Int} {i : Nat} {st st2 : TS} {rest r1 : List Int} (h : Lp es S0 v c0 i st rest) (hi : i < (row es v).length)
    (h2 : Inv es st2) (he : Ext es (fun _ => False) st st2) (hs : st2.stack = st.stack ++ r1) (hr : ∀ x ∈ r1, Rc es x v ∧ Rc es v x) (hl : rd st2.low v ≤ rd st.low v)
    (hw : rd st2.low v = rd st.low v ∨ ∃ y ∈ st2.stack, rd st2.index y = rd st2.low v ∧ Rc es v y) (hb : ∀ x ∈ r1, ∀ u ∈ row es x, Ok st2 (rd st2.low v) u) (hd : Ok st2 (rd st2.low v) (rd (row es v) i)) :
    Lp es S0 v c0 (i + 1) st2 (rest ++ r1) := by
  have hI := h.inv
  have hvs : v ∈ st.stack := by rw [h.stk]; simp
  have hix : ∀ x ∈ st.stack, nd es x ∧ rd st2.index x = rd st.index x := fun x hx => ⟨(hI.stk x hx).1, he.idx x (hI.stk x hx).1 (by have := (hI.stk x hx).2.1; omega)⟩
  refine ⟨h2, h.nd, by rw [(hix v hvs).2]; exact h.idx, by rw [hs, h.stk]; simp, ?_, ?_, by rw [(hix v hvs).2]; have := h.low; omega, ?_, ?_, ?_⟩
  · intro x hx
    rw [hs] at hx
    rcases List.mem_append.1 hx with e | e
    · exact h.tov x e
    · exact (hr x e).1
  · intro x hx
    rcases List.mem_append.1 hx with e | e
    · exact h.frm x e
    · exact (hr x e).2
  · rcases hw with e | e
    · obtain ⟨y, y1, y2, y3⟩ := h.wit
      exact ⟨y, by rw [hs]; exact List.mem_append.2 (.inl y1), by rw [(hix y y1).2, e]; exact y2, y3⟩
    · exact e
  · intro x hx u hu
    rcases List.mem_append.1 hx with e | e
    · exact Ok.ext he (hvld x (hI.stk x (by rw [h.stk]; simp [e])).1 u hu) hl (h.blk x e u hu)
    · exact hb x e u hu
  · intro j hj hjl
    by_cases e : j = i
    · rw [e]; exact hd
    · exact Ok.ext he (row_nd hvld h.nd j hjl) hl (h.done j (by omega) hjl)

theorem each_step {es : List (List Int)} (hvld : Vld es) {L k : Nat} (hL : ∀ v, (row es v).length ≤ L) (hn : es.length < 1000000) (hv : VisitOk es L k) (he : EachOk es L k) : EachOk es L (k + 1) := by
  intro S0 v c0 i st rest h hk
  have hI := h.inv
  have hcl := hI.count_le
  have hiv := hI.idx v h.nd
  have hLv := hL v
  have hvs : v ∈ st.stack := by rw [h.stk]; simp
  have hvi : rd st.index v ≠ 0 := by have := (hI.stk v hvs).2.1; omega
  unfold each
  by_cases hi : i < (row es v).length
  · rw [if_pos (by omega)]
    have hw := row_nd hvld h.nd i hi
    have hmem : rd (row es v) i ∈ row es v := by rw [rd_at _ i hi]; exact List.getElem_mem _
    have hnx := @lp_next es hvld S0 v c0 i st
    generalize hwd : rd (row es v) i = w at *
    rw [if_pos ⟨hw.1, hw.2⟩, show (i : Int) + 1 = ((i + 1 : Nat) : Int) by omega]
    by_cases h0 : rd st.index w = 0
    · rw [if_pos h0]
      obtain ⟨st1, a1, a2, a3, a4⟩ := hv w st hI hw h0 (fun x hx => (h.tov x hx).tail hmem) (by omega)
      rw [a1, Option.bind_some]
      have hI1 := a2.inv
      have hl1 : rd st1.low v = rd st.low v := a3.low v h.nd hvi trivial
      have hlv : rd (lower v (rd st1.low w) st1).low v = mn (rd st.low v) (rd st1.low w) := by rw [lower_low hI1 h.nd v h.nd, if_pos rfl, hl1]
      have hmn := mn_le (rd st.low v) (rd st1.low w)
      have hext : Ext es (· ≠ v) st (lower v (rd st1.low w) st1) := (a3.imp (fun _ _ => trivial)).trans (lower_ext hI1 h.nd)
      have hlow := h.low
      have next : ∃ rest2, Lp es S0 v c0 (i + 1) (lower v (rd st1.low w) st1) rest2 := by
        rcases a2.way with ⟨s1, s2, s3⟩ | ⟨r1, s1, s2, s3, s4, y, s5, s6, s7⟩
        · exact ⟨_, hnx h hi (r1 := []) (lower_inv hI1) (hext.imp (fun _ h => h.elim)) (by show st1.stack = _; rw [s1]; simp) (by simp) (by rw [hlv]; exact hmn.1) (.inl (by rw [hlv]; omega)) (by simp) (.inl s3)⟩
        · refine ⟨_, hnx h hi (r1 := w :: r1) (lower_inv hI1) (hext.imp (fun _ h => h.elim)) s1 (fun x hx => ?_) (by rw [hlv]; exact hmn.1) ?_ ?_ (.inr ?_)⟩
          · exact ⟨(s2 x hx).1.trans (s7.trans (h.tov y s5)), (Rc.edge hmem).trans (s2 x hx).2⟩
          · rw [hlv]
            rcases hmn.2.2 with e | e
            · exact .inl e
            · refine .inr ⟨y, by show y ∈ st1.stack; rw [s1]; exact List.mem_append.2 (.inl s5), ?_, (Rc.edge hmem).trans s7⟩
              rw [e]; exact s6
          · intro x hx u hu
            rcases s3 x hx u hu with e | ⟨e1, e2⟩
            · exact .inl e
            · exact .inr ⟨e1, by rw [hlv]; show _ ≤ rd st1.index u; omega⟩
          · have e1 : rd (lower v (rd st1.low w) st1).index w = st.count + 1 := a2.idx
            rw [e1, hlv]
            omega
      obtain ⟨rest2, hlp⟩ := next
      have hu := unv_le hI hI1 a3.cnt
      have hmul : st1.index.count 0 * (L + 2) ≤ st.index.count 0 * (L + 2) := Nat.mul_le_mul_right _ hu
      obtain ⟨st', b1, b2, b3, b4⟩ := he S0 v c0 (i + 1) _ rest2 hlp (by show st1.index.count 0 * (L + 2) + _ + _ + _ ≤ _; omega)
      exact ⟨st', b1, b2, hext.trans b3, by have : (lower v (rd st1.low w) st1).index = st1.index := rfl; rw [this] at b4; omega⟩
    · rw [if_neg h0]
      by_cases hc : rd st.comp w < 0
      · rw [if_pos hc]
        have hlv : rd (lower v (rd st.index w) st).low v = mn (rd st.low v) (rd st.index w) := by rw [lower_low hI h.nd v h.nd, if_pos rfl]
        have hmn := mn_le (rd st.low v) (rd st.index w)
        have hlp := hnx h hi (r1 := []) (lower_inv (v := v) (x := rd st.index w) hI) ((lower_ext hI h.nd).imp (fun _ h => h.elim)) (by show st.stack = _; simp) (by simp) (by rw [hlv]; exact hmn.1)
          (by
            rw [hlv]
            rcases hmn.2.2 with e | e
            · exact .inl e
            · exact .inr ⟨w, hI.ons w hw h0 hc, e.symm, Rc.edge hmem⟩) (by simp) (.inr ⟨h0, by rw [hlv]; exact hmn.2.1⟩)
        obtain ⟨st', b1, b2, b3, b4⟩ := he S0 v c0 (i + 1) _ _ hlp (by show st.index.count 0 * (L + 2) + _ + _ + _ ≤ _; omega)
        exact ⟨st', b1, b2, (lower_ext hI h.nd).trans b3, b4⟩
      · rw [if_neg hc]
        have hlp := hnx h hi (r1 := []) hI (Ext.refl _ _ _) (by simp) (by simp) (Int.le_refl _) (.inl rfl) (by simp) (.inl (by omega))
        obtain ⟨st', b1, b2, b3, b4⟩ := he S0 v c0 (i + 1) _ _ hlp (by omega)
        exact ⟨st', b1, b2, b3, b4⟩
  · rw [if_neg (by omega)]
    by_cases hlow : rd st.low v = rd st.index v
    · rw [if_pos hlow]
      obtain ⟨st', b1, b2, b3, b4⟩ := end_pop (k := k) hvld h (by omega) hlow (by omega) hn
      exact ⟨st', b1, b2, b3, by rw [b4]; exact Nat.le_refl _⟩
    · rw [if_neg hlow]
      refine ⟨st, rfl, ⟨hI, h.idx, .inr ⟨rest, h.stk, ?_, ?_, ?_, ?_⟩⟩, Ext.refl _ _ _, Nat.le_refl _⟩
      · intro x hx
        refine ⟨h.tov x (by rw [h.stk]; exact List.mem_append.2 (.inr hx)), ?_⟩
        rcases List.mem_cons.1 hx with e | e
        · rw [e]; exact .refl _
        · exact h.frm x e
      · intro x hx u hu
        rcases List.mem_cons.1 hx with e | e
        · rw [e] at hu
          obtain ⟨j, hj, rfl⟩ := mem_rd _ _ hu
          exact h.done j (by omega) hj
        · exact h.blk x e u hu
      · have := h.low; have := h.idx; omega
      · obtain ⟨y, y1, y2, y3⟩ := h.wit
        refine ⟨y, ?_, y2, y3⟩
        have := h.low
        obtain ⟨n1, n2, n3⟩ := h.notin
        rw [h.stk] at y1
        rcases List.mem_append.1 y1 with e | e
        · exact e
        · rcases List.mem_cons.1 e with e | e
          · rw [e] at y2; omega
          · have := n3 y e; omega

theorem both {es : List (List Int)} (hvld : Vld es) {L : Nat} (hL : ∀ v, (row es v).length ≤ L) (hn : es.length < 1000000) : ∀ k, VisitOk es L k ∧ EachOk es L k := by
  intro k
  induction k with
  | zero => exact ⟨fun v st _ _ _ _ hk => by omega, fun S0 v c0 i st rest _ hk => by omega⟩
  | succ k ih => exact ⟨visit_step hvld hL hn ih.2, each_step hvld hL hn ih.1 ih.2⟩

/-- What the whole search leaves. -/
structure Sol (es : List (List Int)) (cm : List Int) (n : Int) : Prop where
  len : cm.length = es.length
  n0 : 0 ≤ n ∧ n ≤ es.length
  rng : ∀ v, nd es v → 0 ≤ rd cm v ∧ rd cm v < n
  back : ∀ u, nd es u → ∀ w ∈ row es u, rd cm w ≤ rd cm u
  same : ∀ u v, nd es u → nd es v → rd cm u = rd cm v → Rc es u v
  onto : ∀ c, 0 ≤ c → c < n → ∃ v, nd es v ∧ rd cm v = c

theorem outer_run {es : List (List Int)} (hvld : Vld es) {L : Nat} (hL : ∀ v, (row es v).length ≤ L) (hn : es.length < 1000000) : ∀ (m : Nat) (k i : Nat) (st : TS), i + m = es.length → es.length * (L + 2) + es.length + 2 + m < k →
    Inv es st → st.stack = [] → (∀ x, nd es x → x < i → rd st.index x ≠ 0) → ∃ st', outer k es i st = some st' ∧ Inv es st' ∧ st'.stack = [] ∧ ∀ x, nd es x → rd st'.index x ≠ 0 := by
  intro m
  induction m with
  | zero =>
    intro k i st hi hk hI hs hx
    obtain ⟨k, rfl⟩ : ∃ m, k = m + 1 := ⟨k - 1, by omega⟩
    unfold outer
    rw [if_neg (by omega)]
    exact ⟨st, rfl, hI, hs, fun x h => hx x h (by have := h.2; omega)⟩
  | succ m ih =>
    intro k i st hi hk hI hs hx
    obtain ⟨k, rfl⟩ : ∃ m, k = m + 1 := ⟨k - 1, by omega⟩
    have hnd : nd es (i : Int) := ⟨by omega, by omega⟩
    have hcl := hI.count_le
    unfold outer
    rw [if_pos (by omega), show (i : Int) + 1 = ((i + 1 : Nat) : Int) by omega]
    by_cases h0 : rd st.index i = 0
    · rw [if_pos h0]
      have hu : st.index.count 0 ≤ es.length := by rw [← hI.li]; exact List.count_le_length
      have hmul : st.index.count 0 * (L + 2) ≤ es.length * (L + 2) := Nat.mul_le_mul_right _ hu
      obtain ⟨st1, a1, a2, a3, a4⟩ := (both hvld hL hn k).1 i st hI hnd h0 (by rw [hs]; simp) (by omega)
      rw [a1, Option.bind_some]
      have hs1 : st1.stack = [] := by
        rcases a2.way with ⟨s1, _⟩ | ⟨_, _, _, _, _, y, s5, _⟩
        · rw [s1, hs]
        · rw [hs] at s5; cases s5
      refine ih k (i + 1) st1 (by omega) (by omega) a2.inv hs1 ?_
      intro x h1 h2
      by_cases e : x = i
      · subst e; rw [a2.idx]; omega
      · have := hx x h1 (by omega)
        rw [a3.idx x h1 this]
        exact this
    · rw [if_neg h0]
      refine ih k (i + 1) st (by omega) (by omega) hI hs ?_
      intro x h1 h2
      by_cases e : x = i
      · subst e; exact h0
      · exact hx x h1 (by omega)

theorem init_inv (es : List (List Int)) : Inv es (init es.length) := by
  have hi : ∀ x, nd es x → rd (init es.length).index x = 0 := fun x h => rd_rep _ _ _ h.1 h.2
  have hc : ∀ x, nd es x → rd (init es.length).comp x = -1 := fun x h => rd_rep _ _ _ h.1 h.2
  refine ⟨by simp [init], by simp [init], by simp [init], (fun x hx => by cases hx), (fun x h h0 => absurd (hi x h) h0), (fun x h _ => hc x h), (fun x h => ?_), (fun x h => ?_),
    (fun x y h _ _ h0 => absurd (hi x h) h0), List.Pairwise.nil, (fun u h h0 => ?_), (fun u v h _ _ h0 => ?_), (fun c h0 h1 => ?_), ?_, ?_⟩
  · rw [hi x h]; simp [init]
  · rw [hc x h]; simp [init]
  · rw [hc u h] at h0; omega
  · rw [hc u h] at h0; omega
  · simp [init] at h1; omega
  · simp [init]
  · simp [init]

theorem strong_sol {es : List (List Int)} (hvld : Vld es) {L : Nat} (hL : ∀ v, (row es v).length ≤ L) (hn : es.length < 1000000) (k : Nat) (hk : es.length * (L + 2) + es.length + es.length + 3 ≤ k) :
    ∃ cm n, strongF k es = some (cm, n) ∧ Sol es cm n := by
  obtain ⟨st, h1, h2, h3, h4⟩ := outer_run hvld hL hn es.length k 0 (init es.length) (by omega) (by omega) (init_inv es) rfl (fun x h h0 => by have := h.1; omega)
  refine ⟨st.comp, st.comps, ?_, ?_⟩
  · unfold strongF
    rw [if_pos (by omega)]
    show (outer k es ((0 : Nat) : Int) _).map _ = _
    rw [h1]
    rfl
  · have hr : ∀ v, nd es v → 0 ≤ rd st.comp v := by
      intro v hv
      have h5 := h2.cmp v hv
      by_cases e : rd st.comp v < 0
      · have := h2.ons v hv (h4 v hv) e
        rw [h3] at this
        cases this
      · omega
    have hcl := h2.count_le
    have hcps := h2.cps
    exact ⟨h2.lc, by omega, fun v hv => ⟨hr v hv, (h2.cmp v hv).2⟩, fun u hu w hw => (h2.back u hu (hr u hu) w hw).2, fun u v hu hv he => h2.same u v hu hv he (hr u hu), h2.onto⟩
end Tp
end Go.Proofs.Ytpmjpngmmphkmaa
/- The groups and the counts of open edges that graph.ordered makes are what the numbering of the components says: for every valid graph with less than 1000000 nodes. -/
namespace Go.Proofs.Ytpmjpngmmphkmaa
open Go.RowKit Go.Proofs.YtpmjpngmmphkmaaW.PrintWords Go.Proofs.YtpmjpngmmphkmaaW.PrintLast Go.Proofs.YtpmjpngmmphkmaaW.PrintMore
namespace Tp
open Tj Rw Od
set_option linter.unusedVariables false

def iota (n : Nat) : List Int := (List.range n).map fun (i : Nat) => (i : Int)
theorem mem_iota {n : Nat} {x : Int} : x ∈ iota n ↔ 0 ≤ x ∧ x < n := by
  unfold iota
  rw [List.mem_map]
  constructor
  · rintro ⟨i, hi, rfl⟩
    have := List.mem_range.1 hi
    omega
  · intro h
    exact ⟨x.toNat, List.mem_range.2 (by omega), by omega⟩
theorem iota_succ (n : Nat) : iota (n + 1) = iota n ++ [(n : Int)] := by
  unfold iota
  rw [List.range_succ, List.map_append]
  rfl
theorem iota_lt (n : Nat) : (iota n).Pairwise (· < ·) := by
  unfold iota
  rw [List.pairwise_map]
  exact List.pairwise_lt_range.imp (fun h => by omega)
theorem iota_length (n : Nat) : (iota n).length = n := by simp [iota]

theorem nodup_le : ∀ (n : Nat) (l : List Int), l.Nodup → (∀ x ∈ l, 0 ≤ x ∧ x < n) → l.length ≤ n := by
  intro n
  induction n with
  | zero =>
    intro l _ h
    cases l with
    | nil => exact Nat.le_refl _
    | cons a l => have := h a (by simp); omega
  | succ n ih =>
    intro l hd h
    have h1 := ih (l.erase (n : Int)) (hd.erase _) (fun x hx => by
      have h2 := (hd.mem_erase_iff).1 hx
      have := h x h2.2
      have := h2.1
      omega)
    by_cases hm : (n : Int) ∈ l
    · rw [List.length_erase_of_mem hm] at h1; omega
    · rw [List.erase_of_not_mem hm] at h1; omega

theorem row_set (ms : List (List Int)) (c d : Int) (r : List Int) (h0 : 0 ≤ c) (h1 : c < ms.length) (hd : 0 ≤ d) : row (ms.set c.toNat r) d = if d = c then r else row ms d := by
  unfold row
  rw [List.getD_eq_getElem?_getD, List.getElem?_set, List.getD_eq_getElem?_getD]
  by_cases h : d = c
  · subst h
    rw [if_pos rfl, if_pos (by omega), if_pos rfl]
    rfl
  · rw [if_neg (by omega), if_neg h]
theorem row_app (ms : List (List Int)) (c d x : Int) (h0 : 0 ≤ c) (h1 : c < ms.length) (hd : 0 ≤ d) : row (app ms c x) d = if d = c then row ms c ++ [x] else row ms d := row_set ms c d _ h0 h1 hd
theorem app_length (ms : List (List Int)) (c x : Int) : (app ms c x).length = ms.length := by simp [app]
theorem row_rep (n : Nat) (c : Int) : row (List.replicate n []) c = [] := by
  unfold row
  rw [List.getD_eq_getElem?_getD]
  by_cases h : c.toNat < n
  · rw [List.getElem?_eq_getElem (by simpa using h)]; simp
  · rw [List.getElem?_eq_none (by simpa using h)]; rfl
theorem rd_rep0 (n : Nat) (c : Int) : rd (List.replicate n 0) c = 0 := by
  unfold rd
  rw [List.getD_eq_getElem?_getD]
  by_cases h : c.toNat < n
  · rw [List.getElem?_eq_getElem (by simpa using h)]; simp
  · rw [List.getElem?_eq_none (by simpa using h)]; rfl
theorem row_mem (ms : List (List Int)) (i : Nat) (h : i < ms.length) : row ms (i : Int) = ms[i] := by
  unfold row
  rw [Int.toNat_natCast, List.getD_eq_getElem?_getD, List.getElem?_eq_getElem h]
  rfl

/-- The nodes of component c, ascending. -/
def mem (cm : List Int) (c : Int) : List Int := (iota cm.length).filter fun v => rd cm v == c
theorem mem_mem {cm : List Int} {c x : Int} : x ∈ mem cm c ↔ (0 ≤ x ∧ x < cm.length) ∧ rd cm x = c := by
  unfold mem
  rw [List.mem_filter, mem_iota]
  simp
theorem mem_len (cm : List Int) (c : Int) : (mem cm c).length ≤ cm.length := by
  unfold mem
  exact Nat.le_trans (List.length_filter_le _ _) (by rw [iota_length]; exact Nat.le_refl _)

theorem grp_run {es : List (List Int)} {cm : List Int} {n : Int} (S : Sol es cm n) (hn : es.length < 1000000) : ∀ (m k i : Nat) (ms : List (List Int)), i + m = cm.length → m < k → (ms.length : Int) = n →
    (∀ c, 0 ≤ c → c < n → row ms c = (iota i).filter fun v => rd cm v == c) → ∃ ms', grp k cm i ms = some ms' ∧ (ms'.length : Int) = n ∧ ∀ c, 0 ≤ c → c < n → row ms' c = mem cm c := by
  intro m
  induction m with
  | zero =>
    intro k i ms hi hk hl h
    obtain ⟨k, rfl⟩ : ∃ m, k = m + 1 := ⟨k - 1, by omega⟩
    obtain rfl : i = cm.length := by omega
    unfold grp
    rw [if_neg (by omega)]
    exact ⟨ms, rfl, hl, h⟩
  | succ m ih =>
    intro k i ms hi hk hl h
    obtain ⟨k, rfl⟩ : ∃ m, k = m + 1 := ⟨k - 1, by omega⟩
    have hr := S.rng i ⟨by omega, by have := S.len; omega⟩
    have hlen : (row ms (rd cm i)).length ≤ i := by
      rw [h _ hr.1 hr.2]
      exact Nat.le_trans (List.length_filter_le _ _) (by rw [iota_length]; exact Nat.le_refl _)
    unfold grp
    rw [if_pos (by omega), if_pos ⟨hr.1, by omega, by have := S.len; omega⟩, show (i : Int) + 1 = ((i + 1 : Nat) : Int) by omega]
    refine ih k (i + 1) _ (by omega) (by omega) (by rw [app_length]; exact hl) ?_
    intro c h0 h1
    rw [row_app _ _ _ _ hr.1 (by omega) h0, iota_succ, List.filter_append, ← h c h0 h1]
    by_cases e : c = rd cm i
    · subst e
      rw [if_pos rfl]
      simp
    · rw [if_neg e]
      have : (rd cm i == c) = false := by simpa using fun h => e h.symm
      simp [this]

/-- Component c has an edge to component d. -/
def Dep (es : List (List Int)) (cm : List Int) (c d : Int) : Prop := c ≠ d ∧ ∃ v ∈ mem cm c, ∃ w ∈ row es v, rd cm w = d

structure J (n : Int) (c : Int) (O0 : Int → Int) (U0 : Int → List Int) (u : US) : Prop where
  lo : (u.opn.length : Int) = n
  lu : (u.users.length : Int) = n
  nd : u.seen.Nodup
  hc : c ∈ u.seen
  rg : ∀ d ∈ u.seen, 0 ≤ d ∧ d < n
  oo : ∀ d, 0 ≤ d → d ≠ c → rd u.opn d = O0 d
  oc : rd u.opn c = u.seen.length - 1
  us : ∀ d, 0 ≤ d → d < n → row u.users d = U0 d ++ (if d ∈ u.seen ∧ d ≠ c then [c] else [])

theorem wf_small (x : Int) (h0 : 0 ≤ x) (h1 : x < 1000000) : (Lit.int .i64 x).wf = true := by
  have a : IntKind.i64.min = -9223372036854775808 := rfl
  have b : IntKind.i64.max = 9223372036854775807 := rfl
  simp only [Lit.wf, a, b, Bool.and_eq_true, decide_eq_true_eq]
  omega

theorem link_J {n c d : Int} {O0 : Int → Int} {U0 : Int → List Int} {u : US} (h : J n c O0 U0 u) (hn : n < 1000000) (hd0 : 0 ≤ d) (hd1 : d < n) (hs : d ∉ u.seen) : J n c O0 U0 (link c d u) := by
  have hc := h.rg c h.hc
  have hlo := h.lo
  have hlu := h.lu
  have hlen : u.seen.length ≤ n.toNat := nodup_le _ _ h.nd (fun x hx => by have := h.rg x hx; omega)
  have hdc : d ≠ c := by rintro rfl; exact hs h.hc
  refine ⟨?_, ?_, ?_, ?_, ?_, ?_, ?_, ?_⟩
  · show ((u.opn.set _ _).length : Int) = n
    rw [List.length_set]; exact h.lo
  · show ((app u.users d c).length : Int) = n
    rw [app_length]; exact h.lu
  · show (u.seen ++ [d]).Nodup
    rw [List.nodup_append]
    exact ⟨h.nd, by simp, fun a ha b hb e => by rw [List.mem_singleton] at hb; subst hb; subst e; exact hs ha⟩
  · exact List.mem_append.2 (.inl h.hc)
  · intro x hx
    rcases List.mem_append.1 (show x ∈ u.seen ++ [d] from hx) with e | e
    · exact h.rg x e
    · rw [List.mem_singleton] at e; subst e; exact ⟨hd0, hd1⟩
  · intro x h0 hx
    show rd (u.opn.set c.toNat _) x = _
    rw [rd_set _ _ _ _ hc.1 (by omega) h0, if_neg hx]
    exact h.oo x h0 hx
  · show rd (u.opn.set c.toNat _) c = ((u.seen ++ [d]).length : Int) - 1
    rw [rd_set _ _ _ _ hc.1 (by omega) hc.1, if_pos rfl, h.oc, w64 _ (by omega) (by omega), List.length_append, List.length_singleton]
    omega
  · intro x h0 h1
    show row (app u.users d c) x = U0 x ++ (if x ∈ u.seen ++ [d] ∧ x ≠ c then [c] else [])
    rw [row_app _ _ _ _ hd0 (by omega) h0]
    by_cases e : x = d
    · subst e
      rw [if_pos rfl, h.us x h0 h1, if_neg (fun h => hs h.1), if_pos ⟨by simp, hdc⟩]
      simp
    · rw [if_neg e, h.us x h0 h1]
      have : (x ∈ u.seen ++ [d]) ↔ x ∈ u.seen := by simp [e]
      simp only [this]

theorem ed3_run {es : List (List Int)} {cm : List Int} {n c : Int} {O0 : Int → Int} {U0 : Int → List Int} (S : Sol es cm n) (hn : es.length < 1000000) (hU : ∀ d, 0 ≤ d → d < n → (U0 d).length ≤ 1000000) (l : List Int) (hl : ∀ w ∈ l, nd es w) :
    ∀ (m k i : Nat) (u : US), i + m = l.length → m < k → J n c O0 U0 u → ∃ u', ed3 k cm c l i u = some u' ∧ J n c O0 U0 u' ∧ ∀ x, x ∈ u'.seen ↔ x ∈ u.seen ∨ ∃ w ∈ l.drop i, rd cm w = x := by
  intro m
  induction m with
  | zero =>
    intro k i u hi hk hJ
    obtain ⟨k, rfl⟩ : ∃ m, k = m + 1 := ⟨k - 1, by omega⟩
    unfold ed3
    rw [if_neg (by omega)]
    refine ⟨u, rfl, hJ, fun x => ?_⟩
    rw [List.drop_eq_nil_of_le (by omega)]
    simp
  | succ m ih =>
    intro k i u hi hk hJ
    obtain ⟨k, rfl⟩ : ∃ m, k = m + 1 := ⟨k - 1, by omega⟩
    have hil : i < l.length := by omega
    have hw : nd es (rd l i) := hl _ (by rw [rd_at l i hil]; exact List.getElem_mem _)
    have hr := S.rng _ hw
    have hN := S.n0
    have hdrop : l.drop i = rd l i :: l.drop (i + 1) := by rw [rd_at l i hil]; exact List.drop_eq_getElem_cons hil
    have hlen : u.seen.length ≤ n.toNat := nodup_le _ _ hJ.nd (fun x hx => by have := hJ.rg x hx; omega)
    have hlo := hJ.lo
    have hlu := hJ.lu
    have hcr := hJ.rg c hJ.hc
    unfold ed3
    rw [if_pos (by omega), if_pos ⟨hw.1, by rw [S.len]; exact hw.2, wf_small _ hr.1 (by omega)⟩, show (i : Int) + 1 = ((i + 1 : Nat) : Int) by omega]
    by_cases hs : rd cm (rd l i) ∈ u.seen
    · rw [if_pos (List.contains_iff_mem.2 hs)]
      obtain ⟨u', a1, a2, a3⟩ := ih k (i + 1) u (by omega) (by omega) hJ
      refine ⟨u', a1, a2, fun x => ?_⟩
      rw [a3, hdrop]
      simp only [List.mem_cons, exists_eq_or_imp]
      constructor
      · rintro (h | h)
        · exact .inl h
        · exact .inr (.inr h)
      · rintro (h | h | h)
        · exact .inl h
        · subst h; exact .inl hs
        · exact .inr h
    · rw [if_neg (fun h => hs (List.contains_iff_mem.1 h))]
      have hrow := hJ.us _ hr.1 hr.2
      have hrl : (row u.users (rd cm (rd l i))).length ≤ 1000001 := by
        rw [hrow, List.length_append]
        have := hU _ hr.1 hr.2
        split <;> simp <;> omega
      rw [if_pos ⟨hcr.1, by omega, hr.1, by omega, by omega, by omega⟩]
      obtain ⟨u', a1, a2, a3⟩ := ih k (i + 1) _ (by omega) (by omega) (link_J hJ (by omega) hr.1 hr.2 hs)
      refine ⟨u', a1, a2, fun x => ?_⟩
      rw [a3, hdrop]
      show x ∈ u.seen ++ [rd cm (rd l i)] ∨ _ ↔ _
      simp only [List.mem_cons, exists_eq_or_imp, List.mem_append, List.not_mem_nil, or_false]
      constructor
      · rintro ((h | h) | h)
        · exact .inl h
        · exact .inr (.inl h.symm)
        · exact .inr (.inr h)
      · rintro (h | h | h)
        · exact .inl (.inl h)
        · exact .inl (.inr h.symm)
        · exact .inr h

theorem ed2_run {es : List (List Int)} {cm : List Int} {n c : Int} {O0 : Int → Int} {U0 : Int → List Int} (hvld : Vld es) (S : Sol es cm n) (hn : es.length < 1000000) {L : Nat} (hL : ∀ v, (row es v).length ≤ L)
    (hU : ∀ d, 0 ≤ d → d < n → (U0 d).length ≤ 1000000) (l : List Int) (hl : ∀ w ∈ l, nd es w) :
    ∀ (m k i : Nat) (u : US), i + m = l.length → m + L + 1 < k → J n c O0 U0 u → ∃ u', ed2 k es cm c l i u = some u' ∧ J n c O0 U0 u' ∧ ∀ x, x ∈ u'.seen ↔ x ∈ u.seen ∨ ∃ v ∈ l.drop i, ∃ w ∈ row es v, rd cm w = x := by
  intro m
  induction m with
  | zero =>
    intro k i u hi hk hJ
    obtain ⟨k, rfl⟩ : ∃ m, k = m + 1 := ⟨k - 1, by omega⟩
    unfold ed2
    rw [if_neg (by omega)]
    refine ⟨u, rfl, hJ, fun x => ?_⟩
    rw [List.drop_eq_nil_of_le (by omega)]
    simp
  | succ m ih =>
    intro k i u hi hk hJ
    obtain ⟨k, rfl⟩ : ∃ m, k = m + 1 := ⟨k - 1, by omega⟩
    have hil : i < l.length := by omega
    have hw : nd es (rd l i) := hl _ (by rw [rd_at l i hil]; exact List.getElem_mem _)
    have hdrop : l.drop i = rd l i :: l.drop (i + 1) := by rw [rd_at l i hil]; exact List.drop_eq_getElem_cons hil
    unfold ed2
    rw [if_pos (by omega), if_pos ⟨hw.1, hw.2⟩, show (i : Int) + 1 = ((i + 1 : Nat) : Int) by omega]
    obtain ⟨u1, b1, b2, b3⟩ := ed3_run S hn hU (row es (rd l i)) (hvld _ hw) (row es (rd l i)).length k 0 u (by omega) (by have := hL (rd l i); omega) hJ
    rw [show ((0 : Int)) = ((0 : Nat) : Int) from rfl, b1, Option.bind_some]
    obtain ⟨u', a1, a2, a3⟩ := ih k (i + 1) u1 (by omega) (by omega) b2
    refine ⟨u', a1, a2, fun x => ?_⟩
    rw [a3, b3, hdrop]
    simp only [List.mem_cons, exists_eq_or_imp, List.drop_zero]
    exact or_assoc

structure K1 (es : List (List Int)) (cm : List Int) (n c : Int) (u : US) : Prop where
  lo : (u.opn.length : Int) = n
  lu : (u.users.length : Int) = n
  dn : ∀ d, 0 ≤ d → d < c → ∃ P : List Int, P.Nodup ∧ (∀ x, x ∈ P ↔ Dep es cm d x) ∧ rd u.opn d = P.length
  op : ∀ d, c ≤ d → rd u.opn d = 0
  us : ∀ d, 0 ≤ d → d < n → (row u.users d).Nodup ∧ ∀ x, x ∈ row u.users d ↔ (0 ≤ x ∧ x < c) ∧ Dep es cm x d

theorem ed1_run {es : List (List Int)} {cm : List Int} {n : Int} {ms : List (List Int)} (hvld : Vld es) (S : Sol es cm n) (hn : es.length < 1000000) {L : Nat} (hL : ∀ v, (row es v).length ≤ L) (hml : (ms.length : Int) = n) (hms : ∀ c, 0 ≤ c → c < n → row ms c = mem cm c) :
    ∀ (m k i : Nat) (u : US), i + m = ms.length → m + es.length + L + 2 < k → K1 es cm n i u → ∃ u', ed1 k es cm ms i u = some u' ∧ K1 es cm n n u' := by
  intro m
  induction m with
  | zero =>
    intro k i u hi hk hJ
    obtain ⟨k, rfl⟩ : ∃ m, k = m + 1 := ⟨k - 1, by omega⟩
    unfold ed1
    rw [if_neg (by omega)]
    exact ⟨u, rfl, by rw [← hml, show ms.length = i by omega]; rw [← hml] at hJ; rw [show ms.length = i by omega] at hJ; exact hJ⟩
  | succ m ih =>
    intro k i u hi hk hJ
    obtain ⟨k, rfl⟩ : ∃ m, k = m + 1 := ⟨k - 1, by omega⟩
    have hN := S.n0
    have hi0 : (0 : Int) ≤ i := by omega
    have hin : (i : Int) < n := by omega
    have hbound : ∀ d, 0 ≤ d → d < n → (row u.users d).length ≤ 1000000 := fun d h0 h1 => by
      have := nodup_le n.toNat _ (hJ.us d h0 h1).1 (fun x hx => by have := ((hJ.us d h0 h1).2 x).1 hx; omega)
      omega
    have hlm : (row ms (i : Int)).length ≤ es.length := by rw [hms _ hi0 hin, ← S.len]; exact mem_len _ _
    have hnd : ∀ w ∈ row ms (i : Int), nd es w := fun w hw => by
      rw [hms _ hi0 hin] at hw
      have := (mem_mem.1 hw).1
      rw [S.len] at this
      exact this
    have hJ0 : J n i (rd u.opn) (row u.users) { u with seen := [(i : Int)] } := by
      refine ⟨hJ.lo, hJ.lu, by simp, by simp, ?_, fun _ _ _ => rfl, ?_, ?_⟩
      · intro d hd
        rw [List.mem_singleton] at hd
        subst hd
        exact ⟨hi0, hin⟩
      · show rd u.opn i = _
        rw [hJ.op i (Int.le_refl _)]
        rfl
      · intro d h0 h1
        rw [if_neg (by simp)]
        simp
    unfold ed1
    rw [if_pos (by omega), if_pos (wf_small _ hi0 (by omega))]
    obtain ⟨u1, b1, b2, b3⟩ := ed2_run hvld S hn hL hbound (row ms i) hnd (row ms i).length k 0 _ (by omega) (by omega) hJ0
    rw [show ((0 : Int)) = ((0 : Nat) : Int) from rfl, b1, Option.bind_some, show (i : Int) + 1 = ((i + 1 : Nat) : Int) by omega]
    refine ih k (i + 1) u1 (by omega) (by omega) ?_
    have hseen : ∀ x, x ∈ u1.seen ↔ x = i ∨ ∃ v ∈ mem cm i, ∃ w ∈ row es v, rd cm w = x := by
      intro x
      rw [b3, hms _ hi0 hin]
      simp
    have hdep : ∀ x, (x ∈ u1.seen ∧ x ≠ i) ↔ Dep es cm i x := by
      intro x
      rw [hseen]
      unfold Dep
      constructor
      · rintro ⟨h | h, hx⟩
        · exact absurd h hx
        · exact ⟨Ne.symm hx, h⟩
      · rintro ⟨hx, h⟩
        exact ⟨.inr h, Ne.symm hx⟩
    refine ⟨b2.lo, b2.lu, ?_, ?_, ?_⟩
    · intro d h0 h1
      by_cases e : d = i
      · subst e
        refine ⟨u1.seen.erase i, b2.nd.erase _, fun x => ?_, ?_⟩
        · rw [b2.nd.mem_erase_iff, ← hdep]
          exact And.comm
        · rw [b2.oc, List.length_erase_of_mem b2.hc]
          have := List.length_pos_of_mem b2.hc
          omega
      · rw [b2.oo d h0 e]
        exact hJ.dn d h0 (by omega)
    · intro d hd
      rw [b2.oo d (by omega) (by omega)]
      exact hJ.op d (by omega)
    · intro d h0 h1
      have hu := hJ.us d h0 h1
      rw [b2.us d h0 h1]
      by_cases hx : d ∈ u1.seen ∧ d ≠ i
      · rw [if_pos hx]
        refine ⟨?_, fun x => ?_⟩
        · rw [List.nodup_append]
          refine ⟨hu.1, by simp, fun a ha b hb e => ?_⟩
          rw [List.mem_singleton] at hb
          subst hb; subst e
          have := ((hu.2 _).1 ha).1
          omega
        · rw [List.mem_append, hu.2, List.mem_singleton]
          constructor
          · rintro (h | h)
            · exact ⟨by omega, h.2⟩
            · subst h; exact ⟨by omega, (hdep d).1 hx⟩
          · rintro ⟨h1, h2⟩
            by_cases e : x = i
            · exact .inr e
            · exact .inl ⟨by omega, h2⟩
      · rw [if_neg hx, List.append_nil]
        refine ⟨hu.1, fun x => ?_⟩
        rw [hu.2]
        constructor
        · rintro ⟨h1, h2⟩; exact ⟨by omega, h2⟩
        · rintro ⟨h1, h2⟩
          refine ⟨?_, h2⟩
          by_cases e : x = i
          · subst e; exact absurd ((hdep d).2 h2) hx
          · omega
end Tp
end Go.Proofs.Ytpmjpngmmphkmaa
