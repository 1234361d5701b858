/- Part 3 of 5 of one proof: Levels of the reference: what the call does, by its Lean function; in the form in which printed texts call it -/
import Derived.Test.YtpmjpngmmphkmaaMLevels1
import Derived.Test.YtpmjpngmmphkmaaMLevels2
set_option linter.unusedVariables false
set_option linter.unusedSimpArgs false
namespace Go.Proofs.Ytpmjpngmmphkmaa.P
open Go.RowKit Go.Proofs.YtpmjpngmmphkmaaW.PrintWords Go.Proofs.YtpmjpngmmphkmaaW.PrintLast Go.Proofs.YtpmjpngmmphkmaaW.PrintMore
attribute [local go_sem] max2_int min2_int max_two min_two max_three min_three max_four min_four   -- for this text's walks alone
set_option linter.unusedVariables false
set_option linter.unusedSimpArgs false

/-! ### slices_Contains_int_int: function 31 -/
noncomputable def slices_Contains_int_int.f (k : Nat) (l0 : List Int) (a1 : Int) : Option (Bool) := (slices_Index_int_int.f k l0 a1).bind fun t117 => (some (decide (t117 ≥ 0)))
set_option maxHeartbeats 8000000 in
set_option maxRecDepth 100000 in
theorem slices_Contains_int_int.calls (k : Nat) (A0 : Option Addr) (c0 : Nat) (l0 : List Int) (a1 : Int) (r : Bool) (w : World) (hr0 : Kd.C (Kd.int .i64) w A0 l0.length l0) (hc0 : l0.length ≤ c0) (h : slices_Contains_int_int.f k l0 a1 = some r) :
    Calls Try.prog 31 #[.slice A0 l0.length c0, .int .i64 a1] w fun e w' => e = .returned (.bool r) ∧ Drawn0 w w' := by
  have HR0 := aM hr0
  have HC0 := aM hc0
  clear hr0 hc0
  have H : ((slices_Index_int_int.f k l0 a1).bind fun t117 => (some (decide (t117 ≥ 0)))) = some r := h
  clear h
  replace H := Option.bind_eq_some_iff.mp H
  obtain ⟨t117, A30, H⟩ := H
  replace H : (some (decide (t117 ≥ 0))) = some r := H
  have A3 := aM A30
  clear A30
  obtain rfl := Option.some.inj H
  go_enter Try.func31, Try.ntmps31
  go_wp2_with (first | ((with_reducible refine gate_callee (f := 42) rfl ?_); refine goesL_ (some 7) rfl rfl Try.func42 (by kernel_rfl) rfl #[.slice A0 l0.length c0, .int .i64 a1] rfl (by (try simp only [List.map_toArray, List.map_cons, List.map_nil]); first | done | rfl | (simp only [List.length_drop, List.length_take]; rfl)) ?_; (with_reducible refine (slices_Index_int_int.calls k _ _ l0 a1 t117 _ ?side1 ?side2 A3.out).mono ?_); (case side1 => repeat (first | exact HR0.out | (with_reducible refine Kd.C_alloc ?_ _) | (with_reducible refine Kd.C_drewN ?_ _) | (with_reducible refine Kd.C_drew ?_))); (case side2 => exact HC0.out); rintro e w' ⟨rfl, ⟨nd, rfl⟩⟩; refine ⟨_, rfl, ?_⟩))
  go_ret
  exact ⟨by first | rfl | (simp; done) | (simp [*]; done), by repeat (first | exact Drawn0.refl _ | apply Drawn0.step)⟩

/-! ### graph_reached: function 33 -/
noncomputable def graph_reached.l0 : Nat → List (List Int) → List Bool → List Int → Option (List Bool)
  | 0, _, _, _ => none
  | k + 1, x0, x5, x6 => if (x6.length : Int) > 0 then (if 0 ≤ (wrap64 ((x6.length : Int) - 1)) then (if (wrap64 ((x6.length : Int) - 1)) < (x6.length : Int) then (if (wrap64 ((x6.length : Int) - 1)) ≤ (x6.length : Int) then ((some (x6.take ((wrap64 ((x6.length : Int) - 1)) : Int).toNat : List Int)).bind fun y125 => (if 0 ≤ (rd x6 (wrap64 ((x6.length : Int) - 1))) then (if (rd x6 (wrap64 ((x6.length : Int) - 1))) < (x5.length : Int) then (if (rdOf false x5 (rd x6 (wrap64 ((x6.length : Int) - 1))) = true) then (graph_reached.l0 k x0 x5 y125) else (if (rd x6 (wrap64 ((x6.length : Int) - 1))) < (x0.length : Int) then (if y125.length + (rd_L1 x0 (rd x6 (wrap64 ((x6.length : Int) - 1)))).length < 17592186044416 then (graph_reached.l0 k x0 (x5.set ((rd x6 (wrap64 ((x6.length : Int) - 1))) : Int).toNat true) (y125 ++ (rd_L1 x0 (rd x6 (wrap64 ((x6.length : Int) - 1)))))) else (none)) else (none))) else (none)) else (none))) else (none)) else (none)) else (none)) else (some x5)
noncomputable def graph_reached.f (k : Nat) (l0 : List (List Int)) (l1 : List Int) : Option (List Bool) := if 0 ≤ (l0.length : Int) then (if ((l0.length : Int) : Int).toNat ≤ 281474976710656 then ((slices_Clone_int.f l1).bind fun t121 => (graph_reached.l0 k l0 (List.replicate ((l0.length : Int) : Int).toNat false) t121)) else (none)) else (none)
set_option maxHeartbeats 8000000 in
set_option maxRecDepth 100000 in
theorem graph_reached.calls (k : Nat) (A0 : Option Addr) (c0 : Nat) (l0 : List (List Int)) (A1 : Option Addr) (c1 : Nat) (l1 : List Int) (r : List Bool) (w : World) (hr0 : Kd.C (Kd.slice 3 (Kd.int .i64)) w A0 l0.length l0) (hc0 : l0.length ≤ c0) (hr1 : Kd.C (Kd.int .i64) w A1 l1.length l1) (hc1 : l1.length ≤ c1) (h : graph_reached.f k l0 l1 = some r) :
    Calls Try.prog 33 #[.slice A0 l0.length c0, .slice A1 l1.length c1] w fun e w' => ∃ v0_ : Value, e = .returned (v0_) ∧ Kd.R Kd.bool 4 w' w.heap.size (fun _ => True) v0_ r ∧ Below w.heap.size w w' := by
  have HR0 := aM hr0
  have HC0 := aM hc0
  clear hr0 hc0
  have HR1 := aM hr1
  have HC1 := aM hc1
  clear hr1 hc1
  have HB := aM (Below.refl w.heap.size w)
  have H : (if 0 ≤ (l0.length : Int) then (if ((l0.length : Int) : Int).toNat ≤ 281474976710656 then ((slices_Clone_int.f l1).bind fun t121 => (graph_reached.l0 k l0 (List.replicate ((l0.length : Int) : Int).toNat false) t121)) else (none)) else (none)) = some r := h
  clear h
  by_cases c3 : 0 ≤ (l0.length : Int)
  · rw [if_pos c3] at H
    have c3b0 := eq_true c3
    have c3b1 : decide (0 ≤ (l0.length : Int)) = true := decide_eq_true c3
    clear c3
    by_cases c4 : ((l0.length : Int) : Int).toNat ≤ 281474976710656
    · rw [if_pos c4] at H
      have c4b0 := eq_true c4
      have c4b1 : decide (((l0.length : Int) : Int).toNat ≤ 281474976710656) = true := decide_eq_true c4
      clear c4
      obtain ⟨y118, hy118⟩ : ∃ y_ : List Bool, y_ = (List.replicate ((l0.length : Int) : Int).toNat false) := ⟨_, rfl⟩
      replace H : ((slices_Clone_int.f l1).bind fun t121 => (graph_reached.l0 k l0 y118 t121)) = some r := by first | (rw [hy118]; with_reducible exact H) | (have H2_ := (Option.bind_some _ _).symm.trans H; rw [hy118]; with_reducible exact H2_) | (have H2_ := (Option.bind_some _ _).symm.trans H; with_reducible exact H2_) | with_reducible exact H | (rw [hy118]; exact H) | exact H
      have Ny118 := aM hy118
      clear hy118
      replace H := Option.bind_eq_some_iff.mp H
      obtain ⟨t121, A50, H⟩ := H
      replace H : (graph_reached.l0 k l0 y118 t121) = some r := H
      have A5 := aM A50
      clear A50
      have H' := aM H
      clear H
      go_enter Try.func33, Try.ntmps33
      go_wp2_with (first | ((with_reducible refine gate_dst (N := 10) rfl ?_); refine Kd.R_make Kd.bool _ 4 rfl (N := 10) rfl 48 _ _ rfl (l0.length : Int) rfl rfl Try.underlying48 (.bool false) 1 info4 rfl (by decide) (by omega) false (ok := fun _ => True) (okp := fun _ => True) rfl (fun _ hk => hk) trivial (of_decide_eq_true (by first | (with_reducible assumption) | assumption)) (Nat.le_trans (Nat.mul_le_mul_right _ (of_decide_eq_true (by first | (with_reducible assumption) | assumption) : (l0.length : Int).toNat ≤ 281474976710656)) (by omega)) (Below.refl _ _) (Nat.le_refl _) ?_; intro v119 w6 ho7 hb hg_ hnew_; clear hg_ hnew_; (first | rw [← Ny118.out] at ho7 | (simp only [Int.reduceToNat] at ho7; rw [← Ny118.out] at ho7)); have n0_ := aM (Kd.R_lower ho7 (below_size (by repeat (first | (with_reducible first | exact HB.out | apply bA | apply bN | apply bD) | exact HB.out)))); have n1_ := aM (below_step (by repeat (first | (with_reducible first | exact HB.out | apply bA | apply bN | apply bD) | exact HB.out)) hb); clear HB; have HO120 := n0_; have HB := n1_; clear n0_ n1_; clear hb ho7) | ((with_reducible refine gate_callee (f := 43) rfl ?_); refine goesL_ (some 12) rfl rfl Try.func43 (by kernel_rfl) rfl #[.slice A1 l1.length c1] rfl (by (try simp only [List.map_toArray, List.map_cons, List.map_nil]); first | done | rfl | (simp only [List.length_drop, List.length_take]; rfl)) ?_; (with_reducible refine (slices_Clone_int.calls _ _ l1 t121 _ ?side1 ?side2 A5.out).mono ?_); (case side1 => repeat (first | exact (Kd.C_below HR1.out HB.out) | (with_reducible refine Kd.C_alloc ?_ _) | (with_reducible refine Kd.C_drewN ?_ _) | (with_reducible refine Kd.C_drew ?_))); (case side2 => exact HC1.out); rintro e w8 ⟨v122, rfl, ho0, hb⟩; refine ⟨_, rfl, ?_⟩; have n0_ := aM (Kd.R_below (by (with_reducible repeat (first | apply Kd.R_alloc | apply Kd.R_drewN | apply Kd.R_drew)); exact HO120.out) hb); have n1_ := aM (Kd.R_lower ho0 (below_size (by repeat (first | (with_reducible first | exact HB.out | apply bA | apply bN | apply bD) | exact HB.out)))); have n2_ := aM (below_step (by repeat (first | (with_reducible first | exact HB.out | apply bA | apply bN | apply bD) | exact HB.out)) hb); clear HO120; clear HB; have HO120 := n0_; have HO123 := n1_; have HB := n2_; clear n0_ n1_ n2_; (try clear hb); (try clear hb2); (try clear hk); (try clear hi); (try clear ho0)))
      go_loopg [6] k (fun kq v6 w' => ∃ (x5_1 : List Bool) (x6_1 : List Int), Aside0 (graph_reached.l0 kq l0 x5_1 x6_1 = some r) ∧ Aside0 (kq ≤ k) ∧ Aside0 (Kd.R Kd.bool 4 w' w.heap.size (fun _ => True) v119 x5_1) ∧ Aside0 (Kd.R (Kd.int .i64) 3 w' w.heap.size (fun _ => True) v6 x6_1) ∧ Aside0 (Below w.heap.size w w'))
      case atStart => exact ⟨(y118), (t121), H', ⟨Nat.le_refl _⟩, ⟨by (with_reducible repeat (first | apply Kd.R_alloc | apply Kd.R_drewN | apply Kd.R_drew)); exact HO120.out⟩, ⟨by (with_reducible repeat (first | apply Kd.R_alloc | apply Kd.R_drewN | apply Kd.R_drew)); exact HO123.out⟩, ⟨by repeat (first | (with_reducible first | exact HB.out | apply bA | apply bN | apply bD) | exact HB.out)⟩⟩
      case round =>
        clear H'
        try clear c1
        try clear p2
        try clear c3
        try clear c3b0
        try clear c3b1
        try clear c4
        try clear c4b0
        try clear c4b1
        obtain ⟨x5_1, x6_1, HA, HK1, HO_5, HO_6, HB⟩ := hrel
        cases gk with
        | zero => exact absurd HA.out (by simp [graph_reached.l0])
        | succ k1 =>
          have H := HA.out
          clear HA
          simp only [graph_reached.l0] at H
          by_cases c9 : (x6_1.length : Int) > 0
          · rw [if_pos c9] at H
            have c9b0 : decide (0 < (x6_1.length : Int)) = true := decide_eq_true c9
            have c9b1 : decide (0 < x6_1.length) = true := decide_eq_true (by omega)
            clear c9
            obtain ⟨ji10, hji10⟩ : ∃ j_ : Int, (wrap64 ((x6_1.length : Int) - 1)) = j_ := ⟨_, rfl⟩
            replace H : (if 0 ≤ (ji10) then (if (ji10) < (x6_1.length : Int) then (if (ji10) ≤ (x6_1.length : Int) then ((some (x6_1.take ((ji10) : Int).toNat : List Int)).bind fun y125 => (if 0 ≤ (rd x6_1 (ji10)) then (if (rd x6_1 (ji10)) < (x5_1.length : Int) then (if (rdOf false x5_1 (rd x6_1 (ji10)) = true) then (graph_reached.l0 k1 l0 x5_1 y125) else (if (rd x6_1 (ji10)) < (l0.length : Int) then (if y125.length + (rd_L1 l0 (rd x6_1 (ji10))).length < 17592186044416 then (graph_reached.l0 k1 l0 (x5_1.set ((rd x6_1 (ji10)) : Int).toNat true) (y125 ++ (rd_L1 l0 (rd x6_1 (ji10))))) else (none)) else (none))) else (none)) else (none))) else (none)) else (none)) else (none)) = some r := by first | (rw [hji10] at H; exact H) | (simp only [hji10] at H ⊢; exact H)
            have hji10w : (IntKind.i64.wrap ((x6_1.length : Int) - 1)) = ji10 := (i64_w _).trans hji10
            by_cases c11 : 0 ≤ (ji10)
            · rw [if_pos c11] at H
              have c11b0 : decide (0 ≤ (ji10)) = true := decide_eq_true c11
              clear c11
              by_cases c12 : (ji10) < (x6_1.length : Int)
              · rw [if_pos c12] at H
                have c12b0 : decide ((ji10) < (x6_1.length : Int)) = true := decide_eq_true c12
                clear c12
                by_cases c13 : (ji10) ≤ (x6_1.length : Int)
                · rw [if_pos c13] at H
                  have c13b0 := eq_true c13
                  have c13b1 : decide ((ji10) ≤ (x6_1.length : Int)) = true := decide_eq_true c13
                  clear c13
                  obtain ⟨y125, hy125⟩ : ∃ y_ : List Int, y_ = (x6_1.take ((ji10) : Int).toNat) := ⟨_, rfl⟩
                  replace H : (if 0 ≤ (rd x6_1 (ji10)) then (if (rd x6_1 (ji10)) < (x5_1.length : Int) then (if (rdOf false x5_1 (rd x6_1 (ji10)) = true) then (graph_reached.l0 k1 l0 x5_1 y125) else (if (rd x6_1 (ji10)) < (l0.length : Int) then (if y125.length + (rd_L1 l0 (rd x6_1 (ji10))).length < 17592186044416 then (graph_reached.l0 k1 l0 (x5_1.set ((rd x6_1 (ji10)) : Int).toNat true) (y125 ++ (rd_L1 l0 (rd x6_1 (ji10))))) else (none)) else (none))) else (none)) else (none)) = some r := by first | (rw [hy125]; with_reducible exact H) | (have H2_ := (Option.bind_some _ _).symm.trans H; rw [hy125]; with_reducible exact H2_) | (have H2_ := (Option.bind_some _ _).symm.trans H; with_reducible exact H2_) | with_reducible exact H | (rw [hy125]; exact H) | exact H
                  have Ny125 := aM hy125
                  clear hy125
                  by_cases c14 : 0 ≤ (rd x6_1 (ji10))
                  · rw [if_pos c14] at H
                    have c14b0 : decide (0 ≤ (rd x6_1 (ji10))) = true := decide_eq_true c14
                    clear c14
                    by_cases c15 : (rd x6_1 (ji10)) < (x5_1.length : Int)
                    · rw [if_pos c15] at H
                      have c15b0 : decide ((rd x6_1 (ji10)) < (x5_1.length : Int)) = true := decide_eq_true c15
                      clear c15
                      obtain ⟨bq16, hbq16⟩ : ∃ b_ : Bool, b_ = (rdOf false x5_1 (rd x6_1 (ji10))) := ⟨_, rfl⟩
                      replace H : (if (bq16 = true) then (graph_reached.l0 k1 l0 x5_1 y125) else (if (rd x6_1 (ji10)) < (l0.length : Int) then (if y125.length + (rd_L1 l0 (rd x6_1 (ji10))).length < 17592186044416 then (graph_reached.l0 k1 l0 (x5_1.set ((rd x6_1 (ji10)) : Int).toNat true) (y125 ++ (rd_L1 l0 (rd x6_1 (ji10))))) else (none)) else (none))) = some r := by rw [← hbq16] at H; exact H
                      have Nbq16 := aM hbq16
                      clear hbq16
                      by_cases c17 : (bq16 = true)
                      · subst c17
                        have H1 : (graph_reached.l0 k1 l0 x5_1 y125) = some r := by rw [if_pos rfl] at H; exact H
                        clear H
                        have H := H1
                        clear H1
                        have H' := aM H
                        clear H
                        obtain ⟨Ao18, co18, eo18⟩ := Kd.R_slice HO_6.out
                        subst eo18
                        have p124 : 0 ≤ ((ji10) : Int) := of_decide_eq_true (by first | (with_reducible assumption) | assumption)
                        have q124 : (ji10) < (x6_1.length : Int) := of_decide_eq_true (by first | (with_reducible assumption) | assumption)
                        obtain ⟨ad124, e124, hx124_0⟩ := Kd.at_int (Kd.R_reads' HO_6.out).2.2 (ji10) p124 q124
                        cases e124
                        replace p124 := eq_true p124
                        replace q124 := eq_true q124
                        have q19 : ((ji10) : Int) ≤ ((x6_1.length : Int) : Int) := of_decide_eq_true (by first | (with_reducible assumption) | assumption)
                        obtain ⟨i019, hi019, _, hsz19, _⟩ := info_parts info3
                        have hcut19 := cut_to (P := Try.prog) 32 3 .i64 Try.underlying32 hi019 (some ad124) x6_1.length co18 (ji10) (of_decide_eq_true (by first | (with_reducible assumption) | assumption)) q19 (Kd.R_reads' HO_6.out).2.1
                        have hr19 := Kd.R_take (m := ((ji10) : Int).toNat) HO_6.out (by omega)
                        have hy19 : y125.length = ((ji10) : Int).toNat := (by rw [Ny125.out, List.length_take]; omega)
                        rw [← Ny125.out] at hr19
                        rw [← hy19] at hr19 hcut19
                        clear hy19 hi019 hsz19 HO_6
                        have HO127 := aM hr19
                        clear hr19
                        replace q19 := eq_true q19
                        obtain ⟨Ao20, co20, eo20⟩ := Kd.R_slice HO_5.out
                        subst eo20
                        have p128 : 0 ≤ ((rd x6_1 (ji10)) : Int) := of_decide_eq_true (by first | (with_reducible assumption) | assumption)
                        have q128 : (rd x6_1 (ji10)) < (x5_1.length : Int) := of_decide_eq_true (by first | (with_reducible assumption) | assumption)
                        obtain ⟨ad128, e128, hx128_0⟩ := Kd.at_bool (Kd.R_reads' HO_5.out).2.2 (rd x6_1 (ji10)) p128 q128
                        (try rw [← Nbq16.out] at hx128_0)
                        cases e128
                        replace p128 := eq_true p128
                        replace q128 := eq_true q128
                        go_wp2
                        go_roundg k1
                        case measure => have := HK1.out; omega
                        case rel => exact ⟨(x5_1), (y125), H', ⟨by have := HK1.out; omega⟩, ⟨by (with_reducible repeat (first | apply Kd.R_alloc | apply Kd.R_drewN | apply Kd.R_drew)); exact HO_5.out⟩, ⟨by (with_reducible repeat (first | apply Kd.R_alloc | apply Kd.R_drewN | apply Kd.R_drew)); exact HO127.out⟩, ⟨by repeat (first | (with_reducible first | exact HB.out | apply bA | apply bN | apply bD) | exact HB.out)⟩⟩
                      · replace c17 := Bool.eq_false_iff.mpr c17
                        subst c17
                        have H1 : (if (rd x6_1 (ji10)) < (l0.length : Int) then (if y125.length + (rd_L1 l0 (rd x6_1 (ji10))).length < 17592186044416 then (graph_reached.l0 k1 l0 (x5_1.set ((rd x6_1 (ji10)) : Int).toNat true) (y125 ++ (rd_L1 l0 (rd x6_1 (ji10))))) else (none)) else (none)) = some r := by rw [if_neg (show ¬ (false = true) by decide)] at H; exact H
                        clear H
                        have H := H1
                        clear H1
                        obtain ⟨y129, hy129⟩ : ∃ y_ : List Bool, y_ = (x5_1.set ((rd x6_1 (ji10)) : Int).toNat true) := ⟨_, rfl⟩
                        replace H : (if (rd x6_1 (ji10)) < (l0.length : Int) then (if y125.length + (rd_L1 l0 (rd x6_1 (ji10))).length < 17592186044416 then (graph_reached.l0 k1 l0 y129 (y125 ++ (rd_L1 l0 (rd x6_1 (ji10))))) else (none)) else (none)) = some r := by first | (rw [hy129]; with_reducible exact H) | (have H2_ := (Option.bind_some _ _).symm.trans H; rw [hy129]; with_reducible exact H2_) | (have H2_ := (Option.bind_some _ _).symm.trans H; with_reducible exact H2_) | with_reducible exact H | (rw [hy129]; exact H) | exact H
                        have Ny129 := aM hy129
                        clear hy129
                        by_cases c22 : (rd x6_1 (ji10)) < (l0.length : Int)
                        · rw [if_pos c22] at H
                          have c22b0 : decide ((rd x6_1 (ji10)) < (l0.length : Int)) = true := decide_eq_true c22
                          clear c22
                          by_cases c23 : y125.length + (rd_L1 l0 (rd x6_1 (ji10))).length < 17592186044416
                          · rw [if_pos c23] at H
                            have LMc23 := aM c23
                            clear c23
                            obtain ⟨y131, hy131⟩ : ∃ y_ : List Int, y_ = (y125 ++ (rd_L1 l0 (rd x6_1 (ji10)))) := ⟨_, rfl⟩
                            replace H : (graph_reached.l0 k1 l0 y129 y131) = some r := by first | (rw [hy131]; with_reducible exact H) | (have H2_ := (Option.bind_some _ _).symm.trans H; rw [hy131]; with_reducible exact H2_) | (have H2_ := (Option.bind_some _ _).symm.trans H; with_reducible exact H2_) | with_reducible exact H | (rw [hy131]; exact H) | exact H
                            have Ny131 := aM hy131
                            clear hy131
                            have H' := aM H
                            clear H
                            obtain ⟨Ao24, co24, eo24⟩ := Kd.R_slice HO_6.out
                            subst eo24
                            have p124 : 0 ≤ ((ji10) : Int) := of_decide_eq_true (by first | (with_reducible assumption) | assumption)
                            have q124 : (ji10) < (x6_1.length : Int) := of_decide_eq_true (by first | (with_reducible assumption) | assumption)
                            obtain ⟨ad124, e124, hx124_0⟩ := Kd.at_int (Kd.R_reads' HO_6.out).2.2 (ji10) p124 q124
                            cases e124
                            replace p124 := eq_true p124
                            replace q124 := eq_true q124
                            have q25 : ((ji10) : Int) ≤ ((x6_1.length : Int) : Int) := of_decide_eq_true (by first | (with_reducible assumption) | assumption)
                            obtain ⟨i025, hi025, _, hsz25, _⟩ := info_parts info3
                            have hcut25 := cut_to (P := Try.prog) 32 3 .i64 Try.underlying32 hi025 (some ad124) x6_1.length co24 (ji10) (of_decide_eq_true (by first | (with_reducible assumption) | assumption)) q25 (Kd.R_reads' HO_6.out).2.1
                            have hr25 := Kd.R_take (m := ((ji10) : Int).toNat) HO_6.out (by omega)
                            have hy25 : y125.length = ((ji10) : Int).toNat := (by rw [Ny125.out, List.length_take]; omega)
                            rw [← Ny125.out] at hr25
                            rw [← hy25] at hr25 hcut25
                            clear hy25 hi025 hsz25 HO_6
                            have HO127 := aM hr25
                            clear hr25
                            replace q25 := eq_true q25
                            obtain ⟨Ao26, co26, eo26⟩ := Kd.R_slice HO_5.out
                            subst eo26
                            have p128 : 0 ≤ ((rd x6_1 (ji10)) : Int) := of_decide_eq_true (by first | (with_reducible assumption) | assumption)
                            have q128 : (rd x6_1 (ji10)) < (x5_1.length : Int) := of_decide_eq_true (by first | (with_reducible assumption) | assumption)
                            obtain ⟨ad128, e128, hx128_0⟩ := Kd.at_bool (Kd.R_reads' HO_5.out).2.2 (rd x6_1 (ji10)) p128 q128
                            (try rw [← Nbq16.out] at hx128_0)
                            cases e128
                            replace p128 := eq_true p128
                            replace q128 := eq_true q128
                            have p21 : 0 ≤ ((rd x6_1 (ji10)) : Int) := of_decide_eq_true (by first | (with_reducible assumption) | assumption)
                            have q21 : ((rd x6_1 (ji10)) : Int) < ((x5_1.length : Int) : Int) := of_decide_eq_true (by first | (with_reducible assumption) | assumption)
                            obtain ⟨go21, co21, eo21, gb21, gl21, cl21, HG21⟩ := Kd.R_form HO_5.out (by omega)
                            (first | cases eo21 | (injection eo21 with ea_ en_ ec_; (first | subst ea_ | (injection ea_ with ea_; subst ea_)); subst ec_; clear en_))
                            have GB21 := aM gb21
                            have GG21 := aM HG21
                            clear gb21 gl21 HG21
                            (first | simp only [add_plain] at hx128_0 | skip)
                            obtain ⟨hx21_0, hf21_0⟩ := Kd.R_celln false HO_5.out ((rd x6_1 (ji10)) : Int) p21 q21
                            replace p21 := eq_true p21
                            replace q21 := eq_true q21
                            have HP27 := Kd.R_putg HO_5.out ((rd x6_1 (ji10)) : Int) true
                            go_wp2_with (first | ((with_reducible refine gate_store (t := 4) (p := 34) rfl ?_); refine store_event (t := 4) (p := 34) (v := ?vo_w28) (w1 := (wr.setCell ⟨go21, ((rd x6_1 (ji10)) : Int).toNat, none⟩ (.bool true))) ?hg ?ho ?hn ?hr ?_; (case ho => rfl); (case hg => rfl); (case hn => rfl); (case hr => first | (go_simp; done) | (go_simp; rfl)); intro w28 hw; have hg : wr.grownBy w28 (some go21) := (by rw [hw]; exact HP27.2); have hp_ : Kd.R Kd.bool 4 w28 w.heap.size (fun _ => True) (.slice (some ⟨go21, 0, none⟩) x5_1.length co26) y129 := (by rw [hw, Ny129.out]; exact HP27.1); clear HP27; have n0_ := aM (hp_); have n1_ := aM (Kd.R_over' (v := (.slice (some ⟨go21, 0, none⟩) x5_1.length co26)) (by (with_reducible repeat (first | apply Kd.R_alloc | apply Kd.R_drewN | apply Kd.R_drew)); exact HO127.out) (Kd.R_typed HO_5.out) (by decide) hg); have n2_ := aM ((by rw [hw]; exact below_set (HB.out) GB21.out : Below w.heap.size w w28)); clear HO_5; clear HO127; clear HB; have HO_5 := n0_; have HO127 := n1_; have HB := n2_; clear n0_ n1_ n2_; clear hg hw hp_; have p130 : 0 ≤ ((rd x6_1 (ji10)) : Int) := of_decide_eq_true (by first | (with_reducible assumption) | assumption); have q130 : (rd x6_1 (ji10)) < (l0.length : Int) := of_decide_eq_true (by first | (with_reducible assumption) | assumption); obtain ⟨ad130, A130_0, c130_0, e130, hx130_0, hl130_0, hi130_0⟩ := at_L1 HR0.out (rd x6_1 (ji10)) p130 q130; cases e130; replace hx130_0 := (HB.out.cell (World.block_lt_of_cell? w _ hx130_0)).trans hx130_0; have HR130_0 := aM hi130_0; have HC130_0 := aM hl130_0; clear hi130_0 hl130_0; replace p130 := eq_true p130; replace q130 := eq_true q130) | ((with_reducible refine gate_builtin (b := .append) (xs := #[.tmp 35, .tmp 39]) rfl ?_); at_builtin; refine Kd.R_append_rows (Kd.int .i64) (w0 := w) w.heap.size rfl (.tmp 35) (.tmp 39) 32 3 (.int .i64 0) 8 rfl Try.underlying32 info3 rfl (by decide) (by omega) (.slice (some ad124) y125.length co24) y125 (rd_L1 l0 (rd x6_1 (ji10))) _ _ _ (fun _ => True) (fun _ => False) rfl rfl ?aO ?aR (fun _ _ h => h) (fun _ h => h.elim) ?aF ?aB ?aS ?aL ?_; (case aR => repeat (first | exact (Kd.C_below HR130_0.out HB.out) | (with_reducible refine Kd.C_alloc ?_ _) | (with_reducible refine Kd.C_drewN ?_ _) | (with_reducible refine Kd.C_drew ?_))); (case aB => exact (by repeat (first | (with_reducible first | exact HB.out | apply bA | apply bN | apply bD) | exact HB.out))); (case aF => exact (fun _ _ => trivial)); (case aO => exact (by (with_reducible repeat (first | apply Kd.R_alloc | apply Kd.R_drewN | apply Kd.R_drew)); exact HO127.out)); (case aS => exact (below_size (by repeat (first | (with_reducible first | exact HB.out | apply bA | apply bN | apply bD) | exact HB.out)))); (case aL => have := LMc23.out; omega); intro v132 w29 ho hb hg hat; rw [← Ny131.out] at ho; have n0_ := aM (Kd.R_over' (by (with_reducible repeat (first | apply Kd.R_alloc | apply Kd.R_drewN | apply Kd.R_drew)); exact HO_5.out) (Kd.R_typed (by (with_reducible repeat (first | apply Kd.R_alloc | apply Kd.R_drewN | apply Kd.R_drew)); exact HO127.out)) (by decide) hg); have n1_ := aM (hb); have n2_ := aM (ho); clear HO_5; clear HB; clear HO127; have HO_5 := n0_; have HB := n1_; have HO133 := n2_; clear n0_ n1_ n2_; clear ho hb hg hat))
                            go_roundg k1
                            case measure => have := HK1.out; omega
                            case rel => exact ⟨(y129), (y131), H', ⟨by have := HK1.out; omega⟩, ⟨by (with_reducible repeat (first | apply Kd.R_alloc | apply Kd.R_drewN | apply Kd.R_drew)); exact HO_5.out⟩, ⟨by (with_reducible repeat (first | apply Kd.R_alloc | apply Kd.R_drewN | apply Kd.R_drew)); exact HO133.out⟩, ⟨by repeat (first | (with_reducible first | exact HB.out | apply bA | apply bN | apply bD) | exact HB.out)⟩⟩
                          · rw [if_neg c23] at H
                            exact absurd H (by simp)
                        · rw [if_neg c22] at H
                          exact absurd H (by simp)
                    · rw [if_neg c15] at H
                      exact absurd H (by simp)
                  · rw [if_neg c14] at H
                    exact absurd H (by simp)
                · rw [if_neg c13] at H
                  exact absurd H (by simp)
              · rw [if_neg c12] at H
                exact absurd H (by simp)
            · rw [if_neg c11] at H
              exact absurd H (by simp)
          · rw [if_neg c9] at H
            have c9b0 : decide (0 < (x6_1.length : Int)) = false := decide_eq_false c9
            have c9b1 : decide (0 < x6_1.length) = false := decide_eq_false (by omega)
            clear c9
            obtain rfl := Option.some.inj H
            obtain ⟨Ao30, co30, eo30⟩ := Kd.R_slice HO_6.out
            subst eo30
            go_wp2
            go_ret
            exact ⟨_, by first | rfl | (simp [errW_none, errW_some] <;> rfl) | (simp [*, errW_none, errW_some] <;> rfl), by (with_reducible repeat (first | apply Kd.R_alloc | apply Kd.R_drewN | apply Kd.R_drew)); exact HO_5.out, by repeat (first | (with_reducible first | exact HB.out | apply bA | apply bN | apply bD) | exact HB.out)⟩
    · rw [if_neg c4] at H
      exact absurd H (by simp)
  · rw [if_neg c3] at H
    exact absurd H (by simp)

/-! ### graph_Cyclic: function 20 -/
noncomputable def graph_Cyclic.f (k : Nat) (l0_0 : List (List Int)) (a1 : Int) : Option (Bool) := (graph_valid.f k l0_0).bind fun t135 => (if t135 = true then (if a1 < 0 then (some false) else (if a1 ≥ (l0_0.length : Int) then (some false) else (if 0 ≤ a1 then (if a1 < (l0_0.length : Int) then ((graph_reached.f k l0_0 (rd_L1 l0_0 a1)).bind fun t137 => (if a1 < (t137.length : Int) then (some (rdOf false t137 a1)) else (none))) else (none)) else (none)))) else (some false))
noncomputable def graph_Cyclic.T3 : Bool × List (List Nat × List Nat) := (true, [([], []), ([0], [0]), ([], []), ([2], [2]), ([], []), ([3, 4], [3, 4]), ([5], [5]), ([1, 6], [1, 6]), ([], []), ([7, 8], [7, 8]), ([9], [9]), ([10, 7, 0, 1, 2, 3, 4, 5, 6, 7, 8, 9, 10], [10])])
noncomputable def graph_Cyclic.B3 : List Nat := [0, 1, 0, 4, 0, 28, 60, 127, 0, 511, 1023, 2047]
theorem graph_Cyclic.tab3 : rtab .any (opsOf Try.f20 3) = graph_Cyclic.T3 := by kernel_rfl
theorem graph_Cyclic.bits3 : waitsOk graph_Cyclic.T3.2 graph_Cyclic.B3 = true := by kernel_rfl
set_option maxHeartbeats 8000000 in
set_option maxRecDepth 100000 in
theorem graph_Cyclic.calls (k : Nat) (A0_0 : Option Addr) (c0_0 : Nat) (l0_0 : List (List Int)) (a1 : Int) (r : Bool) (w : World) (hr0_0 : Kd.C (Kd.slice 3 (Kd.int .i64)) w A0_0 l0_0.length l0_0) (hc0_0 : l0_0.length ≤ c0_0) (h : graph_Cyclic.f k l0_0 a1 = some r) :
    Calls Try.prog 20 #[.agg #[.slice A0_0 l0_0.length c0_0], .int .i64 a1] w fun e w' => e = .returned (.bool r) ∧ Below w.heap.size w w' := by
  have hu24 := Try.underlying24
  have HR0_0 := aM hr0_0
  have HC0_0 := aM hc0_0
  clear hr0_0 hc0_0
  have HB := aM (Below.refl w.heap.size w)
  have H : ((graph_valid.f k l0_0).bind fun t135 => (if t135 = true then (if a1 < 0 then (some false) else (if a1 ≥ (l0_0.length : Int) then (some false) else (if 0 ≤ a1 then (if a1 < (l0_0.length : Int) then ((graph_reached.f k l0_0 (rd_L1 l0_0 a1)).bind fun t137 => (if a1 < (t137.length : Int) then (some (rdOf false t137 a1)) else (none))) else (none)) else (none)))) else (some false))) = some r := h
  clear h
  replace H := Option.bind_eq_some_iff.mp H
  obtain ⟨t135, A30, H⟩ := H
  replace H : (if t135 = true then (if a1 < 0 then (some false) else (if a1 ≥ (l0_0.length : Int) then (some false) else (if 0 ≤ a1 then (if a1 < (l0_0.length : Int) then ((graph_reached.f k l0_0 (rd_L1 l0_0 a1)).bind fun t137 => (if a1 < (t137.length : Int) then (some (rdOf false t137 a1)) else (none))) else (none)) else (none)))) else (some false)) = some r := H
  have A3 := aM A30
  clear A30
  by_cases c4 : t135 = true
  · subst c4
    have H1 : (if a1 < 0 then (some false) else (if a1 ≥ (l0_0.length : Int) then (some false) else (if 0 ≤ a1 then (if a1 < (l0_0.length : Int) then ((graph_reached.f k l0_0 (rd_L1 l0_0 a1)).bind fun t137 => (if a1 < (t137.length : Int) then (some (rdOf false t137 a1)) else (none))) else (none)) else (none)))) = some r := by rw [if_pos rfl] at H; exact H
    clear H
    have H := H1
    clear H1
    by_cases c5 : a1 < 0
    · rw [if_pos c5] at H
      have c5b0 : decide (a1 < 0) = true := decide_eq_true c5
      clear c5
      obtain rfl := Option.some.inj H
      go_enter Try.func20, Try.ntmps20
      go_wp2_with (first | ((with_reducible refine gate_dst (N := 2) rfl ?_); (try (refine gate_guard (by rfl) ?_; dsimp only)); refine box_event ?hg (N := 2) ?hd (cs := #[.slice A0_0 l0_0.length c0_0]) (t := 24) ?hr ?_; (case hd => rfl); (case hg => rfl); (case hr => first | (go_simp; done) | (go_simp; rfl)); intro gb134 hg w6 hbox hb; have n0_ := aM (below_step (by repeat (first | (with_reducible first | exact HB.out | apply bA | apply bN | apply bD) | exact HB.out)) hb); have n1_ := aM (hbox); have n2_ := aM ((by rw [hg]; exact (below_size (by repeat (first | (with_reducible first | exact HB.out | apply bA | apply bN | apply bD) | exact HB.out))) : w.heap.size ≤ gb134)); have n3_ := aM ((by rw [hg]; exact (below_size (by repeat (first | (with_reducible first | exact HB.out | apply bA | apply bN | apply bD) | exact HB.out))) : w.heap.size ≤ gb134)); clear HB; have HB := n0_; have BK134 := n1_; have GW134 := n2_; have GE134 := n3_; clear n0_ n1_ n2_ n3_; clear hb hbox hg; have hcz7_0 : w6.cell? ⟨gb134, 0, none⟩ = some (.slice A0_0 l0_0.length c0_0) := (blk_cell BK134.out 0).trans rfl; have hfz7_0 := blk_frozen BK134.out 0) | ((with_reducible refine gate_callee (f := 27) rfl ?_); refine goesL_ (some 6) rfl rfl Try.func27 (by kernel_rfl) rfl #[.agg #[.slice A0_0 l0_0.length c0_0]] rfl (by (try simp only [List.map_toArray, List.map_cons, List.map_nil]); first | done | rfl | (simp only [List.length_drop, List.length_take]; rfl)) ?_; (with_reducible refine (graph_valid.calls k _ _ l0_0 true _ ?side1 ?side2 A3.out).mono ?_); (case side1 => repeat (first | exact (Kd.C_below HR0_0.out HB.out) | (with_reducible refine Kd.C_alloc ?_ _) | (with_reducible refine Kd.C_drewN ?_ _) | (with_reducible refine Kd.C_drew ?_))); (case side2 => exact HC0_0.out); rintro e w8 ⟨rfl, hb⟩; refine ⟨_, rfl, ?_⟩; have n0_ := aM (blk_below (g := gb134) (o := .cells #[.slice A0_0 l0_0.length c0_0] 24 (0, 0)) (by (with_reducible repeat (first | refine kN ?_ _ | refine kD ?_ | refine kA ?_ _)); exact BK134.out) hb); have n1_ := aM (below_step (by repeat (first | (with_reducible first | exact HB.out | apply bA | apply bN | apply bD | refine below_set ?_ GE134.out) | exact HB.out)) hb); clear BK134; clear HB; have BK134 := n0_; have HB := n1_; clear n0_ n1_; (try clear hb); (try clear hb2); (try clear hk); (try clear hi)))
      go_ret
      exact ⟨by first | rfl | (simp [errW_none, errW_some] <;> rfl) | (simp [*, errW_none, errW_some] <;> rfl), by repeat (first | (with_reducible first | exact HB.out | apply bA | apply bN | apply bD | refine below_set ?_ GE134.out) | exact HB.out)⟩
    · rw [if_neg c5] at H
      have c5b0 : decide (a1 < 0) = false := decide_eq_false c5
      clear c5
      by_cases c9 : a1 ≥ (l0_0.length : Int)
      · rw [if_pos c9] at H
        have c9b0 : decide ((l0_0.length : Int) ≤ a1) = true := decide_eq_true c9
        clear c9
        obtain rfl := Option.some.inj H
        go_enter Try.func20, Try.ntmps20
        go_wp2_with (first | ((with_reducible refine gate_dst (N := 2) rfl ?_); (try (refine gate_guard (by rfl) ?_; dsimp only)); refine box_event ?hg (N := 2) ?hd (cs := #[.slice A0_0 l0_0.length c0_0]) (t := 24) ?hr ?_; (case hd => rfl); (case hg => rfl); (case hr => first | (go_simp; done) | (go_simp; rfl)); intro gb134 hg w10 hbox hb; have n0_ := aM (below_step (by repeat (first | (with_reducible first | exact HB.out | apply bA | apply bN | apply bD) | exact HB.out)) hb); have n1_ := aM (hbox); have n2_ := aM ((by rw [hg]; exact (below_size (by repeat (first | (with_reducible first | exact HB.out | apply bA | apply bN | apply bD) | exact HB.out))) : w.heap.size ≤ gb134)); have n3_ := aM ((by rw [hg]; exact (below_size (by repeat (first | (with_reducible first | exact HB.out | apply bA | apply bN | apply bD) | exact HB.out))) : w.heap.size ≤ gb134)); clear HB; have HB := n0_; have BK134 := n1_; have GW134 := n2_; have GE134 := n3_; clear n0_ n1_ n2_ n3_; clear hb hbox hg; have hcz11_0 : w10.cell? ⟨gb134, 0, none⟩ = some (.slice A0_0 l0_0.length c0_0) := (blk_cell BK134.out 0).trans rfl; have hfz11_0 := blk_frozen BK134.out 0) | ((with_reducible refine gate_callee (f := 27) rfl ?_); refine goesL_ (some 6) rfl rfl Try.func27 (by kernel_rfl) rfl #[.agg #[.slice A0_0 l0_0.length c0_0]] rfl (by (try simp only [List.map_toArray, List.map_cons, List.map_nil]); first | done | rfl | (simp only [List.length_drop, List.length_take]; rfl)) ?_; (with_reducible refine (graph_valid.calls k _ _ l0_0 true _ ?side1 ?side2 A3.out).mono ?_); (case side1 => repeat (first | exact (Kd.C_below HR0_0.out HB.out) | (with_reducible refine Kd.C_alloc ?_ _) | (with_reducible refine Kd.C_drewN ?_ _) | (with_reducible refine Kd.C_drew ?_))); (case side2 => exact HC0_0.out); rintro e w12 ⟨rfl, hb⟩; refine ⟨_, rfl, ?_⟩; have n0_ := aM (blk_below (g := gb134) (o := .cells #[.slice A0_0 l0_0.length c0_0] 24 (0, 0)) (by (with_reducible repeat (first | refine kN ?_ _ | refine kD ?_ | refine kA ?_ _)); exact BK134.out) hb); have n1_ := aM (below_step (by repeat (first | (with_reducible first | exact HB.out | apply bA | apply bN | apply bD | refine below_set ?_ GE134.out) | exact HB.out)) hb); clear BK134; clear HB; have BK134 := n0_; have HB := n1_; clear n0_ n1_; (try clear hb); (try clear hb2); (try clear hk); (try clear hi); have hcz13_0 : w12.cell? ⟨gb134, 0, none⟩ = some (.slice A0_0 l0_0.length c0_0) := (blk_cell BK134.out 0).trans rfl; have hfz13_0 := blk_frozen BK134.out 0))
        go_ret
        exact ⟨by first | rfl | (simp [errW_none, errW_some] <;> rfl) | (simp [*, errW_none, errW_some] <;> rfl), by repeat (first | (with_reducible first | exact HB.out | apply bA | apply bN | apply bD | refine below_set ?_ GE134.out) | exact HB.out)⟩
      · rw [if_neg c9] at H
        have c9b0 : decide ((l0_0.length : Int) ≤ a1) = false := decide_eq_false c9
        clear c9
        by_cases c14 : 0 ≤ a1
        · rw [if_pos c14] at H
          have c14b0 : decide (0 ≤ a1) = true := decide_eq_true c14
          clear c14
          by_cases c15 : a1 < (l0_0.length : Int)
          · rw [if_pos c15] at H
            have c15b0 : decide (a1 < (l0_0.length : Int)) = true := decide_eq_true c15
            clear c15
            replace H := Option.bind_eq_some_iff.mp H
            obtain ⟨t137, A160, H⟩ := H
            replace H : (if a1 < (t137.length : Int) then (some (rdOf false t137 a1)) else (none)) = some r := H
            have A16 := aM A160
            clear A160
            by_cases c17 : a1 < (t137.length : Int)
            · rw [if_pos c17] at H
              have c17b0 : decide (a1 < (t137.length : Int)) = true := decide_eq_true c17
              clear c17
              obtain rfl := Option.some.inj H
              go_enter Try.func20, Try.ntmps20
              try go_wp2_with (first | ((with_reducible refine gate_dst (N := 2) rfl ?_); (try (refine gate_guard (by rfl) ?_; dsimp only)); refine box_event ?hg (N := 2) ?hd (cs := #[.slice A0_0 l0_0.length c0_0]) (t := 24) ?hr ?_; (case hd => rfl); (case hg => rfl); (case hr => first | (go_simp; done) | (go_simp; rfl)); intro gb134 hg w18 hbox hb; have n0_ := aM (below_step (by repeat (first | (with_reducible first | exact HB.out | apply bA | apply bN | apply bD) | exact HB.out)) hb); have n1_ := aM (hbox); have n2_ := aM ((by rw [hg]; exact (below_size (by repeat (first | (with_reducible first | exact HB.out | apply bA | apply bN | apply bD) | exact HB.out))) : w.heap.size ≤ gb134)); have n3_ := aM ((by rw [hg]; exact (below_size (by repeat (first | (with_reducible first | exact HB.out | apply bA | apply bN | apply bD) | exact HB.out))) : w.heap.size ≤ gb134)); clear HB; have HB := n0_; have BK134 := n1_; have GW134 := n2_; have GE134 := n3_; clear n0_ n1_ n2_ n3_; clear hb hbox hg; have hcz19_0 : w18.cell? ⟨gb134, 0, none⟩ = some (.slice A0_0 l0_0.length c0_0) := (blk_cell BK134.out 0).trans rfl; have hfz19_0 := blk_frozen BK134.out 0) | ((with_reducible refine gate_callee (f := 27) rfl ?_); refine goesL_ (some 6) rfl rfl Try.func27 (by kernel_rfl) rfl #[.agg #[.slice A0_0 l0_0.length c0_0]] rfl (by (try simp only [List.map_toArray, List.map_cons, List.map_nil]); first | done | rfl | (simp only [List.length_drop, List.length_take]; rfl)) ?_; (with_reducible refine (graph_valid.calls k _ _ l0_0 true _ ?side1 ?side2 A3.out).mono ?_); (case side1 => repeat (first | exact (Kd.C_below HR0_0.out HB.out) | (with_reducible refine Kd.C_alloc ?_ _) | (with_reducible refine Kd.C_drewN ?_ _) | (with_reducible refine Kd.C_drew ?_))); (case side2 => exact HC0_0.out); rintro e w20 ⟨rfl, hb⟩; refine ⟨_, rfl, ?_⟩; have n0_ := aM (blk_below (g := gb134) (o := .cells #[.slice A0_0 l0_0.length c0_0] 24 (0, 0)) (by (with_reducible repeat (first | refine kN ?_ _ | refine kD ?_ | refine kA ?_ _)); exact BK134.out) hb); have n1_ := aM (below_step (by repeat (first | (with_reducible first | exact HB.out | apply bA | apply bN | apply bD | refine below_set ?_ GE134.out) | exact HB.out)) hb); clear BK134; clear HB; have BK134 := n0_; have HB := n1_; clear n0_ n1_; (try clear hb); (try clear hb2); (try clear hk); (try clear hi); have hcz21_0 : w20.cell? ⟨gb134, 0, none⟩ = some (.slice A0_0 l0_0.length c0_0) := (blk_cell BK134.out 0).trans rfl; have hfz21_0 := blk_frozen BK134.out 0))
              have n0_ := aM (blk_drew BK134.out)
              have n1_ := aM (below_drew1 HB.out)
              clear BK134
              clear HB
              have BK134 := n0_
              have HB := n1_
              clear n0_ n1_
              have p136 : 0 ≤ (a1 : Int) := of_decide_eq_true (by first | (with_reducible assumption) | assumption)
              have q136 : a1 < (l0_0.length : Int) := of_decide_eq_true (by first | (with_reducible assumption) | assumption)
              obtain ⟨ad136, A136_0, c136_0, e136, hx136_0, hl136_0, hi136_0⟩ := at_L1 HR0_0.out a1 p136 q136
              have hw136_0 := hx136_0
              cases e136
              replace hx136_0 := (HB.out.cell (World.block_lt_of_cell? w _ hx136_0)).trans hx136_0
              have HR136_0 := aM hi136_0
              have HC136_0 := aM hl136_0
              clear hi136_0 hl136_0
              replace p136 := eq_true p136
              replace q136 := eq_true q136
              refine start_ (n := 12) (S := fun w' => w'.cell? ⟨gb134, 0, none⟩ = some (.slice (some ad136) l0_0.length c0_0) ∧ w'.cell? (ad136.add (a1).toNat) = some (.slice A136_0 (rd_L1 l0_0 a1).length c136_0)) (ds := []) #[false, false, false, false, false, false, false, false, false, false, false, false] (by kernel_rfl) rfl rfl ⟨(blk_cell BK134.out 0).trans rfl, ((HB.out.cell (World.block_lt_of_cell? w _ hw136_0)).trans hw136_0)⟩ (fun hHeld => ?_); refine with_tabW graph_Cyclic.tab3 graph_Cyclic.bits3 (fun HT_ HW_ => ?_)
              generalize w20.drew = w22 at BK134 HB HR136_0 hx136_0 hHeld ⊢
              refine pure_ (i := 0) (N := some 19) (v := ?_) (a' := ?_) #[true, false, false, false, false, false, false, false, false, false, false, false] rfl rfl (any_of HT_.out (by kernel_rfl)) (fun _ _ _ h => h) (Or.inl ⟨by rfl, ?_⟩) ?_ ?_
              rotate_left
              · intro w'
                go_simp
                with_reducible rfl
              rotate_left
              · simp only [Act.put, List.setIfInBounds_toArray, List.set_cons_zero, List.set_cons_succ, i64_w, i32_w]
                rfl
              refine pure_ (i := 2) (N := some 21) (v := ?_) (a' := ?_) #[true, false, true, false, false, false, false, false, false, false, false, false] rfl rfl (any_of HT_.out (by kernel_rfl)) (fun _ _ _ h => h) (Or.inl ⟨by rfl, ?_⟩) ?_ ?_
              rotate_left
              · intro w'
                go_simp
                with_reducible rfl
              rotate_left
              · simp only [Act.put, List.setIfInBounds_toArray, List.set_cons_zero, List.set_cons_succ, i64_w, i32_w]
                rfl
              refine pure_ (i := 4) (N := some 23) (v := ?_) (a' := ?_) #[true, false, true, false, true, false, false, false, false, false, false, false] rfl rfl (any_of HT_.out (by kernel_rfl)) (fun _ _ _ h => h) (Or.inl ⟨by rfl, ?_⟩) ?_ ?_
              rotate_left
              · intro w'
                go_simp
                with_reducible rfl
              rotate_left
              · simp only [Act.put, List.setIfInBounds_toArray, List.set_cons_zero, List.set_cons_succ, i64_w, i32_w]
                rfl
              refine pure_ (i := 8) (N := some 27) (v := ?_) (a' := ?_) #[true, false, true, false, true, false, false, false, true, false, false, false] rfl rfl (any_of HT_.out (by kernel_rfl)) (fun _ _ _ h => h) (Or.inl ⟨by rfl, ?_⟩) ?_ ?_
              rotate_left
              · intro w'
                go_simp
                with_reducible rfl
              rotate_left
              · simp only [Act.put, List.setIfInBounds_toArray, List.set_cons_zero, List.set_cons_succ, i64_w, i32_w]
                rfl
              refine take_ (i := 1) (N := some 20) (v := ?_) (a' := ?_) #[true, true, true, false, true, false, false, false, true, false, false, false] rfl rfl (take_ofW HT_.out HW_.out (by kernel_rfl)) (fun _ _ _ h => h) (Or.inl ⟨by rfl, ?_⟩) hHeld ?_ ?_
              rotate_left
              · rintro w' ⟨s0, s1⟩
                go_simp
                with_reducible rfl
              rotate_left
              · simp only [Act.put, List.setIfInBounds_toArray, List.set_cons_zero, List.set_cons_succ, i64_w, i32_w]
                rfl
              refine take_ (i := 3) (N := some 22) (v := ?_) (a' := ?_) #[true, true, true, true, true, false, false, false, true, false, false, false] rfl rfl (take_ofW HT_.out HW_.out (by kernel_rfl)) (fun _ _ _ h => h) (Or.inl ⟨by rfl, ?_⟩) hHeld ?_ ?_
              rotate_left
              · rintro w' ⟨s0, s1⟩
                go_simp
                with_reducible rfl
              rotate_left
              · simp only [Act.put, List.setIfInBounds_toArray, List.set_cons_zero, List.set_cons_succ, i64_w, i32_w]
                rfl
              refine pure_ (i := 5) (N := some 24) (v := ?_) (a' := ?_) #[true, true, true, true, true, true, false, false, true, false, false, false] rfl rfl (any_of HT_.out (by kernel_rfl)) (fun _ _ _ h => h) (Or.inl ⟨by rfl, ?_⟩) ?_ ?_
              rotate_left
              · intro w'
                go_simp
                with_reducible rfl
              rotate_left
              · simp only [Act.put, List.setIfInBounds_toArray, List.set_cons_zero, List.set_cons_succ, i64_w, i32_w]
                rfl
              refine take_ (i := 6) (N := some 25) (v := ?_) (a' := ?_) #[true, true, true, true, true, true, true, false, true, false, false, false] rfl rfl (take_ofW HT_.out HW_.out (by kernel_rfl)) (fun _ _ _ h => h) (Or.inl ⟨by rfl, ?_⟩) hHeld ?_ ?_
              rotate_left
              · rintro w' ⟨s0, s1⟩
                go_simp
                with_reducible rfl
              rotate_left
              · simp only [Act.put, List.setIfInBounds_toArray, List.set_cons_zero, List.set_cons_succ, i64_w, i32_w]
                rfl
              refine one_ (i := 7) (N := some 26) #[true, true, true, true, true, true, true, true, true, false, false, false] rfl rfl (one_of HT_.out (by kernel_rfl)) (by decide) (fun K hK => ?_)
              refine goes_ Try.func33 (by kernel_rfl) rfl #[.slice (some ad136) l0_0.length c0_0, .slice A136_0 (rd_L1 l0_0 a1).length c136_0] (by rfl) rfl rfl (by (try simp only [List.map_toArray, List.map_cons, List.map_nil]); first | done | rfl | (simp only [List.length_drop, List.length_take]; rfl)) ?_
              with_reducible refine (graph_reached.calls k _ _ l0_0 _ _ (rd_L1 l0_0 a1) t137 _ ?side1 ?side2 ?side3 ?side4 A16.out).mono ?_
              (case side1 => repeat (first | exact (Kd.C_below HR0_0.out HB.out) | (with_reducible refine Kd.C_alloc ?_ _) | (with_reducible refine Kd.C_drewN ?_ _) | (with_reducible refine Kd.C_drew ?_)))
              (case side2 => exact HC0_0.out)
              (case side3 => repeat (first | exact (Kd.C_below HR136_0.out HB.out) | (with_reducible refine Kd.C_alloc ?_ _) | (with_reducible refine Kd.C_drewN ?_ _) | (with_reducible refine Kd.C_drew ?_)))
              (case side4 => exact HC136_0.out)
              rintro e w23 ⟨v138, rfl, ho0, hb⟩
              skip
              refine ⟨_, rfl, ?_⟩
              have n0_ := aM (Kd.R_lower ho0 (below_size (by repeat (first | (with_reducible first | exact HB.out | apply bA | apply bN | apply bD | refine below_set ?_ GE134.out) | exact HB.out))))
              have n1_ := aM (blk_below (g := gb134) (o := .cells #[.slice (some ad136) l0_0.length c0_0] 24 (0, 0)) (by (with_reducible repeat (first | refine kN ?_ _ | refine kD ?_ | refine kA ?_ _)); exact BK134.out) hb)
              have n2_ := aM (below_step (by repeat (first | (with_reducible first | exact HB.out | apply bA | apply bN | apply bD | refine below_set ?_ GE134.out) | exact HB.out)) hb)
              clear BK134
              clear HB
              have HO139 := n0_
              have BK134 := n1_
              have HB := n2_
              clear n0_ n1_ n2_
              (try clear hb)
              (try clear hb2)
              (try clear hk)
              (try clear hi)
              (try clear ho0)
              obtain ⟨Ao24, co24, eo24⟩ := Kd.R_slice HO139.out
              (first | subst eo24 | (injection eo24 with f1_ f2_ f3_; have f4_ := f1_.symm; have f5_ := f3_.symm; clear f1_ f2_ f3_; subst f4_; subst f5_))
              have p140 : 0 ≤ (a1 : Int) := of_decide_eq_true (by first | (with_reducible assumption) | assumption)
              have q140 : a1 < (t137.length : Int) := of_decide_eq_true (by first | (with_reducible assumption) | assumption)
              obtain ⟨ad140, e140, hx140_0⟩ := Kd.at_bool (Kd.R_reads' HO139.out).2.2 a1 p140 q140
              cases e140
              replace p140 := eq_true p140
              replace q140 := eq_true q140
              refine hK.out _ _ ⟨(blk_cell BK134.out 0).trans rfl, ((HB.out.cell (World.block_lt_of_cell? w _ hw136_0)).trans hw136_0)⟩ (fun hHeld => ?_)
              have hHeld2 := hHeld
              refine resay_ (S2 := fun w' => w'.cell? ⟨gb134, 0, none⟩ = some (.slice (some ad136) l0_0.length c0_0) ∧ w'.cell? (ad136.add (a1).toNat) = some (.slice A136_0 (rd_L1 l0_0 a1).length c136_0) ∧ w'.cell? (ad140.add (a1).toNat) = some (.bool (rdOf false t137 a1))) ⟨hHeld.1, hHeld.2, hx140_0⟩ (fun _ h_ => ⟨h_.1, h_.2.1⟩) ?_
              clear hHeld
              have hHeld := (show _ ∧ _ ∧ _ from ⟨hHeld2.1, hHeld2.2, hx140_0⟩)
              clear hHeld2
              clear hK K
              refine norm_ (a' := ?_) ?_ ?_
              rotate_left
              · show Act.put _ (some 26) _ = _
                simp only [Act.put, List.setIfInBounds_toArray, List.set_cons_zero, List.set_cons_succ, i64_w, i32_w]
                rfl
              refine pure_ (i := 9) (N := some 28) (v := ?_) (a' := ?_) #[true, true, true, true, true, true, true, true, true, true, false, false] rfl rfl (any_of HT_.out (by kernel_rfl)) (fun _ _ _ h => h) (Or.inl ⟨by rfl, ?_⟩) ?_ ?_
              rotate_left
              · intro w'
                go_simp
                with_reducible rfl
              rotate_left
              · simp only [Act.put, List.setIfInBounds_toArray, List.set_cons_zero, List.set_cons_succ, i64_w, i32_w]
                rfl
              refine take_ (i := 10) (N := some 29) (v := ?_) (a' := ?_) #[true, true, true, true, true, true, true, true, true, true, true, false] rfl rfl (take_ofW HT_.out HW_.out (by kernel_rfl)) (fun _ _ _ h => h) (Or.inl ⟨by rfl, ?_⟩) hHeld ?_ ?_
              rotate_left
              · rintro w' ⟨s0, s1, s2⟩
                go_simp
                with_reducible rfl
              rotate_left
              · simp only [Act.put, List.setIfInBounds_toArray, List.set_cons_zero, List.set_cons_succ, i64_w, i32_w]
                rfl
              refine pure_ (i := 11) (N := some 4) (v := ?_) (a' := ?_) #[true, true, true, true, true, true, true, true, true, true, true, true] rfl rfl (any_of HT_.out (by kernel_rfl)) (fun _ _ _ h => h) (Or.inl ⟨by rfl, ?_⟩) ?_ ?_
              rotate_left
              · intro w'
                go_simp
                with_reducible rfl
              rotate_left
              · simp only [Act.put, List.setIfInBounds_toArray, List.set_cons_zero, List.set_cons_succ, i64_w, i32_w]
                rfl
              refine done_ (done_of HT_.out (by kernel_rfl)) ?_
              try go_wp2
              go_ret
              exact ⟨by first | rfl | (simp [errW_none, errW_some] <;> rfl) | (simp [*, errW_none, errW_some] <;> rfl), by repeat (first | (with_reducible first | exact HB.out | apply bA | apply bN | apply bD | refine below_set ?_ GE134.out) | exact HB.out)⟩
            · rw [if_neg c17] at H
              exact absurd H (by simp)
          · rw [if_neg c15] at H
            exact absurd H (by simp)
        · rw [if_neg c14] at H
          exact absurd H (by simp)
  · replace c4 := Bool.eq_false_iff.mpr c4
    subst c4
    have H1 : (some false) = some r := by rw [if_neg (show ¬ (false = true) by decide)] at H; exact H
    clear H
    have H := H1
    clear H1
    obtain rfl := Option.some.inj H
    go_enter Try.func20, Try.ntmps20
    go_wp2_with (first | ((with_reducible refine gate_dst (N := 2) rfl ?_); (try (refine gate_guard (by rfl) ?_; dsimp only)); refine box_event ?hg (N := 2) ?hd (cs := #[.slice A0_0 l0_0.length c0_0]) (t := 24) ?hr ?_; (case hd => rfl); (case hg => rfl); (case hr => first | (go_simp; done) | (go_simp; rfl)); intro gb134 hg w25 hbox hb; have n0_ := aM (below_step (by repeat (first | (with_reducible first | exact HB.out | apply bA | apply bN | apply bD) | exact HB.out)) hb); have n1_ := aM (hbox); have n2_ := aM ((by rw [hg]; exact (below_size (by repeat (first | (with_reducible first | exact HB.out | apply bA | apply bN | apply bD) | exact HB.out))) : w.heap.size ≤ gb134)); have n3_ := aM ((by rw [hg]; exact (below_size (by repeat (first | (with_reducible first | exact HB.out | apply bA | apply bN | apply bD) | exact HB.out))) : w.heap.size ≤ gb134)); clear HB; have HB := n0_; have BK134 := n1_; have GW134 := n2_; have GE134 := n3_; clear n0_ n1_ n2_ n3_; clear hb hbox hg; have hcz26_0 : w25.cell? ⟨gb134, 0, none⟩ = some (.slice A0_0 l0_0.length c0_0) := (blk_cell BK134.out 0).trans rfl; have hfz26_0 := blk_frozen BK134.out 0) | ((with_reducible refine gate_callee (f := 27) rfl ?_); refine goesL_ (some 6) rfl rfl Try.func27 (by kernel_rfl) rfl #[.agg #[.slice A0_0 l0_0.length c0_0]] rfl (by (try simp only [List.map_toArray, List.map_cons, List.map_nil]); first | done | rfl | (simp only [List.length_drop, List.length_take]; rfl)) ?_; (with_reducible refine (graph_valid.calls k _ _ l0_0 false _ ?side1 ?side2 A3.out).mono ?_); (case side1 => repeat (first | exact (Kd.C_below HR0_0.out HB.out) | (with_reducible refine Kd.C_alloc ?_ _) | (with_reducible refine Kd.C_drewN ?_ _) | (with_reducible refine Kd.C_drew ?_))); (case side2 => exact HC0_0.out); rintro e w27 ⟨rfl, hb⟩; refine ⟨_, rfl, ?_⟩; have n0_ := aM (blk_below (g := gb134) (o := .cells #[.slice A0_0 l0_0.length c0_0] 24 (0, 0)) (by (with_reducible repeat (first | refine kN ?_ _ | refine kD ?_ | refine kA ?_ _)); exact BK134.out) hb); have n1_ := aM (below_step (by repeat (first | (with_reducible first | exact HB.out | apply bA | apply bN | apply bD | refine below_set ?_ GE134.out) | exact HB.out)) hb); clear BK134; clear HB; have BK134 := n0_; have HB := n1_; clear n0_ n1_; (try clear hb); (try clear hb2); (try clear hk); (try clear hi)))
    go_ret
    exact ⟨by first | rfl | (simp [errW_none, errW_some] <;> rfl) | (simp [*, errW_none, errW_some] <;> rfl), by repeat (first | (with_reducible first | exact HB.out | apply bA | apply bN | apply bD | refine below_set ?_ GE134.out) | exact HB.out)⟩

/-! ### graph_Reach: function 18 -/
mutual
noncomputable def graph_Reach.j0 : Nat → Int → Bool → List (List Int) → Option (List Int)
  | 0, _, _, _ => none
  | k + 1, x1, x21, x142000 => if x21 = true then (some ([] : List Int)) else ((graph_reached.f k x142000 (([x1] : List Int))).bind fun t146 => (graph_Reach.l0 k ([] : List Int) t146 (t146.length : Int) 0))
noncomputable def graph_Reach.l0 : Nat → List Int → List Bool → Int → Int → Option (List Int)
  | 0, _, _, _, _ => none
  | k + 1, x5, x26, x27, x28 => if x28 < x27 then (if 0 ≤ x28 then (if x28 < (x26.length : Int) then (if rdOf false x26 x28 = true then (if x5.length < 17592186044416 then (graph_Reach.l0 k (x5 ++ [x28]) x26 x27 (wrap64 (x28 + 1))) else (none)) else (graph_Reach.l0 k x5 x26 x27 (wrap64 (x28 + 1)))) else (none)) else (none)) else (some x5)
end
noncomputable def graph_Reach.f (k : Nat) (l0_0 : List (List Int)) (a1 : Int) : Option (List Int) := (graph_valid.f k l0_0).bind fun t142 => (if t142 = true then (if a1 < 0 then (graph_Reach.j0 k a1 true l0_0) else (graph_Reach.j0 k a1 (decide (a1 ≥ (l0_0.length : Int))) l0_0)) else (graph_Reach.j0 k a1 true l0_0))
set_option maxHeartbeats 8000000 in
set_option maxRecDepth 100000 in
theorem graph_Reach.calls (k : Nat) (A0_0 : Option Addr) (c0_0 : Nat) (l0_0 : List (List Int)) (a1 : Int) (r : List Int) (w : World) (hr0_0 : Kd.C (Kd.slice 3 (Kd.int .i64)) w A0_0 l0_0.length l0_0) (hc0_0 : l0_0.length ≤ c0_0) (h : graph_Reach.f k l0_0 a1 = some r) :
    Calls Try.prog 18 #[.agg #[.slice A0_0 l0_0.length c0_0], .int .i64 a1] w fun e w' => ∃ v0_ : Value, e = .returned (v0_) ∧ Kd.R (Kd.int .i64) 3 w' w.heap.size (fun _ => True) v0_ r ∧ Below w.heap.size w w' := by
  have hu24 := Try.underlying24
  have HR0_0 := aM hr0_0
  have HC0_0 := aM hc0_0
  clear hr0_0 hc0_0
  have HB := aM (Below.refl w.heap.size w)
  have H : ((graph_valid.f k l0_0).bind fun t142 => (if t142 = true then (if a1 < 0 then (graph_Reach.j0 k a1 true l0_0) else (graph_Reach.j0 k a1 (decide (a1 ≥ (l0_0.length : Int))) l0_0)) else (graph_Reach.j0 k a1 true l0_0))) = some r := h
  clear h
  have HC3 := aM H
  clear H
  go_enter Try.func18, Try.ntmps18
  go_upto_region 1 with (first | ((with_reducible refine gate_dst (N := 2) rfl ?_); (try (refine gate_guard (by rfl) ?_; dsimp only)); refine box_event ?hg (N := 2) ?hd (cs := #[.slice A0_0 l0_0.length c0_0]) (t := 24) ?hr ?_; (case hd => rfl); (case hg => rfl); (case hr => first | (go_simp; done) | (go_simp; rfl)); intro gb141 hg w4 hbox hb; have n0_ := aM (below_step (by repeat (first | (with_reducible first | exact HB.out | apply bA | apply bN | apply bD) | exact HB.out)) hb); have n1_ := aM (hbox); have n2_ := aM ((by rw [hg]; exact (below_size (by repeat (first | (with_reducible first | exact HB.out | apply bA | apply bN | apply bD) | exact HB.out))) : w.heap.size ≤ gb141)); have n3_ := aM ((by rw [hg]; exact (below_size (by repeat (first | (with_reducible first | exact HB.out | apply bA | apply bN | apply bD) | exact HB.out))) : w.heap.size ≤ gb141)); clear HB; have HB := n0_; have BK141 := n1_; have GW141 := n2_; have GE141 := n3_; clear n0_ n1_ n2_ n3_; clear hb hbox hg))
  (try simp only [Act.put, List.setIfInBounds_toArray, List.set_cons_zero, List.set_cons_succ])
  go_cut [21] (fun v21 wc => ∃ (kq : Nat) (x21_2 : Bool), v21 = .bool x21_2 ∧ Aside0 (graph_Reach.j0 kq a1 x21_2 l0_0 = some r) ∧ Aside0 (kq ≤ k) ∧ Aside0 (wc.heap[gb141]? = some (.cells #[(.slice A0_0 l0_0.length c0_0)] 24 (0, 0))) ∧ Aside0 (Below w.heap.size w wc))
  case first =>
    have H := HC3.out
    clear HC3
    replace H := Option.bind_eq_some_iff.mp H
    obtain ⟨t142, A50, H⟩ := H
    replace H : (if t142 = true then (if a1 < 0 then (graph_Reach.j0 k a1 true l0_0) else (graph_Reach.j0 k a1 (decide (a1 ≥ (l0_0.length : Int))) l0_0)) else (graph_Reach.j0 k a1 true l0_0)) = some r := H
    have A5 := aM A50
    clear A50
    by_cases c6 : t142 = true
    · subst c6
      have H1 : (if a1 < 0 then (graph_Reach.j0 k a1 true l0_0) else (graph_Reach.j0 k a1 (decide (a1 ≥ (l0_0.length : Int))) l0_0)) = some r := by rw [if_pos rfl] at H; exact H
      clear H
      have H := H1
      clear H1
      by_cases c7 : a1 < 0
      · rw [if_pos c7] at H
        have c7b0 : decide (a1 < 0) = true := decide_eq_true c7
        clear c7
        (first | rw [c7b0] | (simp only [i64_w, i32_w]; rw [c7b0]) | skip)
        have H' := aM H
        clear H
        have hcz8_0 : w4.cell? ⟨gb141, 0, none⟩ = some (.slice A0_0 l0_0.length c0_0) := (blk_cell BK141.out 0).trans rfl
        have hfz8_0 := blk_frozen BK141.out 0
        go_wp2_with (first | ((with_reducible refine gate_callee (f := 27) rfl ?_); refine goesL_ (some 9) rfl rfl Try.func27 (by kernel_rfl) rfl #[.agg #[.slice A0_0 l0_0.length c0_0]] rfl (by (try simp only [List.map_toArray, List.map_cons, List.map_nil]); first | done | rfl | (simp only [List.length_drop, List.length_take]; rfl)) ?_; (with_reducible refine (graph_valid.calls k _ _ l0_0 true _ ?side1 ?side2 A5.out).mono ?_); (case side1 => repeat (first | exact (Kd.C_below HR0_0.out HB.out) | (with_reducible refine Kd.C_alloc ?_ _) | (with_reducible refine Kd.C_drewN ?_ _) | (with_reducible refine Kd.C_drew ?_))); (case side2 => exact HC0_0.out); rintro e w9 ⟨rfl, hb⟩; refine ⟨_, rfl, ?_⟩; have n0_ := aM (blk_below (g := gb141) (o := .cells #[.slice A0_0 l0_0.length c0_0] 24 (0, 0)) (by (with_reducible repeat (first | refine kN ?_ _ | refine kD ?_ | refine kA ?_ _)); exact BK141.out) hb); have n1_ := aM (below_step (by repeat (first | (with_reducible first | exact HB.out | apply bA | apply bN | apply bD | refine below_set ?_ GE141.out) | exact HB.out)) hb); clear BK141; clear HB; have BK141 := n0_; have HB := n1_; clear n0_ n1_; (try clear hb); (try clear hb2); (try clear hk); (try clear hi)))
        go_meet
        case rel => exact ⟨_, (true), (by first | rfl | (simp; done) | (simp [*]; done)), H', ⟨by first | omega | exact Nat.le_refl _⟩, ⟨by (with_reducible repeat (first | refine kN ?_ _ | refine kD ?_ | refine kA ?_ _)); exact BK141.out⟩, ⟨by repeat (first | (with_reducible first | exact HB.out | apply bA | apply bN | apply bD | refine below_set ?_ GE141.out) | exact HB.out)⟩⟩
      · rw [if_neg c7] at H
        have c7b0 : decide (a1 < 0) = false := decide_eq_false c7
        clear c7
        (first | rw [c7b0] | (simp only [i64_w, i32_w]; rw [c7b0]) | skip)
        have H' := aM H
        clear H
        have hcz10_0 : w4.cell? ⟨gb141, 0, none⟩ = some (.slice A0_0 l0_0.length c0_0) := (blk_cell BK141.out 0).trans rfl
        have hfz10_0 := blk_frozen BK141.out 0
        go_wp2_with (first | ((with_reducible refine gate_callee (f := 27) rfl ?_); refine goesL_ (some 9) rfl rfl Try.func27 (by kernel_rfl) rfl #[.agg #[.slice A0_0 l0_0.length c0_0]] rfl (by (try simp only [List.map_toArray, List.map_cons, List.map_nil]); first | done | rfl | (simp only [List.length_drop, List.length_take]; rfl)) ?_; (with_reducible refine (graph_valid.calls k _ _ l0_0 true _ ?side1 ?side2 A5.out).mono ?_); (case side1 => repeat (first | exact (Kd.C_below HR0_0.out HB.out) | (with_reducible refine Kd.C_alloc ?_ _) | (with_reducible refine Kd.C_drewN ?_ _) | (with_reducible refine Kd.C_drew ?_))); (case side2 => exact HC0_0.out); rintro e w11 ⟨rfl, hb⟩; refine ⟨_, rfl, ?_⟩; have n0_ := aM (blk_below (g := gb141) (o := .cells #[.slice A0_0 l0_0.length c0_0] 24 (0, 0)) (by (with_reducible repeat (first | refine kN ?_ _ | refine kD ?_ | refine kA ?_ _)); exact BK141.out) hb); have n1_ := aM (below_step (by repeat (first | (with_reducible first | exact HB.out | apply bA | apply bN | apply bD | refine below_set ?_ GE141.out) | exact HB.out)) hb); clear BK141; clear HB; have BK141 := n0_; have HB := n1_; clear n0_ n1_; (try clear hb); (try clear hb2); (try clear hk); (try clear hi); have hcz12_0 : w11.cell? ⟨gb141, 0, none⟩ = some (.slice A0_0 l0_0.length c0_0) := (blk_cell BK141.out 0).trans rfl; have hfz12_0 := blk_frozen BK141.out 0))
        go_meet
        case rel => exact ⟨_, (decide (a1 ≥ (l0_0.length : Int))), (by first | rfl | (simp; done) | (simp [*]; done)), H', ⟨by first | omega | exact Nat.le_refl _⟩, ⟨by (with_reducible repeat (first | refine kN ?_ _ | refine kD ?_ | refine kA ?_ _)); exact BK141.out⟩, ⟨by repeat (first | (with_reducible first | exact HB.out | apply bA | apply bN | apply bD | refine below_set ?_ GE141.out) | exact HB.out)⟩⟩
    · replace c6 := Bool.eq_false_iff.mpr c6
      subst c6
      have H1 : (graph_Reach.j0 k a1 true l0_0) = some r := by rw [if_neg (show ¬ (false = true) by decide)] at H; exact H
      clear H
      have H := H1
      clear H1
      have H' := aM H
      clear H
      have hcz13_0 : w4.cell? ⟨gb141, 0, none⟩ = some (.slice A0_0 l0_0.length c0_0) := (blk_cell BK141.out 0).trans rfl
      have hfz13_0 := blk_frozen BK141.out 0
      go_wp2_with (first | ((with_reducible refine gate_callee (f := 27) rfl ?_); refine goesL_ (some 9) rfl rfl Try.func27 (by kernel_rfl) rfl #[.agg #[.slice A0_0 l0_0.length c0_0]] rfl (by (try simp only [List.map_toArray, List.map_cons, List.map_nil]); first | done | rfl | (simp only [List.length_drop, List.length_take]; rfl)) ?_; (with_reducible refine (graph_valid.calls k _ _ l0_0 false _ ?side1 ?side2 A5.out).mono ?_); (case side1 => repeat (first | exact (Kd.C_below HR0_0.out HB.out) | (with_reducible refine Kd.C_alloc ?_ _) | (with_reducible refine Kd.C_drewN ?_ _) | (with_reducible refine Kd.C_drew ?_))); (case side2 => exact HC0_0.out); rintro e w14 ⟨rfl, hb⟩; refine ⟨_, rfl, ?_⟩; have n0_ := aM (blk_below (g := gb141) (o := .cells #[.slice A0_0 l0_0.length c0_0] 24 (0, 0)) (by (with_reducible repeat (first | refine kN ?_ _ | refine kD ?_ | refine kA ?_ _)); exact BK141.out) hb); have n1_ := aM (below_step (by repeat (first | (with_reducible first | exact HB.out | apply bA | apply bN | apply bD | refine below_set ?_ GE141.out) | exact HB.out)) hb); clear BK141; clear HB; have BK141 := n0_; have HB := n1_; clear n0_ n1_; (try clear hb); (try clear hb2); (try clear hk); (try clear hi)))
      go_meet
      case rel => exact ⟨_, (true), (by first | rfl | (simp; done) | (simp [*]; done)), H', ⟨by first | omega | exact Nat.le_refl _⟩, ⟨by (with_reducible repeat (first | refine kN ?_ _ | refine kD ?_ | refine kA ?_ _)); exact BK141.out⟩, ⟨by repeat (first | (with_reducible first | exact HB.out | apply bA | apply bN | apply bD | refine below_set ?_ GE141.out) | exact HB.out)⟩⟩
  case rest =>
    clear HC3
    try clear c1
    try clear c2
    try clear p2
    try clear c6
    try clear c7
    try clear c7b0
    try clear hcz10_0
    try clear hcz12_0
    try clear hcz13_0
    try clear hcz8_0
    try clear hfz10_0
    try clear hfz12_0
    try clear hfz13_0
    try clear hfz8_0
    obtain ⟨kq, x21_2, rfl, HA, HJ2, BK141, HB⟩ := hcut
    cases kq with
    | zero => exact absurd HA.out (by simp [graph_Reach.j0])
    | succ kj2 =>
      have H := HA.out
      clear HA
      simp only [graph_Reach.j0] at H
      by_cases c15 : x21_2 = true
      · subst c15
        have H1 : (some ([] : List Int)) = some r := by rw [if_pos rfl] at H; exact H
        clear H
        have H := H1
        clear H1
        obtain rfl := Option.some.inj H
        go_wp2
        go_ret
        exact ⟨_, by first | rfl | (simp [errW_none, errW_some] <;> rfl) | (simp [*, errW_none, errW_some] <;> rfl), by first | exact Kd.R_nil _ _ _ _ _ | exact Kd.N_nil _ _ _ _ _ | exact Kd.V_nil _ _ _ _ _ | exact Kd.Q_nil _ _ _ _ _ | exact Kd.S_nil _ _ _ _ _, by repeat (first | (with_reducible first | exact HB.out | apply bA | apply bN | apply bD | refine below_set ?_ GE141.out) | exact HB.out)⟩
      · replace c15 := Bool.eq_false_iff.mpr c15
        subst c15
        have H1 : ((graph_reached.f kj2 l0_0 (([a1] : List Int))).bind fun t146 => (graph_Reach.l0 kj2 ([] : List Int) t146 (t146.length : Int) 0)) = some r := by rw [if_neg (show ¬ (false = true) by decide)] at H; exact H
        clear H
        have H := H1
        clear H1
        obtain ⟨y143, hy143⟩ : ∃ y_ : List Int, y_ = (([a1] : List Int)) := ⟨_, rfl⟩
        replace H : ((graph_reached.f kj2 l0_0 y143).bind fun t146 => (graph_Reach.l0 kj2 ([] : List Int) t146 (t146.length : Int) 0)) = some r := by first | (rw [hy143]; with_reducible exact H) | (have H2_ := (Option.bind_some _ _).symm.trans H; rw [hy143]; with_reducible exact H2_) | (have H2_ := (Option.bind_some _ _).symm.trans H; with_reducible exact H2_) | with_reducible exact H | (rw [hy143]; exact H) | exact H
        have Ny143 := aM hy143
        clear hy143
        replace H := Option.bind_eq_some_iff.mp H
        obtain ⟨t146, A160, H⟩ := H
        replace H : (graph_Reach.l0 kj2 ([] : List Int) t146 (t146.length : Int) 0) = some r := H
        have A16 := aM A160
        clear A160
        have H' := aM H
        clear H
        have hcz17_0 : wc.cell? ⟨gb141, 0, none⟩ = some (.slice A0_0 l0_0.length c0_0) := (blk_cell BK141.out 0).trans rfl
        have hfz17_0 := blk_frozen BK141.out 0
        go_wp2_with (first | ((with_reducible refine gate_dst (N := 25) rfl ?_); (try (refine gate_guard (by rfl) ?_; dsimp only)); refine Kd.R_lit (Kd.int .i64) _ 3 ?hg (N := 25) ?hd (xs := ([a1] : List Int)) (inner := [.int .i64 a1]) (ok := fun _ => True) (okp := fun _ => True) ?hr ?hp (fun _ hk => hk) trivial (Below.refl _ _) (Nat.le_refl _) (by simp) ?_; (case hd => rfl); (case hg => rfl); (case hr => first | (go_simp; done) | (go_simp; rfl)); (case hp => exact (Reps.one (show Kd.M (Kd.int .i64) _ _ _ a1 [.int .i64 a1] from rfl) (Reps.none _ _))); intro v144 w18 ho19 hb hg_ hnew_; clear hg_ hnew_; (first | rw [← Ny143.out] at ho19 | (simp only [Int.reduceToNat] at ho19; rw [← Ny143.out] at ho19)); have n0_ := aM (Kd.R_lower ho19 (below_size (by repeat (first | (with_reducible first | exact HB.out | apply bA | apply bN | apply bD | refine below_set ?_ GE141.out) | exact HB.out)))); have n1_ := aM (blk_below (g := gb141) (o := .cells #[.slice A0_0 l0_0.length c0_0] 24 (0, 0)) (by (with_reducible repeat (first | refine kN ?_ _ | refine kD ?_ | refine kA ?_ _)); exact BK141.out) hb); have n2_ := aM (below_step (by repeat (first | (with_reducible first | exact HB.out | apply bA | apply bN | apply bD | refine below_set ?_ GE141.out) | exact HB.out)) hb); clear BK141; clear HB; have HO145 := n0_; have BK141 := n1_; have HB := n2_; clear n0_ n1_ n2_; clear hb ho19; obtain ⟨Ao20, co20, eo20⟩ := Kd.R_slice HO145.out; subst eo20) | ((with_reducible refine gate_callee (f := 33) rfl ?_); refine goesL_ (some 26) rfl rfl Try.func33 (by kernel_rfl) rfl #[.slice A0_0 l0_0.length c0_0, .slice Ao20 y143.length co20] rfl (by (try simp only [List.map_toArray, List.map_cons, List.map_nil]); first | done | rfl | (simp only [List.length_drop, List.length_take]; rfl)) ?_; (with_reducible refine (graph_reached.calls kj2 _ _ l0_0 _ _ y143 t146 _ ?side1 ?side2 ?side3 ?side4 A16.out).mono ?_); (case side1 => repeat (first | exact (Kd.C_below HR0_0.out HB.out) | (with_reducible refine Kd.C_alloc ?_ _) | (with_reducible refine Kd.C_drewN ?_ _) | (with_reducible refine Kd.C_drew ?_))); (case side2 => exact HC0_0.out); (case side3 => repeat (first | exact (Kd.R_reads' HO145.out).2.2 | (with_reducible refine Kd.C_alloc ?_ _) | (with_reducible refine Kd.C_drewN ?_ _) | (with_reducible refine Kd.C_drew ?_))); (case side4 => exact (Kd.R_reads' HO145.out).2.1); rintro e w21 ⟨v147, rfl, ho0, hb⟩; refine ⟨_, rfl, ?_⟩; have n0_ := aM (Kd.R_below (by (with_reducible repeat (first | apply Kd.R_alloc | apply Kd.R_drewN | apply Kd.R_drew)); exact HO145.out) hb); have n1_ := aM (Kd.R_lower ho0 (below_size (by repeat (first | (with_reducible first | exact HB.out | apply bA | apply bN | apply bD | refine below_set ?_ GE141.out) | exact HB.out)))); have n2_ := aM (blk_below (g := gb141) (o := .cells #[.slice A0_0 l0_0.length c0_0] 24 (0, 0)) (by (with_reducible repeat (first | refine kN ?_ _ | refine kD ?_ | refine kA ?_ _)); exact BK141.out) hb); have n3_ := aM (below_step (by repeat (first | (with_reducible first | exact HB.out | apply bA | apply bN | apply bD | refine below_set ?_ GE141.out) | exact HB.out)) hb); clear HO145; clear BK141; clear HB; have HO145 := n0_; have HO148 := n1_; have BK141 := n2_; have HB := n3_; clear n0_ n1_ n2_ n3_; (try clear hb); (try clear hb2); (try clear hk); (try clear hi); (try clear ho0); obtain ⟨Ao22, co22, eo22⟩ := Kd.R_slice HO148.out; subst eo22))
        go_loopg [5, 28] kj2 (fun kq v5 v28 w' => ∃ (x5_2 : List Int) (x28_2 : Int), v28 = .int .i64 x28_2 ∧ Aside0 (graph_Reach.l0 kq x5_2 t146 (t146.length : Int) x28_2 = some r) ∧ Aside0 (kq ≤ kj2) ∧ Aside0 (Kd.R (Kd.int .i64) 3 w' w.heap.size (fun _ => True) v5 x5_2) ∧ Aside0 (Kd.R Kd.bool 4 w' w.heap.size (fun _ => True) (.slice Ao22 t146.length co22) t146) ∧ Aside0 (w'.heap[gb141]? = some (.cells #[(.slice A0_0 l0_0.length c0_0)] 24 (0, 0))) ∧ Aside0 (Below w.heap.size w w'))
        case atStart => exact ⟨(([] : List Int)), (0), (by first | rfl | (simp; done) | (simp [*]; done)), H', ⟨Nat.le_refl _⟩, ⟨by first | exact Kd.R_nil _ _ _ _ _ | exact Kd.N_nil _ _ _ _ _ | exact Kd.V_nil _ _ _ _ _ | exact Kd.Q_nil _ _ _ _ _ | exact Kd.S_nil _ _ _ _ _⟩, ⟨by (with_reducible repeat (first | apply Kd.R_alloc | apply Kd.R_drewN | apply Kd.R_drew)); exact HO148.out⟩, ⟨by (with_reducible repeat (first | refine kN ?_ _ | refine kD ?_ | refine kA ?_ _)); exact BK141.out⟩, ⟨by repeat (first | (with_reducible first | exact HB.out | apply bA | apply bN | apply bD | refine below_set ?_ GE141.out) | exact HB.out)⟩⟩
        case round =>
          clear H'
          try clear c1
          try clear c2
          try clear p2
          try clear c3
          try clear c6
          try clear c7
          try clear c7b0
          try clear c15
          try clear c18
          try clear hcz10_0
          try clear hcz12_0
          try clear hcz13_0
          try clear hcz17_0
          try clear hcz8_0
          try clear hfz10_0
          try clear hfz12_0
          try clear hfz13_0
          try clear hfz17_0
          try clear hfz8_0
          try clear p2
          obtain ⟨x5_2, x28_2, rfl, HA, HK2, HO_5, HO_26, BK141, HB⟩ := hrel
          cases gk with
          | zero => exact absurd HA.out (by simp [graph_Reach.l0])
          | succ k2 =>
            have H := HA.out
            clear HA
            simp only [graph_Reach.l0] at H
            by_cases c23 : x28_2 < (t146.length : Int)
            · rw [if_pos c23] at H
              have c23b0 : decide (x28_2 < (t146.length : Int)) = true := decide_eq_true c23
              clear c23
              by_cases c24 : 0 ≤ x28_2
              · rw [if_pos c24] at H
                have c24b0 : decide (0 ≤ x28_2) = true := decide_eq_true c24
                clear c24
                by_cases c25 : x28_2 < (t146.length : Int)
                · rw [if_pos c25] at H
                  have c25b0 : decide (x28_2 < (t146.length : Int)) = true := decide_eq_true c25
                  clear c25
                  obtain ⟨bq26, hbq26⟩ : ∃ b_ : Bool, b_ = (rdOf false t146 x28_2) := ⟨_, rfl⟩
                  replace H : (if bq26 = true then (if x5_2.length < 17592186044416 then (graph_Reach.l0 k2 (x5_2 ++ [x28_2]) t146 (t146.length : Int) (wrap64 (x28_2 + 1))) else (none)) else (graph_Reach.l0 k2 x5_2 t146 (t146.length : Int) (wrap64 (x28_2 + 1)))) = some r := by rw [← hbq26] at H; exact H
                  have Nbq26 := aM hbq26
                  clear hbq26
                  by_cases c27 : bq26 = true
                  · subst c27
                    have H1 : (if x5_2.length < 17592186044416 then (graph_Reach.l0 k2 (x5_2 ++ [x28_2]) t146 (t146.length : Int) (wrap64 (x28_2 + 1))) else (none)) = some r := by rw [if_pos rfl] at H; exact H
                    clear H
                    have H := H1
                    clear H1
                    by_cases c28 : x5_2.length < 17592186044416
                    · rw [if_pos c28] at H
                      have LMc28 := aM c28
                      clear c28
                      obtain ⟨y150, hy150⟩ : ∃ y_ : List Int, y_ = (x5_2 ++ [x28_2]) := ⟨_, rfl⟩
                      replace H : (graph_Reach.l0 k2 y150 t146 (t146.length : Int) (wrap64 (x28_2 + 1))) = some r := by first | (rw [hy150]; with_reducible exact H) | (have H2_ := (Option.bind_some _ _).symm.trans H; rw [hy150]; with_reducible exact H2_) | (have H2_ := (Option.bind_some _ _).symm.trans H; with_reducible exact H2_) | with_reducible exact H | (rw [hy150]; exact H) | exact H
                      have Ny150 := aM hy150
                      clear hy150
                      have H' := aM H
                      clear H
                      have p149 : 0 ≤ (x28_2 : Int) := of_decide_eq_true (by first | (with_reducible assumption) | assumption)
                      have q149 : x28_2 < (t146.length : Int) := of_decide_eq_true (by first | (with_reducible assumption) | assumption)
                      obtain ⟨ad149, e149, hx149_0⟩ := Kd.at_bool (Kd.R_reads' HO_26.out).2.2 x28_2 p149 q149
                      (try rw [← Nbq26.out] at hx149_0)
                      cases e149
                      replace p149 := eq_true p149
                      replace q149 := eq_true q149
                      go_wp2_with (first | ((with_reducible refine gate_builtin (b := .append) (xs := #[.tmp 34, .tmp 36]) rfl ?_); (try (refine gate_guard (by rfl) ?_; dsimp only)); at_builtin; refine Kd.R_append (Kd.int .i64) (w0 := w) w.heap.size rfl (.tmp 34) (.tmp 36) 32 3 (.int .i64 0) 8 rfl Try.underlying32 info3 rfl (by decide) (by omega) u5 x5_2 x28_2 [.int .i64 x28_2] (fun _ => True) (fun _ => False) rfl rfl ?aP (fun _ hk => hk.elim) ?aF ?aO ?aB ?aS ?aL ?_; (case aP => exact rfl); (case aB => exact (by repeat (first | (with_reducible first | exact HB.out | apply bA | apply bN | apply bD | refine below_set ?_ GE141.out) | exact HB.out))); (case aF => exact (fun _ _ => trivial)); (case aO => exact (by (with_reducible repeat (first | apply Kd.R_alloc | apply Kd.R_drewN | apply Kd.R_drew)); exact HO_5.out)); (case aS => exact (below_size (by repeat (first | (with_reducible first | exact HB.out | apply bA | apply bN | apply bD | refine below_set ?_ GE141.out) | exact HB.out)))); (case aL => have := LMc28.out; omega); intro v151 w29 ho hb hg hat; rw [← Ny150.out] at ho; have n0_ := aM (Kd.R_over' (by (with_reducible repeat (first | apply Kd.R_alloc | apply Kd.R_drewN | apply Kd.R_drew)); exact HO_26.out) (Kd.R_typed (by (with_reducible repeat (first | apply Kd.R_alloc | apply Kd.R_drewN | apply Kd.R_drew)); exact HO_5.out)) (by decide) hg); have n1_ := aM (blk_grown (g := gb141) (o := .cells #[.slice A0_0 l0_0.length c0_0] 24 (0, 0)) (by (with_reducible repeat (first | refine kN ?_ _ | refine kD ?_ | refine kA ?_ _)); exact BK141.out) hg (Kd.R_ne HO_5.out BK141.out (by decide))); have n2_ := aM (hb); have n3_ := aM (ho); clear HO_26; clear BK141; clear HB; clear HO_5; have HO_26 := n0_; have BK141 := n1_; have HB := n2_; have HO152 := n3_; clear n0_ n1_ n2_ n3_; clear ho hb hg hat))
                      go_roundg k2
                      case measure => have := HJ2.out; have := HK2.out; omega
                      case rel => exact ⟨(y150), (wrap64 (x28_2 + 1)), (by first | rfl | (simp; done) | (simp [*]; done)), H', ⟨by have := HJ2.out; have := HK2.out; omega⟩, ⟨by (with_reducible repeat (first | apply Kd.R_alloc | apply Kd.R_drewN | apply Kd.R_drew)); exact HO152.out⟩, ⟨by (with_reducible repeat (first | apply Kd.R_alloc | apply Kd.R_drewN | apply Kd.R_drew)); exact HO_26.out⟩, ⟨by (with_reducible repeat (first | refine kN ?_ _ | refine kD ?_ | refine kA ?_ _)); exact BK141.out⟩, ⟨by repeat (first | (with_reducible first | exact HB.out | apply bA | apply bN | apply bD | refine below_set ?_ GE141.out) | exact HB.out)⟩⟩
                    · rw [if_neg c28] at H
                      exact absurd H (by simp)
                  · replace c27 := Bool.eq_false_iff.mpr c27
                    subst c27
                    have H1 : (graph_Reach.l0 k2 x5_2 t146 (t146.length : Int) (wrap64 (x28_2 + 1))) = some r := by rw [if_neg (show ¬ (false = true) by decide)] at H; exact H
                    clear H
                    have H := H1
                    clear H1
                    have H' := aM H
                    clear H
                    have p149 : 0 ≤ (x28_2 : Int) := of_decide_eq_true (by first | (with_reducible assumption) | assumption)
                    have q149 : x28_2 < (t146.length : Int) := of_decide_eq_true (by first | (with_reducible assumption) | assumption)
                    obtain ⟨ad149, e149, hx149_0⟩ := Kd.at_bool (Kd.R_reads' HO_26.out).2.2 x28_2 p149 q149
                    (try rw [← Nbq26.out] at hx149_0)
                    cases e149
                    replace p149 := eq_true p149
                    replace q149 := eq_true q149
                    go_wp2
                    go_roundg k2
                    case measure => have := HJ2.out; have := HK2.out; omega
                    case rel => exact ⟨(x5_2), (wrap64 (x28_2 + 1)), (by first | rfl | (simp; done) | (simp [*]; done)), H', ⟨by have := HJ2.out; have := HK2.out; omega⟩, ⟨by (with_reducible repeat (first | apply Kd.R_alloc | apply Kd.R_drewN | apply Kd.R_drew)); exact HO_5.out⟩, ⟨by (with_reducible repeat (first | apply Kd.R_alloc | apply Kd.R_drewN | apply Kd.R_drew)); exact HO_26.out⟩, ⟨by (with_reducible repeat (first | refine kN ?_ _ | refine kD ?_ | refine kA ?_ _)); exact BK141.out⟩, ⟨by repeat (first | (with_reducible first | exact HB.out | apply bA | apply bN | apply bD | refine below_set ?_ GE141.out) | exact HB.out)⟩⟩
                · rw [if_neg c25] at H
                  exact absurd H (by simp)
              · rw [if_neg c24] at H
                exact absurd H (by simp)
            · rw [if_neg c23] at H
              have c23b0 : decide (x28_2 < (t146.length : Int)) = false := decide_eq_false c23
              clear c23
              obtain rfl := Option.some.inj H
              go_wp2
              go_ret
              exact ⟨_, by first | rfl | (simp [errW_none, errW_some] <;> rfl) | (simp [*, errW_none, errW_some] <;> rfl), by (with_reducible repeat (first | apply Kd.R_alloc | apply Kd.R_drewN | apply Kd.R_drew)); exact HO_5.out, by repeat (first | (with_reducible first | exact HB.out | apply bA | apply bN | apply bD | refine below_set ?_ GE141.out) | exact HB.out)⟩

end Go.Proofs.Ytpmjpngmmphkmaa.P
/- graph.Levels as a Lean function on lists. -/
namespace Go.Proofs.Ytpmjpngmmphkmaa
open Go.RowKit Go.Proofs.YtpmjpngmmphkmaaW.PrintWords Go.Proofs.YtpmjpngmmphkmaaW.PrintLast Go.Proofs.YtpmjpngmmphkmaaW.PrintMore Go.Proofs.Ytpmjpngmmphkmaa.P
namespace Lv
open Tj Rw Od

/-- The level of v by its successors. -/
def lv1 : Nat → Int → List Int → Int → List Int → Option (List Int)
  | 0, _, _, _, _ => none
  | k + 1, v, l, i, lv =>
    if i < l.length then
      if 0 ≤ rd l i ∧ rd l i < lv.length then lv1 k v l (i + 1) (lv.set v.toNat (max (rd lv v) (wrap64 (rd lv (rd l i) + 1)))) else none
    else some lv

/-- The levels, component by component; none inside: a cycle. -/
def lv0 : Nat → List (List Int) → List (List Int) → Int → List Int → Int → Option (Option (List Int × Int))
  | 0, _, _, _, _, _ => none
  | k + 1, es, comps, i, lv, top =>
    if i < comps.length then
      if 0 < (row comps i).length ∧ 0 ≤ rd (row comps i) 0 ∧ rd (row comps i) 0 < es.length then
        if 1 < (row comps i).length ∨ (row es (rd (row comps i) 0)).contains (rd (row comps i) 0) = true then some none
        else (lv1 k (rd (row comps i) 0) (row es (rd (row comps i) 0)) 0 lv).bind fun lv2 => lv0 k es comps (i + 1) lv2 (max top (rd lv2 (rd (row comps i) 0)))
      else none
    else some (some (lv, top))

/-- The nodes by their levels. -/
def lv3 : Nat → List Int → Int → List (List Int) → Option (List (List Int))
  | 0, _, _, _ => none
  | k + 1, lv, i, out =>
    if i < lv.length then
      if 0 ≤ rd lv i ∧ rd lv i < out.length ∧ (row out (rd lv i)).length < 17592186044415 then lv3 k lv (i + 1) (app out (rd lv i) i) else none
    else some out

noncomputable def levelsF (k : Nat) (es : List (List Int)) : Option (List (List Int) × Int) :=
  (graph_valid.f k es).bind fun b =>
    if b = true then
      (graph_ordered.f es).bind fun comps =>
        if es.length < 17592186044416 then
          (lv0 k es comps 0 (List.replicate es.length 0) (-1)).bind fun o =>
            match o with
            | none => some ([], 18)
            | some (lv, top) => if 0 ≤ wrap64 (top + 1) ∧ wrap64 (top + 1) < 5864062014805 then (lv3 k lv 0 (List.replicate (wrap64 (top + 1)).toNat [])).map fun out => (out, 0) else none
        else none
    else some ([], 1)
end Lv
end Go.Proofs.Ytpmjpngmmphkmaa
/- slices.Contains as printed says whether the list has the number. -/
namespace Go.Proofs.Ytpmjpngmmphkmaa
open Go.RowKit Go.Proofs.YtpmjpngmmphkmaaW.PrintWords Go.Proofs.YtpmjpngmmphkmaaW.PrintLast Go.Proofs.YtpmjpngmmphkmaaW.PrintMore Go.Proofs.Ytpmjpngmmphkmaa.P
namespace Lv
open Tj Rw Od
theorem wrap_small (x : Int) (h0 : -9223372036854775808 ≤ x) (h1 : x < 9223372036854775808) : wrap64 x = x := by
  unfold wrap64
  omega
theorem index_run (l : List Int) (a : Int) (hl : l.length ≤ 9223372036854775807) : ∀ (m : Nat) (i : Nat), i + m = l.length → (l.take i).contains a = false → ∃ r : Int, slices_Index_int_int.l0 (m + 1) l a l.length i = some r ∧ (decide (r ≥ 0)) = l.contains a := by
  intro m
  induction m with
  | zero =>
    intro i hi hc
    have : i = l.length := by omega
    subst this
    rw [List.take_length] at hc
    refine ⟨-1, ?_, by rw [hc]; decide⟩
    unfold slices_Index_int_int.l0
    rw [if_neg (by omega)]
  | succ m ih =>
    intro i hi hc
    unfold slices_Index_int_int.l0
    rw [if_pos (by omega), if_pos (by omega), if_pos (by omega)]
    have hil : i < l.length := by omega
    have hrd : rd l (i : Int) = l[i] := by
      show l.getD (i : Int).toNat 0 = l[i]
      rw [Int.toNat_natCast, List.getD_eq_getElem?_getD, List.getElem?_eq_getElem hil]
      rfl
    rw [hrd]
    by_cases he : a = l[i]
    · rw [if_pos he]
      refine ⟨i, rfl, ?_⟩
      have h1 : l.contains a = true := by
        rw [List.contains_iff_mem, he]
        exact List.getElem_mem hil
      rw [h1]
      exact decide_eq_true (by omega)
    · rw [if_neg he]
      have hw : wrap64 ((i : Int) + 1) = ((i + 1 : Nat) : Int) := by
        rw [wrap_small _ (by omega) (by omega)]
        omega
      rw [hw]
      refine ih (i + 1) (by omega) ?_
      rw [List.take_succ_eq_append_getElem hil, List.contains_append, hc]
      simp [he]
theorem contains_run (l : List Int) (a : Int) (hl : l.length ≤ 9223372036854775807) : slices_Contains_int_int.f (l.length + 1) l a = some (l.contains a) := by
  obtain ⟨r, h1, h2⟩ := index_run l a hl l.length 0 (by omega) rfl
  unfold slices_Contains_int_int.f slices_Index_int_int.f
  rw [show ((0 : Int)) = ((0 : Nat) : Int) from rfl, h1]
  show some (decide (r ≥ 0)) = _
  rw [h2]
end Lv
end Go.Proofs.Ytpmjpngmmphkmaa
/- graph.Levels: what the call does, by its Lean function. -/
namespace Go.Proofs.Ytpmjpngmmphkmaa
open Go.RowKit Go.Proofs.YtpmjpngmmphkmaaW.PrintWords Go.Proofs.YtpmjpngmmphkmaaW.PrintLast Go.Proofs.YtpmjpngmmphkmaaW.PrintMore Go.Proofs.Ytpmjpngmmphkmaa.P
namespace Lv
set_option linter.unusedVariables false
set_option linter.unusedSimpArgs false
open Tj Rw Od

set_option maxRecDepth 100000 in
set_option maxHeartbeats 4000000 in
theorem levels_calls (k : Nat) (A : Option Addr) (c : Nat) (es : List (List Int)) (r1 : List (List Int)) (r2 : Int) (w : World) (hr : Kd.C KS w A es.length es) (hc : es.length ≤ c) (h : levelsF k es = some (r1, r2)) :
    Calls Try.prog 14 #[.agg #[.slice A es.length c]] w fun e w' => ∃ v, e = .returned (.tuple #[v, .int .i64 r2]) ∧ Kd.S KS 32 w' w.heap.size (fun _ => True) v r1 ∧ Below w.heap.size w w' := by
  have hu24 := Try.underlying24
  unfold levelsF at h
  obtain ⟨b, hb, h⟩ := Option.bind_eq_some_iff.1 h
  have HR := Aside0.mk hr
  have HC := Aside0.mk hc
  clear hr hc
  cases b with
  | false =>
    have HVA := Aside0.mk hb
    rw [if_neg (by decide)] at h
    obtain ⟨rfl, rfl⟩ := Prod.mk.inj (Option.some.inj h)
    clear hb h
    go_enter Try.func14, Try.ntmps14
    go_wp2_with (first | ((with_reducible refine gate_dst (N := 1) rfl ?_); refine box_event ?hg (N := 1) ?hd (cs := #[.slice A es.length c]) (t := 24) ?hr ?_; (case hd => rfl); (case hg => rfl); (case hr => first | (go_simp; done) | (go_simp; rfl)); intro gb hg w5 hbox hb; have B5 := Aside0.mk (below_step (Below.refl w.heap.size w) hb); have K5 := Aside0.mk hbox; have GE : Aside0 (w.heap.size ≤ gb) := Aside0.mk (by rw [hg]; exact Nat.le_refl _); have hcz : w5.cell? ⟨gb, 0, none⟩ = some (.slice A es.length c) := (blk_cell K5.out 0).trans rfl; clear hb hbox hg) | (go_at_call 27; refine (graph_valid.calls k A c es false _ (Kd.C_below HR.out B5.out) HC.out HVA.out).mono ?_; rintro e w7 ⟨rfl, hb7⟩; have B7 := Aside0.mk (below_step B5.out hb7); have K7 := Aside0.mk (blk_below K5.out hb7); clear hb7 hcz B5 K5; have hcz : w7.cell? ⟨gb, 0, none⟩ = some (.slice A es.length c) := (blk_cell K7.out 0).trans rfl) | fail)
    go_ret2
    exact ⟨_, rfl, Kd.S_nil _ _ _ _ _, B7.out⟩
  | true =>
    have HVA := Aside0.mk hb
    rw [if_pos rfl] at h
    obtain ⟨comps, ho, h⟩ := Option.bind_eq_some_iff.1 h
    have HO := Aside0.mk ho
    by_cases hL : es.length < 17592186044416
    case neg => rw [if_neg hL] at h; cases h
    rw [if_pos hL] at h
    obtain ⟨o, hlv, h⟩ := Option.bind_eq_some_iff.1 h
    have HLV := Aside0.mk hlv
    have HH := Aside0.mk h
    have HLL := Aside0.mk hL
    clear hb ho h hlv hL
    go_enter Try.func14, Try.ntmps14
    go_upto_region 4 with (first | ((with_reducible refine gate_dst (N := 1) rfl ?_); refine box_event ?hg (N := 1) ?hd (cs := #[.slice A es.length c]) (t := 24) ?hr ?_; (case hd => rfl); (case hg => rfl); (case hr => first | (go_simp; done) | (go_simp; rfl)); intro gb hg w5 hbox hb; have B5 := Aside0.mk (below_step (Below.refl w.heap.size w) hb); have K5 := Aside0.mk hbox; have GE : Aside0 (w.heap.size ≤ gb) := Aside0.mk (by rw [hg]; exact Nat.le_refl _); have hcz : w5.cell? ⟨gb, 0, none⟩ = some (.slice A es.length c) := (blk_cell K5.out 0).trans rfl; clear hb hbox hg) | (go_at_call 27; refine (graph_valid.calls k A c es true _ (Kd.C_below HR.out B5.out) HC.out HVA.out).mono ?_; rintro e w7 ⟨rfl, hb7⟩; have B7 := Aside0.mk (below_step B5.out hb7); have K7 := Aside0.mk (blk_below K5.out hb7); clear hb7 hcz B5 K5; have hcz : w7.cell? ⟨gb, 0, none⟩ = some (.slice A es.length c) := (blk_cell K7.out 0).trans rfl) | (go_at_call 28; refine (graph_ordered.calls A c es comps _ (Kd.C_below HR.out B7.out) HC.out HO.out).mono ?_; rintro e w9 ⟨vc, rfl, hV, hb9⟩; obtain ⟨Ac, cc, rfl, hlc, hF⟩ := hV; have V9 := Aside0.mk (Kd.F_bound hF); have B9 := Aside0.mk (below_step B7.out hb9); have K9 := Aside0.mk (blk_below K7.out hb9); have S7 := Aside0.mk (B7.out.size); have LC := Aside0.mk (Kd.F_max hF); clear hF hb9 hcz B7 K7 hlc; have hcz : w9.cell? ⟨gb, 0, none⟩ = some (.slice A es.length c) := (blk_cell K9.out 0).trans rfl) | fail)
    obtain ⟨i0, e0, e1, e2, e3⟩ := info_parts info3
    have hll := HLL.out
    have hmk := run_make w9 32 3 i0 _ Try.underlying32 e0 e1 .i64 .i64 es.length es.length (by omega) (by omega) (by rw [e3]; omega) (by omega)
    rw [Int.toNat_natCast, e2, Nat.mul_one] at hmk
    have hz0 : (Value.int .i64 0).cells = #[.int .i64 0] := rfl
    rw [hz0] at hmk
    clear e0 e1 e2 e3 hz0
    go_upto_region 6 with fail
    have hb0 := B9.out.size
    have O3 := Aside0.mk (arr_made (blk_new w9 (.cells (madeCells #[.int .i64 0] es.length) 3)))
    have B3 := Aside0.mk (below_alloc B9.out (.cells (madeCells #[.int .i64 0] es.length) 3))
    have K3 := Aside0.mk (blk_alloc K9.out (.cells (madeCells #[.int .i64 0] es.length) 3))
    have F3 := Aside0.mk (Kd.F_alloc V9.out (.cells (madeCells #[.int .i64 0] es.length) 3))
    have HGA : Aside0 (w.heap.size ≤ w9.heap.size ∧ gb < w9.heap.size) := ⟨hb0, blk_lt K9.out⟩
    clear hmk B9 K9 V9 hb0 hcz
    generalize w9.alloc (.cells (madeCells #[.int .i64 0] es.length) 3) = w10 at O3 B3 K3 F3 ⊢
    generalize w9.heap.size = ga at O3 B3 K3 F3 HGA ⊢
    have hlc := LC.out
    have hll2 : Aside0 ((List.replicate es.length (0 : Int)).length = es.length) := ⟨by simp⟩
    go_wp2_with fail
    go_loopg [6, 27] k (fun kq v6 v27 w' => ∃ (i top : Int) (lv : List Int), v27 = .int .i64 i ∧ v6 = .int .i64 top ∧ Aside0 (0 ≤ i) ∧ Aside0 (lv.length = es.length) ∧ Aside0 (lv0 kq es comps i lv top = some o) ∧ Aside0 (kq ≤ k) ∧ Aside0 (Below w.heap.size w w') ∧ Aside0 (w'.heap[gb]? = some (.cells #[.slice A es.length c] 24 (0, 0))) ∧ Aside0 (w'.heap[ga]? = some (arr lv)) ∧ Aside0 (Kd.F KS w' (fun k => w7.heap.size ≤ k ∧ k < ga) Ac comps.length comps))
    case atStart => exact ⟨0, -1, _, rfl, rfl, ⟨by omega⟩, hll2, HLV, ⟨Nat.le_refl _⟩, B3, K3, O3, F3⟩
    case round => as_aux_lemma =>
      clear HLV B3 K3 O3 F3 hll2
      obtain ⟨i, top, lv, rfl, rfl, HI, HLEN, HA, HK1, B3, K3, O3, F3⟩ := hrel
      cases gk with
      | zero => exact absurd HA.out (by simp [lv0])
      | succ k1 =>
        have H := HA.out
        clear HA
        rw [lv0] at H
        by_cases ci : i < comps.length
        · as_aux_lemma =>
          rw [if_pos ci] at H
          by_cases cx : 0 < (row comps i).length ∧ 0 ≤ rd (row comps i) 0 ∧ rd (row comps i) 0 < es.length
          case neg => rw [if_neg cx] at H; cases H
          rw [if_pos cx] at H
          obtain ⟨cx0, cx1, cx2⟩ := cx
          have hi0 := HI.out
          obtain ⟨adc, Ar, cr, er, hx, hxl, hxi⟩ := at_L1 (Kd.F_now F3.out) i hi0 ci
          subst er
          have el : rd_L1 comps i = row comps i := rfl
          rw [el] at hx hxl hxi
          have HXI := Aside0.mk hxi
          have HXL := Aside0.mk hxl
          obtain ⟨ad0, e0, hy⟩ := Kd.at_int hxi 0 (by omega) (by omega)
          subst e0
          rw [show ((0 : Int)).toNat = 0 from rfl, Addr.add_zero'] at hy
          clear hxi hxl el
          have cb : decide (i < (comps.length : Int)) = true := decide_eq_true ci
          have q0 := eq_true hi0
          have cz : (0 < (row comps i).length) = True := eq_true cx0
          have H' := Aside0.mk H
          clear H
          go_upto_region 10 with fail
          clear hy hx cz cb q0
          generalize rd (row comps i) 0 = v at H' cx1 cx2 ⊢
          have hcz := (blk_cell K3.out 0)
          have hcy : wr.cell? ⟨gb, 0, none⟩ = some (.slice A es.length c) := hcz.trans rfl
          clear hcz
          by_cases c1 : 1 < (row comps i).length
          · as_aux_lemma =>
            have H := H'.out
            clear H'
            rw [if_pos (Or.inl c1)] at H
            obtain rfl := Option.some.inj H
            obtain ⟨rfl, rfl⟩ := Prod.mk.inj (Option.some.inj HH.out)
            have cb1 : decide ((1 : Int) < ((row comps i).length : Int)) = true := decide_eq_true (by omega)
            clear H HH
            go_wp2_with fail
            go_ret2
            exact ⟨_, rfl, Kd.S_nil _ _ _ _ _, B3.out⟩
          · as_aux_lemma =>
            have cb1 : decide ((1 : Int) < ((row comps i).length : Int)) = false := decide_eq_false (by omega)
            obtain ⟨adE, Ae, ce, er, hx, hxl, hxi⟩ := at_L1 HR.out v cx1 cx2
            subst er
            have el : rd_L1 es v = row es v := rfl
            rw [el] at hx hxl hxi
            have hx1 := (B3.out.cell (World.block_lt_of_cell? _ _ hx)).trans hx
            have HXE := Aside0.mk hx
            have EXI := Aside0.mk hxi
            have EXL := Aside0.mk hxl
            clear hx hxi hxl el
            have q1 := eq_true cx1
            have q2 := eq_true cx2
            have CON := Aside0.mk (fun (wq : World) (hq : Below w.heap.size w wq) => slices_Contains_int_int.calls ((row es v).length + 1) Ae ce (row es v) v _ wq (Kd.C_below EXI.out hq) EXL.out (contains_run _ _ (EXI.out.2.1)))
            by_cases cc1 : (row es v).contains v = true
            · as_aux_lemma =>
              have H := H'.out
              clear H'
              rw [if_pos (Or.inr cc1)] at H
              obtain rfl := Option.some.inj H
              obtain ⟨rfl, rfl⟩ := Prod.mk.inj (Option.some.inj HH.out)
              clear H HH
              rw [cc1] at CON
              go_wp2_with (go_at_call 31; refine (CON.out wr B3.out).mono ?_; rintro e w11 ⟨rfl, hd11⟩; obtain ⟨⟨nq, rfl⟩⟩ := hd11)
              go_ret2
              exact ⟨_, rfl, Kd.S_nil _ _ _ _ _, pw_below_drewN B3.out nq⟩
            · as_aux_lemma =>
              have cc2 : (row es v).contains v = false := by simpa using cc1
              rw [cc2] at CON
              have H := H'.out
              clear H'
              rw [if_neg (by rintro (h | h); exact c1 h; exact cc1 h)] at H
              obtain ⟨lv2, hl2, H⟩ := Option.bind_eq_some_iff.1 H
              have HL2 := Aside0.mk hl2
              have H' := Aside0.mk H
              clear H hl2
              go_upto_region 12 with (go_at_call 31; refine (CON.out wr B3.out).mono ?_; rintro e w11 ⟨rfl, hd11⟩; obtain ⟨⟨nq, rfl⟩⟩ := hd11)
              have B4 := Aside0.mk (pw_below_drewN B3.out nq)
              have K4 := Aside0.mk (blk_drewN K3.out nq)
              have O4 := Aside0.mk (show (wr.drewN nq).heap[ga]? = some (arr lv) from blk_drewN O3.out nq)
              have F4 := Aside0.mk (Kd.F_drewN F3.out nq)
              clear B3 K3 O3 F3 CON hcy hx1
              generalize wr.drewN nq = w12 at B4 K4 O4 F4 ⊢
              have hcy : w12.cell? ⟨gb, 0, none⟩ = some (.slice (some adE) es.length c) := (blk_cell K4.out 0).trans rfl
              have hx1 := (B4.out.cell (World.block_lt_of_cell? _ _ HXE.out)).trans HXE.out
              have hel := EXI.out.2.1
              go_wp2_with fail
              clear hx1 hcy q1 q2
              go_loopg [52] k1 (fun kq v52 w' => ∃ (j : Int) (lv3 : List Int), v52 = .int .i64 j ∧ Aside0 (0 ≤ j) ∧ Aside0 (lv3.length = es.length) ∧ Aside0 (lv1 kq v (row es v) j lv3 = some lv2) ∧ Aside0 (kq ≤ k1) ∧ Aside0 (Below w.heap.size w w') ∧ Aside0 (w'.heap[gb]? = some (.cells #[.slice (some adE) es.length c] 24 (0, 0))) ∧ Aside0 (w'.heap[ga]? = some (arr lv3)) ∧ Aside0 (Kd.F KS w' (fun k => w7.heap.size ≤ k ∧ k < ga) (some adc) comps.length comps))
              case atStart => exact ⟨0, _, rfl, ⟨by omega⟩, HLEN, HL2, ⟨Nat.le_refl _⟩, B4, K4, O4, F4⟩
              case round => as_aux_lemma =>
                clear HL2 B4 K4 O4 F4
                obtain ⟨j, lv3, rfl, HJ, HLEN3, HA, HK2, B4, K4, O4, F4⟩ := hrel
                obtain ⟨W2, rfl⟩ : ∃ W2 : World, W2 = wr := ⟨_, rfl⟩
                cases gk with
                | zero => exact absurd HA.out (by simp [lv1])
                | succ k2 =>
                  have H := HA.out
                  clear HA
                  rw [lv1] at H
                  by_cases cj : j < (row es v).length
                  · as_aux_lemma =>
                    rw [if_pos cj] at H
                    by_cases cd : 0 ≤ rd (row es v) j ∧ rd (row es v) j < lv3.length
                    case neg => rw [if_neg cd] at H; cases H
                    rw [if_pos cd] at H
                    have hj0 := HJ.out
                    obtain ⟨adj, ej, hx⟩ := Kd.at_int EXI.out j hj0 cj
                    subst ej
                    have hxj := (B4.out.cell (World.block_lt_of_cell? _ _ hx)).trans hx
                    clear hx
                    generalize rd (row es v) j = d at H cd hxj
                    obtain ⟨cd0, cd1⟩ := cd
                    have H' := Aside0.mk H
                    clear H
                    have cbj : decide (j < ((row es v).length : Int)) = true := decide_eq_true cj
                    have qj := eq_true hj0
                    have q1 := eq_true cx1
                    have q2 := eq_true cx2
                    have q3 := eq_true cd0
                    have q4 : (d < (es.length : Int)) = True := eq_true (by rw [← HLEN3.out]; exact cd1)
                    have cv := arr_cell O4.out v cx1 (by rw [HLEN3.out]; exact cx2)
                    have cdd := arr_cell O4.out d cd0 cd1
                    have fv := arr_free O4.out v.toNat
                    go_upto_region 15 with fail
                    go_region
                    have B5 := Aside0.mk (below_drew (B4.out.setCell (show w.heap.size ≤ (⟨ga, v.toNat, none⟩ : Addr).block from HGA.out.1) (.int .i64 (max (rd lv3 v) (wrap64 (rd lv3 d + 1))))))
                    have K5 := Aside0.mk (blk_drew (blk_far K4.out (p := ⟨ga, v.toNat, none⟩) (show gb ≠ ga from Nat.ne_of_lt HGA.out.2) (.int .i64 (max (rd lv3 v) (wrap64 (rd lv3 d + 1))))))
                    have O5 := Aside0.mk (show (W2.setCell ⟨ga, v.toNat, none⟩ (.int .i64 (max (rd lv3 v) (wrap64 (rd lv3 d + 1))))).drew.heap[ga]? = some (arr (lv3.set v.toNat (max (rd lv3 v) (wrap64 (rd lv3 d + 1))))) from by unfold arr; rw [← nums_set]; exact blk_drew (blk_set O4.out v.toNat _))
                    have F5 := Aside0.mk (Kd.F_drew (Kd.F_far (p := ⟨ga, v.toNat, none⟩) F4.out (fun k hk => show k ≠ ga from Nat.ne_of_lt hk.2) (.int .i64 (max (rd lv3 v) (wrap64 (rd lv3 d + 1))))))
                    have L5 : Aside0 ((lv3.set v.toNat (max (rd lv3 v) (wrap64 (rd lv3 d + 1)))).length = es.length) := ⟨by rw [List.length_set]; exact HLEN3.out⟩
                    clear B4 K4 O4 F4 cv cdd fv hxj HLEN3
                    generalize (W2.setCell ⟨ga, v.toNat, none⟩ (.int .i64 (max (rd lv3 v) (wrap64 (rd lv3 d + 1))))).drew = w13 at B5 K5 O5 F5 ⊢
                    go_wp2_with fail
                    go_roundg k2
                    case measure => omega
                    case rel => exact ⟨j + 1, _, rfl, ⟨by omega⟩, L5, H', ⟨by have := HK2.out; omega⟩, B5, K5, O5, F5⟩
                  · as_aux_lemma =>
                    rw [if_neg cj] at H
                    obtain rfl := Option.some.inj H
                    have cbj : decide (j < ((row es v).length : Int)) = false := decide_eq_false cj
                    clear H
                    have q1 := eq_true cx1
                    have q2 := eq_true cx2
                    have cv := arr_cell O4.out v cx1 (by rw [HLEN3.out]; exact cx2)
                    go_wp2_with fail
                    go_roundg k1
                    case measure => omega
                    case rel => exact ⟨i + 1, _, _, rfl, rfl, ⟨by have := HI.out; omega⟩, HLEN3, H', ⟨by have := HK1.out; omega⟩, B4, K4, O4, F4⟩
        · as_aux_lemma =>
          rw [if_neg ci] at H
          obtain rfl := Option.some.inj H
          have cb : decide (i < (comps.length : Int)) = false := decide_eq_false ci
          clear H
          by_cases ct : 0 ≤ wrap64 (top + 1) ∧ wrap64 (top + 1) < 5864062014805
          case neg => have := HH.out; simp only at this; rw [if_neg ct] at this; cases this
          have HH1 := HH.out
          simp only at HH1
          rw [if_pos ct] at HH1
          obtain ⟨out0, h3, h4⟩ := Option.map_eq_some_iff.1 HH1
          obtain ⟨rfl, rfl⟩ := Prod.mk.inj h4
          have H3 := Aside0.mk h3
          obtain ⟨ct0, ct1⟩ := ct
          obtain ⟨n, hn⟩ := Int.eq_ofNat_of_zero_le ct0
          rw [hn] at ct1
          rw [hn, Int.toNat_natCast] at H3
          have HN := Aside0.mk hn
          clear HH HH1 h3 h4 ct0 hn
          go_upto_region 19 with fail
          have hn := HN.out
          obtain ⟨i0, e0, e1, e2, e3⟩ := info_parts info32
          have hmk := run_make wr 22 32 i0 _ Try.underlying22 e0 e1 .i64 .i64 n n (by omega) (by omega) (by rw [e3]; omega) (by omega)
          rw [Int.toNat_natCast, e2, Nat.mul_one] at hmk
          have hz0 : (Value.slice none 0 0).cells = #[.slice none 0 0] := rfl
          rw [hz0] at hmk
          clear e0 e1 e2 e3 hz0
          go_upto_region 20 with fail
          obtain ⟨W3, rfl⟩ : ∃ W3 : World, W3 = wr := ⟨_, rfl⟩
          have O6 := Aside0.mk (show (W3.alloc (.cells (madeCells #[.slice none 0 0] n) 32)).heap[ga]? = some (arr lv) from blk_alloc O3.out (.cells (madeCells #[.slice none 0 0] n) 32))
          have B6 := Aside0.mk (below_alloc B3.out (.cells (madeCells #[.slice none 0 0] n) 32))
          have hbs := B3.out.size
          have S6 := Aside0.mk (S_made (base := w.heap.size) (ok := fun k => W3.heap.size ≤ k) (blk_new W3 (.cells (madeCells #[.slice none 0 0] n) 32)) hbs (by unfold maxLen; omega) (Nat.le_refl _))
          have HGO : Aside0 (w.heap.size ≤ W3.heap.size ∧ ga < W3.heap.size) := ⟨hbs, blk_lt O3.out⟩
          have hll2 : Aside0 ((List.replicate n ([] : List Int)).length = n) := ⟨by simp⟩
          have HLE : Aside0 (lv.length ≤ 9223372036854775807) := ⟨by have := HLL.out; rw [HLEN.out]; omega⟩
          clear hmk hn hbs K3 O3 B3 F3
          generalize W3.alloc (.cells (madeCells #[.slice none 0 0] n) 32) = W4 at O6 B6 S6 ⊢
          generalize W3.heap.size = go at S6 HGO ⊢
          have hle := HLE.out
          have hel := HLEN.out
          go_wp2_with fail
          go_loopg [82] k (fun kq v82 w' => ∃ (j : Int) (out : List (List Int)), v82 = .int .i64 j ∧ Aside0 (0 ≤ j) ∧ Aside0 (out.length = n) ∧ Aside0 (lv3 kq lv j out = some out0) ∧ Aside0 (kq ≤ k) ∧ Aside0 (Below w.heap.size w w') ∧ Aside0 (w'.heap[ga]? = some (arr lv)) ∧ Aside0 (Kd.S KS 32 w' w.heap.size (fun k => go ≤ k) (.slice (some ⟨go, 0, none⟩) n n) out))
          case atStart => exact ⟨0, _, rfl, ⟨by omega⟩, hll2, H3, ⟨Nat.le_refl _⟩, B6, O6, S6⟩
          case round => as_aux_lemma =>
            clear H3 B6 O6 S6 hll2
            obtain ⟨j, out, rfl, HJ, HLO, HA, HK2, B6, O6, S6⟩ := hrel
            obtain ⟨W5, rfl⟩ : ∃ W5 : World, W5 = wr := ⟨_, rfl⟩
            cases gk with
            | zero => exact absurd HA.out (by simp [lv3])
            | succ k2 =>
              have H := HA.out
              clear HA
              rw [lv3] at H
              by_cases cj : j < lv.length
              · as_aux_lemma =>
                rw [if_pos cj] at H
                by_cases cd : 0 ≤ rd lv j ∧ rd lv j < out.length ∧ (row out (rd lv j)).length < 17592186044415
                case neg => rw [if_neg cd] at H; cases H
                rw [if_pos cd] at H
                have hj0 := HJ.out
                have cx := arr_cell O6.out j hj0 cj
                have cj2 : j < (es.length : Int) := by rw [← hel]; exact cj
                have cbj : decide (j < (es.length : Int)) = true := decide_eq_true cj2
                have qj := eq_true hj0
                generalize rd lv j = d at H cd cx
                obtain ⟨cd0, cd1, cd2⟩ := cd
                rw [HLO.out] at cd1
                have H' := Aside0.mk H
                clear H
                have q9 := eq_true cd0
                have q10 := eq_true cd1
                go_upto_region 23 with fail
                have hgo := Kd.S_lt S6.out go (by simp [Value.ownBlock])
                have hgs := B6.out.size
                obtain ⟨v0, oki, x1, x2, x3, x4, x5⟩ := S_upd S6.out (fun k hk => by omega) d cd0 cd1
                have X3 := Aside0.mk (Kd.R_mono (ok' := fun k => oki k ∨ W5.heap.size ≤ k) x3 (fun k hk => .inl hk))
                have X4 := Aside0.mk x4
                have X5 := Aside0.mk (@x5)
                have X6 := Aside0.mk x3
                clear x3 x4 x5 cx
                go_wp2_with ((with_reducible refine gate_builtin (b := .append) (xs := #[.tmp 92, .tmp 94]) rfl ?_); at_builtin; refine Kd.R_append (Kd.int .i64) (w0 := W5) w.heap.size rfl (.tmp 92) (.tmp 94) 32 3 (.int .i64 0) 8 rfl Try.underlying32 info3 rfl (by decide) (by omega) v0 (row out d) j [.int .i64 j] (fun k => oki k ∨ W5.heap.size ≤ k) (fun _ => False) rfl rfl rfl (fun _ hk => hk.elim) (fun k hk => .inr hk) X3.out (Below.refl _ _) ?hs ?hl ?_)
                (case hs => omega)
                (case hl => omega)
                intro v1 w9 ho hb hg hat
                obtain ⟨A9, q9c, rfl⟩ := Kd.R_slice ho
                have hown : ∀ k, v0.ownBlock = some k → go ≤ k ∧ k ≠ go := fun k hk => X4.out k (X6.out.1 k hk)
                have hga := HGO.out.2
                have hgw := HGO.out.1
                have O9 := Aside0.mk (blk_grown O6.out hg (fun e => by have := (hown ga e.symm).1; omega))
                have B9 := Aside0.mk (B6.out.grown hg (by omega) (fun k hk => by have := (hown k hk).1; omega))
                have hne9 : some go ≠ v0.ownBlock := fun e => (hown _ e.symm).2 rfl
                have k2 : w9.cell? ⟨go, d.toNat, none⟩ = some v0 := (World.cell?_of_block (hg.block go hgo hne9)).trans x1
                have k3 : w9.frozen? ⟨go, d.toNat, none⟩ = false := (World.frozen?_of_block (hg.block go hgo hne9)).trans x2
                have G9 := Aside0.mk hg
                have R9 := Aside0.mk ho
                clear hg ho hb hat hown x1 x2 hne9 B6 O6 S6 X3 X4 X6 hga hgw
                go_upto_region 24 with fail
                obtain ⟨S10, g10⟩ := X5.out w9 _ _ G9.out R9.out
                have S11 := Aside0.mk S10
                have O11 := Aside0.mk (blk_grown O9.out g10 (by have := HGO.out.2; intro e; injection e with e; omega))
                have B11 := Aside0.mk (B9.out.grown g10 (by have := G9.out.size; omega) (fun k hk => by cases hk; exact HGO.out.1))
                have HL11 : Aside0 ((app out d j).length = n) := ⟨by unfold app; simp only [List.length_set]; exact HLO.out⟩
                clear S10 g10 k2 k3 G9 R9 X5 O9 B9 hgs hgo
                have e9 : (row out d ++ [j]).length = (row out d).length + 1 := by simp
                rw [e9] at S11 O11 B11
                clear e9
                generalize w9.setCell ⟨go, d.toNat, none⟩ (.slice A9 ((row out d).length + 1) q9c) = w11 at S11 O11 B11 ⊢
                go_wp2_with fail
                go_roundg k2
                case measure => omega
                case rel => exact ⟨j + 1, _, rfl, ⟨by omega⟩, HL11, H', ⟨by have := HK2.out; omega⟩, B11, O11, S11⟩
              · as_aux_lemma =>
                rw [if_neg cj] at H
                obtain rfl := Option.some.inj H
                have cbj : decide (j < (es.length : Int)) = false := decide_eq_false (by rw [← hel]; exact cj)
                clear H
                go_wp2_with fail
                go_ret2
                exact ⟨_, rfl, Kd.S_mono S6.out (fun _ _ => trivial), B6.out⟩
end Lv
end Go.Proofs.Ytpmjpngmmphkmaa
/- graph.Levels in the form in which printed texts call it. -/
namespace Go.Proofs.Ytpmjpngmmphkmaa
open Go.RowKit Go.Proofs.YtpmjpngmmphkmaaW.PrintWords Go.Proofs.YtpmjpngmmphkmaaW.PrintLast Go.Proofs.YtpmjpngmmphkmaaW.PrintMore Go.Proofs.Ytpmjpngmmphkmaa.P
namespace P
noncomputable def graph_Levels.f (l : List (List Int)) : Option (List (List Int) × Int) := Od.lim fun k => Lv.levelsF k l
theorem graph_Levels.calls (A0_0 : Option Addr) (c0_0 : Nat) (l0_0 : List (List Int)) (r1 : List (List Int)) (r2 : Int) (w : World) (hr0_0 : Kd.C (Kd.slice 3 (Kd.int .i64)) w A0_0 l0_0.length l0_0) (hc0_0 : l0_0.length ≤ c0_0) (h : graph_Levels.f l0_0 = some (r1, r2)) :
    Calls Try.prog 14 #[.agg #[.slice A0_0 l0_0.length c0_0]] w fun e w' => ∃ v0_ : Value, e = .returned (.tuple #[v0_, .int .i64 r2]) ∧ Kd.S (Kd.slice 3 (Kd.int .i64)) 32 w' w.heap.size (fun _ => True) v0_ r1 ∧ Below w.heap.size w w' := by
  obtain ⟨k0, h0⟩ := Od.lim_some h
  exact Lv.levels_calls k0 A0_0 c0_0 l0_0 r1 r2 w hr0_0 hc0_0 (h0 k0 (Nat.le_refl _))
end P
end Go.Proofs.Ytpmjpngmmphkmaa
/- longest of the reference: what the call does, by its Lean function; in the form in which printed texts call it. -/
namespace Go.Proofs.Ytpmjpngmmphkmaa
open Go.RowKit Go.Proofs.YtpmjpngmmphkmaaW.PrintWords Go.Proofs.YtpmjpngmmphkmaaW.PrintLast Go.Proofs.YtpmjpngmmphkmaaW.PrintMore Go.Proofs.Ytpmjpngmmphkmaa.P
namespace Lo
set_option linter.unusedVariables false
set_option linter.unusedSimpArgs false
open Tj Rw Od Lv

/-- The longest paths, component by component. -/
def lng0 : Nat → List (List Int) → List (List Int) → Int → List Int → Option (List Int)
  | 0, _, _, _, _ => none
  | k + 1, es, comps, i, lv =>
    if i < comps.length then
      if 0 < (row comps i).length ∧ 0 ≤ rd (row comps i) 0 ∧ rd (row comps i) 0 < es.length then
        (lv1 k (rd (row comps i) 0) (row es (rd (row comps i) 0)) 0 lv).bind fun lv2 => lng0 k es comps (i + 1) lv2
      else none
    else some lv
noncomputable def longestF (k : Nat) (es : List (List Int)) : Option (List Int) :=
  if es.length < 17592186044416 then (lazycref09_Components.f k es).bind fun comps => lng0 k es comps 0 (List.replicate es.length 0) else none

set_option maxRecDepth 100000 in
set_option maxHeartbeats 4000000 in
theorem longest_calls (k : Nat) (A : Option Addr) (c : Nat) (es : List (List Int)) (r : List Int) (w : World) (hr : Kd.C KS w A es.length es) (hc : es.length ≤ c) (h : longestF k es = some r) :
    Calls Try.prog 32 #[.agg #[.slice A es.length c]] w fun e w' => ∃ v, e = .returned v ∧ Kd.R (Kd.int .i64) 3 w' w.heap.size (fun _ => True) v r ∧ Below w.heap.size w w' := by
  have hu24 := Try.underlying24
  unfold longestF at h
  by_cases hL : es.length < 17592186044416
  case neg => rw [if_neg hL] at h; cases h
  rw [if_pos hL] at h
  obtain ⟨comps, hco, h⟩ := Option.bind_eq_some_iff.1 h
  have HR := Aside0.mk hr
  have HC := Aside0.mk hc
  have HCO := Aside0.mk hco
  have HH := Aside0.mk h
  have HLL := Aside0.mk hL
  clear hr hc hco h hL
  go_enter Try.func32, Try.ntmps32
  go_upto_region 1 with (first | ((with_reducible refine gate_dst (N := 1) rfl ?_); refine box_event ?hg (N := 1) ?hd (cs := #[.slice A es.length c]) (t := 24) ?hr ?_; (case hd => rfl); (case hg => rfl); (case hr => first | (go_simp; done) | (go_simp; rfl)); intro gb hg w5 hbox hb; have B5 := Aside0.mk (below_step (Below.refl w.heap.size w) hb); have K5 := Aside0.mk hbox; have GE : Aside0 (w.heap.size ≤ gb) := Aside0.mk (by rw [hg]; exact Nat.le_refl _); have hcz : w5.cell? ⟨gb, 0, none⟩ = some (.slice A es.length c) := (blk_cell K5.out 0).trans rfl; clear hb hbox hg) | fail)
  obtain ⟨i0, e0, e1, e2, e3⟩ := info_parts info3
  have hll := HLL.out
  have hmk := run_make w5 32 3 i0 _ Try.underlying32 e0 e1 .i64 .i64 es.length es.length (by omega) (by omega) (by rw [e3]; omega) (by omega)
  rw [Int.toNat_natCast, e2, Nat.mul_one] at hmk
  have hz0 : (Value.int .i64 0).cells = #[.int .i64 0] := rfl
  rw [hz0] at hmk
  clear e0 e1 e2 e3 hz0
  go_upto_region 2 with fail
  have hb0 := B5.out.size
  have O3 := Aside0.mk (arr_made (blk_new w5 (.cells (madeCells #[.int .i64 0] es.length) 3)))
  have B3 := Aside0.mk (below_alloc B5.out (.cells (madeCells #[.int .i64 0] es.length) 3))
  have K3 := Aside0.mk (blk_alloc K5.out (.cells (madeCells #[.int .i64 0] es.length) 3))
  have HGA : Aside0 (w.heap.size ≤ w5.heap.size ∧ gb < w5.heap.size) := ⟨hb0, blk_lt K5.out⟩
  have S3 : Aside0 (w5.heap.size < (w5.alloc (.cells (madeCells #[.int .i64 0] es.length) 3)).heap.size) := ⟨by simp⟩
  clear hmk B5 K5 hb0 hcz
  generalize w5.alloc (.cells (madeCells #[.int .i64 0] es.length) 3) = w10 at O3 B3 K3 S3 ⊢
  generalize w5.heap.size = ga at O3 B3 K3 HGA S3 ⊢
  have hcz : w10.cell? ⟨gb, 0, none⟩ = some (.slice A es.length c) := (blk_cell K3.out 0).trans rfl
  go_upto_region 3 with (go_at_call 13; refine (lazycref09_Components.calls k A c es comps _ (Kd.C_below HR.out B3.out) HC.out HCO.out).mono ?_; rintro e w9 ⟨vc, rfl, hN, hb9⟩; obtain ⟨Ac, cc, rfl⟩ := Kd.N_slice hN; have F3 := Aside0.mk (Kd.F_mono (Kd.N_F hN) (ok' := fun k => k ≠ ga) (fun k hk => by have := S3.out; omega)); have B9 := Aside0.mk (below_step B3.out hb9); have K9 := Aside0.mk (blk_below K3.out hb9); have O9 := Aside0.mk (blk_below O3.out hb9); have LC := Aside0.mk (Kd.F_max (Kd.N_F hN)); clear hN hb9 hcz B3 K3 O3)
  have hlc := LC.out
  have hll2 : Aside0 ((List.replicate es.length (0 : Int)).length = es.length) := ⟨by simp⟩
  go_wp2_with fail
  go_loopg [5] k (fun kq v5 w' => ∃ (i : Int) (lv : List Int), v5 = .int .i64 i ∧ Aside0 (0 ≤ i) ∧ Aside0 (lv.length = es.length) ∧ Aside0 (lng0 kq es comps i lv = some r) ∧ Aside0 (kq ≤ k) ∧ Aside0 (Below w.heap.size w w') ∧ Aside0 (w'.heap[gb]? = some (.cells #[.slice A es.length c] 24 (0, 0))) ∧ Aside0 (w'.heap[ga]? = some (arr lv)) ∧ Aside0 (Kd.F KS w' (fun k => k ≠ ga) Ac comps.length comps))
  case atStart => exact ⟨0, _, rfl, ⟨by omega⟩, hll2, HH, ⟨Nat.le_refl _⟩, B9, K9, O9, F3⟩
  case round => as_aux_lemma =>
    clear HH B9 K9 O9 F3 hll2
    obtain ⟨i, lv, rfl, HI, HLEN, HA, HK1, B3, K3, O3, F3⟩ := hrel
    cases gk with
    | zero => exact absurd HA.out (by simp [lng0])
    | succ k1 =>
      have H := HA.out
      clear HA
      rw [lng0] at H
      by_cases ci : i < comps.length
      · as_aux_lemma =>
        rw [if_pos ci] at H
        by_cases cx : 0 < (row comps i).length ∧ 0 ≤ rd (row comps i) 0 ∧ rd (row comps i) 0 < es.length
        case neg => rw [if_neg cx] at H; cases H
        rw [if_pos cx] at H
        obtain ⟨cx0, cx1, cx2⟩ := cx
        have hi0 := HI.out
        obtain ⟨adc, Ar, cr, er, hx, hxl, hxi⟩ := at_L1 (Kd.F_now F3.out) i hi0 ci
        subst er
        have el : rd_L1 comps i = row comps i := rfl
        rw [el] at hx hxl hxi
        obtain ⟨ad0, e0, hy⟩ := Kd.at_int hxi 0 (by omega) (by omega)
        subst e0
        rw [show ((0 : Int)).toNat = 0 from rfl, Addr.add_zero'] at hy
        clear hxi hxl el
        have cb : decide (i < (comps.length : Int)) = true := decide_eq_true ci
        have q0 := eq_true hi0
        have cz : (0 < (row comps i).length) = True := eq_true cx0
        obtain ⟨lv2, hl2, H⟩ := Option.bind_eq_some_iff.1 H
        have HL2 := Aside0.mk hl2
        have H' := Aside0.mk H
        clear H hl2
        go_upto_region 7 with fail
        clear hy hx cz cb q0
        generalize rd (row comps i) 0 = v at H' HL2 cx1 cx2 ⊢
        obtain ⟨adE, Ae, ce, er, hx, hxl, hxi⟩ := at_L1 HR.out v cx1 cx2
        subst er
        have el : rd_L1 es v = row es v := rfl
        rw [el] at hx hxl hxi
        have HXE := Aside0.mk hx
        have EXI := Aside0.mk hxi
        have EXL := Aside0.mk hxl
        clear hx hxi hxl el
        have hel := EXI.out.2.1
        go_wp2_with fail
        go_loopg [7] k1 (fun kq v7 w' => ∃ (j : Int) (lv3 : List Int), v7 = .int .i64 j ∧ Aside0 (0 ≤ j) ∧ Aside0 (lv3.length = es.length) ∧ Aside0 (lv1 kq v (row es v) j lv3 = some lv2) ∧ Aside0 (kq ≤ k1) ∧ Aside0 (Below w.heap.size w w') ∧ Aside0 (w'.heap[gb]? = some (.cells #[.slice (some adE) es.length c] 24 (0, 0))) ∧ Aside0 (w'.heap[ga]? = some (arr lv3)) ∧ Aside0 (Kd.F KS w' (fun k => k ≠ ga) (some adc) comps.length comps))
        case atStart => exact ⟨0, _, rfl, ⟨by omega⟩, HLEN, HL2, ⟨Nat.le_refl _⟩, B3, K3, O3, F3⟩
        case round => as_aux_lemma =>
          clear HL2 B3 K3 O3 F3
          obtain ⟨j, lv3, rfl, HJ, HLEN3, HA, HK2, B4, K4, O4, F4⟩ := hrel
          obtain ⟨W2, rfl⟩ : ∃ W2 : World, W2 = wr := ⟨_, rfl⟩
          cases gk with
          | zero => exact absurd HA.out (by simp [lv1])
          | succ k2 =>
            have H := HA.out
            clear HA
            rw [lv1] at H
            have hcy : W2.cell? ⟨gb, 0, none⟩ = some (.slice (some adE) es.length c) := (blk_cell K4.out 0).trans rfl
            have hx1 := (B4.out.cell (World.block_lt_of_cell? _ _ HXE.out)).trans HXE.out
            have q1 := eq_true cx1
            have q2 := eq_true cx2
            by_cases cj : j < (row es v).length
            · as_aux_lemma =>
              rw [if_pos cj] at H
              by_cases cd : 0 ≤ rd (row es v) j ∧ rd (row es v) j < lv3.length
              case neg => rw [if_neg cd] at H; cases H
              rw [if_pos cd] at H
              have hj0 := HJ.out
              obtain ⟨adj, ej, hx⟩ := Kd.at_int EXI.out j hj0 cj
              subst ej
              have hxj := (B4.out.cell (World.block_lt_of_cell? _ _ hx)).trans hx
              clear hx
              generalize rd (row es v) j = d at H cd hxj
              obtain ⟨cd0, cd1⟩ := cd
              have H' := Aside0.mk H
              clear H
              have cbj : decide (j < ((row es v).length : Int)) = true := decide_eq_true cj
              have qj := eq_true hj0
              have q3 := eq_true cd0
              have q4 : (d < (es.length : Int)) = True := eq_true (by rw [← HLEN3.out]; exact cd1)
              have cv := arr_cell O4.out v cx1 (by rw [HLEN3.out]; exact cx2)
              have cdd := arr_cell O4.out d cd0 cd1
              have fv := arr_free O4.out v.toNat
              go_upto_region 10 with fail
              go_region
              have B5 := Aside0.mk (below_drew (B4.out.setCell (show w.heap.size ≤ (⟨ga, v.toNat, none⟩ : Addr).block from HGA.out.1) (.int .i64 (max (rd lv3 v) (wrap64 (rd lv3 d + 1))))))
              have K5 := Aside0.mk (blk_drew (blk_far K4.out (p := ⟨ga, v.toNat, none⟩) (show gb ≠ ga from Nat.ne_of_lt HGA.out.2) (.int .i64 (max (rd lv3 v) (wrap64 (rd lv3 d + 1))))))
              have O5 := Aside0.mk (show (W2.setCell ⟨ga, v.toNat, none⟩ (.int .i64 (max (rd lv3 v) (wrap64 (rd lv3 d + 1))))).drew.heap[ga]? = some (arr (lv3.set v.toNat (max (rd lv3 v) (wrap64 (rd lv3 d + 1))))) from by unfold arr; rw [← nums_set]; exact blk_drew (blk_set O4.out v.toNat _))
              have F5 := Aside0.mk (Kd.F_drew (Kd.F_far (p := ⟨ga, v.toNat, none⟩) F4.out (fun k hk => hk) (.int .i64 (max (rd lv3 v) (wrap64 (rd lv3 d + 1))))))
              have L5 : Aside0 ((lv3.set v.toNat (max (rd lv3 v) (wrap64 (rd lv3 d + 1)))).length = es.length) := ⟨by rw [List.length_set]; exact HLEN3.out⟩
              clear B4 K4 O4 F4 cv cdd fv hxj HLEN3 hcy hx1
              generalize (W2.setCell ⟨ga, v.toNat, none⟩ (.int .i64 (max (rd lv3 v) (wrap64 (rd lv3 d + 1))))).drew = w13 at B5 K5 O5 F5 ⊢
              go_wp2_with fail
              go_roundg k2
              case measure => omega
              case rel => exact ⟨j + 1, _, rfl, ⟨by omega⟩, L5, H', ⟨by have := HK2.out; omega⟩, B5, K5, O5, F5⟩
            · as_aux_lemma =>
              rw [if_neg cj] at H
              obtain rfl := Option.some.inj H
              have cbj : decide (j < ((row es v).length : Int)) = false := decide_eq_false cj
              clear H
              go_wp2_with fail
              go_roundg k1
              case measure => omega
              case rel => exact ⟨i + 1, _, rfl, ⟨by have := HI.out; omega⟩, HLEN3, H', ⟨by have := HK1.out; omega⟩, B4, K4, O4, F4⟩
      · as_aux_lemma =>
        rw [if_neg ci] at H
        obtain rfl := Option.some.inj H
        have cb : decide (i < (comps.length : Int)) = false := decide_eq_false ci
        clear H
        have HRR := Aside0.mk (arr_R O3.out HGA.out.1 (by rw [HLEN.out]; have := HLL.out; unfold maxLen; omega))
        rw [HLEN.out] at HRR
        go_wp2_with fail
        go_ret
        exact ⟨_, rfl, HRR.out, B3.out⟩
end Lo
namespace P
noncomputable def lazycref09_longest.f (l : List (List Int)) : Option (List Int) := Od.lim fun k => Lo.longestF k l
theorem lazycref09_longest.calls (A0_0 : Option Addr) (c0_0 : Nat) (l0_0 : List (List Int)) (r : List Int) (w : World) (hr0_0 : Kd.C (Kd.slice 3 (Kd.int .i64)) w A0_0 l0_0.length l0_0) (hc0_0 : l0_0.length ≤ c0_0) (h : lazycref09_longest.f l0_0 = some r) :
    Calls Try.prog 32 #[.agg #[.slice A0_0 l0_0.length c0_0]] w fun e w' => ∃ v0_ : Value, e = .returned v0_ ∧ Kd.R (Kd.int .i64) 3 w' w.heap.size (fun _ => True) v0_ r ∧ Below w.heap.size w w' := by
  obtain ⟨k0, h0⟩ := Od.lim_some h
  exact Lo.longest_calls k0 A0_0 c0_0 l0_0 r w hr0_0 hc0_0 (h0 k0 (Nat.le_refl _))
end P
end Go.Proofs.Ytpmjpngmmphkmaa
namespace Go.Proofs.Ytpmjpngmmphkmaa.P
open Go.RowKit Go.Proofs.YtpmjpngmmphkmaaW.PrintWords Go.Proofs.YtpmjpngmmphkmaaW.PrintLast Go.Proofs.YtpmjpngmmphkmaaW.PrintMore
attribute [local go_sem] max2_int min2_int max_two min_two max_three min_three max_four min_four   -- for this text's walks alone
set_option linter.unusedVariables false
set_option linter.unusedSimpArgs false

/-! ### lazycref09_Cyclic: function 21 -/
noncomputable def lazycref09_Cyclic.f (k : Nat) (l0_0 : List (List Int)) (a1 : Int) : Option (Bool) := (lazycref09_Valid.f k l0_0).bind fun t198 => (if t198 = true then (if a1 ≥ 0 then (if a1 < (l0_0.length : Int) then (if 0 ≤ a1 then ((lazycref09_from.f k l0_0 (rd_L1 l0_0 a1)).bind fun t200 => (if a1 < (t200.length : Int) then (some (rdOf false t200 a1)) else (none))) else (none)) else (some false)) else (some false)) else (some false))
noncomputable def lazycref09_Cyclic.T1 : Bool × List (List Nat × List Nat) := (true, [([], []), ([0], [0]), ([1, 1], [1]), ([2], [2]), ([3, 2], [2, 3]), ([2, 4], [2, 4]), ([5, 2], [5]), ([6], [6]), ([6], [6]), ([8, 6], [6, 8]), ([9, 6], [6, 9]), ([7, 10, 6], [6, 7, 10]), ([6, 11], [6, 11]), ([12, 6], [12]), ([13], [13]), ([13], [13]), ([15, 13], [13, 15]), ([13], [13]), ([16, 17, 13], [13, 16, 17]), ([18, 13], [13, 18]), ([14, 19, 13, 13], [13, 14, 19]), ([13], [13]), ([20, 21, 13], [13, 20, 21]), ([22, 13], [13, 22]), ([13, 23], [13, 23]), ([24, 20, 0, 1, 2, 3, 4, 5, 6, 7, 8, 9, 10, 11, 12, 13, 14, 15, 16, 17, 18, 19, 20, 21, 22, 23, 24], [24])])
noncomputable def lazycref09_Cyclic.B1 : List Nat := [0, 1, 3, 7, 15, 31, 63, 127, 127, 383, 895, 2047, 4095, 8191, 16383, 16383, 49151, 16383, 245759, 507903, 1048575, 16383, 4194303, 8388607, 16777215, 33554431]
theorem lazycref09_Cyclic.tab1 : rtab .any (opsOf Try.f21 1) = lazycref09_Cyclic.T1 := by kernel_rfl
theorem lazycref09_Cyclic.bits1 : waitsOk lazycref09_Cyclic.T1.2 lazycref09_Cyclic.B1 = true := by kernel_rfl
set_option maxHeartbeats 8000000 in
set_option maxRecDepth 100000 in
theorem lazycref09_Cyclic.calls (k : Nat) (A0_0 : Option Addr) (c0_0 : Nat) (l0_0 : List (List Int)) (a1 : Int) (r : Bool) (w : World) (hr0_0 : Kd.C (Kd.slice 3 (Kd.int .i64)) w A0_0 l0_0.length l0_0) (hc0_0 : l0_0.length ≤ c0_0) (h : lazycref09_Cyclic.f k l0_0 a1 = some r) :
    Calls Try.prog 21 #[.agg #[.slice A0_0 l0_0.length c0_0], .int .i64 a1] w fun e w' => e = .returned (.bool r) ∧ Below w.heap.size w w' := by
  have hu24 := Try.underlying24
  have HR0_0 := aM hr0_0
  have HC0_0 := aM hc0_0
  clear hr0_0 hc0_0
  have HB := aM (Below.refl w.heap.size w)
  have H : ((lazycref09_Valid.f k l0_0).bind fun t198 => (if t198 = true then (if a1 ≥ 0 then (if a1 < (l0_0.length : Int) then (if 0 ≤ a1 then ((lazycref09_from.f k l0_0 (rd_L1 l0_0 a1)).bind fun t200 => (if a1 < (t200.length : Int) then (some (rdOf false t200 a1)) else (none))) else (none)) else (some false)) else (some false)) else (some false))) = some r := h
  clear h
  replace H := Option.bind_eq_some_iff.mp H
  obtain ⟨t198, A30, H⟩ := H
  replace H : (if t198 = true then (if a1 ≥ 0 then (if a1 < (l0_0.length : Int) then (if 0 ≤ a1 then ((lazycref09_from.f k l0_0 (rd_L1 l0_0 a1)).bind fun t200 => (if a1 < (t200.length : Int) then (some (rdOf false t200 a1)) else (none))) else (none)) else (some false)) else (some false)) else (some false)) = some r := H
  have A3 := aM A30
  clear A30
  by_cases c4 : t198 = true
  · subst c4
    have H1 : (if a1 ≥ 0 then (if a1 < (l0_0.length : Int) then (if 0 ≤ a1 then ((lazycref09_from.f k l0_0 (rd_L1 l0_0 a1)).bind fun t200 => (if a1 < (t200.length : Int) then (some (rdOf false t200 a1)) else (none))) else (none)) else (some false)) else (some false)) = some r := by rw [if_pos rfl] at H; exact H
    clear H
    have H := H1
    clear H1
    by_cases c5 : a1 ≥ 0
    · rw [if_pos c5] at H
      have c5b0 : decide (0 ≤ a1) = true := decide_eq_true c5
      clear c5
      by_cases c6 : a1 < (l0_0.length : Int)
      · rw [if_pos c6] at H
        have c6b0 : decide (a1 < (l0_0.length : Int)) = true := decide_eq_true c6
        clear c6
        by_cases c7 : 0 ≤ a1
        · rw [if_pos c7] at H
          have c7b0 : decide (0 ≤ a1) = true := decide_eq_true c7
          clear c7
          replace H := Option.bind_eq_some_iff.mp H
          obtain ⟨t200, A80, H⟩ := H
          replace H : (if a1 < (t200.length : Int) then (some (rdOf false t200 a1)) else (none)) = some r := H
          have A8 := aM A80
          clear A80
          by_cases c9 : a1 < (t200.length : Int)
          · rw [if_pos c9] at H
            have c9b0 : decide (a1 < (t200.length : Int)) = true := decide_eq_true c9
            clear c9
            obtain rfl := Option.some.inj H
            go_enter Try.func21, Try.ntmps21
            try go_wp2_with (first | ((with_reducible refine gate_dst (N := 2) rfl ?_); (try (refine gate_guard (by rfl) ?_; dsimp only)); refine box_event ?hg (N := 2) ?hd (cs := #[.slice A0_0 l0_0.length c0_0]) (t := 24) ?hr ?_; (case hd => rfl); (case hg => rfl); (case hr => first | (go_simp; done) | (go_simp; rfl)); intro gb197 hg w10 hbox hb; have n0_ := aM (below_step (by repeat (first | (with_reducible first | exact HB.out | apply bA | apply bN | apply bD) | exact HB.out)) hb); have n1_ := aM (hbox); have n2_ := aM ((by rw [hg]; exact (below_size (by repeat (first | (with_reducible first | exact HB.out | apply bA | apply bN | apply bD) | exact HB.out))) : w.heap.size ≤ gb197)); have n3_ := aM ((by rw [hg]; exact (below_size (by repeat (first | (with_reducible first | exact HB.out | apply bA | apply bN | apply bD) | exact HB.out))) : w.heap.size ≤ gb197)); clear HB; have HB := n0_; have BK197 := n1_; have GW197 := n2_; have GE197 := n3_; clear n0_ n1_ n2_ n3_; clear hb hbox hg))
            have n0_ := aM (blk_drew BK197.out)
            have n1_ := aM (below_drew1 HB.out)
            clear BK197
            clear HB
            have BK197 := n0_
            have HB := n1_
            clear n0_ n1_
            have p199 : 0 ≤ (a1 : Int) := of_decide_eq_true (by first | (with_reducible assumption) | assumption)
            have q199 : a1 < (l0_0.length : Int) := of_decide_eq_true (by first | (with_reducible assumption) | assumption)
            obtain ⟨ad199, A199_0, c199_0, e199, hx199_0, hl199_0, hi199_0⟩ := at_L1 HR0_0.out a1 p199 q199
            have hw199_0 := hx199_0
            cases e199
            replace hx199_0 := (HB.out.cell (World.block_lt_of_cell? w _ hx199_0)).trans hx199_0
            have HR199_0 := aM hi199_0
            have HC199_0 := aM hl199_0
            clear hi199_0 hl199_0
            replace p199 := eq_true p199
            replace q199 := eq_true q199
            refine start_ (n := 26) (S := fun w' => w'.cell? ⟨gb197, 0, none⟩ = some (.slice (some ad199) l0_0.length c0_0) ∧ w'.cell? (ad199.add (a1).toNat) = some (.slice A199_0 (rd_L1 l0_0 a1).length c199_0)) (ds := []) #[false, false, false, false, false, false, false, false, false, false, false, false, false, false, false, false, false, false, false, false, false, false, false, false, false, false] (by kernel_rfl) rfl rfl ⟨(blk_cell BK197.out 0).trans rfl, ((HB.out.cell (World.block_lt_of_cell? w _ hw199_0)).trans hw199_0)⟩ (fun hHeld => ?_); refine with_tabW lazycref09_Cyclic.tab1 lazycref09_Cyclic.bits1 (fun HT_ HW_ => ?_)
            generalize w10.drew = w11 at BK197 HB HR199_0 hx199_0 hHeld ⊢
            refine take_ (i := 0) (N := some 5) (v := ?_) (a' := ?_) #[true, false, false, false, false, false, false, false, false, false, false, false, false, false, false, false, false, false, false, false, false, false, false, false, false, false] rfl rfl (take_ofW HT_.out HW_.out (by kernel_rfl)) (fun _ _ _ h => h) (Or.inl ⟨by rfl, ?_⟩) hHeld ?_ ?_
            rotate_left
            · rintro w' ⟨s0, s1⟩
              go_simp
              with_reducible rfl
            rotate_left
            · simp only [Act.put, List.setIfInBounds_toArray, List.set_cons_zero, List.set_cons_succ, i64_w, i32_w]
              rfl
            refine one_ (i := 1) (N := some 6) #[true, true, false, false, false, false, false, false, false, false, false, false, false, false, false, false, false, false, false, false, false, false, false, false, false, false] rfl rfl (one_of HT_.out (by kernel_rfl)) (by decide) (fun K hK => ?_)
            refine goes_ Try.func16 (by kernel_rfl) rfl #[.agg #[.slice (some ad199) l0_0.length c0_0]] (by rfl) rfl rfl (by (try simp only [List.map_toArray, List.map_cons, List.map_nil]); first | done | rfl | (simp only [List.length_drop, List.length_take]; rfl)) ?_
            with_reducible refine (lazycref09_Valid.calls k _ _ l0_0 true _ ?side1 ?side2 A3.out).mono ?_
            (case side1 => repeat (first | exact (Kd.C_below HR0_0.out HB.out) | (with_reducible refine Kd.C_alloc ?_ _) | (with_reducible refine Kd.C_drewN ?_ _) | (with_reducible refine Kd.C_drew ?_)))
            (case side2 => exact HC0_0.out)
            rintro e w12 ⟨rfl, hb⟩
            skip
            refine ⟨_, rfl, ?_⟩
            have n0_ := aM (blk_below (g := gb197) (o := .cells #[.slice (some ad199) l0_0.length c0_0] 24 (0, 0)) (by (with_reducible repeat (first | refine kN ?_ _ | refine kD ?_ | refine kA ?_ _)); exact BK197.out) hb)
            have n1_ := aM (below_step (by repeat (first | (with_reducible first | exact HB.out | apply bA | apply bN | apply bD | refine below_set ?_ GE197.out) | exact HB.out)) hb)
            clear BK197
            clear HB
            have BK197 := n0_
            have HB := n1_
            clear n0_ n1_
            (try clear hb)
            (try clear hb2)
            (try clear hk)
            (try clear hi)
            refine hK.out _ _ ⟨(blk_cell BK197.out 0).trans rfl, ((HB.out.cell (World.block_lt_of_cell? w _ hw199_0)).trans hw199_0)⟩ (fun hHeld => ?_)
            clear hK K
            refine norm_ (a' := ?_) ?_ ?_
            rotate_left
            · show Act.put _ (some 6) _ = _
              simp only [Act.put, List.setIfInBounds_toArray, List.set_cons_zero, List.set_cons_succ, i64_w, i32_w]
              rfl
            refine pure_ (i := 2) (N := some 7) (v := ?_) (a' := ?_) #[true, true, true, false, false, false, false, false, false, false, false, false, false, false, false, false, false, false, false, false, false, false, false, false, false, false] rfl rfl (any_of HT_.out (by kernel_rfl)) (fun _ _ _ h => h) (Or.inl ⟨by rfl, ?_⟩) ?_ ?_
            rotate_left
            · intro w'
              go_simp
              with_reducible rfl
            rotate_left
            · simp only [Act.put, List.setIfInBounds_toArray, List.set_cons_zero, List.set_cons_succ, i64_w, i32_w]
              rfl
            refine pure_ (i := 3) (N := some 8) (v := ?_) (a' := ?_) #[true, true, true, true, false, false, false, false, false, false, false, false, false, false, false, false, false, false, false, false, false, false, false, false, false, false] rfl rfl (any_of HT_.out (by kernel_rfl)) (fun _ _ _ h => h) (Or.inl ⟨by rfl, ?_⟩) ?_ ?_
            rotate_left
            · intro w'
              go_simp
              with_reducible rfl
            rotate_left
            · simp only [Act.put, List.setIfInBounds_toArray, List.set_cons_zero, List.set_cons_succ, i64_w, i32_w]
              rfl
            refine pure_ (i := 4) (N := some 9) (v := ?_) (a' := ?_) #[true, true, true, true, true, false, false, false, false, false, false, false, false, false, false, false, false, false, false, false, false, false, false, false, false, false] rfl rfl (any_of HT_.out (by kernel_rfl)) (fun _ _ _ h => h) (Or.inl ⟨by rfl, ?_⟩) ?_ ?_
            rotate_left
            · intro w'
              go_simp
              with_reducible rfl
            rotate_left
            · simp only [Act.put, List.setIfInBounds_toArray, List.set_cons_zero, List.set_cons_succ, i64_w, i32_w]
              rfl
            refine pure_ (i := 5) (N := some 10) (v := ?_) (a' := ?_) #[true, true, true, true, true, true, false, false, false, false, false, false, false, false, false, false, false, false, false, false, false, false, false, false, false, false] rfl rfl (any_of HT_.out (by kernel_rfl)) (fun _ _ _ h => h) (Or.inl ⟨by rfl, ?_⟩) ?_ ?_
            rotate_left
            · intro w'
              go_simp
              with_reducible rfl
            rotate_left
            · simp only [Act.put, List.setIfInBounds_toArray, List.set_cons_zero, List.set_cons_succ, i64_w, i32_w]
              rfl
            refine pure_ (i := 6) (N := some 11) (v := ?_) (a' := ?_) #[true, true, true, true, true, true, true, false, false, false, false, false, false, false, false, false, false, false, false, false, false, false, false, false, false, false] rfl rfl (any_of HT_.out (by kernel_rfl)) (fun _ _ _ h => h) (Or.inl ⟨by rfl, ?_⟩) ?_ ?_
            rotate_left
            · intro w'
              go_simp
              with_reducible rfl
            rotate_left
            · simp only [Act.put, List.setIfInBounds_toArray, List.set_cons_zero, List.set_cons_succ, i64_w, i32_w]
              rfl
            refine pure_ (i := 7) (N := some 12) (v := ?_) (a' := ?_) #[true, true, true, true, true, true, true, true, false, false, false, false, false, false, false, false, false, false, false, false, false, false, false, false, false, false] rfl rfl (any_of HT_.out (by kernel_rfl)) (fun _ _ _ h => h) (Or.inl ⟨by rfl, ?_⟩) ?_ ?_
            rotate_left
            · intro w'
              go_simp
              with_reducible rfl
            rotate_left
            · simp only [Act.put, List.setIfInBounds_toArray, List.set_cons_zero, List.set_cons_succ, i64_w, i32_w]
              rfl
            refine pure_ (i := 8) (N := some 13) (v := ?_) (a' := ?_) #[true, true, true, true, true, true, true, true, true, false, false, false, false, false, false, false, false, false, false, false, false, false, false, false, false, false] rfl rfl (any_of HT_.out (by kernel_rfl)) (fun _ _ _ h => h) (Or.inl ⟨by rfl, ?_⟩) ?_ ?_
            rotate_left
            · intro w'
              go_simp
              with_reducible rfl
            rotate_left
            · simp only [Act.put, List.setIfInBounds_toArray, List.set_cons_zero, List.set_cons_succ, i64_w, i32_w]
              rfl
            refine take_ (i := 9) (N := some 14) (v := ?_) (a' := ?_) #[true, true, true, true, true, true, true, true, true, true, false, false, false, false, false, false, false, false, false, false, false, false, false, false, false, false] rfl rfl (take_ofW HT_.out HW_.out (by kernel_rfl)) (fun _ _ _ h => h) (Or.inl ⟨by rfl, ?_⟩) hHeld ?_ ?_
            rotate_left
            · rintro w' ⟨s0, s1⟩
              go_simp
              with_reducible rfl
            rotate_left
            · simp only [Act.put, List.setIfInBounds_toArray, List.set_cons_zero, List.set_cons_succ, i64_w, i32_w]
              rfl
            refine pure_ (i := 10) (N := some 15) (v := ?_) (a' := ?_) #[true, true, true, true, true, true, true, true, true, true, true, false, false, false, false, false, false, false, false, false, false, false, false, false, false, false] rfl rfl (any_of HT_.out (by kernel_rfl)) (fun _ _ _ h => h) (Or.inl ⟨by rfl, ?_⟩) ?_ ?_
            rotate_left
            · intro w'
              go_simp
              with_reducible rfl
            rotate_left
            · simp only [Act.put, List.setIfInBounds_toArray, List.set_cons_zero, List.set_cons_succ, i64_w, i32_w]
              rfl
            refine pure_ (i := 11) (N := some 16) (v := ?_) (a' := ?_) #[true, true, true, true, true, true, true, true, true, true, true, true, false, false, false, false, false, false, false, false, false, false, false, false, false, false] rfl rfl (any_of HT_.out (by kernel_rfl)) (fun _ _ _ h => h) (Or.inl ⟨by rfl, ?_⟩) ?_ ?_
            rotate_left
            · intro w'
              go_simp
              with_reducible rfl
            rotate_left
            · simp only [Act.put, List.setIfInBounds_toArray, List.set_cons_zero, List.set_cons_succ, i64_w, i32_w]
              rfl
            refine pure_ (i := 12) (N := some 17) (v := ?_) (a' := ?_) #[true, true, true, true, true, true, true, true, true, true, true, true, true, false, false, false, false, false, false, false, false, false, false, false, false, false] rfl rfl (any_of HT_.out (by kernel_rfl)) (fun _ _ _ h => h) (Or.inl ⟨by rfl, ?_⟩) ?_ ?_
            rotate_left
            · intro w'
              go_simp
              with_reducible rfl
            rotate_left
            · simp only [Act.put, List.setIfInBounds_toArray, List.set_cons_zero, List.set_cons_succ, i64_w, i32_w]
              rfl
            refine pure_ (i := 13) (N := some 18) (v := ?_) (a' := ?_) #[true, true, true, true, true, true, true, true, true, true, true, true, true, true, false, false, false, false, false, false, false, false, false, false, false, false] rfl rfl (any_of HT_.out (by kernel_rfl)) (fun _ _ _ h => h) (Or.inl ⟨by rfl, ?_⟩) ?_ ?_
            rotate_left
            · intro w'
              go_simp
              with_reducible rfl
            rotate_left
            · simp only [Act.put, List.setIfInBounds_toArray, List.set_cons_zero, List.set_cons_succ, i64_w, i32_w]
              rfl
            refine pure_ (i := 15) (N := some 20) (v := ?_) (a' := ?_) #[true, true, true, true, true, true, true, true, true, true, true, true, true, true, false, true, false, false, false, false, false, false, false, false, false, false] rfl rfl (any_of HT_.out (by kernel_rfl)) (fun _ _ _ h => h) (Or.inl ⟨by rfl, ?_⟩) ?_ ?_
            rotate_left
            · intro w'
              go_simp
              with_reducible rfl
            rotate_left
            · simp only [Act.put, List.setIfInBounds_toArray, List.set_cons_zero, List.set_cons_succ, i64_w, i32_w]
              rfl
            refine pure_ (i := 17) (N := some 22) (v := ?_) (a' := ?_) #[true, true, true, true, true, true, true, true, true, true, true, true, true, true, false, true, false, true, false, false, false, false, false, false, false, false] rfl rfl (any_of HT_.out (by kernel_rfl)) (fun _ _ _ h => h) (Or.inl ⟨by rfl, ?_⟩) ?_ ?_
            rotate_left
            · intro w'
              go_simp
              with_reducible rfl
            rotate_left
            · simp only [Act.put, List.setIfInBounds_toArray, List.set_cons_zero, List.set_cons_succ, i64_w, i32_w]
              rfl
            refine pure_ (i := 21) (N := some 26) (v := ?_) (a' := ?_) #[true, true, true, true, true, true, true, true, true, true, true, true, true, true, false, true, false, true, false, false, false, true, false, false, false, false] rfl rfl (any_of HT_.out (by kernel_rfl)) (fun _ _ _ h => h) (Or.inl ⟨by rfl, ?_⟩) ?_ ?_
            rotate_left
            · intro w'
              go_simp
              with_reducible rfl
            rotate_left
            · simp only [Act.put, List.setIfInBounds_toArray, List.set_cons_zero, List.set_cons_succ, i64_w, i32_w]
              rfl
            refine take_ (i := 14) (N := some 19) (v := ?_) (a' := ?_) #[true, true, true, true, true, true, true, true, true, true, true, true, true, true, true, true, false, true, false, false, false, true, false, false, false, false] rfl rfl (take_ofW HT_.out HW_.out (by kernel_rfl)) (fun _ _ _ h => h) (Or.inl ⟨by rfl, ?_⟩) hHeld ?_ ?_
            rotate_left
            · rintro w' ⟨s0, s1⟩
              go_simp
              with_reducible rfl
            rotate_left
            · simp only [Act.put, List.setIfInBounds_toArray, List.set_cons_zero, List.set_cons_succ, i64_w, i32_w]
              rfl
            refine take_ (i := 16) (N := some 21) (v := ?_) (a' := ?_) #[true, true, true, true, true, true, true, true, true, true, true, true, true, true, true, true, true, true, false, false, false, true, false, false, false, false] rfl rfl (take_ofW HT_.out HW_.out (by kernel_rfl)) (fun _ _ _ h => h) (Or.inl ⟨by rfl, ?_⟩) hHeld ?_ ?_
            rotate_left
            · rintro w' ⟨s0, s1⟩
              go_simp
              with_reducible rfl
            rotate_left
            · simp only [Act.put, List.setIfInBounds_toArray, List.set_cons_zero, List.set_cons_succ, i64_w, i32_w]
              rfl
            refine pure_ (i := 18) (N := some 23) (v := ?_) (a' := ?_) #[true, true, true, true, true, true, true, true, true, true, true, true, true, true, true, true, true, true, true, false, false, true, false, false, false, false] rfl rfl (any_of HT_.out (by kernel_rfl)) (fun _ _ _ h => h) (Or.inl ⟨by rfl, ?_⟩) ?_ ?_
            rotate_left
            · intro w'
              go_simp
              with_reducible rfl
            rotate_left
            · simp only [Act.put, List.setIfInBounds_toArray, List.set_cons_zero, List.set_cons_succ, i64_w, i32_w]
              rfl
            refine take_ (i := 19) (N := some 24) (v := ?_) (a' := ?_) #[true, true, true, true, true, true, true, true, true, true, true, true, true, true, true, true, true, true, true, true, false, true, false, false, false, false] rfl rfl (take_ofW HT_.out HW_.out (by kernel_rfl)) (fun _ _ _ h => h) (Or.inl ⟨by rfl, ?_⟩) hHeld ?_ ?_
            rotate_left
            · rintro w' ⟨s0, s1⟩
              go_simp
              with_reducible rfl
            rotate_left
            · simp only [Act.put, List.setIfInBounds_toArray, List.set_cons_zero, List.set_cons_succ, i64_w, i32_w]
              rfl
            refine one_ (i := 20) (N := some 25) #[true, true, true, true, true, true, true, true, true, true, true, true, true, true, true, true, true, true, true, true, true, true, false, false, false, false] rfl rfl (one_of HT_.out (by kernel_rfl)) (by decide) (fun K hK => ?_)
            refine goes_ Try.func35 (by kernel_rfl) rfl #[.agg #[.slice (some ad199) l0_0.length c0_0], .slice A199_0 (rd_L1 l0_0 a1).length c199_0] (by rfl) rfl rfl (by (try simp only [List.map_toArray, List.map_cons, List.map_nil]); first | done | rfl | (simp only [List.length_drop, List.length_take]; rfl)) ?_
            with_reducible refine (lazycref09_from.calls k _ _ l0_0 _ _ (rd_L1 l0_0 a1) t200 _ ?side1 ?side2 ?side3 ?side4 A8.out).mono ?_
            (case side1 => repeat (first | exact (Kd.C_below HR0_0.out HB.out) | (with_reducible refine Kd.C_alloc ?_ _) | (with_reducible refine Kd.C_drewN ?_ _) | (with_reducible refine Kd.C_drew ?_)))
            (case side2 => exact HC0_0.out)
            (case side3 => repeat (first | exact (Kd.C_below HR199_0.out HB.out) | (with_reducible refine Kd.C_alloc ?_ _) | (with_reducible refine Kd.C_drewN ?_ _) | (with_reducible refine Kd.C_drew ?_)))
            (case side4 => exact HC199_0.out)
            rintro e w13 ⟨v201, rfl, ho0, hb⟩
            skip
            refine ⟨_, rfl, ?_⟩
            have n0_ := aM (Kd.R_lower ho0 (below_size (by repeat (first | (with_reducible first | exact HB.out | apply bA | apply bN | apply bD | refine below_set ?_ GE197.out) | exact HB.out))))
            have n1_ := aM (blk_below (g := gb197) (o := .cells #[.slice (some ad199) l0_0.length c0_0] 24 (0, 0)) (by (with_reducible repeat (first | refine kN ?_ _ | refine kD ?_ | refine kA ?_ _)); exact BK197.out) hb)
            have n2_ := aM (below_step (by repeat (first | (with_reducible first | exact HB.out | apply bA | apply bN | apply bD | refine below_set ?_ GE197.out) | exact HB.out)) hb)
            clear BK197
            clear HB
            have HO202 := n0_
            have BK197 := n1_
            have HB := n2_
            clear n0_ n1_ n2_
            (try clear hb)
            (try clear hb2)
            (try clear hk)
            (try clear hi)
            (try clear ho0)
            obtain ⟨Ao14, co14, eo14⟩ := Kd.R_slice HO202.out
            (first | subst eo14 | (injection eo14 with f1_ f2_ f3_; have f4_ := f1_.symm; have f5_ := f3_.symm; clear f1_ f2_ f3_; subst f4_; subst f5_))
            have p203 : 0 ≤ (a1 : Int) := of_decide_eq_true (by first | (with_reducible assumption) | assumption)
            have q203 : a1 < (t200.length : Int) := of_decide_eq_true (by first | (with_reducible assumption) | assumption)
            obtain ⟨ad203, e203, hx203_0⟩ := Kd.at_bool (Kd.R_reads' HO202.out).2.2 a1 p203 q203
            cases e203
            replace p203 := eq_true p203
            replace q203 := eq_true q203
            refine hK.out _ _ ⟨(blk_cell BK197.out 0).trans rfl, ((HB.out.cell (World.block_lt_of_cell? w _ hw199_0)).trans hw199_0)⟩ (fun hHeld => ?_)
            have hHeld2 := hHeld
            refine resay_ (S2 := fun w' => w'.cell? ⟨gb197, 0, none⟩ = some (.slice (some ad199) l0_0.length c0_0) ∧ w'.cell? (ad199.add (a1).toNat) = some (.slice A199_0 (rd_L1 l0_0 a1).length c199_0) ∧ w'.cell? (ad203.add (a1).toNat) = some (.bool (rdOf false t200 a1))) ⟨hHeld.1, hHeld.2, hx203_0⟩ (fun _ h_ => ⟨h_.1, h_.2.1⟩) ?_
            clear hHeld
            have hHeld := (show _ ∧ _ ∧ _ from ⟨hHeld2.1, hHeld2.2, hx203_0⟩)
            clear hHeld2
            clear hK K
            refine norm_ (a' := ?_) ?_ ?_
            rotate_left
            · show Act.put _ (some 25) _ = _
              simp only [Act.put, List.setIfInBounds_toArray, List.set_cons_zero, List.set_cons_succ, i64_w, i32_w]
              rfl
            refine pure_ (i := 22) (N := some 27) (v := ?_) (a' := ?_) #[true, true, true, true, true, true, true, true, true, true, true, true, true, true, true, true, true, true, true, true, true, true, true, false, false, false] rfl rfl (any_of HT_.out (by kernel_rfl)) (fun _ _ _ h => h) (Or.inl ⟨by rfl, ?_⟩) ?_ ?_
            rotate_left
            · intro w'
              go_simp
              with_reducible rfl
            rotate_left
            · simp only [Act.put, List.setIfInBounds_toArray, List.set_cons_zero, List.set_cons_succ, i64_w, i32_w]
              rfl
            refine take_ (i := 23) (N := some 28) (v := ?_) (a' := ?_) #[true, true, true, true, true, true, true, true, true, true, true, true, true, true, true, true, true, true, true, true, true, true, true, true, false, false] rfl rfl (take_ofW HT_.out HW_.out (by kernel_rfl)) (fun _ _ _ h => h) (Or.inl ⟨by rfl, ?_⟩) hHeld ?_ ?_
            rotate_left
            · rintro w' ⟨s0, s1, s2⟩
              go_simp
              with_reducible rfl
            rotate_left
            · simp only [Act.put, List.setIfInBounds_toArray, List.set_cons_zero, List.set_cons_succ, i64_w, i32_w]
              rfl
            refine pure_ (i := 24) (N := some 29) (v := ?_) (a' := ?_) #[true, true, true, true, true, true, true, true, true, true, true, true, true, true, true, true, true, true, true, true, true, true, true, true, true, false] rfl rfl (any_of HT_.out (by kernel_rfl)) (fun _ _ _ h => h) (Or.inl ⟨by rfl, ?_⟩) ?_ ?_
            rotate_left
            · intro w'
              go_simp
              with_reducible rfl
            rotate_left
            · simp only [Act.put, List.setIfInBounds_toArray, List.set_cons_zero, List.set_cons_succ, i64_w, i32_w]
              rfl
            refine pure_ (i := 25) (N := some 4) (v := ?_) (a' := ?_) #[true, true, true, true, true, true, true, true, true, true, true, true, true, true, true, true, true, true, true, true, true, true, true, true, true, true] rfl rfl (any_of HT_.out (by kernel_rfl)) (fun _ _ _ h => h) (Or.inl ⟨by rfl, ?_⟩) ?_ ?_
            rotate_left
            · intro w'
              go_simp
              with_reducible rfl
            rotate_left
            · simp only [Act.put, List.setIfInBounds_toArray, List.set_cons_zero, List.set_cons_succ, i64_w, i32_w]
              rfl
            refine done_ (done_of HT_.out (by kernel_rfl)) ?_
            try go_wp2
            go_ret
            exact ⟨by first | rfl | (simp [errW_none, errW_some] <;> rfl) | (simp [*, errW_none, errW_some] <;> rfl), by repeat (first | (with_reducible first | exact HB.out | apply bA | apply bN | apply bD | refine below_set ?_ GE197.out) | exact HB.out)⟩
          · rw [if_neg c9] at H
            exact absurd H (by simp)
        · rw [if_neg c7] at H
          exact absurd H (by simp)
      · rw [if_neg c6] at H
        have c6b0 : decide (a1 < (l0_0.length : Int)) = false := decide_eq_false c6
        clear c6
        obtain rfl := Option.some.inj H
        go_enter Try.func21, Try.ntmps21
        try go_wp2_with (first | ((with_reducible refine gate_dst (N := 2) rfl ?_); (try (refine gate_guard (by rfl) ?_; dsimp only)); refine box_event ?hg (N := 2) ?hd (cs := #[.slice A0_0 l0_0.length c0_0]) (t := 24) ?hr ?_; (case hd => rfl); (case hg => rfl); (case hr => first | (go_simp; done) | (go_simp; rfl)); intro gb197 hg w15 hbox hb; have n0_ := aM (below_step (by repeat (first | (with_reducible first | exact HB.out | apply bA | apply bN | apply bD) | exact HB.out)) hb); have n1_ := aM (hbox); have n2_ := aM ((by rw [hg]; exact (below_size (by repeat (first | (with_reducible first | exact HB.out | apply bA | apply bN | apply bD) | exact HB.out))) : w.heap.size ≤ gb197)); have n3_ := aM ((by rw [hg]; exact (below_size (by repeat (first | (with_reducible first | exact HB.out | apply bA | apply bN | apply bD) | exact HB.out))) : w.heap.size ≤ gb197)); clear HB; have HB := n0_; have BK197 := n1_; have GW197 := n2_; have GE197 := n3_; clear n0_ n1_ n2_ n3_; clear hb hbox hg))
        have n0_ := aM (blk_drew BK197.out)
        have n1_ := aM (below_drew1 HB.out)
        clear BK197
        clear HB
        have BK197 := n0_
        have HB := n1_
        clear n0_ n1_
        refine start_ (n := 26) (S := fun w' => w'.cell? ⟨gb197, 0, none⟩ = some (.slice A0_0 l0_0.length c0_0)) (ds := []) #[false, false, false, false, false, false, false, false, false, false, false, false, false, false, false, false, false, false, false, false, false, false, false, false, false, false] (by kernel_rfl) rfl rfl ((blk_cell BK197.out 0).trans rfl) (fun hHeld => ?_); refine with_tabW lazycref09_Cyclic.tab1 lazycref09_Cyclic.bits1 (fun HT_ HW_ => ?_)
        generalize w15.drew = w16 at BK197 HB hHeld ⊢
        refine take_ (i := 0) (N := some 5) (v := ?_) (a' := ?_) #[true, false, false, false, false, false, false, false, false, false, false, false, false, false, false, false, false, false, false, false, false, false, false, false, false, false] rfl rfl (take_ofW HT_.out HW_.out (by kernel_rfl)) (fun _ _ _ h => h) (Or.inl ⟨by rfl, ?_⟩) hHeld ?_ ?_
        rotate_left
        · intro w' s0
          go_simp
          with_reducible rfl
        rotate_left
        · simp only [Act.put, List.setIfInBounds_toArray, List.set_cons_zero, List.set_cons_succ, i64_w, i32_w]
          rfl
        refine one_ (i := 1) (N := some 6) #[true, true, false, false, false, false, false, false, false, false, false, false, false, false, false, false, false, false, false, false, false, false, false, false, false, false] rfl rfl (one_of HT_.out (by kernel_rfl)) (by decide) (fun K hK => ?_)
        refine goes_ Try.func16 (by kernel_rfl) rfl #[.agg #[.slice A0_0 l0_0.length c0_0]] (by rfl) rfl rfl (by (try simp only [List.map_toArray, List.map_cons, List.map_nil]); first | done | rfl | (simp only [List.length_drop, List.length_take]; rfl)) ?_
        with_reducible refine (lazycref09_Valid.calls k _ _ l0_0 true _ ?side1 ?side2 A3.out).mono ?_
        (case side1 => repeat (first | exact (Kd.C_below HR0_0.out HB.out) | (with_reducible refine Kd.C_alloc ?_ _) | (with_reducible refine Kd.C_drewN ?_ _) | (with_reducible refine Kd.C_drew ?_)))
        (case side2 => exact HC0_0.out)
        rintro e w17 ⟨rfl, hb⟩
        refine ⟨_, rfl, ?_⟩
        have n0_ := aM (blk_below (g := gb197) (o := .cells #[.slice A0_0 l0_0.length c0_0] 24 (0, 0)) (by (with_reducible repeat (first | refine kN ?_ _ | refine kD ?_ | refine kA ?_ _)); exact BK197.out) hb)
        have n1_ := aM (below_step (by repeat (first | (with_reducible first | exact HB.out | apply bA | apply bN | apply bD | refine below_set ?_ GE197.out) | exact HB.out)) hb)
        clear BK197
        clear HB
        have BK197 := n0_
        have HB := n1_
        clear n0_ n1_
        (try clear hb)
        (try clear hb2)
        (try clear hk)
        (try clear hi)
        refine hK.out _ _ ((blk_cell BK197.out 0).trans rfl) (fun hHeld => ?_)
        clear hK K
        refine norm_ (a' := ?_) ?_ ?_
        rotate_left
        · show Act.put _ (some 6) _ = _
          simp only [Act.put, List.setIfInBounds_toArray, List.set_cons_zero, List.set_cons_succ, i64_w, i32_w]
          rfl
        refine pure_ (i := 2) (N := some 7) (v := ?_) (a' := ?_) #[true, true, true, false, false, false, false, false, false, false, false, false, false, false, false, false, false, false, false, false, false, false, false, false, false, false] rfl rfl (any_of HT_.out (by kernel_rfl)) (fun _ _ _ h => h) (Or.inl ⟨by rfl, ?_⟩) ?_ ?_
        rotate_left
        · intro w'
          go_simp
          with_reducible rfl
        rotate_left
        · simp only [Act.put, List.setIfInBounds_toArray, List.set_cons_zero, List.set_cons_succ, i64_w, i32_w]
          rfl
        refine pure_ (i := 3) (N := some 8) (v := ?_) (a' := ?_) #[true, true, true, true, false, false, false, false, false, false, false, false, false, false, false, false, false, false, false, false, false, false, false, false, false, false] rfl rfl (any_of HT_.out (by kernel_rfl)) (fun _ _ _ h => h) (Or.inl ⟨by rfl, ?_⟩) ?_ ?_
        rotate_left
        · intro w'
          go_simp
          with_reducible rfl
        rotate_left
        · simp only [Act.put, List.setIfInBounds_toArray, List.set_cons_zero, List.set_cons_succ, i64_w, i32_w]
          rfl
        refine pure_ (i := 4) (N := some 9) (v := ?_) (a' := ?_) #[true, true, true, true, true, false, false, false, false, false, false, false, false, false, false, false, false, false, false, false, false, false, false, false, false, false] rfl rfl (any_of HT_.out (by kernel_rfl)) (fun _ _ _ h => h) (Or.inl ⟨by rfl, ?_⟩) ?_ ?_
        rotate_left
        · intro w'
          go_simp
          with_reducible rfl
        rotate_left
        · simp only [Act.put, List.setIfInBounds_toArray, List.set_cons_zero, List.set_cons_succ, i64_w, i32_w]
          rfl
        refine pure_ (i := 5) (N := some 10) (v := ?_) (a' := ?_) #[true, true, true, true, true, true, false, false, false, false, false, false, false, false, false, false, false, false, false, false, false, false, false, false, false, false] rfl rfl (any_of HT_.out (by kernel_rfl)) (fun _ _ _ h => h) (Or.inl ⟨by rfl, ?_⟩) ?_ ?_
        rotate_left
        · intro w'
          go_simp
          with_reducible rfl
        rotate_left
        · simp only [Act.put, List.setIfInBounds_toArray, List.set_cons_zero, List.set_cons_succ, i64_w, i32_w]
          rfl
        refine pure_ (i := 6) (N := some 11) (v := ?_) (a' := ?_) #[true, true, true, true, true, true, true, false, false, false, false, false, false, false, false, false, false, false, false, false, false, false, false, false, false, false] rfl rfl (any_of HT_.out (by kernel_rfl)) (fun _ _ _ h => h) (Or.inl ⟨by rfl, ?_⟩) ?_ ?_
        rotate_left
        · intro w'
          go_simp
          with_reducible rfl
        rotate_left
        · simp only [Act.put, List.setIfInBounds_toArray, List.set_cons_zero, List.set_cons_succ, i64_w, i32_w]
          rfl
        refine pure_ (i := 7) (N := some 12) (v := ?_) (a' := ?_) #[true, true, true, true, true, true, true, true, false, false, false, false, false, false, false, false, false, false, false, false, false, false, false, false, false, false] rfl rfl (any_of HT_.out (by kernel_rfl)) (fun _ _ _ h => h) (Or.inl ⟨by rfl, ?_⟩) ?_ ?_
        rotate_left
        · intro w'
          go_simp
          with_reducible rfl
        rotate_left
        · simp only [Act.put, List.setIfInBounds_toArray, List.set_cons_zero, List.set_cons_succ, i64_w, i32_w]
          rfl
        refine pure_ (i := 8) (N := some 13) (v := ?_) (a' := ?_) #[true, true, true, true, true, true, true, true, true, false, false, false, false, false, false, false, false, false, false, false, false, false, false, false, false, false] rfl rfl (any_of HT_.out (by kernel_rfl)) (fun _ _ _ h => h) (Or.inl ⟨by rfl, ?_⟩) ?_ ?_
        rotate_left
        · intro w'
          go_simp
          with_reducible rfl
        rotate_left
        · simp only [Act.put, List.setIfInBounds_toArray, List.set_cons_zero, List.set_cons_succ, i64_w, i32_w]
          rfl
        refine take_ (i := 9) (N := some 14) (v := ?_) (a' := ?_) #[true, true, true, true, true, true, true, true, true, true, false, false, false, false, false, false, false, false, false, false, false, false, false, false, false, false] rfl rfl (take_ofW HT_.out HW_.out (by kernel_rfl)) (fun _ _ _ h => h) (Or.inl ⟨by rfl, ?_⟩) hHeld ?_ ?_
        rotate_left
        · intro w' s0
          go_simp
          with_reducible rfl
        rotate_left
        · simp only [Act.put, List.setIfInBounds_toArray, List.set_cons_zero, List.set_cons_succ, i64_w, i32_w]
          rfl
        refine pure_ (i := 10) (N := some 15) (v := ?_) (a' := ?_) #[true, true, true, true, true, true, true, true, true, true, true, false, false, false, false, false, false, false, false, false, false, false, false, false, false, false] rfl rfl (any_of HT_.out (by kernel_rfl)) (fun _ _ _ h => h) (Or.inl ⟨by rfl, ?_⟩) ?_ ?_
        rotate_left
        · intro w'
          go_simp
          with_reducible rfl
        rotate_left
        · simp only [Act.put, List.setIfInBounds_toArray, List.set_cons_zero, List.set_cons_succ, i64_w, i32_w]
          rfl
        refine pure_ (i := 11) (N := some 16) (v := ?_) (a' := ?_) #[true, true, true, true, true, true, true, true, true, true, true, true, false, false, false, false, false, false, false, false, false, false, false, false, false, false] rfl rfl (any_of HT_.out (by kernel_rfl)) (fun _ _ _ h => h) (Or.inl ⟨by rfl, ?_⟩) ?_ ?_
        rotate_left
        · intro w'
          go_simp
          with_reducible rfl
        rotate_left
        · simp only [Act.put, List.setIfInBounds_toArray, List.set_cons_zero, List.set_cons_succ, i64_w, i32_w]
          rfl
        refine pure_ (i := 12) (N := some 17) (v := ?_) (a' := ?_) #[true, true, true, true, true, true, true, true, true, true, true, true, true, false, false, false, false, false, false, false, false, false, false, false, false, false] rfl rfl (any_of HT_.out (by kernel_rfl)) (fun _ _ _ h => h) (Or.inl ⟨by rfl, ?_⟩) ?_ ?_
        rotate_left
        · intro w'
          go_simp
          with_reducible rfl
        rotate_left
        · simp only [Act.put, List.setIfInBounds_toArray, List.set_cons_zero, List.set_cons_succ, i64_w, i32_w]
          rfl
        refine pure_ (i := 13) (N := some 18) (v := ?_) (a' := ?_) #[true, true, true, true, true, true, true, true, true, true, true, true, true, true, false, false, false, false, false, false, false, false, false, false, false, false] rfl rfl (any_of HT_.out (by kernel_rfl)) (fun _ _ _ h => h) (Or.inl ⟨by rfl, ?_⟩) ?_ ?_
        rotate_left
        · intro w'
          go_simp
          with_reducible rfl
        rotate_left
        · simp only [Act.put, List.setIfInBounds_toArray, List.set_cons_zero, List.set_cons_succ, i64_w, i32_w]
          rfl
        refine pure_ (i := 14) (N := some 19) (v := undef) (a' := ?_) #[true, true, true, true, true, true, true, true, true, true, true, true, true, true, true, false, false, false, false, false, false, false, false, false, false, false] rfl rfl (any_of HT_.out (by kernel_rfl)) (fun _ _ _ h => h) (Or.inr ⟨by rfl, rfl⟩) ?_ ?_
        rotate_left
        · simp only [Act.put, List.setIfInBounds_toArray, List.set_cons_zero, List.set_cons_succ, i64_w, i32_w]
          rfl
        refine pure_ (i := 15) (N := some 20) (v := undef) (a' := ?_) #[true, true, true, true, true, true, true, true, true, true, true, true, true, true, true, true, false, false, false, false, false, false, false, false, false, false] rfl rfl (any_of HT_.out (by kernel_rfl)) (fun _ _ _ h => h) (Or.inr ⟨by rfl, rfl⟩) ?_ ?_
        rotate_left
        · simp only [Act.put, List.setIfInBounds_toArray, List.set_cons_zero, List.set_cons_succ, i64_w, i32_w]
          rfl
        refine pure_ (i := 16) (N := some 21) (v := undef) (a' := ?_) #[true, true, true, true, true, true, true, true, true, true, true, true, true, true, true, true, true, false, false, false, false, false, false, false, false, false] rfl rfl (any_of HT_.out (by kernel_rfl)) (fun _ _ _ h => h) (Or.inr ⟨by rfl, rfl⟩) ?_ ?_
        rotate_left
        · simp only [Act.put, List.setIfInBounds_toArray, List.set_cons_zero, List.set_cons_succ, i64_w, i32_w]
          rfl
        refine pure_ (i := 17) (N := some 22) (v := undef) (a' := ?_) #[true, true, true, true, true, true, true, true, true, true, true, true, true, true, true, true, true, true, false, false, false, false, false, false, false, false] rfl rfl (any_of HT_.out (by kernel_rfl)) (fun _ _ _ h => h) (Or.inr ⟨by rfl, rfl⟩) ?_ ?_
        rotate_left
        · simp only [Act.put, List.setIfInBounds_toArray, List.set_cons_zero, List.set_cons_succ, i64_w, i32_w]
          rfl
        refine pure_ (i := 18) (N := some 23) (v := undef) (a' := ?_) #[true, true, true, true, true, true, true, true, true, true, true, true, true, true, true, true, true, true, true, false, false, false, false, false, false, false] rfl rfl (any_of HT_.out (by kernel_rfl)) (fun _ _ _ h => h) (Or.inr ⟨by rfl, rfl⟩) ?_ ?_
        rotate_left
        · simp only [Act.put, List.setIfInBounds_toArray, List.set_cons_zero, List.set_cons_succ, i64_w, i32_w]
          rfl
        refine pure_ (i := 19) (N := some 24) (v := undef) (a' := ?_) #[true, true, true, true, true, true, true, true, true, true, true, true, true, true, true, true, true, true, true, true, false, false, false, false, false, false] rfl rfl (any_of HT_.out (by kernel_rfl)) (fun _ _ _ h => h) (Or.inr ⟨by rfl, rfl⟩) ?_ ?_
        rotate_left
        · simp only [Act.put, List.setIfInBounds_toArray, List.set_cons_zero, List.set_cons_succ, i64_w, i32_w]
          rfl
        refine pure_ (i := 20) (N := some 25) (v := undef) (a' := ?_) #[true, true, true, true, true, true, true, true, true, true, true, true, true, true, true, true, true, true, true, true, true, false, false, false, false, false] rfl rfl (any_of HT_.out (by kernel_rfl)) (fun _ _ _ h => h) (Or.inr ⟨by rfl, rfl⟩) ?_ ?_
        rotate_left
        · simp only [Act.put, List.setIfInBounds_toArray, List.set_cons_zero, List.set_cons_succ, i64_w, i32_w]
          rfl
        refine pure_ (i := 21) (N := some 26) (v := undef) (a' := ?_) #[true, true, true, true, true, true, true, true, true, true, true, true, true, true, true, true, true, true, true, true, true, true, false, false, false, false] rfl rfl (any_of HT_.out (by kernel_rfl)) (fun _ _ _ h => h) (Or.inr ⟨by rfl, rfl⟩) ?_ ?_
        rotate_left
        · simp only [Act.put, List.setIfInBounds_toArray, List.set_cons_zero, List.set_cons_succ, i64_w, i32_w]
          rfl
        refine pure_ (i := 22) (N := some 27) (v := undef) (a' := ?_) #[true, true, true, true, true, true, true, true, true, true, true, true, true, true, true, true, true, true, true, true, true, true, true, false, false, false] rfl rfl (any_of HT_.out (by kernel_rfl)) (fun _ _ _ h => h) (Or.inr ⟨by rfl, rfl⟩) ?_ ?_
        rotate_left
        · simp only [Act.put, List.setIfInBounds_toArray, List.set_cons_zero, List.set_cons_succ, i64_w, i32_w]
          rfl
        refine pure_ (i := 23) (N := some 28) (v := undef) (a' := ?_) #[true, true, true, true, true, true, true, true, true, true, true, true, true, true, true, true, true, true, true, true, true, true, true, true, false, false] rfl rfl (any_of HT_.out (by kernel_rfl)) (fun _ _ _ h => h) (Or.inr ⟨by rfl, rfl⟩) ?_ ?_
        rotate_left
        · simp only [Act.put, List.setIfInBounds_toArray, List.set_cons_zero, List.set_cons_succ, i64_w, i32_w]
          rfl
        refine pure_ (i := 24) (N := some 29) (v := ?_) (a' := ?_) #[true, true, true, true, true, true, true, true, true, true, true, true, true, true, true, true, true, true, true, true, true, true, true, true, true, false] rfl rfl (any_of HT_.out (by kernel_rfl)) (fun _ _ _ h => h) (Or.inl ⟨by rfl, ?_⟩) ?_ ?_
        rotate_left
        · intro w'
          go_simp
          with_reducible rfl
        rotate_left
        · simp only [Act.put, List.setIfInBounds_toArray, List.set_cons_zero, List.set_cons_succ, i64_w, i32_w]
          rfl
        refine pure_ (i := 25) (N := some 4) (v := ?_) (a' := ?_) #[true, true, true, true, true, true, true, true, true, true, true, true, true, true, true, true, true, true, true, true, true, true, true, true, true, true] rfl rfl (any_of HT_.out (by kernel_rfl)) (fun _ _ _ h => h) (Or.inl ⟨by rfl, ?_⟩) ?_ ?_
        rotate_left
        · intro w'
          go_simp
          with_reducible rfl
        rotate_left
        · simp only [Act.put, List.setIfInBounds_toArray, List.set_cons_zero, List.set_cons_succ, i64_w, i32_w]
          rfl
        refine done_ (done_of HT_.out (by kernel_rfl)) ?_
        try go_wp2
        go_ret
        exact ⟨by first | rfl | (simp [errW_none, errW_some] <;> rfl) | (simp [*, errW_none, errW_some] <;> rfl), by repeat (first | (with_reducible first | exact HB.out | apply bA | apply bN | apply bD | refine below_set ?_ GE197.out) | exact HB.out)⟩
    · rw [if_neg c5] at H
      have c5b0 : decide (0 ≤ a1) = false := decide_eq_false c5
      clear c5
      obtain rfl := Option.some.inj H
      go_enter Try.func21, Try.ntmps21
      try go_wp2_with (first | ((with_reducible refine gate_dst (N := 2) rfl ?_); (try (refine gate_guard (by rfl) ?_; dsimp only)); refine box_event ?hg (N := 2) ?hd (cs := #[.slice A0_0 l0_0.length c0_0]) (t := 24) ?hr ?_; (case hd => rfl); (case hg => rfl); (case hr => first | (go_simp; done) | (go_simp; rfl)); intro gb197 hg w18 hbox hb; have n0_ := aM (below_step (by repeat (first | (with_reducible first | exact HB.out | apply bA | apply bN | apply bD) | exact HB.out)) hb); have n1_ := aM (hbox); have n2_ := aM ((by rw [hg]; exact (below_size (by repeat (first | (with_reducible first | exact HB.out | apply bA | apply bN | apply bD) | exact HB.out))) : w.heap.size ≤ gb197)); have n3_ := aM ((by rw [hg]; exact (below_size (by repeat (first | (with_reducible first | exact HB.out | apply bA | apply bN | apply bD) | exact HB.out))) : w.heap.size ≤ gb197)); clear HB; have HB := n0_; have BK197 := n1_; have GW197 := n2_; have GE197 := n3_; clear n0_ n1_ n2_ n3_; clear hb hbox hg))
      have n0_ := aM (blk_drew BK197.out)
      have n1_ := aM (below_drew1 HB.out)
      clear BK197
      clear HB
      have BK197 := n0_
      have HB := n1_
      clear n0_ n1_
      refine start_ (n := 26) (S := fun w' => w'.cell? ⟨gb197, 0, none⟩ = some (.slice A0_0 l0_0.length c0_0)) (ds := []) #[false, false, false, false, false, false, false, false, false, false, false, false, false, false, false, false, false, false, false, false, false, false, false, false, false, false] (by kernel_rfl) rfl rfl ((blk_cell BK197.out 0).trans rfl) (fun hHeld => ?_); refine with_tabW lazycref09_Cyclic.tab1 lazycref09_Cyclic.bits1 (fun HT_ HW_ => ?_)
      generalize w18.drew = w19 at BK197 HB hHeld ⊢
      refine take_ (i := 0) (N := some 5) (v := ?_) (a' := ?_) #[true, false, false, false, false, false, false, false, false, false, false, false, false, false, false, false, false, false, false, false, false, false, false, false, false, false] rfl rfl (take_ofW HT_.out HW_.out (by kernel_rfl)) (fun _ _ _ h => h) (Or.inl ⟨by rfl, ?_⟩) hHeld ?_ ?_
      rotate_left
      · intro w' s0
        go_simp
        with_reducible rfl
      rotate_left
      · simp only [Act.put, List.setIfInBounds_toArray, List.set_cons_zero, List.set_cons_succ, i64_w, i32_w]
        rfl
      refine one_ (i := 1) (N := some 6) #[true, true, false, false, false, false, false, false, false, false, false, false, false, false, false, false, false, false, false, false, false, false, false, false, false, false] rfl rfl (one_of HT_.out (by kernel_rfl)) (by decide) (fun K hK => ?_)
      refine goes_ Try.func16 (by kernel_rfl) rfl #[.agg #[.slice A0_0 l0_0.length c0_0]] (by rfl) rfl rfl (by (try simp only [List.map_toArray, List.map_cons, List.map_nil]); first | done | rfl | (simp only [List.length_drop, List.length_take]; rfl)) ?_
      with_reducible refine (lazycref09_Valid.calls k _ _ l0_0 true _ ?side1 ?side2 A3.out).mono ?_
      (case side1 => repeat (first | exact (Kd.C_below HR0_0.out HB.out) | (with_reducible refine Kd.C_alloc ?_ _) | (with_reducible refine Kd.C_drewN ?_ _) | (with_reducible refine Kd.C_drew ?_)))
      (case side2 => exact HC0_0.out)
      rintro e w20 ⟨rfl, hb⟩
      refine ⟨_, rfl, ?_⟩
      have n0_ := aM (blk_below (g := gb197) (o := .cells #[.slice A0_0 l0_0.length c0_0] 24 (0, 0)) (by (with_reducible repeat (first | refine kN ?_ _ | refine kD ?_ | refine kA ?_ _)); exact BK197.out) hb)
      have n1_ := aM (below_step (by repeat (first | (with_reducible first | exact HB.out | apply bA | apply bN | apply bD | refine below_set ?_ GE197.out) | exact HB.out)) hb)
      clear BK197
      clear HB
      have BK197 := n0_
      have HB := n1_
      clear n0_ n1_
      (try clear hb)
      (try clear hb2)
      (try clear hk)
      (try clear hi)
      refine hK.out _ _ ((blk_cell BK197.out 0).trans rfl) (fun hHeld => ?_)
      clear hK K
      refine norm_ (a' := ?_) ?_ ?_
      rotate_left
      · show Act.put _ (some 6) _ = _
        simp only [Act.put, List.setIfInBounds_toArray, List.set_cons_zero, List.set_cons_succ, i64_w, i32_w]
        rfl
      refine pure_ (i := 2) (N := some 7) (v := ?_) (a' := ?_) #[true, true, true, false, false, false, false, false, false, false, false, false, false, false, false, false, false, false, false, false, false, false, false, false, false, false] rfl rfl (any_of HT_.out (by kernel_rfl)) (fun _ _ _ h => h) (Or.inl ⟨by rfl, ?_⟩) ?_ ?_
      rotate_left
      · intro w'
        go_simp
        with_reducible rfl
      rotate_left
      · simp only [Act.put, List.setIfInBounds_toArray, List.set_cons_zero, List.set_cons_succ, i64_w, i32_w]
        rfl
      refine pure_ (i := 3) (N := some 8) (v := ?_) (a' := ?_) #[true, true, true, true, false, false, false, false, false, false, false, false, false, false, false, false, false, false, false, false, false, false, false, false, false, false] rfl rfl (any_of HT_.out (by kernel_rfl)) (fun _ _ _ h => h) (Or.inl ⟨by rfl, ?_⟩) ?_ ?_
      rotate_left
      · intro w'
        go_simp
        with_reducible rfl
      rotate_left
      · simp only [Act.put, List.setIfInBounds_toArray, List.set_cons_zero, List.set_cons_succ, i64_w, i32_w]
        rfl
      refine pure_ (i := 4) (N := some 9) (v := ?_) (a' := ?_) #[true, true, true, true, true, false, false, false, false, false, false, false, false, false, false, false, false, false, false, false, false, false, false, false, false, false] rfl rfl (any_of HT_.out (by kernel_rfl)) (fun _ _ _ h => h) (Or.inl ⟨by rfl, ?_⟩) ?_ ?_
      rotate_left
      · intro w'
        go_simp
        with_reducible rfl
      rotate_left
      · simp only [Act.put, List.setIfInBounds_toArray, List.set_cons_zero, List.set_cons_succ, i64_w, i32_w]
        rfl
      refine pure_ (i := 5) (N := some 10) (v := ?_) (a' := ?_) #[true, true, true, true, true, true, false, false, false, false, false, false, false, false, false, false, false, false, false, false, false, false, false, false, false, false] rfl rfl (any_of HT_.out (by kernel_rfl)) (fun _ _ _ h => h) (Or.inl ⟨by rfl, ?_⟩) ?_ ?_
      rotate_left
      · intro w'
        go_simp
        with_reducible rfl
      rotate_left
      · simp only [Act.put, List.setIfInBounds_toArray, List.set_cons_zero, List.set_cons_succ, i64_w, i32_w]
        rfl
      refine pure_ (i := 6) (N := some 11) (v := ?_) (a' := ?_) #[true, true, true, true, true, true, true, false, false, false, false, false, false, false, false, false, false, false, false, false, false, false, false, false, false, false] rfl rfl (any_of HT_.out (by kernel_rfl)) (fun _ _ _ h => h) (Or.inl ⟨by rfl, ?_⟩) ?_ ?_
      rotate_left
      · intro w'
        go_simp
        with_reducible rfl
      rotate_left
      · simp only [Act.put, List.setIfInBounds_toArray, List.set_cons_zero, List.set_cons_succ, i64_w, i32_w]
        rfl
      refine pure_ (i := 7) (N := some 12) (v := undef) (a' := ?_) #[true, true, true, true, true, true, true, true, false, false, false, false, false, false, false, false, false, false, false, false, false, false, false, false, false, false] rfl rfl (any_of HT_.out (by kernel_rfl)) (fun _ _ _ h => h) (Or.inr ⟨by rfl, rfl⟩) ?_ ?_
      rotate_left
      · simp only [Act.put, List.setIfInBounds_toArray, List.set_cons_zero, List.set_cons_succ, i64_w, i32_w]
        rfl
      refine pure_ (i := 8) (N := some 13) (v := undef) (a' := ?_) #[true, true, true, true, true, true, true, true, true, false, false, false, false, false, false, false, false, false, false, false, false, false, false, false, false, false] rfl rfl (any_of HT_.out (by kernel_rfl)) (fun _ _ _ h => h) (Or.inr ⟨by rfl, rfl⟩) ?_ ?_
      rotate_left
      · simp only [Act.put, List.setIfInBounds_toArray, List.set_cons_zero, List.set_cons_succ, i64_w, i32_w]
        rfl
      refine pure_ (i := 9) (N := some 14) (v := undef) (a' := ?_) #[true, true, true, true, true, true, true, true, true, true, false, false, false, false, false, false, false, false, false, false, false, false, false, false, false, false] rfl rfl (any_of HT_.out (by kernel_rfl)) (fun _ _ _ h => h) (Or.inr ⟨by rfl, rfl⟩) ?_ ?_
      rotate_left
      · simp only [Act.put, List.setIfInBounds_toArray, List.set_cons_zero, List.set_cons_succ, i64_w, i32_w]
        rfl
      refine pure_ (i := 10) (N := some 15) (v := undef) (a' := ?_) #[true, true, true, true, true, true, true, true, true, true, true, false, false, false, false, false, false, false, false, false, false, false, false, false, false, false] rfl rfl (any_of HT_.out (by kernel_rfl)) (fun _ _ _ h => h) (Or.inr ⟨by rfl, rfl⟩) ?_ ?_
      rotate_left
      · simp only [Act.put, List.setIfInBounds_toArray, List.set_cons_zero, List.set_cons_succ, i64_w, i32_w]
        rfl
      refine pure_ (i := 11) (N := some 16) (v := undef) (a' := ?_) #[true, true, true, true, true, true, true, true, true, true, true, true, false, false, false, false, false, false, false, false, false, false, false, false, false, false] rfl rfl (any_of HT_.out (by kernel_rfl)) (fun _ _ _ h => h) (Or.inr ⟨by rfl, rfl⟩) ?_ ?_
      rotate_left
      · simp only [Act.put, List.setIfInBounds_toArray, List.set_cons_zero, List.set_cons_succ, i64_w, i32_w]
        rfl
      refine pure_ (i := 12) (N := some 17) (v := ?_) (a' := ?_) #[true, true, true, true, true, true, true, true, true, true, true, true, true, false, false, false, false, false, false, false, false, false, false, false, false, false] rfl rfl (any_of HT_.out (by kernel_rfl)) (fun _ _ _ h => h) (Or.inl ⟨by rfl, ?_⟩) ?_ ?_
      rotate_left
      · intro w'
        go_simp
        with_reducible rfl
      rotate_left
      · simp only [Act.put, List.setIfInBounds_toArray, List.set_cons_zero, List.set_cons_succ, i64_w, i32_w]
        rfl
      refine pure_ (i := 13) (N := some 18) (v := ?_) (a' := ?_) #[true, true, true, true, true, true, true, true, true, true, true, true, true, true, false, false, false, false, false, false, false, false, false, false, false, false] rfl rfl (any_of HT_.out (by kernel_rfl)) (fun _ _ _ h => h) (Or.inl ⟨by rfl, ?_⟩) ?_ ?_
      rotate_left
      · intro w'
        go_simp
        with_reducible rfl
      rotate_left
      · simp only [Act.put, List.setIfInBounds_toArray, List.set_cons_zero, List.set_cons_succ, i64_w, i32_w]
        rfl
      refine pure_ (i := 14) (N := some 19) (v := undef) (a' := ?_) #[true, true, true, true, true, true, true, true, true, true, true, true, true, true, true, false, false, false, false, false, false, false, false, false, false, false] rfl rfl (any_of HT_.out (by kernel_rfl)) (fun _ _ _ h => h) (Or.inr ⟨by rfl, rfl⟩) ?_ ?_
      rotate_left
      · simp only [Act.put, List.setIfInBounds_toArray, List.set_cons_zero, List.set_cons_succ, i64_w, i32_w]
        rfl
      refine pure_ (i := 15) (N := some 20) (v := undef) (a' := ?_) #[true, true, true, true, true, true, true, true, true, true, true, true, true, true, true, true, false, false, false, false, false, false, false, false, false, false] rfl rfl (any_of HT_.out (by kernel_rfl)) (fun _ _ _ h => h) (Or.inr ⟨by rfl, rfl⟩) ?_ ?_
      rotate_left
      · simp only [Act.put, List.setIfInBounds_toArray, List.set_cons_zero, List.set_cons_succ, i64_w, i32_w]
        rfl
      refine pure_ (i := 16) (N := some 21) (v := undef) (a' := ?_) #[true, true, true, true, true, true, true, true, true, true, true, true, true, true, true, true, true, false, false, false, false, false, false, false, false, false] rfl rfl (any_of HT_.out (by kernel_rfl)) (fun _ _ _ h => h) (Or.inr ⟨by rfl, rfl⟩) ?_ ?_
      rotate_left
      · simp only [Act.put, List.setIfInBounds_toArray, List.set_cons_zero, List.set_cons_succ, i64_w, i32_w]
        rfl
      refine pure_ (i := 17) (N := some 22) (v := undef) (a' := ?_) #[true, true, true, true, true, true, true, true, true, true, true, true, true, true, true, true, true, true, false, false, false, false, false, false, false, false] rfl rfl (any_of HT_.out (by kernel_rfl)) (fun _ _ _ h => h) (Or.inr ⟨by rfl, rfl⟩) ?_ ?_
      rotate_left
      · simp only [Act.put, List.setIfInBounds_toArray, List.set_cons_zero, List.set_cons_succ, i64_w, i32_w]
        rfl
      refine pure_ (i := 18) (N := some 23) (v := undef) (a' := ?_) #[true, true, true, true, true, true, true, true, true, true, true, true, true, true, true, true, true, true, true, false, false, false, false, false, false, false] rfl rfl (any_of HT_.out (by kernel_rfl)) (fun _ _ _ h => h) (Or.inr ⟨by rfl, rfl⟩) ?_ ?_
      rotate_left
      · simp only [Act.put, List.setIfInBounds_toArray, List.set_cons_zero, List.set_cons_succ, i64_w, i32_w]
        rfl
      refine pure_ (i := 19) (N := some 24) (v := undef) (a' := ?_) #[true, true, true, true, true, true, true, true, true, true, true, true, true, true, true, true, true, true, true, true, false, false, false, false, false, false] rfl rfl (any_of HT_.out (by kernel_rfl)) (fun _ _ _ h => h) (Or.inr ⟨by rfl, rfl⟩) ?_ ?_
      rotate_left
      · simp only [Act.put, List.setIfInBounds_toArray, List.set_cons_zero, List.set_cons_succ, i64_w, i32_w]
        rfl
      refine pure_ (i := 20) (N := some 25) (v := undef) (a' := ?_) #[true, true, true, true, true, true, true, true, true, true, true, true, true, true, true, true, true, true, true, true, true, false, false, false, false, false] rfl rfl (any_of HT_.out (by kernel_rfl)) (fun _ _ _ h => h) (Or.inr ⟨by rfl, rfl⟩) ?_ ?_
      rotate_left
      · simp only [Act.put, List.setIfInBounds_toArray, List.set_cons_zero, List.set_cons_succ, i64_w, i32_w]
        rfl
      refine pure_ (i := 21) (N := some 26) (v := undef) (a' := ?_) #[true, true, true, true, true, true, true, true, true, true, true, true, true, true, true, true, true, true, true, true, true, true, false, false, false, false] rfl rfl (any_of HT_.out (by kernel_rfl)) (fun _ _ _ h => h) (Or.inr ⟨by rfl, rfl⟩) ?_ ?_
      rotate_left
      · simp only [Act.put, List.setIfInBounds_toArray, List.set_cons_zero, List.set_cons_succ, i64_w, i32_w]
        rfl
      refine pure_ (i := 22) (N := some 27) (v := undef) (a' := ?_) #[true, true, true, true, true, true, true, true, true, true, true, true, true, true, true, true, true, true, true, true, true, true, true, false, false, false] rfl rfl (any_of HT_.out (by kernel_rfl)) (fun _ _ _ h => h) (Or.inr ⟨by rfl, rfl⟩) ?_ ?_
      rotate_left
      · simp only [Act.put, List.setIfInBounds_toArray, List.set_cons_zero, List.set_cons_succ, i64_w, i32_w]
        rfl
      refine pure_ (i := 23) (N := some 28) (v := undef) (a' := ?_) #[true, true, true, true, true, true, true, true, true, true, true, true, true, true, true, true, true, true, true, true, true, true, true, true, false, false] rfl rfl (any_of HT_.out (by kernel_rfl)) (fun _ _ _ h => h) (Or.inr ⟨by rfl, rfl⟩) ?_ ?_
      rotate_left
      · simp only [Act.put, List.setIfInBounds_toArray, List.set_cons_zero, List.set_cons_succ, i64_w, i32_w]
        rfl
      refine pure_ (i := 24) (N := some 29) (v := ?_) (a' := ?_) #[true, true, true, true, true, true, true, true, true, true, true, true, true, true, true, true, true, true, true, true, true, true, true, true, true, false] rfl rfl (any_of HT_.out (by kernel_rfl)) (fun _ _ _ h => h) (Or.inl ⟨by rfl, ?_⟩) ?_ ?_
      rotate_left
      · intro w'
        go_simp
        with_reducible rfl
      rotate_left
      · simp only [Act.put, List.setIfInBounds_toArray, List.set_cons_zero, List.set_cons_succ, i64_w, i32_w]
        rfl
      refine pure_ (i := 25) (N := some 4) (v := ?_) (a' := ?_) #[true, true, true, true, true, true, true, true, true, true, true, true, true, true, true, true, true, true, true, true, true, true, true, true, true, true] rfl rfl (any_of HT_.out (by kernel_rfl)) (fun _ _ _ h => h) (Or.inl ⟨by rfl, ?_⟩) ?_ ?_
      rotate_left
      · intro w'
        go_simp
        with_reducible rfl
      rotate_left
      · simp only [Act.put, List.setIfInBounds_toArray, List.set_cons_zero, List.set_cons_succ, i64_w, i32_w]
        rfl
      refine done_ (done_of HT_.out (by kernel_rfl)) ?_
      try go_wp2
      go_ret
      exact ⟨by first | rfl | (simp [errW_none, errW_some] <;> rfl) | (simp [*, errW_none, errW_some] <;> rfl), by repeat (first | (with_reducible first | exact HB.out | apply bA | apply bN | apply bD | refine below_set ?_ GE197.out) | exact HB.out)⟩
  · replace c4 := Bool.eq_false_iff.mpr c4
    subst c4
    have H1 : (some false) = some r := by rw [if_neg (show ¬ (false = true) by decide)] at H; exact H
    clear H
    have H := H1
    clear H1
    obtain rfl := Option.some.inj H
    go_enter Try.func21, Try.ntmps21
    try go_wp2_with (first | ((with_reducible refine gate_dst (N := 2) rfl ?_); (try (refine gate_guard (by rfl) ?_; dsimp only)); refine box_event ?hg (N := 2) ?hd (cs := #[.slice A0_0 l0_0.length c0_0]) (t := 24) ?hr ?_; (case hd => rfl); (case hg => rfl); (case hr => first | (go_simp; done) | (go_simp; rfl)); intro gb197 hg w21 hbox hb; have n0_ := aM (below_step (by repeat (first | (with_reducible first | exact HB.out | apply bA | apply bN | apply bD) | exact HB.out)) hb); have n1_ := aM (hbox); have n2_ := aM ((by rw [hg]; exact (below_size (by repeat (first | (with_reducible first | exact HB.out | apply bA | apply bN | apply bD) | exact HB.out))) : w.heap.size ≤ gb197)); have n3_ := aM ((by rw [hg]; exact (below_size (by repeat (first | (with_reducible first | exact HB.out | apply bA | apply bN | apply bD) | exact HB.out))) : w.heap.size ≤ gb197)); clear HB; have HB := n0_; have BK197 := n1_; have GW197 := n2_; have GE197 := n3_; clear n0_ n1_ n2_ n3_; clear hb hbox hg))
    have n0_ := aM (blk_drew BK197.out)
    have n1_ := aM (below_drew1 HB.out)
    clear BK197
    clear HB
    have BK197 := n0_
    have HB := n1_
    clear n0_ n1_
    refine start_ (n := 26) (S := fun w' => w'.cell? ⟨gb197, 0, none⟩ = some (.slice A0_0 l0_0.length c0_0)) (ds := []) #[false, false, false, false, false, false, false, false, false, false, false, false, false, false, false, false, false, false, false, false, false, false, false, false, false, false] (by kernel_rfl) rfl rfl ((blk_cell BK197.out 0).trans rfl) (fun hHeld => ?_); refine with_tabW lazycref09_Cyclic.tab1 lazycref09_Cyclic.bits1 (fun HT_ HW_ => ?_)
    generalize w21.drew = w22 at BK197 HB hHeld ⊢
    refine take_ (i := 0) (N := some 5) (v := ?_) (a' := ?_) #[true, false, false, false, false, false, false, false, false, false, false, false, false, false, false, false, false, false, false, false, false, false, false, false, false, false] rfl rfl (take_ofW HT_.out HW_.out (by kernel_rfl)) (fun _ _ _ h => h) (Or.inl ⟨by rfl, ?_⟩) hHeld ?_ ?_
    rotate_left
    · intro w' s0
      go_simp
      with_reducible rfl
    rotate_left
    · simp only [Act.put, List.setIfInBounds_toArray, List.set_cons_zero, List.set_cons_succ, i64_w, i32_w]
      rfl
    refine one_ (i := 1) (N := some 6) #[true, true, false, false, false, false, false, false, false, false, false, false, false, false, false, false, false, false, false, false, false, false, false, false, false, false] rfl rfl (one_of HT_.out (by kernel_rfl)) (by decide) (fun K hK => ?_)
    refine goes_ Try.func16 (by kernel_rfl) rfl #[.agg #[.slice A0_0 l0_0.length c0_0]] (by rfl) rfl rfl (by (try simp only [List.map_toArray, List.map_cons, List.map_nil]); first | done | rfl | (simp only [List.length_drop, List.length_take]; rfl)) ?_
    with_reducible refine (lazycref09_Valid.calls k _ _ l0_0 false _ ?side1 ?side2 A3.out).mono ?_
    (case side1 => repeat (first | exact (Kd.C_below HR0_0.out HB.out) | (with_reducible refine Kd.C_alloc ?_ _) | (with_reducible refine Kd.C_drewN ?_ _) | (with_reducible refine Kd.C_drew ?_)))
    (case side2 => exact HC0_0.out)
    rintro e w23 ⟨rfl, hb⟩
    refine ⟨_, rfl, ?_⟩
    have n0_ := aM (blk_below (g := gb197) (o := .cells #[.slice A0_0 l0_0.length c0_0] 24 (0, 0)) (by (with_reducible repeat (first | refine kN ?_ _ | refine kD ?_ | refine kA ?_ _)); exact BK197.out) hb)
    have n1_ := aM (below_step (by repeat (first | (with_reducible first | exact HB.out | apply bA | apply bN | apply bD | refine below_set ?_ GE197.out) | exact HB.out)) hb)
    clear BK197
    clear HB
    have BK197 := n0_
    have HB := n1_
    clear n0_ n1_
    (try clear hb)
    (try clear hb2)
    (try clear hk)
    (try clear hi)
    refine hK.out _ _ ((blk_cell BK197.out 0).trans rfl) (fun hHeld => ?_)
    clear hK K
    refine norm_ (a' := ?_) ?_ ?_
    rotate_left
    · show Act.put _ (some 6) _ = _
      simp only [Act.put, List.setIfInBounds_toArray, List.set_cons_zero, List.set_cons_succ, i64_w, i32_w]
      rfl
    refine pure_ (i := 2) (N := some 7) (v := ?_) (a' := ?_) #[true, true, true, false, false, false, false, false, false, false, false, false, false, false, false, false, false, false, false, false, false, false, false, false, false, false] rfl rfl (any_of HT_.out (by kernel_rfl)) (fun _ _ _ h => h) (Or.inl ⟨by rfl, ?_⟩) ?_ ?_
    rotate_left
    · intro w'
      go_simp
      with_reducible rfl
    rotate_left
    · simp only [Act.put, List.setIfInBounds_toArray, List.set_cons_zero, List.set_cons_succ, i64_w, i32_w]
      rfl
    refine pure_ (i := 3) (N := some 8) (v := undef) (a' := ?_) #[true, true, true, true, false, false, false, false, false, false, false, false, false, false, false, false, false, false, false, false, false, false, false, false, false, false] rfl rfl (any_of HT_.out (by kernel_rfl)) (fun _ _ _ h => h) (Or.inr ⟨by rfl, rfl⟩) ?_ ?_
    rotate_left
    · simp only [Act.put, List.setIfInBounds_toArray, List.set_cons_zero, List.set_cons_succ, i64_w, i32_w]
      rfl
    refine pure_ (i := 4) (N := some 9) (v := undef) (a' := ?_) #[true, true, true, true, true, false, false, false, false, false, false, false, false, false, false, false, false, false, false, false, false, false, false, false, false, false] rfl rfl (any_of HT_.out (by kernel_rfl)) (fun _ _ _ h => h) (Or.inr ⟨by rfl, rfl⟩) ?_ ?_
    rotate_left
    · simp only [Act.put, List.setIfInBounds_toArray, List.set_cons_zero, List.set_cons_succ, i64_w, i32_w]
      rfl
    refine pure_ (i := 5) (N := some 10) (v := ?_) (a' := ?_) #[true, true, true, true, true, true, false, false, false, false, false, false, false, false, false, false, false, false, false, false, false, false, false, false, false, false] rfl rfl (any_of HT_.out (by kernel_rfl)) (fun _ _ _ h => h) (Or.inl ⟨by rfl, ?_⟩) ?_ ?_
    rotate_left
    · intro w'
      go_simp
      with_reducible rfl
    rotate_left
    · simp only [Act.put, List.setIfInBounds_toArray, List.set_cons_zero, List.set_cons_succ, i64_w, i32_w]
      rfl
    refine pure_ (i := 6) (N := some 11) (v := ?_) (a' := ?_) #[true, true, true, true, true, true, true, false, false, false, false, false, false, false, false, false, false, false, false, false, false, false, false, false, false, false] rfl rfl (any_of HT_.out (by kernel_rfl)) (fun _ _ _ h => h) (Or.inl ⟨by rfl, ?_⟩) ?_ ?_
    rotate_left
    · intro w'
      go_simp
      with_reducible rfl
    rotate_left
    · simp only [Act.put, List.setIfInBounds_toArray, List.set_cons_zero, List.set_cons_succ, i64_w, i32_w]
      rfl
    refine pure_ (i := 7) (N := some 12) (v := undef) (a' := ?_) #[true, true, true, true, true, true, true, true, false, false, false, false, false, false, false, false, false, false, false, false, false, false, false, false, false, false] rfl rfl (any_of HT_.out (by kernel_rfl)) (fun _ _ _ h => h) (Or.inr ⟨by rfl, rfl⟩) ?_ ?_
    rotate_left
    · simp only [Act.put, List.setIfInBounds_toArray, List.set_cons_zero, List.set_cons_succ, i64_w, i32_w]
      rfl
    refine pure_ (i := 8) (N := some 13) (v := undef) (a' := ?_) #[true, true, true, true, true, true, true, true, true, false, false, false, false, false, false, false, false, false, false, false, false, false, false, false, false, false] rfl rfl (any_of HT_.out (by kernel_rfl)) (fun _ _ _ h => h) (Or.inr ⟨by rfl, rfl⟩) ?_ ?_
    rotate_left
    · simp only [Act.put, List.setIfInBounds_toArray, List.set_cons_zero, List.set_cons_succ, i64_w, i32_w]
      rfl
    refine pure_ (i := 9) (N := some 14) (v := undef) (a' := ?_) #[true, true, true, true, true, true, true, true, true, true, false, false, false, false, false, false, false, false, false, false, false, false, false, false, false, false] rfl rfl (any_of HT_.out (by kernel_rfl)) (fun _ _ _ h => h) (Or.inr ⟨by rfl, rfl⟩) ?_ ?_
    rotate_left
    · simp only [Act.put, List.setIfInBounds_toArray, List.set_cons_zero, List.set_cons_succ, i64_w, i32_w]
      rfl
    refine pure_ (i := 10) (N := some 15) (v := undef) (a' := ?_) #[true, true, true, true, true, true, true, true, true, true, true, false, false, false, false, false, false, false, false, false, false, false, false, false, false, false] rfl rfl (any_of HT_.out (by kernel_rfl)) (fun _ _ _ h => h) (Or.inr ⟨by rfl, rfl⟩) ?_ ?_
    rotate_left
    · simp only [Act.put, List.setIfInBounds_toArray, List.set_cons_zero, List.set_cons_succ, i64_w, i32_w]
      rfl
    refine pure_ (i := 11) (N := some 16) (v := undef) (a' := ?_) #[true, true, true, true, true, true, true, true, true, true, true, true, false, false, false, false, false, false, false, false, false, false, false, false, false, false] rfl rfl (any_of HT_.out (by kernel_rfl)) (fun _ _ _ h => h) (Or.inr ⟨by rfl, rfl⟩) ?_ ?_
    rotate_left
    · simp only [Act.put, List.setIfInBounds_toArray, List.set_cons_zero, List.set_cons_succ, i64_w, i32_w]
      rfl
    refine pure_ (i := 12) (N := some 17) (v := ?_) (a' := ?_) #[true, true, true, true, true, true, true, true, true, true, true, true, true, false, false, false, false, false, false, false, false, false, false, false, false, false] rfl rfl (any_of HT_.out (by kernel_rfl)) (fun _ _ _ h => h) (Or.inl ⟨by rfl, ?_⟩) ?_ ?_
    rotate_left
    · intro w'
      go_simp
      with_reducible rfl
    rotate_left
    · simp only [Act.put, List.setIfInBounds_toArray, List.set_cons_zero, List.set_cons_succ, i64_w, i32_w]
      rfl
    refine pure_ (i := 13) (N := some 18) (v := ?_) (a' := ?_) #[true, true, true, true, true, true, true, true, true, true, true, true, true, true, false, false, false, false, false, false, false, false, false, false, false, false] rfl rfl (any_of HT_.out (by kernel_rfl)) (fun _ _ _ h => h) (Or.inl ⟨by rfl, ?_⟩) ?_ ?_
    rotate_left
    · intro w'
      go_simp
      with_reducible rfl
    rotate_left
    · simp only [Act.put, List.setIfInBounds_toArray, List.set_cons_zero, List.set_cons_succ, i64_w, i32_w]
      rfl
    refine pure_ (i := 14) (N := some 19) (v := undef) (a' := ?_) #[true, true, true, true, true, true, true, true, true, true, true, true, true, true, true, false, false, false, false, false, false, false, false, false, false, false] rfl rfl (any_of HT_.out (by kernel_rfl)) (fun _ _ _ h => h) (Or.inr ⟨by rfl, rfl⟩) ?_ ?_
    rotate_left
    · simp only [Act.put, List.setIfInBounds_toArray, List.set_cons_zero, List.set_cons_succ, i64_w, i32_w]
      rfl
    refine pure_ (i := 15) (N := some 20) (v := undef) (a' := ?_) #[true, true, true, true, true, true, true, true, true, true, true, true, true, true, true, true, false, false, false, false, false, false, false, false, false, false] rfl rfl (any_of HT_.out (by kernel_rfl)) (fun _ _ _ h => h) (Or.inr ⟨by rfl, rfl⟩) ?_ ?_
    rotate_left
    · simp only [Act.put, List.setIfInBounds_toArray, List.set_cons_zero, List.set_cons_succ, i64_w, i32_w]
      rfl
    refine pure_ (i := 16) (N := some 21) (v := undef) (a' := ?_) #[true, true, true, true, true, true, true, true, true, true, true, true, true, true, true, true, true, false, false, false, false, false, false, false, false, false] rfl rfl (any_of HT_.out (by kernel_rfl)) (fun _ _ _ h => h) (Or.inr ⟨by rfl, rfl⟩) ?_ ?_
    rotate_left
    · simp only [Act.put, List.setIfInBounds_toArray, List.set_cons_zero, List.set_cons_succ, i64_w, i32_w]
      rfl
    refine pure_ (i := 17) (N := some 22) (v := undef) (a' := ?_) #[true, true, true, true, true, true, true, true, true, true, true, true, true, true, true, true, true, true, false, false, false, false, false, false, false, false] rfl rfl (any_of HT_.out (by kernel_rfl)) (fun _ _ _ h => h) (Or.inr ⟨by rfl, rfl⟩) ?_ ?_
    rotate_left
    · simp only [Act.put, List.setIfInBounds_toArray, List.set_cons_zero, List.set_cons_succ, i64_w, i32_w]
      rfl
    refine pure_ (i := 18) (N := some 23) (v := undef) (a' := ?_) #[true, true, true, true, true, true, true, true, true, true, true, true, true, true, true, true, true, true, true, false, false, false, false, false, false, false] rfl rfl (any_of HT_.out (by kernel_rfl)) (fun _ _ _ h => h) (Or.inr ⟨by rfl, rfl⟩) ?_ ?_
    rotate_left
    · simp only [Act.put, List.setIfInBounds_toArray, List.set_cons_zero, List.set_cons_succ, i64_w, i32_w]
      rfl
    refine pure_ (i := 19) (N := some 24) (v := undef) (a' := ?_) #[true, true, true, true, true, true, true, true, true, true, true, true, true, true, true, true, true, true, true, true, false, false, false, false, false, false] rfl rfl (any_of HT_.out (by kernel_rfl)) (fun _ _ _ h => h) (Or.inr ⟨by rfl, rfl⟩) ?_ ?_
    rotate_left
    · simp only [Act.put, List.setIfInBounds_toArray, List.set_cons_zero, List.set_cons_succ, i64_w, i32_w]
      rfl
    refine pure_ (i := 20) (N := some 25) (v := undef) (a' := ?_) #[true, true, true, true, true, true, true, true, true, true, true, true, true, true, true, true, true, true, true, true, true, false, false, false, false, false] rfl rfl (any_of HT_.out (by kernel_rfl)) (fun _ _ _ h => h) (Or.inr ⟨by rfl, rfl⟩) ?_ ?_
    rotate_left
    · simp only [Act.put, List.setIfInBounds_toArray, List.set_cons_zero, List.set_cons_succ, i64_w, i32_w]
      rfl
    refine pure_ (i := 21) (N := some 26) (v := undef) (a' := ?_) #[true, true, true, true, true, true, true, true, true, true, true, true, true, true, true, true, true, true, true, true, true, true, false, false, false, false] rfl rfl (any_of HT_.out (by kernel_rfl)) (fun _ _ _ h => h) (Or.inr ⟨by rfl, rfl⟩) ?_ ?_
    rotate_left
    · simp only [Act.put, List.setIfInBounds_toArray, List.set_cons_zero, List.set_cons_succ, i64_w, i32_w]
      rfl
    refine pure_ (i := 22) (N := some 27) (v := undef) (a' := ?_) #[true, true, true, true, true, true, true, true, true, true, true, true, true, true, true, true, true, true, true, true, true, true, true, false, false, false] rfl rfl (any_of HT_.out (by kernel_rfl)) (fun _ _ _ h => h) (Or.inr ⟨by rfl, rfl⟩) ?_ ?_
    rotate_left
    · simp only [Act.put, List.setIfInBounds_toArray, List.set_cons_zero, List.set_cons_succ, i64_w, i32_w]
      rfl
    refine pure_ (i := 23) (N := some 28) (v := undef) (a' := ?_) #[true, true, true, true, true, true, true, true, true, true, true, true, true, true, true, true, true, true, true, true, true, true, true, true, false, false] rfl rfl (any_of HT_.out (by kernel_rfl)) (fun _ _ _ h => h) (Or.inr ⟨by rfl, rfl⟩) ?_ ?_
    rotate_left
    · simp only [Act.put, List.setIfInBounds_toArray, List.set_cons_zero, List.set_cons_succ, i64_w, i32_w]
      rfl
    refine pure_ (i := 24) (N := some 29) (v := ?_) (a' := ?_) #[true, true, true, true, true, true, true, true, true, true, true, true, true, true, true, true, true, true, true, true, true, true, true, true, true, false] rfl rfl (any_of HT_.out (by kernel_rfl)) (fun _ _ _ h => h) (Or.inl ⟨by rfl, ?_⟩) ?_ ?_
    rotate_left
    · intro w'
      go_simp
      with_reducible rfl
    rotate_left
    · simp only [Act.put, List.setIfInBounds_toArray, List.set_cons_zero, List.set_cons_succ, i64_w, i32_w]
      rfl
    refine pure_ (i := 25) (N := some 4) (v := ?_) (a' := ?_) #[true, true, true, true, true, true, true, true, true, true, true, true, true, true, true, true, true, true, true, true, true, true, true, true, true, true] rfl rfl (any_of HT_.out (by kernel_rfl)) (fun _ _ _ h => h) (Or.inl ⟨by rfl, ?_⟩) ?_ ?_
    rotate_left
    · intro w'
      go_simp
      with_reducible rfl
    rotate_left
    · simp only [Act.put, List.setIfInBounds_toArray, List.set_cons_zero, List.set_cons_succ, i64_w, i32_w]
      rfl
    refine done_ (done_of HT_.out (by kernel_rfl)) ?_
    try go_wp2
    go_ret
    exact ⟨by first | rfl | (simp [errW_none, errW_some] <;> rfl) | (simp [*, errW_none, errW_some] <;> rfl), by repeat (first | (with_reducible first | exact HB.out | apply bA | apply bN | apply bD | refine below_set ?_ GE197.out) | exact HB.out)⟩

end Go.Proofs.Ytpmjpngmmphkmaa.P
/- Levels of the reference: what the call does, by its Lean function; in the form in which printed texts call it. -/
namespace Go.Proofs.Ytpmjpngmmphkmaa
open Go.RowKit Go.Proofs.YtpmjpngmmphkmaaW.PrintWords Go.Proofs.YtpmjpngmmphkmaaW.PrintLast Go.Proofs.YtpmjpngmmphkmaaW.PrintMore Go.Proofs.Ytpmjpngmmphkmaa.P
namespace Rl
set_option linter.unusedVariables false
set_option linter.unusedSimpArgs false
open Tj Rw Od Lv Lo

/-- Is a node on a cycle? -/
noncomputable def anyc : Nat → List (List Int) → Int → Option Bool
  | 0, _, _ => none
  | k + 1, es, i =>
    if i < es.length then (lazycref09_Cyclic.f k es i).bind fun b => if b = true then some true else anyc k es (i + 1)
    else some false
/-- Empty rows are put behind, until there is a row d. -/
def ext : Nat → Int → List (List Int) → Option (List (List Int))
  | 0, _, _ => none
  | k + 1, d, out => if (out.length : Int) ≤ d then (if out.length < 5864062014805 then ext k d (out ++ [[]]) else none) else some out
/-- The nodes by their levels. -/
def put : Nat → List Int → Int → List (List Int) → Option (List (List Int))
  | 0, _, _, _ => none
  | k + 1, lv, i, out =>
    if i < lv.length then
      (ext k (rd lv i) out).bind fun out1 => if 0 ≤ rd lv i ∧ rd lv i < out1.length ∧ (row out1 (rd lv i)).length < 17592186044415 then put k lv (i + 1) (app out1 (rd lv i) i) else none
    else some out
noncomputable def reflevelsF (k : Nat) (es : List (List Int)) : Option (List (List Int) × Int) :=
  (lazycref09_Valid.f k es).bind fun b =>
    if b = true then
      (anyc k es 0).bind fun cy => if cy = true then some ([], 18) else (lazycref09_longest.f es).bind fun lv => (put k lv 0 []).map fun out => (out, 0)
    else some ([], 1)

set_option maxRecDepth 100000 in
set_option maxHeartbeats 4000000 in
theorem reflevels_calls (k : Nat) (A : Option Addr) (c : Nat) (es : List (List Int)) (r1 : List (List Int)) (r2 : Int) (w : World) (hr : Kd.C KS w A es.length es) (hc : es.length ≤ c) (h : reflevelsF k es = some (r1, r2)) :
    Calls Try.prog 15 #[.agg #[.slice A es.length c]] w fun e w' => ∃ v, e = .returned (.tuple #[v, .int .i64 r2]) ∧ Kd.S KS 32 w' w.heap.size (fun _ => True) v r1 ∧ Below w.heap.size w w' := by
  have hu24 := Try.underlying24
  unfold reflevelsF at h
  obtain ⟨b, hb, h⟩ := Option.bind_eq_some_iff.1 h
  have HR := Aside0.mk hr
  have HC := Aside0.mk hc
  clear hr hc
  cases b with
  | false =>
    have HVA := Aside0.mk hb
    rw [if_neg (by decide)] at h
    obtain ⟨rfl, rfl⟩ := Prod.mk.inj (Option.some.inj h)
    clear hb h
    go_enter Try.func15, Try.ntmps15
    go_wp2_with (first | ((with_reducible refine gate_dst (N := 1) rfl ?_); refine box_event ?hg (N := 1) ?hd (cs := #[.slice A es.length c]) (t := 24) ?hr ?_; (case hd => rfl); (case hg => rfl); (case hr => first | (go_simp; done) | (go_simp; rfl)); intro gb hg w5 hbox hb; have B5 := Aside0.mk (below_step (Below.refl w.heap.size w) hb); have K5 := Aside0.mk hbox; have GE : Aside0 (w.heap.size ≤ gb) := Aside0.mk (by rw [hg]; exact Nat.le_refl _); have hcz : w5.cell? ⟨gb, 0, none⟩ = some (.slice A es.length c) := (blk_cell K5.out 0).trans rfl; clear hb hbox hg) | (go_at_call 16; refine (lazycref09_Valid.calls k A c es false _ (Kd.C_below HR.out B5.out) HC.out HVA.out).mono ?_; rintro e w7 ⟨rfl, hb7⟩; have B7 := Aside0.mk (below_step B5.out hb7); clear hb7 hcz B5 K5) | fail)
    go_ret2
    exact ⟨_, rfl, Kd.S_nil _ _ _ _ _, B7.out⟩
  | true =>
    have HVA := Aside0.mk hb
    rw [if_pos rfl] at h
    obtain ⟨cy, hcy, h⟩ := Option.bind_eq_some_iff.1 h
    have HCY := Aside0.mk hcy
    have HH := Aside0.mk h
    clear hb h hcy
    go_enter Try.func15, Try.ntmps15
    go_upto_region 3 with (first | ((with_reducible refine gate_dst (N := 1) rfl ?_); refine box_event ?hg (N := 1) ?hd (cs := #[.slice A es.length c]) (t := 24) ?hr ?_; (case hd => rfl); (case hg => rfl); (case hr => first | (go_simp; done) | (go_simp; rfl)); intro gb hg w5 hbox hb; have B5 := Aside0.mk (below_step (Below.refl w.heap.size w) hb); have K5 := Aside0.mk hbox; have GE : Aside0 (w.heap.size ≤ gb) := Aside0.mk (by rw [hg]; exact Nat.le_refl _); have hcz : w5.cell? ⟨gb, 0, none⟩ = some (.slice A es.length c) := (blk_cell K5.out 0).trans rfl; clear hb hbox hg) | (go_at_call 16; refine (lazycref09_Valid.calls k A c es true _ (Kd.C_below HR.out B5.out) HC.out HVA.out).mono ?_; rintro e w7 ⟨rfl, hb7⟩; have B7 := Aside0.mk (below_step B5.out hb7); have K7 := Aside0.mk (blk_below K5.out hb7); clear hb7 hcz B5 K5) | fail)
    have hel := HR.out.2.1
    go_wp2_with fail
    go_loopg [4] k (fun kq v4 w' => ∃ (i : Int), v4 = .int .i64 i ∧ Aside0 (0 ≤ i) ∧ Aside0 (anyc kq es i = some cy) ∧ Aside0 (kq ≤ k) ∧ Aside0 (Below w.heap.size w w') ∧ Aside0 (w'.heap[gb]? = some (.cells #[.slice A es.length c] 24 (0, 0))))
    case atStart => exact ⟨0, rfl, ⟨by omega⟩, HCY, ⟨Nat.le_refl _⟩, B7, K7⟩
    case round => as_aux_lemma =>
      clear HCY B7 K7
      obtain ⟨i, rfl, HI, HA, HK1, B3, K3⟩ := hrel
      cases gk with
      | zero => exact absurd HA.out (by simp [anyc])
      | succ k1 =>
        have H := HA.out
        clear HA
        rw [anyc] at H
        have hcz : wr.cell? ⟨gb, 0, none⟩ = some (.slice A es.length c) := (blk_cell K3.out 0).trans rfl
        by_cases ci : i < es.length
        · as_aux_lemma =>
          rw [if_pos ci] at H
          obtain ⟨b, hcb, H⟩ := Option.bind_eq_some_iff.1 H
          have HCB := Aside0.mk hcb
          have cb : decide (i < (es.length : Int)) = true := decide_eq_true ci
          have hi0 := HI.out
          have H' := Aside0.mk H
          clear H hcb
          cases b with
          | true =>
            have H := H'.out
            clear H'
            rw [if_pos rfl] at H
            obtain rfl := Option.some.inj H
            have HH1 := HH.out
            rw [if_pos rfl] at HH1
            obtain ⟨rfl, rfl⟩ := Prod.mk.inj (Option.some.inj HH1)
            clear H HH HH1
            go_wp2_with (go_at_call 21; refine (lazycref09_Cyclic.calls k1 A c es i true _ (Kd.C_below HR.out B3.out) HC.out HCB.out).mono ?_; rintro e w9 ⟨rfl, hb9⟩; have B9 := Aside0.mk (below_step B3.out hb9); clear hb9 hcz B3 K3)
            go_ret2
            exact ⟨_, rfl, Kd.S_nil _ _ _ _ _, B9.out⟩
          | false =>
            have H := H'.out
            clear H'
            rw [if_neg (by decide)] at H
            have H' := Aside0.mk H
            clear H
            go_wp2_with (go_at_call 21; refine (lazycref09_Cyclic.calls k1 A c es i false _ (Kd.C_below HR.out B3.out) HC.out HCB.out).mono ?_; rintro e w9 ⟨rfl, hb9⟩; have B9 := Aside0.mk (below_step B3.out hb9); have K9 := Aside0.mk (blk_below K3.out hb9); clear hb9 hcz B3 K3)
            go_roundg k1
            case measure => omega
            case rel => exact ⟨i + 1, rfl, ⟨by have := HI.out; omega⟩, H', ⟨by have := HK1.out; omega⟩, B9, K9⟩
        · as_aux_lemma =>
          rw [if_neg ci] at H
          obtain rfl := Option.some.inj H
          have cb : decide (i < (es.length : Int)) = false := decide_eq_false ci
          have HH1 := HH.out
          rw [if_neg (by decide)] at HH1
          obtain ⟨lv, hlv, HH2⟩ := Option.bind_eq_some_iff.1 HH1
          obtain ⟨out0, h3, h4⟩ := Option.map_eq_some_iff.1 HH2
          obtain ⟨rfl, rfl⟩ := Prod.mk.inj h4
          have HLV := Aside0.mk hlv
          have H3 := Aside0.mk h3
          clear HH HH1 HH2 h3 h4 hlv H
          go_upto_region 9 with ((with_reducible refine gate_dst (N := 21) rfl ?_); refine Kd.S_lits KS _ 32 ?hg (N := 21) ?hd (xs := ([] : List (List Int))) (inner := []) (ok := fun _ => True) (fun _ _ => False) ?hr rfl ?hp (fun _ _ _ h => h.elim) (fun _ _ h => h.elim) trivial (Below.refl _ _) (Nat.le_refl _) (by simp) ?_; (case hd => rfl); (case hg => rfl); (case hr => first | (go_simp; done) | (go_simp; rfl)); (case hp => intro j x h; simp at h); intro v1 w1 ho hb _ _; have S6 := Aside0.mk (Kd.S_lower ho B3.out.size); have B6 := Aside0.mk (below_step B3.out hb); have K6 := Aside0.mk (blk_below K3.out hb); clear ho hb hcz B3 K3)
          obtain ⟨Ao, co, rfl⟩ := Kd.S_slice S6.out
          have hcz : w1.cell? ⟨gb, 0, none⟩ = some (.slice A es.length c) := (blk_cell K6.out 0).trans rfl
          have HG1 : Aside0 (w.heap.size ≤ w1.heap.size) := ⟨B6.out.size⟩
          go_upto_region 10 with (go_at_call 32; refine (lazycref09_longest.calls A c es lv _ (Kd.C_below HR.out B6.out) HC.out HLV.out).mono ?_; rintro e w2 ⟨vl, rfl, hl, hb2⟩; obtain ⟨Al, cl, rfl⟩ := Kd.R_slice hl; have F7 := Aside0.mk (Kd.F_mono (Kd.R_F (Kd.R_bound hl)) (ok' := fun k => w1.heap.size ≤ k ∧ k < w2.heap.size) (fun k hk => ⟨hk.2.1, hk.2.2.1⟩)); have S7 := Aside0.mk (Kd.S_mono (Kd.S_below (Kd.S_bound S6.out) hb2) (ok' := fun k => k < w1.heap.size ∨ w2.heap.size ≤ k) (fun k hk => .inl hk.2.2.1)); have B7 := Aside0.mk (below_step B6.out hb2); have HG2 : Aside0 (w1.heap.size ≤ w2.heap.size) := ⟨hb2.size⟩; clear hl hb2 hcz S6 B6 K6)
          have Z7 : Aside0 (w2.heap.size ≤ w2.heap.size) := ⟨Nat.le_refl _⟩
          have HLE : Aside0 (lv.length ≤ 9223372036854775807) := ⟨Kd.F_max F7.out⟩
          have hlvl := HLE.out
          clear cb ci
          generalize hgm : w1.heap.size = gm at F7 S7 HG1 HG2
          generalize hgn : w2.heap.size = gn at F7 S7 HG2 Z7
          have Z8 : Aside0 (gn ≤ w2.heap.size) := ⟨by omega⟩
          have GN : Aside0 (gm ≤ gn) := HG2
          clear hgm hgn Z7
          go_wp2_with fail
          go_loopg [5, 7] k (fun kq v5 v7 w' => ∃ (i : Int) (out : List (List Int)), v7 = .int .i64 i ∧ Aside0 (0 ≤ i) ∧ Aside0 (put kq lv i out = some out0) ∧ Aside0 (kq ≤ k) ∧ Aside0 (Below w.heap.size w w') ∧ Aside0 (Kd.F (Kd.int .i64) w' (fun k => gm ≤ k ∧ k < gn) Al lv.length lv) ∧ Aside0 (gn ≤ w'.heap.size) ∧ Aside0 (Kd.S KS 32 w' w.heap.size (fun k => k < gm ∨ gn ≤ k) v5 out))
          case atStart => exact ⟨0, _, rfl, ⟨by omega⟩, H3, ⟨Nat.le_refl _⟩, B7, F7, Z8, S7⟩
          case round => as_aux_lemma =>
            clear H3 B7 F7 Z8 S7
            obtain ⟨i, out, rfl, HI, HA, HK1, B3, F3, Z3, S3⟩ := hrel
            obtain ⟨W3, rfl⟩ : ∃ W3 : World, W3 = wr := ⟨_, rfl⟩
            obtain ⟨Ao, co, rfl⟩ := Kd.S_slice S3.out
            cases gk with
            | zero => exact absurd HA.out (by simp [put])
            | succ k1 =>
              have H := HA.out
              clear HA
              rw [put] at H
              by_cases ci : i < lv.length
              · as_aux_lemma =>
                rw [if_pos ci] at H
                obtain ⟨out1, he, H⟩ := Option.bind_eq_some_iff.1 H
                have HE := Aside0.mk he
                by_cases cd : 0 ≤ rd lv i ∧ rd lv i < out1.length ∧ (row out1 (rd lv i)).length < 17592186044415
                case neg => rw [if_neg cd] at H; cases H
                rw [if_pos cd] at H
                have H' := Aside0.mk H
                have cb : decide (i < (lv.length : Int)) = true := decide_eq_true ci
                have hi0 := HI.out
                have q0 := eq_true hi0
                have q1 := eq_true ci
                obtain ⟨adl, el, hx⟩ := Kd.at_int (Kd.F_now F3.out) i HI.out ci
                subst el
                clear hx H he
                obtain ⟨d, hd⟩ : ∃ d, d = rd lv i := ⟨_, rfl⟩
                have RD : Aside0 (rd lv i = d) := ⟨hd.symm⟩
                rw [← hd] at HE cd H'
                clear hd
                obtain ⟨cd0, cd1, cd2⟩ := cd
                have RL : Aside0 ((row out1 d).length < 17592186044415) := ⟨cd2⟩
                have CD := Aside0.mk (And.intro cd0 cd1)
                clear cd0 cd1 cd2
                go_upto_region 13 with fail
                go_loopg [5] k1 (fun kq v5 w' => ∃ (outx : List (List Int)), Aside0 (ext kq d outx = some out1) ∧ Aside0 (kq ≤ k1) ∧ Aside0 (Below w.heap.size w w') ∧ Aside0 (Kd.F (Kd.int .i64) w' (fun k => gm ≤ k ∧ k < gn) (some adl) lv.length lv) ∧ Aside0 (gn ≤ w'.heap.size) ∧ Aside0 (Kd.S KS 32 w' w.heap.size (fun k => k < gm ∨ gn ≤ k) v5 outx))
                case atStart => exact ⟨_, HE, ⟨Nat.le_refl _⟩, B3, F3, Z3, S3⟩
                case round => as_aux_lemma =>
                  clear HE B3 F3 Z3 S3
                  obtain ⟨outx, HA, HK2, B4, F4, Z4, S4⟩ := hrel
                  obtain ⟨W5, rfl⟩ : ∃ W5 : World, W5 = wr := ⟨_, rfl⟩
                  obtain ⟨Ax, cx, rfl⟩ := Kd.S_slice S4.out
                  obtain ⟨ad4, e4, hx4⟩ := Kd.at_int (Kd.F_now F4.out) i HI.out ci
                  obtain rfl := Option.some.inj e4
                  rw [RD.out] at hx4
                  clear e4
                  cases gk with
                  | zero => exact absurd HA.out (by simp [ext])
                  | succ k2 =>
                    have H := HA.out
                    clear HA
                    rw [ext] at H
                    by_cases ce : (outx.length : Int) ≤ d
                    · as_aux_lemma =>
                      rw [if_pos ce] at H
                      by_cases cl2 : outx.length < 5864062014805
                      case neg => rw [if_neg cl2] at H; cases H
                      rw [if_pos cl2] at H
                      have H'' := Aside0.mk H
                      have CL := Aside0.mk cl2
                      have ceb : decide ((outx.length : Int) ≤ d) = true := decide_eq_true ce
                      have SB := Aside0.mk (Kd.S_mono (ok' := fun k => (k < gm ∨ gn ≤ k) ∧ ¬ False) S4.out (fun k hk => ⟨hk, fun h => h⟩))
                      clear H cl2
                      go_wp2_with ((with_reducible refine gate_builtin (b := .append) (xs := #[.tmp 37, .tmp 38]) rfl ?_); at_builtin; refine Kd.S_append KS (w0 := w) w.heap.size rfl (.tmp 37) (.tmp 38) 22 32 (.slice none 0 0) 24 rfl Try.underlying22 info32 rfl Nat.zero_lt_one (by omega) (.slice Ax outx.length cx) outx [] [.slice none 0 0] (fun k => k < gm ∨ gn ≤ k) (fun _ => False) rfl rfl ⟨.slice none 0 0, rfl, Kd.R_nil _ _ _ _ _⟩ (fun _ hk => hk.elim) (fun k hk => .inr (Nat.le_trans Z4.out hk)) SB.out B4.out B4.out.size ?hl ?_)
                      (case hl => have := CL.out; omega)
                      intro v1 w9 ho hb hg hat
                      obtain ⟨A9, q9c, rfl⟩ := Kd.S_slice ho
                      have hown := (Kd.S_R S4.out).1
                      have F9 := Aside0.mk (Kd.F_grown F4.out hg (fun k hk e => by have := hown k e.symm; omega))
                      have Z9 : Aside0 (gn ≤ w9.heap.size) := ⟨Nat.le_trans Z4.out hg.size⟩
                      have S9 := Aside0.mk ho
                      have B9 := Aside0.mk hb
                      clear ho hb hg hat hown B4 F4 Z4 S4 SB hx4
                      have e9 : (outx ++ [([] : List Int)]).length = outx.length + 1 := by simp
                      rw [e9] at S9 ⊢
                      clear e9
                      go_wp2_with fail
                      go_roundg k2
                      case measure => omega
                      case rel => exact ⟨_, H'', ⟨by have := HK2.out; omega⟩, B9, F9, Z9, S9⟩
                    · as_aux_lemma =>
                      rw [if_neg ce] at H
                      obtain rfl := Option.some.inj H
                      have ceb : decide ((outx.length : Int) ≤ d) = false := decide_eq_false ce
                      clear H
                      obtain ⟨go, cap, e5, hgo1, hgo2, _⟩ := Kd.S_form S4.out (by have := CD.out; omega)
                      obtain ⟨rfl, -, rfl⟩ : Ax = some ⟨go, 0, none⟩ ∧ outx.length = outx.length ∧ cx = cap := by
                        injection e5 with e6 e7 e8
                        exact ⟨e6, rfl, e8⟩
                      have GO := Aside0.mk hgo2
                      have GB := Aside0.mk hgo1
                      have hog := (Kd.S_R S4.out).1 go (by simp [Value.ownBlock])
                      have GNG : Aside0 (go < gm ∨ gn ≤ go) := ⟨hog⟩
                      clear e5 hgo1 hgo2 hog
                      go_upto_region 15 with fail
                      clear ceb ce
                      have hH0 := True.intro
                      obtain ⟨v0, oki, u1, u2, u3, u4, u5⟩ := S_upd S4.out (fun k hk => .inr (Nat.le_trans Z4.out hk)) d CD.out.1 CD.out.2
                      have U2 := Aside0.mk u2
                      have U3 := Aside0.mk u3
                      have U4 := Aside0.mk u4
                      have U5 := Aside0.mk (@u5)
                      have q3 := eq_true CD.out.1
                      have q4 := eq_true CD.out.2
                      clear u2 u3 u4 u5
                      refine start_ (n := 17) (S := fun w' => w'.cell? (adl.add i.toNat) = some (.int .i64 d) ∧ w'.cell? ⟨go, d.toNat, none⟩ = some v0) (ds := [16]) #[false, false, false, false, false, false, false, false, false, false, false, false, false, false, false, false, false] (by kernel_rfl) rfl rfl ⟨hx4, u1⟩ (fun hHeld => ?_)
                      generalize hwd : W5.drew = wd at hHeld ⊢
                      refine pure_ (i := 0) (N := some 40) (v := ?_) (a' := ?_) #[true, false, false, false, false, false, false, false, false, false, false, false, false, false, false, false, false] rfl rfl (by kernel_rfl) (fun _ _ _ h => h) (Or.inl ⟨by rfl, ?_⟩) ?_ ?_
                      rotate_left
                      · intro w'
                        go_simp
                        with_reducible rfl
                      rotate_left
                      · simp only [Act.put, List.setIfInBounds_toArray, List.set_cons_zero, List.set_cons_succ, i64_w, i32_w]
                        rfl
                      refine pure_ (i := 1) (N := some 41) (v := ?_) (a' := ?_) #[true, true, false, false, false, false, false, false, false, false, false, false, false, false, false, false, false] rfl rfl (by kernel_rfl) (fun _ _ _ h => h) (Or.inl ⟨by rfl, ?_⟩) ?_ ?_
                      rotate_left
                      · intro w'
                        go_simp
                        with_reducible rfl
                      rotate_left
                      · simp only [Act.put, List.setIfInBounds_toArray, List.set_cons_zero, List.set_cons_succ, i64_w, i32_w]
                        rfl
                      refine pure_ (i := 2) (N := some 42) (v := ?_) (a' := ?_) #[true, true, true, false, false, false, false, false, false, false, false, false, false, false, false, false, false] rfl rfl (by kernel_rfl) (fun _ _ _ h => h) (Or.inl ⟨by rfl, ?_⟩) ?_ ?_
                      rotate_left
                      · intro w'
                        go_simp
                        with_reducible rfl
                      rotate_left
                      · simp only [Act.put, List.setIfInBounds_toArray, List.set_cons_zero, List.set_cons_succ, i64_w, i32_w]
                        rfl
                      refine pure_ (i := 3) (N := some 43) (v := ?_) (a' := ?_) #[true, true, true, true, false, false, false, false, false, false, false, false, false, false, false, false, false] rfl rfl (by kernel_rfl) (fun _ _ _ h => h) (Or.inl ⟨by rfl, ?_⟩) ?_ ?_
                      rotate_left
                      · intro w'
                        go_simp
                        with_reducible rfl
                      rotate_left
                      · simp only [Act.put, List.setIfInBounds_toArray, List.set_cons_zero, List.set_cons_succ, i64_w, i32_w]
                        rfl
                      refine pure_ (i := 5) (N := some 45) (v := ?_) (a' := ?_) #[true, true, true, true, false, true, false, false, false, false, false, false, false, false, false, false, false] rfl rfl (by kernel_rfl) (fun _ _ _ h => h) (Or.inl ⟨by rfl, ?_⟩) ?_ ?_
                      rotate_left
                      · intro w'
                        go_simp
                        with_reducible rfl
                      rotate_left
                      · simp only [Act.put, List.setIfInBounds_toArray, List.set_cons_zero, List.set_cons_succ, i64_w, i32_w]
                        rfl
                      refine pure_ (i := 6) (N := some 46) (v := ?_) (a' := ?_) #[true, true, true, true, false, true, true, false, false, false, false, false, false, false, false, false, false] rfl rfl (by kernel_rfl) (fun _ _ _ h => h) (Or.inl ⟨by rfl, ?_⟩) ?_ ?_
                      rotate_left
                      · intro w'
                        go_simp
                        with_reducible rfl
                      rotate_left
                      · simp only [Act.put, List.setIfInBounds_toArray, List.set_cons_zero, List.set_cons_succ, i64_w, i32_w]
                        rfl
                      refine pure_ (i := 7) (N := some 47) (v := ?_) (a' := ?_) #[true, true, true, true, false, true, true, true, false, false, false, false, false, false, false, false, false] rfl rfl (by kernel_rfl) (fun _ _ _ h => h) (Or.inl ⟨by rfl, ?_⟩) ?_ ?_
                      rotate_left
                      · intro w'
                        go_simp
                        with_reducible rfl
                      rotate_left
                      · simp only [Act.put, List.setIfInBounds_toArray, List.set_cons_zero, List.set_cons_succ, i64_w, i32_w]
                        rfl
                      refine pure_ (i := 8) (N := some 48) (v := ?_) (a' := ?_) #[true, true, true, true, false, true, true, true, true, false, false, false, false, false, false, false, false] rfl rfl (by kernel_rfl) (fun _ _ _ h => h) (Or.inl ⟨by rfl, ?_⟩) ?_ ?_
                      rotate_left
                      · intro w'
                        go_simp
                        with_reducible rfl
                      rotate_left
                      · simp only [Act.put, List.setIfInBounds_toArray, List.set_cons_zero, List.set_cons_succ, i64_w, i32_w]
                        rfl
                      refine pure_ (i := 12) (N := some 52) (v := ?_) (a' := ?_) #[true, true, true, true, false, true, true, true, true, false, false, false, true, false, false, false, false] rfl rfl (by kernel_rfl) (fun _ _ _ h => h) (Or.inl ⟨by rfl, ?_⟩) ?_ ?_
                      rotate_left
                      · intro w'
                        go_simp
                        with_reducible rfl
                      rotate_left
                      · simp only [Act.put, List.setIfInBounds_toArray, List.set_cons_zero, List.set_cons_succ, i64_w, i32_w]
                        rfl
                      refine take_ (i := 4) (N := some 44) (v := ?_) (a' := ?_) #[true, true, true, true, true, true, true, true, true, false, false, false, true, false, false, false, false] rfl rfl (by kernel_rfl) (fun _ _ _ h => h) (Or.inl ⟨by rfl, ?_⟩) hHeld ?_ ?_
                      rotate_left
                      · rintro w' ⟨s0, s1⟩
                        go_simp
                        with_reducible rfl
                      rotate_left
                      · simp only [Act.put, List.setIfInBounds_toArray, List.set_cons_zero, List.set_cons_succ, i64_w, i32_w]
                        rfl
                      refine take_ (i := 9) (N := some 49) (v := ?_) (a' := ?_) #[true, true, true, true, true, true, true, true, true, true, false, false, true, false, false, false, false] rfl rfl (by kernel_rfl) (fun _ _ _ h => h) (Or.inl ⟨by rfl, ?_⟩) hHeld ?_ ?_
                      rotate_left
                      · rintro w' ⟨s0, s1⟩
                        go_simp
                        with_reducible rfl
                      rotate_left
                      · simp only [Act.put, List.setIfInBounds_toArray, List.set_cons_zero, List.set_cons_succ, i64_w, i32_w]
                        rfl
                      refine pure_ (i := 10) (N := some 50) (v := ?_) (a' := ?_) #[true, true, true, true, true, true, true, true, true, true, true, false, true, false, false, false, false] rfl rfl (by kernel_rfl) (fun _ _ _ h => h) (Or.inl ⟨by rfl, ?_⟩) ?_ ?_
                      rotate_left
                      · intro w'
                        go_simp
                        with_reducible rfl
                      rotate_left
                      · simp only [Act.put, List.setIfInBounds_toArray, List.set_cons_zero, List.set_cons_succ, i64_w, i32_w]
                        rfl
                      refine take_ (i := 11) (N := some 51) (v := ?_) (a' := ?_) #[true, true, true, true, true, true, true, true, true, true, true, true, true, false, false, false, false] rfl rfl (by kernel_rfl) (fun _ _ _ h => h) (Or.inl ⟨by rfl, ?_⟩) hHeld ?_ ?_
                      rotate_left
                      · rintro w' ⟨s0, s1⟩
                        go_simp
                        with_reducible rfl
                      rotate_left
                      · simp only [Act.put, List.setIfInBounds_toArray, List.set_cons_zero, List.set_cons_succ, i64_w, i32_w]
                        rfl
                      refine one_ (i := 13) (N := some 53) #[true, true, true, true, true, true, true, true, true, true, true, true, true, true, false, false, false] rfl rfl (by kernel_rfl) (by decide) (fun K hK => ?_)
                      refine event_step (w1 := wd.alloc (.cells #[.int .i64 i] 3)) (v := .slice (some ⟨wd.heap.size, 0, none⟩) 1 1) rfl (by go_simp; first | done | rfl) (hK.out _ _ ?_ (fun hHeld => ?_))
                      · exact ⟨((below_alloc (Below.refl _ _) _).cell (World.block_lt_of_cell? _ _ hHeld.1)).trans hHeld.1, ((below_alloc (Below.refl _ _) _).cell (World.block_lt_of_cell? _ _ hHeld.2)).trans hHeld.2⟩
                      refine norm_ (a' := ?_) ?_ ?_
                      rotate_left
                      · show Act.put _ (some 53) _ = _
                        simp only [Act.put, List.setIfInBounds_toArray, List.set_cons_zero, List.set_cons_succ, i64_w, i32_w]
                        rfl
                      have hsd : wd.heap.size = W5.heap.size := by rw [← hwd]; rfl
                      have hRd : Kd.R (Kd.int .i64) 3 wd w.heap.size (fun k => oki k ∨ W5.heap.size ≤ k) v0 (row outx d) := by rw [← hwd]; exact Kd.R_mono (Kd.R_drew U3.out) (fun k hk => .inl hk)
                      have hBd : Below w.heap.size w wd := by rw [← hwd]; exact below_drew B4.out
                      have hgmb : w.heap.size ≤ wd.heap.size := hBd.size
                      have hrl := RL.out
                      refine one_ (i := 14) (N := some 54) #[true, true, true, true, true, true, true, true, true, true, true, true, true, true, true, false, false] rfl rfl (by kernel_rfl) (by decide) (fun K hK => ?_)
                      refine Kd.R_append_step (Kd.int .i64) (w0 := w) w.heap.size rfl (.tmp 51) (.tmp 53) 32 3 (.int .i64 0) 8 rfl Try.underlying32 info3 rfl (by decide) (by omega) v0 (row outx d) i [.int .i64 i] (fun k => oki k ∨ W5.heap.size ≤ k) (fun _ => False) rfl rfl rfl (fun _ hk => hk.elim) (fun k hk => .inr (by omega)) hRd hBd hgmb (by omega) ?_
                      intro v1 w3 ho hb hg hat
                      obtain ⟨A1, q1c, rfl⟩ := Kd.R_slice ho
                      have hown : ∀ k, v0.ownBlock = some k → oki k := fun k hk => U3.out.1 k hk
                      have hgo : go < wd.heap.size := by rw [hsd]; exact GO.out
                      have hng : v0.ownBlock ≠ some go := fun e => (U4.out go (hown go e)).2 rfl
                      have w1c : wd.cell? (adl.add i.toNat) = some (.int .i64 d) := by rw [← hwd]; exact hx4
                      have w2c : wd.cell? ⟨go, d.toNat, none⟩ = some v0 := by rw [← hwd]; exact u1
                      have w2f : wd.frozen? ⟨go, d.toNat, none⟩ = false := by rw [← hwd]; exact U2.out
                      have hFd : Kd.F (Kd.int .i64) wd (fun k => gm ≤ k ∧ k < gn) (some adl) lv.length lv := by rw [← hwd]; exact Kd.F_drew F4.out
                      have hnl : ∀ k, gm ≤ k ∧ k < gn → some k ≠ v0.ownBlock := fun k hk e => by have := (U4.out k (hown k e.symm)).1; omega
                      have F5 := Aside0.mk (Kd.F_grown hFd hg hnl)
                      have k1 : w3.cell? (adl.add i.toNat) = some (.int .i64 d) := by
                        obtain ⟨ad7, e7, h7⟩ := Kd.at_int (Kd.F_now F5.out) i HI.out ci
                        obtain rfl := Option.some.inj e7
                        rw [RD.out] at h7
                        exact h7
                      have k2 : w3.cell? ⟨go, d.toNat, none⟩ = some v0 := (World.cell?_of_block (hg.block go hgo (fun e => hng e.symm))).trans w2c
                      have k3 : w3.frozen? ⟨go, d.toNat, none⟩ = false := (World.frozen?_of_block (hg.block go hgo (fun e => hng e.symm))).trans w2f
                      have G3 := Aside0.mk hg
                      have R3 := Aside0.mk ho
                      have B3 := Aside0.mk hb
                      clear hg ho hb hat w1c w2c w2f hown hng hRd hBd hFd hnl
                      refine hK.out _ _ ⟨k1, k2⟩ (fun hHeld => ?_)
                      refine norm_ (a' := ?_) ?_ ?_
                      rotate_left
                      · show Act.put _ (some 54) _ = _
                        simp only [Act.put, List.setIfInBounds_toArray, List.set_cons_zero, List.set_cons_succ, i64_w, i32_w]
                        rfl
                      refine pure_ (i := 15) (N := some 55) (v := ?_) (a' := ?_) #[true, true, true, true, true, true, true, true, true, true, true, true, true, true, true, true, false] rfl rfl (by kernel_rfl) (fun _ _ _ h => h) (Or.inl ⟨by rfl, ?_⟩) ?_ ?_
                      rotate_left
                      · intro w'
                        go_simp
                        with_reducible rfl
                      rotate_left
                      · simp only [Act.put, List.setIfInBounds_toArray, List.set_cons_zero, List.set_cons_succ, i64_w, i32_w]
                        rfl
                      refine last_ (i := 16) (N := none) #[true, true, true, true, true, true, true, true, true, true, true, true, true, true, true, true, true] rfl rfl (by kernel_rfl) (by decide) (fun K hK => ?_)
                      refine skip_step (w1 := w3.setCell ⟨go, d.toNat, none⟩ (.slice A1 (row outx d ++ [i]).length q1c)) rfl rfl (by go_simp; first | done | rfl) (hK.out _ _ ?_)
                      refine done_ (by kernel_rfl) ?_
                      obtain ⟨S4, g4⟩ := U5.out w3 _ _ (by rw [← hwd] at G3; exact World.grownBy.trans (grown_of_below (below_drew (Below.refl _ _)) _) G3.out) R3.out
                      have S5 := Aside0.mk S4
                      have hgb : w.heap.size ≤ go := GB.out
                      have B5 := Aside0.mk (B3.out.grown g4 (by have := B3.out.size; omega) (fun k hk => by cases hk; exact hgb))
                      have F6 := Aside0.mk (Kd.F_grown F5.out g4 (fun k hk e => by have := GNG.out; cases e; omega))
                      have Z5 : Aside0 (gn ≤ (w3.setCell ⟨go, d.toNat, none⟩ (.slice A1 (row outx d ++ [i]).length q1c)).heap.size) := ⟨by have := Z4.out; have := G3.out.size; have := g4.size; omega⟩
                      clear S4 g4 k1 k2 k3 hHeld hK hH0 B3 G3 R3 U5 U4 U3 U2 F5 hx4 u1
                      generalize w3.setCell ⟨go, d.toNat, none⟩ (.slice A1 (row outx d ++ [i]).length q1c) = w5 at S5 B5 F6 Z5 ⊢
                      go_wp2_with fail
                      go_roundg k1
                      case measure => omega
                      case rel => exact ⟨i + 1, _, rfl, ⟨by have := HI.out; omega⟩, H', ⟨by have := HK1.out; omega⟩, B5, F6, Z5, (by unfold app; simpa using S5)⟩
              · as_aux_lemma =>
                rw [if_neg ci] at H
                obtain rfl := Option.some.inj H
                have cb : decide (i < (lv.length : Int)) = false := decide_eq_false ci
                clear H
                go_wp2_with fail
                go_ret2
                exact ⟨_, rfl, Kd.S_mono S3.out (fun _ _ => trivial), B3.out⟩
end Rl
namespace P
noncomputable def lazycref09_Levels.f (l : List (List Int)) : Option (List (List Int) × Int) := Od.lim fun k => Rl.reflevelsF k l
theorem lazycref09_Levels.calls (A0_0 : Option Addr) (c0_0 : Nat) (l0_0 : List (List Int)) (r1 : List (List Int)) (r2 : Int) (w : World) (hr0_0 : Kd.C (Kd.slice 3 (Kd.int .i64)) w A0_0 l0_0.length l0_0) (hc0_0 : l0_0.length ≤ c0_0) (h : lazycref09_Levels.f l0_0 = some (r1, r2)) :
    Calls Try.prog 15 #[.agg #[.slice A0_0 l0_0.length c0_0]] w fun e w' => ∃ v0_ : Value, e = .returned (.tuple #[v0_, .int .i64 r2]) ∧ Kd.S (Kd.slice 3 (Kd.int .i64)) 32 w' w.heap.size (fun _ => True) v0_ r1 ∧ Below w.heap.size w w' := by
  obtain ⟨k0, h0⟩ := Od.lim_some h
  exact Rl.reflevels_calls k0 A0_0 c0_0 l0_0 r1 r2 w hr0_0 hc0_0 (h0 k0 (Nat.le_refl _))
end P
end Go.Proofs.Ytpmjpngmmphkmaa
