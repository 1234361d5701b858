/- Part 2 of 4 of one proof: The examples' function returns true -/
import Derived.Lib.SliceRun
import Derived.WalkSpells
import Derived.Test.YtpmjpngmmphkmaaMOrder1
set_option linter.unusedVariables false
set_option linter.unusedSimpArgs false
namespace Go.Proofs.Ytpmjpngmmphkmaa.P
open Go.RowKit Go.Proofs.YtpmjpngmmphkmaaW.PrintWords Go.Proofs.YtpmjpngmmphkmaaW.PrintLast Go.Proofs.YtpmjpngmmphkmaaW.PrintMore
attribute [local go_sem] max2_int min2_int max_two min_two max_three min_three max_four min_four   -- for this text's walks alone
set_option linter.unusedVariables false
set_option linter.unusedSimpArgs false

/-! ### lazycref09_Valid: function 16 -/
mutual
noncomputable def lazycref09_Valid.l0 : Nat → Int → List (List Int) → Option (Bool)
  | 0, _, _ => none
  | k + 1, x3, x154000 => if x3 < (x154000.length : Int) then (lazycref09_Valid.l1 k x3 0 x154000) else (some true)
noncomputable def lazycref09_Valid.l1 : Nat → Int → Int → List (List Int) → Option (Bool)
  | 0, _, _, _ => none
  | k + 1, x3, x4, x154000 => if 0 ≤ x3 then (if x3 < (x154000.length : Int) then (if x4 < ((rd_L1 x154000 x3).length : Int) then (if 0 ≤ x4 then (if (rd (rd_L1 x154000 x3) x4) < 0 then (some false) else (if (rd (rd_L1 x154000 x3) x4) ≥ (x154000.length : Int) then (some false) else (lazycref09_Valid.l1 k x3 (wrap64 (x4 + 1)) x154000))) else (none)) else (lazycref09_Valid.l0 k (wrap64 (x3 + 1)) x154000)) else (none)) else (none)
end
noncomputable def lazycref09_Valid.f (k : Nat) (l0_0 : List (List Int)) : Option (Bool) := lazycref09_Valid.l0 k 0 l0_0
theorem lazycref09_Valid.mono_l : ∀ k, (∀ y0 y1, LeO (lazycref09_Valid.l0 k y0 y1) (lazycref09_Valid.l0 (k + 1) y0 y1)) ∧ (∀ y0 y1 y2, LeO (lazycref09_Valid.l1 k y0 y1 y2) (lazycref09_Valid.l1 (k + 1) y0 y1 y2))
  | 0 => ⟨fun _ _ r h => by simp [lazycref09_Valid.l0] at h, fun _ _ _ r h => by simp [lazycref09_Valid.l1] at h⟩
  | k + 1 => by
    obtain ⟨ih0, ih1⟩ := lazycref09_Valid.mono_l k
    refine ⟨?_, ?_⟩
    · intro y0 y1
      unfold lazycref09_Valid.l0
      repeat' first
      | (with_reducible exact ih0 _ _)
      | (with_reducible exact ih1 _ _ _)
      | (with_reducible exact LeO.refl _)
      | (with_reducible exact LeO.none _)
      | (with_reducible refine LeO.ite ?_ ?_)
      | (with_reducible refine LeO.bind ?_ (fun _ => ?_))
      | exact ih0 _ _
      | exact ih1 _ _ _
      | exact LeO.none _
      | refine LeO.ite ?_ ?_
      | refine LeO.bind ?_ (fun _ => ?_)
    · intro y0 y1 y2
      unfold lazycref09_Valid.l1
      repeat' first
      | (with_reducible exact ih0 _ _)
      | (with_reducible exact ih1 _ _ _)
      | (with_reducible exact LeO.refl _)
      | (with_reducible exact LeO.none _)
      | (with_reducible refine LeO.ite ?_ ?_)
      | (with_reducible refine LeO.bind ?_ (fun _ => ?_))
      | exact ih0 _ _
      | exact ih1 _ _ _
      | exact LeO.none _
      | refine LeO.ite ?_ ?_
      | refine LeO.bind ?_ (fun _ => ?_)
theorem lazycref09_Valid.mono : ∀ a0 k, LeO (lazycref09_Valid.f k a0) (lazycref09_Valid.f (k + 1) a0) := by
  intro a0 k
  obtain ⟨ih0, ih1⟩ := lazycref09_Valid.mono_l k
  unfold lazycref09_Valid.f
  repeat' first
      | (with_reducible exact ih0 _ _)
      | (with_reducible exact ih1 _ _ _)
      | (with_reducible exact LeO.refl _)
      | (with_reducible exact LeO.none _)
      | (with_reducible refine LeO.ite ?_ ?_)
      | (with_reducible refine LeO.bind ?_ (fun _ => ?_))
      | exact ih0 _ _
      | exact ih1 _ _ _
      | exact LeO.none _
      | refine LeO.ite ?_ ?_
      | refine LeO.bind ?_ (fun _ => ?_)
set_option maxHeartbeats 8000000 in
set_option maxRecDepth 100000 in
theorem lazycref09_Valid.calls (k : Nat) (A0_0 : Option Addr) (c0_0 : Nat) (l0_0 : List (List Int)) (r : Bool) (w : World) (hr0_0 : Kd.C (Kd.slice 3 (Kd.int .i64)) w A0_0 l0_0.length l0_0) (hc0_0 : l0_0.length ≤ c0_0) (h : lazycref09_Valid.f k l0_0 = some r) :
    Calls Try.prog 16 #[.agg #[.slice A0_0 l0_0.length c0_0]] w fun e w' => e = .returned (.bool r) ∧ Below w.heap.size w w' := by
  have hu24 := Try.underlying24
  have HR0_0 := aM hr0_0
  have HC0_0 := aM hc0_0
  clear hr0_0 hc0_0
  have HB := aM (Below.refl w.heap.size w)
  have H : (lazycref09_Valid.l0 k 0 l0_0) = some r := h
  clear h
  have H' := aM H
  clear H
  go_enter Try.func16, Try.ntmps16
  go_wp2_with (first | ((with_reducible refine gate_dst (N := 1) rfl ?_); (try (refine gate_guard (by rfl) ?_; dsimp only)); refine box_event ?hg (N := 1) ?hd (cs := #[.slice A0_0 l0_0.length c0_0]) (t := 24) ?hr ?_; (case hd => rfl); (case hg => rfl); (case hr => first | (go_simp; done) | (go_simp; rfl)); intro gb153 hg w2 hbox hb; have n0_ := aM (below_step (by repeat (first | (with_reducible first | exact HB.out | apply bA | apply bN | apply bD) | exact HB.out)) hb); have n1_ := aM (hbox); have n2_ := aM ((by rw [hg]; exact (below_size (by repeat (first | (with_reducible first | exact HB.out | apply bA | apply bN | apply bD) | exact HB.out))) : w.heap.size ≤ gb153)); have n3_ := aM ((by rw [hg]; exact (below_size (by repeat (first | (with_reducible first | exact HB.out | apply bA | apply bN | apply bD) | exact HB.out))) : w.heap.size ≤ gb153)); clear HB; have HB := n0_; have BK153 := n1_; have GW153 := n2_; have GE153 := n3_; clear n0_ n1_ n2_ n3_; clear hb hbox hg))
  repeat (go_quiet (first | ((with_reducible refine gate_dst (N := 1) rfl ?_); (try (refine gate_guard (by rfl) ?_; dsimp only)); refine box_event ?hg (N := 1) ?hd (cs := #[.slice A0_0 l0_0.length c0_0]) (t := 24) ?hr ?_; (case hd => rfl); (case hg => rfl); (case hr => first | (go_simp; done) | (go_simp; rfl)); intro gb153 hg w2 hbox hb; have n0_ := aM (below_step (by repeat (first | (with_reducible first | exact HB.out | apply bA | apply bN | apply bD) | exact HB.out)) hb); have n1_ := aM (hbox); have n2_ := aM ((by rw [hg]; exact (below_size (by repeat (first | (with_reducible first | exact HB.out | apply bA | apply bN | apply bD) | exact HB.out))) : w.heap.size ≤ gb153)); have n3_ := aM ((by rw [hg]; exact (below_size (by repeat (first | (with_reducible first | exact HB.out | apply bA | apply bN | apply bD) | exact HB.out))) : w.heap.size ≤ gb153)); clear HB; have HB := n0_; have BK153 := n1_; have GW153 := n2_; have GE153 := n3_; clear n0_ n1_ n2_ n3_; clear hb hbox hg)); try go_wp2_with (first | ((with_reducible refine gate_dst (N := 1) rfl ?_); (try (refine gate_guard (by rfl) ?_; dsimp only)); refine box_event ?hg (N := 1) ?hd (cs := #[.slice A0_0 l0_0.length c0_0]) (t := 24) ?hr ?_; (case hd => rfl); (case hg => rfl); (case hr => first | (go_simp; done) | (go_simp; rfl)); intro gb153 hg w2 hbox hb; have n0_ := aM (below_step (by repeat (first | (with_reducible first | exact HB.out | apply bA | apply bN | apply bD) | exact HB.out)) hb); have n1_ := aM (hbox); have n2_ := aM ((by rw [hg]; exact (below_size (by repeat (first | (with_reducible first | exact HB.out | apply bA | apply bN | apply bD) | exact HB.out))) : w.heap.size ≤ gb153)); have n3_ := aM ((by rw [hg]; exact (below_size (by repeat (first | (with_reducible first | exact HB.out | apply bA | apply bN | apply bD) | exact HB.out))) : w.heap.size ≤ gb153)); clear HB; have HB := n0_; have BK153 := n1_; have GW153 := n2_; have GE153 := n3_; clear n0_ n1_ n2_ n3_; clear hb hbox hg)))
  go_loopg [3] k (fun kq v3 w' => ∃ (x3_1 : Int), v3 = .int .i64 x3_1 ∧ Aside0 (lazycref09_Valid.l0 kq x3_1 l0_0 = some r) ∧ Aside0 (kq ≤ k) ∧ Aside0 (w'.heap[gb153]? = some (.cells #[(.slice A0_0 l0_0.length c0_0)] 24 (0, 0))) ∧ Aside0 (Below w.heap.size w w'))
  case atStart => exact ⟨(0), (by first | rfl | (simp; done) | (simp [*]; done)), H', ⟨Nat.le_refl _⟩, ⟨by (with_reducible repeat (first | refine kN ?_ _ | refine kD ?_ | refine kA ?_ _)); exact BK153.out⟩, ⟨by repeat (first | (with_reducible first | exact HB.out | apply bA | apply bN | apply bD | refine below_set ?_ GE153.out) | exact HB.out)⟩⟩
  case round =>
    clear H'
    try clear c1
    try clear p2
    obtain ⟨x3_1, rfl, HA, HK1, BK153, HB⟩ := hrel
    cases gk with
    | zero => exact absurd HA.out (by simp [lazycref09_Valid.l0])
    | succ k1 =>
      have H := HA.out
      clear HA
      simp only [lazycref09_Valid.l0] at H
      by_cases c3 : x3_1 < (l0_0.length : Int)
      · rw [if_pos c3] at H
        have c3b0 : decide (x3_1 < (l0_0.length : Int)) = true := decide_eq_true c3
        clear c3
        have H' := aM H
        clear H
        have hcz4_0 : wr.cell? ⟨gb153, 0, none⟩ = some (.slice A0_0 l0_0.length c0_0) := (blk_cell BK153.out 0).trans rfl
        have hfz4_0 := blk_frozen BK153.out 0
        go_wp2
        repeat (go_quiet (fail); try go_wp2)
        go_loopg [4] k1 (fun kq v4 w' => ∃ (x4_2 : Int), v4 = .int .i64 x4_2 ∧ Aside0 (lazycref09_Valid.l1 kq x3_1 x4_2 l0_0 = some r) ∧ Aside0 (kq ≤ k1) ∧ Aside0 (w'.heap[gb153]? = some (.cells #[(.slice A0_0 l0_0.length c0_0)] 24 (0, 0))) ∧ Aside0 (Below w.heap.size w w'))
        case atStart => exact ⟨(0), (by first | rfl | (simp; done) | (simp [*]; done)), H', ⟨Nat.le_refl _⟩, ⟨by (with_reducible repeat (first | refine kN ?_ _ | refine kD ?_ | refine kA ?_ _)); exact BK153.out⟩, ⟨by repeat (first | (with_reducible first | exact HB.out | apply bA | apply bN | apply bD | refine below_set ?_ GE153.out) | exact HB.out)⟩⟩
        case round =>
          clear H'
          try clear c1
          try clear p2
          try clear c3
          try clear c3b0
          try clear hcz4_0
          try clear hfz4_0
          try clear p2
          obtain ⟨x4_2, rfl, HA, HK2, BK153, HB⟩ := hrel
          cases gk with
          | zero => exact absurd HA.out (by simp [lazycref09_Valid.l1])
          | succ k2 =>
            have H := HA.out
            clear HA
            simp only [lazycref09_Valid.l1] at H
            by_cases c5 : 0 ≤ x3_1
            · rw [if_pos c5] at H
              have c5b0 : decide (0 ≤ x3_1) = true := decide_eq_true c5
              clear c5
              by_cases c6 : x3_1 < (l0_0.length : Int)
              · rw [if_pos c6] at H
                have c6b0 : decide (x3_1 < (l0_0.length : Int)) = true := decide_eq_true c6
                clear c6
                by_cases c7 : x4_2 < ((rd_L1 l0_0 x3_1).length : Int)
                · rw [if_pos c7] at H
                  have c7b0 : decide (x4_2 < ((rd_L1 l0_0 x3_1).length : Int)) = true := decide_eq_true c7
                  clear c7
                  by_cases c8 : 0 ≤ x4_2
                  · rw [if_pos c8] at H
                    have c8b0 : decide (0 ≤ x4_2) = true := decide_eq_true c8
                    clear c8
                    by_cases c9 : (rd (rd_L1 l0_0 x3_1) x4_2) < 0
                    · rw [if_pos c9] at H
                      have c9b0 : decide ((rd (rd_L1 l0_0 x3_1) x4_2) < 0) = true := decide_eq_true c9
                      clear c9
                      obtain rfl := Option.some.inj H
                      have hcz10_0 : wr.cell? ⟨gb153, 0, none⟩ = some (.slice A0_0 l0_0.length c0_0) := (blk_cell BK153.out 0).trans rfl
                      have hfz10_0 := blk_frozen BK153.out 0
                      have p154 : 0 ≤ (x3_1 : Int) := of_decide_eq_true (by first | (with_reducible assumption) | assumption)
                      have q154 : x3_1 < (l0_0.length : Int) := of_decide_eq_true (by first | (with_reducible assumption) | assumption)
                      obtain ⟨ad154, A154_0, c154_0, e154, hx154_0, hl154_0, hi154_0⟩ := at_L1 HR0_0.out x3_1 p154 q154
                      cases e154
                      replace hx154_0 := (HB.out.cell (World.block_lt_of_cell? w _ hx154_0)).trans hx154_0
                      have HR154_0 := aM hi154_0
                      have HC154_0 := aM hl154_0
                      clear hi154_0 hl154_0
                      replace p154 := eq_true p154
                      replace q154 := eq_true q154
                      have p155 : 0 ≤ (x3_1 : Int) := of_decide_eq_true (by first | (with_reducible assumption) | assumption)
                      have q155 : x3_1 < (l0_0.length : Int) := of_decide_eq_true (by first | (with_reducible assumption) | assumption)
                      obtain ⟨ad155, A155_0, c155_0, e155, hx155_0, hl155_0, hi155_0⟩ := at_L1 HR0_0.out x3_1 p155 q155
                      obtain rfl : ad154 = ad155 := (by injection e155)
                      replace hx155_0 := (HB.out.cell (World.block_lt_of_cell? w _ hx155_0)).trans hx155_0
                      have HR155_0 := aM hi155_0
                      have HC155_0 := aM hl155_0
                      clear hi155_0 hl155_0
                      replace p155 := eq_true p155
                      replace q155 := eq_true q155
                      have ea_ := Option.some.inj (hx154_0.symm.trans hx155_0)
                      injection ea_ with ea_ en_ ec_
                      subst ea_
                      subst ec_
                      clear en_
                      have p156 : 0 ≤ (x4_2 : Int) := of_decide_eq_true (by first | (with_reducible assumption) | assumption)
                      have q156 : x4_2 < ((rd_L1 l0_0 x3_1).length : Int) := of_decide_eq_true (by first | (with_reducible assumption) | assumption)
                      obtain ⟨ad156, e156, hx156_0⟩ := Kd.at_int HR155_0.out x4_2 p156 q156
                      cases e156
                      replace hx156_0 := (HB.out.cell (World.block_lt_of_cell? w _ hx156_0)).trans hx156_0
                      replace p156 := eq_true p156
                      replace q156 := eq_true q156
                      go_wp2
                      repeat (go_quiet (fail); try go_wp2)
                      go_ret
                      exact ⟨by first | rfl | (simp [errW_none, errW_some] <;> rfl) | (simp [*, errW_none, errW_some] <;> rfl), by repeat (first | (with_reducible first | exact HB.out | apply bA | apply bN | apply bD | refine below_set ?_ GE153.out) | exact HB.out)⟩
                    · rw [if_neg c9] at H
                      have c9b0 : decide ((rd (rd_L1 l0_0 x3_1) x4_2) < 0) = false := decide_eq_false c9
                      clear c9
                      by_cases c11 : (rd (rd_L1 l0_0 x3_1) x4_2) ≥ (l0_0.length : Int)
                      · rw [if_pos c11] at H
                        have c11b0 : decide ((l0_0.length : Int) ≤ (rd (rd_L1 l0_0 x3_1) x4_2)) = true := decide_eq_true c11
                        clear c11
                        obtain rfl := Option.some.inj H
                        have hcz12_0 : wr.cell? ⟨gb153, 0, none⟩ = some (.slice A0_0 l0_0.length c0_0) := (blk_cell BK153.out 0).trans rfl
                        have hfz12_0 := blk_frozen BK153.out 0
                        have p154 : 0 ≤ (x3_1 : Int) := of_decide_eq_true (by first | (with_reducible assumption) | assumption)
                        have q154 : x3_1 < (l0_0.length : Int) := of_decide_eq_true (by first | (with_reducible assumption) | assumption)
                        obtain ⟨ad154, A154_0, c154_0, e154, hx154_0, hl154_0, hi154_0⟩ := at_L1 HR0_0.out x3_1 p154 q154
                        cases e154
                        replace hx154_0 := (HB.out.cell (World.block_lt_of_cell? w _ hx154_0)).trans hx154_0
                        have HR154_0 := aM hi154_0
                        have HC154_0 := aM hl154_0
                        clear hi154_0 hl154_0
                        replace p154 := eq_true p154
                        replace q154 := eq_true q154
                        have p155 : 0 ≤ (x3_1 : Int) := of_decide_eq_true (by first | (with_reducible assumption) | assumption)
                        have q155 : x3_1 < (l0_0.length : Int) := of_decide_eq_true (by first | (with_reducible assumption) | assumption)
                        obtain ⟨ad155, A155_0, c155_0, e155, hx155_0, hl155_0, hi155_0⟩ := at_L1 HR0_0.out x3_1 p155 q155
                        obtain rfl : ad154 = ad155 := (by injection e155)
                        replace hx155_0 := (HB.out.cell (World.block_lt_of_cell? w _ hx155_0)).trans hx155_0
                        have HR155_0 := aM hi155_0
                        have HC155_0 := aM hl155_0
                        clear hi155_0 hl155_0
                        replace p155 := eq_true p155
                        replace q155 := eq_true q155
                        have ea_ := Option.some.inj (hx154_0.symm.trans hx155_0)
                        injection ea_ with ea_ en_ ec_
                        subst ea_
                        subst ec_
                        clear en_
                        have p156 : 0 ≤ (x4_2 : Int) := of_decide_eq_true (by first | (with_reducible assumption) | assumption)
                        have q156 : x4_2 < ((rd_L1 l0_0 x3_1).length : Int) := of_decide_eq_true (by first | (with_reducible assumption) | assumption)
                        obtain ⟨ad156, e156, hx156_0⟩ := Kd.at_int HR155_0.out x4_2 p156 q156
                        cases e156
                        replace hx156_0 := (HB.out.cell (World.block_lt_of_cell? w _ hx156_0)).trans hx156_0
                        replace p156 := eq_true p156
                        replace q156 := eq_true q156
                        have p157 : 0 ≤ (x3_1 : Int) := of_decide_eq_true (by first | (with_reducible assumption) | assumption)
                        have q157 : x3_1 < (l0_0.length : Int) := of_decide_eq_true (by first | (with_reducible assumption) | assumption)
                        obtain ⟨ad157, A157_0, c157_0, e157, hx157_0, hl157_0, hi157_0⟩ := at_L1 HR0_0.out x3_1 p157 q157
                        obtain rfl : ad154 = ad157 := (by injection e157)
                        replace hx157_0 := (HB.out.cell (World.block_lt_of_cell? w _ hx157_0)).trans hx157_0
                        have HR157_0 := aM hi157_0
                        have HC157_0 := aM hl157_0
                        clear hi157_0 hl157_0
                        replace p157 := eq_true p157
                        replace q157 := eq_true q157
                        have ea_ := Option.some.inj (hx154_0.symm.trans hx157_0)
                        injection ea_ with ea_ en_ ec_
                        subst ea_
                        subst ec_
                        clear en_
                        have p158 : 0 ≤ (x4_2 : Int) := of_decide_eq_true (by first | (with_reducible assumption) | assumption)
                        have q158 : x4_2 < ((rd_L1 l0_0 x3_1).length : Int) := of_decide_eq_true (by first | (with_reducible assumption) | assumption)
                        obtain ⟨ad158, e158, hx158_0⟩ := Kd.at_int HR157_0.out x4_2 p158 q158
                        cases e158
                        replace hx158_0 := (HB.out.cell (World.block_lt_of_cell? w _ hx158_0)).trans hx158_0
                        replace p158 := eq_true p158
                        replace q158 := eq_true q158
                        go_wp2
                        repeat (go_quiet (fail); try go_wp2)
                        go_ret
                        exact ⟨by first | rfl | (simp [errW_none, errW_some] <;> rfl) | (simp [*, errW_none, errW_some] <;> rfl), by repeat (first | (with_reducible first | exact HB.out | apply bA | apply bN | apply bD | refine below_set ?_ GE153.out) | exact HB.out)⟩
                      · rw [if_neg c11] at H
                        have c11b0 : decide ((l0_0.length : Int) ≤ (rd (rd_L1 l0_0 x3_1) x4_2)) = false := decide_eq_false c11
                        clear c11
                        have H' := aM H
                        clear H
                        have hcz13_0 : wr.cell? ⟨gb153, 0, none⟩ = some (.slice A0_0 l0_0.length c0_0) := (blk_cell BK153.out 0).trans rfl
                        have hfz13_0 := blk_frozen BK153.out 0
                        have p154 : 0 ≤ (x3_1 : Int) := of_decide_eq_true (by first | (with_reducible assumption) | assumption)
                        have q154 : x3_1 < (l0_0.length : Int) := of_decide_eq_true (by first | (with_reducible assumption) | assumption)
                        obtain ⟨ad154, A154_0, c154_0, e154, hx154_0, hl154_0, hi154_0⟩ := at_L1 HR0_0.out x3_1 p154 q154
                        cases e154
                        replace hx154_0 := (HB.out.cell (World.block_lt_of_cell? w _ hx154_0)).trans hx154_0
                        have HR154_0 := aM hi154_0
                        have HC154_0 := aM hl154_0
                        clear hi154_0 hl154_0
                        replace p154 := eq_true p154
                        replace q154 := eq_true q154
                        have p155 : 0 ≤ (x3_1 : Int) := of_decide_eq_true (by first | (with_reducible assumption) | assumption)
                        have q155 : x3_1 < (l0_0.length : Int) := of_decide_eq_true (by first | (with_reducible assumption) | assumption)
                        obtain ⟨ad155, A155_0, c155_0, e155, hx155_0, hl155_0, hi155_0⟩ := at_L1 HR0_0.out x3_1 p155 q155
                        obtain rfl : ad154 = ad155 := (by injection e155)
                        replace hx155_0 := (HB.out.cell (World.block_lt_of_cell? w _ hx155_0)).trans hx155_0
                        have HR155_0 := aM hi155_0
                        have HC155_0 := aM hl155_0
                        clear hi155_0 hl155_0
                        replace p155 := eq_true p155
                        replace q155 := eq_true q155
                        have ea_ := Option.some.inj (hx154_0.symm.trans hx155_0)
                        injection ea_ with ea_ en_ ec_
                        subst ea_
                        subst ec_
                        clear en_
                        have p156 : 0 ≤ (x4_2 : Int) := of_decide_eq_true (by first | (with_reducible assumption) | assumption)
                        have q156 : x4_2 < ((rd_L1 l0_0 x3_1).length : Int) := of_decide_eq_true (by first | (with_reducible assumption) | assumption)
                        obtain ⟨ad156, e156, hx156_0⟩ := Kd.at_int HR155_0.out x4_2 p156 q156
                        cases e156
                        replace hx156_0 := (HB.out.cell (World.block_lt_of_cell? w _ hx156_0)).trans hx156_0
                        replace p156 := eq_true p156
                        replace q156 := eq_true q156
                        have p157 : 0 ≤ (x3_1 : Int) := of_decide_eq_true (by first | (with_reducible assumption) | assumption)
                        have q157 : x3_1 < (l0_0.length : Int) := of_decide_eq_true (by first | (with_reducible assumption) | assumption)
                        obtain ⟨ad157, A157_0, c157_0, e157, hx157_0, hl157_0, hi157_0⟩ := at_L1 HR0_0.out x3_1 p157 q157
                        obtain rfl : ad154 = ad157 := (by injection e157)
                        replace hx157_0 := (HB.out.cell (World.block_lt_of_cell? w _ hx157_0)).trans hx157_0
                        have HR157_0 := aM hi157_0
                        have HC157_0 := aM hl157_0
                        clear hi157_0 hl157_0
                        replace p157 := eq_true p157
                        replace q157 := eq_true q157
                        have ea_ := Option.some.inj (hx154_0.symm.trans hx157_0)
                        injection ea_ with ea_ en_ ec_
                        subst ea_
                        subst ec_
                        clear en_
                        have p158 : 0 ≤ (x4_2 : Int) := of_decide_eq_true (by first | (with_reducible assumption) | assumption)
                        have q158 : x4_2 < ((rd_L1 l0_0 x3_1).length : Int) := of_decide_eq_true (by first | (with_reducible assumption) | assumption)
                        obtain ⟨ad158, e158, hx158_0⟩ := Kd.at_int HR157_0.out x4_2 p158 q158
                        cases e158
                        replace hx158_0 := (HB.out.cell (World.block_lt_of_cell? w _ hx158_0)).trans hx158_0
                        replace p158 := eq_true p158
                        replace q158 := eq_true q158
                        go_wp2
                        repeat (go_quiet (fail); try go_wp2)
                        go_roundg k2
                        case measure => have := HK1.out; have := HK2.out; omega
                        case rel => exact ⟨(wrap64 (x4_2 + 1)), (by first | rfl | (simp; done) | (simp [*]; done)), H', ⟨by have := HK1.out; have := HK2.out; omega⟩, ⟨by (with_reducible repeat (first | refine kN ?_ _ | refine kD ?_ | refine kA ?_ _)); exact BK153.out⟩, ⟨by repeat (first | (with_reducible first | exact HB.out | apply bA | apply bN | apply bD | refine below_set ?_ GE153.out) | exact HB.out)⟩⟩
                  · rw [if_neg c8] at H
                    exact absurd H (by simp)
                · rw [if_neg c7] at H
                  have c7b0 : decide (x4_2 < ((rd_L1 l0_0 x3_1).length : Int)) = false := decide_eq_false c7
                  clear c7
                  have H' := aM H
                  clear H
                  have hcz14_0 : wr.cell? ⟨gb153, 0, none⟩ = some (.slice A0_0 l0_0.length c0_0) := (blk_cell BK153.out 0).trans rfl
                  have hfz14_0 := blk_frozen BK153.out 0
                  have p154 : 0 ≤ (x3_1 : Int) := of_decide_eq_true (by first | (with_reducible assumption) | assumption)
                  have q154 : x3_1 < (l0_0.length : Int) := of_decide_eq_true (by first | (with_reducible assumption) | assumption)
                  obtain ⟨ad154, A154_0, c154_0, e154, hx154_0, hl154_0, hi154_0⟩ := at_L1 HR0_0.out x3_1 p154 q154
                  cases e154
                  replace hx154_0 := (HB.out.cell (World.block_lt_of_cell? w _ hx154_0)).trans hx154_0
                  have HR154_0 := aM hi154_0
                  have HC154_0 := aM hl154_0
                  clear hi154_0 hl154_0
                  replace p154 := eq_true p154
                  replace q154 := eq_true q154
                  go_wp2
                  repeat (go_quiet (fail); try go_wp2)
                  go_roundg k2
                  case measure => have := HK1.out; have := HK2.out; omega
                  case rel => exact ⟨(wrap64 (x3_1 + 1)), (by first | rfl | (simp; done) | (simp [*]; done)), H', ⟨by have := HK1.out; have := HK2.out; omega⟩, ⟨by (with_reducible repeat (first | refine kN ?_ _ | refine kD ?_ | refine kA ?_ _)); exact BK153.out⟩, ⟨by repeat (first | (with_reducible first | exact HB.out | apply bA | apply bN | apply bD | refine below_set ?_ GE153.out) | exact HB.out)⟩⟩
              · rw [if_neg c6] at H
                exact absurd H (by simp)
            · rw [if_neg c5] at H
              exact absurd H (by simp)
      · rw [if_neg c3] at H
        have c3b0 : decide (x3_1 < (l0_0.length : Int)) = false := decide_eq_false c3
        clear c3
        obtain rfl := Option.some.inj H
        have hcz15_0 : wr.cell? ⟨gb153, 0, none⟩ = some (.slice A0_0 l0_0.length c0_0) := (blk_cell BK153.out 0).trans rfl
        have hfz15_0 := blk_frozen BK153.out 0
        go_wp2
        repeat (go_quiet (fail); try go_wp2)
        go_ret
        exact ⟨by first | rfl | (simp [errW_none, errW_some] <;> rfl) | (simp [*, errW_none, errW_some] <;> rfl), by repeat (first | (with_reducible first | exact HB.out | apply bA | apply bN | apply bD | refine below_set ?_ GE153.out) | exact HB.out)⟩

/-! ### lazycref09_marked: function 34 -/
noncomputable def lazycref09_marked.l0 : Nat → List Bool → List Int → Int → Option (List Int)
  | 0, _, _, _ => none
  | k + 1, x0, x3, x4 => if x4 < (x0.length : Int) then (if 0 ≤ x4 then (if rdOf false x0 x4 = true then (if x3.length < 17592186044416 then (lazycref09_marked.l0 k x0 (x3 ++ [x4]) (wrap64 (x4 + 1))) else (none)) else (lazycref09_marked.l0 k x0 x3 (wrap64 (x4 + 1)))) else (none)) else (some x3)
noncomputable def lazycref09_marked.f (k : Nat) (l0 : List Bool) : Option (List Int) := lazycref09_marked.l0 k l0 (([] : List Int)) 0
theorem lazycref09_marked.mono_l : ∀ k, (∀ y0 y1 y2, LeO (lazycref09_marked.l0 k y0 y1 y2) (lazycref09_marked.l0 (k + 1) y0 y1 y2))
  | 0 => fun _ _ _ r h => by simp [lazycref09_marked.l0] at h
  | k + 1 => by
    have ih0 := lazycref09_marked.mono_l k
    · intro y0 y1 y2
      unfold lazycref09_marked.l0
      repeat' first
      | (with_reducible exact ih0 _ _ _)
      | (with_reducible exact LeO.refl _)
      | (with_reducible exact LeO.none _)
      | (with_reducible refine LeO.ite ?_ ?_)
      | (with_reducible refine LeO.bind ?_ (fun _ => ?_))
      | exact ih0 _ _ _
      | exact LeO.none _
      | refine LeO.ite ?_ ?_
      | refine LeO.bind ?_ (fun _ => ?_)
theorem lazycref09_marked.mono : ∀ a0 k, LeO (lazycref09_marked.f k a0) (lazycref09_marked.f (k + 1) a0) := by
  intro a0 k
  have ih0 := lazycref09_marked.mono_l k
  unfold lazycref09_marked.f
  repeat' first
      | (with_reducible exact ih0 _ _ _)
      | (with_reducible exact LeO.refl _)
      | (with_reducible exact LeO.none _)
      | (with_reducible refine LeO.ite ?_ ?_)
      | (with_reducible refine LeO.bind ?_ (fun _ => ?_))
      | exact ih0 _ _ _
      | exact LeO.none _
      | refine LeO.ite ?_ ?_
      | refine LeO.bind ?_ (fun _ => ?_)
set_option maxHeartbeats 8000000 in
set_option maxRecDepth 100000 in
theorem lazycref09_marked.calls (k : Nat) (A0 : Option Addr) (c0 : Nat) (l0 : List Bool) (r : List Int) (w : World) (hr0 : Kd.C Kd.bool w A0 l0.length l0) (hc0 : l0.length ≤ c0) (h : lazycref09_marked.f k l0 = some r) :
    Calls Try.prog 34 #[.slice A0 l0.length c0] w fun e w' => ∃ v0_ : Value, e = .returned (v0_) ∧ Kd.R (Kd.int .i64) 3 w' w.heap.size (fun _ => True) v0_ r ∧ Below w.heap.size w w' := by
  have HR0 := aM hr0
  have HC0 := aM hc0
  clear hr0 hc0
  have HB := aM (Below.refl w.heap.size w)
  have H : (lazycref09_marked.l0 k l0 (([] : List Int)) 0) = some r := h
  clear h
  obtain ⟨y159, hy159⟩ : ∃ y_ : List Int, y_ = (([] : List Int)) := ⟨_, rfl⟩
  replace H : (lazycref09_marked.l0 k l0 y159 0) = some r := by first | (rw [hy159]; with_reducible exact H) | (have H2_ := (Option.bind_some _ _).symm.trans H; rw [hy159]; with_reducible exact H2_) | (have H2_ := (Option.bind_some _ _).symm.trans H; with_reducible exact H2_) | with_reducible exact H | (rw [hy159]; exact H) | exact H
  have Ny159 := aM hy159
  clear hy159
  have H' := aM H
  clear H
  go_enter Try.func34, Try.ntmps34
  go_wp2_with (first | ((with_reducible refine gate_dst (N := 5) rfl ?_); refine Kd.R_lit (Kd.int .i64) _ 3 ?hg (N := 5) ?hd (xs := ([] : List Int)) (inner := []) (ok := fun _ => True) (okp := fun _ => True) ?hr ?hp (fun _ hk => hk) trivial (Below.refl _ _) (Nat.le_refl _) (by simp) ?_; (case hd => rfl); (case hg => rfl); (case hr => first | (go_simp; done) | (go_simp; rfl)); (case hp => exact (Reps.none _ _)); intro v160 w2 ho3 hb hg_ hnew_; clear hg_ hnew_; (first | rw [← Ny159.out] at ho3 | (simp only [Int.reduceToNat] at ho3; rw [← Ny159.out] at ho3)); have n0_ := aM (Kd.R_lower ho3 (below_size (by repeat (first | (with_reducible first | exact HB.out | apply bA | apply bN | apply bD) | exact HB.out)))); have n1_ := aM (below_step (by repeat (first | (with_reducible first | exact HB.out | apply bA | apply bN | apply bD) | exact HB.out)) hb); clear HB; have HO161 := n0_; have HB := n1_; clear n0_ n1_; clear hb ho3))
  go_loopg [3, 4] k (fun kq v3 v4 w' => ∃ (x3_1 : List Int) (x4_1 : Int), v4 = .int .i64 x4_1 ∧ Aside0 (lazycref09_marked.l0 kq l0 x3_1 x4_1 = some r) ∧ Aside0 (kq ≤ k) ∧ Aside0 (Kd.R (Kd.int .i64) 3 w' w.heap.size (fun _ => True) v3 x3_1) ∧ Aside0 (Below w.heap.size w w'))
  case atStart => exact ⟨(y159), (0), (by first | rfl | (simp; done) | (simp [*]; done)), H', ⟨Nat.le_refl _⟩, ⟨by (with_reducible repeat (first | apply Kd.R_alloc | apply Kd.R_drewN | apply Kd.R_drew)); exact HO161.out⟩, ⟨by repeat (first | (with_reducible first | exact HB.out | apply bA | apply bN | apply bD) | exact HB.out)⟩⟩
  case round =>
    clear H'
    try clear p2
    try clear c3
    obtain ⟨x3_1, x4_1, rfl, HA, HK1, HO_3, HB⟩ := hrel
    cases gk with
    | zero => exact absurd HA.out (by simp [lazycref09_marked.l0])
    | succ k1 =>
      have H := HA.out
      clear HA
      simp only [lazycref09_marked.l0] at H
      by_cases c4 : x4_1 < (l0.length : Int)
      · rw [if_pos c4] at H
        have c4b0 : decide (x4_1 < (l0.length : Int)) = true := decide_eq_true c4
        clear c4
        by_cases c5 : 0 ≤ x4_1
        · rw [if_pos c5] at H
          have c5b0 : decide (0 ≤ x4_1) = true := decide_eq_true c5
          clear c5
          obtain ⟨bq6, hbq6⟩ : ∃ b_ : Bool, b_ = (rdOf false l0 x4_1) := ⟨_, rfl⟩
          replace H : (if bq6 = true then (if x3_1.length < 17592186044416 then (lazycref09_marked.l0 k1 l0 (x3_1 ++ [x4_1]) (wrap64 (x4_1 + 1))) else (none)) else (lazycref09_marked.l0 k1 l0 x3_1 (wrap64 (x4_1 + 1)))) = some r := by rw [← hbq6] at H; exact H
          have Nbq6 := aM hbq6
          clear hbq6
          by_cases c7 : bq6 = true
          · subst c7
            have H1 : (if x3_1.length < 17592186044416 then (lazycref09_marked.l0 k1 l0 (x3_1 ++ [x4_1]) (wrap64 (x4_1 + 1))) else (none)) = some r := by rw [if_pos rfl] at H; exact H
            clear H
            have H := H1
            clear H1
            by_cases c8 : x3_1.length < 17592186044416
            · rw [if_pos c8] at H
              have LMc8 := aM c8
              clear c8
              obtain ⟨y163, hy163⟩ : ∃ y_ : List Int, y_ = (x3_1 ++ [x4_1]) := ⟨_, rfl⟩
              replace H : (lazycref09_marked.l0 k1 l0 y163 (wrap64 (x4_1 + 1))) = some r := by first | (rw [hy163]; with_reducible exact H) | (have H2_ := (Option.bind_some _ _).symm.trans H; rw [hy163]; with_reducible exact H2_) | (have H2_ := (Option.bind_some _ _).symm.trans H; with_reducible exact H2_) | with_reducible exact H | (rw [hy163]; exact H) | exact H
              have Ny163 := aM hy163
              clear hy163
              have H' := aM H
              clear H
              have p162 : 0 ≤ (x4_1 : Int) := of_decide_eq_true (by first | (with_reducible assumption) | assumption)
              have q162 : x4_1 < (l0.length : Int) := of_decide_eq_true (by first | (with_reducible assumption) | assumption)
              obtain ⟨ad162, e162, hx162_0⟩ := Kd.at_bool HR0.out x4_1 p162 q162
              (try rw [← Nbq6.out] at hx162_0)
              cases e162
              replace hx162_0 := (HB.out.cell (World.block_lt_of_cell? w _ hx162_0)).trans hx162_0
              replace p162 := eq_true p162
              replace q162 := eq_true q162
              go_wp2_with (first | ((with_reducible refine gate_builtin (b := .append) (xs := #[.tmp 16, .tmp 18]) rfl ?_); at_builtin; refine Kd.R_append (Kd.int .i64) (w0 := w) w.heap.size rfl (.tmp 16) (.tmp 18) 32 3 (.int .i64 0) 8 rfl Try.underlying32 info3 rfl (by decide) (by omega) u3 x3_1 x4_1 [.int .i64 x4_1] (fun _ => True) (fun _ => False) rfl rfl ?aP (fun _ hk => hk.elim) ?aF ?aO ?aB ?aS ?aL ?_; (case aP => exact rfl); (case aB => exact (by repeat (first | (with_reducible first | exact HB.out | apply bA | apply bN | apply bD) | exact HB.out))); (case aF => exact (fun _ _ => trivial)); (case aO => exact (by (with_reducible repeat (first | apply Kd.R_alloc | apply Kd.R_drewN | apply Kd.R_drew)); exact HO_3.out)); (case aS => exact (below_size (by repeat (first | (with_reducible first | exact HB.out | apply bA | apply bN | apply bD) | exact HB.out)))); (case aL => have := LMc8.out; omega); intro v164 w9 ho hb hg hat; rw [← Ny163.out] at ho; have n0_ := aM (hb); have n1_ := aM (ho); clear HB; clear HO_3; have HB := n0_; have HO165 := n1_; clear n0_ n1_; clear ho hb hg hat))
              go_roundg k1
              case measure => have := HK1.out; omega
              case rel => exact ⟨(y163), (wrap64 (x4_1 + 1)), (by first | rfl | (simp; done) | (simp [*]; done)), H', ⟨by have := HK1.out; omega⟩, ⟨by (with_reducible repeat (first | apply Kd.R_alloc | apply Kd.R_drewN | apply Kd.R_drew)); exact HO165.out⟩, ⟨by repeat (first | (with_reducible first | exact HB.out | apply bA | apply bN | apply bD) | exact HB.out)⟩⟩
            · rw [if_neg c8] at H
              exact absurd H (by simp)
          · replace c7 := Bool.eq_false_iff.mpr c7
            subst c7
            have H1 : (lazycref09_marked.l0 k1 l0 x3_1 (wrap64 (x4_1 + 1))) = some r := by rw [if_neg (show ¬ (false = true) by decide)] at H; exact H
            clear H
            have H := H1
            clear H1
            have H' := aM H
            clear H
            have p162 : 0 ≤ (x4_1 : Int) := of_decide_eq_true (by first | (with_reducible assumption) | assumption)
            have q162 : x4_1 < (l0.length : Int) := of_decide_eq_true (by first | (with_reducible assumption) | assumption)
            obtain ⟨ad162, e162, hx162_0⟩ := Kd.at_bool HR0.out x4_1 p162 q162
            (try rw [← Nbq6.out] at hx162_0)
            cases e162
            replace hx162_0 := (HB.out.cell (World.block_lt_of_cell? w _ hx162_0)).trans hx162_0
            replace p162 := eq_true p162
            replace q162 := eq_true q162
            go_wp2
            go_roundg k1
            case measure => have := HK1.out; omega
            case rel => exact ⟨(x3_1), (wrap64 (x4_1 + 1)), (by first | rfl | (simp; done) | (simp [*]; done)), H', ⟨by have := HK1.out; omega⟩, ⟨by (with_reducible repeat (first | apply Kd.R_alloc | apply Kd.R_drewN | apply Kd.R_drew)); exact HO_3.out⟩, ⟨by repeat (first | (with_reducible first | exact HB.out | apply bA | apply bN | apply bD) | exact HB.out)⟩⟩
        · rw [if_neg c5] at H
          exact absurd H (by simp)
      · rw [if_neg c4] at H
        have c4b0 : decide (x4_1 < (l0.length : Int)) = false := decide_eq_false c4
        clear c4
        obtain rfl := Option.some.inj H
        go_wp2
        go_ret
        exact ⟨_, by first | rfl | (simp [errW_none, errW_some] <;> rfl) | (simp [*, errW_none, errW_some] <;> rfl), by (with_reducible repeat (first | apply Kd.R_alloc | apply Kd.R_drewN | apply Kd.R_drew)); exact HO_3.out, by repeat (first | (with_reducible first | exact HB.out | apply bA | apply bN | apply bD) | exact HB.out)⟩

/-! ### lazycref09_from: function 35 -/
noncomputable def lazycref09_from.l0 : Nat → List Bool → List Int → List (List Int) → Option (List Bool)
  | 0, _, _, _ => none
  | k + 1, x5, x6, x167000 => if (x6.length : Int) > 0 then (if 0 ≤ (wrap64 ((x6.length : Int) - 1)) then (if (wrap64 ((x6.length : Int) - 1)) < (x6.length : Int) then (if (wrap64 ((x6.length : Int) - 1)) ≤ (x6.length : Int) then ((some (x6.take ((wrap64 ((x6.length : Int) - 1)) : Int).toNat : List Int)).bind fun y177 => (if 0 ≤ (rd x6 (wrap64 ((x6.length : Int) - 1))) then (if (rd x6 (wrap64 ((x6.length : Int) - 1))) < (x5.length : Int) then (if (rdOf false x5 (rd x6 (wrap64 ((x6.length : Int) - 1))) = true) then (lazycref09_from.l0 k x5 y177 x167000) else (if (rd x6 (wrap64 ((x6.length : Int) - 1))) < (x167000.length : Int) then (if y177.length + (rd_L1 x167000 (rd x6 (wrap64 ((x6.length : Int) - 1)))).length < 17592186044416 then (lazycref09_from.l0 k (x5.set ((rd x6 (wrap64 ((x6.length : Int) - 1))) : Int).toNat true) (y177 ++ (rd_L1 x167000 (rd x6 (wrap64 ((x6.length : Int) - 1))))) x167000) else (none)) else (none))) else (none)) else (none))) else (none)) else (none)) else (none)) else (some x5)
noncomputable def lazycref09_from.f (k : Nat) (l0_0 : List (List Int)) (l1 : List Int) : Option (List Bool) := if 0 ≤ (l0_0.length : Int) then (if ((l0_0.length : Int) : Int).toNat ≤ 281474976710656 then ((some (([] : List Int) : List Int)).bind fun y170 => (if y170.length + l1.length < 17592186044416 then (lazycref09_from.l0 k (List.replicate ((l0_0.length : Int) : Int).toNat false) (y170 ++ l1) l0_0) else (none))) else (none)) else (none)
theorem lazycref09_from.mono_l : ∀ k, (∀ y0 y1 y2, LeO (lazycref09_from.l0 k y0 y1 y2) (lazycref09_from.l0 (k + 1) y0 y1 y2))
  | 0 => fun _ _ _ r h => by simp [lazycref09_from.l0] at h
  | k + 1 => by
    have ih0 := lazycref09_from.mono_l k
    · intro y0 y1 y2
      unfold lazycref09_from.l0
      repeat' first
      | (with_reducible exact ih0 _ _ _)
      | (with_reducible exact LeO.refl _)
      | (with_reducible exact LeO.none _)
      | (with_reducible refine LeO.ite ?_ ?_)
      | (with_reducible refine LeO.bind ?_ (fun _ => ?_))
      | exact ih0 _ _ _
      | exact LeO.none _
      | refine LeO.ite ?_ ?_
      | refine LeO.bind ?_ (fun _ => ?_)
theorem lazycref09_from.mono : ∀ a0 a1 k, LeO (lazycref09_from.f k a0 a1) (lazycref09_from.f (k + 1) a0 a1) := by
  intro a0 a1 k
  have ih0 := lazycref09_from.mono_l k
  unfold lazycref09_from.f
  repeat' first
      | (with_reducible exact ih0 _ _ _)
      | (with_reducible exact LeO.refl _)
      | (with_reducible exact LeO.none _)
      | (with_reducible refine LeO.ite ?_ ?_)
      | (with_reducible refine LeO.bind ?_ (fun _ => ?_))
      | exact ih0 _ _ _
      | exact LeO.none _
      | refine LeO.ite ?_ ?_
      | refine LeO.bind ?_ (fun _ => ?_)
set_option maxHeartbeats 8000000 in
set_option maxRecDepth 100000 in
theorem lazycref09_from.calls (k : Nat) (A0_0 : Option Addr) (c0_0 : Nat) (l0_0 : List (List Int)) (A1 : Option Addr) (c1 : Nat) (l1 : List Int) (r : List Bool) (w : World) (hr0_0 : Kd.C (Kd.slice 3 (Kd.int .i64)) w A0_0 l0_0.length l0_0) (hc0_0 : l0_0.length ≤ c0_0) (hr1 : Kd.C (Kd.int .i64) w A1 l1.length l1) (hc1 : l1.length ≤ c1) (h : lazycref09_from.f k l0_0 l1 = some r) :
    Calls Try.prog 35 #[.agg #[.slice A0_0 l0_0.length c0_0], .slice A1 l1.length c1] w fun e w' => ∃ v0_ : Value, e = .returned (v0_) ∧ Kd.R Kd.bool 4 w' w.heap.size (fun _ => True) v0_ r ∧ Below w.heap.size w w' := by
  have hu24 := Try.underlying24
  have HR0_0 := aM hr0_0
  have HC0_0 := aM hc0_0
  clear hr0_0 hc0_0
  have HR1 := aM hr1
  have HC1 := aM hc1
  clear hr1 hc1
  have HB := aM (Below.refl w.heap.size w)
  have H : (if 0 ≤ (l0_0.length : Int) then (if ((l0_0.length : Int) : Int).toNat ≤ 281474976710656 then ((some (([] : List Int) : List Int)).bind fun y170 => (if y170.length + l1.length < 17592186044416 then (lazycref09_from.l0 k (List.replicate ((l0_0.length : Int) : Int).toNat false) (y170 ++ l1) l0_0) else (none))) else (none)) else (none)) = some r := h
  clear h
  by_cases c3 : 0 ≤ (l0_0.length : Int)
  · rw [if_pos c3] at H
    have c3b0 := eq_true c3
    have c3b1 : decide (0 ≤ (l0_0.length : Int)) = true := decide_eq_true c3
    clear c3
    by_cases c4 : ((l0_0.length : Int) : Int).toNat ≤ 281474976710656
    · rw [if_pos c4] at H
      have c4b0 := eq_true c4
      have c4b1 : decide (((l0_0.length : Int) : Int).toNat ≤ 281474976710656) = true := decide_eq_true c4
      clear c4
      obtain ⟨y167, hy167⟩ : ∃ y_ : List Bool, y_ = (List.replicate ((l0_0.length : Int) : Int).toNat false) := ⟨_, rfl⟩
      replace H : ((some (([] : List Int) : List Int)).bind fun y170 => (if y170.length + l1.length < 17592186044416 then (lazycref09_from.l0 k y167 (y170 ++ l1) l0_0) else (none))) = some r := by first | (rw [hy167]; with_reducible exact H) | (have H2_ := (Option.bind_some _ _).symm.trans H; rw [hy167]; with_reducible exact H2_) | (have H2_ := (Option.bind_some _ _).symm.trans H; with_reducible exact H2_) | with_reducible exact H | (rw [hy167]; exact H) | exact H
      have Ny167 := aM hy167
      clear hy167
      obtain ⟨y170, hy170⟩ : ∃ y_ : List Int, y_ = (([] : List Int)) := ⟨_, rfl⟩
      replace H : (if y170.length + l1.length < 17592186044416 then (lazycref09_from.l0 k y167 (y170 ++ l1) l0_0) else (none)) = some r := by first | (rw [hy170]; with_reducible exact H) | (have H2_ := (Option.bind_some _ _).symm.trans H; rw [hy170]; with_reducible exact H2_) | (have H2_ := (Option.bind_some _ _).symm.trans H; with_reducible exact H2_) | with_reducible exact H | (rw [hy170]; exact H) | exact H
      have Ny170 := aM hy170
      clear hy170
      by_cases c5 : y170.length + l1.length < 17592186044416
      · rw [if_pos c5] at H
        have LMc5 := aM c5
        clear c5
        obtain ⟨y173, hy173⟩ : ∃ y_ : List Int, y_ = (y170 ++ l1) := ⟨_, rfl⟩
        replace H : (lazycref09_from.l0 k y167 y173 l0_0) = some r := by first | (rw [hy173]; with_reducible exact H) | (have H2_ := (Option.bind_some _ _).symm.trans H; rw [hy173]; with_reducible exact H2_) | (have H2_ := (Option.bind_some _ _).symm.trans H; with_reducible exact H2_) | with_reducible exact H | (rw [hy173]; exact H) | exact H
        have Ny173 := aM hy173
        clear hy173
        have H' := aM H
        clear H
        go_enter Try.func35, Try.ntmps35
        go_wp2_with (first | ((with_reducible refine gate_dst (N := 2) rfl ?_); refine box_event ?hg (N := 2) ?hd (cs := #[.slice A0_0 l0_0.length c0_0]) (t := 24) ?hr ?_; (case hd => rfl); (case hg => rfl); (case hr => first | (go_simp; done) | (go_simp; rfl)); intro gb166 hg w6 hbox hb; have n0_ := aM (below_step (by repeat (first | (with_reducible first | exact HB.out | apply bA | apply bN | apply bD) | exact HB.out)) hb); have n1_ := aM (hbox); have n2_ := aM ((by rw [hg]; exact (below_size (by repeat (first | (with_reducible first | exact HB.out | apply bA | apply bN | apply bD) | exact HB.out))) : w.heap.size ≤ gb166)); have n3_ := aM ((by rw [hg]; exact (below_size (by repeat (first | (with_reducible first | exact HB.out | apply bA | apply bN | apply bD) | exact HB.out))) : w.heap.size ≤ gb166)); clear HB; have HB := n0_; have BK166 := n1_; have GW166 := n2_; have GE166 := n3_; clear n0_ n1_ n2_ n3_; clear hb hbox hg; have hcz7_0 : w6.cell? ⟨gb166, 0, none⟩ = some (.slice A0_0 l0_0.length c0_0) := (blk_cell BK166.out 0).trans rfl; have hfz7_0 := blk_frozen BK166.out 0) | ((with_reducible refine gate_dst (N := 11) rfl ?_); refine Kd.R_make Kd.bool _ 4 rfl (N := 11) rfl 48 _ _ rfl (l0_0.length : Int) rfl rfl Try.underlying48 (.bool false) 1 info4 rfl (by decide) (by omega) false (ok := fun _ => True) (okp := fun _ => True) rfl (fun _ hk => hk) trivial (of_decide_eq_true (by first | (with_reducible assumption) | assumption)) (Nat.le_trans (Nat.mul_le_mul_right _ (of_decide_eq_true (by first | (with_reducible assumption) | assumption) : (l0_0.length : Int).toNat ≤ 281474976710656)) (by omega)) (Below.refl _ _) (Nat.le_refl _) ?_; intro v168 w8 ho9 hb hg_ hnew_; clear hg_ hnew_; (first | rw [← Ny167.out] at ho9 | (simp only [Int.reduceToNat] at ho9; rw [← Ny167.out] at ho9)); have n0_ := aM (Kd.R_lower ho9 (below_size (by repeat (first | (with_reducible first | exact HB.out | apply bA | apply bN | apply bD | refine below_set ?_ GE166.out) | exact HB.out)))); have n1_ := aM (blk_below (g := gb166) (o := .cells #[.slice A0_0 l0_0.length c0_0] 24 (0, 0)) (by (with_reducible repeat (first | refine kN ?_ _ | refine kD ?_ | refine kA ?_ _)); exact BK166.out) hb); have n2_ := aM (below_step (by repeat (first | (with_reducible first | exact HB.out | apply bA | apply bN | apply bD | refine below_set ?_ GE166.out) | exact HB.out)) hb); clear BK166; clear HB; have HO169 := n0_; have BK166 := n1_; have HB := n2_; clear n0_ n1_ n2_; clear hb ho9) | ((with_reducible refine gate_dst (N := 12) rfl ?_); refine Kd.R_lit (Kd.int .i64) _ 3 ?hg (N := 12) ?hd (xs := ([] : List Int)) (inner := []) (ok := fun _ => True) (okp := fun _ => True) ?hr ?hp (fun _ hk => hk) trivial (Below.refl _ _) (Nat.le_refl _) (by simp) ?_; (case hd => rfl); (case hg => rfl); (case hr => first | (go_simp; done) | (go_simp; rfl)); (case hp => exact (Reps.none _ _)); intro v171 w10 ho11 hb hg_ hnew_; clear hg_ hnew_; (first | rw [← Ny170.out] at ho11 | (simp only [Int.reduceToNat] at ho11; rw [← Ny170.out] at ho11)); have n0_ := aM (Kd.R_below (by (with_reducible repeat (first | apply Kd.R_alloc | apply Kd.R_drewN | apply Kd.R_drew)); exact HO169.out) hb); have n1_ := aM (Kd.R_lower ho11 (below_size (by repeat (first | (with_reducible first | exact HB.out | apply bA | apply bN | apply bD | refine below_set ?_ GE166.out) | exact HB.out)))); have n2_ := aM (blk_below (g := gb166) (o := .cells #[.slice A0_0 l0_0.length c0_0] 24 (0, 0)) (by (with_reducible repeat (first | refine kN ?_ _ | refine kD ?_ | refine kA ?_ _)); exact BK166.out) hb); have n3_ := aM (below_step (by repeat (first | (with_reducible first | exact HB.out | apply bA | apply bN | apply bD | refine below_set ?_ GE166.out) | exact HB.out)) hb); clear HO169; clear BK166; clear HB; have HO169 := n0_; have HO172 := n1_; have BK166 := n2_; have HB := n3_; clear n0_ n1_ n2_ n3_; clear hb ho11) | ((with_reducible refine gate_builtin (b := .append) (xs := #[.tmp 12, .tmp 13]) rfl ?_); at_builtin; refine Kd.R_append_rows (Kd.int .i64) (w0 := w) w.heap.size rfl (.tmp 12) (.tmp 13) 32 3 (.int .i64 0) 8 rfl Try.underlying32 info3 rfl (by decide) (by omega) v171 y170 l1 _ _ _ (fun _ => True) (fun _ => False) rfl rfl ?aO ?aR (fun _ _ h => h) (fun _ h => h.elim) ?aF ?aB ?aS ?aL ?_; (case aR => repeat (first | exact (Kd.C_below HR1.out HB.out) | (with_reducible refine Kd.C_alloc ?_ _) | (with_reducible refine Kd.C_drewN ?_ _) | (with_reducible refine Kd.C_drew ?_))); (case aB => exact (by repeat (first | (with_reducible first | exact HB.out | apply bA | apply bN | apply bD | refine below_set ?_ GE166.out) | exact HB.out))); (case aF => exact (fun _ _ => trivial)); (case aO => exact (by (with_reducible repeat (first | apply Kd.R_alloc | apply Kd.R_drewN | apply Kd.R_drew)); exact HO172.out)); (case aS => exact (below_size (by repeat (first | (with_reducible first | exact HB.out | apply bA | apply bN | apply bD | refine below_set ?_ GE166.out) | exact HB.out)))); (case aL => have := LMc5.out; omega); intro v174 w12 ho hb hg hat; rw [← Ny173.out] at ho; have n0_ := aM (blk_grown (g := gb166) (o := .cells #[.slice A0_0 l0_0.length c0_0] 24 (0, 0)) (by (with_reducible repeat (first | refine kN ?_ _ | refine kD ?_ | refine kA ?_ _)); exact BK166.out) hg (Kd.R_ne HO172.out BK166.out (by decide))); have n1_ := aM (Kd.R_over' (by (with_reducible repeat (first | apply Kd.R_alloc | apply Kd.R_drewN | apply Kd.R_drew)); exact HO169.out) (Kd.R_typed (by (with_reducible repeat (first | apply Kd.R_alloc | apply Kd.R_drewN | apply Kd.R_drew)); exact HO172.out)) (by decide) hg); have n2_ := aM (hb); have n3_ := aM (ho); clear BK166; clear HO169; clear HB; clear HO172; have BK166 := n0_; have HO169 := n1_; have HB := n2_; have HO175 := n3_; clear n0_ n1_ n2_ n3_; clear ho hb hg hat))
        go_loopg [6] k (fun kq v6 w' => ∃ (x5_1 : List Bool) (x6_1 : List Int), Aside0 (lazycref09_from.l0 kq x5_1 x6_1 l0_0 = some r) ∧ Aside0 (kq ≤ k) ∧ Aside0 (Kd.R Kd.bool 4 w' w.heap.size (fun _ => True) v168 x5_1) ∧ Aside0 (Kd.R (Kd.int .i64) 3 w' w.heap.size (fun _ => True) v6 x6_1) ∧ Aside0 (w'.heap[gb166]? = some (.cells #[(.slice A0_0 l0_0.length c0_0)] 24 (0, 0))) ∧ Aside0 (Below w.heap.size w w'))
        case atStart => exact ⟨(y167), (y173), H', ⟨Nat.le_refl _⟩, ⟨by (with_reducible repeat (first | apply Kd.R_alloc | apply Kd.R_drewN | apply Kd.R_drew)); exact HO169.out⟩, ⟨by (with_reducible repeat (first | apply Kd.R_alloc | apply Kd.R_drewN | apply Kd.R_drew)); exact HO175.out⟩, ⟨by (with_reducible repeat (first | refine kN ?_ _ | refine kD ?_ | refine kA ?_ _)); exact BK166.out⟩, ⟨by repeat (first | (with_reducible first | exact HB.out | apply bA | apply bN | apply bD | refine below_set ?_ GE166.out) | exact HB.out)⟩⟩
        case round =>
          clear H'
          try clear c1
          try clear p2
          try clear c3
          try clear c3b0
          try clear c3b1
          try clear c4
          try clear c4b0
          try clear c4b1
          try clear c5
          try clear hcz7_0
          try clear hfz7_0
          obtain ⟨x5_1, x6_1, HA, HK1, HO_5, HO_6, BK166, HB⟩ := hrel
          cases gk with
          | zero => exact absurd HA.out (by simp [lazycref09_from.l0])
          | succ k1 =>
            have H := HA.out
            clear HA
            simp only [lazycref09_from.l0] at H
            by_cases c13 : (x6_1.length : Int) > 0
            · rw [if_pos c13] at H
              have c13b0 : decide (0 < (x6_1.length : Int)) = true := decide_eq_true c13
              have c13b1 : decide (0 < x6_1.length) = true := decide_eq_true (by omega)
              clear c13
              obtain ⟨ji14, hji14⟩ : ∃ j_ : Int, (wrap64 ((x6_1.length : Int) - 1)) = j_ := ⟨_, rfl⟩
              replace H : (if 0 ≤ (ji14) then (if (ji14) < (x6_1.length : Int) then (if (ji14) ≤ (x6_1.length : Int) then ((some (x6_1.take ((ji14) : Int).toNat : List Int)).bind fun y177 => (if 0 ≤ (rd x6_1 (ji14)) then (if (rd x6_1 (ji14)) < (x5_1.length : Int) then (if (rdOf false x5_1 (rd x6_1 (ji14)) = true) then (lazycref09_from.l0 k1 x5_1 y177 l0_0) else (if (rd x6_1 (ji14)) < (l0_0.length : Int) then (if y177.length + (rd_L1 l0_0 (rd x6_1 (ji14))).length < 17592186044416 then (lazycref09_from.l0 k1 (x5_1.set ((rd x6_1 (ji14)) : Int).toNat true) (y177 ++ (rd_L1 l0_0 (rd x6_1 (ji14)))) l0_0) else (none)) else (none))) else (none)) else (none))) else (none)) else (none)) else (none)) = some r := by first | (rw [hji14] at H; exact H) | (simp only [hji14] at H ⊢; exact H)
              have hji14w : (IntKind.i64.wrap ((x6_1.length : Int) - 1)) = ji14 := (i64_w _).trans hji14
              by_cases c15 : 0 ≤ (ji14)
              · rw [if_pos c15] at H
                have c15b0 : decide (0 ≤ (ji14)) = true := decide_eq_true c15
                clear c15
                by_cases c16 : (ji14) < (x6_1.length : Int)
                · rw [if_pos c16] at H
                  have c16b0 : decide ((ji14) < (x6_1.length : Int)) = true := decide_eq_true c16
                  clear c16
                  by_cases c17 : (ji14) ≤ (x6_1.length : Int)
                  · rw [if_pos c17] at H
                    have c17b0 := eq_true c17
                    have c17b1 : decide ((ji14) ≤ (x6_1.length : Int)) = true := decide_eq_true c17
                    clear c17
                    obtain ⟨y177, hy177⟩ : ∃ y_ : List Int, y_ = (x6_1.take ((ji14) : Int).toNat) := ⟨_, rfl⟩
                    replace H : (if 0 ≤ (rd x6_1 (ji14)) then (if (rd x6_1 (ji14)) < (x5_1.length : Int) then (if (rdOf false x5_1 (rd x6_1 (ji14)) = true) then (lazycref09_from.l0 k1 x5_1 y177 l0_0) else (if (rd x6_1 (ji14)) < (l0_0.length : Int) then (if y177.length + (rd_L1 l0_0 (rd x6_1 (ji14))).length < 17592186044416 then (lazycref09_from.l0 k1 (x5_1.set ((rd x6_1 (ji14)) : Int).toNat true) (y177 ++ (rd_L1 l0_0 (rd x6_1 (ji14)))) l0_0) else (none)) else (none))) else (none)) else (none)) = some r := by first | (rw [hy177]; with_reducible exact H) | (have H2_ := (Option.bind_some _ _).symm.trans H; rw [hy177]; with_reducible exact H2_) | (have H2_ := (Option.bind_some _ _).symm.trans H; with_reducible exact H2_) | with_reducible exact H | (rw [hy177]; exact H) | exact H
                    have Ny177 := aM hy177
                    clear hy177
                    by_cases c18 : 0 ≤ (rd x6_1 (ji14))
                    · rw [if_pos c18] at H
                      have c18b0 : decide (0 ≤ (rd x6_1 (ji14))) = true := decide_eq_true c18
                      clear c18
                      by_cases c19 : (rd x6_1 (ji14)) < (x5_1.length : Int)
                      · rw [if_pos c19] at H
                        have c19b0 : decide ((rd x6_1 (ji14)) < (x5_1.length : Int)) = true := decide_eq_true c19
                        clear c19
                        obtain ⟨bq20, hbq20⟩ : ∃ b_ : Bool, b_ = (rdOf false x5_1 (rd x6_1 (ji14))) := ⟨_, rfl⟩
                        replace H : (if (bq20 = true) then (lazycref09_from.l0 k1 x5_1 y177 l0_0) else (if (rd x6_1 (ji14)) < (l0_0.length : Int) then (if y177.length + (rd_L1 l0_0 (rd x6_1 (ji14))).length < 17592186044416 then (lazycref09_from.l0 k1 (x5_1.set ((rd x6_1 (ji14)) : Int).toNat true) (y177 ++ (rd_L1 l0_0 (rd x6_1 (ji14)))) l0_0) else (none)) else (none))) = some r := by rw [← hbq20] at H; exact H
                        have Nbq20 := aM hbq20
                        clear hbq20
                        by_cases c21 : (bq20 = true)
                        · subst c21
                          have H1 : (lazycref09_from.l0 k1 x5_1 y177 l0_0) = some r := by rw [if_pos rfl] at H; exact H
                          clear H
                          have H := H1
                          clear H1
                          have H' := aM H
                          clear H
                          obtain ⟨Ao22, co22, eo22⟩ := Kd.R_slice HO_6.out
                          subst eo22
                          have p176 : 0 ≤ ((ji14) : Int) := of_decide_eq_true (by first | (with_reducible assumption) | assumption)
                          have q176 : (ji14) < (x6_1.length : Int) := of_decide_eq_true (by first | (with_reducible assumption) | assumption)
                          obtain ⟨ad176, e176, hx176_0⟩ := Kd.at_int (Kd.R_reads' HO_6.out).2.2 (ji14) p176 q176
                          cases e176
                          replace p176 := eq_true p176
                          replace q176 := eq_true q176
                          have q23 : ((ji14) : Int) ≤ ((x6_1.length : Int) : Int) := of_decide_eq_true (by first | (with_reducible assumption) | assumption)
                          obtain ⟨i023, hi023, _, hsz23, _⟩ := info_parts info3
                          have hcut23 := cut_to (P := Try.prog) 32 3 .i64 Try.underlying32 hi023 (some ad176) x6_1.length co22 (ji14) (of_decide_eq_true (by first | (with_reducible assumption) | assumption)) q23 (Kd.R_reads' HO_6.out).2.1
                          have hr23 := Kd.R_take (m := ((ji14) : Int).toNat) HO_6.out (by omega)
                          have hy23 : y177.length = ((ji14) : Int).toNat := (by rw [Ny177.out, List.length_take]; omega)
                          rw [← Ny177.out] at hr23
                          rw [← hy23] at hr23 hcut23
                          clear hy23 hi023 hsz23 HO_6
                          have HO179 := aM hr23
                          clear hr23
                          replace q23 := eq_true q23
                          obtain ⟨Ao24, co24, eo24⟩ := Kd.R_slice HO_5.out
                          subst eo24
                          have p180 : 0 ≤ ((rd x6_1 (ji14)) : Int) := of_decide_eq_true (by first | (with_reducible assumption) | assumption)
                          have q180 : (rd x6_1 (ji14)) < (x5_1.length : Int) := of_decide_eq_true (by first | (with_reducible assumption) | assumption)
                          obtain ⟨ad180, e180, hx180_0⟩ := Kd.at_bool (Kd.R_reads' HO_5.out).2.2 (rd x6_1 (ji14)) p180 q180
                          (try rw [← Nbq20.out] at hx180_0)
                          cases e180
                          replace p180 := eq_true p180
                          replace q180 := eq_true q180
                          go_wp2
                          go_roundg k1
                          case measure => have := HK1.out; omega
                          case rel => exact ⟨(x5_1), (y177), H', ⟨by have := HK1.out; omega⟩, ⟨by (with_reducible repeat (first | apply Kd.R_alloc | apply Kd.R_drewN | apply Kd.R_drew)); exact HO_5.out⟩, ⟨by (with_reducible repeat (first | apply Kd.R_alloc | apply Kd.R_drewN | apply Kd.R_drew)); exact HO179.out⟩, ⟨by (with_reducible repeat (first | refine kN ?_ _ | refine kD ?_ | refine kA ?_ _)); exact BK166.out⟩, ⟨by repeat (first | (with_reducible first | exact HB.out | apply bA | apply bN | apply bD | refine below_set ?_ GE166.out) | exact HB.out)⟩⟩
                        · replace c21 := Bool.eq_false_iff.mpr c21
                          subst c21
                          have H1 : (if (rd x6_1 (ji14)) < (l0_0.length : Int) then (if y177.length + (rd_L1 l0_0 (rd x6_1 (ji14))).length < 17592186044416 then (lazycref09_from.l0 k1 (x5_1.set ((rd x6_1 (ji14)) : Int).toNat true) (y177 ++ (rd_L1 l0_0 (rd x6_1 (ji14)))) l0_0) else (none)) else (none)) = some r := by rw [if_neg (show ¬ (false = true) by decide)] at H; exact H
                          clear H
                          have H := H1
                          clear H1
                          obtain ⟨y181, hy181⟩ : ∃ y_ : List Bool, y_ = (x5_1.set ((rd x6_1 (ji14)) : Int).toNat true) := ⟨_, rfl⟩
                          replace H : (if (rd x6_1 (ji14)) < (l0_0.length : Int) then (if y177.length + (rd_L1 l0_0 (rd x6_1 (ji14))).length < 17592186044416 then (lazycref09_from.l0 k1 y181 (y177 ++ (rd_L1 l0_0 (rd x6_1 (ji14)))) l0_0) else (none)) else (none)) = some r := by first | (rw [hy181]; with_reducible exact H) | (have H2_ := (Option.bind_some _ _).symm.trans H; rw [hy181]; with_reducible exact H2_) | (have H2_ := (Option.bind_some _ _).symm.trans H; with_reducible exact H2_) | with_reducible exact H | (rw [hy181]; exact H) | exact H
                          have Ny181 := aM hy181
                          clear hy181
                          by_cases c26 : (rd x6_1 (ji14)) < (l0_0.length : Int)
                          · rw [if_pos c26] at H
                            have c26b0 : decide ((rd x6_1 (ji14)) < (l0_0.length : Int)) = true := decide_eq_true c26
                            clear c26
                            by_cases c27 : y177.length + (rd_L1 l0_0 (rd x6_1 (ji14))).length < 17592186044416
                            · rw [if_pos c27] at H
                              have LMc27 := aM c27
                              clear c27
                              obtain ⟨y183, hy183⟩ : ∃ y_ : List Int, y_ = (y177 ++ (rd_L1 l0_0 (rd x6_1 (ji14)))) := ⟨_, rfl⟩
                              replace H : (lazycref09_from.l0 k1 y181 y183 l0_0) = some r := by first | (rw [hy183]; with_reducible exact H) | (have H2_ := (Option.bind_some _ _).symm.trans H; rw [hy183]; with_reducible exact H2_) | (have H2_ := (Option.bind_some _ _).symm.trans H; with_reducible exact H2_) | with_reducible exact H | (rw [hy183]; exact H) | exact H
                              have Ny183 := aM hy183
                              clear hy183
                              have H' := aM H
                              clear H
                              obtain ⟨Ao28, co28, eo28⟩ := Kd.R_slice HO_6.out
                              subst eo28
                              have p176 : 0 ≤ ((ji14) : Int) := of_decide_eq_true (by first | (with_reducible assumption) | assumption)
                              have q176 : (ji14) < (x6_1.length : Int) := of_decide_eq_true (by first | (with_reducible assumption) | assumption)
                              obtain ⟨ad176, e176, hx176_0⟩ := Kd.at_int (Kd.R_reads' HO_6.out).2.2 (ji14) p176 q176
                              cases e176
                              replace p176 := eq_true p176
                              replace q176 := eq_true q176
                              have q29 : ((ji14) : Int) ≤ ((x6_1.length : Int) : Int) := of_decide_eq_true (by first | (with_reducible assumption) | assumption)
                              obtain ⟨i029, hi029, _, hsz29, _⟩ := info_parts info3
                              have hcut29 := cut_to (P := Try.prog) 32 3 .i64 Try.underlying32 hi029 (some ad176) x6_1.length co28 (ji14) (of_decide_eq_true (by first | (with_reducible assumption) | assumption)) q29 (Kd.R_reads' HO_6.out).2.1
                              have hr29 := Kd.R_take (m := ((ji14) : Int).toNat) HO_6.out (by omega)
                              have hy29 : y177.length = ((ji14) : Int).toNat := (by rw [Ny177.out, List.length_take]; omega)
                              rw [← Ny177.out] at hr29
                              rw [← hy29] at hr29 hcut29
                              clear hy29 hi029 hsz29 HO_6
                              have HO179 := aM hr29
                              clear hr29
                              replace q29 := eq_true q29
                              obtain ⟨Ao30, co30, eo30⟩ := Kd.R_slice HO_5.out
                              subst eo30
                              have p180 : 0 ≤ ((rd x6_1 (ji14)) : Int) := of_decide_eq_true (by first | (with_reducible assumption) | assumption)
                              have q180 : (rd x6_1 (ji14)) < (x5_1.length : Int) := of_decide_eq_true (by first | (with_reducible assumption) | assumption)
                              obtain ⟨ad180, e180, hx180_0⟩ := Kd.at_bool (Kd.R_reads' HO_5.out).2.2 (rd x6_1 (ji14)) p180 q180
                              (try rw [← Nbq20.out] at hx180_0)
                              cases e180
                              replace p180 := eq_true p180
                              replace q180 := eq_true q180
                              have p25 : 0 ≤ ((rd x6_1 (ji14)) : Int) := of_decide_eq_true (by first | (with_reducible assumption) | assumption)
                              have q25 : ((rd x6_1 (ji14)) : Int) < ((x5_1.length : Int) : Int) := of_decide_eq_true (by first | (with_reducible assumption) | assumption)
                              obtain ⟨go25, co25, eo25, gb25, gl25, cl25, HG25⟩ := Kd.R_form HO_5.out (by omega)
                              (first | cases eo25 | (injection eo25 with ea_ en_ ec_; (first | subst ea_ | (injection ea_ with ea_; subst ea_)); subst ec_; clear en_))
                              have GB25 := aM gb25
                              have GG25 := aM HG25
                              clear gb25 gl25 HG25
                              (first | simp only [add_plain] at hx180_0 | skip)
                              obtain ⟨hx25_0, hf25_0⟩ := Kd.R_celln false HO_5.out ((rd x6_1 (ji14)) : Int) p25 q25
                              replace p25 := eq_true p25
                              replace q25 := eq_true q25
                              have HP31 := Kd.R_putg HO_5.out ((rd x6_1 (ji14)) : Int) true
                              go_wp2_with (first | ((with_reducible refine gate_store (t := 4) (p := 36) rfl ?_); refine store_event (t := 4) (p := 36) (v := ?vo_w32) (w1 := (wr.setCell ⟨go25, ((rd x6_1 (ji14)) : Int).toNat, none⟩ (.bool true))) ?hg ?ho ?hn ?hr ?_; (case ho => rfl); (case hg => rfl); (case hn => rfl); (case hr => first | (go_simp; done) | (go_simp; rfl)); intro w32 hw; have hg : wr.grownBy w32 (some go25) := (by rw [hw]; exact HP31.2); have hp_ : Kd.R Kd.bool 4 w32 w.heap.size (fun _ => True) (.slice (some ⟨go25, 0, none⟩) x5_1.length co30) y181 := (by rw [hw, Ny181.out]; exact HP31.1); clear HP31; have n0_ := aM (hp_); have n1_ := aM (Kd.R_over' (v := (.slice (some ⟨go25, 0, none⟩) x5_1.length co30)) (by (with_reducible repeat (first | apply Kd.R_alloc | apply Kd.R_drewN | apply Kd.R_drew)); exact HO179.out) (Kd.R_typed HO_5.out) (by decide) hg); have n2_ := aM (blk_grown (g := gb166) (o := .cells #[.slice A0_0 l0_0.length c0_0] 24 (0, 0)) (by (with_reducible repeat (first | refine kN ?_ _ | refine kD ?_ | refine kA ?_ _)); exact BK166.out) hg (Kd.R_ne HO_5.out BK166.out (by decide))); have n3_ := aM ((by rw [hw]; exact below_set (HB.out) GB25.out : Below w.heap.size w w32)); clear HO_5; clear HO179; clear BK166; clear HB; have HO_5 := n0_; have HO179 := n1_; have BK166 := n2_; have HB := n3_; clear n0_ n1_ n2_ n3_; clear hg hw hp_; have hcz33_0 : w32.cell? ⟨gb166, 0, none⟩ = some (.slice A0_0 l0_0.length c0_0) := (blk_cell BK166.out 0).trans rfl; have hfz33_0 := blk_frozen BK166.out 0; have p182 : 0 ≤ ((rd x6_1 (ji14)) : Int) := of_decide_eq_true (by first | (with_reducible assumption) | assumption); have q182 : (rd x6_1 (ji14)) < (l0_0.length : Int) := of_decide_eq_true (by first | (with_reducible assumption) | assumption); obtain ⟨ad182, A182_0, c182_0, e182, hx182_0, hl182_0, hi182_0⟩ := at_L1 HR0_0.out (rd x6_1 (ji14)) p182 q182; cases e182; replace hx182_0 := (HB.out.cell (World.block_lt_of_cell? w _ hx182_0)).trans hx182_0; have HR182_0 := aM hi182_0; have HC182_0 := aM hl182_0; clear hi182_0 hl182_0; replace p182 := eq_true p182; replace q182 := eq_true q182) | ((with_reducible refine gate_builtin (b := .append) (xs := #[.tmp 37, .tmp 42]) rfl ?_); at_builtin; refine Kd.R_append_rows (Kd.int .i64) (w0 := w) w.heap.size rfl (.tmp 37) (.tmp 42) 32 3 (.int .i64 0) 8 rfl Try.underlying32 info3 rfl (by decide) (by omega) (.slice (some ad176) y177.length co28) y177 (rd_L1 l0_0 (rd x6_1 (ji14))) _ _ _ (fun _ => True) (fun _ => False) rfl rfl ?aO ?aR (fun _ _ h => h) (fun _ h => h.elim) ?aF ?aB ?aS ?aL ?_; (case aR => repeat (first | exact (Kd.C_below HR182_0.out HB.out) | (with_reducible refine Kd.C_alloc ?_ _) | (with_reducible refine Kd.C_drewN ?_ _) | (with_reducible refine Kd.C_drew ?_))); (case aB => exact (by repeat (first | (with_reducible first | exact HB.out | apply bA | apply bN | apply bD | refine below_set ?_ GE166.out) | exact HB.out))); (case aF => exact (fun _ _ => trivial)); (case aO => exact (by (with_reducible repeat (first | apply Kd.R_alloc | apply Kd.R_drewN | apply Kd.R_drew)); exact HO179.out)); (case aS => exact (below_size (by repeat (first | (with_reducible first | exact HB.out | apply bA | apply bN | apply bD | refine below_set ?_ GE166.out) | exact HB.out)))); (case aL => have := LMc27.out; omega); intro v184 w34 ho hb hg hat; rw [← Ny183.out] at ho; have n0_ := aM (Kd.R_over' (by (with_reducible repeat (first | apply Kd.R_alloc | apply Kd.R_drewN | apply Kd.R_drew)); exact HO_5.out) (Kd.R_typed (by (with_reducible repeat (first | apply Kd.R_alloc | apply Kd.R_drewN | apply Kd.R_drew)); exact HO179.out)) (by decide) hg); have n1_ := aM (blk_grown (g := gb166) (o := .cells #[.slice (some ad182) l0_0.length c0_0] 24 (0, 0)) (by (with_reducible repeat (first | refine kN ?_ _ | refine kD ?_ | refine kA ?_ _)); exact BK166.out) hg (Kd.R_ne HO179.out BK166.out (by decide))); have n2_ := aM (hb); have n3_ := aM (ho); clear HO_5; clear BK166; clear HB; clear HO179; have HO_5 := n0_; have BK166 := n1_; have HB := n2_; have HO185 := n3_; clear n0_ n1_ n2_ n3_; clear ho hb hg hat))
                              go_roundg k1
                              case measure => have := HK1.out; omega
                              case rel => exact ⟨(y181), (y183), H', ⟨by have := HK1.out; omega⟩, ⟨by (with_reducible repeat (first | apply Kd.R_alloc | apply Kd.R_drewN | apply Kd.R_drew)); exact HO_5.out⟩, ⟨by (with_reducible repeat (first | apply Kd.R_alloc | apply Kd.R_drewN | apply Kd.R_drew)); exact HO185.out⟩, ⟨by (with_reducible repeat (first | refine kN ?_ _ | refine kD ?_ | refine kA ?_ _)); exact BK166.out⟩, ⟨by repeat (first | (with_reducible first | exact HB.out | apply bA | apply bN | apply bD | refine below_set ?_ GE166.out) | exact HB.out)⟩⟩
                            · rw [if_neg c27] at H
                              exact absurd H (by simp)
                          · rw [if_neg c26] at H
                            exact absurd H (by simp)
                      · rw [if_neg c19] at H
                        exact absurd H (by simp)
                    · rw [if_neg c18] at H
                      exact absurd H (by simp)
                  · rw [if_neg c17] at H
                    exact absurd H (by simp)
                · rw [if_neg c16] at H
                  exact absurd H (by simp)
              · rw [if_neg c15] at H
                exact absurd H (by simp)
            · rw [if_neg c13] at H
              have c13b0 : decide (0 < (x6_1.length : Int)) = false := decide_eq_false c13
              have c13b1 : decide (0 < x6_1.length) = false := decide_eq_false (by omega)
              clear c13
              obtain rfl := Option.some.inj H
              obtain ⟨Ao35, co35, eo35⟩ := Kd.R_slice HO_6.out
              subst eo35
              go_wp2
              go_ret
              exact ⟨_, by first | rfl | (simp [errW_none, errW_some] <;> rfl) | (simp [*, errW_none, errW_some] <;> rfl), by (with_reducible repeat (first | apply Kd.R_alloc | apply Kd.R_drewN | apply Kd.R_drew)); exact HO_5.out, by repeat (first | (with_reducible first | exact HB.out | apply bA | apply bN | apply bD | refine below_set ?_ GE166.out) | exact HB.out)⟩
      · rw [if_neg c5] at H
        exact absurd H (by simp)
    · rw [if_neg c4] at H
      exact absurd H (by simp)
  · rw [if_neg c3] at H
    exact absurd H (by simp)

end Go.Proofs.Ytpmjpngmmphkmaa.P
/- In a drawn region: what holds behind every operation may be said anew, and more of it, once more is known. -/
namespace Go.Proofs.Ytpmjpngmmphkmaa.P
open Go.RowKit Go.Proofs.YtpmjpngmmphkmaaW.PrintWords Go.Proofs.YtpmjpngmmphkmaaW.PrintLast Go.Proofs.YtpmjpngmmphkmaaW.PrintMore
theorem resay_ {P : Program} {md : Region.Mode} {ops : Array Oper} {Q : Exit → Act → World → Prop} {S S2 : World → Prop} : ∀ {fuel : Nat} {l : Array Bool} {a : Act} {w : World},
    S2 w → (∀ w, S2 w → S w) → wpAnyLast P md ops Q S2 [] fuel l a w → wpAnyLast P md ops Q S [] fuel l a w
  | 0, _, _, _, _, _, h => h
  | _ + 1, _, _, _, h2, hi, h => ⟨h.1, fun i hm => wpOp_mono (fun _ _ h' => ⟨fun hn _ => hi _ (h'.1 hn h2), resay_ (h'.1 (by simp) h2) hi h'.2⟩) (h.2 i hm)⟩
end Go.Proofs.Ytpmjpngmmphkmaa.P
/- slices.Clone at []int: a copy of the elements, in memory of the call's own. -/
namespace Go.Proofs.Ytpmjpngmmphkmaa
namespace P
open Go.RowKit Go.Proofs.YtpmjpngmmphkmaaW.PrintWords Go.Proofs.YtpmjpngmmphkmaaW.PrintLast Go.Proofs.YtpmjpngmmphkmaaW.PrintMore
def slices_Clone_int.f (l : List Int) : Option (List Int) := if l.length < 17592186044416 then some l else none
set_option maxHeartbeats 4000000 in
theorem slices_Clone_int.calls (A0 : Option Addr) (c0 : Nat) (l0 : List Int) (r : List Int) (w : World) (hr0 : Kd.C (Kd.int .i64) w A0 l0.length l0) (hc0 : l0.length ≤ c0) (h : slices_Clone_int.f l0 = some r) :
    Calls Try.prog 43 #[.slice A0 l0.length c0] w fun e w' => ∃ v0_ : Value, e = .returned (v0_) ∧ Kd.R (Kd.int .i64) 3 w' w.heap.size (fun _ => True) v0_ r ∧ Below w.heap.size w w' := by
  unfold slices_Clone_int.f at h
  by_cases hn : l0.length < 17592186044416
  case neg => rw [if_neg hn] at h; cases h
  rw [if_pos hn] at h
  obtain rfl := Option.some.inj h
  have HR := Aside0.mk hr0
  clear h hr0
  cases A0 with
  | none =>
    have hl0 : l0 = [] := by
      cases l0 with
      | nil => rfl
      | cons a l => obtain ⟨_, _, h3⟩ := HR.out; obtain ⟨ad, e, _⟩ := h3 (by simp); cases e
    subst hl0
    have hq := Lib.run_eql_slice_nil (P := Try.prog) w 32 3 none 0 c0 0 0 Try.underlying32
    go_enter Try.func43, Try.ntmps43
    go_wp2
    go_ret
    exact ⟨_, rfl, Kd.R_nil _ _ _ _ _, Below.refl _ _⟩
  | some ad =>
    have OW := Aside0.mk (Kd.R_of_own (h1 := fun _ => rfl) (enc := Value.int .i64) (xs := []) (base := w.heap.size) (ok := fun _ => True) (e := 3) (w := w.alloc (.cells #[] 3)) (v := .slice (some ⟨w.heap.size, 0, none⟩) 0 0) ⟨by simp [encs], .inr ⟨w.heap.size, 0, #[], rfl, Nat.le_refl _, blk_new w _, Nat.le_refl _, Nat.zero_le _, by simp, by simp [encs]⟩⟩ (fun _ _ => trivial))
    have HC := Aside0.mk (Kd.C_below HR.out (below_alloc (Below.refl w.heap.size w) (.cells #[] 3)))
    have hq := Lib.run_eql_slice_nil (P := Try.prog) w 32 3 (some ad) l0.length c0 0 0 Try.underlying32
    go_enter Try.func43, Try.ntmps43
    go_wp2_with ((with_reducible refine gate_builtin (b := .append) (xs := #[.tmp 5, .tmp 6]) rfl ?_); at_builtin; refine Kd.R_append_row (Value.int .i64) (0 : Int) (w0 := w) w.heap.size rfl (.tmp 5) (.tmp 6) 32 3 (.int .i64 0) 8 rfl Try.underlying32 info3 rfl (by decide) (.slice (some ⟨w.heap.size, 0, none⟩) 0 0) [] l0 (some ad) l0.length c0 (fun _ => True) rfl rfl (fun _ _ => trivial) OW.out HC.out (below_alloc (Below.refl w.heap.size w) _) (by simp) (by simp; omega) ?_)
    intro v1 w1 ho hb _ _
    have Ho := Aside0.mk ho
    have Hb := Aside0.mk hb
    clear ho hb
    obtain ⟨A1, q1, rfl⟩ := Kd.R_slice Ho.out
    go_wp2_with fail
    go_ret
    exact ⟨_, rfl, Ho.out, Hb.out⟩
end P
end Go.Proofs.Ytpmjpngmmphkmaa
namespace Go.Proofs.Ytpmjpngmmphkmaa.P
open Go.RowKit Go.Proofs.YtpmjpngmmphkmaaW.PrintWords Go.Proofs.YtpmjpngmmphkmaaW.PrintLast Go.Proofs.YtpmjpngmmphkmaaW.PrintMore
attribute [local go_sem] max2_int min2_int max_two min_two max_three min_three max_four min_four   -- for this text's walks alone
set_option linter.unusedVariables false
set_option linter.unusedSimpArgs false

/-! ### slices_Contains_int_int: function 31 -/
noncomputable def slices_Contains_int_int.f (k : Nat) (l0 : List Int) (a1 : Int) : Option (Bool) := (slices_Index_int_int.f k l0 a1).bind fun t117 => (some (decide (t117 ≥ 0)))
theorem slices_Contains_int_int.mono : ∀ a0 a1 k, LeO (slices_Contains_int_int.f k a0 a1) (slices_Contains_int_int.f (k + 1) a0 a1) := by
  intro a0 a1 k
  unfold slices_Contains_int_int.f
  repeat' first
      | (with_reducible exact slices_Index_int_int.mono _ _ _)
      | (with_reducible exact LeO.refl _)
      | (with_reducible exact LeO.none _)
      | (with_reducible refine LeO.ite ?_ ?_)
      | (with_reducible refine LeO.bind ?_ (fun _ => ?_))
      | exact slices_Index_int_int.mono _ _ _
      | exact LeO.none _
      | refine LeO.ite ?_ ?_
      | refine LeO.bind ?_ (fun _ => ?_)
set_option maxHeartbeats 8000000 in
set_option maxRecDepth 100000 in
theorem slices_Contains_int_int.calls (k : Nat) (A0 : Option Addr) (c0 : Nat) (l0 : List Int) (a1 : Int) (r : Bool) (w : World) (hr0 : Kd.C (Kd.int .i64) w A0 l0.length l0) (hc0 : l0.length ≤ c0) (h : slices_Contains_int_int.f k l0 a1 = some r) :
    Calls Try.prog 31 #[.slice A0 l0.length c0, .int .i64 a1] w fun e w' => e = .returned (.bool r) ∧ Drawn0 w w' := by
  have HR0 := aM hr0
  have HC0 := aM hc0
  clear hr0 hc0
  have H : ((slices_Index_int_int.f k l0 a1).bind fun t117 => (some (decide (t117 ≥ 0)))) = some r := h
  clear h
  replace H := Option.bind_eq_some_iff.mp H
  obtain ⟨t117, A30, H⟩ := H
  replace H : (some (decide (t117 ≥ 0))) = some r := H
  have A3 := aM A30
  clear A30
  obtain rfl := Option.some.inj H
  go_enter Try.func31, Try.ntmps31
  go_wp2_with (first | ((with_reducible refine gate_callee (f := 42) rfl ?_); refine goesL_ (some 7) rfl rfl Try.func42 (by kernel_rfl) rfl #[.slice A0 l0.length c0, .int .i64 a1] rfl (by (try simp only [List.map_toArray, List.map_cons, List.map_nil]); first | done | rfl | (simp only [List.length_drop, List.length_take]; rfl)) ?_; (with_reducible refine (slices_Index_int_int.calls k _ _ l0 a1 t117 _ ?side1 ?side2 A3.out).mono ?_); (case side1 => repeat (first | exact HR0.out | (with_reducible refine Kd.C_alloc ?_ _) | (with_reducible refine Kd.C_drewN ?_ _) | (with_reducible refine Kd.C_drew ?_))); (case side2 => exact HC0.out); rintro e w' ⟨rfl, ⟨nd, rfl⟩⟩; refine ⟨_, rfl, ?_⟩))
  go_ret
  exact ⟨by first | rfl | (simp; done) | (simp [*]; done), by repeat (first | exact Drawn0.refl _ | apply Drawn0.step)⟩

/-! ### graph_reached: function 33 -/
noncomputable def graph_reached.l0 : Nat → List (List Int) → List Bool → List Int → Option (List Bool)
  | 0, _, _, _ => none
  | k + 1, x0, x5, x6 => if (x6.length : Int) > 0 then (if 0 ≤ (wrap64 ((x6.length : Int) - 1)) then (if (wrap64 ((x6.length : Int) - 1)) < (x6.length : Int) then (if (wrap64 ((x6.length : Int) - 1)) ≤ (x6.length : Int) then ((some (x6.take ((wrap64 ((x6.length : Int) - 1)) : Int).toNat : List Int)).bind fun y125 => (if 0 ≤ (rd x6 (wrap64 ((x6.length : Int) - 1))) then (if (rd x6 (wrap64 ((x6.length : Int) - 1))) < (x5.length : Int) then (if (rdOf false x5 (rd x6 (wrap64 ((x6.length : Int) - 1))) = true) then (graph_reached.l0 k x0 x5 y125) else (if (rd x6 (wrap64 ((x6.length : Int) - 1))) < (x0.length : Int) then (if y125.length + (rd_L1 x0 (rd x6 (wrap64 ((x6.length : Int) - 1)))).length < 17592186044416 then (graph_reached.l0 k x0 (x5.set ((rd x6 (wrap64 ((x6.length : Int) - 1))) : Int).toNat true) (y125 ++ (rd_L1 x0 (rd x6 (wrap64 ((x6.length : Int) - 1)))))) else (none)) else (none))) else (none)) else (none))) else (none)) else (none)) else (none)) else (some x5)
noncomputable def graph_reached.f (k : Nat) (l0 : List (List Int)) (l1 : List Int) : Option (List Bool) := if 0 ≤ (l0.length : Int) then (if ((l0.length : Int) : Int).toNat ≤ 281474976710656 then ((slices_Clone_int.f l1).bind fun t121 => (graph_reached.l0 k l0 (List.replicate ((l0.length : Int) : Int).toNat false) t121)) else (none)) else (none)
theorem graph_reached.mono_l : ∀ k, (∀ y0 y1 y2, LeO (graph_reached.l0 k y0 y1 y2) (graph_reached.l0 (k + 1) y0 y1 y2))
  | 0 => fun _ _ _ r h => by simp [graph_reached.l0] at h
  | k + 1 => by
    have ih0 := graph_reached.mono_l k
    · intro y0 y1 y2
      unfold graph_reached.l0
      repeat' first
      | (with_reducible exact ih0 _ _ _)
      | (with_reducible exact LeO.refl _)
      | (with_reducible exact LeO.none _)
      | (with_reducible refine LeO.ite ?_ ?_)
      | (with_reducible refine LeO.bind ?_ (fun _ => ?_))
      | exact ih0 _ _ _
      | exact LeO.none _
      | refine LeO.ite ?_ ?_
      | refine LeO.bind ?_ (fun _ => ?_)
theorem graph_reached.mono : ∀ a0 a1 k, LeO (graph_reached.f k a0 a1) (graph_reached.f (k + 1) a0 a1) := by
  intro a0 a1 k
  have ih0 := graph_reached.mono_l k
  unfold graph_reached.f
  repeat' first
      | (with_reducible exact ih0 _ _ _)
      | (with_reducible exact LeO.refl _)
      | (with_reducible exact LeO.none _)
      | (with_reducible refine LeO.ite ?_ ?_)
      | (with_reducible refine LeO.bind ?_ (fun _ => ?_))
      | exact ih0 _ _ _
      | exact LeO.none _
      | refine LeO.ite ?_ ?_
      | refine LeO.bind ?_ (fun _ => ?_)
set_option maxHeartbeats 8000000 in
set_option maxRecDepth 100000 in
theorem graph_reached.calls (k : Nat) (A0 : Option Addr) (c0 : Nat) (l0 : List (List Int)) (A1 : Option Addr) (c1 : Nat) (l1 : List Int) (r : List Bool) (w : World) (hr0 : Kd.C (Kd.slice 3 (Kd.int .i64)) w A0 l0.length l0) (hc0 : l0.length ≤ c0) (hr1 : Kd.C (Kd.int .i64) w A1 l1.length l1) (hc1 : l1.length ≤ c1) (h : graph_reached.f k l0 l1 = some r) :
    Calls Try.prog 33 #[.slice A0 l0.length c0, .slice A1 l1.length c1] w fun e w' => ∃ v0_ : Value, e = .returned (v0_) ∧ Kd.R Kd.bool 4 w' w.heap.size (fun _ => True) v0_ r ∧ Below w.heap.size w w' := by
  have HR0 := aM hr0
  have HC0 := aM hc0
  clear hr0 hc0
  have HR1 := aM hr1
  have HC1 := aM hc1
  clear hr1 hc1
  have HB := aM (Below.refl w.heap.size w)
  have H : (if 0 ≤ (l0.length : Int) then (if ((l0.length : Int) : Int).toNat ≤ 281474976710656 then ((slices_Clone_int.f l1).bind fun t121 => (graph_reached.l0 k l0 (List.replicate ((l0.length : Int) : Int).toNat false) t121)) else (none)) else (none)) = some r := h
  clear h
  by_cases c3 : 0 ≤ (l0.length : Int)
  · rw [if_pos c3] at H
    have c3b0 := eq_true c3
    have c3b1 : decide (0 ≤ (l0.length : Int)) = true := decide_eq_true c3
    clear c3
    by_cases c4 : ((l0.length : Int) : Int).toNat ≤ 281474976710656
    · rw [if_pos c4] at H
      have c4b0 := eq_true c4
      have c4b1 : decide (((l0.length : Int) : Int).toNat ≤ 281474976710656) = true := decide_eq_true c4
      clear c4
      obtain ⟨y118, hy118⟩ : ∃ y_ : List Bool, y_ = (List.replicate ((l0.length : Int) : Int).toNat false) := ⟨_, rfl⟩
      replace H : ((slices_Clone_int.f l1).bind fun t121 => (graph_reached.l0 k l0 y118 t121)) = some r := by first | (rw [hy118]; with_reducible exact H) | (have H2_ := (Option.bind_some _ _).symm.trans H; rw [hy118]; with_reducible exact H2_) | (have H2_ := (Option.bind_some _ _).symm.trans H; with_reducible exact H2_) | with_reducible exact H | (rw [hy118]; exact H) | exact H
      have Ny118 := aM hy118
      clear hy118
      replace H := Option.bind_eq_some_iff.mp H
      obtain ⟨t121, A50, H⟩ := H
      replace H : (graph_reached.l0 k l0 y118 t121) = some r := H
      have A5 := aM A50
      clear A50
      have H' := aM H
      clear H
      go_enter Try.func33, Try.ntmps33
      go_wp2_with (first | ((with_reducible refine gate_dst (N := 10) rfl ?_); refine Kd.R_make Kd.bool _ 4 rfl (N := 10) rfl 48 _ _ rfl (l0.length : Int) rfl rfl Try.underlying48 (.bool false) 1 info4 rfl (by decide) (by omega) false (ok := fun _ => True) (okp := fun _ => True) rfl (fun _ hk => hk) trivial (of_decide_eq_true (by first | (with_reducible assumption) | assumption)) (Nat.le_trans (Nat.mul_le_mul_right _ (of_decide_eq_true (by first | (with_reducible assumption) | assumption) : (l0.length : Int).toNat ≤ 281474976710656)) (by omega)) (Below.refl _ _) (Nat.le_refl _) ?_; intro v119 w6 ho7 hb hg_ hnew_; clear hg_ hnew_; (first | rw [← Ny118.out] at ho7 | (simp only [Int.reduceToNat] at ho7; rw [← Ny118.out] at ho7)); have n0_ := aM (Kd.R_lower ho7 (below_size (by repeat (first | (with_reducible first | exact HB.out | apply bA | apply bN | apply bD) | exact HB.out)))); have n1_ := aM (below_step (by repeat (first | (with_reducible first | exact HB.out | apply bA | apply bN | apply bD) | exact HB.out)) hb); clear HB; have HO120 := n0_; have HB := n1_; clear n0_ n1_; clear hb ho7) | ((with_reducible refine gate_callee (f := 43) rfl ?_); refine goesL_ (some 12) rfl rfl Try.func43 (by kernel_rfl) rfl #[.slice A1 l1.length c1] rfl (by (try simp only [List.map_toArray, List.map_cons, List.map_nil]); first | done | rfl | (simp only [List.length_drop, List.length_take]; rfl)) ?_; (with_reducible refine (slices_Clone_int.calls _ _ l1 t121 _ ?side1 ?side2 A5.out).mono ?_); (case side1 => repeat (first | exact (Kd.C_below HR1.out HB.out) | (with_reducible refine Kd.C_alloc ?_ _) | (with_reducible refine Kd.C_drewN ?_ _) | (with_reducible refine Kd.C_drew ?_))); (case side2 => exact HC1.out); rintro e w8 ⟨v122, rfl, ho0, hb⟩; refine ⟨_, rfl, ?_⟩; have n0_ := aM (Kd.R_below (by (with_reducible repeat (first | apply Kd.R_alloc | apply Kd.R_drewN | apply Kd.R_drew)); exact HO120.out) hb); have n1_ := aM (Kd.R_lower ho0 (below_size (by repeat (first | (with_reducible first | exact HB.out | apply bA | apply bN | apply bD) | exact HB.out)))); have n2_ := aM (below_step (by repeat (first | (with_reducible first | exact HB.out | apply bA | apply bN | apply bD) | exact HB.out)) hb); clear HO120; clear HB; have HO120 := n0_; have HO123 := n1_; have HB := n2_; clear n0_ n1_ n2_; (try clear hb); (try clear hb2); (try clear hk); (try clear hi); (try clear ho0)))
      go_loopg [6] k (fun kq v6 w' => ∃ (x5_1 : List Bool) (x6_1 : List Int), Aside0 (graph_reached.l0 kq l0 x5_1 x6_1 = some r) ∧ Aside0 (kq ≤ k) ∧ Aside0 (Kd.R Kd.bool 4 w' w.heap.size (fun _ => True) v119 x5_1) ∧ Aside0 (Kd.R (Kd.int .i64) 3 w' w.heap.size (fun _ => True) v6 x6_1) ∧ Aside0 (Below w.heap.size w w'))
      case atStart => exact ⟨(y118), (t121), H', ⟨Nat.le_refl _⟩, ⟨by (with_reducible repeat (first | apply Kd.R_alloc | apply Kd.R_drewN | apply Kd.R_drew)); exact HO120.out⟩, ⟨by (with_reducible repeat (first | apply Kd.R_alloc | apply Kd.R_drewN | apply Kd.R_drew)); exact HO123.out⟩, ⟨by repeat (first | (with_reducible first | exact HB.out | apply bA | apply bN | apply bD) | exact HB.out)⟩⟩
      case round =>
        clear H'
        try clear c1
        try clear p2
        try clear c3
        try clear c3b0
        try clear c3b1
        try clear c4
        try clear c4b0
        try clear c4b1
        obtain ⟨x5_1, x6_1, HA, HK1, HO_5, HO_6, HB⟩ := hrel
        cases gk with
        | zero => exact absurd HA.out (by simp [graph_reached.l0])
        | succ k1 =>
          have H := HA.out
          clear HA
          simp only [graph_reached.l0] at H
          by_cases c9 : (x6_1.length : Int) > 0
          · rw [if_pos c9] at H
            have c9b0 : decide (0 < (x6_1.length : Int)) = true := decide_eq_true c9
            have c9b1 : decide (0 < x6_1.length) = true := decide_eq_true (by omega)
            clear c9
            obtain ⟨ji10, hji10⟩ : ∃ j_ : Int, (wrap64 ((x6_1.length : Int) - 1)) = j_ := ⟨_, rfl⟩
            replace H : (if 0 ≤ (ji10) then (if (ji10) < (x6_1.length : Int) then (if (ji10) ≤ (x6_1.length : Int) then ((some (x6_1.take ((ji10) : Int).toNat : List Int)).bind fun y125 => (if 0 ≤ (rd x6_1 (ji10)) then (if (rd x6_1 (ji10)) < (x5_1.length : Int) then (if (rdOf false x5_1 (rd x6_1 (ji10)) = true) then (graph_reached.l0 k1 l0 x5_1 y125) else (if (rd x6_1 (ji10)) < (l0.length : Int) then (if y125.length + (rd_L1 l0 (rd x6_1 (ji10))).length < 17592186044416 then (graph_reached.l0 k1 l0 (x5_1.set ((rd x6_1 (ji10)) : Int).toNat true) (y125 ++ (rd_L1 l0 (rd x6_1 (ji10))))) else (none)) else (none))) else (none)) else (none))) else (none)) else (none)) else (none)) = some r := by first | (rw [hji10] at H; exact H) | (simp only [hji10] at H ⊢; exact H)
            have hji10w : (IntKind.i64.wrap ((x6_1.length : Int) - 1)) = ji10 := (i64_w _).trans hji10
            by_cases c11 : 0 ≤ (ji10)
            · rw [if_pos c11] at H
              have c11b0 : decide (0 ≤ (ji10)) = true := decide_eq_true c11
              clear c11
              by_cases c12 : (ji10) < (x6_1.length : Int)
              · rw [if_pos c12] at H
                have c12b0 : decide ((ji10) < (x6_1.length : Int)) = true := decide_eq_true c12
                clear c12
                by_cases c13 : (ji10) ≤ (x6_1.length : Int)
                · rw [if_pos c13] at H
                  have c13b0 := eq_true c13
                  have c13b1 : decide ((ji10) ≤ (x6_1.length : Int)) = true := decide_eq_true c13
                  clear c13
                  obtain ⟨y125, hy125⟩ : ∃ y_ : List Int, y_ = (x6_1.take ((ji10) : Int).toNat) := ⟨_, rfl⟩
                  replace H : (if 0 ≤ (rd x6_1 (ji10)) then (if (rd x6_1 (ji10)) < (x5_1.length : Int) then (if (rdOf false x5_1 (rd x6_1 (ji10)) = true) then (graph_reached.l0 k1 l0 x5_1 y125) else (if (rd x6_1 (ji10)) < (l0.length : Int) then (if y125.length + (rd_L1 l0 (rd x6_1 (ji10))).length < 17592186044416 then (graph_reached.l0 k1 l0 (x5_1.set ((rd x6_1 (ji10)) : Int).toNat true) (y125 ++ (rd_L1 l0 (rd x6_1 (ji10))))) else (none)) else (none))) else (none)) else (none)) = some r := by first | (rw [hy125]; with_reducible exact H) | (have H2_ := (Option.bind_some _ _).symm.trans H; rw [hy125]; with_reducible exact H2_) | (have H2_ := (Option.bind_some _ _).symm.trans H; with_reducible exact H2_) | with_reducible exact H | (rw [hy125]; exact H) | exact H
                  have Ny125 := aM hy125
                  clear hy125
                  by_cases c14 : 0 ≤ (rd x6_1 (ji10))
                  · rw [if_pos c14] at H
                    have c14b0 : decide (0 ≤ (rd x6_1 (ji10))) = true := decide_eq_true c14
                    clear c14
                    by_cases c15 : (rd x6_1 (ji10)) < (x5_1.length : Int)
                    · rw [if_pos c15] at H
                      have c15b0 : decide ((rd x6_1 (ji10)) < (x5_1.length : Int)) = true := decide_eq_true c15
                      clear c15
                      obtain ⟨bq16, hbq16⟩ : ∃ b_ : Bool, b_ = (rdOf false x5_1 (rd x6_1 (ji10))) := ⟨_, rfl⟩
                      replace H : (if (bq16 = true) then (graph_reached.l0 k1 l0 x5_1 y125) else (if (rd x6_1 (ji10)) < (l0.length : Int) then (if y125.length + (rd_L1 l0 (rd x6_1 (ji10))).length < 17592186044416 then (graph_reached.l0 k1 l0 (x5_1.set ((rd x6_1 (ji10)) : Int).toNat true) (y125 ++ (rd_L1 l0 (rd x6_1 (ji10))))) else (none)) else (none))) = some r := by rw [← hbq16] at H; exact H
                      have Nbq16 := aM hbq16
                      clear hbq16
                      by_cases c17 : (bq16 = true)
                      · subst c17
                        have H1 : (graph_reached.l0 k1 l0 x5_1 y125) = some r := by rw [if_pos rfl] at H; exact H
                        clear H
                        have H := H1
                        clear H1
                        have H' := aM H
                        clear H
                        obtain ⟨Ao18, co18, eo18⟩ := Kd.R_slice HO_6.out
                        subst eo18
                        have p124 : 0 ≤ ((ji10) : Int) := of_decide_eq_true (by first | (with_reducible assumption) | assumption)
                        have q124 : (ji10) < (x6_1.length : Int) := of_decide_eq_true (by first | (with_reducible assumption) | assumption)
                        obtain ⟨ad124, e124, hx124_0⟩ := Kd.at_int (Kd.R_reads' HO_6.out).2.2 (ji10) p124 q124
                        cases e124
                        replace p124 := eq_true p124
                        replace q124 := eq_true q124
                        have q19 : ((ji10) : Int) ≤ ((x6_1.length : Int) : Int) := of_decide_eq_true (by first | (with_reducible assumption) | assumption)
                        obtain ⟨i019, hi019, _, hsz19, _⟩ := info_parts info3
                        have hcut19 := cut_to (P := Try.prog) 32 3 .i64 Try.underlying32 hi019 (some ad124) x6_1.length co18 (ji10) (of_decide_eq_true (by first | (with_reducible assumption) | assumption)) q19 (Kd.R_reads' HO_6.out).2.1
                        have hr19 := Kd.R_take (m := ((ji10) : Int).toNat) HO_6.out (by omega)
                        have hy19 : y125.length = ((ji10) : Int).toNat := (by rw [Ny125.out, List.length_take]; omega)
                        rw [← Ny125.out] at hr19
                        rw [← hy19] at hr19 hcut19
                        clear hy19 hi019 hsz19 HO_6
                        have HO127 := aM hr19
                        clear hr19
                        replace q19 := eq_true q19
                        obtain ⟨Ao20, co20, eo20⟩ := Kd.R_slice HO_5.out
                        subst eo20
                        have p128 : 0 ≤ ((rd x6_1 (ji10)) : Int) := of_decide_eq_true (by first | (with_reducible assumption) | assumption)
                        have q128 : (rd x6_1 (ji10)) < (x5_1.length : Int) := of_decide_eq_true (by first | (with_reducible assumption) | assumption)
                        obtain ⟨ad128, e128, hx128_0⟩ := Kd.at_bool (Kd.R_reads' HO_5.out).2.2 (rd x6_1 (ji10)) p128 q128
                        (try rw [← Nbq16.out] at hx128_0)
                        cases e128
                        replace p128 := eq_true p128
                        replace q128 := eq_true q128
                        go_wp2
                        go_roundg k1
                        case measure => have := HK1.out; omega
                        case rel => exact ⟨(x5_1), (y125), H', ⟨by have := HK1.out; omega⟩, ⟨by (with_reducible repeat (first | apply Kd.R_alloc | apply Kd.R_drewN | apply Kd.R_drew)); exact HO_5.out⟩, ⟨by (with_reducible repeat (first | apply Kd.R_alloc | apply Kd.R_drewN | apply Kd.R_drew)); exact HO127.out⟩, ⟨by repeat (first | (with_reducible first | exact HB.out | apply bA | apply bN | apply bD) | exact HB.out)⟩⟩
                      · replace c17 := Bool.eq_false_iff.mpr c17
                        subst c17
                        have H1 : (if (rd x6_1 (ji10)) < (l0.length : Int) then (if y125.length + (rd_L1 l0 (rd x6_1 (ji10))).length < 17592186044416 then (graph_reached.l0 k1 l0 (x5_1.set ((rd x6_1 (ji10)) : Int).toNat true) (y125 ++ (rd_L1 l0 (rd x6_1 (ji10))))) else (none)) else (none)) = some r := by rw [if_neg (show ¬ (false = true) by decide)] at H; exact H
                        clear H
                        have H := H1
                        clear H1
                        obtain ⟨y129, hy129⟩ : ∃ y_ : List Bool, y_ = (x5_1.set ((rd x6_1 (ji10)) : Int).toNat true) := ⟨_, rfl⟩
                        replace H : (if (rd x6_1 (ji10)) < (l0.length : Int) then (if y125.length + (rd_L1 l0 (rd x6_1 (ji10))).length < 17592186044416 then (graph_reached.l0 k1 l0 y129 (y125 ++ (rd_L1 l0 (rd x6_1 (ji10))))) else (none)) else (none)) = some r := by first | (rw [hy129]; with_reducible exact H) | (have H2_ := (Option.bind_some _ _).symm.trans H; rw [hy129]; with_reducible exact H2_) | (have H2_ := (Option.bind_some _ _).symm.trans H; with_reducible exact H2_) | with_reducible exact H | (rw [hy129]; exact H) | exact H
                        have Ny129 := aM hy129
                        clear hy129
                        by_cases c22 : (rd x6_1 (ji10)) < (l0.length : Int)
                        · rw [if_pos c22] at H
                          have c22b0 : decide ((rd x6_1 (ji10)) < (l0.length : Int)) = true := decide_eq_true c22
                          clear c22
                          by_cases c23 : y125.length + (rd_L1 l0 (rd x6_1 (ji10))).length < 17592186044416
                          · rw [if_pos c23] at H
                            have LMc23 := aM c23
                            clear c23
                            obtain ⟨y131, hy131⟩ : ∃ y_ : List Int, y_ = (y125 ++ (rd_L1 l0 (rd x6_1 (ji10)))) := ⟨_, rfl⟩
                            replace H : (graph_reached.l0 k1 l0 y129 y131) = some r := by first | (rw [hy131]; with_reducible exact H) | (have H2_ := (Option.bind_some _ _).symm.trans H; rw [hy131]; with_reducible exact H2_) | (have H2_ := (Option.bind_some _ _).symm.trans H; with_reducible exact H2_) | with_reducible exact H | (rw [hy131]; exact H) | exact H
                            have Ny131 := aM hy131
                            clear hy131
                            have H' := aM H
                            clear H
                            obtain ⟨Ao24, co24, eo24⟩ := Kd.R_slice HO_6.out
                            subst eo24
                            have p124 : 0 ≤ ((ji10) : Int) := of_decide_eq_true (by first | (with_reducible assumption) | assumption)
                            have q124 : (ji10) < (x6_1.length : Int) := of_decide_eq_true (by first | (with_reducible assumption) | assumption)
                            obtain ⟨ad124, e124, hx124_0⟩ := Kd.at_int (Kd.R_reads' HO_6.out).2.2 (ji10) p124 q124
                            cases e124
                            replace p124 := eq_true p124
                            replace q124 := eq_true q124
                            have q25 : ((ji10) : Int) ≤ ((x6_1.length : Int) : Int) := of_decide_eq_true (by first | (with_reducible assumption) | assumption)
                            obtain ⟨i025, hi025, _, hsz25, _⟩ := info_parts info3
                            have hcut25 := cut_to (P := Try.prog) 32 3 .i64 Try.underlying32 hi025 (some ad124) x6_1.length co24 (ji10) (of_decide_eq_true (by first | (with_reducible assumption) | assumption)) q25 (Kd.R_reads' HO_6.out).2.1
                            have hr25 := Kd.R_take (m := ((ji10) : Int).toNat) HO_6.out (by omega)
                            have hy25 : y125.length = ((ji10) : Int).toNat := (by rw [Ny125.out, List.length_take]; omega)
                            rw [← Ny125.out] at hr25
                            rw [← hy25] at hr25 hcut25
                            clear hy25 hi025 hsz25 HO_6
                            have HO127 := aM hr25
                            clear hr25
                            replace q25 := eq_true q25
                            obtain ⟨Ao26, co26, eo26⟩ := Kd.R_slice HO_5.out
                            subst eo26
                            have p128 : 0 ≤ ((rd x6_1 (ji10)) : Int) := of_decide_eq_true (by first | (with_reducible assumption) | assumption)
                            have q128 : (rd x6_1 (ji10)) < (x5_1.length : Int) := of_decide_eq_true (by first | (with_reducible assumption) | assumption)
                            obtain ⟨ad128, e128, hx128_0⟩ := Kd.at_bool (Kd.R_reads' HO_5.out).2.2 (rd x6_1 (ji10)) p128 q128
                            (try rw [← Nbq16.out] at hx128_0)
                            cases e128
                            replace p128 := eq_true p128
                            replace q128 := eq_true q128
                            have p21 : 0 ≤ ((rd x6_1 (ji10)) : Int) := of_decide_eq_true (by first | (with_reducible assumption) | assumption)
                            have q21 : ((rd x6_1 (ji10)) : Int) < ((x5_1.length : Int) : Int) := of_decide_eq_true (by first | (with_reducible assumption) | assumption)
                            obtain ⟨go21, co21, eo21, gb21, gl21, cl21, HG21⟩ := Kd.R_form HO_5.out (by omega)
                            (first | cases eo21 | (injection eo21 with ea_ en_ ec_; (first | subst ea_ | (injection ea_ with ea_; subst ea_)); subst ec_; clear en_))
                            have GB21 := aM gb21
                            have GG21 := aM HG21
                            clear gb21 gl21 HG21
                            (first | simp only [add_plain] at hx128_0 | skip)
                            obtain ⟨hx21_0, hf21_0⟩ := Kd.R_celln false HO_5.out ((rd x6_1 (ji10)) : Int) p21 q21
                            replace p21 := eq_true p21
                            replace q21 := eq_true q21
                            have HP27 := Kd.R_putg HO_5.out ((rd x6_1 (ji10)) : Int) true
                            go_wp2_with (first | ((with_reducible refine gate_store (t := 4) (p := 34) rfl ?_); refine store_event (t := 4) (p := 34) (v := ?vo_w28) (w1 := (wr.setCell ⟨go21, ((rd x6_1 (ji10)) : Int).toNat, none⟩ (.bool true))) ?hg ?ho ?hn ?hr ?_; (case ho => rfl); (case hg => rfl); (case hn => rfl); (case hr => first | (go_simp; done) | (go_simp; rfl)); intro w28 hw; have hg : wr.grownBy w28 (some go21) := (by rw [hw]; exact HP27.2); have hp_ : Kd.R Kd.bool 4 w28 w.heap.size (fun _ => True) (.slice (some ⟨go21, 0, none⟩) x5_1.length co26) y129 := (by rw [hw, Ny129.out]; exact HP27.1); clear HP27; have n0_ := aM (hp_); have n1_ := aM (Kd.R_over' (v := (.slice (some ⟨go21, 0, none⟩) x5_1.length co26)) (by (with_reducible repeat (first | apply Kd.R_alloc | apply Kd.R_drewN | apply Kd.R_drew)); exact HO127.out) (Kd.R_typed HO_5.out) (by decide) hg); have n2_ := aM ((by rw [hw]; exact below_set (HB.out) GB21.out : Below w.heap.size w w28)); clear HO_5; clear HO127; clear HB; have HO_5 := n0_; have HO127 := n1_; have HB := n2_; clear n0_ n1_ n2_; clear hg hw hp_; have p130 : 0 ≤ ((rd x6_1 (ji10)) : Int) := of_decide_eq_true (by first | (with_reducible assumption) | assumption); have q130 : (rd x6_1 (ji10)) < (l0.length : Int) := of_decide_eq_true (by first | (with_reducible assumption) | assumption); obtain ⟨ad130, A130_0, c130_0, e130, hx130_0, hl130_0, hi130_0⟩ := at_L1 HR0.out (rd x6_1 (ji10)) p130 q130; cases e130; replace hx130_0 := (HB.out.cell (World.block_lt_of_cell? w _ hx130_0)).trans hx130_0; have HR130_0 := aM hi130_0; have HC130_0 := aM hl130_0; clear hi130_0 hl130_0; replace p130 := eq_true p130; replace q130 := eq_true q130) | ((with_reducible refine gate_builtin (b := .append) (xs := #[.tmp 35, .tmp 39]) rfl ?_); at_builtin; refine Kd.R_append_rows (Kd.int .i64) (w0 := w) w.heap.size rfl (.tmp 35) (.tmp 39) 32 3 (.int .i64 0) 8 rfl Try.underlying32 info3 rfl (by decide) (by omega) (.slice (some ad124) y125.length co24) y125 (rd_L1 l0 (rd x6_1 (ji10))) _ _ _ (fun _ => True) (fun _ => False) rfl rfl ?aO ?aR (fun _ _ h => h) (fun _ h => h.elim) ?aF ?aB ?aS ?aL ?_; (case aR => repeat (first | exact (Kd.C_below HR130_0.out HB.out) | (with_reducible refine Kd.C_alloc ?_ _) | (with_reducible refine Kd.C_drewN ?_ _) | (with_reducible refine Kd.C_drew ?_))); (case aB => exact (by repeat (first | (with_reducible first | exact HB.out | apply bA | apply bN | apply bD) | exact HB.out))); (case aF => exact (fun _ _ => trivial)); (case aO => exact (by (with_reducible repeat (first | apply Kd.R_alloc | apply Kd.R_drewN | apply Kd.R_drew)); exact HO127.out)); (case aS => exact (below_size (by repeat (first | (with_reducible first | exact HB.out | apply bA | apply bN | apply bD) | exact HB.out)))); (case aL => have := LMc23.out; omega); intro v132 w29 ho hb hg hat; rw [← Ny131.out] at ho; have n0_ := aM (Kd.R_over' (by (with_reducible repeat (first | apply Kd.R_alloc | apply Kd.R_drewN | apply Kd.R_drew)); exact HO_5.out) (Kd.R_typed (by (with_reducible repeat (first | apply Kd.R_alloc | apply Kd.R_drewN | apply Kd.R_drew)); exact HO127.out)) (by decide) hg); have n1_ := aM (hb); have n2_ := aM (ho); clear HO_5; clear HB; clear HO127; have HO_5 := n0_; have HB := n1_; have HO133 := n2_; clear n0_ n1_ n2_; clear ho hb hg hat))
                            go_roundg k1
                            case measure => have := HK1.out; omega
                            case rel => exact ⟨(y129), (y131), H', ⟨by have := HK1.out; omega⟩, ⟨by (with_reducible repeat (first | apply Kd.R_alloc | apply Kd.R_drewN | apply Kd.R_drew)); exact HO_5.out⟩, ⟨by (with_reducible repeat (first | apply Kd.R_alloc | apply Kd.R_drewN | apply Kd.R_drew)); exact HO133.out⟩, ⟨by repeat (first | (with_reducible first | exact HB.out | apply bA | apply bN | apply bD) | exact HB.out)⟩⟩
                          · rw [if_neg c23] at H
                            exact absurd H (by simp)
                        · rw [if_neg c22] at H
                          exact absurd H (by simp)
                    · rw [if_neg c15] at H
                      exact absurd H (by simp)
                  · rw [if_neg c14] at H
                    exact absurd H (by simp)
                · rw [if_neg c13] at H
                  exact absurd H (by simp)
              · rw [if_neg c12] at H
                exact absurd H (by simp)
            · rw [if_neg c11] at H
              exact absurd H (by simp)
          · rw [if_neg c9] at H
            have c9b0 : decide (0 < (x6_1.length : Int)) = false := decide_eq_false c9
            have c9b1 : decide (0 < x6_1.length) = false := decide_eq_false (by omega)
            clear c9
            obtain rfl := Option.some.inj H
            obtain ⟨Ao30, co30, eo30⟩ := Kd.R_slice HO_6.out
            subst eo30
            go_wp2
            go_ret
            exact ⟨_, by first | rfl | (simp [errW_none, errW_some] <;> rfl) | (simp [*, errW_none, errW_some] <;> rfl), by (with_reducible repeat (first | apply Kd.R_alloc | apply Kd.R_drewN | apply Kd.R_drew)); exact HO_5.out, by repeat (first | (with_reducible first | exact HB.out | apply bA | apply bN | apply bD) | exact HB.out)⟩
    · rw [if_neg c4] at H
      exact absurd H (by simp)
  · rw [if_neg c3] at H
    exact absurd H (by simp)

/-! ### graph_Cyclic: function 20 -/
noncomputable def graph_Cyclic.f (k : Nat) (l0_0 : List (List Int)) (a1 : Int) : Option (Bool) := (graph_valid.f k l0_0).bind fun t135 => (if t135 = true then (if a1 < 0 then (some false) else (if a1 ≥ (l0_0.length : Int) then (some false) else (if 0 ≤ a1 then (if a1 < (l0_0.length : Int) then ((graph_reached.f k l0_0 (rd_L1 l0_0 a1)).bind fun t137 => (if a1 < (t137.length : Int) then (some (rdOf false t137 a1)) else (none))) else (none)) else (none)))) else (some false))
theorem graph_Cyclic.mono : ∀ a0 a1 k, LeO (graph_Cyclic.f k a0 a1) (graph_Cyclic.f (k + 1) a0 a1) := by
  intro a0 a1 k
  unfold graph_Cyclic.f
  repeat' first
      | (with_reducible exact graph_reached.mono _ _ _)
      | (with_reducible exact graph_valid.mono _ _)
      | (with_reducible exact LeO.refl _)
      | (with_reducible exact LeO.none _)
      | (with_reducible refine LeO.ite ?_ ?_)
      | (with_reducible refine LeO.bind ?_ (fun _ => ?_))
      | exact graph_reached.mono _ _ _
      | exact graph_valid.mono _ _
      | exact LeO.none _
      | refine LeO.ite ?_ ?_
      | refine LeO.bind ?_ (fun _ => ?_)
noncomputable def graph_Cyclic.T3 : Bool × List (List Nat × List Nat) := (true, [([], []), ([0], [0]), ([], []), ([2], [2]), ([], []), ([3, 4], [3, 4]), ([5], [5]), ([1, 6], [1, 6]), ([], []), ([7, 8], [7, 8]), ([9], [9]), ([10, 7, 0, 1, 2, 3, 4, 5, 6, 7, 8, 9, 10], [10])])
noncomputable def graph_Cyclic.B3 : List Nat := [0, 1, 0, 4, 0, 28, 60, 127, 0, 511, 1023, 2047]
theorem graph_Cyclic.tab3 : rtab .any (opsOf Try.f20 3) = graph_Cyclic.T3 := by kernel_rfl
theorem graph_Cyclic.bits3 : waitsOk graph_Cyclic.T3.2 graph_Cyclic.B3 = true := by kernel_rfl
set_option maxHeartbeats 8000000 in
set_option maxRecDepth 100000 in
theorem graph_Cyclic.calls (k : Nat) (A0_0 : Option Addr) (c0_0 : Nat) (l0_0 : List (List Int)) (a1 : Int) (r : Bool) (w : World) (hr0_0 : Kd.C (Kd.slice 3 (Kd.int .i64)) w A0_0 l0_0.length l0_0) (hc0_0 : l0_0.length ≤ c0_0) (h : graph_Cyclic.f k l0_0 a1 = some r) :
    Calls Try.prog 20 #[.agg #[.slice A0_0 l0_0.length c0_0], .int .i64 a1] w fun e w' => e = .returned (.bool r) ∧ Below w.heap.size w w' := by
  have hu24 := Try.underlying24
  have HR0_0 := aM hr0_0
  have HC0_0 := aM hc0_0
  clear hr0_0 hc0_0
  have HB := aM (Below.refl w.heap.size w)
  have H : ((graph_valid.f k l0_0).bind fun t135 => (if t135 = true then (if a1 < 0 then (some false) else (if a1 ≥ (l0_0.length : Int) then (some false) else (if 0 ≤ a1 then (if a1 < (l0_0.length : Int) then ((graph_reached.f k l0_0 (rd_L1 l0_0 a1)).bind fun t137 => (if a1 < (t137.length : Int) then (some (rdOf false t137 a1)) else (none))) else (none)) else (none)))) else (some false))) = some r := h
  clear h
  replace H := Option.bind_eq_some_iff.mp H
  obtain ⟨t135, A30, H⟩ := H
  replace H : (if t135 = true then (if a1 < 0 then (some false) else (if a1 ≥ (l0_0.length : Int) then (some false) else (if 0 ≤ a1 then (if a1 < (l0_0.length : Int) then ((graph_reached.f k l0_0 (rd_L1 l0_0 a1)).bind fun t137 => (if a1 < (t137.length : Int) then (some (rdOf false t137 a1)) else (none))) else (none)) else (none)))) else (some false)) = some r := H
  have A3 := aM A30
  clear A30
  by_cases c4 : t135 = true
  · subst c4
    have H1 : (if a1 < 0 then (some false) else (if a1 ≥ (l0_0.length : Int) then (some false) else (if 0 ≤ a1 then (if a1 < (l0_0.length : Int) then ((graph_reached.f k l0_0 (rd_L1 l0_0 a1)).bind fun t137 => (if a1 < (t137.length : Int) then (some (rdOf false t137 a1)) else (none))) else (none)) else (none)))) = some r := by rw [if_pos rfl] at H; exact H
    clear H
    have H := H1
    clear H1
    by_cases c5 : a1 < 0
    · rw [if_pos c5] at H
      have c5b0 : decide (a1 < 0) = true := decide_eq_true c5
      clear c5
      obtain rfl := Option.some.inj H
      go_enter Try.func20, Try.ntmps20
      go_wp2_with (first | ((with_reducible refine gate_dst (N := 2) rfl ?_); (try (refine gate_guard (by rfl) ?_; dsimp only)); refine box_event ?hg (N := 2) ?hd (cs := #[.slice A0_0 l0_0.length c0_0]) (t := 24) ?hr ?_; (case hd => rfl); (case hg => rfl); (case hr => first | (go_simp; done) | (go_simp; rfl)); intro gb134 hg w6 hbox hb; have n0_ := aM (below_step (by repeat (first | (with_reducible first | exact HB.out | apply bA | apply bN | apply bD) | exact HB.out)) hb); have n1_ := aM (hbox); have n2_ := aM ((by rw [hg]; exact (below_size (by repeat (first | (with_reducible first | exact HB.out | apply bA | apply bN | apply bD) | exact HB.out))) : w.heap.size ≤ gb134)); have n3_ := aM ((by rw [hg]; exact (below_size (by repeat (first | (with_reducible first | exact HB.out | apply bA | apply bN | apply bD) | exact HB.out))) : w.heap.size ≤ gb134)); clear HB; have HB := n0_; have BK134 := n1_; have GW134 := n2_; have GE134 := n3_; clear n0_ n1_ n2_ n3_; clear hb hbox hg; have hcz7_0 : w6.cell? ⟨gb134, 0, none⟩ = some (.slice A0_0 l0_0.length c0_0) := (blk_cell BK134.out 0).trans rfl; have hfz7_0 := blk_frozen BK134.out 0) | ((with_reducible refine gate_callee (f := 27) rfl ?_); refine goesL_ (some 6) rfl rfl Try.func27 (by kernel_rfl) rfl #[.agg #[.slice A0_0 l0_0.length c0_0]] rfl (by (try simp only [List.map_toArray, List.map_cons, List.map_nil]); first | done | rfl | (simp only [List.length_drop, List.length_take]; rfl)) ?_; (with_reducible refine (graph_valid.calls k _ _ l0_0 true _ ?side1 ?side2 A3.out).mono ?_); (case side1 => repeat (first | exact (Kd.C_below HR0_0.out HB.out) | (with_reducible refine Kd.C_alloc ?_ _) | (with_reducible refine Kd.C_drewN ?_ _) | (with_reducible refine Kd.C_drew ?_))); (case side2 => exact HC0_0.out); rintro e w8 ⟨rfl, hb⟩; refine ⟨_, rfl, ?_⟩; have n0_ := aM (blk_below (g := gb134) (o := .cells #[.slice A0_0 l0_0.length c0_0] 24 (0, 0)) (by (with_reducible repeat (first | refine kN ?_ _ | refine kD ?_ | refine kA ?_ _)); exact BK134.out) hb); have n1_ := aM (below_step (by repeat (first | (with_reducible first | exact HB.out | apply bA | apply bN | apply bD | refine below_set ?_ GE134.out) | exact HB.out)) hb); clear BK134; clear HB; have BK134 := n0_; have HB := n1_; clear n0_ n1_; (try clear hb); (try clear hb2); (try clear hk); (try clear hi)))
      go_ret
      exact ⟨by first | rfl | (simp [errW_none, errW_some] <;> rfl) | (simp [*, errW_none, errW_some] <;> rfl), by repeat (first | (with_reducible first | exact HB.out | apply bA | apply bN | apply bD | refine below_set ?_ GE134.out) | exact HB.out)⟩
    · rw [if_neg c5] at H
      have c5b0 : decide (a1 < 0) = false := decide_eq_false c5
      clear c5
      by_cases c9 : a1 ≥ (l0_0.length : Int)
      · rw [if_pos c9] at H
        have c9b0 : decide ((l0_0.length : Int) ≤ a1) = true := decide_eq_true c9
        clear c9
        obtain rfl := Option.some.inj H
        go_enter Try.func20, Try.ntmps20
        go_wp2_with (first | ((with_reducible refine gate_dst (N := 2) rfl ?_); (try (refine gate_guard (by rfl) ?_; dsimp only)); refine box_event ?hg (N := 2) ?hd (cs := #[.slice A0_0 l0_0.length c0_0]) (t := 24) ?hr ?_; (case hd => rfl); (case hg => rfl); (case hr => first | (go_simp; done) | (go_simp; rfl)); intro gb134 hg w10 hbox hb; have n0_ := aM (below_step (by repeat (first | (with_reducible first | exact HB.out | apply bA | apply bN | apply bD) | exact HB.out)) hb); have n1_ := aM (hbox); have n2_ := aM ((by rw [hg]; exact (below_size (by repeat (first | (with_reducible first | exact HB.out | apply bA | apply bN | apply bD) | exact HB.out))) : w.heap.size ≤ gb134)); have n3_ := aM ((by rw [hg]; exact (below_size (by repeat (first | (with_reducible first | exact HB.out | apply bA | apply bN | apply bD) | exact HB.out))) : w.heap.size ≤ gb134)); clear HB; have HB := n0_; have BK134 := n1_; have GW134 := n2_; have GE134 := n3_; clear n0_ n1_ n2_ n3_; clear hb hbox hg; have hcz11_0 : w10.cell? ⟨gb134, 0, none⟩ = some (.slice A0_0 l0_0.length c0_0) := (blk_cell BK134.out 0).trans rfl; have hfz11_0 := blk_frozen BK134.out 0) | ((with_reducible refine gate_callee (f := 27) rfl ?_); refine goesL_ (some 6) rfl rfl Try.func27 (by kernel_rfl) rfl #[.agg #[.slice A0_0 l0_0.length c0_0]] rfl (by (try simp only [List.map_toArray, List.map_cons, List.map_nil]); first | done | rfl | (simp only [List.length_drop, List.length_take]; rfl)) ?_; (with_reducible refine (graph_valid.calls k _ _ l0_0 true _ ?side1 ?side2 A3.out).mono ?_); (case side1 => repeat (first | exact (Kd.C_below HR0_0.out HB.out) | (with_reducible refine Kd.C_alloc ?_ _) | (with_reducible refine Kd.C_drewN ?_ _) | (with_reducible refine Kd.C_drew ?_))); (case side2 => exact HC0_0.out); rintro e w12 ⟨rfl, hb⟩; refine ⟨_, rfl, ?_⟩; have n0_ := aM (blk_below (g := gb134) (o := .cells #[.slice A0_0 l0_0.length c0_0] 24 (0, 0)) (by (with_reducible repeat (first | refine kN ?_ _ | refine kD ?_ | refine kA ?_ _)); exact BK134.out) hb); have n1_ := aM (below_step (by repeat (first | (with_reducible first | exact HB.out | apply bA | apply bN | apply bD | refine below_set ?_ GE134.out) | exact HB.out)) hb); clear BK134; clear HB; have BK134 := n0_; have HB := n1_; clear n0_ n1_; (try clear hb); (try clear hb2); (try clear hk); (try clear hi); have hcz13_0 : w12.cell? ⟨gb134, 0, none⟩ = some (.slice A0_0 l0_0.length c0_0) := (blk_cell BK134.out 0).trans rfl; have hfz13_0 := blk_frozen BK134.out 0))
        go_ret
        exact ⟨by first | rfl | (simp [errW_none, errW_some] <;> rfl) | (simp [*, errW_none, errW_some] <;> rfl), by repeat (first | (with_reducible first | exact HB.out | apply bA | apply bN | apply bD | refine below_set ?_ GE134.out) | exact HB.out)⟩
      · rw [if_neg c9] at H
        have c9b0 : decide ((l0_0.length : Int) ≤ a1) = false := decide_eq_false c9
        clear c9
        by_cases c14 : 0 ≤ a1
        · rw [if_pos c14] at H
          have c14b0 : decide (0 ≤ a1) = true := decide_eq_true c14
          clear c14
          by_cases c15 : a1 < (l0_0.length : Int)
          · rw [if_pos c15] at H
            have c15b0 : decide (a1 < (l0_0.length : Int)) = true := decide_eq_true c15
            clear c15
            replace H := Option.bind_eq_some_iff.mp H
            obtain ⟨t137, A160, H⟩ := H
            replace H : (if a1 < (t137.length : Int) then (some (rdOf false t137 a1)) else (none)) = some r := H
            have A16 := aM A160
            clear A160
            by_cases c17 : a1 < (t137.length : Int)
            · rw [if_pos c17] at H
              have c17b0 : decide (a1 < (t137.length : Int)) = true := decide_eq_true c17
              clear c17
              obtain rfl := Option.some.inj H
              go_enter Try.func20, Try.ntmps20
              try go_wp2_with (first | ((with_reducible refine gate_dst (N := 2) rfl ?_); (try (refine gate_guard (by rfl) ?_; dsimp only)); refine box_event ?hg (N := 2) ?hd (cs := #[.slice A0_0 l0_0.length c0_0]) (t := 24) ?hr ?_; (case hd => rfl); (case hg => rfl); (case hr => first | (go_simp; done) | (go_simp; rfl)); intro gb134 hg w18 hbox hb; have n0_ := aM (below_step (by repeat (first | (with_reducible first | exact HB.out | apply bA | apply bN | apply bD) | exact HB.out)) hb); have n1_ := aM (hbox); have n2_ := aM ((by rw [hg]; exact (below_size (by repeat (first | (with_reducible first | exact HB.out | apply bA | apply bN | apply bD) | exact HB.out))) : w.heap.size ≤ gb134)); have n3_ := aM ((by rw [hg]; exact (below_size (by repeat (first | (with_reducible first | exact HB.out | apply bA | apply bN | apply bD) | exact HB.out))) : w.heap.size ≤ gb134)); clear HB; have HB := n0_; have BK134 := n1_; have GW134 := n2_; have GE134 := n3_; clear n0_ n1_ n2_ n3_; clear hb hbox hg; have hcz19_0 : w18.cell? ⟨gb134, 0, none⟩ = some (.slice A0_0 l0_0.length c0_0) := (blk_cell BK134.out 0).trans rfl; have hfz19_0 := blk_frozen BK134.out 0) | ((with_reducible refine gate_callee (f := 27) rfl ?_); refine goesL_ (some 6) rfl rfl Try.func27 (by kernel_rfl) rfl #[.agg #[.slice A0_0 l0_0.length c0_0]] rfl (by (try simp only [List.map_toArray, List.map_cons, List.map_nil]); first | done | rfl | (simp only [List.length_drop, List.length_take]; rfl)) ?_; (with_reducible refine (graph_valid.calls k _ _ l0_0 true _ ?side1 ?side2 A3.out).mono ?_); (case side1 => repeat (first | exact (Kd.C_below HR0_0.out HB.out) | (with_reducible refine Kd.C_alloc ?_ _) | (with_reducible refine Kd.C_drewN ?_ _) | (with_reducible refine Kd.C_drew ?_))); (case side2 => exact HC0_0.out); rintro e w20 ⟨rfl, hb⟩; refine ⟨_, rfl, ?_⟩; have n0_ := aM (blk_below (g := gb134) (o := .cells #[.slice A0_0 l0_0.length c0_0] 24 (0, 0)) (by (with_reducible repeat (first | refine kN ?_ _ | refine kD ?_ | refine kA ?_ _)); exact BK134.out) hb); have n1_ := aM (below_step (by repeat (first | (with_reducible first | exact HB.out | apply bA | apply bN | apply bD | refine below_set ?_ GE134.out) | exact HB.out)) hb); clear BK134; clear HB; have BK134 := n0_; have HB := n1_; clear n0_ n1_; (try clear hb); (try clear hb2); (try clear hk); (try clear hi); have hcz21_0 : w20.cell? ⟨gb134, 0, none⟩ = some (.slice A0_0 l0_0.length c0_0) := (blk_cell BK134.out 0).trans rfl; have hfz21_0 := blk_frozen BK134.out 0))
              have n0_ := aM (blk_drew BK134.out)
              have n1_ := aM (below_drew1 HB.out)
              clear BK134
              clear HB
              have BK134 := n0_
              have HB := n1_
              clear n0_ n1_
              have p136 : 0 ≤ (a1 : Int) := of_decide_eq_true (by first | (with_reducible assumption) | assumption)
              have q136 : a1 < (l0_0.length : Int) := of_decide_eq_true (by first | (with_reducible assumption) | assumption)
              obtain ⟨ad136, A136_0, c136_0, e136, hx136_0, hl136_0, hi136_0⟩ := at_L1 HR0_0.out a1 p136 q136
              have hw136_0 := hx136_0
              cases e136
              replace hx136_0 := (HB.out.cell (World.block_lt_of_cell? w _ hx136_0)).trans hx136_0
              have HR136_0 := aM hi136_0
              have HC136_0 := aM hl136_0
              clear hi136_0 hl136_0
              replace p136 := eq_true p136
              replace q136 := eq_true q136
              refine start_ (n := 12) (S := fun w' => w'.cell? ⟨gb134, 0, none⟩ = some (.slice (some ad136) l0_0.length c0_0) ∧ w'.cell? (ad136.add (a1).toNat) = some (.slice A136_0 (rd_L1 l0_0 a1).length c136_0)) (ds := []) #[false, false, false, false, false, false, false, false, false, false, false, false] (by kernel_rfl) rfl rfl ⟨(blk_cell BK134.out 0).trans rfl, ((HB.out.cell (World.block_lt_of_cell? w _ hw136_0)).trans hw136_0)⟩ (fun hHeld => ?_); refine with_tabW graph_Cyclic.tab3 graph_Cyclic.bits3 (fun HT_ HW_ => ?_)
              generalize w20.drew = w22 at BK134 HB HR136_0 hx136_0 hHeld ⊢
              refine pure_ (i := 0) (N := some 19) (v := ?_) (a' := ?_) #[true, false, false, false, false, false, false, false, false, false, false, false] rfl rfl (any_of HT_.out (by kernel_rfl)) (fun _ _ _ h => h) (Or.inl ⟨by rfl, ?_⟩) ?_ ?_
              rotate_left
              · intro w'
                go_simp
                with_reducible rfl
              rotate_left
              · simp only [Act.put, List.setIfInBounds_toArray, List.set_cons_zero, List.set_cons_succ, i64_w, i32_w]
                rfl
              refine pure_ (i := 2) (N := some 21) (v := ?_) (a' := ?_) #[true, false, true, false, false, false, false, false, false, false, false, false] rfl rfl (any_of HT_.out (by kernel_rfl)) (fun _ _ _ h => h) (Or.inl ⟨by rfl, ?_⟩) ?_ ?_
              rotate_left
              · intro w'
                go_simp
                with_reducible rfl
              rotate_left
              · simp only [Act.put, List.setIfInBounds_toArray, List.set_cons_zero, List.set_cons_succ, i64_w, i32_w]
                rfl
              refine pure_ (i := 4) (N := some 23) (v := ?_) (a' := ?_) #[true, false, true, false, true, false, false, false, false, false, false, false] rfl rfl (any_of HT_.out (by kernel_rfl)) (fun _ _ _ h => h) (Or.inl ⟨by rfl, ?_⟩) ?_ ?_
              rotate_left
              · intro w'
                go_simp
                with_reducible rfl
              rotate_left
              · simp only [Act.put, List.setIfInBounds_toArray, List.set_cons_zero, List.set_cons_succ, i64_w, i32_w]
                rfl
              refine pure_ (i := 8) (N := some 27) (v := ?_) (a' := ?_) #[true, false, true, false, true, false, false, false, true, false, false, false] rfl rfl (any_of HT_.out (by kernel_rfl)) (fun _ _ _ h => h) (Or.inl ⟨by rfl, ?_⟩) ?_ ?_
              rotate_left
              · intro w'
                go_simp
                with_reducible rfl
              rotate_left
              · simp only [Act.put, List.setIfInBounds_toArray, List.set_cons_zero, List.set_cons_succ, i64_w, i32_w]
                rfl
              refine take_ (i := 1) (N := some 20) (v := ?_) (a' := ?_) #[true, true, true, false, true, false, false, false, true, false, false, false] rfl rfl (take_ofW HT_.out HW_.out (by kernel_rfl)) (fun _ _ _ h => h) (Or.inl ⟨by rfl, ?_⟩) hHeld ?_ ?_
              rotate_left
              · rintro w' ⟨s0, s1⟩
                go_simp
                with_reducible rfl
              rotate_left
              · simp only [Act.put, List.setIfInBounds_toArray, List.set_cons_zero, List.set_cons_succ, i64_w, i32_w]
                rfl
              refine take_ (i := 3) (N := some 22) (v := ?_) (a' := ?_) #[true, true, true, true, true, false, false, false, true, false, false, false] rfl rfl (take_ofW HT_.out HW_.out (by kernel_rfl)) (fun _ _ _ h => h) (Or.inl ⟨by rfl, ?_⟩) hHeld ?_ ?_
              rotate_left
              · rintro w' ⟨s0, s1⟩
                go_simp
                with_reducible rfl
              rotate_left
              · simp only [Act.put, List.setIfInBounds_toArray, List.set_cons_zero, List.set_cons_succ, i64_w, i32_w]
                rfl
              refine pure_ (i := 5) (N := some 24) (v := ?_) (a' := ?_) #[true, true, true, true, true, true, false, false, true, false, false, false] rfl rfl (any_of HT_.out (by kernel_rfl)) (fun _ _ _ h => h) (Or.inl ⟨by rfl, ?_⟩) ?_ ?_
              rotate_left
              · intro w'
                go_simp
                with_reducible rfl
              rotate_left
              · simp only [Act.put, List.setIfInBounds_toArray, List.set_cons_zero, List.set_cons_succ, i64_w, i32_w]
                rfl
              refine take_ (i := 6) (N := some 25) (v := ?_) (a' := ?_) #[true, true, true, true, true, true, true, false, true, false, false, false] rfl rfl (take_ofW HT_.out HW_.out (by kernel_rfl)) (fun _ _ _ h => h) (Or.inl ⟨by rfl, ?_⟩) hHeld ?_ ?_
              rotate_left
              · rintro w' ⟨s0, s1⟩
                go_simp
                with_reducible rfl
              rotate_left
              · simp only [Act.put, List.setIfInBounds_toArray, List.set_cons_zero, List.set_cons_succ, i64_w, i32_w]
                rfl
              refine one_ (i := 7) (N := some 26) #[true, true, true, true, true, true, true, true, true, false, false, false] rfl rfl (one_of HT_.out (by kernel_rfl)) (by decide) (fun K hK => ?_)
              refine goes_ Try.func33 (by kernel_rfl) rfl #[.slice (some ad136) l0_0.length c0_0, .slice A136_0 (rd_L1 l0_0 a1).length c136_0] (by rfl) rfl rfl (by (try simp only [List.map_toArray, List.map_cons, List.map_nil]); first | done | rfl | (simp only [List.length_drop, List.length_take]; rfl)) ?_
              with_reducible refine (graph_reached.calls k _ _ l0_0 _ _ (rd_L1 l0_0 a1) t137 _ ?side1 ?side2 ?side3 ?side4 A16.out).mono ?_
              (case side1 => repeat (first | exact (Kd.C_below HR0_0.out HB.out) | (with_reducible refine Kd.C_alloc ?_ _) | (with_reducible refine Kd.C_drewN ?_ _) | (with_reducible refine Kd.C_drew ?_)))
              (case side2 => exact HC0_0.out)
              (case side3 => repeat (first | exact (Kd.C_below HR136_0.out HB.out) | (with_reducible refine Kd.C_alloc ?_ _) | (with_reducible refine Kd.C_drewN ?_ _) | (with_reducible refine Kd.C_drew ?_)))
              (case side4 => exact HC136_0.out)
              rintro e w23 ⟨v138, rfl, ho0, hb⟩
              skip
              refine ⟨_, rfl, ?_⟩
              have n0_ := aM (Kd.R_lower ho0 (below_size (by repeat (first | (with_reducible first | exact HB.out | apply bA | apply bN | apply bD | refine below_set ?_ GE134.out) | exact HB.out))))
              have n1_ := aM (blk_below (g := gb134) (o := .cells #[.slice (some ad136) l0_0.length c0_0] 24 (0, 0)) (by (with_reducible repeat (first | refine kN ?_ _ | refine kD ?_ | refine kA ?_ _)); exact BK134.out) hb)
              have n2_ := aM (below_step (by repeat (first | (with_reducible first | exact HB.out | apply bA | apply bN | apply bD | refine below_set ?_ GE134.out) | exact HB.out)) hb)
              clear BK134
              clear HB
              have HO139 := n0_
              have BK134 := n1_
              have HB := n2_
              clear n0_ n1_ n2_
              (try clear hb)
              (try clear hb2)
              (try clear hk)
              (try clear hi)
              (try clear ho0)
              obtain ⟨Ao24, co24, eo24⟩ := Kd.R_slice HO139.out
              (first | subst eo24 | (injection eo24 with f1_ f2_ f3_; have f4_ := f1_.symm; have f5_ := f3_.symm; clear f1_ f2_ f3_; subst f4_; subst f5_))
              have p140 : 0 ≤ (a1 : Int) := of_decide_eq_true (by first | (with_reducible assumption) | assumption)
              have q140 : a1 < (t137.length : Int) := of_decide_eq_true (by first | (with_reducible assumption) | assumption)
              obtain ⟨ad140, e140, hx140_0⟩ := Kd.at_bool (Kd.R_reads' HO139.out).2.2 a1 p140 q140
              cases e140
              replace p140 := eq_true p140
              replace q140 := eq_true q140
              refine hK.out _ _ ⟨(blk_cell BK134.out 0).trans rfl, ((HB.out.cell (World.block_lt_of_cell? w _ hw136_0)).trans hw136_0)⟩ (fun hHeld => ?_)
              have hHeld2 := hHeld
              refine resay_ (S2 := fun w' => w'.cell? ⟨gb134, 0, none⟩ = some (.slice (some ad136) l0_0.length c0_0) ∧ w'.cell? (ad136.add (a1).toNat) = some (.slice A136_0 (rd_L1 l0_0 a1).length c136_0) ∧ w'.cell? (ad140.add (a1).toNat) = some (.bool (rdOf false t137 a1))) ⟨hHeld.1, hHeld.2, hx140_0⟩ (fun _ h_ => ⟨h_.1, h_.2.1⟩) ?_
              clear hHeld
              have hHeld := (show _ ∧ _ ∧ _ from ⟨hHeld2.1, hHeld2.2, hx140_0⟩)
              clear hHeld2
              clear hK K
              refine norm_ (a' := ?_) ?_ ?_
              rotate_left
              · show Act.put _ (some 26) _ = _
                simp only [Act.put, List.setIfInBounds_toArray, List.set_cons_zero, List.set_cons_succ, i64_w, i32_w]
                rfl
              refine pure_ (i := 9) (N := some 28) (v := ?_) (a' := ?_) #[true, true, true, true, true, true, true, true, true, true, false, false] rfl rfl (any_of HT_.out (by kernel_rfl)) (fun _ _ _ h => h) (Or.inl ⟨by rfl, ?_⟩) ?_ ?_
              rotate_left
              · intro w'
                go_simp
                with_reducible rfl
              rotate_left
              · simp only [Act.put, List.setIfInBounds_toArray, List.set_cons_zero, List.set_cons_succ, i64_w, i32_w]
                rfl
              refine take_ (i := 10) (N := some 29) (v := ?_) (a' := ?_) #[true, true, true, true, true, true, true, true, true, true, true, false] rfl rfl (take_ofW HT_.out HW_.out (by kernel_rfl)) (fun _ _ _ h => h) (Or.inl ⟨by rfl, ?_⟩) hHeld ?_ ?_
              rotate_left
              · rintro w' ⟨s0, s1, s2⟩
                go_simp
                with_reducible rfl
              rotate_left
              · simp only [Act.put, List.setIfInBounds_toArray, List.set_cons_zero, List.set_cons_succ, i64_w, i32_w]
                rfl
              refine pure_ (i := 11) (N := some 4) (v := ?_) (a' := ?_) #[true, true, true, true, true, true, true, true, true, true, true, true] rfl rfl (any_of HT_.out (by kernel_rfl)) (fun _ _ _ h => h) (Or.inl ⟨by rfl, ?_⟩) ?_ ?_
              rotate_left
              · intro w'
                go_simp
                with_reducible rfl
              rotate_left
              · simp only [Act.put, List.setIfInBounds_toArray, List.set_cons_zero, List.set_cons_succ, i64_w, i32_w]
                rfl
              refine done_ (done_of HT_.out (by kernel_rfl)) ?_
              try go_wp2
              go_ret
              exact ⟨by first | rfl | (simp [errW_none, errW_some] <;> rfl) | (simp [*, errW_none, errW_some] <;> rfl), by repeat (first | (with_reducible first | exact HB.out | apply bA | apply bN | apply bD | refine below_set ?_ GE134.out) | exact HB.out)⟩
            · rw [if_neg c17] at H
              exact absurd H (by simp)
          · rw [if_neg c15] at H
            exact absurd H (by simp)
        · rw [if_neg c14] at H
          exact absurd H (by simp)
  · replace c4 := Bool.eq_false_iff.mpr c4
    subst c4
    have H1 : (some false) = some r := by rw [if_neg (show ¬ (false = true) by decide)] at H; exact H
    clear H
    have H := H1
    clear H1
    obtain rfl := Option.some.inj H
    go_enter Try.func20, Try.ntmps20
    go_wp2_with (first | ((with_reducible refine gate_dst (N := 2) rfl ?_); (try (refine gate_guard (by rfl) ?_; dsimp only)); refine box_event ?hg (N := 2) ?hd (cs := #[.slice A0_0 l0_0.length c0_0]) (t := 24) ?hr ?_; (case hd => rfl); (case hg => rfl); (case hr => first | (go_simp; done) | (go_simp; rfl)); intro gb134 hg w25 hbox hb; have n0_ := aM (below_step (by repeat (first | (with_reducible first | exact HB.out | apply bA | apply bN | apply bD) | exact HB.out)) hb); have n1_ := aM (hbox); have n2_ := aM ((by rw [hg]; exact (below_size (by repeat (first | (with_reducible first | exact HB.out | apply bA | apply bN | apply bD) | exact HB.out))) : w.heap.size ≤ gb134)); have n3_ := aM ((by rw [hg]; exact (below_size (by repeat (first | (with_reducible first | exact HB.out | apply bA | apply bN | apply bD) | exact HB.out))) : w.heap.size ≤ gb134)); clear HB; have HB := n0_; have BK134 := n1_; have GW134 := n2_; have GE134 := n3_; clear n0_ n1_ n2_ n3_; clear hb hbox hg; have hcz26_0 : w25.cell? ⟨gb134, 0, none⟩ = some (.slice A0_0 l0_0.length c0_0) := (blk_cell BK134.out 0).trans rfl; have hfz26_0 := blk_frozen BK134.out 0) | ((with_reducible refine gate_callee (f := 27) rfl ?_); refine goesL_ (some 6) rfl rfl Try.func27 (by kernel_rfl) rfl #[.agg #[.slice A0_0 l0_0.length c0_0]] rfl (by (try simp only [List.map_toArray, List.map_cons, List.map_nil]); first | done | rfl | (simp only [List.length_drop, List.length_take]; rfl)) ?_; (with_reducible refine (graph_valid.calls k _ _ l0_0 false _ ?side1 ?side2 A3.out).mono ?_); (case side1 => repeat (first | exact (Kd.C_below HR0_0.out HB.out) | (with_reducible refine Kd.C_alloc ?_ _) | (with_reducible refine Kd.C_drewN ?_ _) | (with_reducible refine Kd.C_drew ?_))); (case side2 => exact HC0_0.out); rintro e w27 ⟨rfl, hb⟩; refine ⟨_, rfl, ?_⟩; have n0_ := aM (blk_below (g := gb134) (o := .cells #[.slice A0_0 l0_0.length c0_0] 24 (0, 0)) (by (with_reducible repeat (first | refine kN ?_ _ | refine kD ?_ | refine kA ?_ _)); exact BK134.out) hb); have n1_ := aM (below_step (by repeat (first | (with_reducible first | exact HB.out | apply bA | apply bN | apply bD | refine below_set ?_ GE134.out) | exact HB.out)) hb); clear BK134; clear HB; have BK134 := n0_; have HB := n1_; clear n0_ n1_; (try clear hb); (try clear hb2); (try clear hk); (try clear hi)))
    go_ret
    exact ⟨by first | rfl | (simp [errW_none, errW_some] <;> rfl) | (simp [*, errW_none, errW_some] <;> rfl), by repeat (first | (with_reducible first | exact HB.out | apply bA | apply bN | apply bD | refine below_set ?_ GE134.out) | exact HB.out)⟩

/-! ### graph_Reach: function 18 -/
mutual
noncomputable def graph_Reach.j0 : Nat → Int → Bool → List (List Int) → Option (List Int)
  | 0, _, _, _ => none
  | k + 1, x1, x21, x142000 => if x21 = true then (some ([] : List Int)) else ((graph_reached.f k x142000 (([x1] : List Int))).bind fun t146 => (graph_Reach.l0 k ([] : List Int) t146 (t146.length : Int) 0))
noncomputable def graph_Reach.l0 : Nat → List Int → List Bool → Int → Int → Option (List Int)
  | 0, _, _, _, _ => none
  | k + 1, x5, x26, x27, x28 => if x28 < x27 then (if 0 ≤ x28 then (if x28 < (x26.length : Int) then (if rdOf false x26 x28 = true then (if x5.length < 17592186044416 then (graph_Reach.l0 k (x5 ++ [x28]) x26 x27 (wrap64 (x28 + 1))) else (none)) else (graph_Reach.l0 k x5 x26 x27 (wrap64 (x28 + 1)))) else (none)) else (none)) else (some x5)
end
noncomputable def graph_Reach.f (k : Nat) (l0_0 : List (List Int)) (a1 : Int) : Option (List Int) := (graph_valid.f k l0_0).bind fun t142 => (if t142 = true then (if a1 < 0 then (graph_Reach.j0 k a1 true l0_0) else (graph_Reach.j0 k a1 (decide (a1 ≥ (l0_0.length : Int))) l0_0)) else (graph_Reach.j0 k a1 true l0_0))
theorem graph_Reach.mono_l : ∀ k, (∀ y0 y1 y2, LeO (graph_Reach.j0 k y0 y1 y2) (graph_Reach.j0 (k + 1) y0 y1 y2)) ∧ (∀ y0 y1 y2 y3, LeO (graph_Reach.l0 k y0 y1 y2 y3) (graph_Reach.l0 (k + 1) y0 y1 y2 y3))
  | 0 => ⟨fun _ _ _ r h => by simp [graph_Reach.j0] at h, fun _ _ _ _ r h => by simp [graph_Reach.l0] at h⟩
  | k + 1 => by
    obtain ⟨ih0, ih1⟩ := graph_Reach.mono_l k
    refine ⟨?_, ?_⟩
    · intro y0 y1 y2
      unfold graph_Reach.j0
      repeat' first
      | (with_reducible exact ih0 _ _ _)
      | (with_reducible exact ih1 _ _ _ _)
      | (with_reducible exact graph_reached.mono _ _ _)
      | (with_reducible exact graph_valid.mono _ _)
      | (with_reducible exact LeO.refl _)
      | (with_reducible exact LeO.none _)
      | (with_reducible refine LeO.ite ?_ ?_)
      | (with_reducible refine LeO.bind ?_ (fun _ => ?_))
      | exact ih0 _ _ _
      | exact ih1 _ _ _ _
      | exact graph_reached.mono _ _ _
      | exact graph_valid.mono _ _
      | exact LeO.none _
      | refine LeO.ite ?_ ?_
      | refine LeO.bind ?_ (fun _ => ?_)
    · intro y0 y1 y2 y3
      unfold graph_Reach.l0
      repeat' first
      | (with_reducible exact ih0 _ _ _)
      | (with_reducible exact ih1 _ _ _ _)
      | (with_reducible exact graph_reached.mono _ _ _)
      | (with_reducible exact graph_valid.mono _ _)
      | (with_reducible exact LeO.refl _)
      | (with_reducible exact LeO.none _)
      | (with_reducible refine LeO.ite ?_ ?_)
      | (with_reducible refine LeO.bind ?_ (fun _ => ?_))
      | exact ih0 _ _ _
      | exact ih1 _ _ _ _
      | exact graph_reached.mono _ _ _
      | exact graph_valid.mono _ _
      | exact LeO.none _
      | refine LeO.ite ?_ ?_
      | refine LeO.bind ?_ (fun _ => ?_)
theorem graph_Reach.mono : ∀ a0 a1 k, LeO (graph_Reach.f k a0 a1) (graph_Reach.f (k + 1) a0 a1) := by
  intro a0 a1 k
  obtain ⟨ih0, ih1⟩ := graph_Reach.mono_l k
  unfold graph_Reach.f
  repeat' first
      | (with_reducible exact ih0 _ _ _)
      | (with_reducible exact ih1 _ _ _ _)
      | (with_reducible exact graph_reached.mono _ _ _)
      | (with_reducible exact graph_valid.mono _ _)
      | (with_reducible exact LeO.refl _)
      | (with_reducible exact LeO.none _)
      | (with_reducible refine LeO.ite ?_ ?_)
      | (with_reducible refine LeO.bind ?_ (fun _ => ?_))
      | exact ih0 _ _ _
      | exact ih1 _ _ _ _
      | exact graph_reached.mono _ _ _
      | exact graph_valid.mono _ _
      | exact LeO.none _
      | refine LeO.ite ?_ ?_
      | refine LeO.bind ?_ (fun _ => ?_)
set_option maxHeartbeats 8000000 in
set_option maxRecDepth 100000 in
theorem graph_Reach.calls (k : Nat) (A0_0 : Option Addr) (c0_0 : Nat) (l0_0 : List (List Int)) (a1 : Int) (r : List Int) (w : World) (hr0_0 : Kd.C (Kd.slice 3 (Kd.int .i64)) w A0_0 l0_0.length l0_0) (hc0_0 : l0_0.length ≤ c0_0) (h : graph_Reach.f k l0_0 a1 = some r) :
    Calls Try.prog 18 #[.agg #[.slice A0_0 l0_0.length c0_0], .int .i64 a1] w fun e w' => ∃ v0_ : Value, e = .returned (v0_) ∧ Kd.R (Kd.int .i64) 3 w' w.heap.size (fun _ => True) v0_ r ∧ Below w.heap.size w w' := by
  have hu24 := Try.underlying24
  have HR0_0 := aM hr0_0
  have HC0_0 := aM hc0_0
  clear hr0_0 hc0_0
  have HB := aM (Below.refl w.heap.size w)
  have H : ((graph_valid.f k l0_0).bind fun t142 => (if t142 = true then (if a1 < 0 then (graph_Reach.j0 k a1 true l0_0) else (graph_Reach.j0 k a1 (decide (a1 ≥ (l0_0.length : Int))) l0_0)) else (graph_Reach.j0 k a1 true l0_0))) = some r := h
  clear h
  have HC3 := aM H
  clear H
  go_enter Try.func18, Try.ntmps18
  go_upto_region 1 with (first | ((with_reducible refine gate_dst (N := 2) rfl ?_); (try (refine gate_guard (by rfl) ?_; dsimp only)); refine box_event ?hg (N := 2) ?hd (cs := #[.slice A0_0 l0_0.length c0_0]) (t := 24) ?hr ?_; (case hd => rfl); (case hg => rfl); (case hr => first | (go_simp; done) | (go_simp; rfl)); intro gb141 hg w4 hbox hb; have n0_ := aM (below_step (by repeat (first | (with_reducible first | exact HB.out | apply bA | apply bN | apply bD) | exact HB.out)) hb); have n1_ := aM (hbox); have n2_ := aM ((by rw [hg]; exact (below_size (by repeat (first | (with_reducible first | exact HB.out | apply bA | apply bN | apply bD) | exact HB.out))) : w.heap.size ≤ gb141)); have n3_ := aM ((by rw [hg]; exact (below_size (by repeat (first | (with_reducible first | exact HB.out | apply bA | apply bN | apply bD) | exact HB.out))) : w.heap.size ≤ gb141)); clear HB; have HB := n0_; have BK141 := n1_; have GW141 := n2_; have GE141 := n3_; clear n0_ n1_ n2_ n3_; clear hb hbox hg))
  (try simp only [Act.put, List.setIfInBounds_toArray, List.set_cons_zero, List.set_cons_succ])
  go_cut [21] (fun v21 wc => ∃ (kq : Nat) (x21_2 : Bool), v21 = .bool x21_2 ∧ Aside0 (graph_Reach.j0 kq a1 x21_2 l0_0 = some r) ∧ Aside0 (kq ≤ k) ∧ Aside0 (wc.heap[gb141]? = some (.cells #[(.slice A0_0 l0_0.length c0_0)] 24 (0, 0))) ∧ Aside0 (Below w.heap.size w wc))
  case first =>
    have H := HC3.out
    clear HC3
    replace H := Option.bind_eq_some_iff.mp H
    obtain ⟨t142, A50, H⟩ := H
    replace H : (if t142 = true then (if a1 < 0 then (graph_Reach.j0 k a1 true l0_0) else (graph_Reach.j0 k a1 (decide (a1 ≥ (l0_0.length : Int))) l0_0)) else (graph_Reach.j0 k a1 true l0_0)) = some r := H
    have A5 := aM A50
    clear A50
    by_cases c6 : t142 = true
    · subst c6
      have H1 : (if a1 < 0 then (graph_Reach.j0 k a1 true l0_0) else (graph_Reach.j0 k a1 (decide (a1 ≥ (l0_0.length : Int))) l0_0)) = some r := by rw [if_pos rfl] at H; exact H
      clear H
      have H := H1
      clear H1
      by_cases c7 : a1 < 0
      · rw [if_pos c7] at H
        have c7b0 : decide (a1 < 0) = true := decide_eq_true c7
        clear c7
        (first | rw [c7b0] | (simp only [i64_w, i32_w]; rw [c7b0]) | skip)
        have H' := aM H
        clear H
        have hcz8_0 : w4.cell? ⟨gb141, 0, none⟩ = some (.slice A0_0 l0_0.length c0_0) := (blk_cell BK141.out 0).trans rfl
        have hfz8_0 := blk_frozen BK141.out 0
        go_wp2_with (first | ((with_reducible refine gate_callee (f := 27) rfl ?_); refine goesL_ (some 9) rfl rfl Try.func27 (by kernel_rfl) rfl #[.agg #[.slice A0_0 l0_0.length c0_0]] rfl (by (try simp only [List.map_toArray, List.map_cons, List.map_nil]); first | done | rfl | (simp only [List.length_drop, List.length_take]; rfl)) ?_; (with_reducible refine (graph_valid.calls k _ _ l0_0 true _ ?side1 ?side2 A5.out).mono ?_); (case side1 => repeat (first | exact (Kd.C_below HR0_0.out HB.out) | (with_reducible refine Kd.C_alloc ?_ _) | (with_reducible refine Kd.C_drewN ?_ _) | (with_reducible refine Kd.C_drew ?_))); (case side2 => exact HC0_0.out); rintro e w9 ⟨rfl, hb⟩; refine ⟨_, rfl, ?_⟩; have n0_ := aM (blk_below (g := gb141) (o := .cells #[.slice A0_0 l0_0.length c0_0] 24 (0, 0)) (by (with_reducible repeat (first | refine kN ?_ _ | refine kD ?_ | refine kA ?_ _)); exact BK141.out) hb); have n1_ := aM (below_step (by repeat (first | (with_reducible first | exact HB.out | apply bA | apply bN | apply bD | refine below_set ?_ GE141.out) | exact HB.out)) hb); clear BK141; clear HB; have BK141 := n0_; have HB := n1_; clear n0_ n1_; (try clear hb); (try clear hb2); (try clear hk); (try clear hi)))
        go_meet
        case rel => exact ⟨_, (true), (by first | rfl | (simp; done) | (simp [*]; done)), H', ⟨by first | omega | exact Nat.le_refl _⟩, ⟨by (with_reducible repeat (first | refine kN ?_ _ | refine kD ?_ | refine kA ?_ _)); exact BK141.out⟩, ⟨by repeat (first | (with_reducible first | exact HB.out | apply bA | apply bN | apply bD | refine below_set ?_ GE141.out) | exact HB.out)⟩⟩
      · rw [if_neg c7] at H
        have c7b0 : decide (a1 < 0) = false := decide_eq_false c7
        clear c7
        (first | rw [c7b0] | (simp only [i64_w, i32_w]; rw [c7b0]) | skip)
        have H' := aM H
        clear H
        have hcz10_0 : w4.cell? ⟨gb141, 0, none⟩ = some (.slice A0_0 l0_0.length c0_0) := (blk_cell BK141.out 0).trans rfl
        have hfz10_0 := blk_frozen BK141.out 0
        go_wp2_with (first | ((with_reducible refine gate_callee (f := 27) rfl ?_); refine goesL_ (some 9) rfl rfl Try.func27 (by kernel_rfl) rfl #[.agg #[.slice A0_0 l0_0.length c0_0]] rfl (by (try simp only [List.map_toArray, List.map_cons, List.map_nil]); first | done | rfl | (simp only [List.length_drop, List.length_take]; rfl)) ?_; (with_reducible refine (graph_valid.calls k _ _ l0_0 true _ ?side1 ?side2 A5.out).mono ?_); (case side1 => repeat (first | exact (Kd.C_below HR0_0.out HB.out) | (with_reducible refine Kd.C_alloc ?_ _) | (with_reducible refine Kd.C_drewN ?_ _) | (with_reducible refine Kd.C_drew ?_))); (case side2 => exact HC0_0.out); rintro e w11 ⟨rfl, hb⟩; refine ⟨_, rfl, ?_⟩; have n0_ := aM (blk_below (g := gb141) (o := .cells #[.slice A0_0 l0_0.length c0_0] 24 (0, 0)) (by (with_reducible repeat (first | refine kN ?_ _ | refine kD ?_ | refine kA ?_ _)); exact BK141.out) hb); have n1_ := aM (below_step (by repeat (first | (with_reducible first | exact HB.out | apply bA | apply bN | apply bD | refine below_set ?_ GE141.out) | exact HB.out)) hb); clear BK141; clear HB; have BK141 := n0_; have HB := n1_; clear n0_ n1_; (try clear hb); (try clear hb2); (try clear hk); (try clear hi); have hcz12_0 : w11.cell? ⟨gb141, 0, none⟩ = some (.slice A0_0 l0_0.length c0_0) := (blk_cell BK141.out 0).trans rfl; have hfz12_0 := blk_frozen BK141.out 0))
        go_meet
        case rel => exact ⟨_, (decide (a1 ≥ (l0_0.length : Int))), (by first | rfl | (simp; done) | (simp [*]; done)), H', ⟨by first | omega | exact Nat.le_refl _⟩, ⟨by (with_reducible repeat (first | refine kN ?_ _ | refine kD ?_ | refine kA ?_ _)); exact BK141.out⟩, ⟨by repeat (first | (with_reducible first | exact HB.out | apply bA | apply bN | apply bD | refine below_set ?_ GE141.out) | exact HB.out)⟩⟩
    · replace c6 := Bool.eq_false_iff.mpr c6
      subst c6
      have H1 : (graph_Reach.j0 k a1 true l0_0) = some r := by rw [if_neg (show ¬ (false = true) by decide)] at H; exact H
      clear H
      have H := H1
      clear H1
      have H' := aM H
      clear H
      have hcz13_0 : w4.cell? ⟨gb141, 0, none⟩ = some (.slice A0_0 l0_0.length c0_0) := (blk_cell BK141.out 0).trans rfl
      have hfz13_0 := blk_frozen BK141.out 0
      go_wp2_with (first | ((with_reducible refine gate_callee (f := 27) rfl ?_); refine goesL_ (some 9) rfl rfl Try.func27 (by kernel_rfl) rfl #[.agg #[.slice A0_0 l0_0.length c0_0]] rfl (by (try simp only [List.map_toArray, List.map_cons, List.map_nil]); first | done | rfl | (simp only [List.length_drop, List.length_take]; rfl)) ?_; (with_reducible refine (graph_valid.calls k _ _ l0_0 false _ ?side1 ?side2 A5.out).mono ?_); (case side1 => repeat (first | exact (Kd.C_below HR0_0.out HB.out) | (with_reducible refine Kd.C_alloc ?_ _) | (with_reducible refine Kd.C_drewN ?_ _) | (with_reducible refine Kd.C_drew ?_))); (case side2 => exact HC0_0.out); rintro e w14 ⟨rfl, hb⟩; refine ⟨_, rfl, ?_⟩; have n0_ := aM (blk_below (g := gb141) (o := .cells #[.slice A0_0 l0_0.length c0_0] 24 (0, 0)) (by (with_reducible repeat (first | refine kN ?_ _ | refine kD ?_ | refine kA ?_ _)); exact BK141.out) hb); have n1_ := aM (below_step (by repeat (first | (with_reducible first | exact HB.out | apply bA | apply bN | apply bD | refine below_set ?_ GE141.out) | exact HB.out)) hb); clear BK141; clear HB; have BK141 := n0_; have HB := n1_; clear n0_ n1_; (try clear hb); (try clear hb2); (try clear hk); (try clear hi)))
      go_meet
      case rel => exact ⟨_, (true), (by first | rfl | (simp; done) | (simp [*]; done)), H', ⟨by first | omega | exact Nat.le_refl _⟩, ⟨by (with_reducible repeat (first | refine kN ?_ _ | refine kD ?_ | refine kA ?_ _)); exact BK141.out⟩, ⟨by repeat (first | (with_reducible first | exact HB.out | apply bA | apply bN | apply bD | refine below_set ?_ GE141.out) | exact HB.out)⟩⟩
  case rest =>
    clear HC3
    try clear c1
    try clear c2
    try clear p2
    try clear c6
    try clear c7
    try clear c7b0
    try clear hcz10_0
    try clear hcz12_0
    try clear hcz13_0
    try clear hcz8_0
    try clear hfz10_0
    try clear hfz12_0
    try clear hfz13_0
    try clear hfz8_0
    obtain ⟨kq, x21_2, rfl, HA, HJ2, BK141, HB⟩ := hcut
    cases kq with
    | zero => exact absurd HA.out (by simp [graph_Reach.j0])
    | succ kj2 =>
      have H := HA.out
      clear HA
      simp only [graph_Reach.j0] at H
      by_cases c15 : x21_2 = true
      · subst c15
        have H1 : (some ([] : List Int)) = some r := by rw [if_pos rfl] at H; exact H
        clear H
        have H := H1
        clear H1
        obtain rfl := Option.some.inj H
        go_wp2
        go_ret
        exact ⟨_, by first | rfl | (simp [errW_none, errW_some] <;> rfl) | (simp [*, errW_none, errW_some] <;> rfl), by first | exact Kd.R_nil _ _ _ _ _ | exact Kd.N_nil _ _ _ _ _ | exact Kd.V_nil _ _ _ _ _ | exact Kd.Q_nil _ _ _ _ _ | exact Kd.S_nil _ _ _ _ _, by repeat (first | (with_reducible first | exact HB.out | apply bA | apply bN | apply bD | refine below_set ?_ GE141.out) | exact HB.out)⟩
      · replace c15 := Bool.eq_false_iff.mpr c15
        subst c15
        have H1 : ((graph_reached.f kj2 l0_0 (([a1] : List Int))).bind fun t146 => (graph_Reach.l0 kj2 ([] : List Int) t146 (t146.length : Int) 0)) = some r := by rw [if_neg (show ¬ (false = true) by decide)] at H; exact H
        clear H
        have H := H1
        clear H1
        obtain ⟨y143, hy143⟩ : ∃ y_ : List Int, y_ = (([a1] : List Int)) := ⟨_, rfl⟩
        replace H : ((graph_reached.f kj2 l0_0 y143).bind fun t146 => (graph_Reach.l0 kj2 ([] : List Int) t146 (t146.length : Int) 0)) = some r := by first | (rw [hy143]; with_reducible exact H) | (have H2_ := (Option.bind_some _ _).symm.trans H; rw [hy143]; with_reducible exact H2_) | (have H2_ := (Option.bind_some _ _).symm.trans H; with_reducible exact H2_) | with_reducible exact H | (rw [hy143]; exact H) | exact H
        have Ny143 := aM hy143
        clear hy143
        replace H := Option.bind_eq_some_iff.mp H
        obtain ⟨t146, A160, H⟩ := H
        replace H : (graph_Reach.l0 kj2 ([] : List Int) t146 (t146.length : Int) 0) = some r := H
        have A16 := aM A160
        clear A160
        have H' := aM H
        clear H
        have hcz17_0 : wc.cell? ⟨gb141, 0, none⟩ = some (.slice A0_0 l0_0.length c0_0) := (blk_cell BK141.out 0).trans rfl
        have hfz17_0 := blk_frozen BK141.out 0
        go_wp2_with (first | ((with_reducible refine gate_dst (N := 25) rfl ?_); (try (refine gate_guard (by rfl) ?_; dsimp only)); refine Kd.R_lit (Kd.int .i64) _ 3 ?hg (N := 25) ?hd (xs := ([a1] : List Int)) (inner := [.int .i64 a1]) (ok := fun _ => True) (okp := fun _ => True) ?hr ?hp (fun _ hk => hk) trivial (Below.refl _ _) (Nat.le_refl _) (by simp) ?_; (case hd => rfl); (case hg => rfl); (case hr => first | (go_simp; done) | (go_simp; rfl)); (case hp => exact (Reps.one (show Kd.M (Kd.int .i64) _ _ _ a1 [.int .i64 a1] from rfl) (Reps.none _ _))); intro v144 w18 ho19 hb hg_ hnew_; clear hg_ hnew_; (first | rw [← Ny143.out] at ho19 | (simp only [Int.reduceToNat] at ho19; rw [← Ny143.out] at ho19)); have n0_ := aM (Kd.R_lower ho19 (below_size (by repeat (first | (with_reducible first | exact HB.out | apply bA | apply bN | apply bD | refine below_set ?_ GE141.out) | exact HB.out)))); have n1_ := aM (blk_below (g := gb141) (o := .cells #[.slice A0_0 l0_0.length c0_0] 24 (0, 0)) (by (with_reducible repeat (first | refine kN ?_ _ | refine kD ?_ | refine kA ?_ _)); exact BK141.out) hb); have n2_ := aM (below_step (by repeat (first | (with_reducible first | exact HB.out | apply bA | apply bN | apply bD | refine below_set ?_ GE141.out) | exact HB.out)) hb); clear BK141; clear HB; have HO145 := n0_; have BK141 := n1_; have HB := n2_; clear n0_ n1_ n2_; clear hb ho19; obtain ⟨Ao20, co20, eo20⟩ := Kd.R_slice HO145.out; subst eo20) | ((with_reducible refine gate_callee (f := 33) rfl ?_); refine goesL_ (some 26) rfl rfl Try.func33 (by kernel_rfl) rfl #[.slice A0_0 l0_0.length c0_0, .slice Ao20 y143.length co20] rfl (by (try simp only [List.map_toArray, List.map_cons, List.map_nil]); first | done | rfl | (simp only [List.length_drop, List.length_take]; rfl)) ?_; (with_reducible refine (graph_reached.calls kj2 _ _ l0_0 _ _ y143 t146 _ ?side1 ?side2 ?side3 ?side4 A16.out).mono ?_); (case side1 => repeat (first | exact (Kd.C_below HR0_0.out HB.out) | (with_reducible refine Kd.C_alloc ?_ _) | (with_reducible refine Kd.C_drewN ?_ _) | (with_reducible refine Kd.C_drew ?_))); (case side2 => exact HC0_0.out); (case side3 => repeat (first | exact (Kd.R_reads' HO145.out).2.2 | (with_reducible refine Kd.C_alloc ?_ _) | (with_reducible refine Kd.C_drewN ?_ _) | (with_reducible refine Kd.C_drew ?_))); (case side4 => exact (Kd.R_reads' HO145.out).2.1); rintro e w21 ⟨v147, rfl, ho0, hb⟩; refine ⟨_, rfl, ?_⟩; have n0_ := aM (Kd.R_below (by (with_reducible repeat (first | apply Kd.R_alloc | apply Kd.R_drewN | apply Kd.R_drew)); exact HO145.out) hb); have n1_ := aM (Kd.R_lower ho0 (below_size (by repeat (first | (with_reducible first | exact HB.out | apply bA | apply bN | apply bD | refine below_set ?_ GE141.out) | exact HB.out)))); have n2_ := aM (blk_below (g := gb141) (o := .cells #[.slice A0_0 l0_0.length c0_0] 24 (0, 0)) (by (with_reducible repeat (first | refine kN ?_ _ | refine kD ?_ | refine kA ?_ _)); exact BK141.out) hb); have n3_ := aM (below_step (by repeat (first | (with_reducible first | exact HB.out | apply bA | apply bN | apply bD | refine below_set ?_ GE141.out) | exact HB.out)) hb); clear HO145; clear BK141; clear HB; have HO145 := n0_; have HO148 := n1_; have BK141 := n2_; have HB := n3_; clear n0_ n1_ n2_ n3_; (try clear hb); (try clear hb2); (try clear hk); (try clear hi); (try clear ho0); obtain ⟨Ao22, co22, eo22⟩ := Kd.R_slice HO148.out; subst eo22))
        go_loopg [5, 28] kj2 (fun kq v5 v28 w' => ∃ (x5_2 : List Int) (x28_2 : Int), v28 = .int .i64 x28_2 ∧ Aside0 (graph_Reach.l0 kq x5_2 t146 (t146.length : Int) x28_2 = some r) ∧ Aside0 (kq ≤ kj2) ∧ Aside0 (Kd.R (Kd.int .i64) 3 w' w.heap.size (fun _ => True) v5 x5_2) ∧ Aside0 (Kd.R Kd.bool 4 w' w.heap.size (fun _ => True) (.slice Ao22 t146.length co22) t146) ∧ Aside0 (w'.heap[gb141]? = some (.cells #[(.slice A0_0 l0_0.length c0_0)] 24 (0, 0))) ∧ Aside0 (Below w.heap.size w w'))
        case atStart => exact ⟨(([] : List Int)), (0), (by first | rfl | (simp; done) | (simp [*]; done)), H', ⟨Nat.le_refl _⟩, ⟨by first | exact Kd.R_nil _ _ _ _ _ | exact Kd.N_nil _ _ _ _ _ | exact Kd.V_nil _ _ _ _ _ | exact Kd.Q_nil _ _ _ _ _ | exact Kd.S_nil _ _ _ _ _⟩, ⟨by (with_reducible repeat (first | apply Kd.R_alloc | apply Kd.R_drewN | apply Kd.R_drew)); exact HO148.out⟩, ⟨by (with_reducible repeat (first | refine kN ?_ _ | refine kD ?_ | refine kA ?_ _)); exact BK141.out⟩, ⟨by repeat (first | (with_reducible first | exact HB.out | apply bA | apply bN | apply bD | refine below_set ?_ GE141.out) | exact HB.out)⟩⟩
        case round =>
          clear H'
          try clear c1
          try clear c2
          try clear p2
          try clear c3
          try clear c6
          try clear c7
          try clear c7b0
          try clear c15
          try clear c18
          try clear hcz10_0
          try clear hcz12_0
          try clear hcz13_0
          try clear hcz17_0
          try clear hcz8_0
          try clear hfz10_0
          try clear hfz12_0
          try clear hfz13_0
          try clear hfz17_0
          try clear hfz8_0
          try clear p2
          obtain ⟨x5_2, x28_2, rfl, HA, HK2, HO_5, HO_26, BK141, HB⟩ := hrel
          cases gk with
          | zero => exact absurd HA.out (by simp [graph_Reach.l0])
          | succ k2 =>
            have H := HA.out
            clear HA
            simp only [graph_Reach.l0] at H
            by_cases c23 : x28_2 < (t146.length : Int)
            · rw [if_pos c23] at H
              have c23b0 : decide (x28_2 < (t146.length : Int)) = true := decide_eq_true c23
              clear c23
              by_cases c24 : 0 ≤ x28_2
              · rw [if_pos c24] at H
                have c24b0 : decide (0 ≤ x28_2) = true := decide_eq_true c24
                clear c24
                by_cases c25 : x28_2 < (t146.length : Int)
                · rw [if_pos c25] at H
                  have c25b0 : decide (x28_2 < (t146.length : Int)) = true := decide_eq_true c25
                  clear c25
                  obtain ⟨bq26, hbq26⟩ : ∃ b_ : Bool, b_ = (rdOf false t146 x28_2) := ⟨_, rfl⟩
                  replace H : (if bq26 = true then (if x5_2.length < 17592186044416 then (graph_Reach.l0 k2 (x5_2 ++ [x28_2]) t146 (t146.length : Int) (wrap64 (x28_2 + 1))) else (none)) else (graph_Reach.l0 k2 x5_2 t146 (t146.length : Int) (wrap64 (x28_2 + 1)))) = some r := by rw [← hbq26] at H; exact H
                  have Nbq26 := aM hbq26
                  clear hbq26
                  by_cases c27 : bq26 = true
                  · subst c27
                    have H1 : (if x5_2.length < 17592186044416 then (graph_Reach.l0 k2 (x5_2 ++ [x28_2]) t146 (t146.length : Int) (wrap64 (x28_2 + 1))) else (none)) = some r := by rw [if_pos rfl] at H; exact H
                    clear H
                    have H := H1
                    clear H1
                    by_cases c28 : x5_2.length < 17592186044416
                    · rw [if_pos c28] at H
                      have LMc28 := aM c28
                      clear c28
                      obtain ⟨y150, hy150⟩ : ∃ y_ : List Int, y_ = (x5_2 ++ [x28_2]) := ⟨_, rfl⟩
                      replace H : (graph_Reach.l0 k2 y150 t146 (t146.length : Int) (wrap64 (x28_2 + 1))) = some r := by first | (rw [hy150]; with_reducible exact H) | (have H2_ := (Option.bind_some _ _).symm.trans H; rw [hy150]; with_reducible exact H2_) | (have H2_ := (Option.bind_some _ _).symm.trans H; with_reducible exact H2_) | with_reducible exact H | (rw [hy150]; exact H) | exact H
                      have Ny150 := aM hy150
                      clear hy150
                      have H' := aM H
                      clear H
                      have p149 : 0 ≤ (x28_2 : Int) := of_decide_eq_true (by first | (with_reducible assumption) | assumption)
                      have q149 : x28_2 < (t146.length : Int) := of_decide_eq_true (by first | (with_reducible assumption) | assumption)
                      obtain ⟨ad149, e149, hx149_0⟩ := Kd.at_bool (Kd.R_reads' HO_26.out).2.2 x28_2 p149 q149
                      (try rw [← Nbq26.out] at hx149_0)
                      cases e149
                      replace p149 := eq_true p149
                      replace q149 := eq_true q149
                      go_wp2_with (first | ((with_reducible refine gate_builtin (b := .append) (xs := #[.tmp 34, .tmp 36]) rfl ?_); (try (refine gate_guard (by rfl) ?_; dsimp only)); at_builtin; refine Kd.R_append (Kd.int .i64) (w0 := w) w.heap.size rfl (.tmp 34) (.tmp 36) 32 3 (.int .i64 0) 8 rfl Try.underlying32 info3 rfl (by decide) (by omega) u5 x5_2 x28_2 [.int .i64 x28_2] (fun _ => True) (fun _ => False) rfl rfl ?aP (fun _ hk => hk.elim) ?aF ?aO ?aB ?aS ?aL ?_; (case aP => exact rfl); (case aB => exact (by repeat (first | (with_reducible first | exact HB.out | apply bA | apply bN | apply bD | refine below_set ?_ GE141.out) | exact HB.out))); (case aF => exact (fun _ _ => trivial)); (case aO => exact (by (with_reducible repeat (first | apply Kd.R_alloc | apply Kd.R_drewN | apply Kd.R_drew)); exact HO_5.out)); (case aS => exact (below_size (by repeat (first | (with_reducible first | exact HB.out | apply bA | apply bN | apply bD | refine below_set ?_ GE141.out) | exact HB.out)))); (case aL => have := LMc28.out; omega); intro v151 w29 ho hb hg hat; rw [← Ny150.out] at ho; have n0_ := aM (Kd.R_over' (by (with_reducible repeat (first | apply Kd.R_alloc | apply Kd.R_drewN | apply Kd.R_drew)); exact HO_26.out) (Kd.R_typed (by (with_reducible repeat (first | apply Kd.R_alloc | apply Kd.R_drewN | apply Kd.R_drew)); exact HO_5.out)) (by decide) hg); have n1_ := aM (blk_grown (g := gb141) (o := .cells #[.slice A0_0 l0_0.length c0_0] 24 (0, 0)) (by (with_reducible repeat (first | refine kN ?_ _ | refine kD ?_ | refine kA ?_ _)); exact BK141.out) hg (Kd.R_ne HO_5.out BK141.out (by decide))); have n2_ := aM (hb); have n3_ := aM (ho); clear HO_26; clear BK141; clear HB; clear HO_5; have HO_26 := n0_; have BK141 := n1_; have HB := n2_; have HO152 := n3_; clear n0_ n1_ n2_ n3_; clear ho hb hg hat))
                      go_roundg k2
                      case measure => have := HJ2.out; have := HK2.out; omega
                      case rel => exact ⟨(y150), (wrap64 (x28_2 + 1)), (by first | rfl | (simp; done) | (simp [*]; done)), H', ⟨by have := HJ2.out; have := HK2.out; omega⟩, ⟨by (with_reducible repeat (first | apply Kd.R_alloc | apply Kd.R_drewN | apply Kd.R_drew)); exact HO152.out⟩, ⟨by (with_reducible repeat (first | apply Kd.R_alloc | apply Kd.R_drewN | apply Kd.R_drew)); exact HO_26.out⟩, ⟨by (with_reducible repeat (first | refine kN ?_ _ | refine kD ?_ | refine kA ?_ _)); exact BK141.out⟩, ⟨by repeat (first | (with_reducible first | exact HB.out | apply bA | apply bN | apply bD | refine below_set ?_ GE141.out) | exact HB.out)⟩⟩
                    · rw [if_neg c28] at H
                      exact absurd H (by simp)
                  · replace c27 := Bool.eq_false_iff.mpr c27
                    subst c27
                    have H1 : (graph_Reach.l0 k2 x5_2 t146 (t146.length : Int) (wrap64 (x28_2 + 1))) = some r := by rw [if_neg (show ¬ (false = true) by decide)] at H; exact H
                    clear H
                    have H := H1
                    clear H1
                    have H' := aM H
                    clear H
                    have p149 : 0 ≤ (x28_2 : Int) := of_decide_eq_true (by first | (with_reducible assumption) | assumption)
                    have q149 : x28_2 < (t146.length : Int) := of_decide_eq_true (by first | (with_reducible assumption) | assumption)
                    obtain ⟨ad149, e149, hx149_0⟩ := Kd.at_bool (Kd.R_reads' HO_26.out).2.2 x28_2 p149 q149
                    (try rw [← Nbq26.out] at hx149_0)
                    cases e149
                    replace p149 := eq_true p149
                    replace q149 := eq_true q149
                    go_wp2
                    go_roundg k2
                    case measure => have := HJ2.out; have := HK2.out; omega
                    case rel => exact ⟨(x5_2), (wrap64 (x28_2 + 1)), (by first | rfl | (simp; done) | (simp [*]; done)), H', ⟨by have := HJ2.out; have := HK2.out; omega⟩, ⟨by (with_reducible repeat (first | apply Kd.R_alloc | apply Kd.R_drewN | apply Kd.R_drew)); exact HO_5.out⟩, ⟨by (with_reducible repeat (first | apply Kd.R_alloc | apply Kd.R_drewN | apply Kd.R_drew)); exact HO_26.out⟩, ⟨by (with_reducible repeat (first | refine kN ?_ _ | refine kD ?_ | refine kA ?_ _)); exact BK141.out⟩, ⟨by repeat (first | (with_reducible first | exact HB.out | apply bA | apply bN | apply bD | refine below_set ?_ GE141.out) | exact HB.out)⟩⟩
                · rw [if_neg c25] at H
                  exact absurd H (by simp)
              · rw [if_neg c24] at H
                exact absurd H (by simp)
            · rw [if_neg c23] at H
              have c23b0 : decide (x28_2 < (t146.length : Int)) = false := decide_eq_false c23
              clear c23
              obtain rfl := Option.some.inj H
              go_wp2
              go_ret
              exact ⟨_, by first | rfl | (simp [errW_none, errW_some] <;> rfl) | (simp [*, errW_none, errW_some] <;> rfl), by (with_reducible repeat (first | apply Kd.R_alloc | apply Kd.R_drewN | apply Kd.R_drew)); exact HO_5.out, by repeat (first | (with_reducible first | exact HB.out | apply bA | apply bN | apply bD | refine below_set ?_ GE141.out) | exact HB.out)⟩

end Go.Proofs.Ytpmjpngmmphkmaa.P
/- graph.Levels as a Lean function on lists. -/
namespace Go.Proofs.Ytpmjpngmmphkmaa
open Go.RowKit Go.Proofs.YtpmjpngmmphkmaaW.PrintWords Go.Proofs.YtpmjpngmmphkmaaW.PrintLast Go.Proofs.YtpmjpngmmphkmaaW.PrintMore Go.Proofs.Ytpmjpngmmphkmaa.P
namespace Lv
open Tj Rw Od

/-- The level of v by its successors. -/
def lv1 : Nat → Int → List Int → Int → List Int → Option (List Int)
  | 0, _, _, _, _ => none
  | k + 1, v, l, i, lv =>
    if i < l.length then
      if 0 ≤ rd l i ∧ rd l i < lv.length then lv1 k v l (i + 1) (lv.set v.toNat (max (rd lv v) (wrap64 (rd lv (rd l i) + 1)))) else none
    else some lv

/-- The levels, component by component; none inside: a cycle. -/
def lv0 : Nat → List (List Int) → List (List Int) → Int → List Int → Int → Option (Option (List Int × Int))
  | 0, _, _, _, _, _ => none
  | k + 1, es, comps, i, lv, top =>
    if i < comps.length then
      if 0 < (row comps i).length ∧ 0 ≤ rd (row comps i) 0 ∧ rd (row comps i) 0 < es.length then
        if 1 < (row comps i).length ∨ (row es (rd (row comps i) 0)).contains (rd (row comps i) 0) = true then some none
        else (lv1 k (rd (row comps i) 0) (row es (rd (row comps i) 0)) 0 lv).bind fun lv2 => lv0 k es comps (i + 1) lv2 (max top (rd lv2 (rd (row comps i) 0)))
      else none
    else some (some (lv, top))

/-- The nodes by their levels. -/
def lv3 : Nat → List Int → Int → List (List Int) → Option (List (List Int))
  | 0, _, _, _ => none
  | k + 1, lv, i, out =>
    if i < lv.length then
      if 0 ≤ rd lv i ∧ rd lv i < out.length ∧ (row out (rd lv i)).length < 17592186044415 then lv3 k lv (i + 1) (app out (rd lv i) i) else none
    else some out

noncomputable def levelsF (k : Nat) (es : List (List Int)) : Option (List (List Int) × Int) :=
  (graph_valid.f k es).bind fun b =>
    if b = true then
      (graph_ordered.f es).bind fun comps =>
        if es.length < 17592186044416 then
          (lv0 k es comps 0 (List.replicate es.length 0) (-1)).bind fun o =>
            match o with
            | none => some ([], 18)
            | some (lv, top) => if 0 ≤ wrap64 (top + 1) ∧ wrap64 (top + 1) < 5864062014805 then (lv3 k lv 0 (List.replicate (wrap64 (top + 1)).toNat [])).map fun out => (out, 0) else none
        else none
    else some ([], 1)
end Lv
end Go.Proofs.Ytpmjpngmmphkmaa
/- slices.Contains as printed says whether the list has the number. -/
namespace Go.Proofs.Ytpmjpngmmphkmaa
open Go.RowKit Go.Proofs.YtpmjpngmmphkmaaW.PrintWords Go.Proofs.YtpmjpngmmphkmaaW.PrintLast Go.Proofs.YtpmjpngmmphkmaaW.PrintMore Go.Proofs.Ytpmjpngmmphkmaa.P
namespace Lv
open Tj Rw Od
theorem wrap_small (x : Int) (h0 : -9223372036854775808 ≤ x) (h1 : x < 9223372036854775808) : wrap64 x = x := by
  unfold wrap64
  omega
theorem index_run (l : List Int) (a : Int) (hl : l.length ≤ 9223372036854775807) : ∀ (m : Nat) (i : Nat), i + m = l.length → (l.take i).contains a = false → ∃ r : Int, slices_Index_int_int.l0 (m + 1) l a l.length i = some r ∧ (decide (r ≥ 0)) = l.contains a := by
  intro m
  induction m with
  | zero =>
    intro i hi hc
    have : i = l.length := by omega
    subst this
    rw [List.take_length] at hc
    refine ⟨-1, ?_, by rw [hc]; decide⟩
    unfold slices_Index_int_int.l0
    rw [if_neg (by omega)]
  | succ m ih =>
    intro i hi hc
    unfold slices_Index_int_int.l0
    rw [if_pos (by omega), if_pos (by omega), if_pos (by omega)]
    have hil : i < l.length := by omega
    have hrd : rd l (i : Int) = l[i] := by
      show l.getD (i : Int).toNat 0 = l[i]
      rw [Int.toNat_natCast, List.getD_eq_getElem?_getD, List.getElem?_eq_getElem hil]
      rfl
    rw [hrd]
    by_cases he : a = l[i]
    · rw [if_pos he]
      refine ⟨i, rfl, ?_⟩
      have h1 : l.contains a = true := by
        rw [List.contains_iff_mem, he]
        exact List.getElem_mem hil
      rw [h1]
      exact decide_eq_true (by omega)
    · rw [if_neg he]
      have hw : wrap64 ((i : Int) + 1) = ((i + 1 : Nat) : Int) := by
        rw [wrap_small _ (by omega) (by omega)]
        omega
      rw [hw]
      refine ih (i + 1) (by omega) ?_
      rw [List.take_succ_eq_append_getElem hil, List.contains_append, hc]
      simp [he]
theorem contains_run (l : List Int) (a : Int) (hl : l.length ≤ 9223372036854775807) : slices_Contains_int_int.f (l.length + 1) l a = some (l.contains a) := by
  obtain ⟨r, h1, h2⟩ := index_run l a hl l.length 0 (by omega) rfl
  unfold slices_Contains_int_int.f slices_Index_int_int.f
  rw [show ((0 : Int)) = ((0 : Nat) : Int) from rfl, h1]
  show some (decide (r ≥ 0)) = _
  rw [h2]
end Lv
end Go.Proofs.Ytpmjpngmmphkmaa
/- graph.Levels: what the call does, by its Lean function. -/
namespace Go.Proofs.Ytpmjpngmmphkmaa
open Go.RowKit Go.Proofs.YtpmjpngmmphkmaaW.PrintWords Go.Proofs.YtpmjpngmmphkmaaW.PrintLast Go.Proofs.YtpmjpngmmphkmaaW.PrintMore Go.Proofs.Ytpmjpngmmphkmaa.P
namespace Lv
set_option linter.unusedVariables false
set_option linter.unusedSimpArgs false
open Tj Rw Od

set_option maxRecDepth 100000 in
set_option maxHeartbeats 4000000 in
theorem levels_calls (k : Nat) (A : Option Addr) (c : Nat) (es : List (List Int)) (r1 : List (List Int)) (r2 : Int) (w : World) (hr : Kd.C KS w A es.length es) (hc : es.length ≤ c) (h : levelsF k es = some (r1, r2)) :
    Calls Try.prog 14 #[.agg #[.slice A es.length c]] w fun e w' => ∃ v, e = .returned (.tuple #[v, .int .i64 r2]) ∧ Kd.S KS 32 w' w.heap.size (fun _ => True) v r1 ∧ Below w.heap.size w w' := by
  have hu24 := Try.underlying24
  unfold levelsF at h
  obtain ⟨b, hb, h⟩ := Option.bind_eq_some_iff.1 h
  have HR := Aside0.mk hr
  have HC := Aside0.mk hc
  clear hr hc
  cases b with
  | false =>
    have HVA := Aside0.mk hb
    rw [if_neg (by decide)] at h
    obtain ⟨rfl, rfl⟩ := Prod.mk.inj (Option.some.inj h)
    clear hb h
    go_enter Try.func14, Try.ntmps14
    go_wp2_with (first | ((with_reducible refine gate_dst (N := 1) rfl ?_); refine box_event ?hg (N := 1) ?hd (cs := #[.slice A es.length c]) (t := 24) ?hr ?_; (case hd => rfl); (case hg => rfl); (case hr => first | (go_simp; done) | (go_simp; rfl)); intro gb hg w5 hbox hb; have B5 := Aside0.mk (below_step (Below.refl w.heap.size w) hb); have K5 := Aside0.mk hbox; have GE : Aside0 (w.heap.size ≤ gb) := Aside0.mk (by rw [hg]; exact Nat.le_refl _); have hcz : w5.cell? ⟨gb, 0, none⟩ = some (.slice A es.length c) := (blk_cell K5.out 0).trans rfl; clear hb hbox hg) | (go_at_call 27; refine (graph_valid.calls k A c es false _ (Kd.C_below HR.out B5.out) HC.out HVA.out).mono ?_; rintro e w7 ⟨rfl, hb7⟩; have B7 := Aside0.mk (below_step B5.out hb7); have K7 := Aside0.mk (blk_below K5.out hb7); clear hb7 hcz B5 K5; have hcz : w7.cell? ⟨gb, 0, none⟩ = some (.slice A es.length c) := (blk_cell K7.out 0).trans rfl) | fail)
    go_ret2
    exact ⟨_, rfl, Kd.S_nil _ _ _ _ _, B7.out⟩
  | true =>
    have HVA := Aside0.mk hb
    rw [if_pos rfl] at h
    obtain ⟨comps, ho, h⟩ := Option.bind_eq_some_iff.1 h
    have HO := Aside0.mk ho
    by_cases hL : es.length < 17592186044416
    case neg => rw [if_neg hL] at h; cases h
    rw [if_pos hL] at h
    obtain ⟨o, hlv, h⟩ := Option.bind_eq_some_iff.1 h
    have HLV := Aside0.mk hlv
    have HH := Aside0.mk h
    have HLL := Aside0.mk hL
    clear hb ho h hlv hL
    go_enter Try.func14, Try.ntmps14
    go_upto_region 4 with (first | ((with_reducible refine gate_dst (N := 1) rfl ?_); refine box_event ?hg (N := 1) ?hd (cs := #[.slice A es.length c]) (t := 24) ?hr ?_; (case hd => rfl); (case hg => rfl); (case hr => first | (go_simp; done) | (go_simp; rfl)); intro gb hg w5 hbox hb; have B5 := Aside0.mk (below_step (Below.refl w.heap.size w) hb); have K5 := Aside0.mk hbox; have GE : Aside0 (w.heap.size ≤ gb) := Aside0.mk (by rw [hg]; exact Nat.le_refl _); have hcz : w5.cell? ⟨gb, 0, none⟩ = some (.slice A es.length c) := (blk_cell K5.out 0).trans rfl; clear hb hbox hg) | (go_at_call 27; refine (graph_valid.calls k A c es true _ (Kd.C_below HR.out B5.out) HC.out HVA.out).mono ?_; rintro e w7 ⟨rfl, hb7⟩; have B7 := Aside0.mk (below_step B5.out hb7); have K7 := Aside0.mk (blk_below K5.out hb7); clear hb7 hcz B5 K5; have hcz : w7.cell? ⟨gb, 0, none⟩ = some (.slice A es.length c) := (blk_cell K7.out 0).trans rfl) | (go_at_call 28; refine (graph_ordered.calls A c es comps _ (Kd.C_below HR.out B7.out) HC.out HO.out).mono ?_; rintro e w9 ⟨vc, rfl, hV, hb9⟩; obtain ⟨Ac, cc, rfl, hlc, hF⟩ := hV; have V9 := Aside0.mk (Kd.F_bound hF); have B9 := Aside0.mk (below_step B7.out hb9); have K9 := Aside0.mk (blk_below K7.out hb9); have S7 := Aside0.mk (B7.out.size); have LC := Aside0.mk (Kd.F_max hF); clear hF hb9 hcz B7 K7 hlc; have hcz : w9.cell? ⟨gb, 0, none⟩ = some (.slice A es.length c) := (blk_cell K9.out 0).trans rfl) | fail)
    obtain ⟨i0, e0, e1, e2, e3⟩ := info_parts info3
    have hll := HLL.out
    have hmk := run_make w9 32 3 i0 _ Try.underlying32 e0 e1 .i64 .i64 es.length es.length (by omega) (by omega) (by rw [e3]; omega) (by omega)
    rw [Int.toNat_natCast, e2, Nat.mul_one] at hmk
    have hz0 : (Value.int .i64 0).cells = #[.int .i64 0] := rfl
    rw [hz0] at hmk
    clear e0 e1 e2 e3 hz0
    go_upto_region 6 with fail
    have hb0 := B9.out.size
    have O3 := Aside0.mk (arr_made (blk_new w9 (.cells (madeCells #[.int .i64 0] es.length) 3)))
    have B3 := Aside0.mk (below_alloc B9.out (.cells (madeCells #[.int .i64 0] es.length) 3))
    have K3 := Aside0.mk (blk_alloc K9.out (.cells (madeCells #[.int .i64 0] es.length) 3))
    have F3 := Aside0.mk (Kd.F_alloc V9.out (.cells (madeCells #[.int .i64 0] es.length) 3))
    have HGA : Aside0 (w.heap.size ≤ w9.heap.size ∧ gb < w9.heap.size) := ⟨hb0, blk_lt K9.out⟩
    clear hmk B9 K9 V9 hb0 hcz
    generalize w9.alloc (.cells (madeCells #[.int .i64 0] es.length) 3) = w10 at O3 B3 K3 F3 ⊢
    generalize w9.heap.size = ga at O3 B3 K3 F3 HGA ⊢
    have hlc := LC.out
    have hll2 : Aside0 ((List.replicate es.length (0 : Int)).length = es.length) := ⟨by simp⟩
    go_wp2_with fail
    go_loopg [6, 27] k (fun kq v6 v27 w' => ∃ (i top : Int) (lv : List Int), v27 = .int .i64 i ∧ v6 = .int .i64 top ∧ Aside0 (0 ≤ i) ∧ Aside0 (lv.length = es.length) ∧ Aside0 (lv0 kq es comps i lv top = some o) ∧ Aside0 (kq ≤ k) ∧ Aside0 (Below w.heap.size w w') ∧ Aside0 (w'.heap[gb]? = some (.cells #[.slice A es.length c] 24 (0, 0))) ∧ Aside0 (w'.heap[ga]? = some (arr lv)) ∧ Aside0 (Kd.F KS w' (fun k => w7.heap.size ≤ k ∧ k < ga) Ac comps.length comps))
    case atStart => exact ⟨0, -1, _, rfl, rfl, ⟨by omega⟩, hll2, HLV, ⟨Nat.le_refl _⟩, B3, K3, O3, F3⟩
    case round => as_aux_lemma =>
      clear HLV B3 K3 O3 F3 hll2
      obtain ⟨i, top, lv, rfl, rfl, HI, HLEN, HA, HK1, B3, K3, O3, F3⟩ := hrel
      cases gk with
      | zero => exact absurd HA.out (by simp [lv0])
      | succ k1 =>
        have H := HA.out
        clear HA
        rw [lv0] at H
        by_cases ci : i < comps.length
        · as_aux_lemma =>
          rw [if_pos ci] at H
          by_cases cx : 0 < (row comps i).length ∧ 0 ≤ rd (row comps i) 0 ∧ rd (row comps i) 0 < es.length
          case neg => rw [if_neg cx] at H; cases H
          rw [if_pos cx] at H
          obtain ⟨cx0, cx1, cx2⟩ := cx
          have hi0 := HI.out
          obtain ⟨adc, Ar, cr, er, hx, hxl, hxi⟩ := at_L1 (Kd.F_now F3.out) i hi0 ci
          subst er
          have el : rd_L1 comps i = row comps i := rfl
          rw [el] at hx hxl hxi
          have HXI := Aside0.mk hxi
          have HXL := Aside0.mk hxl
          obtain ⟨ad0, e0, hy⟩ := Kd.at_int hxi 0 (by omega) (by omega)
          subst e0
          rw [show ((0 : Int)).toNat = 0 from rfl, Addr.add_zero'] at hy
          clear hxi hxl el
          have cb : decide (i < (comps.length : Int)) = true := decide_eq_true ci
          have q0 := eq_true hi0
          have cz : (0 < (row comps i).length) = True := eq_true cx0
          have H' := Aside0.mk H
          clear H
          go_upto_region 10 with fail
          clear hy hx cz cb q0
          generalize rd (row comps i) 0 = v at H' cx1 cx2 ⊢
          have hcz := (blk_cell K3.out 0)
          have hcy : wr.cell? ⟨gb, 0, none⟩ = some (.slice A es.length c) := hcz.trans rfl
          clear hcz
          by_cases c1 : 1 < (row comps i).length
          · as_aux_lemma =>
            have H := H'.out
            clear H'
            rw [if_pos (Or.inl c1)] at H
            obtain rfl := Option.some.inj H
            obtain ⟨rfl, rfl⟩ := Prod.mk.inj (Option.some.inj HH.out)
            have cb1 : decide ((1 : Int) < ((row comps i).length : Int)) = true := decide_eq_true (by omega)
            clear H HH
            go_wp2_with fail
            go_ret2
            exact ⟨_, rfl, Kd.S_nil _ _ _ _ _, B3.out⟩
          · as_aux_lemma =>
            have cb1 : decide ((1 : Int) < ((row comps i).length : Int)) = false := decide_eq_false (by omega)
            obtain ⟨adE, Ae, ce, er, hx, hxl, hxi⟩ := at_L1 HR.out v cx1 cx2
            subst er
            have el : rd_L1 es v = row es v := rfl
            rw [el] at hx hxl hxi
            have hx1 := (B3.out.cell (World.block_lt_of_cell? _ _ hx)).trans hx
            have HXE := Aside0.mk hx
            have EXI := Aside0.mk hxi
            have EXL := Aside0.mk hxl
            clear hx hxi hxl el
            have q1 := eq_true cx1
            have q2 := eq_true cx2
            have CON := Aside0.mk (fun (wq : World) (hq : Below w.heap.size w wq) => slices_Contains_int_int.calls ((row es v).length + 1) Ae ce (row es v) v _ wq (Kd.C_below EXI.out hq) EXL.out (contains_run _ _ (EXI.out.2.1)))
            by_cases cc1 : (row es v).contains v = true
            · as_aux_lemma =>
              have H := H'.out
              clear H'
              rw [if_pos (Or.inr cc1)] at H
              obtain rfl := Option.some.inj H
              obtain ⟨rfl, rfl⟩ := Prod.mk.inj (Option.some.inj HH.out)
              clear H HH
              rw [cc1] at CON
              go_wp2_with (go_at_call 31; refine (CON.out wr B3.out).mono ?_; rintro e w11 ⟨rfl, hd11⟩; obtain ⟨⟨nq, rfl⟩⟩ := hd11)
              go_ret2
              exact ⟨_, rfl, Kd.S_nil _ _ _ _ _, pw_below_drewN B3.out nq⟩
            · as_aux_lemma =>
              have cc2 : (row es v).contains v = false := by simpa using cc1
              rw [cc2] at CON
              have H := H'.out
              clear H'
              rw [if_neg (by rintro (h | h); exact c1 h; exact cc1 h)] at H
              obtain ⟨lv2, hl2, H⟩ := Option.bind_eq_some_iff.1 H
              have HL2 := Aside0.mk hl2
              have H' := Aside0.mk H
              clear H hl2
              go_upto_region 12 with (go_at_call 31; refine (CON.out wr B3.out).mono ?_; rintro e w11 ⟨rfl, hd11⟩; obtain ⟨⟨nq, rfl⟩⟩ := hd11)
              have B4 := Aside0.mk (pw_below_drewN B3.out nq)
              have K4 := Aside0.mk (blk_drewN K3.out nq)
              have O4 := Aside0.mk (show (wr.drewN nq).heap[ga]? = some (arr lv) from blk_drewN O3.out nq)
              have F4 := Aside0.mk (Kd.F_drewN F3.out nq)
              clear B3 K3 O3 F3 CON hcy hx1
              generalize wr.drewN nq = w12 at B4 K4 O4 F4 ⊢
              have hcy : w12.cell? ⟨gb, 0, none⟩ = some (.slice (some adE) es.length c) := (blk_cell K4.out 0).trans rfl
              have hx1 := (B4.out.cell (World.block_lt_of_cell? _ _ HXE.out)).trans HXE.out
              have hel := EXI.out.2.1
              go_wp2_with fail
              clear hx1 hcy q1 q2
              go_loopg [52] k1 (fun kq v52 w' => ∃ (j : Int) (lv3 : List Int), v52 = .int .i64 j ∧ Aside0 (0 ≤ j) ∧ Aside0 (lv3.length = es.length) ∧ Aside0 (lv1 kq v (row es v) j lv3 = some lv2) ∧ Aside0 (kq ≤ k1) ∧ Aside0 (Below w.heap.size w w') ∧ Aside0 (w'.heap[gb]? = some (.cells #[.slice (some adE) es.length c] 24 (0, 0))) ∧ Aside0 (w'.heap[ga]? = some (arr lv3)) ∧ Aside0 (Kd.F KS w' (fun k => w7.heap.size ≤ k ∧ k < ga) (some adc) comps.length comps))
              case atStart => exact ⟨0, _, rfl, ⟨by omega⟩, HLEN, HL2, ⟨Nat.le_refl _⟩, B4, K4, O4, F4⟩
              case round => as_aux_lemma =>
                clear HL2 B4 K4 O4 F4
                obtain ⟨j, lv3, rfl, HJ, HLEN3, HA, HK2, B4, K4, O4, F4⟩ := hrel
                obtain ⟨W2, rfl⟩ : ∃ W2 : World, W2 = wr := ⟨_, rfl⟩
                cases gk with
                | zero => exact absurd HA.out (by simp [lv1])
                | succ k2 =>
                  have H := HA.out
                  clear HA
                  rw [lv1] at H
                  by_cases cj : j < (row es v).length
                  · as_aux_lemma =>
                    rw [if_pos cj] at H
                    by_cases cd : 0 ≤ rd (row es v) j ∧ rd (row es v) j < lv3.length
                    case neg => rw [if_neg cd] at H; cases H
                    rw [if_pos cd] at H
                    have hj0 := HJ.out
                    obtain ⟨adj, ej, hx⟩ := Kd.at_int EXI.out j hj0 cj
                    subst ej
                    have hxj := (B4.out.cell (World.block_lt_of_cell? _ _ hx)).trans hx
                    clear hx
                    generalize rd (row es v) j = d at H cd hxj
                    obtain ⟨cd0, cd1⟩ := cd
                    have H' := Aside0.mk H
                    clear H
                    have cbj : decide (j < ((row es v).length : Int)) = true := decide_eq_true cj
                    have qj := eq_true hj0
                    have q1 := eq_true cx1
                    have q2 := eq_true cx2
                    have q3 := eq_true cd0
                    have q4 : (d < (es.length : Int)) = True := eq_true (by rw [← HLEN3.out]; exact cd1)
                    have cv := arr_cell O4.out v cx1 (by rw [HLEN3.out]; exact cx2)
                    have cdd := arr_cell O4.out d cd0 cd1
                    have fv := arr_free O4.out v.toNat
                    go_upto_region 15 with fail
                    go_region
                    have B5 := Aside0.mk (below_drew (B4.out.setCell (show w.heap.size ≤ (⟨ga, v.toNat, none⟩ : Addr).block from HGA.out.1) (.int .i64 (max (rd lv3 v) (wrap64 (rd lv3 d + 1))))))
                    have K5 := Aside0.mk (blk_drew (blk_far K4.out (p := ⟨ga, v.toNat, none⟩) (show gb ≠ ga from Nat.ne_of_lt HGA.out.2) (.int .i64 (max (rd lv3 v) (wrap64 (rd lv3 d + 1))))))
                    have O5 := Aside0.mk (show (W2.setCell ⟨ga, v.toNat, none⟩ (.int .i64 (max (rd lv3 v) (wrap64 (rd lv3 d + 1))))).drew.heap[ga]? = some (arr (lv3.set v.toNat (max (rd lv3 v) (wrap64 (rd lv3 d + 1))))) from by unfold arr; rw [← nums_set]; exact blk_drew (blk_set O4.out v.toNat _))
                    have F5 := Aside0.mk (Kd.F_drew (Kd.F_far (p := ⟨ga, v.toNat, none⟩) F4.out (fun k hk => show k ≠ ga from Nat.ne_of_lt hk.2) (.int .i64 (max (rd lv3 v) (wrap64 (rd lv3 d + 1))))))
                    have L5 : Aside0 ((lv3.set v.toNat (max (rd lv3 v) (wrap64 (rd lv3 d + 1)))).length = es.length) := ⟨by rw [List.length_set]; exact HLEN3.out⟩
                    clear B4 K4 O4 F4 cv cdd fv hxj HLEN3
                    generalize (W2.setCell ⟨ga, v.toNat, none⟩ (.int .i64 (max (rd lv3 v) (wrap64 (rd lv3 d + 1))))).drew = w13 at B5 K5 O5 F5 ⊢
                    go_wp2_with fail
                    go_roundg k2
                    case measure => omega
                    case rel => exact ⟨j + 1, _, rfl, ⟨by omega⟩, L5, H', ⟨by have := HK2.out; omega⟩, B5, K5, O5, F5⟩
                  · as_aux_lemma =>
                    rw [if_neg cj] at H
                    obtain rfl := Option.some.inj H
                    have cbj : decide (j < ((row es v).length : Int)) = false := decide_eq_false cj
                    clear H
                    have q1 := eq_true cx1
                    have q2 := eq_true cx2
                    have cv := arr_cell O4.out v cx1 (by rw [HLEN3.out]; exact cx2)
                    go_wp2_with fail
                    go_roundg k1
                    case measure => omega
                    case rel => exact ⟨i + 1, _, _, rfl, rfl, ⟨by have := HI.out; omega⟩, HLEN3, H', ⟨by have := HK1.out; omega⟩, B4, K4, O4, F4⟩
        · as_aux_lemma =>
          rw [if_neg ci] at H
          obtain rfl := Option.some.inj H
          have cb : decide (i < (comps.length : Int)) = false := decide_eq_false ci
          clear H
          by_cases ct : 0 ≤ wrap64 (top + 1) ∧ wrap64 (top + 1) < 5864062014805
          case neg => have := HH.out; simp only at this; rw [if_neg ct] at this; cases this
          have HH1 := HH.out
          simp only at HH1
          rw [if_pos ct] at HH1
          obtain ⟨out0, h3, h4⟩ := Option.map_eq_some_iff.1 HH1
          obtain ⟨rfl, rfl⟩ := Prod.mk.inj h4
          have H3 := Aside0.mk h3
          obtain ⟨ct0, ct1⟩ := ct
          obtain ⟨n, hn⟩ := Int.eq_ofNat_of_zero_le ct0
          rw [hn] at ct1
          rw [hn, Int.toNat_natCast] at H3
          have HN := Aside0.mk hn
          clear HH HH1 h3 h4 ct0 hn
          go_upto_region 19 with fail
          have hn := HN.out
          obtain ⟨i0, e0, e1, e2, e3⟩ := info_parts info32
          have hmk := run_make wr 22 32 i0 _ Try.underlying22 e0 e1 .i64 .i64 n n (by omega) (by omega) (by rw [e3]; omega) (by omega)
          rw [Int.toNat_natCast, e2, Nat.mul_one] at hmk
          have hz0 : (Value.slice none 0 0).cells = #[.slice none 0 0] := rfl
          rw [hz0] at hmk
          clear e0 e1 e2 e3 hz0
          go_upto_region 20 with fail
          obtain ⟨W3, rfl⟩ : ∃ W3 : World, W3 = wr := ⟨_, rfl⟩
          have O6 := Aside0.mk (show (W3.alloc (.cells (madeCells #[.slice none 0 0] n) 32)).heap[ga]? = some (arr lv) from blk_alloc O3.out (.cells (madeCells #[.slice none 0 0] n) 32))
          have B6 := Aside0.mk (below_alloc B3.out (.cells (madeCells #[.slice none 0 0] n) 32))
          have hbs := B3.out.size
          have S6 := Aside0.mk (S_made (base := w.heap.size) (ok := fun k => W3.heap.size ≤ k) (blk_new W3 (.cells (madeCells #[.slice none 0 0] n) 32)) hbs (by unfold maxLen; omega) (Nat.le_refl _))
          have HGO : Aside0 (w.heap.size ≤ W3.heap.size ∧ ga < W3.heap.size) := ⟨hbs, blk_lt O3.out⟩
          have hll2 : Aside0 ((List.replicate n ([] : List Int)).length = n) := ⟨by simp⟩
          have HLE : Aside0 (lv.length ≤ 9223372036854775807) := ⟨by have := HLL.out; rw [HLEN.out]; omega⟩
          clear hmk hn hbs K3 O3 B3 F3
          generalize W3.alloc (.cells (madeCells #[.slice none 0 0] n) 32) = W4 at O6 B6 S6 ⊢
          generalize W3.heap.size = go at S6 HGO ⊢
          have hle := HLE.out
          have hel := HLEN.out
          go_wp2_with fail
          go_loopg [82] k (fun kq v82 w' => ∃ (j : Int) (out : List (List Int)), v82 = .int .i64 j ∧ Aside0 (0 ≤ j) ∧ Aside0 (out.length = n) ∧ Aside0 (lv3 kq lv j out = some out0) ∧ Aside0 (kq ≤ k) ∧ Aside0 (Below w.heap.size w w') ∧ Aside0 (w'.heap[ga]? = some (arr lv)) ∧ Aside0 (Kd.S KS 32 w' w.heap.size (fun k => go ≤ k) (.slice (some ⟨go, 0, none⟩) n n) out))
          case atStart => exact ⟨0, _, rfl, ⟨by omega⟩, hll2, H3, ⟨Nat.le_refl _⟩, B6, O6, S6⟩
          case round => as_aux_lemma =>
            clear H3 B6 O6 S6 hll2
            obtain ⟨j, out, rfl, HJ, HLO, HA, HK2, B6, O6, S6⟩ := hrel
            obtain ⟨W5, rfl⟩ : ∃ W5 : World, W5 = wr := ⟨_, rfl⟩
            cases gk with
            | zero => exact absurd HA.out (by simp [lv3])
            | succ k2 =>
              have H := HA.out
              clear HA
              rw [lv3] at H
              by_cases cj : j < lv.length
              · as_aux_lemma =>
                rw [if_pos cj] at H
                by_cases cd : 0 ≤ rd lv j ∧ rd lv j < out.length ∧ (row out (rd lv j)).length < 17592186044415
                case neg => rw [if_neg cd] at H; cases H
                rw [if_pos cd] at H
                have hj0 := HJ.out
                have cx := arr_cell O6.out j hj0 cj
                have cj2 : j < (es.length : Int) := by rw [← hel]; exact cj
                have cbj : decide (j < (es.length : Int)) = true := decide_eq_true cj2
                have qj := eq_true hj0
                generalize rd lv j = d at H cd cx
                obtain ⟨cd0, cd1, cd2⟩ := cd
                rw [HLO.out] at cd1
                have H' := Aside0.mk H
                clear H
                have q9 := eq_true cd0
                have q10 := eq_true cd1
                go_upto_region 23 with fail
                have hgo := Kd.S_lt S6.out go (by simp [Value.ownBlock])
                have hgs := B6.out.size
                obtain ⟨v0, oki, x1, x2, x3, x4, x5⟩ := S_upd S6.out (fun k hk => by omega) d cd0 cd1
                have X3 := Aside0.mk (Kd.R_mono (ok' := fun k => oki k ∨ W5.heap.size ≤ k) x3 (fun k hk => .inl hk))
                have X4 := Aside0.mk x4
                have X5 := Aside0.mk (@x5)
                have X6 := Aside0.mk x3
                clear x3 x4 x5 cx
                go_wp2_with ((with_reducible refine gate_builtin (b := .append) (xs := #[.tmp 92, .tmp 94]) rfl ?_); at_builtin; refine Kd.R_append (Kd.int .i64) (w0 := W5) w.heap.size rfl (.tmp 92) (.tmp 94) 32 3 (.int .i64 0) 8 rfl Try.underlying32 info3 rfl (by decide) (by omega) v0 (row out d) j [.int .i64 j] (fun k => oki k ∨ W5.heap.size ≤ k) (fun _ => False) rfl rfl rfl (fun _ hk => hk.elim) (fun k hk => .inr hk) X3.out (Below.refl _ _) ?hs ?hl ?_)
                (case hs => omega)
                (case hl => omega)
                intro v1 w9 ho hb hg hat
                obtain ⟨A9, q9c, rfl⟩ := Kd.R_slice ho
                have hown : ∀ k, v0.ownBlock = some k → go ≤ k ∧ k ≠ go := fun k hk => X4.out k (X6.out.1 k hk)
                have hga := HGO.out.2
                have hgw := HGO.out.1
                have O9 := Aside0.mk (blk_grown O6.out hg (fun e => by have := (hown ga e.symm).1; omega))
                have B9 := Aside0.mk (B6.out.grown hg (by omega) (fun k hk => by have := (hown k hk).1; omega))
                have hne9 : some go ≠ v0.ownBlock := fun e => (hown _ e.symm).2 rfl
                have k2 : w9.cell? ⟨go, d.toNat, none⟩ = some v0 := (World.cell?_of_block (hg.block go hgo hne9)).trans x1
                have k3 : w9.frozen? ⟨go, d.toNat, none⟩ = false := (World.frozen?_of_block (hg.block go hgo hne9)).trans x2
                have G9 := Aside0.mk hg
                have R9 := Aside0.mk ho
                clear hg ho hb hat hown x1 x2 hne9 B6 O6 S6 X3 X4 X6 hga hgw
                go_upto_region 24 with fail
                obtain ⟨S10, g10⟩ := X5.out w9 _ _ G9.out R9.out
                have S11 := Aside0.mk S10
                have O11 := Aside0.mk (blk_grown O9.out g10 (by have := HGO.out.2; intro e; injection e with e; omega))
                have B11 := Aside0.mk (B9.out.grown g10 (by have := G9.out.size; omega) (fun k hk => by cases hk; exact HGO.out.1))
                have HL11 : Aside0 ((app out d j).length = n) := ⟨by unfold app; simp only [List.length_set]; exact HLO.out⟩
                clear S10 g10 k2 k3 G9 R9 X5 O9 B9 hgs hgo
                have e9 : (row out d ++ [j]).length = (row out d).length + 1 := by simp
                rw [e9] at S11 O11 B11
                clear e9
                generalize w9.setCell ⟨go, d.toNat, none⟩ (.slice A9 ((row out d).length + 1) q9c) = w11 at S11 O11 B11 ⊢
                go_wp2_with fail
                go_roundg k2
                case measure => omega
                case rel => exact ⟨j + 1, _, rfl, ⟨by omega⟩, HL11, H', ⟨by have := HK2.out; omega⟩, B11, O11, S11⟩
              · as_aux_lemma =>
                rw [if_neg cj] at H
                obtain rfl := Option.some.inj H
                have cbj : decide (j < (es.length : Int)) = false := decide_eq_false (by rw [← hel]; exact cj)
                clear H
                go_wp2_with fail
                go_ret2
                exact ⟨_, rfl, Kd.S_mono S6.out (fun _ _ => trivial), B6.out⟩
end Lv
end Go.Proofs.Ytpmjpngmmphkmaa
/- graph.Levels in the form in which printed texts call it. -/
namespace Go.Proofs.Ytpmjpngmmphkmaa
open Go.RowKit Go.Proofs.YtpmjpngmmphkmaaW.PrintWords Go.Proofs.YtpmjpngmmphkmaaW.PrintLast Go.Proofs.YtpmjpngmmphkmaaW.PrintMore Go.Proofs.Ytpmjpngmmphkmaa.P
namespace P
noncomputable def graph_Levels.f (l : List (List Int)) : Option (List (List Int) × Int) := Od.lim fun k => Lv.levelsF k l
theorem graph_Levels.calls (A0_0 : Option Addr) (c0_0 : Nat) (l0_0 : List (List Int)) (r1 : List (List Int)) (r2 : Int) (w : World) (hr0_0 : Kd.C (Kd.slice 3 (Kd.int .i64)) w A0_0 l0_0.length l0_0) (hc0_0 : l0_0.length ≤ c0_0) (h : graph_Levels.f l0_0 = some (r1, r2)) :
    Calls Try.prog 14 #[.agg #[.slice A0_0 l0_0.length c0_0]] w fun e w' => ∃ v0_ : Value, e = .returned (.tuple #[v0_, .int .i64 r2]) ∧ Kd.S (Kd.slice 3 (Kd.int .i64)) 32 w' w.heap.size (fun _ => True) v0_ r1 ∧ Below w.heap.size w w' := by
  obtain ⟨k0, h0⟩ := Od.lim_some h
  exact Lv.levels_calls k0 A0_0 c0_0 l0_0 r1 r2 w hr0_0 hc0_0 (h0 k0 (Nat.le_refl _))
end P
end Go.Proofs.Ytpmjpngmmphkmaa
/- The examples' function returns true. -/
namespace Go.Proofs.Ytpmjpngmmphkmaa.P
open Go.RowKit Go.Proofs.YtpmjpngmmphkmaaW.PrintWords Go.Proofs.YtpmjpngmmphkmaaW.PrintLast Go.Proofs.YtpmjpngmmphkmaaW.PrintMore
attribute [local go_sem] max2_int min2_int max_two min_two max_three min_three max_four min_four
set_option linter.unusedVariables false
set_option linter.unusedSimpArgs false
theorem ord_b : graph_ordered.f [[1, 2], [2], []] = some [[2], [1], [0]] := Od.lim_of (k0 := 40) (fun k hk => by
  obtain ⟨m, rfl⟩ : ∃ m, k = m + 40 := ⟨k - 40, by omega⟩
  kernel_rfl)
theorem ord_a : graph_ordered.f [[1], [0], [0]] = some [[0, 1], [2]] := Od.lim_of (k0 := 40) (fun k hk => by
  obtain ⟨m, rfl⟩ : ∃ m, k = m + 40 := ⟨k - 40, by omega⟩
  kernel_rfl)
theorem lev_b : graph_Levels.f [[1, 2], [2], []] = some ([[2], [1], [0]], 0) := Od.lim_of (k0 := 40) (fun k hk => by
  obtain ⟨m, rfl⟩ : ∃ m, k = m + 40 := ⟨k - 40, by omega⟩
  unfold Lv.levelsF
  rw [ord_b]
  kernel_rfl)
theorem lev_a : graph_Levels.f [[1], [0], [0]] = some ([], 18) := Od.lim_of (k0 := 40) (fun k hk => by
  obtain ⟨m, rfl⟩ : ∃ m, k = m + 40 := ⟨k - 40, by omega⟩
  unfold Lv.levelsF
  rw [ord_a]
  kernel_rfl)
theorem comp_a : graph_Components.f 40 [[1], [0], [0]] = some [[0, 1], [2]] := by
  unfold graph_Components.f
  rw [ord_a]
  kernel_rfl
theorem same_a : lazycref09_Same.f 40 [[0, 1], [2]] [[0, 1], [2]] = some true := by kernel_rfl
theorem same_b : lazycref09_Same.f 40 [[2], [1], [0]] [[2], [1], [0]] = some true := by kernel_rfl
theorem cyc_a : graph_Cyclic.f 40 [[1], [0], [0]] 1 = some true := by kernel_rfl
set_option maxHeartbeats 8000000 in
set_option maxRecDepth 100000 in
theorem example_walk (k : Nat) (w : World) (y141 y144 y147 y154 y157 y175 y178 y186 y189 y192 : List Int) (y150 y160 y181 y195 t164 t168 t172 : List (List Int)) (t167 t171 : Int)
    (hy141 : y141 = [1]) (hy144 : y144 = [0]) (hy147 : y147 = [0]) (hy150 : y150 = [y141, y144, y147]) (hy154 : y154 = [1, 2]) (hy157 : y157 = [2]) (hy160 : y160 = [y154, y157, []])
    (hy175 : y175 = [0, 1]) (hy178 : y178 = [2]) (hy181 : y181 = [y175, y178]) (hy186 : y186 = [2]) (hy189 : y189 = [1]) (hy192 : y192 = [0]) (hy195 : y195 = [y186, y189, y192])
    (A10 : graph_Levels.f y160 = some (t164, t167)) (A20 : graph_Levels.f y150 = some (t168, t171)) (A30 : graph_Components.f k y150 = some t172) (A40 : lazycref09_Same.f k t172 y181 = some true)
    (A60 : graph_Cyclic.f k y150 1 = some true) (c8b0 : (t167 == 0) = true) (A90 : lazycref09_Same.f k t164 y195 = some true) :
    Calls Try.prog 10 #[] w fun e w' => e = .returned (.bool (t171 == 18)) ∧ Below w.heap.size w w' := by
  have hu24 := Try.underlying24
  have HB := aM (Below.refl w.heap.size w)
  have Ny141 := aM hy141
  clear hy141
  have Ny144 := aM hy144
  clear hy144
  have Ny147 := aM hy147
  clear hy147
  have Ny150 := aM hy150
  clear hy150
  have Ny154 := aM hy154
  clear hy154
  have Ny157 := aM hy157
  clear hy157
  have Ny160 := aM hy160
  clear hy160
  have Ny175 := aM hy175
  clear hy175
  have Ny178 := aM hy178
  clear hy178
  have Ny181 := aM hy181
  clear hy181
  have Ny186 := aM hy186
  clear hy186
  have Ny189 := aM hy189
  clear hy189
  have Ny192 := aM hy192
  clear hy192
  have Ny195 := aM hy195
  clear hy195
  have A1 := aM A10
  clear A10
  have A2 := aM A20
  clear A20
  have A3 := aM A30
  clear A30
  have A4 := aM A40
  clear A40
  have A6 := aM A60
  clear A60
  have A9 := aM A90
  clear A90
  go_enter Try.func10, Try.ntmps10
  go_wp2_with (first | ((with_reducible refine gate_dst (N := 7) rfl ?_); (try (refine gate_guard (by rfl) ?_; dsimp only)); refine Kd.R_lit (Kd.int .i64) _ 3 ?hg (N := 7) ?hd (xs := ([1] : List Int)) (inner := [.int .i64 1]) (ok := fun _ => True) (okp := fun _ => True) ?hr ?hp (fun _ hk => hk) trivial (Below.refl _ _) (Nat.le_refl _) (by simp) ?_; (case hd => rfl); (case hg => rfl); (case hr => first | (go_simp; done) | (go_simp; rfl)); (case hp => exact (Reps.one (show Kd.M (Kd.int .i64) _ _ _ 1 [.int .i64 1] from rfl) (Reps.none _ _))); intro v142 w11 ho12 hb hg_ hnew_; clear hg_ hnew_; (first | rw [← Ny141.out] at ho12 | (simp only [Int.reduceToNat] at ho12; rw [← Ny141.out] at ho12)); have n0_ := aM (Kd.R_lower ho12 (below_size (by repeat (first | (with_reducible first | exact HB.out | apply bA | apply bN | apply bD) | exact HB.out)))); have n1_ := aM (below_step (by repeat (first | (with_reducible first | exact HB.out | apply bA | apply bN | apply bD) | exact HB.out)) hb); clear HB; have HO143 := n0_; have HB := n1_; clear n0_ n1_; clear hb ho12) | ((with_reducible refine gate_dst (N := 8) rfl ?_); (try (refine gate_guard (by rfl) ?_; dsimp only)); refine Kd.R_lit (Kd.int .i64) _ 3 ?hg (N := 8) ?hd (xs := ([0] : List Int)) (inner := [.int .i64 0]) (ok := fun _ => True) (okp := fun _ => True) ?hr ?hp (fun _ hk => hk) trivial (Below.refl _ _) (Nat.le_refl _) (by simp) ?_; (case hd => rfl); (case hg => rfl); (case hr => first | (go_simp; done) | (go_simp; rfl)); (case hp => exact (Reps.one (show Kd.M (Kd.int .i64) _ _ _ 0 [.int .i64 0] from rfl) (Reps.none _ _))); intro v145 w13 ho14 hb hg_ hnew_; clear hg_ hnew_; (first | rw [← Ny144.out] at ho14 | (simp only [Int.reduceToNat] at ho14; rw [← Ny144.out] at ho14)); have n0_ := aM (Kd.R_elder' (by (with_reducible repeat (first | apply Kd.R_alloc | apply Kd.R_drewN | apply Kd.R_drew)); exact HO143.out) (Kd.R_base ho14) hb); have n1_ := aM (Kd.R_lower (Kd.R_new' ho14 (Kd.R_lt (by (with_reducible repeat (first | apply Kd.R_alloc | apply Kd.R_drewN | apply Kd.R_drew)); exact HO143.out))) (below_size (by repeat (first | (with_reducible first | exact HB.out | apply bA | apply bN | apply bD) | exact HB.out)))); have n2_ := aM (below_step (by repeat (first | (with_reducible first | exact HB.out | apply bA | apply bN | apply bD) | exact HB.out)) hb); clear HO143; clear HB; have HO143 := n0_; have HO146 := n1_; have HB := n2_; clear n0_ n1_ n2_; clear hb ho14) | ((with_reducible refine gate_dst (N := 9) rfl ?_); (try (refine gate_guard (by rfl) ?_; dsimp only)); refine Kd.R_lit (Kd.int .i64) _ 3 ?hg (N := 9) ?hd (xs := ([0] : List Int)) (inner := [.int .i64 0]) (ok := fun _ => True) (okp := fun _ => True) ?hr ?hp (fun _ hk => hk) trivial (Below.refl _ _) (Nat.le_refl _) (by simp) ?_; (case hd => rfl); (case hg => rfl); (case hr => first | (go_simp; done) | (go_simp; rfl)); (case hp => exact (Reps.one (show Kd.M (Kd.int .i64) _ _ _ 0 [.int .i64 0] from rfl) (Reps.none _ _))); intro v148 w15 ho16 hb hg_ hnew_; clear hg_ hnew_; (first | rw [← Ny147.out] at ho16 | (simp only [Int.reduceToNat] at ho16; rw [← Ny147.out] at ho16)); have n0_ := aM (Kd.R_elder' (by (with_reducible repeat (first | apply Kd.R_alloc | apply Kd.R_drewN | apply Kd.R_drew)); exact HO143.out) (Kd.R_base ho16) hb); have n1_ := aM (Kd.R_elder' (by (with_reducible repeat (first | apply Kd.R_alloc | apply Kd.R_drewN | apply Kd.R_drew)); exact HO146.out) (Kd.R_base ho16) hb); have n2_ := aM (Kd.R_lower (Kd.R_new' (Kd.R_new' ho16 (Kd.R_lt (by (with_reducible repeat (first | apply Kd.R_alloc | apply Kd.R_drewN | apply Kd.R_drew)); exact HO143.out))) (Kd.R_lt (by (with_reducible repeat (first | apply Kd.R_alloc | apply Kd.R_drewN | apply Kd.R_drew)); exact HO146.out))) (below_size (by repeat (first | (with_reducible first | exact HB.out | apply bA | apply bN | apply bD) | exact HB.out)))); have n3_ := aM (below_step (by repeat (first | (with_reducible first | exact HB.out | apply bA | apply bN | apply bD) | exact HB.out)) hb); clear HO143; clear HO146; clear HB; have HO143 := n0_; have HO146 := n1_; have HO149 := n2_; have HB := n3_; clear n0_ n1_ n2_ n3_; clear hb ho16; obtain ⟨Ao17, co17, eo17⟩ := Kd.R_slice HO143.out; subst eo17; obtain ⟨Ao18, co18, eo18⟩ := Kd.R_slice HO146.out; subst eo18; obtain ⟨Ao19, co19, eo19⟩ := Kd.R_slice HO149.out; subst eo19) | ((with_reducible refine gate_dst (N := 10) rfl ?_); (try (refine gate_guard (by rfl) ?_; dsimp only)); refine Kd.N_lit (Kd.slice 3 (Kd.int .i64)) _ 32 ?hg (N' := 10) ?hd (xs := ([y141, y144, y147] : List (List Int))) (inner := [.slice Ao17 y141.length co17, .slice Ao18 y144.length co18, .slice Ao19 y147.length co19]) (ok := (fun _ => True)) (okp := (fun _ => True)) ?hr ?hp (fun _ hk => hk) ((show ∀ k_, w15.heap.size ≤ k_ → (fun _ => True) k_ from fun k_ hk => trivial) _ (Nat.le_refl _)) (Below.refl _ _) (Nat.le_refl _) (by simp) ?_; (case hd => rfl); (case hg => rfl); (case hr => first | (go_simp; done) | (go_simp; rfl)); (case hp => exact (Reps.one (show Kd.FK (Kd.slice 3 (Kd.int .i64)) _ _ y141 [.slice Ao17 y141.length co17] from (Kd.FK_slice_mk (Kd.R_reads' (Kd.R_mono (ok' := (fun _ => True)) (HO143.out) (fun k_ hk => trivial))).2.1 (Kd.R_F (Kd.R_mono (ok' := (fun _ => True)) (HO143.out) (fun k_ hk => trivial))))) (Reps.one (show Kd.FK (Kd.slice 3 (Kd.int .i64)) _ _ y144 [.slice Ao18 y144.length co18] from (Kd.FK_slice_mk (Kd.R_reads' (Kd.R_mono (ok' := (fun _ => True)) (HO146.out) (fun k_ hk => trivial))).2.1 (Kd.R_F (Kd.R_mono (ok' := (fun _ => True)) (HO146.out) (fun k_ hk => trivial))))) (Reps.one (show Kd.FK (Kd.slice 3 (Kd.int .i64)) _ _ y147 [.slice Ao19 y147.length co19] from (Kd.FK_slice_mk (Kd.R_reads' (Kd.R_mono (ok' := (fun _ => True)) (HO149.out) (fun k_ hk => trivial))).2.1 (Kd.R_F (Kd.R_mono (ok' := (fun _ => True)) (HO149.out) (fun k_ hk => trivial))))) (Reps.none _ _))))); intro v151 w20 ho21 hb hg_ hnew_; clear hg_ hnew_; (first | rw [← Ny150.out] at ho21 | (simp only [Int.reduceToNat] at ho21; rw [← Ny150.out] at ho21)); have n0_ := aM (Kd.N_lower ho21 (below_size (by repeat (first | (with_reducible first | exact HB.out | apply bA | apply bN | apply bD) | exact HB.out)))); have n1_ := aM (below_step (by repeat (first | (with_reducible first | exact HB.out | apply bA | apply bN | apply bD) | exact HB.out)) hb); clear HB; clear HO143; clear HO146; clear HO149; have HO152 := n0_; have HB := n1_; clear n0_ n1_; clear hb ho21; obtain ⟨Ao22, co22, eo22⟩ := Kd.N_slice HO152.out; subst eo22) | ((with_reducible refine gate_dst (N := 1) rfl ?_); (try (refine gate_guard (by rfl) ?_; dsimp only)); refine box_event ?hg (N := 1) ?hd (cs := #[.slice none 0 0]) (t := 24) ?hr ?_; (case hd => rfl); (case hg => rfl); (case hr => first | (go_simp; done) | (go_simp; rfl)); intro gb153 hg w23 hbox hb; have n0_ := aM (Kd.N_below (Kd.N_elderB (by (with_reducible repeat (first | apply Kd.N_alloc | apply Kd.N_drewN | apply Kd.N_drew)); exact HO152.out) gb153 (Nat.le_of_eq hg.symm)) hb); have n1_ := aM (below_step (by repeat (first | (with_reducible first | exact HB.out | apply bA | apply bN | apply bD) | exact HB.out)) hb); have n2_ := aM (hbox); have n3_ := aM ((by rw [hg]; exact (below_size (by repeat (first | (with_reducible first | exact HB.out | apply bA | apply bN | apply bD) | exact HB.out))) : w.heap.size ≤ gb153)); have n4_ := aM ((by rw [hg]; exact (below_size (by repeat (first | (with_reducible first | exact HB.out | apply bA | apply bN | apply bD) | exact HB.out))) : w.heap.size ≤ gb153)); clear HO152; clear HB; have HO152 := n0_; have HB := n1_; have BK153 := n2_; have GW153 := n3_; have GE153 := n4_; clear n0_ n1_ n2_ n3_ n4_; clear hb hbox hg; have hcz24_0 : w23.cell? ⟨gb153, 0, none⟩ = some (.slice none 0 0) := (blk_cell BK153.out 0).trans rfl; have hfz24_0 := blk_frozen BK153.out 0) | ((with_reducible refine gate_dst (N := 12) rfl ?_); (try (refine gate_guard (by rfl) ?_; dsimp only)); refine Kd.R_lit (Kd.int .i64) _ 3 ?hg (N := 12) ?hd (xs := ([1, 2] : List Int)) (inner := [.int .i64 1, .int .i64 2]) (ok := fun _ => True) (okp := fun _ => True) ?hr ?hp (fun _ hk => hk) trivial (Below.refl _ _) (Nat.le_refl _) (by simp) ?_; (case hd => rfl); (case hg => rfl); (case hr => first | (go_simp; done) | (go_simp; rfl)); (case hp => exact (Reps.one (show Kd.M (Kd.int .i64) _ _ _ 1 [.int .i64 1] from rfl) (Reps.one (show Kd.M (Kd.int .i64) _ _ _ 2 [.int .i64 2] from rfl) (Reps.none _ _)))); intro v155 w25 ho26 hb hg_ hnew_; clear hg_ hnew_; (first | rw [← Ny154.out] at ho26 | (simp only [Int.reduceToNat] at ho26; rw [← Ny154.out] at ho26)); have n0_ := aM (Kd.N_elder' (by (with_reducible repeat (first | apply Kd.N_alloc | apply Kd.N_drewN | apply Kd.N_drew)); exact (Kd.N_mono (Kd.N_far (p := ⟨gb153, 0, none⟩) (Kd.N_mono HO152.out (fun k_ hk => (⟨hk, hk.2⟩ : _ ∧ k_ ≠ gb153))) (fun _ hk => hk.2) (.slice Ao22 y150.length co22)) (fun _ h_ => h_.1))) (Kd.R_base ho26) hb); have n1_ := aM (Kd.R_lower ho26 (below_size (by repeat (first | (with_reducible first | exact HB.out | apply bA | apply bN | apply bD | refine below_set ?_ GE153.out) | exact HB.out)))); have n2_ := aM (blk_below (g := gb153) (o := .cells #[.slice Ao22 y150.length co22] 24 (0, 0)) (by (with_reducible repeat (first | refine kN ?_ _ | refine kD ?_ | refine kA ?_ _)); refine blk_put (cs := #[.slice none 0 0]) ?_ 0 _ rfl; (with_reducible repeat (first | refine kN ?_ _ | refine kD ?_ | refine kA ?_ _)); exact BK153.out) hb); have n3_ := aM (below_step (by repeat (first | (with_reducible first | exact HB.out | apply bA | apply bN | apply bD | refine below_set ?_ GE153.out) | exact HB.out)) hb); clear HO152; clear BK153; clear HB; have HO152 := n0_; have HO156 := n1_; have BK153 := n2_; have HB := n3_; clear n0_ n1_ n2_ n3_; clear hb ho26) | ((with_reducible refine gate_dst (N := 13) rfl ?_); (try (refine gate_guard (by rfl) ?_; dsimp only)); refine Kd.R_lit (Kd.int .i64) _ 3 ?hg (N := 13) ?hd (xs := ([2] : List Int)) (inner := [.int .i64 2]) (ok := fun _ => True) (okp := fun _ => True) ?hr ?hp (fun _ hk => hk) trivial (Below.refl _ _) (Nat.le_refl _) (by simp) ?_; (case hd => rfl); (case hg => rfl); (case hr => first | (go_simp; done) | (go_simp; rfl)); (case hp => exact (Reps.one (show Kd.M (Kd.int .i64) _ _ _ 2 [.int .i64 2] from rfl) (Reps.none _ _))); intro v158 w27 ho28 hb hg_ hnew_; clear hg_ hnew_; (first | rw [← Ny157.out] at ho28 | (simp only [Int.reduceToNat] at ho28; rw [← Ny157.out] at ho28)); have n0_ := aM (Kd.N_elder' (by (with_reducible repeat (first | apply Kd.N_alloc | apply Kd.N_drewN | apply Kd.N_drew)); exact HO152.out) (Kd.R_base ho28) hb); have n1_ := aM (Kd.R_elder' (by (with_reducible repeat (first | apply Kd.R_alloc | apply Kd.R_drewN | apply Kd.R_drew)); exact HO156.out) (Kd.R_base ho28) hb); have n2_ := aM (Kd.R_lower (Kd.R_new' ho28 (Kd.R_lt (by (with_reducible repeat (first | apply Kd.R_alloc | apply Kd.R_drewN | apply Kd.R_drew)); exact HO156.out))) (below_size (by repeat (first | (with_reducible first | exact HB.out | apply bA | apply bN | apply bD | refine below_set ?_ GE153.out) | exact HB.out)))); have n3_ := aM (blk_below (g := gb153) (o := .cells #[.slice Ao22 y150.length co22] 24 (0, 0)) (by (with_reducible repeat (first | refine kN ?_ _ | refine kD ?_ | refine kA ?_ _)); exact BK153.out) hb); have n4_ := aM (below_step (by repeat (first | (with_reducible first | exact HB.out | apply bA | apply bN | apply bD | refine below_set ?_ GE153.out) | exact HB.out)) hb); clear HO152; clear HO156; clear BK153; clear HB; have HO152 := n0_; have HO156 := n1_; have HO159 := n2_; have BK153 := n3_; have HB := n4_; clear n0_ n1_ n2_ n3_ n4_; clear hb ho28; obtain ⟨Ao29, co29, eo29⟩ := Kd.R_slice HO156.out; subst eo29; obtain ⟨Ao30, co30, eo30⟩ := Kd.R_slice HO159.out; subst eo30) | ((with_reducible refine gate_dst (N := 14) rfl ?_); (try (refine gate_guard (by rfl) ?_; dsimp only)); refine Kd.N_lit (Kd.slice 3 (Kd.int .i64)) _ 32 ?hg (N' := 14) ?hd (xs := ([y154, y157, []] : List (List Int))) (inner := [.slice Ao29 y154.length co29, .slice Ao30 y157.length co30, .slice none 0 0]) (ok := (fun k_ => some k_ ≠ (.slice Ao22 y150.length co22 : Value).ownBlock ∧ k_ ≠ gb153)) (okp := (fun k_ => some k_ ≠ (.slice Ao22 y150.length co22 : Value).ownBlock ∧ k_ ≠ gb153)) ?hr ?hp (fun _ hk => hk) ((show ∀ k_, w27.heap.size ≤ k_ → (fun k_ => some k_ ≠ (.slice Ao22 y150.length co22 : Value).ownBlock ∧ k_ ≠ gb153) k_ from fun k_ hk => ⟨Kd.fresh' (Kd.N_lt (by (with_reducible repeat (first | apply Kd.N_alloc | apply Kd.N_drewN | apply Kd.N_drew)); exact HO152.out)) k_ hk, Kd.freshB (g := gb153) (o := .cells #[.slice Ao22 y150.length co22] 24 (0, 0)) (by (with_reducible repeat (first | refine kN ?_ _ | refine kD ?_ | refine kA ?_ _)); exact BK153.out) k_ hk⟩) _ (Nat.le_refl _)) (Below.refl _ _) (Nat.le_refl _) (by simp) ?_; (case hd => rfl); (case hg => rfl); (case hr => first | (go_simp; done) | (go_simp; rfl)); (case hp => exact (Reps.one (show Kd.FK (Kd.slice 3 (Kd.int .i64)) _ _ y154 [.slice Ao29 y154.length co29] from (Kd.FK_slice_mk (Kd.R_reads' (Kd.R_mono (ok' := (fun k_ => some k_ ≠ (.slice Ao22 y150.length co22 : Value).ownBlock ∧ k_ ≠ gb153)) (Kd.R_types (Kd.R_apart' (HO156.out) (Kd.N_typed HO152.out) (by decide)) BK153.out (by decide)) (fun k_ hk => ⟨hk.1.2, hk.2⟩))).2.1 (Kd.R_F (Kd.R_mono (ok' := (fun k_ => some k_ ≠ (.slice Ao22 y150.length co22 : Value).ownBlock ∧ k_ ≠ gb153)) (Kd.R_types (Kd.R_apart' (HO156.out) (Kd.N_typed HO152.out) (by decide)) BK153.out (by decide)) (fun k_ hk => ⟨hk.1.2, hk.2⟩))))) (Reps.one (show Kd.FK (Kd.slice 3 (Kd.int .i64)) _ _ y157 [.slice Ao30 y157.length co30] from (Kd.FK_slice_mk (Kd.R_reads' (Kd.R_mono (ok' := (fun k_ => some k_ ≠ (.slice Ao22 y150.length co22 : Value).ownBlock ∧ k_ ≠ gb153)) (Kd.R_types (Kd.R_apart' (HO159.out) (Kd.N_typed HO152.out) (by decide)) BK153.out (by decide)) (fun k_ hk => ⟨hk.1.2, hk.2⟩))).2.1 (Kd.R_F (Kd.R_mono (ok' := (fun k_ => some k_ ≠ (.slice Ao22 y150.length co22 : Value).ownBlock ∧ k_ ≠ gb153)) (Kd.R_types (Kd.R_apart' (HO159.out) (Kd.N_typed HO152.out) (by decide)) BK153.out (by decide)) (fun k_ hk => ⟨hk.1.2, hk.2⟩))))) (Reps.one (show Kd.FK (Kd.slice 3 (Kd.int .i64)) _ _ [] [.slice none 0 0] from (Kd.FK_slice_mk (Nat.le_refl _) (Kd.F_nil _ _ _))) (Reps.none _ _))))); intro v161 w31 ho32 hb hg_ hnew_; clear hg_ hnew_; (first | rw [← Ny160.out] at ho32 | (simp only [Int.reduceToNat] at ho32; rw [← Ny160.out] at ho32)); have n0_ := aM (Kd.N_elder' (by (with_reducible repeat (first | apply Kd.N_alloc | apply Kd.N_drewN | apply Kd.N_drew)); exact HO152.out) (Kd.N_base ho32) hb); have n1_ := aM (Kd.N_lower ho32 (below_size (by repeat (first | (with_reducible first | exact HB.out | apply bA | apply bN | apply bD | refine below_set ?_ GE153.out) | exact HB.out)))); have n2_ := aM (blk_below (g := gb153) (o := .cells #[.slice Ao22 y150.length co22] 24 (0, 0)) (by (with_reducible repeat (first | refine kN ?_ _ | refine kD ?_ | refine kA ?_ _)); exact BK153.out) hb); have n3_ := aM (below_step (by repeat (first | (with_reducible first | exact HB.out | apply bA | apply bN | apply bD | refine below_set ?_ GE153.out) | exact HB.out)) hb); clear HO152; clear BK153; clear HB; clear HO156; clear HO159; have HO152 := n0_; have HO162 := n1_; have BK153 := n2_; have HB := n3_; clear n0_ n1_ n2_ n3_; clear hb ho32; obtain ⟨Ao33, co33, eo33⟩ := Kd.N_slice HO162.out; subst eo33) | ((with_reducible refine gate_dst (N := 2) rfl ?_); (try (refine gate_guard (by rfl) ?_; dsimp only)); refine box_event ?hg (N := 2) ?hd (cs := #[.slice none 0 0]) (t := 24) ?hr ?_; (case hd => rfl); (case hg => rfl); (case hr => first | (go_simp; done) | (go_simp; rfl)); intro gb163 hg w34 hbox hb; have n0_ := aM (Kd.N_below (Kd.N_elderB (by (with_reducible repeat (first | apply Kd.N_alloc | apply Kd.N_drewN | apply Kd.N_drew)); exact HO152.out) gb163 (Nat.le_of_eq hg.symm)) hb); have n1_ := aM (Kd.N_below (Kd.N_elderB (by (with_reducible repeat (first | apply Kd.N_alloc | apply Kd.N_drewN | apply Kd.N_drew)); exact HO162.out) gb163 (Nat.le_of_eq hg.symm)) hb); have n2_ := aM (blk_below (g := gb153) (o := .cells #[.slice Ao22 y150.length co22] 24 (0, 0)) (by (with_reducible repeat (first | refine kN ?_ _ | refine kD ?_ | refine kA ?_ _)); exact BK153.out) hb); have n3_ := aM (below_step (by repeat (first | (with_reducible first | exact HB.out | apply bA | apply bN | apply bD | refine below_set ?_ GE153.out) | exact HB.out)) hb); have n4_ := aM (hbox); have n5_ := aM ((by rw [hg]; exact (below_size (by repeat (first | (with_reducible first | exact HB.out | apply bA | apply bN | apply bD | refine below_set ?_ GE153.out) | exact HB.out))) : w.heap.size ≤ gb163)); have n6_ := aM ((by rw [hg]; exact (below_size (by repeat (first | (with_reducible first | exact HB.out | apply bA | apply bN | apply bD | refine below_set ?_ GE153.out) | exact HB.out))) : w.heap.size ≤ gb163)); have n7_ := aM ((by rw [hg]; exact Nat.ne_of_lt (blk_lt (g := gb153) (o := .cells #[.slice Ao22 y150.length co22] 24 (0, 0)) (by (with_reducible repeat (first | refine kN ?_ _ | refine kD ?_ | refine kA ?_ _)); exact BK153.out)) : gb153 ≠ gb163)); have n8_ := aM ((by rw [hg]; exact Nat.ne_of_gt (blk_lt (g := gb153) (o := .cells #[.slice Ao22 y150.length co22] 24 (0, 0)) (by (with_reducible repeat (first | refine kN ?_ _ | refine kD ?_ | refine kA ?_ _)); exact BK153.out)) : gb163 ≠ gb153)); clear HO152; clear HO162; clear BK153; clear HB; have HO152 := n0_; have HO162 := n1_; have BK153 := n2_; have HB := n3_; have BK163 := n4_; have GW163 := n5_; have GE163 := n6_; have NB153_163 := n7_; have NB163_153 := n8_; clear n0_ n1_ n2_ n3_ n4_ n5_ n6_ n7_ n8_; clear hb hbox hg; have hnb35 := NB163_153.out; have hnc35 := NB153_163.out; have hcz36_0 : w34.cell? ⟨gb163, 0, none⟩ = some (.slice none 0 0) := (blk_cell BK163.out 0).trans rfl; have hfz36_0 := blk_frozen BK163.out 0) | ((with_reducible refine gate_callee (f := 14) rfl ?_); refine goesL_ (some 18) rfl rfl Try.func14 (by kernel_rfl) rfl #[.agg #[.slice Ao33 y160.length co33]] rfl (by (try simp only [List.map_toArray, List.map_cons, List.map_nil]); first | done | rfl | (simp only [List.length_drop, List.length_take]; rfl)) ?_; (with_reducible refine (graph_Levels.calls _ _ y160 t164 t167 _ ?side1 ?side2 A1.out).mono ?_); (case side1 => refine (Kd.N_reads' (e := 32) (base := w.heap.size) (ok := fun k_ => ((some k_ ≠ (.slice Ao22 y150.length co22 : Value).ownBlock ∧ k_ ≠ gb153) ∧ k_ ≠ gb163)) (n := y160.length) (c := co33) ?_).2.2; exact (by (with_reducible repeat (first | apply Kd.N_alloc | apply Kd.N_drewN | apply Kd.N_drew)); exact (Kd.N_mono (Kd.N_far (p := ⟨gb163, 0, none⟩) (Kd.N_mono HO162.out (fun k_ hk => (⟨hk, hk.2⟩ : _ ∧ k_ ≠ gb163))) (fun _ hk => hk.2) (.slice Ao33 y160.length co33)) (fun _ h_ => h_.1)))); (case side2 => exact (Kd.N_reads' HO162.out).2.1); rintro e w37 ⟨v165, rfl, ho0, hb⟩; refine ⟨_, rfl, ?_⟩; have n0_ := aM (Kd.N_elder' (by (with_reducible repeat (first | apply Kd.N_alloc | apply Kd.N_drewN | apply Kd.N_drew)); exact (Kd.N_mono (Kd.N_far (p := ⟨gb163, 0, none⟩) (Kd.N_mono HO152.out (fun k_ hk => (⟨hk, hk.2⟩ : _ ∧ k_ ≠ gb163))) (fun _ hk => hk.2) (.slice Ao33 y160.length co33)) (fun _ h_ => h_.1))) (by first | exact Kd.N_base ho0 | exact Kd.S_base ho0) hb); have n1_ := aM (Kd.N_elder' (by (with_reducible repeat (first | apply Kd.N_alloc | apply Kd.N_drewN | apply Kd.N_drew)); exact (Kd.N_mono (Kd.N_far (p := ⟨gb163, 0, none⟩) (Kd.N_mono HO162.out (fun k_ hk => (⟨hk, hk.2⟩ : _ ∧ k_ ≠ gb163))) (fun _ hk => hk.2) (.slice Ao33 y160.length co33)) (fun _ h_ => h_.1))) (by first | exact Kd.N_base ho0 | exact Kd.S_base ho0) hb); have n2_ := aM (Kd.N_lower (Kd.N_mono (ok' := fun k_ => some k_ ≠ (.slice Ao22 y150.length co22 : Value).ownBlock ∧ some k_ ≠ (.slice Ao33 y160.length co33 : Value).ownBlock ∧ k_ ≠ gb153 ∧ k_ ≠ gb163) (Kd.S_N (Kd.S_bound ho0)) (fun k_ hk_ => ⟨(Kd.fresh' (Kd.N_lt (by (with_reducible repeat (first | apply Kd.N_alloc | apply Kd.N_drewN | apply Kd.N_drew)); exact (Kd.N_mono (Kd.N_far (p := ⟨gb163, 0, none⟩) (Kd.N_mono HO152.out (fun k_ hk => (⟨hk, hk.2⟩ : _ ∧ k_ ≠ gb163))) (fun _ hk => hk.2) (.slice Ao33 y160.length co33)) (fun _ h_ => h_.1)))) k_ hk_.2.1), (Kd.fresh' (Kd.N_lt (by (with_reducible repeat (first | apply Kd.N_alloc | apply Kd.N_drewN | apply Kd.N_drew)); exact (Kd.N_mono (Kd.N_far (p := ⟨gb163, 0, none⟩) (Kd.N_mono HO162.out (fun k_ hk => (⟨hk, hk.2⟩ : _ ∧ k_ ≠ gb163))) (fun _ hk => hk.2) (.slice Ao33 y160.length co33)) (fun _ h_ => h_.1)))) k_ hk_.2.1), (Kd.freshB (g := gb153) (o := .cells #[.slice Ao22 y150.length co22] 24 (0, 0)) (by (with_reducible repeat (first | refine kN ?_ _ | refine kD ?_ | refine kA ?_ _)); refine blk_far ?_ NB153_163.out _; (with_reducible repeat (first | refine kN ?_ _ | refine kD ?_ | refine kA ?_ _)); exact BK153.out) k_ hk_.2.1), (Kd.freshB (g := gb163) (o := .cells #[.slice Ao33 y160.length co33] 24 (0, 0)) (by (with_reducible repeat (first | refine kN ?_ _ | refine kD ?_ | refine kA ?_ _)); refine blk_put (cs := #[.slice none 0 0]) ?_ 0 _ rfl; (with_reducible repeat (first | refine kN ?_ _ | refine kD ?_ | refine kA ?_ _)); exact BK163.out) k_ hk_.2.1)⟩)) (below_size (by repeat (first | (with_reducible first | exact HB.out | apply bA | apply bN | apply bD | refine below_set ?_ GE153.out | refine below_set ?_ GE163.out) | exact HB.out)))); have n3_ := aM (blk_below (g := gb153) (o := .cells #[.slice Ao22 y150.length co22] 24 (0, 0)) (by (with_reducible repeat (first | refine kN ?_ _ | refine kD ?_ | refine kA ?_ _)); refine blk_far ?_ NB153_163.out _; (with_reducible repeat (first | refine kN ?_ _ | refine kD ?_ | refine kA ?_ _)); exact BK153.out) hb); have n4_ := aM (blk_below (g := gb163) (o := .cells #[.slice Ao33 y160.length co33] 24 (0, 0)) (by (with_reducible repeat (first | refine kN ?_ _ | refine kD ?_ | refine kA ?_ _)); refine blk_put (cs := #[.slice none 0 0]) ?_ 0 _ rfl; (with_reducible repeat (first | refine kN ?_ _ | refine kD ?_ | refine kA ?_ _)); exact BK163.out) hb); have n5_ := aM (below_step (by repeat (first | (with_reducible first | exact HB.out | apply bA | apply bN | apply bD | refine below_set ?_ GE153.out | refine below_set ?_ GE163.out) | exact HB.out)) hb); clear HO152; clear HO162; clear BK153; clear BK163; clear HB; have HO152 := n0_; have HO162 := n1_; have HO166 := n2_; have BK153 := n3_; have BK163 := n4_; have HB := n5_; clear n0_ n1_ n2_ n3_ n4_ n5_; (try clear hb); (try clear hb2); (try clear hk); (try clear hi); (try clear ho0); have hcz38_0 : w37.cell? ⟨gb153, 0, none⟩ = some (.slice Ao22 y150.length co22) := (blk_cell BK153.out 0).trans rfl; have hfz38_0 := blk_frozen BK153.out 0) | ((with_reducible refine gate_callee (f := 14) rfl ?_); refine goesL_ (some 23) rfl rfl Try.func14 (by kernel_rfl) rfl #[.agg #[.slice Ao22 y150.length co22]] rfl (by (try simp only [List.map_toArray, List.map_cons, List.map_nil]); first | done | rfl | (simp only [List.length_drop, List.length_take]; rfl)) ?_; (with_reducible refine (graph_Levels.calls _ _ y150 t168 t171 _ ?side1 ?side2 A2.out).mono ?_); (case side1 => repeat (first | exact (Kd.N_reads' HO152.out).2.2 | (with_reducible refine Kd.C_alloc ?_ _) | (with_reducible refine Kd.C_drewN ?_ _) | (with_reducible refine Kd.C_drew ?_))); (case side2 => exact (Kd.N_reads' HO152.out).2.1); rintro e w39 ⟨v169, rfl, ho0, hb⟩; refine ⟨_, rfl, ?_⟩; have n0_ := aM (Kd.N_elder' (by (with_reducible repeat (first | apply Kd.N_alloc | apply Kd.N_drewN | apply Kd.N_drew)); exact HO152.out) (by first | exact Kd.N_base ho0 | exact Kd.S_base ho0) hb); have n1_ := aM (Kd.N_elder' (by (with_reducible repeat (first | apply Kd.N_alloc | apply Kd.N_drewN | apply Kd.N_drew)); exact HO162.out) (by first | exact Kd.N_base ho0 | exact Kd.S_base ho0) hb); have n2_ := aM (Kd.N_elder' (by (with_reducible repeat (first | apply Kd.N_alloc | apply Kd.N_drewN | apply Kd.N_drew)); exact HO166.out) (by first | exact Kd.N_base ho0 | exact Kd.S_base ho0) hb); have n3_ := aM (Kd.N_lower (Kd.N_mono (ok' := fun k_ => some k_ ≠ (.slice Ao22 y150.length co22 : Value).ownBlock ∧ some k_ ≠ (.slice Ao33 y160.length co33 : Value).ownBlock ∧ some k_ ≠ (v165 : Value).ownBlock ∧ k_ ≠ gb153 ∧ k_ ≠ gb163) (Kd.S_N (Kd.S_bound ho0)) (fun k_ hk_ => ⟨(Kd.fresh' (Kd.N_lt (by (with_reducible repeat (first | apply Kd.N_alloc | apply Kd.N_drewN | apply Kd.N_drew)); exact HO152.out)) k_ hk_.2.1), (Kd.fresh' (Kd.N_lt (by (with_reducible repeat (first | apply Kd.N_alloc | apply Kd.N_drewN | apply Kd.N_drew)); exact HO162.out)) k_ hk_.2.1), (Kd.fresh' (Kd.N_lt (by (with_reducible repeat (first | apply Kd.N_alloc | apply Kd.N_drewN | apply Kd.N_drew)); exact HO166.out)) k_ hk_.2.1), (Kd.freshB (g := gb153) (o := .cells #[.slice Ao22 y150.length co22] 24 (0, 0)) (by (with_reducible repeat (first | refine kN ?_ _ | refine kD ?_ | refine kA ?_ _)); exact BK153.out) k_ hk_.2.1), (Kd.freshB (g := gb163) (o := .cells #[.slice Ao33 y160.length co33] 24 (0, 0)) (by (with_reducible repeat (first | refine kN ?_ _ | refine kD ?_ | refine kA ?_ _)); exact BK163.out) k_ hk_.2.1)⟩)) (below_size (by repeat (first | (with_reducible first | exact HB.out | apply bA | apply bN | apply bD | refine below_set ?_ GE153.out | refine below_set ?_ GE163.out) | exact HB.out)))); have n4_ := aM (blk_below (g := gb153) (o := .cells #[.slice Ao22 y150.length co22] 24 (0, 0)) (by (with_reducible repeat (first | refine kN ?_ _ | refine kD ?_ | refine kA ?_ _)); exact BK153.out) hb); have n5_ := aM (blk_below (g := gb163) (o := .cells #[.slice Ao33 y160.length co33] 24 (0, 0)) (by (with_reducible repeat (first | refine kN ?_ _ | refine kD ?_ | refine kA ?_ _)); exact BK163.out) hb); have n6_ := aM (below_step (by repeat (first | (with_reducible first | exact HB.out | apply bA | apply bN | apply bD | refine below_set ?_ GE153.out | refine below_set ?_ GE163.out) | exact HB.out)) hb); clear HO152; clear HO162; clear HO166; clear BK153; clear BK163; clear HB; have HO152 := n0_; have HO162 := n1_; have HO166 := n2_; have HO170 := n3_; have BK153 := n4_; have BK163 := n5_; have HB := n6_; clear n0_ n1_ n2_ n3_ n4_ n5_ n6_; (try clear hb); (try clear hb2); (try clear hk); (try clear hi); (try clear ho0); have hcz40_0 : w39.cell? ⟨gb153, 0, none⟩ = some (.slice Ao22 y150.length co22) := (blk_cell BK153.out 0).trans rfl; have hfz40_0 := blk_frozen BK153.out 0) | ((with_reducible refine gate_callee (f := 12) rfl ?_); refine goesL_ (some 27) rfl rfl Try.func12 (by kernel_rfl) rfl #[.agg #[.slice Ao22 y150.length co22]] rfl (by (try simp only [List.map_toArray, List.map_cons, List.map_nil]); first | done | rfl | (simp only [List.length_drop, List.length_take]; rfl)) ?_; (with_reducible refine (graph_Components.calls k _ _ y150 t172 _ ?side1 ?side2 A3.out).mono ?_); (case side1 => repeat (first | exact (Kd.N_reads' HO152.out).2.2 | (with_reducible refine Kd.C_alloc ?_ _) | (with_reducible refine Kd.C_drewN ?_ _) | (with_reducible refine Kd.C_drew ?_))); (case side2 => exact (Kd.N_reads' HO152.out).2.1); rintro e w41 ⟨v173, rfl, ho0, hb⟩; refine ⟨_, rfl, ?_⟩; have n0_ := aM (Kd.N_below (by (with_reducible repeat (first | apply Kd.N_alloc | apply Kd.N_drewN | apply Kd.N_drew)); exact HO152.out) hb); have n1_ := aM (Kd.N_below (by (with_reducible repeat (first | apply Kd.N_alloc | apply Kd.N_drewN | apply Kd.N_drew)); exact HO162.out) hb); have n2_ := aM (Kd.N_below (by (with_reducible repeat (first | apply Kd.N_alloc | apply Kd.N_drewN | apply Kd.N_drew)); exact HO166.out) hb); have n3_ := aM (Kd.N_below (by (with_reducible repeat (first | apply Kd.N_alloc | apply Kd.N_drewN | apply Kd.N_drew)); exact HO170.out) hb); have n4_ := aM (Kd.V_lower (Kd.V_mono (ok' := fun k_ => some k_ ≠ (.slice Ao22 y150.length co22 : Value).ownBlock ∧ some k_ ≠ (.slice Ao33 y160.length co33 : Value).ownBlock ∧ some k_ ≠ (v165 : Value).ownBlock ∧ some k_ ≠ (v169 : Value).ownBlock ∧ k_ ≠ gb153 ∧ k_ ≠ gb163) ho0 (fun k_ hk_ => ⟨(Kd.fresh' (Kd.N_lt (by (with_reducible repeat (first | apply Kd.N_alloc | apply Kd.N_drewN | apply Kd.N_drew)); exact HO152.out)) k_ hk_), (Kd.fresh' (Kd.N_lt (by (with_reducible repeat (first | apply Kd.N_alloc | apply Kd.N_drewN | apply Kd.N_drew)); exact HO162.out)) k_ hk_), (Kd.fresh' (Kd.N_lt (by (with_reducible repeat (first | apply Kd.N_alloc | apply Kd.N_drewN | apply Kd.N_drew)); exact HO166.out)) k_ hk_), (Kd.fresh' (Kd.N_lt (by (with_reducible repeat (first | apply Kd.N_alloc | apply Kd.N_drewN | apply Kd.N_drew)); exact HO170.out)) k_ hk_), (Kd.freshB (g := gb153) (o := .cells #[.slice Ao22 y150.length co22] 24 (0, 0)) (by (with_reducible repeat (first | refine kN ?_ _ | refine kD ?_ | refine kA ?_ _)); exact BK153.out) k_ hk_), (Kd.freshB (g := gb163) (o := .cells #[.slice Ao33 y160.length co33] 24 (0, 0)) (by (with_reducible repeat (first | refine kN ?_ _ | refine kD ?_ | refine kA ?_ _)); exact BK163.out) k_ hk_)⟩)) (below_size (by repeat (first | (with_reducible first | exact HB.out | apply bA | apply bN | apply bD | refine below_set ?_ GE153.out | refine below_set ?_ GE163.out) | exact HB.out)))); have n5_ := aM (blk_below (g := gb153) (o := .cells #[.slice Ao22 y150.length co22] 24 (0, 0)) (by (with_reducible repeat (first | refine kN ?_ _ | refine kD ?_ | refine kA ?_ _)); exact BK153.out) hb); have n6_ := aM (blk_below (g := gb163) (o := .cells #[.slice Ao33 y160.length co33] 24 (0, 0)) (by (with_reducible repeat (first | refine kN ?_ _ | refine kD ?_ | refine kA ?_ _)); exact BK163.out) hb); have n7_ := aM (below_step (by repeat (first | (with_reducible first | exact HB.out | apply bA | apply bN | apply bD | refine below_set ?_ GE153.out | refine below_set ?_ GE163.out) | exact HB.out)) hb); clear HO152; clear HO162; clear HO166; clear HO170; clear BK153; clear BK163; clear HB; have HO152 := n0_; have HO162 := n1_; have HO166 := n2_; have HO170 := n3_; have HO174 := n4_; have BK153 := n5_; have BK163 := n6_; have HB := n7_; clear n0_ n1_ n2_ n3_ n4_ n5_ n6_ n7_; (try clear hb); (try clear hb2); (try clear hk); (try clear hi); (try clear ho0)) | ((with_reducible refine gate_dst (N := 28) rfl ?_); (try (refine gate_guard (by rfl) ?_; dsimp only)); refine Kd.R_lit (Kd.int .i64) _ 3 ?hg (N := 28) ?hd (xs := ([0, 1] : List Int)) (inner := [.int .i64 0, .int .i64 1]) (ok := fun _ => True) (okp := fun _ => True) ?hr ?hp (fun _ hk => hk) trivial (Below.refl _ _) (Nat.le_refl _) (by simp) ?_; (case hd => rfl); (case hg => rfl); (case hr => first | (go_simp; done) | (go_simp; rfl)); (case hp => exact (Reps.one (show Kd.M (Kd.int .i64) _ _ _ 0 [.int .i64 0] from rfl) (Reps.one (show Kd.M (Kd.int .i64) _ _ _ 1 [.int .i64 1] from rfl) (Reps.none _ _)))); intro v176 w42 ho43 hb hg_ hnew_; clear hg_ hnew_; (first | rw [← Ny175.out] at ho43 | (simp only [Int.reduceToNat] at ho43; rw [← Ny175.out] at ho43)); have n0_ := aM (Kd.N_elder' (by (with_reducible repeat (first | apply Kd.N_alloc | apply Kd.N_drewN | apply Kd.N_drew)); exact HO152.out) (Kd.R_base ho43) hb); have n1_ := aM (Kd.N_elder' (by (with_reducible repeat (first | apply Kd.N_alloc | apply Kd.N_drewN | apply Kd.N_drew)); exact HO162.out) (Kd.R_base ho43) hb); have n2_ := aM (Kd.N_elder' (by (with_reducible repeat (first | apply Kd.N_alloc | apply Kd.N_drewN | apply Kd.N_drew)); exact HO166.out) (Kd.R_base ho43) hb); have n3_ := aM (Kd.N_elder' (by (with_reducible repeat (first | apply Kd.N_alloc | apply Kd.N_drewN | apply Kd.N_drew)); exact HO170.out) (Kd.R_base ho43) hb); have n4_ := aM (Kd.V_elder' (by (with_reducible repeat (first | apply Kd.V_alloc | apply Kd.V_drewN | apply Kd.V_drew)); exact HO174.out) (Kd.R_base ho43) hb); have n5_ := aM (Kd.R_lower ho43 (below_size (by repeat (first | (with_reducible first | exact HB.out | apply bA | apply bN | apply bD | refine below_set ?_ GE153.out | refine below_set ?_ GE163.out) | exact HB.out)))); have n6_ := aM (blk_below (g := gb153) (o := .cells #[.slice Ao22 y150.length co22] 24 (0, 0)) (by (with_reducible repeat (first | refine kN ?_ _ | refine kD ?_ | refine kA ?_ _)); exact BK153.out) hb); have n7_ := aM (blk_below (g := gb163) (o := .cells #[.slice Ao33 y160.length co33] 24 (0, 0)) (by (with_reducible repeat (first | refine kN ?_ _ | refine kD ?_ | refine kA ?_ _)); exact BK163.out) hb); have n8_ := aM (below_step (by repeat (first | (with_reducible first | exact HB.out | apply bA | apply bN | apply bD | refine below_set ?_ GE153.out | refine below_set ?_ GE163.out) | exact HB.out)) hb); clear HO152; clear HO162; clear HO166; clear HO170; clear HO174; clear BK153; clear BK163; clear HB; have HO152 := n0_; have HO162 := n1_; have HO166 := n2_; have HO170 := n3_; have HO174 := n4_; have HO177 := n5_; have BK153 := n6_; have BK163 := n7_; have HB := n8_; clear n0_ n1_ n2_ n3_ n4_ n5_ n6_ n7_ n8_; clear hb ho43) | ((with_reducible refine gate_dst (N := 29) rfl ?_); (try (refine gate_guard (by rfl) ?_; dsimp only)); refine Kd.R_lit (Kd.int .i64) _ 3 ?hg (N := 29) ?hd (xs := ([2] : List Int)) (inner := [.int .i64 2]) (ok := fun _ => True) (okp := fun _ => True) ?hr ?hp (fun _ hk => hk) trivial (Below.refl _ _) (Nat.le_refl _) (by simp) ?_; (case hd => rfl); (case hg => rfl); (case hr => first | (go_simp; done) | (go_simp; rfl)); (case hp => exact (Reps.one (show Kd.M (Kd.int .i64) _ _ _ 2 [.int .i64 2] from rfl) (Reps.none _ _))); intro v179 w44 ho45 hb hg_ hnew_; clear hg_ hnew_; (first | rw [← Ny178.out] at ho45 | (simp only [Int.reduceToNat] at ho45; rw [← Ny178.out] at ho45)); have n0_ := aM (Kd.N_elder' (by (with_reducible repeat (first | apply Kd.N_alloc | apply Kd.N_drewN | apply Kd.N_drew)); exact HO152.out) (Kd.R_base ho45) hb); have n1_ := aM (Kd.N_elder' (by (with_reducible repeat (first | apply Kd.N_alloc | apply Kd.N_drewN | apply Kd.N_drew)); exact HO162.out) (Kd.R_base ho45) hb); have n2_ := aM (Kd.N_elder' (by (with_reducible repeat (first | apply Kd.N_alloc | apply Kd.N_drewN | apply Kd.N_drew)); exact HO166.out) (Kd.R_base ho45) hb); have n3_ := aM (Kd.N_elder' (by (with_reducible repeat (first | apply Kd.N_alloc | apply Kd.N_drewN | apply Kd.N_drew)); exact HO170.out) (Kd.R_base ho45) hb); have n4_ := aM (Kd.V_elder' (by (with_reducible repeat (first | apply Kd.V_alloc | apply Kd.V_drewN | apply Kd.V_drew)); exact HO174.out) (Kd.R_base ho45) hb); have n5_ := aM (Kd.R_elder' (by (with_reducible repeat (first | apply Kd.R_alloc | apply Kd.R_drewN | apply Kd.R_drew)); exact HO177.out) (Kd.R_base ho45) hb); have n6_ := aM (Kd.R_lower (Kd.R_new' ho45 (Kd.R_lt (by (with_reducible repeat (first | apply Kd.R_alloc | apply Kd.R_drewN | apply Kd.R_drew)); exact HO177.out))) (below_size (by repeat (first | (with_reducible first | exact HB.out | apply bA | apply bN | apply bD | refine below_set ?_ GE153.out | refine below_set ?_ GE163.out) | exact HB.out)))); have n7_ := aM (blk_below (g := gb153) (o := .cells #[.slice Ao22 y150.length co22] 24 (0, 0)) (by (with_reducible repeat (first | refine kN ?_ _ | refine kD ?_ | refine kA ?_ _)); exact BK153.out) hb); have n8_ := aM (blk_below (g := gb163) (o := .cells #[.slice Ao33 y160.length co33] 24 (0, 0)) (by (with_reducible repeat (first | refine kN ?_ _ | refine kD ?_ | refine kA ?_ _)); exact BK163.out) hb); have n9_ := aM (below_step (by repeat (first | (with_reducible first | exact HB.out | apply bA | apply bN | apply bD | refine below_set ?_ GE153.out | refine below_set ?_ GE163.out) | exact HB.out)) hb); clear HO152; clear HO162; clear HO166; clear HO170; clear HO174; clear HO177; clear BK153; clear BK163; clear HB; have HO152 := n0_; have HO162 := n1_; have HO166 := n2_; have HO170 := n3_; have HO174 := n4_; have HO177 := n5_; have HO180 := n6_; have BK153 := n7_; have BK163 := n8_; have HB := n9_; clear n0_ n1_ n2_ n3_ n4_ n5_ n6_ n7_ n8_ n9_; clear hb ho45; obtain ⟨Ao46, co46, eo46⟩ := Kd.R_slice HO177.out; subst eo46; obtain ⟨Ao47, co47, eo47⟩ := Kd.R_slice HO180.out; subst eo47) | ((with_reducible refine gate_dst (N := 30) rfl ?_); (try (refine gate_guard (by rfl) ?_; dsimp only)); refine Kd.N_lit (Kd.slice 3 (Kd.int .i64)) _ 32 ?hg (N' := 30) ?hd (xs := ([y175, y178] : List (List Int))) (inner := [.slice Ao46 y175.length co46, .slice Ao47 y178.length co47]) (ok := (fun k_ => some k_ ≠ (.slice Ao22 y150.length co22 : Value).ownBlock ∧ some k_ ≠ (.slice Ao33 y160.length co33 : Value).ownBlock ∧ some k_ ≠ (v165 : Value).ownBlock ∧ some k_ ≠ (v169 : Value).ownBlock ∧ k_ ≠ gb153 ∧ k_ ≠ gb163)) (okp := (fun k_ => some k_ ≠ (.slice Ao22 y150.length co22 : Value).ownBlock ∧ some k_ ≠ (.slice Ao33 y160.length co33 : Value).ownBlock ∧ some k_ ≠ (v165 : Value).ownBlock ∧ some k_ ≠ (v169 : Value).ownBlock ∧ k_ ≠ gb153 ∧ k_ ≠ gb163)) ?hr ?hp (fun _ hk => hk) ((show ∀ k_, w44.heap.size ≤ k_ → (fun k_ => some k_ ≠ (.slice Ao22 y150.length co22 : Value).ownBlock ∧ some k_ ≠ (.slice Ao33 y160.length co33 : Value).ownBlock ∧ some k_ ≠ (v165 : Value).ownBlock ∧ some k_ ≠ (v169 : Value).ownBlock ∧ k_ ≠ gb153 ∧ k_ ≠ gb163) k_ from fun k_ hk => ⟨Kd.fresh' (Kd.N_lt (by (with_reducible repeat (first | apply Kd.N_alloc | apply Kd.N_drewN | apply Kd.N_drew)); exact HO152.out)) k_ hk, Kd.fresh' (Kd.N_lt (by (with_reducible repeat (first | apply Kd.N_alloc | apply Kd.N_drewN | apply Kd.N_drew)); exact HO162.out)) k_ hk, Kd.fresh' (Kd.N_lt (by (with_reducible repeat (first | apply Kd.N_alloc | apply Kd.N_drewN | apply Kd.N_drew)); exact HO166.out)) k_ hk, Kd.fresh' (Kd.N_lt (by (with_reducible repeat (first | apply Kd.N_alloc | apply Kd.N_drewN | apply Kd.N_drew)); exact HO170.out)) k_ hk, Kd.freshB (g := gb153) (o := .cells #[.slice Ao22 y150.length co22] 24 (0, 0)) (by (with_reducible repeat (first | refine kN ?_ _ | refine kD ?_ | refine kA ?_ _)); exact BK153.out) k_ hk, Kd.freshB (g := gb163) (o := .cells #[.slice Ao33 y160.length co33] 24 (0, 0)) (by (with_reducible repeat (first | refine kN ?_ _ | refine kD ?_ | refine kA ?_ _)); exact BK163.out) k_ hk⟩) _ (Nat.le_refl _)) (Below.refl _ _) (Nat.le_refl _) (by simp) ?_; (case hd => rfl); (case hg => rfl); (case hr => first | (go_simp; done) | (go_simp; rfl)); (case hp => exact (Reps.one (show Kd.FK (Kd.slice 3 (Kd.int .i64)) _ _ y175 [.slice Ao46 y175.length co46] from (Kd.FK_slice_mk (Kd.R_reads' (Kd.R_mono (ok' := (fun k_ => some k_ ≠ (.slice Ao22 y150.length co22 : Value).ownBlock ∧ some k_ ≠ (.slice Ao33 y160.length co33 : Value).ownBlock ∧ some k_ ≠ (v165 : Value).ownBlock ∧ some k_ ≠ (v169 : Value).ownBlock ∧ k_ ≠ gb153 ∧ k_ ≠ gb163)) (Kd.R_types (Kd.R_types (Kd.R_apart' (Kd.R_apart' (Kd.R_apart' (Kd.R_apart' (HO177.out) (Kd.N_typed HO152.out) (by decide)) (Kd.N_typed HO162.out) (by decide)) (Kd.N_typed HO166.out) (by decide)) (Kd.N_typed HO170.out) (by decide)) BK153.out (by decide)) BK163.out (by decide)) (fun k_ hk => ⟨hk.1.1.1.1.1.2, ⟨hk.1.1.1.1.2, ⟨hk.1.1.1.2, ⟨hk.1.1.2, ⟨hk.1.2, hk.2⟩⟩⟩⟩⟩))).2.1 (Kd.R_F (Kd.R_mono (ok' := (fun k_ => some k_ ≠ (.slice Ao22 y150.length co22 : Value).ownBlock ∧ some k_ ≠ (.slice Ao33 y160.length co33 : Value).ownBlock ∧ some k_ ≠ (v165 : Value).ownBlock ∧ some k_ ≠ (v169 : Value).ownBlock ∧ k_ ≠ gb153 ∧ k_ ≠ gb163)) (Kd.R_types (Kd.R_types (Kd.R_apart' (Kd.R_apart' (Kd.R_apart' (Kd.R_apart' (HO177.out) (Kd.N_typed HO152.out) (by decide)) (Kd.N_typed HO162.out) (by decide)) (Kd.N_typed HO166.out) (by decide)) (Kd.N_typed HO170.out) (by decide)) BK153.out (by decide)) BK163.out (by decide)) (fun k_ hk => ⟨hk.1.1.1.1.1.2, ⟨hk.1.1.1.1.2, ⟨hk.1.1.1.2, ⟨hk.1.1.2, ⟨hk.1.2, hk.2⟩⟩⟩⟩⟩))))) (Reps.one (show Kd.FK (Kd.slice 3 (Kd.int .i64)) _ _ y178 [.slice Ao47 y178.length co47] from (Kd.FK_slice_mk (Kd.R_reads' (Kd.R_mono (ok' := (fun k_ => some k_ ≠ (.slice Ao22 y150.length co22 : Value).ownBlock ∧ some k_ ≠ (.slice Ao33 y160.length co33 : Value).ownBlock ∧ some k_ ≠ (v165 : Value).ownBlock ∧ some k_ ≠ (v169 : Value).ownBlock ∧ k_ ≠ gb153 ∧ k_ ≠ gb163)) (Kd.R_types (Kd.R_types (Kd.R_apart' (Kd.R_apart' (Kd.R_apart' (Kd.R_apart' (HO180.out) (Kd.N_typed HO152.out) (by decide)) (Kd.N_typed HO162.out) (by decide)) (Kd.N_typed HO166.out) (by decide)) (Kd.N_typed HO170.out) (by decide)) BK153.out (by decide)) BK163.out (by decide)) (fun k_ hk => ⟨hk.1.1.1.1.1.2, ⟨hk.1.1.1.1.2, ⟨hk.1.1.1.2, ⟨hk.1.1.2, ⟨hk.1.2, hk.2⟩⟩⟩⟩⟩))).2.1 (Kd.R_F (Kd.R_mono (ok' := (fun k_ => some k_ ≠ (.slice Ao22 y150.length co22 : Value).ownBlock ∧ some k_ ≠ (.slice Ao33 y160.length co33 : Value).ownBlock ∧ some k_ ≠ (v165 : Value).ownBlock ∧ some k_ ≠ (v169 : Value).ownBlock ∧ k_ ≠ gb153 ∧ k_ ≠ gb163)) (Kd.R_types (Kd.R_types (Kd.R_apart' (Kd.R_apart' (Kd.R_apart' (Kd.R_apart' (HO180.out) (Kd.N_typed HO152.out) (by decide)) (Kd.N_typed HO162.out) (by decide)) (Kd.N_typed HO166.out) (by decide)) (Kd.N_typed HO170.out) (by decide)) BK153.out (by decide)) BK163.out (by decide)) (fun k_ hk => ⟨hk.1.1.1.1.1.2, ⟨hk.1.1.1.1.2, ⟨hk.1.1.1.2, ⟨hk.1.1.2, ⟨hk.1.2, hk.2⟩⟩⟩⟩⟩))))) (Reps.none _ _)))); intro v182 w48 ho49 hb hg_ hnew_; clear hg_ hnew_; (first | rw [← Ny181.out] at ho49 | (simp only [Int.reduceToNat] at ho49; rw [← Ny181.out] at ho49)); have n0_ := aM (Kd.N_elder' (by (with_reducible repeat (first | apply Kd.N_alloc | apply Kd.N_drewN | apply Kd.N_drew)); exact HO152.out) (Kd.N_base ho49) hb); have n1_ := aM (Kd.N_elder' (by (with_reducible repeat (first | apply Kd.N_alloc | apply Kd.N_drewN | apply Kd.N_drew)); exact HO162.out) (Kd.N_base ho49) hb); have n2_ := aM (Kd.N_elder' (by (with_reducible repeat (first | apply Kd.N_alloc | apply Kd.N_drewN | apply Kd.N_drew)); exact HO166.out) (Kd.N_base ho49) hb); have n3_ := aM (Kd.N_elder' (by (with_reducible repeat (first | apply Kd.N_alloc | apply Kd.N_drewN | apply Kd.N_drew)); exact HO170.out) (Kd.N_base ho49) hb); have n4_ := aM (Kd.V_elder' (by (with_reducible repeat (first | apply Kd.V_alloc | apply Kd.V_drewN | apply Kd.V_drew)); exact HO174.out) (Kd.N_base ho49) hb); have n5_ := aM (Kd.N_lower ho49 (below_size (by repeat (first | (with_reducible first | exact HB.out | apply bA | apply bN | apply bD | refine below_set ?_ GE153.out | refine below_set ?_ GE163.out) | exact HB.out)))); have n6_ := aM (blk_below (g := gb153) (o := .cells #[.slice Ao22 y150.length co22] 24 (0, 0)) (by (with_reducible repeat (first | refine kN ?_ _ | refine kD ?_ | refine kA ?_ _)); exact BK153.out) hb); have n7_ := aM (blk_below (g := gb163) (o := .cells #[.slice Ao33 y160.length co33] 24 (0, 0)) (by (with_reducible repeat (first | refine kN ?_ _ | refine kD ?_ | refine kA ?_ _)); exact BK163.out) hb); have n8_ := aM (below_step (by repeat (first | (with_reducible first | exact HB.out | apply bA | apply bN | apply bD | refine below_set ?_ GE153.out | refine below_set ?_ GE163.out) | exact HB.out)) hb); clear HO152; clear HO162; clear HO166; clear HO170; clear HO174; clear BK153; clear BK163; clear HB; clear HO177; clear HO180; have HO152 := n0_; have HO162 := n1_; have HO166 := n2_; have HO170 := n3_; have HO174 := n4_; have HO183 := n5_; have BK153 := n6_; have BK163 := n7_; have HB := n8_; clear n0_ n1_ n2_ n3_ n4_ n5_ n6_ n7_ n8_; clear hb ho49; obtain ⟨Ao50, co50, eo50⟩ := Kd.V_slice HO174.out; subst eo50; obtain ⟨Ao51, co51, eo51⟩ := Kd.N_slice HO183.out; subst eo51) | ((with_reducible refine gate_callee (f := 11) rfl ?_); refine goesL_ (some 31) rfl rfl Try.func11 (by kernel_rfl) rfl #[.slice Ao50 t172.length co50, .slice Ao51 y181.length co51] rfl (by (try simp only [List.map_toArray, List.map_cons, List.map_nil]); first | done | rfl | (simp only [List.length_drop, List.length_take]; rfl)) ?_; (with_reducible refine (lazycref09_Same.calls k _ _ t172 _ _ y181 true _ ?side1 ?side2 ?side3 ?side4 A4.out).mono ?_); (case side1 => repeat (first | exact (Kd.V_reads' HO174.out).2.2 | (with_reducible refine Kd.C_alloc ?_ _) | (with_reducible refine Kd.C_drewN ?_ _) | (with_reducible refine Kd.C_drew ?_))); (case side2 => exact (Kd.V_reads' HO174.out).2.1); (case side3 => repeat (first | exact (Kd.N_reads' HO183.out).2.2 | (with_reducible refine Kd.C_alloc ?_ _) | (with_reducible refine Kd.C_drewN ?_ _) | (with_reducible refine Kd.C_drew ?_))); (case side4 => exact (Kd.N_reads' HO183.out).2.1); rintro e w' ⟨rfl, ⟨nd, rfl⟩⟩; refine ⟨_, rfl, ?_⟩; have hcz52_0 : w48.cell? ⟨gb153, 0, none⟩ = some (.slice Ao22 y150.length co22) := (blk_cell BK153.out 0).trans rfl; have hfz52_0 := blk_frozen BK153.out 0) | (go_at_call 20; (with_reducible refine (graph_Cyclic.calls k _ _ y150 1 true _ ?side1 ?side2 A6.out).mono ?_); (case side1 => repeat (first | exact (Kd.N_reads' HO152.out).2.2 | (with_reducible refine Kd.C_alloc ?_ _) | (with_reducible refine Kd.C_drewN ?_ _) | (with_reducible refine Kd.C_drew ?_))); (case side2 => exact (Kd.N_reads' HO152.out).2.1); rintro e w53 ⟨rfl, hb⟩; have n0_ := aM (Kd.N_below (by (with_reducible repeat (first | apply Kd.N_alloc | apply Kd.N_drewN | apply Kd.N_drew)); exact HO152.out) hb); have n1_ := aM (Kd.N_below (by (with_reducible repeat (first | apply Kd.N_alloc | apply Kd.N_drewN | apply Kd.N_drew)); exact HO162.out) hb); have n2_ := aM (Kd.N_below (by (with_reducible repeat (first | apply Kd.N_alloc | apply Kd.N_drewN | apply Kd.N_drew)); exact HO166.out) hb); have n3_ := aM (Kd.N_below (by (with_reducible repeat (first | apply Kd.N_alloc | apply Kd.N_drewN | apply Kd.N_drew)); exact HO170.out) hb); have n4_ := aM (Kd.V_below (by (with_reducible repeat (first | apply Kd.V_alloc | apply Kd.V_drewN | apply Kd.V_drew)); exact HO174.out) hb); have n5_ := aM (Kd.N_below (by (with_reducible repeat (first | apply Kd.N_alloc | apply Kd.N_drewN | apply Kd.N_drew)); exact HO183.out) hb); have n6_ := aM (blk_below (g := gb153) (o := .cells #[.slice Ao22 y150.length co22] 24 (0, 0)) (by (with_reducible repeat (first | refine kN ?_ _ | refine kD ?_ | refine kA ?_ _)); exact BK153.out) hb); have n7_ := aM (blk_below (g := gb163) (o := .cells #[.slice Ao33 y160.length co33] 24 (0, 0)) (by (with_reducible repeat (first | refine kN ?_ _ | refine kD ?_ | refine kA ?_ _)); exact BK163.out) hb); have n8_ := aM (below_step (by repeat (first | (with_reducible first | exact HB.out | apply bA | apply bN | apply bD | refine below_set ?_ GE153.out | refine below_set ?_ GE163.out) | exact HB.out)) hb); clear HO152; clear HO162; clear HO166; clear HO170; clear HO174; clear HO183; clear BK153; clear BK163; clear HB; have HO152 := n0_; have HO162 := n1_; have HO166 := n2_; have HO170 := n3_; have HO174 := n4_; have HO183 := n5_; have BK153 := n6_; have BK163 := n7_; have HB := n8_; clear n0_ n1_ n2_ n3_ n4_ n5_ n6_ n7_ n8_; (try clear hb); (try clear hb2); (try clear hk); (try clear hi)) | ((with_reducible refine gate_dst (N := 42) rfl ?_); (try (refine gate_guard (by rfl) ?_; dsimp only)); refine Kd.R_lit (Kd.int .i64) _ 3 ?hg (N := 42) ?hd (xs := ([2] : List Int)) (inner := [.int .i64 2]) (ok := fun _ => True) (okp := fun _ => True) ?hr ?hp (fun _ hk => hk) trivial (Below.refl _ _) (Nat.le_refl _) (by simp) ?_; (case hd => rfl); (case hg => rfl); (case hr => first | (go_simp; done) | (go_simp; rfl)); (case hp => exact (Reps.one (show Kd.M (Kd.int .i64) _ _ _ 2 [.int .i64 2] from rfl) (Reps.none _ _))); intro v187 w54 ho55 hb hg_ hnew_; clear hg_ hnew_; (first | rw [← Ny186.out] at ho55 | (simp only [Int.reduceToNat] at ho55; rw [← Ny186.out] at ho55)); have n0_ := aM (Kd.N_elder' (by (with_reducible repeat (first | apply Kd.N_alloc | apply Kd.N_drewN | apply Kd.N_drew)); exact HO152.out) (Kd.R_base ho55) hb); have n1_ := aM (Kd.N_elder' (by (with_reducible repeat (first | apply Kd.N_alloc | apply Kd.N_drewN | apply Kd.N_drew)); exact HO162.out) (Kd.R_base ho55) hb); have n2_ := aM (Kd.N_elder' (by (with_reducible repeat (first | apply Kd.N_alloc | apply Kd.N_drewN | apply Kd.N_drew)); exact HO166.out) (Kd.R_base ho55) hb); have n3_ := aM (Kd.N_elder' (by (with_reducible repeat (first | apply Kd.N_alloc | apply Kd.N_drewN | apply Kd.N_drew)); exact HO170.out) (Kd.R_base ho55) hb); have n4_ := aM (Kd.V_elder' (by (with_reducible repeat (first | apply Kd.V_alloc | apply Kd.V_drewN | apply Kd.V_drew)); exact HO174.out) (Kd.R_base ho55) hb); have n5_ := aM (Kd.N_elder' (by (with_reducible repeat (first | apply Kd.N_alloc | apply Kd.N_drewN | apply Kd.N_drew)); exact HO183.out) (Kd.R_base ho55) hb); have n6_ := aM (Kd.R_lower ho55 (below_size (by repeat (first | (with_reducible first | exact HB.out | apply bA | apply bN | apply bD | refine below_set ?_ GE153.out | refine below_set ?_ GE163.out) | exact HB.out)))); have n7_ := aM (blk_below (g := gb153) (o := .cells #[.slice Ao22 y150.length co22] 24 (0, 0)) (by (with_reducible repeat (first | refine kN ?_ _ | refine kD ?_ | refine kA ?_ _)); exact BK153.out) hb); have n8_ := aM (blk_below (g := gb163) (o := .cells #[.slice Ao33 y160.length co33] 24 (0, 0)) (by (with_reducible repeat (first | refine kN ?_ _ | refine kD ?_ | refine kA ?_ _)); exact BK163.out) hb); have n9_ := aM (below_step (by repeat (first | (with_reducible first | exact HB.out | apply bA | apply bN | apply bD | refine below_set ?_ GE153.out | refine below_set ?_ GE163.out) | exact HB.out)) hb); clear HO152; clear HO162; clear HO166; clear HO170; clear HO174; clear HO183; clear BK153; clear BK163; clear HB; have HO152 := n0_; have HO162 := n1_; have HO166 := n2_; have HO170 := n3_; have HO174 := n4_; have HO183 := n5_; have HO188 := n6_; have BK153 := n7_; have BK163 := n8_; have HB := n9_; clear n0_ n1_ n2_ n3_ n4_ n5_ n6_ n7_ n8_ n9_; clear hb ho55) | ((with_reducible refine gate_dst (N := 43) rfl ?_); (try (refine gate_guard (by rfl) ?_; dsimp only)); refine Kd.R_lit (Kd.int .i64) _ 3 ?hg (N := 43) ?hd (xs := ([1] : List Int)) (inner := [.int .i64 1]) (ok := fun _ => True) (okp := fun _ => True) ?hr ?hp (fun _ hk => hk) trivial (Below.refl _ _) (Nat.le_refl _) (by simp) ?_; (case hd => rfl); (case hg => rfl); (case hr => first | (go_simp; done) | (go_simp; rfl)); (case hp => exact (Reps.one (show Kd.M (Kd.int .i64) _ _ _ 1 [.int .i64 1] from rfl) (Reps.none _ _))); intro v190 w56 ho57 hb hg_ hnew_; clear hg_ hnew_; (first | rw [← Ny189.out] at ho57 | (simp only [Int.reduceToNat] at ho57; rw [← Ny189.out] at ho57)); have n0_ := aM (Kd.N_elder' (by (with_reducible repeat (first | apply Kd.N_alloc | apply Kd.N_drewN | apply Kd.N_drew)); exact HO152.out) (Kd.R_base ho57) hb); have n1_ := aM (Kd.N_elder' (by (with_reducible repeat (first | apply Kd.N_alloc | apply Kd.N_drewN | apply Kd.N_drew)); exact HO162.out) (Kd.R_base ho57) hb); have n2_ := aM (Kd.N_elder' (by (with_reducible repeat (first | apply Kd.N_alloc | apply Kd.N_drewN | apply Kd.N_drew)); exact HO166.out) (Kd.R_base ho57) hb); have n3_ := aM (Kd.N_elder' (by (with_reducible repeat (first | apply Kd.N_alloc | apply Kd.N_drewN | apply Kd.N_drew)); exact HO170.out) (Kd.R_base ho57) hb); have n4_ := aM (Kd.V_elder' (by (with_reducible repeat (first | apply Kd.V_alloc | apply Kd.V_drewN | apply Kd.V_drew)); exact HO174.out) (Kd.R_base ho57) hb); have n5_ := aM (Kd.N_elder' (by (with_reducible repeat (first | apply Kd.N_alloc | apply Kd.N_drewN | apply Kd.N_drew)); exact HO183.out) (Kd.R_base ho57) hb); have n6_ := aM (Kd.R_elder' (by (with_reducible repeat (first | apply Kd.R_alloc | apply Kd.R_drewN | apply Kd.R_drew)); exact HO188.out) (Kd.R_base ho57) hb); have n7_ := aM (Kd.R_lower (Kd.R_new' ho57 (Kd.R_lt (by (with_reducible repeat (first | apply Kd.R_alloc | apply Kd.R_drewN | apply Kd.R_drew)); exact HO188.out))) (below_size (by repeat (first | (with_reducible first | exact HB.out | apply bA | apply bN | apply bD | refine below_set ?_ GE153.out | refine below_set ?_ GE163.out) | exact HB.out)))); have n8_ := aM (blk_below (g := gb153) (o := .cells #[.slice Ao22 y150.length co22] 24 (0, 0)) (by (with_reducible repeat (first | refine kN ?_ _ | refine kD ?_ | refine kA ?_ _)); exact BK153.out) hb); have n9_ := aM (blk_below (g := gb163) (o := .cells #[.slice Ao33 y160.length co33] 24 (0, 0)) (by (with_reducible repeat (first | refine kN ?_ _ | refine kD ?_ | refine kA ?_ _)); exact BK163.out) hb); have n10_ := aM (below_step (by repeat (first | (with_reducible first | exact HB.out | apply bA | apply bN | apply bD | refine below_set ?_ GE153.out | refine below_set ?_ GE163.out) | exact HB.out)) hb); clear HO152; clear HO162; clear HO166; clear HO170; clear HO174; clear HO183; clear HO188; clear BK153; clear BK163; clear HB; have HO152 := n0_; have HO162 := n1_; have HO166 := n2_; have HO170 := n3_; have HO174 := n4_; have HO183 := n5_; have HO188 := n6_; have HO191 := n7_; have BK153 := n8_; have BK163 := n9_; have HB := n10_; clear n0_ n1_ n2_ n3_ n4_ n5_ n6_ n7_ n8_ n9_ n10_; clear hb ho57) | ((with_reducible refine gate_dst (N := 44) rfl ?_); (try (refine gate_guard (by rfl) ?_; dsimp only)); refine Kd.R_lit (Kd.int .i64) _ 3 ?hg (N := 44) ?hd (xs := ([0] : List Int)) (inner := [.int .i64 0]) (ok := fun _ => True) (okp := fun _ => True) ?hr ?hp (fun _ hk => hk) trivial (Below.refl _ _) (Nat.le_refl _) (by simp) ?_; (case hd => rfl); (case hg => rfl); (case hr => first | (go_simp; done) | (go_simp; rfl)); (case hp => exact (Reps.one (show Kd.M (Kd.int .i64) _ _ _ 0 [.int .i64 0] from rfl) (Reps.none _ _))); intro v193 w58 ho59 hb hg_ hnew_; clear hg_ hnew_; (first | rw [← Ny192.out] at ho59 | (simp only [Int.reduceToNat] at ho59; rw [← Ny192.out] at ho59)); have n0_ := aM (Kd.N_elder' (by (with_reducible repeat (first | apply Kd.N_alloc | apply Kd.N_drewN | apply Kd.N_drew)); exact HO152.out) (Kd.R_base ho59) hb); have n1_ := aM (Kd.N_elder' (by (with_reducible repeat (first | apply Kd.N_alloc | apply Kd.N_drewN | apply Kd.N_drew)); exact HO162.out) (Kd.R_base ho59) hb); have n2_ := aM (Kd.N_elder' (by (with_reducible repeat (first | apply Kd.N_alloc | apply Kd.N_drewN | apply Kd.N_drew)); exact HO166.out) (Kd.R_base ho59) hb); have n3_ := aM (Kd.N_elder' (by (with_reducible repeat (first | apply Kd.N_alloc | apply Kd.N_drewN | apply Kd.N_drew)); exact HO170.out) (Kd.R_base ho59) hb); have n4_ := aM (Kd.V_elder' (by (with_reducible repeat (first | apply Kd.V_alloc | apply Kd.V_drewN | apply Kd.V_drew)); exact HO174.out) (Kd.R_base ho59) hb); have n5_ := aM (Kd.N_elder' (by (with_reducible repeat (first | apply Kd.N_alloc | apply Kd.N_drewN | apply Kd.N_drew)); exact HO183.out) (Kd.R_base ho59) hb); have n6_ := aM (Kd.R_elder' (by (with_reducible repeat (first | apply Kd.R_alloc | apply Kd.R_drewN | apply Kd.R_drew)); exact HO188.out) (Kd.R_base ho59) hb); have n7_ := aM (Kd.R_elder' (by (with_reducible repeat (first | apply Kd.R_alloc | apply Kd.R_drewN | apply Kd.R_drew)); exact HO191.out) (Kd.R_base ho59) hb); have n8_ := aM (Kd.R_lower (Kd.R_new' (Kd.R_new' ho59 (Kd.R_lt (by (with_reducible repeat (first | apply Kd.R_alloc | apply Kd.R_drewN | apply Kd.R_drew)); exact HO188.out))) (Kd.R_lt (by (with_reducible repeat (first | apply Kd.R_alloc | apply Kd.R_drewN | apply Kd.R_drew)); exact HO191.out))) (below_size (by repeat (first | (with_reducible first | exact HB.out | apply bA | apply bN | apply bD | refine below_set ?_ GE153.out | refine below_set ?_ GE163.out) | exact HB.out)))); have n9_ := aM (blk_below (g := gb153) (o := .cells #[.slice Ao22 y150.length co22] 24 (0, 0)) (by (with_reducible repeat (first | refine kN ?_ _ | refine kD ?_ | refine kA ?_ _)); exact BK153.out) hb); have n10_ := aM (blk_below (g := gb163) (o := .cells #[.slice Ao33 y160.length co33] 24 (0, 0)) (by (with_reducible repeat (first | refine kN ?_ _ | refine kD ?_ | refine kA ?_ _)); exact BK163.out) hb); have n11_ := aM (below_step (by repeat (first | (with_reducible first | exact HB.out | apply bA | apply bN | apply bD | refine below_set ?_ GE153.out | refine below_set ?_ GE163.out) | exact HB.out)) hb); clear HO152; clear HO162; clear HO166; clear HO170; clear HO174; clear HO183; clear HO188; clear HO191; clear BK153; clear BK163; clear HB; have HO152 := n0_; have HO162 := n1_; have HO166 := n2_; have HO170 := n3_; have HO174 := n4_; have HO183 := n5_; have HO188 := n6_; have HO191 := n7_; have HO194 := n8_; have BK153 := n9_; have BK163 := n10_; have HB := n11_; clear n0_ n1_ n2_ n3_ n4_ n5_ n6_ n7_ n8_ n9_ n10_ n11_; clear hb ho59; obtain ⟨Ao60, co60, eo60⟩ := Kd.R_slice HO188.out; subst eo60; obtain ⟨Ao61, co61, eo61⟩ := Kd.R_slice HO191.out; subst eo61; obtain ⟨Ao62, co62, eo62⟩ := Kd.R_slice HO194.out; subst eo62) | ((with_reducible refine gate_dst (N := 45) rfl ?_); (try (refine gate_guard (by rfl) ?_; dsimp only)); refine Kd.N_lit (Kd.slice 3 (Kd.int .i64)) _ 32 ?hg (N' := 45) ?hd (xs := ([y186, y189, y192] : List (List Int))) (inner := [.slice Ao60 y186.length co60, .slice Ao61 y189.length co61, .slice Ao62 y192.length co62]) (ok := (fun k_ => some k_ ≠ (.slice Ao22 y150.length co22 : Value).ownBlock ∧ some k_ ≠ (.slice Ao33 y160.length co33 : Value).ownBlock ∧ some k_ ≠ (v165 : Value).ownBlock ∧ some k_ ≠ (v169 : Value).ownBlock ∧ some k_ ≠ (.slice Ao51 y181.length co51 : Value).ownBlock ∧ k_ ≠ gb153 ∧ k_ ≠ gb163)) (okp := (fun k_ => some k_ ≠ (.slice Ao22 y150.length co22 : Value).ownBlock ∧ some k_ ≠ (.slice Ao33 y160.length co33 : Value).ownBlock ∧ some k_ ≠ (v165 : Value).ownBlock ∧ some k_ ≠ (v169 : Value).ownBlock ∧ some k_ ≠ (.slice Ao51 y181.length co51 : Value).ownBlock ∧ k_ ≠ gb153 ∧ k_ ≠ gb163)) ?hr ?hp (fun _ hk => hk) ((show ∀ k_, w58.heap.size ≤ k_ → (fun k_ => some k_ ≠ (.slice Ao22 y150.length co22 : Value).ownBlock ∧ some k_ ≠ (.slice Ao33 y160.length co33 : Value).ownBlock ∧ some k_ ≠ (v165 : Value).ownBlock ∧ some k_ ≠ (v169 : Value).ownBlock ∧ some k_ ≠ (.slice Ao51 y181.length co51 : Value).ownBlock ∧ k_ ≠ gb153 ∧ k_ ≠ gb163) k_ from fun k_ hk => ⟨Kd.fresh' (Kd.N_lt (by (with_reducible repeat (first | apply Kd.N_alloc | apply Kd.N_drewN | apply Kd.N_drew)); exact HO152.out)) k_ hk, Kd.fresh' (Kd.N_lt (by (with_reducible repeat (first | apply Kd.N_alloc | apply Kd.N_drewN | apply Kd.N_drew)); exact HO162.out)) k_ hk, Kd.fresh' (Kd.N_lt (by (with_reducible repeat (first | apply Kd.N_alloc | apply Kd.N_drewN | apply Kd.N_drew)); exact HO166.out)) k_ hk, Kd.fresh' (Kd.N_lt (by (with_reducible repeat (first | apply Kd.N_alloc | apply Kd.N_drewN | apply Kd.N_drew)); exact HO170.out)) k_ hk, Kd.fresh' (Kd.N_lt (by (with_reducible repeat (first | apply Kd.N_alloc | apply Kd.N_drewN | apply Kd.N_drew)); exact HO183.out)) k_ hk, Kd.freshB (g := gb153) (o := .cells #[.slice Ao22 y150.length co22] 24 (0, 0)) (by (with_reducible repeat (first | refine kN ?_ _ | refine kD ?_ | refine kA ?_ _)); exact BK153.out) k_ hk, Kd.freshB (g := gb163) (o := .cells #[.slice Ao33 y160.length co33] 24 (0, 0)) (by (with_reducible repeat (first | refine kN ?_ _ | refine kD ?_ | refine kA ?_ _)); exact BK163.out) k_ hk⟩) _ (Nat.le_refl _)) (Below.refl _ _) (Nat.le_refl _) (by simp) ?_; (case hd => rfl); (case hg => rfl); (case hr => first | (go_simp; done) | (go_simp; rfl)); (case hp => exact (Reps.one (show Kd.FK (Kd.slice 3 (Kd.int .i64)) _ _ y186 [.slice Ao60 y186.length co60] from (Kd.FK_slice_mk (Kd.R_reads' (Kd.R_mono (ok' := (fun k_ => some k_ ≠ (.slice Ao22 y150.length co22 : Value).ownBlock ∧ some k_ ≠ (.slice Ao33 y160.length co33 : Value).ownBlock ∧ some k_ ≠ (v165 : Value).ownBlock ∧ some k_ ≠ (v169 : Value).ownBlock ∧ some k_ ≠ (.slice Ao51 y181.length co51 : Value).ownBlock ∧ k_ ≠ gb153 ∧ k_ ≠ gb163)) (Kd.R_types (Kd.R_types (Kd.R_apart' (Kd.R_apart' (Kd.R_apart' (Kd.R_apart' (Kd.R_apart' (HO188.out) (Kd.N_typed HO152.out) (by decide)) (Kd.N_typed HO162.out) (by decide)) (Kd.N_typed HO166.out) (by decide)) (Kd.N_typed HO170.out) (by decide)) (Kd.N_typed HO183.out) (by decide)) BK153.out (by decide)) BK163.out (by decide)) (fun k_ hk => ⟨hk.1.1.1.1.1.1.2, ⟨hk.1.1.1.1.1.2, ⟨hk.1.1.1.1.2, ⟨hk.1.1.1.2, ⟨hk.1.1.2, ⟨hk.1.2, hk.2⟩⟩⟩⟩⟩⟩))).2.1 (Kd.R_F (Kd.R_mono (ok' := (fun k_ => some k_ ≠ (.slice Ao22 y150.length co22 : Value).ownBlock ∧ some k_ ≠ (.slice Ao33 y160.length co33 : Value).ownBlock ∧ some k_ ≠ (v165 : Value).ownBlock ∧ some k_ ≠ (v169 : Value).ownBlock ∧ some k_ ≠ (.slice Ao51 y181.length co51 : Value).ownBlock ∧ k_ ≠ gb153 ∧ k_ ≠ gb163)) (Kd.R_types (Kd.R_types (Kd.R_apart' (Kd.R_apart' (Kd.R_apart' (Kd.R_apart' (Kd.R_apart' (HO188.out) (Kd.N_typed HO152.out) (by decide)) (Kd.N_typed HO162.out) (by decide)) (Kd.N_typed HO166.out) (by decide)) (Kd.N_typed HO170.out) (by decide)) (Kd.N_typed HO183.out) (by decide)) BK153.out (by decide)) BK163.out (by decide)) (fun k_ hk => ⟨hk.1.1.1.1.1.1.2, ⟨hk.1.1.1.1.1.2, ⟨hk.1.1.1.1.2, ⟨hk.1.1.1.2, ⟨hk.1.1.2, ⟨hk.1.2, hk.2⟩⟩⟩⟩⟩⟩))))) (Reps.one (show Kd.FK (Kd.slice 3 (Kd.int .i64)) _ _ y189 [.slice Ao61 y189.length co61] from (Kd.FK_slice_mk (Kd.R_reads' (Kd.R_mono (ok' := (fun k_ => some k_ ≠ (.slice Ao22 y150.length co22 : Value).ownBlock ∧ some k_ ≠ (.slice Ao33 y160.length co33 : Value).ownBlock ∧ some k_ ≠ (v165 : Value).ownBlock ∧ some k_ ≠ (v169 : Value).ownBlock ∧ some k_ ≠ (.slice Ao51 y181.length co51 : Value).ownBlock ∧ k_ ≠ gb153 ∧ k_ ≠ gb163)) (Kd.R_types (Kd.R_types (Kd.R_apart' (Kd.R_apart' (Kd.R_apart' (Kd.R_apart' (Kd.R_apart' (HO191.out) (Kd.N_typed HO152.out) (by decide)) (Kd.N_typed HO162.out) (by decide)) (Kd.N_typed HO166.out) (by decide)) (Kd.N_typed HO170.out) (by decide)) (Kd.N_typed HO183.out) (by decide)) BK153.out (by decide)) BK163.out (by decide)) (fun k_ hk => ⟨hk.1.1.1.1.1.1.2, ⟨hk.1.1.1.1.1.2, ⟨hk.1.1.1.1.2, ⟨hk.1.1.1.2, ⟨hk.1.1.2, ⟨hk.1.2, hk.2⟩⟩⟩⟩⟩⟩))).2.1 (Kd.R_F (Kd.R_mono (ok' := (fun k_ => some k_ ≠ (.slice Ao22 y150.length co22 : Value).ownBlock ∧ some k_ ≠ (.slice Ao33 y160.length co33 : Value).ownBlock ∧ some k_ ≠ (v165 : Value).ownBlock ∧ some k_ ≠ (v169 : Value).ownBlock ∧ some k_ ≠ (.slice Ao51 y181.length co51 : Value).ownBlock ∧ k_ ≠ gb153 ∧ k_ ≠ gb163)) (Kd.R_types (Kd.R_types (Kd.R_apart' (Kd.R_apart' (Kd.R_apart' (Kd.R_apart' (Kd.R_apart' (HO191.out) (Kd.N_typed HO152.out) (by decide)) (Kd.N_typed HO162.out) (by decide)) (Kd.N_typed HO166.out) (by decide)) (Kd.N_typed HO170.out) (by decide)) (Kd.N_typed HO183.out) (by decide)) BK153.out (by decide)) BK163.out (by decide)) (fun k_ hk => ⟨hk.1.1.1.1.1.1.2, ⟨hk.1.1.1.1.1.2, ⟨hk.1.1.1.1.2, ⟨hk.1.1.1.2, ⟨hk.1.1.2, ⟨hk.1.2, hk.2⟩⟩⟩⟩⟩⟩))))) (Reps.one (show Kd.FK (Kd.slice 3 (Kd.int .i64)) _ _ y192 [.slice Ao62 y192.length co62] from (Kd.FK_slice_mk (Kd.R_reads' (Kd.R_mono (ok' := (fun k_ => some k_ ≠ (.slice Ao22 y150.length co22 : Value).ownBlock ∧ some k_ ≠ (.slice Ao33 y160.length co33 : Value).ownBlock ∧ some k_ ≠ (v165 : Value).ownBlock ∧ some k_ ≠ (v169 : Value).ownBlock ∧ some k_ ≠ (.slice Ao51 y181.length co51 : Value).ownBlock ∧ k_ ≠ gb153 ∧ k_ ≠ gb163)) (Kd.R_types (Kd.R_types (Kd.R_apart' (Kd.R_apart' (Kd.R_apart' (Kd.R_apart' (Kd.R_apart' (HO194.out) (Kd.N_typed HO152.out) (by decide)) (Kd.N_typed HO162.out) (by decide)) (Kd.N_typed HO166.out) (by decide)) (Kd.N_typed HO170.out) (by decide)) (Kd.N_typed HO183.out) (by decide)) BK153.out (by decide)) BK163.out (by decide)) (fun k_ hk => ⟨hk.1.1.1.1.1.1.2, ⟨hk.1.1.1.1.1.2, ⟨hk.1.1.1.1.2, ⟨hk.1.1.1.2, ⟨hk.1.1.2, ⟨hk.1.2, hk.2⟩⟩⟩⟩⟩⟩))).2.1 (Kd.R_F (Kd.R_mono (ok' := (fun k_ => some k_ ≠ (.slice Ao22 y150.length co22 : Value).ownBlock ∧ some k_ ≠ (.slice Ao33 y160.length co33 : Value).ownBlock ∧ some k_ ≠ (v165 : Value).ownBlock ∧ some k_ ≠ (v169 : Value).ownBlock ∧ some k_ ≠ (.slice Ao51 y181.length co51 : Value).ownBlock ∧ k_ ≠ gb153 ∧ k_ ≠ gb163)) (Kd.R_types (Kd.R_types (Kd.R_apart' (Kd.R_apart' (Kd.R_apart' (Kd.R_apart' (Kd.R_apart' (HO194.out) (Kd.N_typed HO152.out) (by decide)) (Kd.N_typed HO162.out) (by decide)) (Kd.N_typed HO166.out) (by decide)) (Kd.N_typed HO170.out) (by decide)) (Kd.N_typed HO183.out) (by decide)) BK153.out (by decide)) BK163.out (by decide)) (fun k_ hk => ⟨hk.1.1.1.1.1.1.2, ⟨hk.1.1.1.1.1.2, ⟨hk.1.1.1.1.2, ⟨hk.1.1.1.2, ⟨hk.1.1.2, ⟨hk.1.2, hk.2⟩⟩⟩⟩⟩⟩))))) (Reps.none _ _))))); intro v196 w63 ho64 hb hg_ hnew_; clear hg_ hnew_; (first | rw [← Ny195.out] at ho64 | (simp only [Int.reduceToNat] at ho64; rw [← Ny195.out] at ho64)); have n0_ := aM (Kd.N_elder' (by (with_reducible repeat (first | apply Kd.N_alloc | apply Kd.N_drewN | apply Kd.N_drew)); exact HO152.out) (Kd.N_base ho64) hb); have n1_ := aM (Kd.N_elder' (by (with_reducible repeat (first | apply Kd.N_alloc | apply Kd.N_drewN | apply Kd.N_drew)); exact HO162.out) (Kd.N_base ho64) hb); have n2_ := aM (Kd.N_elder' (by (with_reducible repeat (first | apply Kd.N_alloc | apply Kd.N_drewN | apply Kd.N_drew)); exact HO166.out) (Kd.N_base ho64) hb); have n3_ := aM (Kd.N_elder' (by (with_reducible repeat (first | apply Kd.N_alloc | apply Kd.N_drewN | apply Kd.N_drew)); exact HO170.out) (Kd.N_base ho64) hb); have n4_ := aM (Kd.V_elder' (by (with_reducible repeat (first | apply Kd.V_alloc | apply Kd.V_drewN | apply Kd.V_drew)); exact HO174.out) (Kd.N_base ho64) hb); have n5_ := aM (Kd.N_elder' (by (with_reducible repeat (first | apply Kd.N_alloc | apply Kd.N_drewN | apply Kd.N_drew)); exact HO183.out) (Kd.N_base ho64) hb); have n6_ := aM (Kd.N_lower ho64 (below_size (by repeat (first | (with_reducible first | exact HB.out | apply bA | apply bN | apply bD | refine below_set ?_ GE153.out | refine below_set ?_ GE163.out) | exact HB.out)))); have n7_ := aM (blk_below (g := gb153) (o := .cells #[.slice Ao22 y150.length co22] 24 (0, 0)) (by (with_reducible repeat (first | refine kN ?_ _ | refine kD ?_ | refine kA ?_ _)); exact BK153.out) hb); have n8_ := aM (blk_below (g := gb163) (o := .cells #[.slice Ao33 y160.length co33] 24 (0, 0)) (by (with_reducible repeat (first | refine kN ?_ _ | refine kD ?_ | refine kA ?_ _)); exact BK163.out) hb); have n9_ := aM (below_step (by repeat (first | (with_reducible first | exact HB.out | apply bA | apply bN | apply bD | refine below_set ?_ GE153.out | refine below_set ?_ GE163.out) | exact HB.out)) hb); clear HO152; clear HO162; clear HO166; clear HO170; clear HO174; clear HO183; clear BK153; clear BK163; clear HB; clear HO188; clear HO191; clear HO194; have HO152 := n0_; have HO162 := n1_; have HO166 := n2_; have HO170 := n3_; have HO174 := n4_; have HO183 := n5_; have HO197 := n6_; have BK153 := n7_; have BK163 := n8_; have HB := n9_; clear n0_ n1_ n2_ n3_ n4_ n5_ n6_ n7_ n8_ n9_; clear hb ho64; obtain ⟨Ao65, co65, eo65⟩ := Kd.N_slice HO166.out; subst eo65; obtain ⟨Ao66, co66, eo66⟩ := Kd.N_slice HO197.out; subst eo66) | (go_at_call 11; (with_reducible refine (lazycref09_Same.calls k _ _ t164 _ _ y195 true _ ?side1 ?side2 ?side3 ?side4 A9.out).mono ?_); (case side1 => repeat (first | exact (Kd.N_reads' HO166.out).2.2 | (with_reducible refine Kd.C_alloc ?_ _) | (with_reducible refine Kd.C_drewN ?_ _) | (with_reducible refine Kd.C_drew ?_))); (case side2 => exact (Kd.N_reads' HO166.out).2.1); (case side3 => repeat (first | exact (Kd.N_reads' HO197.out).2.2 | (with_reducible refine Kd.C_alloc ?_ _) | (with_reducible refine Kd.C_drewN ?_ _) | (with_reducible refine Kd.C_drew ?_))); (case side4 => exact (Kd.N_reads' HO197.out).2.1); rintro e w' ⟨rfl, ⟨nd, rfl⟩⟩))
  go_ret
  exact ⟨by first | rfl | (simp [errW_none, errW_some] <;> rfl) | (simp [*, errW_none, errW_some] <;> rfl), by repeat (first | (with_reducible first | exact HB.out | apply bA | apply bN | apply bD | refine below_set ?_ GE153.out | refine below_set ?_ GE163.out) | exact HB.out)⟩
def lazyclaw09_example.f : Option Bool := some true
theorem lazyclaw09_example.calls (r : Bool) (w : World) (h : lazyclaw09_example.f = some r) : Calls Try.prog 10 #[] w fun e w' => e = .returned (.bool r) ∧ Below w.heap.size w w' := by
  obtain rfl : true = r := Option.some.inj h
  exact example_walk 40 w _ _ _ _ _ _ _ _ _ _ _ _ _ _ _ _ _ _ _ rfl rfl rfl rfl rfl rfl rfl rfl rfl rfl rfl rfl rfl rfl lev_b lev_a comp_a same_a cyc_a rfl same_b
end Go.Proofs.Ytpmjpngmmphkmaa.P
