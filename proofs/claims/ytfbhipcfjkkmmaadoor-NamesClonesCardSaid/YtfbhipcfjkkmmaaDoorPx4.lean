-- printed by wip/drv.py, this work's own driver, out of the translation; Lean checks it
import Derived.Test.YtfbhipcfjkkmmaaDoorPx0
import Derived.Test.YtfbhipcfjkkmmaaDoorHSy
namespace Go.Proofs.YtfbhipcfjkkmmaaDoor.P
open Go.RowKit Go.Proofs.YtfbhipcfjkkmmaaDoorW.PrintWords Go.Proofs.YtfbhipcfjkkmmaaDoorW.PrintLast Go.Proofs.YtfbhipcfjkkmmaaDoorW.PrintMore
attribute [local go_sem] max2_int min2_int max_two min_two max_three min_three max_four min_four   -- for this text's walks alone
set_option linter.unusedVariables false
set_option linter.unusedSimpArgs false

/-! ### lazycref01_Reserved: function 54 -/
noncomputable def lazycref01_Reserved.j0 : Nat → ByteArray → Bool → Option (Bool)
  | 0, _, _ => none
  | k + 1, x3, x4 => if x4 = true then (some true) else (if x3.toList = ([105, 110, 102, 105, 120] : List UInt8) then (some true) else (if x3.toList = ([105, 110, 102, 105, 120, 108] : List UInt8) then (some true) else (if x3.toList = ([105, 110, 102, 105, 120, 114] : List UInt8) then (some true) else (if x3.toList = ([105, 110, 115, 116, 97, 110, 99, 101] : List UInt8) then (some true) else (if x3.toList = ([108, 101, 116] : List UInt8) then (some true) else (if x3.toList = ([109, 111, 100, 117, 108, 101] : List UInt8) then (some true) else (if x3.toList = ([111, 102] : List UInt8) then (some true) else (if x3.toList = ([113, 117, 97, 108, 105, 102, 105, 101, 100] : List UInt8) then (some true) else (if x3.toList = ([116, 104, 101, 110] : List UInt8) then (some true) else (if x3.toList = ([119, 104, 101, 114, 101] : List UInt8) then (some true) else (if x3.toList = ([95] : List UInt8) then (some true) else (some false))))))))))))
noncomputable def lazycref01_Reserved.f (k : Nat) (a0 : ByteArray) : Option (Bool) := if a0.toList = ([97, 115] : List UInt8) then (lazycref01_Reserved.j0 k a0 (a0.toList == ([97, 115] : List UInt8))) else (if a0.toList = ([99, 97, 115, 101] : List UInt8) then (lazycref01_Reserved.j0 k a0 (a0.toList == ([99, 97, 115, 101] : List UInt8))) else (if a0.toList = ([99, 108, 97, 115, 115] : List UInt8) then (lazycref01_Reserved.j0 k a0 (a0.toList == ([99, 108, 97, 115, 115] : List UInt8))) else (if a0.toList = ([100, 97, 116, 97] : List UInt8) then (lazycref01_Reserved.j0 k a0 (a0.toList == ([100, 97, 116, 97] : List UInt8))) else (if a0.toList = ([100, 101, 114, 105, 118, 105, 110, 103] : List UInt8) then (lazycref01_Reserved.j0 k a0 (a0.toList == ([100, 101, 114, 105, 118, 105, 110, 103] : List UInt8))) else (if a0.toList = ([100, 111] : List UInt8) then (lazycref01_Reserved.j0 k a0 (a0.toList == ([100, 111] : List UInt8))) else (if a0.toList = ([101, 108, 115, 101] : List UInt8) then (lazycref01_Reserved.j0 k a0 (a0.toList == ([101, 108, 115, 101] : List UInt8))) else (if a0.toList = ([104, 105, 100, 105, 110, 103] : List UInt8) then (lazycref01_Reserved.j0 k a0 (a0.toList == ([104, 105, 100, 105, 110, 103] : List UInt8))) else (if a0.toList = ([105, 102] : List UInt8) then (lazycref01_Reserved.j0 k a0 (a0.toList == ([105, 102] : List UInt8))) else (if a0.toList = ([105, 109, 112, 111, 114, 116] : List UInt8) then (lazycref01_Reserved.j0 k a0 (a0.toList == ([105, 109, 112, 111, 114, 116] : List UInt8))) else (lazycref01_Reserved.j0 k a0 (a0.toList == ([105, 110] : List UInt8))))))))))))
theorem lazycref01_Reserved.mono_l : ∀ k, (∀ y0 y1, LeO (lazycref01_Reserved.j0 k y0 y1) (lazycref01_Reserved.j0 (k + 1) y0 y1))
  | 0 => fun _ _ r h => by simp [lazycref01_Reserved.j0] at h
  | k + 1 => by
    have ih0 := lazycref01_Reserved.mono_l k
    · intro y0 y1
      unfold lazycref01_Reserved.j0
      repeat' first
      | (with_reducible exact ih0 _ _)
      | (with_reducible exact LeO.refl _)
      | (with_reducible exact LeO.none _)
      | (with_reducible refine LeO.ite ?_ ?_)
      | (with_reducible refine LeO.bind ?_ (fun _ => ?_))
      | exact ih0 _ _
      | exact LeO.none _
      | refine LeO.ite ?_ ?_
      | refine LeO.bind ?_ (fun _ => ?_)
theorem lazycref01_Reserved.mono : ∀ a0 k, LeO (lazycref01_Reserved.f k a0) (lazycref01_Reserved.f (k + 1) a0) := by
  intro a0 k
  have ih0 := lazycref01_Reserved.mono_l k
  unfold lazycref01_Reserved.f
  repeat' first
      | (with_reducible exact ih0 _ _)
      | (with_reducible exact LeO.refl _)
      | (with_reducible exact LeO.none _)
      | (with_reducible refine LeO.ite ?_ ?_)
      | (with_reducible refine LeO.bind ?_ (fun _ => ?_))
      | exact ih0 _ _
      | exact LeO.none _
      | refine LeO.ite ?_ ?_
      | refine LeO.bind ?_ (fun _ => ?_)
set_option maxHeartbeats 8000000 in
set_option maxRecDepth 100000 in
theorem lazycref01_Reserved.calls (k : Nat) (a0 : ByteArray) (r : Bool) (w : World) (h : lazycref01_Reserved.f k a0 = some r) :
    Calls Tryd.prog 54 #[.string a0] w fun e w' => e = .returned (.bool r) ∧ Drawn0 w w' := by
  have H : (if a0.toList = ([97, 115] : List UInt8) then (lazycref01_Reserved.j0 k a0 (a0.toList == ([97, 115] : List UInt8))) else (if a0.toList = ([99, 97, 115, 101] : List UInt8) then (lazycref01_Reserved.j0 k a0 (a0.toList == ([99, 97, 115, 101] : List UInt8))) else (if a0.toList = ([99, 108, 97, 115, 115] : List UInt8) then (lazycref01_Reserved.j0 k a0 (a0.toList == ([99, 108, 97, 115, 115] : List UInt8))) else (if a0.toList = ([100, 97, 116, 97] : List UInt8) then (lazycref01_Reserved.j0 k a0 (a0.toList == ([100, 97, 116, 97] : List UInt8))) else (if a0.toList = ([100, 101, 114, 105, 118, 105, 110, 103] : List UInt8) then (lazycref01_Reserved.j0 k a0 (a0.toList == ([100, 101, 114, 105, 118, 105, 110, 103] : List UInt8))) else (if a0.toList = ([100, 111] : List UInt8) then (lazycref01_Reserved.j0 k a0 (a0.toList == ([100, 111] : List UInt8))) else (if a0.toList = ([101, 108, 115, 101] : List UInt8) then (lazycref01_Reserved.j0 k a0 (a0.toList == ([101, 108, 115, 101] : List UInt8))) else (if a0.toList = ([104, 105, 100, 105, 110, 103] : List UInt8) then (lazycref01_Reserved.j0 k a0 (a0.toList == ([104, 105, 100, 105, 110, 103] : List UInt8))) else (if a0.toList = ([105, 102] : List UInt8) then (lazycref01_Reserved.j0 k a0 (a0.toList == ([105, 102] : List UInt8))) else (if a0.toList = ([105, 109, 112, 111, 114, 116] : List UInt8) then (lazycref01_Reserved.j0 k a0 (a0.toList == ([105, 109, 112, 111, 114, 116] : List UInt8))) else (lazycref01_Reserved.j0 k a0 (a0.toList == ([105, 110] : List UInt8))))))))))))) = some r := h
  clear h
  have HC2 := Aside0.mk H
  clear H
  go_enter Tryd.func54, Tryd.ntmps54
  go_upto_if 4 with (fail)
  go_cut [4] (fun v4 wc => ∃ (kq : Nat) (x4_1 : Bool), v4 = .bool x4_1 ∧ Aside0 (lazycref01_Reserved.j0 kq a0 x4_1 = some r) ∧ Aside0 (kq ≤ k) ∧ Drawn0 w wc)
  case first =>
    have H := HC2.out
    clear HC2
    by_cases c3 : a0.toList = ([97, 115] : List UInt8)
    · rw [if_pos c3] at H
      have c3b0 : (a0.toList == ([97, 115] : List UInt8)) = true := beq_iff_eq.mpr c3
      have c3b1 : (a0.toList != ([97, 115] : List UInt8)) = false := bne_eq_false_iff_eq.mpr c3
      clear c3
      (first | rw [c3b0] | (simp only [i64_w, i32_w]; rw [c3b0]) | skip)
      have H' := Aside0.mk H
      clear H
      go_wp2
      go_meet
      case rel => exact ⟨_, ((a0.toList == ([97, 115] : List UInt8))), (by first | rfl | (simp; done) | (simp [*]; done)), H', ⟨by first | omega | exact Nat.le_refl _⟩, by repeat (first | exact Drawn0.refl _ | apply Drawn0.step)⟩
    · rw [if_neg c3] at H
      have c3b0 : (a0.toList == ([97, 115] : List UInt8)) = false := beq_eq_false_iff_ne.mpr c3
      have c3b1 : (a0.toList != ([97, 115] : List UInt8)) = true := bne_iff_ne.mpr c3
      (first | rw [c3b0] | (simp only [i64_w, i32_w]; rw [c3b0]) | skip)
      by_cases c4 : a0.toList = ([99, 97, 115, 101] : List UInt8)
      · rw [if_pos c4] at H
        have c4b0 : (a0.toList == ([99, 97, 115, 101] : List UInt8)) = true := beq_iff_eq.mpr c4
        have c4b1 : (a0.toList != ([99, 97, 115, 101] : List UInt8)) = false := bne_eq_false_iff_eq.mpr c4
        clear c4
        have H' := Aside0.mk H
        clear H
        go_wp2
        go_meet
        case rel => exact ⟨_, ((a0.toList == ([99, 97, 115, 101] : List UInt8))), (by first | rfl | (simp; done) | (simp [*]; done)), H', ⟨by first | omega | exact Nat.le_refl _⟩, by repeat (first | exact Drawn0.refl _ | apply Drawn0.step)⟩
      · rw [if_neg c4] at H
        have c4b0 : (a0.toList == ([99, 97, 115, 101] : List UInt8)) = false := beq_eq_false_iff_ne.mpr c4
        have c4b1 : (a0.toList != ([99, 97, 115, 101] : List UInt8)) = true := bne_iff_ne.mpr c4
        by_cases c5 : a0.toList = ([99, 108, 97, 115, 115] : List UInt8)
        · rw [if_pos c5] at H
          have c5b0 : (a0.toList == ([99, 108, 97, 115, 115] : List UInt8)) = true := beq_iff_eq.mpr c5
          have c5b1 : (a0.toList != ([99, 108, 97, 115, 115] : List UInt8)) = false := bne_eq_false_iff_eq.mpr c5
          clear c5
          have H' := Aside0.mk H
          clear H
          go_wp2
          go_meet
          case rel => exact ⟨_, ((a0.toList == ([99, 108, 97, 115, 115] : List UInt8))), (by first | rfl | (simp; done) | (simp [*]; done)), H', ⟨by first | omega | exact Nat.le_refl _⟩, by repeat (first | exact Drawn0.refl _ | apply Drawn0.step)⟩
        · rw [if_neg c5] at H
          have c5b0 : (a0.toList == ([99, 108, 97, 115, 115] : List UInt8)) = false := beq_eq_false_iff_ne.mpr c5
          have c5b1 : (a0.toList != ([99, 108, 97, 115, 115] : List UInt8)) = true := bne_iff_ne.mpr c5
          by_cases c6 : a0.toList = ([100, 97, 116, 97] : List UInt8)
          · rw [if_pos c6] at H
            have c6b0 : (a0.toList == ([100, 97, 116, 97] : List UInt8)) = true := beq_iff_eq.mpr c6
            have c6b1 : (a0.toList != ([100, 97, 116, 97] : List UInt8)) = false := bne_eq_false_iff_eq.mpr c6
            clear c6
            have H' := Aside0.mk H
            clear H
            go_wp2
            go_meet
            case rel => exact ⟨_, ((a0.toList == ([100, 97, 116, 97] : List UInt8))), (by first | rfl | (simp; done) | (simp [*]; done)), H', ⟨by first | omega | exact Nat.le_refl _⟩, by repeat (first | exact Drawn0.refl _ | apply Drawn0.step)⟩
          · rw [if_neg c6] at H
            have c6b0 : (a0.toList == ([100, 97, 116, 97] : List UInt8)) = false := beq_eq_false_iff_ne.mpr c6
            have c6b1 : (a0.toList != ([100, 97, 116, 97] : List UInt8)) = true := bne_iff_ne.mpr c6
            by_cases c7 : a0.toList = ([100, 101, 114, 105, 118, 105, 110, 103] : List UInt8)
            · rw [if_pos c7] at H
              have c7b0 : (a0.toList == ([100, 101, 114, 105, 118, 105, 110, 103] : List UInt8)) = true := beq_iff_eq.mpr c7
              have c7b1 : (a0.toList != ([100, 101, 114, 105, 118, 105, 110, 103] : List UInt8)) = false := bne_eq_false_iff_eq.mpr c7
              clear c7
              have H' := Aside0.mk H
              clear H
              go_wp2
              go_meet
              case rel => exact ⟨_, ((a0.toList == ([100, 101, 114, 105, 118, 105, 110, 103] : List UInt8))), (by first | rfl | (simp; done) | (simp [*]; done)), H', ⟨by first | omega | exact Nat.le_refl _⟩, by repeat (first | exact Drawn0.refl _ | apply Drawn0.step)⟩
            · rw [if_neg c7] at H
              have c7b0 : (a0.toList == ([100, 101, 114, 105, 118, 105, 110, 103] : List UInt8)) = false := beq_eq_false_iff_ne.mpr c7
              have c7b1 : (a0.toList != ([100, 101, 114, 105, 118, 105, 110, 103] : List UInt8)) = true := bne_iff_ne.mpr c7
              by_cases c8 : a0.toList = ([100, 111] : List UInt8)
              · rw [if_pos c8] at H
                have c8b0 : (a0.toList == ([100, 111] : List UInt8)) = true := beq_iff_eq.mpr c8
                have c8b1 : (a0.toList != ([100, 111] : List UInt8)) = false := bne_eq_false_iff_eq.mpr c8
                clear c8
                have H' := Aside0.mk H
                clear H
                go_wp2
                go_meet
                case rel => exact ⟨_, ((a0.toList == ([100, 111] : List UInt8))), (by first | rfl | (simp; done) | (simp [*]; done)), H', ⟨by first | omega | exact Nat.le_refl _⟩, by repeat (first | exact Drawn0.refl _ | apply Drawn0.step)⟩
              · rw [if_neg c8] at H
                have c8b0 : (a0.toList == ([100, 111] : List UInt8)) = false := beq_eq_false_iff_ne.mpr c8
                have c8b1 : (a0.toList != ([100, 111] : List UInt8)) = true := bne_iff_ne.mpr c8
                by_cases c9 : a0.toList = ([101, 108, 115, 101] : List UInt8)
                · rw [if_pos c9] at H
                  have c9b0 : (a0.toList == ([101, 108, 115, 101] : List UInt8)) = true := beq_iff_eq.mpr c9
                  have c9b1 : (a0.toList != ([101, 108, 115, 101] : List UInt8)) = false := bne_eq_false_iff_eq.mpr c9
                  clear c9
                  have H' := Aside0.mk H
                  clear H
                  go_wp2
                  go_meet
                  case rel => exact ⟨_, ((a0.toList == ([101, 108, 115, 101] : List UInt8))), (by first | rfl | (simp; done) | (simp [*]; done)), H', ⟨by first | omega | exact Nat.le_refl _⟩, by repeat (first | exact Drawn0.refl _ | apply Drawn0.step)⟩
                · rw [if_neg c9] at H
                  have c9b0 : (a0.toList == ([101, 108, 115, 101] : List UInt8)) = false := beq_eq_false_iff_ne.mpr c9
                  have c9b1 : (a0.toList != ([101, 108, 115, 101] : List UInt8)) = true := bne_iff_ne.mpr c9
                  by_cases c10 : a0.toList = ([104, 105, 100, 105, 110, 103] : List UInt8)
                  · rw [if_pos c10] at H
                    have c10b0 : (a0.toList == ([104, 105, 100, 105, 110, 103] : List UInt8)) = true := beq_iff_eq.mpr c10
                    have c10b1 : (a0.toList != ([104, 105, 100, 105, 110, 103] : List UInt8)) = false := bne_eq_false_iff_eq.mpr c10
                    clear c10
                    have H' := Aside0.mk H
                    clear H
                    go_wp2
                    go_meet
                    case rel => exact ⟨_, ((a0.toList == ([104, 105, 100, 105, 110, 103] : List UInt8))), (by first | rfl | (simp; done) | (simp [*]; done)), H', ⟨by first | omega | exact Nat.le_refl _⟩, by repeat (first | exact Drawn0.refl _ | apply Drawn0.step)⟩
                  · rw [if_neg c10] at H
                    have c10b0 : (a0.toList == ([104, 105, 100, 105, 110, 103] : List UInt8)) = false := beq_eq_false_iff_ne.mpr c10
                    have c10b1 : (a0.toList != ([104, 105, 100, 105, 110, 103] : List UInt8)) = true := bne_iff_ne.mpr c10
                    by_cases c11 : a0.toList = ([105, 102] : List UInt8)
                    · rw [if_pos c11] at H
                      have c11b0 : (a0.toList == ([105, 102] : List UInt8)) = true := beq_iff_eq.mpr c11
                      have c11b1 : (a0.toList != ([105, 102] : List UInt8)) = false := bne_eq_false_iff_eq.mpr c11
                      clear c11
                      have H' := Aside0.mk H
                      clear H
                      go_wp2
                      go_meet
                      case rel => exact ⟨_, ((a0.toList == ([105, 102] : List UInt8))), (by first | rfl | (simp; done) | (simp [*]; done)), H', ⟨by first | omega | exact Nat.le_refl _⟩, by repeat (first | exact Drawn0.refl _ | apply Drawn0.step)⟩
                    · rw [if_neg c11] at H
                      have c11b0 : (a0.toList == ([105, 102] : List UInt8)) = false := beq_eq_false_iff_ne.mpr c11
                      have c11b1 : (a0.toList != ([105, 102] : List UInt8)) = true := bne_iff_ne.mpr c11
                      by_cases c12 : a0.toList = ([105, 109, 112, 111, 114, 116] : List UInt8)
                      · rw [if_pos c12] at H
                        have c12b0 : (a0.toList == ([105, 109, 112, 111, 114, 116] : List UInt8)) = true := beq_iff_eq.mpr c12
                        have c12b1 : (a0.toList != ([105, 109, 112, 111, 114, 116] : List UInt8)) = false := bne_eq_false_iff_eq.mpr c12
                        clear c12
                        have H' := Aside0.mk H
                        clear H
                        go_wp2
                        go_meet
                        case rel => exact ⟨_, ((a0.toList == ([105, 109, 112, 111, 114, 116] : List UInt8))), (by first | rfl | (simp; done) | (simp [*]; done)), H', ⟨by first | omega | exact Nat.le_refl _⟩, by repeat (first | exact Drawn0.refl _ | apply Drawn0.step)⟩
                      · rw [if_neg c12] at H
                        have c12b0 : (a0.toList == ([105, 109, 112, 111, 114, 116] : List UInt8)) = false := beq_eq_false_iff_ne.mpr c12
                        have c12b1 : (a0.toList != ([105, 109, 112, 111, 114, 116] : List UInt8)) = true := bne_iff_ne.mpr c12
                        have H' := Aside0.mk H
                        clear H
                        go_wp2
                        go_meet
                        case rel => exact ⟨_, ((a0.toList == ([105, 110] : List UInt8))), (by first | rfl | (simp; done) | (simp [*]; done)), H', ⟨by first | omega | exact Nat.le_refl _⟩, by repeat (first | exact Drawn0.refl _ | apply Drawn0.step)⟩
  case rest =>
    clear HC2
    try clear c1
    try clear p2
    try clear c3
    try clear c3b0
    try clear c3b1
    try clear c4
    try clear c4b0
    try clear c4b1
    try clear c5
    try clear c5b0
    try clear c5b1
    try clear c6
    try clear c6b0
    try clear c6b1
    try clear c7
    try clear c7b0
    try clear c7b1
    try clear c8
    try clear c8b0
    try clear c8b1
    try clear c9
    try clear c9b0
    try clear c9b1
    try clear c10
    try clear c10b0
    try clear c10b1
    try clear c11
    try clear c11b0
    try clear c11b1
    try clear c12
    try clear c12b0
    try clear c12b1
    obtain ⟨kq, x4_1, rfl, HA, HJ1, ⟨mc1, rfl⟩⟩ := hcut
    cases kq with
    | zero => exact absurd HA.out (by simp [lazycref01_Reserved.j0])
    | succ kj1 =>
      have H := HA.out
      clear HA
      simp only [lazycref01_Reserved.j0] at H
      by_cases c13 : x4_1 = true
      · subst c13
        have H1 : (some true) = some r := by rw [if_pos rfl] at H; exact H
        clear H
        have H := H1
        clear H1
        obtain rfl := Option.some.inj H
        go_wp2
        go_ret
        exact ⟨by first | rfl | (simp; done) | (simp [*]; done), by repeat (first | exact Drawn0.refl _ | apply Drawn0.step)⟩
      · replace c13 := Bool.eq_false_iff.mpr c13
        subst c13
        have H1 : (if a0.toList = ([105, 110, 102, 105, 120] : List UInt8) then (some true) else (if a0.toList = ([105, 110, 102, 105, 120, 108] : List UInt8) then (some true) else (if a0.toList = ([105, 110, 102, 105, 120, 114] : List UInt8) then (some true) else (if a0.toList = ([105, 110, 115, 116, 97, 110, 99, 101] : List UInt8) then (some true) else (if a0.toList = ([108, 101, 116] : List UInt8) then (some true) else (if a0.toList = ([109, 111, 100, 117, 108, 101] : List UInt8) then (some true) else (if a0.toList = ([111, 102] : List UInt8) then (some true) else (if a0.toList = ([113, 117, 97, 108, 105, 102, 105, 101, 100] : List UInt8) then (some true) else (if a0.toList = ([116, 104, 101, 110] : List UInt8) then (some true) else (if a0.toList = ([119, 104, 101, 114, 101] : List UInt8) then (some true) else (if a0.toList = ([95] : List UInt8) then (some true) else (some false)))))))))))) = some r := by rw [if_neg (show ¬ (false = true) by decide)] at H; exact H
        clear H
        have H := H1
        clear H1
        by_cases c14 : a0.toList = ([105, 110, 102, 105, 120] : List UInt8)
        · rw [if_pos c14] at H
          have c14b0 : (a0.toList == ([105, 110, 102, 105, 120] : List UInt8)) = true := beq_iff_eq.mpr c14
          have c14b1 : (a0.toList != ([105, 110, 102, 105, 120] : List UInt8)) = false := bne_eq_false_iff_eq.mpr c14
          clear c14
          obtain rfl := Option.some.inj H
          go_wp2
          go_ret
          exact ⟨by first | rfl | (simp; done) | (simp [*]; done), by repeat (first | exact Drawn0.refl _ | apply Drawn0.step)⟩
        · rw [if_neg c14] at H
          have c14b0 : (a0.toList == ([105, 110, 102, 105, 120] : List UInt8)) = false := beq_eq_false_iff_ne.mpr c14
          have c14b1 : (a0.toList != ([105, 110, 102, 105, 120] : List UInt8)) = true := bne_iff_ne.mpr c14
          by_cases c15 : a0.toList = ([105, 110, 102, 105, 120, 108] : List UInt8)
          · rw [if_pos c15] at H
            have c15b0 : (a0.toList == ([105, 110, 102, 105, 120, 108] : List UInt8)) = true := beq_iff_eq.mpr c15
            have c15b1 : (a0.toList != ([105, 110, 102, 105, 120, 108] : List UInt8)) = false := bne_eq_false_iff_eq.mpr c15
            clear c15
            obtain rfl := Option.some.inj H
            go_wp2
            go_ret
            exact ⟨by first | rfl | (simp; done) | (simp [*]; done), by repeat (first | exact Drawn0.refl _ | apply Drawn0.step)⟩
          · rw [if_neg c15] at H
            have c15b0 : (a0.toList == ([105, 110, 102, 105, 120, 108] : List UInt8)) = false := beq_eq_false_iff_ne.mpr c15
            have c15b1 : (a0.toList != ([105, 110, 102, 105, 120, 108] : List UInt8)) = true := bne_iff_ne.mpr c15
            by_cases c16 : a0.toList = ([105, 110, 102, 105, 120, 114] : List UInt8)
            · rw [if_pos c16] at H
              have c16b0 : (a0.toList == ([105, 110, 102, 105, 120, 114] : List UInt8)) = true := beq_iff_eq.mpr c16
              have c16b1 : (a0.toList != ([105, 110, 102, 105, 120, 114] : List UInt8)) = false := bne_eq_false_iff_eq.mpr c16
              clear c16
              obtain rfl := Option.some.inj H
              go_wp2
              go_ret
              exact ⟨by first | rfl | (simp; done) | (simp [*]; done), by repeat (first | exact Drawn0.refl _ | apply Drawn0.step)⟩
            · rw [if_neg c16] at H
              have c16b0 : (a0.toList == ([105, 110, 102, 105, 120, 114] : List UInt8)) = false := beq_eq_false_iff_ne.mpr c16
              have c16b1 : (a0.toList != ([105, 110, 102, 105, 120, 114] : List UInt8)) = true := bne_iff_ne.mpr c16
              by_cases c17 : a0.toList = ([105, 110, 115, 116, 97, 110, 99, 101] : List UInt8)
              · rw [if_pos c17] at H
                have c17b0 : (a0.toList == ([105, 110, 115, 116, 97, 110, 99, 101] : List UInt8)) = true := beq_iff_eq.mpr c17
                have c17b1 : (a0.toList != ([105, 110, 115, 116, 97, 110, 99, 101] : List UInt8)) = false := bne_eq_false_iff_eq.mpr c17
                clear c17
                obtain rfl := Option.some.inj H
                go_wp2
                go_ret
                exact ⟨by first | rfl | (simp; done) | (simp [*]; done), by repeat (first | exact Drawn0.refl _ | apply Drawn0.step)⟩
              · rw [if_neg c17] at H
                have c17b0 : (a0.toList == ([105, 110, 115, 116, 97, 110, 99, 101] : List UInt8)) = false := beq_eq_false_iff_ne.mpr c17
                have c17b1 : (a0.toList != ([105, 110, 115, 116, 97, 110, 99, 101] : List UInt8)) = true := bne_iff_ne.mpr c17
                by_cases c18 : a0.toList = ([108, 101, 116] : List UInt8)
                · rw [if_pos c18] at H
                  have c18b0 : (a0.toList == ([108, 101, 116] : List UInt8)) = true := beq_iff_eq.mpr c18
                  have c18b1 : (a0.toList != ([108, 101, 116] : List UInt8)) = false := bne_eq_false_iff_eq.mpr c18
                  clear c18
                  obtain rfl := Option.some.inj H
                  go_wp2
                  go_ret
                  exact ⟨by first | rfl | (simp; done) | (simp [*]; done), by repeat (first | exact Drawn0.refl _ | apply Drawn0.step)⟩
                · rw [if_neg c18] at H
                  have c18b0 : (a0.toList == ([108, 101, 116] : List UInt8)) = false := beq_eq_false_iff_ne.mpr c18
                  have c18b1 : (a0.toList != ([108, 101, 116] : List UInt8)) = true := bne_iff_ne.mpr c18
                  by_cases c19 : a0.toList = ([109, 111, 100, 117, 108, 101] : List UInt8)
                  · rw [if_pos c19] at H
                    have c19b0 : (a0.toList == ([109, 111, 100, 117, 108, 101] : List UInt8)) = true := beq_iff_eq.mpr c19
                    have c19b1 : (a0.toList != ([109, 111, 100, 117, 108, 101] : List UInt8)) = false := bne_eq_false_iff_eq.mpr c19
                    clear c19
                    obtain rfl := Option.some.inj H
                    go_wp2
                    go_ret
                    exact ⟨by first | rfl | (simp; done) | (simp [*]; done), by repeat (first | exact Drawn0.refl _ | apply Drawn0.step)⟩
                  · rw [if_neg c19] at H
                    have c19b0 : (a0.toList == ([109, 111, 100, 117, 108, 101] : List UInt8)) = false := beq_eq_false_iff_ne.mpr c19
                    have c19b1 : (a0.toList != ([109, 111, 100, 117, 108, 101] : List UInt8)) = true := bne_iff_ne.mpr c19
                    by_cases c20 : a0.toList = ([111, 102] : List UInt8)
                    · rw [if_pos c20] at H
                      have c20b0 : (a0.toList == ([111, 102] : List UInt8)) = true := beq_iff_eq.mpr c20
                      have c20b1 : (a0.toList != ([111, 102] : List UInt8)) = false := bne_eq_false_iff_eq.mpr c20
                      clear c20
                      obtain rfl := Option.some.inj H
                      go_wp2
                      go_ret
                      exact ⟨by first | rfl | (simp; done) | (simp [*]; done), by repeat (first | exact Drawn0.refl _ | apply Drawn0.step)⟩
                    · rw [if_neg c20] at H
                      have c20b0 : (a0.toList == ([111, 102] : List UInt8)) = false := beq_eq_false_iff_ne.mpr c20
                      have c20b1 : (a0.toList != ([111, 102] : List UInt8)) = true := bne_iff_ne.mpr c20
                      by_cases c21 : a0.toList = ([113, 117, 97, 108, 105, 102, 105, 101, 100] : List UInt8)
                      · rw [if_pos c21] at H
                        have c21b0 : (a0.toList == ([113, 117, 97, 108, 105, 102, 105, 101, 100] : List UInt8)) = true := beq_iff_eq.mpr c21
                        have c21b1 : (a0.toList != ([113, 117, 97, 108, 105, 102, 105, 101, 100] : List UInt8)) = false := bne_eq_false_iff_eq.mpr c21
                        clear c21
                        obtain rfl := Option.some.inj H
                        go_wp2
                        go_ret
                        exact ⟨by first | rfl | (simp; done) | (simp [*]; done), by repeat (first | exact Drawn0.refl _ | apply Drawn0.step)⟩
                      · rw [if_neg c21] at H
                        have c21b0 : (a0.toList == ([113, 117, 97, 108, 105, 102, 105, 101, 100] : List UInt8)) = false := beq_eq_false_iff_ne.mpr c21
                        have c21b1 : (a0.toList != ([113, 117, 97, 108, 105, 102, 105, 101, 100] : List UInt8)) = true := bne_iff_ne.mpr c21
                        by_cases c22 : a0.toList = ([116, 104, 101, 110] : List UInt8)
                        · rw [if_pos c22] at H
                          have c22b0 : (a0.toList == ([116, 104, 101, 110] : List UInt8)) = true := beq_iff_eq.mpr c22
                          have c22b1 : (a0.toList != ([116, 104, 101, 110] : List UInt8)) = false := bne_eq_false_iff_eq.mpr c22
                          clear c22
                          obtain rfl := Option.some.inj H
                          go_wp2
                          go_ret
                          exact ⟨by first | rfl | (simp; done) | (simp [*]; done), by repeat (first | exact Drawn0.refl _ | apply Drawn0.step)⟩
                        · rw [if_neg c22] at H
                          have c22b0 : (a0.toList == ([116, 104, 101, 110] : List UInt8)) = false := beq_eq_false_iff_ne.mpr c22
                          have c22b1 : (a0.toList != ([116, 104, 101, 110] : List UInt8)) = true := bne_iff_ne.mpr c22
                          by_cases c23 : a0.toList = ([119, 104, 101, 114, 101] : List UInt8)
                          · rw [if_pos c23] at H
                            have c23b0 : (a0.toList == ([119, 104, 101, 114, 101] : List UInt8)) = true := beq_iff_eq.mpr c23
                            have c23b1 : (a0.toList != ([119, 104, 101, 114, 101] : List UInt8)) = false := bne_eq_false_iff_eq.mpr c23
                            clear c23
                            obtain rfl := Option.some.inj H
                            go_wp2
                            go_ret
                            exact ⟨by first | rfl | (simp; done) | (simp [*]; done), by repeat (first | exact Drawn0.refl _ | apply Drawn0.step)⟩
                          · rw [if_neg c23] at H
                            have c23b0 : (a0.toList == ([119, 104, 101, 114, 101] : List UInt8)) = false := beq_eq_false_iff_ne.mpr c23
                            have c23b1 : (a0.toList != ([119, 104, 101, 114, 101] : List UInt8)) = true := bne_iff_ne.mpr c23
                            by_cases c24 : a0.toList = ([95] : List UInt8)
                            · rw [if_pos c24] at H
                              have c24b0 : (a0.toList == ([95] : List UInt8)) = true := beq_iff_eq.mpr c24
                              have c24b1 : (a0.toList != ([95] : List UInt8)) = false := bne_eq_false_iff_eq.mpr c24
                              clear c24
                              obtain rfl := Option.some.inj H
                              go_wp2
                              go_ret
                              exact ⟨by first | rfl | (simp; done) | (simp [*]; done), by repeat (first | exact Drawn0.refl _ | apply Drawn0.step)⟩
                            · rw [if_neg c24] at H
                              have c24b0 : (a0.toList == ([95] : List UInt8)) = false := beq_eq_false_iff_ne.mpr c24
                              have c24b1 : (a0.toList != ([95] : List UInt8)) = true := bne_iff_ne.mpr c24
                              obtain rfl := Option.some.inj H
                              go_wp2
                              go_ret
                              exact ⟨by first | rfl | (simp; done) | (simp [*]; done), by repeat (first | exact Drawn0.refl _ | apply Drawn0.step)⟩

/-! ### lazycref01_symbol: function 56 -/
mutual
noncomputable def lazycref01_symbol.j0 : Nat → ByteArray → Bool → Option (Bool)
  | 0, _, _ => none
  | k + 1, x0, x12 => if x12 = true then (some false) else (lazycref01_symbol.l0 k x0 0 0)
noncomputable def lazycref01_symbol.l0 : Nat → ByteArray → Int → Int → Option (Bool)
  | 0, _, _, _ => none
  | k + 1, x0, x3, x4 => if x4 < (x0.size : Int) then (if 0 ≤ x4 then ((lazycref01_Symbolic.f (bt x0 x4)).bind fun t140 => (if t140 = true then (if (bt x0 x4) = 45 then (lazycref01_symbol.l0 k x0 (wrap64 (x3 + 1)) (wrap64 (x4 + 1))) else (lazycref01_symbol.l0 k x0 x3 (wrap64 (x4 + 1)))) else (some false))) else (none)) else (if x3 < (x0.size : Int) then (some true) else (some ((x0.size : Int) == 1)))
end
noncomputable def lazycref01_symbol.f (k : Nat) (a0 : ByteArray) : Option (Bool) := if (a0.size : Int) < 1 then (lazycref01_symbol.j0 k a0 true) else (lazycref01_symbol.j0 k a0 (decide ((a0.size : Int) > 64)))
theorem lazycref01_symbol.mono_l : ∀ k, (∀ y0 y1, LeO (lazycref01_symbol.j0 k y0 y1) (lazycref01_symbol.j0 (k + 1) y0 y1)) ∧ (∀ y0 y1 y2, LeO (lazycref01_symbol.l0 k y0 y1 y2) (lazycref01_symbol.l0 (k + 1) y0 y1 y2))
  | 0 => ⟨fun _ _ r h => by simp [lazycref01_symbol.j0] at h, fun _ _ _ r h => by simp [lazycref01_symbol.l0] at h⟩
  | k + 1 => by
    obtain ⟨ih0, ih1⟩ := lazycref01_symbol.mono_l k
    refine ⟨?_, ?_⟩
    · intro y0 y1
      unfold lazycref01_symbol.j0
      repeat' first
      | (with_reducible exact ih0 _ _)
      | (with_reducible exact ih1 _ _ _)
      | (with_reducible exact LeO.refl _)
      | (with_reducible exact LeO.none _)
      | (with_reducible refine LeO.ite ?_ ?_)
      | (with_reducible refine LeO.bind ?_ (fun _ => ?_))
      | exact ih0 _ _
      | exact ih1 _ _ _
      | exact LeO.none _
      | refine LeO.ite ?_ ?_
      | refine LeO.bind ?_ (fun _ => ?_)
    · intro y0 y1 y2
      unfold lazycref01_symbol.l0
      repeat' first
      | (with_reducible exact ih0 _ _)
      | (with_reducible exact ih1 _ _ _)
      | (with_reducible exact LeO.refl _)
      | (with_reducible exact LeO.none _)
      | (with_reducible refine LeO.ite ?_ ?_)
      | (with_reducible refine LeO.bind ?_ (fun _ => ?_))
      | exact ih0 _ _
      | exact ih1 _ _ _
      | exact LeO.none _
      | refine LeO.ite ?_ ?_
      | refine LeO.bind ?_ (fun _ => ?_)
theorem lazycref01_symbol.mono : ∀ a0 k, LeO (lazycref01_symbol.f k a0) (lazycref01_symbol.f (k + 1) a0) := by
  intro a0 k
  obtain ⟨ih0, ih1⟩ := lazycref01_symbol.mono_l k
  unfold lazycref01_symbol.f
  repeat' first
      | (with_reducible exact ih0 _ _)
      | (with_reducible exact ih1 _ _ _)
      | (with_reducible exact LeO.refl _)
      | (with_reducible exact LeO.none _)
      | (with_reducible refine LeO.ite ?_ ?_)
      | (with_reducible refine LeO.bind ?_ (fun _ => ?_))
      | exact ih0 _ _
      | exact ih1 _ _ _
      | exact LeO.none _
      | refine LeO.ite ?_ ?_
      | refine LeO.bind ?_ (fun _ => ?_)
set_option maxHeartbeats 8000000 in
set_option maxRecDepth 100000 in
theorem lazycref01_symbol.calls (k : Nat) (a0 : ByteArray) (r : Bool) (w : World) (h : lazycref01_symbol.f k a0 = some r) :
    Calls Tryd.prog 56 #[.string a0] w fun e w' => e = .returned (.bool r) ∧ Drawn0 w w' := by
  have H : (if (a0.size : Int) < 1 then (lazycref01_symbol.j0 k a0 true) else (lazycref01_symbol.j0 k a0 (decide ((a0.size : Int) > 64)))) = some r := h
  clear h
  have HC2 := Aside0.mk H
  clear H
  go_enter Tryd.func56, Tryd.ntmps56
  go_upto_region 1 with (fail)
  go_cut [12] (fun v12 wc => ∃ (kq : Nat) (x12_1 : Bool), v12 = .bool x12_1 ∧ Aside0 (lazycref01_symbol.j0 kq a0 x12_1 = some r) ∧ Aside0 (kq ≤ k) ∧ Drawn0 w wc)
  case first =>
    have H := HC2.out
    clear HC2
    by_cases c3 : (a0.size : Int) < 1
    · rw [if_pos c3] at H
      have c3b0 : decide ((a0.size : Int) < 1) = true := decide_eq_true c3
      have c3b1 : decide (a0.size < 1) = true := decide_eq_true (by omega)
      clear c3
      (first | rw [c3b0] | (simp only [i64_w, i32_w]; rw [c3b0]) | skip)
      have H' := Aside0.mk H
      clear H
      go_wp2
      go_meet
      case rel => exact ⟨_, (true), (by first | rfl | (simp; done) | (simp [*]; done)), H', ⟨by first | omega | exact Nat.le_refl _⟩, by repeat (first | exact Drawn0.refl _ | apply Drawn0.step)⟩
    · rw [if_neg c3] at H
      have c3b0 : decide ((a0.size : Int) < 1) = false := decide_eq_false c3
      have c3b1 : decide (a0.size < 1) = false := decide_eq_false (by omega)
      clear c3
      (first | rw [c3b0] | (simp only [i64_w, i32_w]; rw [c3b0]) | skip)
      have H' := Aside0.mk H
      clear H
      go_wp2
      go_meet
      case rel => exact ⟨_, (decide ((a0.size : Int) > 64)), (by first | rfl | (simp; done) | (simp [*]; done)), H', ⟨by first | omega | exact Nat.le_refl _⟩, by repeat (first | exact Drawn0.refl _ | apply Drawn0.step)⟩
  case rest =>
    clear HC2
    try clear p2
    try clear c3
    try clear c3b0
    try clear c3b1
    obtain ⟨kq, x12_1, rfl, HA, HJ1, ⟨mc1, rfl⟩⟩ := hcut
    cases kq with
    | zero => exact absurd HA.out (by simp [lazycref01_symbol.j0])
    | succ kj1 =>
      have H := HA.out
      clear HA
      simp only [lazycref01_symbol.j0] at H
      by_cases c4 : x12_1 = true
      · subst c4
        have H1 : (some false) = some r := by rw [if_pos rfl] at H; exact H
        clear H
        have H := H1
        clear H1
        obtain rfl := Option.some.inj H
        go_wp2
        go_ret
        exact ⟨by first | rfl | (simp; done) | (simp [*]; done), by repeat (first | exact Drawn0.refl _ | apply Drawn0.step)⟩
      · replace c4 := Bool.eq_false_iff.mpr c4
        subst c4
        have H1 : (lazycref01_symbol.l0 kj1 a0 0 0) = some r := by rw [if_neg (show ¬ (false = true) by decide)] at H; exact H
        clear H
        have H := H1
        clear H1
        have H' := Aside0.mk H
        clear H
        go_wp2
        go_loopg [3, 4] kj1 (fun kq v3 v4 w' => ∃ (x3_2 : Int) (x4_2 : Int), v3 = .int .i64 x3_2 ∧ v4 = .int .i64 x4_2 ∧ Aside0 (lazycref01_symbol.l0 kq a0 x3_2 x4_2 = some r) ∧ Aside0 (kq ≤ kj1) ∧ Drawn0 w w')
        case atStart => exact ⟨(0), (0), (by first | rfl | (simp; done) | (simp [*]; done)), (by first | rfl | (simp; done) | (simp [*]; done)), H', ⟨Nat.le_refl _⟩, by repeat (first | exact Drawn0.refl _ | apply Drawn0.step)⟩
        case round =>
          clear H'
          try clear c1
          try clear p2
          try clear c3
          try clear c3b0
          try clear c3b1
          try clear c4
          try clear p2
          obtain ⟨x3_2, x4_2, rfl, rfl, HA, HK2, ⟨m2, rfl⟩⟩ := hrel
          cases gk with
          | zero => exact absurd HA.out (by simp [lazycref01_symbol.l0])
          | succ k2 =>
            have H := HA.out
            clear HA
            simp only [lazycref01_symbol.l0] at H
            by_cases c5 : x4_2 < (a0.size : Int)
            · rw [if_pos c5] at H
              have c5b0 : decide (x4_2 < (a0.size : Int)) = true := decide_eq_true c5
              clear c5
              by_cases c6 : 0 ≤ x4_2
              · rw [if_pos c6] at H
                have c6b0 : decide (0 ≤ x4_2) = true := decide_eq_true c6
                clear c6
                replace H := Option.bind_eq_some_iff.mp H
                obtain ⟨t140, A80, H⟩ := H
                replace H : (if t140 = true then (if (bt a0 x4_2) = 45 then (lazycref01_symbol.l0 k2 a0 (wrap64 (x3_2 + 1)) (wrap64 (x4_2 + 1))) else (lazycref01_symbol.l0 k2 a0 x3_2 (wrap64 (x4_2 + 1)))) else (some false)) = some r := H
                have A8 := Aside0.mk A80
                clear A80
                by_cases c9 : t140 = true
                · subst c9
                  have H1 : (if (bt a0 x4_2) = 45 then (lazycref01_symbol.l0 k2 a0 (wrap64 (x3_2 + 1)) (wrap64 (x4_2 + 1))) else (lazycref01_symbol.l0 k2 a0 x3_2 (wrap64 (x4_2 + 1)))) = some r := by rw [if_pos rfl] at H; exact H
                  clear H
                  have H := H1
                  clear H1
                  by_cases c11 : (bt a0 x4_2) = 45
                  · rw [if_pos c11] at H
                    have c11b0 : ((bt a0 x4_2) == 45) = true := beq_iff_eq.mpr c11
                    have c11b1 : ((bt a0 x4_2) != 45) = false := bne_eq_false_iff_eq.mpr c11
                    clear c11
                    have H' := Aside0.mk H
                    clear H
                    have p7 : 0 ≤ (x4_2 : Int) := of_decide_eq_true (by first | (with_reducible assumption) | assumption)
                    have q7 : x4_2 < (a0.size : Int) := of_decide_eq_true (by first | (with_reducible assumption) | assumption)
                    have hx7 := bt_at a0 x4_2
                    replace p7 := eq_true p7
                    replace q7 := eq_true q7
                    go_wp2_with (first | ((with_reducible refine gate_callee (f := 67) rfl ?_); refine goesL_ (some 22) rfl rfl Tryd.func67 (by kernel_rfl) rfl #[.int .u8 (bt a0 x4_2)] rfl (by (try simp only [List.map_toArray, List.map_cons, List.map_nil]); first | done | rfl | (simp only [List.length_drop, List.length_take]; rfl)) ?_; (with_reducible refine (lazycref01_Symbolic.calls (bt a0 x4_2) true _ A8.out).mono ?_); rintro e w' ⟨rfl, ⟨nd, rfl⟩⟩; refine ⟨_, rfl, ?_⟩; have p10 : 0 ≤ (x4_2 : Int) := of_decide_eq_true (by first | (with_reducible assumption) | assumption); have q10 : x4_2 < (a0.size : Int) := of_decide_eq_true (by first | (with_reducible assumption) | assumption); have hx10 := bt_at a0 x4_2; replace p10 := eq_true p10; replace q10 := eq_true q10))
                    go_roundg k2
                    case measure => have := HJ1.out; have := HK2.out; omega
                    case rel => exact ⟨(wrap64 (x3_2 + 1)), (wrap64 (x4_2 + 1)), (by first | rfl | (simp; done) | (simp [*]; done)), (by first | rfl | (simp; done) | (simp [*]; done)), H', ⟨by have := HJ1.out; have := HK2.out; omega⟩, by repeat (first | exact Drawn0.refl _ | apply Drawn0.step)⟩
                  · rw [if_neg c11] at H
                    have c11b0 : ((bt a0 x4_2) == 45) = false := beq_eq_false_iff_ne.mpr c11
                    have c11b1 : ((bt a0 x4_2) != 45) = true := bne_iff_ne.mpr c11
                    have H' := Aside0.mk H
                    clear H
                    have p7 : 0 ≤ (x4_2 : Int) := of_decide_eq_true (by first | (with_reducible assumption) | assumption)
                    have q7 : x4_2 < (a0.size : Int) := of_decide_eq_true (by first | (with_reducible assumption) | assumption)
                    have hx7 := bt_at a0 x4_2
                    replace p7 := eq_true p7
                    replace q7 := eq_true q7
                    go_wp2_with (first | ((with_reducible refine gate_callee (f := 67) rfl ?_); refine goesL_ (some 22) rfl rfl Tryd.func67 (by kernel_rfl) rfl #[.int .u8 (bt a0 x4_2)] rfl (by (try simp only [List.map_toArray, List.map_cons, List.map_nil]); first | done | rfl | (simp only [List.length_drop, List.length_take]; rfl)) ?_; (with_reducible refine (lazycref01_Symbolic.calls (bt a0 x4_2) true _ A8.out).mono ?_); rintro e w' ⟨rfl, ⟨nd, rfl⟩⟩; refine ⟨_, rfl, ?_⟩; have p10 : 0 ≤ (x4_2 : Int) := of_decide_eq_true (by first | (with_reducible assumption) | assumption); have q10 : x4_2 < (a0.size : Int) := of_decide_eq_true (by first | (with_reducible assumption) | assumption); have hx10 := bt_at a0 x4_2; replace p10 := eq_true p10; replace q10 := eq_true q10))
                    go_roundg k2
                    case measure => have := HJ1.out; have := HK2.out; omega
                    case rel => exact ⟨(x3_2), (wrap64 (x4_2 + 1)), (by first | rfl | (simp; done) | (simp [*]; done)), (by first | rfl | (simp; done) | (simp [*]; done)), H', ⟨by have := HJ1.out; have := HK2.out; omega⟩, by repeat (first | exact Drawn0.refl _ | apply Drawn0.step)⟩
                · replace c9 := Bool.eq_false_iff.mpr c9
                  subst c9
                  have H1 : (some false) = some r := by rw [if_neg (show ¬ (false = true) by decide)] at H; exact H
                  clear H
                  have H := H1
                  clear H1
                  obtain rfl := Option.some.inj H
                  have p7 : 0 ≤ (x4_2 : Int) := of_decide_eq_true (by first | (with_reducible assumption) | assumption)
                  have q7 : x4_2 < (a0.size : Int) := of_decide_eq_true (by first | (with_reducible assumption) | assumption)
                  have hx7 := bt_at a0 x4_2
                  replace p7 := eq_true p7
                  replace q7 := eq_true q7
                  go_wp2_with (first | ((with_reducible refine gate_callee (f := 67) rfl ?_); refine goesL_ (some 22) rfl rfl Tryd.func67 (by kernel_rfl) rfl #[.int .u8 (bt a0 x4_2)] rfl (by (try simp only [List.map_toArray, List.map_cons, List.map_nil]); first | done | rfl | (simp only [List.length_drop, List.length_take]; rfl)) ?_; (with_reducible refine (lazycref01_Symbolic.calls (bt a0 x4_2) false _ A8.out).mono ?_); rintro e w' ⟨rfl, ⟨nd, rfl⟩⟩; refine ⟨_, rfl, ?_⟩))
                  go_ret
                  exact ⟨by first | rfl | (simp; done) | (simp [*]; done), by repeat (first | exact Drawn0.refl _ | apply Drawn0.step)⟩
              · rw [if_neg c6] at H
                exact absurd H (by simp)
            · rw [if_neg c5] at H
              have c5b0 : decide (x4_2 < (a0.size : Int)) = false := decide_eq_false c5
              clear c5
              by_cases c12 : x3_2 < (a0.size : Int)
              · rw [if_pos c12] at H
                have c12b0 : decide (x3_2 < (a0.size : Int)) = true := decide_eq_true c12
                clear c12
                obtain rfl := Option.some.inj H
                go_wp2
                go_ret
                exact ⟨by first | rfl | (simp; done) | (simp [*]; done), by repeat (first | exact Drawn0.refl _ | apply Drawn0.step)⟩
              · rw [if_neg c12] at H
                have c12b0 : decide (x3_2 < (a0.size : Int)) = false := decide_eq_false c12
                clear c12
                obtain rfl := Option.some.inj H
                go_wp2
                go_ret
                exact ⟨by first | rfl | (simp; done) | (simp [*]; done), by repeat (first | exact Drawn0.refl _ | apply Drawn0.step)⟩

/-! ### lazycref01_ReservedSymbol: function 57 -/
noncomputable def lazycref01_ReservedSymbol.f (a0 : ByteArray) : Option (Bool) := if a0.toList = ([46, 46] : List UInt8) then (some true) else (if a0.toList = ([58, 58] : List UInt8) then (some true) else (if a0.toList = ([61] : List UInt8) then (some true) else (if a0.toList = ([92] : List UInt8) then (some true) else (if a0.toList = ([124] : List UInt8) then (some true) else (if a0.toList = ([60, 45] : List UInt8) then (some true) else (if a0.toList = ([45, 62] : List UInt8) then (some true) else (if a0.toList = ([64] : List UInt8) then (some true) else (if a0.toList = ([126] : List UInt8) then (some true) else (if a0.toList = ([61, 62] : List UInt8) then (some true) else (some false))))))))))
set_option maxHeartbeats 8000000 in
set_option maxRecDepth 100000 in
theorem lazycref01_ReservedSymbol.calls (a0 : ByteArray) (r : Bool) (w : World) (h : lazycref01_ReservedSymbol.f a0 = some r) :
    Calls Tryd.prog 57 #[.string a0] w fun e w' => e = .returned (.bool r) ∧ Drawn0 w w' := by
  have H : (if a0.toList = ([46, 46] : List UInt8) then (some true) else (if a0.toList = ([58, 58] : List UInt8) then (some true) else (if a0.toList = ([61] : List UInt8) then (some true) else (if a0.toList = ([92] : List UInt8) then (some true) else (if a0.toList = ([124] : List UInt8) then (some true) else (if a0.toList = ([60, 45] : List UInt8) then (some true) else (if a0.toList = ([45, 62] : List UInt8) then (some true) else (if a0.toList = ([64] : List UInt8) then (some true) else (if a0.toList = ([126] : List UInt8) then (some true) else (if a0.toList = ([61, 62] : List UInt8) then (some true) else (some false))))))))))) = some r := h
  clear h
  by_cases c2 : a0.toList = ([46, 46] : List UInt8)
  · rw [if_pos c2] at H
    have c2b0 : (a0.toList == ([46, 46] : List UInt8)) = true := beq_iff_eq.mpr c2
    have c2b1 : (a0.toList != ([46, 46] : List UInt8)) = false := bne_eq_false_iff_eq.mpr c2
    clear c2
    obtain rfl := Option.some.inj H
    go_enter Tryd.func57, Tryd.ntmps57
    go_wp2
    go_ret
    exact ⟨by first | rfl | (simp; done) | (simp [*]; done), by repeat (first | exact Drawn0.refl _ | apply Drawn0.step)⟩
  · rw [if_neg c2] at H
    have c2b0 : (a0.toList == ([46, 46] : List UInt8)) = false := beq_eq_false_iff_ne.mpr c2
    have c2b1 : (a0.toList != ([46, 46] : List UInt8)) = true := bne_iff_ne.mpr c2
    by_cases c3 : a0.toList = ([58, 58] : List UInt8)
    · rw [if_pos c3] at H
      have c3b0 : (a0.toList == ([58, 58] : List UInt8)) = true := beq_iff_eq.mpr c3
      have c3b1 : (a0.toList != ([58, 58] : List UInt8)) = false := bne_eq_false_iff_eq.mpr c3
      clear c3
      obtain rfl := Option.some.inj H
      go_enter Tryd.func57, Tryd.ntmps57
      go_wp2
      go_ret
      exact ⟨by first | rfl | (simp; done) | (simp [*]; done), by repeat (first | exact Drawn0.refl _ | apply Drawn0.step)⟩
    · rw [if_neg c3] at H
      have c3b0 : (a0.toList == ([58, 58] : List UInt8)) = false := beq_eq_false_iff_ne.mpr c3
      have c3b1 : (a0.toList != ([58, 58] : List UInt8)) = true := bne_iff_ne.mpr c3
      by_cases c4 : a0.toList = ([61] : List UInt8)
      · rw [if_pos c4] at H
        have c4b0 : (a0.toList == ([61] : List UInt8)) = true := beq_iff_eq.mpr c4
        have c4b1 : (a0.toList != ([61] : List UInt8)) = false := bne_eq_false_iff_eq.mpr c4
        clear c4
        obtain rfl := Option.some.inj H
        go_enter Tryd.func57, Tryd.ntmps57
        go_wp2
        go_ret
        exact ⟨by first | rfl | (simp; done) | (simp [*]; done), by repeat (first | exact Drawn0.refl _ | apply Drawn0.step)⟩
      · rw [if_neg c4] at H
        have c4b0 : (a0.toList == ([61] : List UInt8)) = false := beq_eq_false_iff_ne.mpr c4
        have c4b1 : (a0.toList != ([61] : List UInt8)) = true := bne_iff_ne.mpr c4
        by_cases c5 : a0.toList = ([92] : List UInt8)
        · rw [if_pos c5] at H
          have c5b0 : (a0.toList == ([92] : List UInt8)) = true := beq_iff_eq.mpr c5
          have c5b1 : (a0.toList != ([92] : List UInt8)) = false := bne_eq_false_iff_eq.mpr c5
          clear c5
          obtain rfl := Option.some.inj H
          go_enter Tryd.func57, Tryd.ntmps57
          go_wp2
          go_ret
          exact ⟨by first | rfl | (simp; done) | (simp [*]; done), by repeat (first | exact Drawn0.refl _ | apply Drawn0.step)⟩
        · rw [if_neg c5] at H
          have c5b0 : (a0.toList == ([92] : List UInt8)) = false := beq_eq_false_iff_ne.mpr c5
          have c5b1 : (a0.toList != ([92] : List UInt8)) = true := bne_iff_ne.mpr c5
          by_cases c6 : a0.toList = ([124] : List UInt8)
          · rw [if_pos c6] at H
            have c6b0 : (a0.toList == ([124] : List UInt8)) = true := beq_iff_eq.mpr c6
            have c6b1 : (a0.toList != ([124] : List UInt8)) = false := bne_eq_false_iff_eq.mpr c6
            clear c6
            obtain rfl := Option.some.inj H
            go_enter Tryd.func57, Tryd.ntmps57
            go_wp2
            go_ret
            exact ⟨by first | rfl | (simp; done) | (simp [*]; done), by repeat (first | exact Drawn0.refl _ | apply Drawn0.step)⟩
          · rw [if_neg c6] at H
            have c6b0 : (a0.toList == ([124] : List UInt8)) = false := beq_eq_false_iff_ne.mpr c6
            have c6b1 : (a0.toList != ([124] : List UInt8)) = true := bne_iff_ne.mpr c6
            by_cases c7 : a0.toList = ([60, 45] : List UInt8)
            · rw [if_pos c7] at H
              have c7b0 : (a0.toList == ([60, 45] : List UInt8)) = true := beq_iff_eq.mpr c7
              have c7b1 : (a0.toList != ([60, 45] : List UInt8)) = false := bne_eq_false_iff_eq.mpr c7
              clear c7
              obtain rfl := Option.some.inj H
              go_enter Tryd.func57, Tryd.ntmps57
              go_wp2
              go_ret
              exact ⟨by first | rfl | (simp; done) | (simp [*]; done), by repeat (first | exact Drawn0.refl _ | apply Drawn0.step)⟩
            · rw [if_neg c7] at H
              have c7b0 : (a0.toList == ([60, 45] : List UInt8)) = false := beq_eq_false_iff_ne.mpr c7
              have c7b1 : (a0.toList != ([60, 45] : List UInt8)) = true := bne_iff_ne.mpr c7
              by_cases c8 : a0.toList = ([45, 62] : List UInt8)
              · rw [if_pos c8] at H
                have c8b0 : (a0.toList == ([45, 62] : List UInt8)) = true := beq_iff_eq.mpr c8
                have c8b1 : (a0.toList != ([45, 62] : List UInt8)) = false := bne_eq_false_iff_eq.mpr c8
                clear c8
                obtain rfl := Option.some.inj H
                go_enter Tryd.func57, Tryd.ntmps57
                go_wp2
                go_ret
                exact ⟨by first | rfl | (simp; done) | (simp [*]; done), by repeat (first | exact Drawn0.refl _ | apply Drawn0.step)⟩
              · rw [if_neg c8] at H
                have c8b0 : (a0.toList == ([45, 62] : List UInt8)) = false := beq_eq_false_iff_ne.mpr c8
                have c8b1 : (a0.toList != ([45, 62] : List UInt8)) = true := bne_iff_ne.mpr c8
                by_cases c9 : a0.toList = ([64] : List UInt8)
                · rw [if_pos c9] at H
                  have c9b0 : (a0.toList == ([64] : List UInt8)) = true := beq_iff_eq.mpr c9
                  have c9b1 : (a0.toList != ([64] : List UInt8)) = false := bne_eq_false_iff_eq.mpr c9
                  clear c9
                  obtain rfl := Option.some.inj H
                  go_enter Tryd.func57, Tryd.ntmps57
                  go_wp2
                  go_ret
                  exact ⟨by first | rfl | (simp; done) | (simp [*]; done), by repeat (first | exact Drawn0.refl _ | apply Drawn0.step)⟩
                · rw [if_neg c9] at H
                  have c9b0 : (a0.toList == ([64] : List UInt8)) = false := beq_eq_false_iff_ne.mpr c9
                  have c9b1 : (a0.toList != ([64] : List UInt8)) = true := bne_iff_ne.mpr c9
                  by_cases c10 : a0.toList = ([126] : List UInt8)
                  · rw [if_pos c10] at H
                    have c10b0 : (a0.toList == ([126] : List UInt8)) = true := beq_iff_eq.mpr c10
                    have c10b1 : (a0.toList != ([126] : List UInt8)) = false := bne_eq_false_iff_eq.mpr c10
                    clear c10
                    obtain rfl := Option.some.inj H
                    go_enter Tryd.func57, Tryd.ntmps57
                    go_wp2
                    go_ret
                    exact ⟨by first | rfl | (simp; done) | (simp [*]; done), by repeat (first | exact Drawn0.refl _ | apply Drawn0.step)⟩
                  · rw [if_neg c10] at H
                    have c10b0 : (a0.toList == ([126] : List UInt8)) = false := beq_eq_false_iff_ne.mpr c10
                    have c10b1 : (a0.toList != ([126] : List UInt8)) = true := bne_iff_ne.mpr c10
                    by_cases c11 : a0.toList = ([61, 62] : List UInt8)
                    · rw [if_pos c11] at H
                      have c11b0 : (a0.toList == ([61, 62] : List UInt8)) = true := beq_iff_eq.mpr c11
                      have c11b1 : (a0.toList != ([61, 62] : List UInt8)) = false := bne_eq_false_iff_eq.mpr c11
                      clear c11
                      obtain rfl := Option.some.inj H
                      go_enter Tryd.func57, Tryd.ntmps57
                      go_wp2
                      go_ret
                      exact ⟨by first | rfl | (simp; done) | (simp [*]; done), by repeat (first | exact Drawn0.refl _ | apply Drawn0.step)⟩
                    · rw [if_neg c11] at H
                      have c11b0 : (a0.toList == ([61, 62] : List UInt8)) = false := beq_eq_false_iff_ne.mpr c11
                      have c11b1 : (a0.toList != ([61, 62] : List UInt8)) = true := bne_iff_ne.mpr c11
                      obtain rfl := Option.some.inj H
                      go_enter Tryd.func57, Tryd.ntmps57
                      go_wp2
                      go_ret
                      exact ⟨by first | rfl | (simp; done) | (simp [*]; done), by repeat (first | exact Drawn0.refl _ | apply Drawn0.step)⟩

end Go.Proofs.YtfbhipcfjkkmmaaDoor.P
