-- printed by wip/drv.py, this work's own driver, out of the translation; Lean checks it
import Derived.Test.YtfbhipcfjkkmmaaDoorPx0
import Derived.Test.YtfbhipcfjkkmmaaDoorPx2
import Derived.Test.YtfbhipcfjkkmmaaDoorPx3
import Derived.Test.YtfbhipcfjkkmmaaDoorHAw
import Derived.Test.YtfbhipcfjkkmmaaDoorHBa
namespace Go.Proofs.YtfbhipcfjkkmmaaDoor.P
open Go.RowKit Go.Proofs.YtfbhipcfjkkmmaaDoorW.PrintWords Go.Proofs.YtfbhipcfjkkmmaaDoorW.PrintLast Go.Proofs.YtfbhipcfjkkmmaaDoorW.PrintMore
attribute [local go_sem] max2_int min2_int max_two min_two max_three min_three max_four min_four   -- for this text's walks alone
set_option linter.unusedVariables false
set_option linter.unusedSimpArgs false

/-! ### lazyclaw01_NamesRoundTrip: function 6 -/
mutual
noncomputable def lazyclaw01_NamesRoundTrip.j0 : Nat → ByteArray → ByteArray → Int → Bool → Option (Bool)
  | 0, _, _, _, _ => none
  | k + 1, x0, x1, x2, x31 => if x31 = true then ((lazyclaw01_awake.f).bind fun t188 => (some t188)) else ((names_Join.f k x0 x1).bind fun t189 => (if t189.toList = ([] : List UInt8) then (lazyclaw01_NamesRoundTrip.j1 k x1 x2) else ((names_Split.f k t189).bind fun bt190 => (if bt190.2.2 = true then (if bt190.1.toList = x0.toList then (if bt190.2.1.toList = x1.toList then ((names_Classify.f k t189).bind fun t193 => (if t193 = 0 then (lazyclaw01_NamesRoundTrip.j1 k x1 x2) else (some false))) else (some false)) else (some false)) else (some false)))))
noncomputable def lazyclaw01_NamesRoundTrip.j1 : Nat → ByteArray → Int → Option (Bool)
  | 0, _, _ => none
  | k + 1, x1, x2 => (names_Made.f k x1 x2).bind fun t194 => (if t194.toList = ([] : List UInt8) then (lazyclaw01_NamesRoundTrip.j2 k x1) else ((names_Base.f k t194).bind fun bt195 => ((names_Split.f k t194).bind fun bt198 => (if bt195.2.2 = true then (if bt195.1.toList = x1.toList then (if bt195.2.1 = x2 then (if bt198.2.2 = true then (some false) else ((names_Classify.f k t194).bind fun t201 => (if t201 = 7 then (lazyclaw01_NamesRoundTrip.j2 k x1) else (some false)))) else (some false)) else (some false)) else (some false)))))
noncomputable def lazyclaw01_NamesRoundTrip.j2 : Nat → ByteArray → Option (Bool)
  | 0, _ => none
  | k + 1, x1 => (names_Split.f k x1).bind fun bt202 => ((names_Base.f k x1).bind fun bt205 => (if bt202.2.2 = true then ((names_Join.f k bt202.1 bt202.2.1).bind fun t208 => (if t208.toList = x1.toList then ((names_Classify.f k x1).bind fun t209 => (if t209 = 0 then (if bt205.2.2 = true then (lazyclaw01_NamesRoundTrip.j3 k x1 bt205.2.2 true) else (if bt205.1.toList = ([] : List UInt8) then (lazyclaw01_NamesRoundTrip.j3 k x1 bt205.2.2 (bt205.2.1 != 0)) else (lazyclaw01_NamesRoundTrip.j3 k x1 bt205.2.2 true))) else (lazyclaw01_NamesRoundTrip.j3 k x1 bt205.2.2 true))) else (lazyclaw01_NamesRoundTrip.j3 k x1 bt205.2.2 true))) else (if bt205.2.2 = true then ((names_Made.f k bt205.1 bt205.2.1).bind fun t210 => (if t210.toList = x1.toList then (if bt202.1.toList = ([] : List UInt8) then (if bt202.2.1.toList = ([] : List UInt8) then (lazyclaw01_NamesRoundTrip.j3 k x1 bt205.2.2 false) else (lazyclaw01_NamesRoundTrip.j3 k x1 bt205.2.2 true)) else (lazyclaw01_NamesRoundTrip.j3 k x1 bt205.2.2 true)) else (lazyclaw01_NamesRoundTrip.j3 k x1 bt205.2.2 true))) else (if bt202.1.toList = ([] : List UInt8) then (if bt202.2.1.toList = ([] : List UInt8) then (if bt205.1.toList = ([] : List UInt8) then (lazyclaw01_NamesRoundTrip.j3 k x1 bt205.2.2 (bt205.2.1 != 0)) else (lazyclaw01_NamesRoundTrip.j3 k x1 bt205.2.2 true)) else (lazyclaw01_NamesRoundTrip.j3 k x1 bt205.2.2 true)) else (lazyclaw01_NamesRoundTrip.j3 k x1 bt205.2.2 true)))))
noncomputable def lazyclaw01_NamesRoundTrip.j3 : Nat → ByteArray → Bool → Bool → Option (Bool)
  | 0, _, _, _ => none
  | k + 1, x1, x23, x159 => if x159 = true then (some false) else ((names_Classify.f k x1).bind fun t211 => (if (x23 == (t211 == 7)) = true then ((lazyclaw01_awake.f).bind fun t212 => (some t212)) else (some false)))
end
noncomputable def lazyclaw01_NamesRoundTrip.f (k : Nat) (a0 : ByteArray) (a1 : ByteArray) (a2 : Int) : Option (Bool) := if (a0.size : Int) > 1000 then (lazyclaw01_NamesRoundTrip.j0 k a0 a1 a2 true) else (lazyclaw01_NamesRoundTrip.j0 k a0 a1 a2 (decide ((a1.size : Int) > 1000)))
theorem lazyclaw01_NamesRoundTrip.mono_l : ∀ k, (∀ y0 y1 y2 y3, LeO (lazyclaw01_NamesRoundTrip.j0 k y0 y1 y2 y3) (lazyclaw01_NamesRoundTrip.j0 (k + 1) y0 y1 y2 y3)) ∧ (∀ y0 y1, LeO (lazyclaw01_NamesRoundTrip.j1 k y0 y1) (lazyclaw01_NamesRoundTrip.j1 (k + 1) y0 y1)) ∧ (∀ y0, LeO (lazyclaw01_NamesRoundTrip.j2 k y0) (lazyclaw01_NamesRoundTrip.j2 (k + 1) y0)) ∧ (∀ y0 y1 y2, LeO (lazyclaw01_NamesRoundTrip.j3 k y0 y1 y2) (lazyclaw01_NamesRoundTrip.j3 (k + 1) y0 y1 y2))
  | 0 => ⟨fun _ _ _ _ r h => by simp [lazyclaw01_NamesRoundTrip.j0] at h, fun _ _ r h => by simp [lazyclaw01_NamesRoundTrip.j1] at h, fun _ r h => by simp [lazyclaw01_NamesRoundTrip.j2] at h, fun _ _ _ r h => by simp [lazyclaw01_NamesRoundTrip.j3] at h⟩
  | k + 1 => by
    obtain ⟨ih0, ih1, ih2, ih3⟩ := lazyclaw01_NamesRoundTrip.mono_l k
    refine ⟨?_, ?_, ?_, ?_⟩
    · intro y0 y1 y2 y3
      unfold lazyclaw01_NamesRoundTrip.j0
      repeat' first
      | (with_reducible exact ih0 _ _ _ _)
      | (with_reducible exact ih1 _ _)
      | (with_reducible exact ih2 _)
      | (with_reducible exact ih3 _ _ _)
      | (with_reducible exact names_Base.mono _ _)
      | (with_reducible exact names_Classify.mono _ _)
      | (with_reducible exact names_Join.mono _ _ _)
      | (with_reducible exact names_Made.mono _ _ _)
      | (with_reducible exact names_Split.mono _ _)
      | (with_reducible exact LeO.refl _)
      | (with_reducible exact LeO.none _)
      | (with_reducible refine LeO.ite ?_ ?_)
      | (with_reducible refine LeO.bind ?_ (fun _ => ?_))
      | exact ih0 _ _ _ _
      | exact ih1 _ _
      | exact ih2 _
      | exact ih3 _ _ _
      | exact names_Base.mono _ _
      | exact names_Classify.mono _ _
      | exact names_Join.mono _ _ _
      | exact names_Made.mono _ _ _
      | exact names_Split.mono _ _
      | exact LeO.none _
      | refine LeO.ite ?_ ?_
      | refine LeO.bind ?_ (fun _ => ?_)
    · intro y0 y1
      unfold lazyclaw01_NamesRoundTrip.j1
      repeat' first
      | (with_reducible exact ih0 _ _ _ _)
      | (with_reducible exact ih1 _ _)
      | (with_reducible exact ih2 _)
      | (with_reducible exact ih3 _ _ _)
      | (with_reducible exact names_Base.mono _ _)
      | (with_reducible exact names_Classify.mono _ _)
      | (with_reducible exact names_Join.mono _ _ _)
      | (with_reducible exact names_Made.mono _ _ _)
      | (with_reducible exact names_Split.mono _ _)
      | (with_reducible exact LeO.refl _)
      | (with_reducible exact LeO.none _)
      | (with_reducible refine LeO.ite ?_ ?_)
      | (with_reducible refine LeO.bind ?_ (fun _ => ?_))
      | exact ih0 _ _ _ _
      | exact ih1 _ _
      | exact ih2 _
      | exact ih3 _ _ _
      | exact names_Base.mono _ _
      | exact names_Classify.mono _ _
      | exact names_Join.mono _ _ _
      | exact names_Made.mono _ _ _
      | exact names_Split.mono _ _
      | exact LeO.none _
      | refine LeO.ite ?_ ?_
      | refine LeO.bind ?_ (fun _ => ?_)
    · intro y0
      unfold lazyclaw01_NamesRoundTrip.j2
      repeat' first
      | (with_reducible exact ih0 _ _ _ _)
      | (with_reducible exact ih1 _ _)
      | (with_reducible exact ih2 _)
      | (with_reducible exact ih3 _ _ _)
      | (with_reducible exact names_Base.mono _ _)
      | (with_reducible exact names_Classify.mono _ _)
      | (with_reducible exact names_Join.mono _ _ _)
      | (with_reducible exact names_Made.mono _ _ _)
      | (with_reducible exact names_Split.mono _ _)
      | (with_reducible exact LeO.refl _)
      | (with_reducible exact LeO.none _)
      | (with_reducible refine LeO.ite ?_ ?_)
      | (with_reducible refine LeO.bind ?_ (fun _ => ?_))
      | exact ih0 _ _ _ _
      | exact ih1 _ _
      | exact ih2 _
      | exact ih3 _ _ _
      | exact names_Base.mono _ _
      | exact names_Classify.mono _ _
      | exact names_Join.mono _ _ _
      | exact names_Made.mono _ _ _
      | exact names_Split.mono _ _
      | exact LeO.none _
      | refine LeO.ite ?_ ?_
      | refine LeO.bind ?_ (fun _ => ?_)
    · intro y0 y1 y2
      unfold lazyclaw01_NamesRoundTrip.j3
      repeat' first
      | (with_reducible exact ih0 _ _ _ _)
      | (with_reducible exact ih1 _ _)
      | (with_reducible exact ih2 _)
      | (with_reducible exact ih3 _ _ _)
      | (with_reducible exact names_Base.mono _ _)
      | (with_reducible exact names_Classify.mono _ _)
      | (with_reducible exact names_Join.mono _ _ _)
      | (with_reducible exact names_Made.mono _ _ _)
      | (with_reducible exact names_Split.mono _ _)
      | (with_reducible exact LeO.refl _)
      | (with_reducible exact LeO.none _)
      | (with_reducible refine LeO.ite ?_ ?_)
      | (with_reducible refine LeO.bind ?_ (fun _ => ?_))
      | exact ih0 _ _ _ _
      | exact ih1 _ _
      | exact ih2 _
      | exact ih3 _ _ _
      | exact names_Base.mono _ _
      | exact names_Classify.mono _ _
      | exact names_Join.mono _ _ _
      | exact names_Made.mono _ _ _
      | exact names_Split.mono _ _
      | exact LeO.none _
      | refine LeO.ite ?_ ?_
      | refine LeO.bind ?_ (fun _ => ?_)
theorem lazyclaw01_NamesRoundTrip.mono : ∀ a0 a1 a2 k, LeO (lazyclaw01_NamesRoundTrip.f k a0 a1 a2) (lazyclaw01_NamesRoundTrip.f (k + 1) a0 a1 a2) := by
  intro a0 a1 a2 k
  obtain ⟨ih0, ih1, ih2, ih3⟩ := lazyclaw01_NamesRoundTrip.mono_l k
  unfold lazyclaw01_NamesRoundTrip.f
  repeat' first
      | (with_reducible exact ih0 _ _ _ _)
      | (with_reducible exact ih1 _ _)
      | (with_reducible exact ih2 _)
      | (with_reducible exact ih3 _ _ _)
      | (with_reducible exact names_Base.mono _ _)
      | (with_reducible exact names_Classify.mono _ _)
      | (with_reducible exact names_Join.mono _ _ _)
      | (with_reducible exact names_Made.mono _ _ _)
      | (with_reducible exact names_Split.mono _ _)
      | (with_reducible exact LeO.refl _)
      | (with_reducible exact LeO.none _)
      | (with_reducible refine LeO.ite ?_ ?_)
      | (with_reducible refine LeO.bind ?_ (fun _ => ?_))
      | exact ih0 _ _ _ _
      | exact ih1 _ _
      | exact ih2 _
      | exact ih3 _ _ _
      | exact names_Base.mono _ _
      | exact names_Classify.mono _ _
      | exact names_Join.mono _ _ _
      | exact names_Made.mono _ _ _
      | exact names_Split.mono _ _
      | exact LeO.none _
      | refine LeO.ite ?_ ?_
      | refine LeO.bind ?_ (fun _ => ?_)
set_option maxHeartbeats 8000000 in
set_option maxRecDepth 100000 in
theorem lazyclaw01_NamesRoundTrip.calls (k : Nat) (a0 : ByteArray) (a1 : ByteArray) (a2 : Int) (r : Bool) (w : World) (hG_ : Glob w) (h : lazyclaw01_NamesRoundTrip.f k a0 a1 a2 = some r) :
    Calls Tryd.prog 6 #[.string a0, .string a1, .int .i64 a2] w fun e w' => e = .returned (.bool r) ∧ Below w.heap.size w w' := by
  have HB := Aside0.mk (Below.refl w.heap.size w)
  have HG_ := Aside0.mk hG_
  clear hG_
  have H : (if (a0.size : Int) > 1000 then (lazyclaw01_NamesRoundTrip.j0 k a0 a1 a2 true) else (lazyclaw01_NamesRoundTrip.j0 k a0 a1 a2 (decide ((a1.size : Int) > 1000)))) = some r := h
  clear h
  have HC4 := Aside0.mk H
  clear H
  go_enter Tryd.func6, Tryd.ntmps6
  go_upto_region 1 with (fail)
  go_cut [31] (fun v31 wc => ∃ (kq : Nat) (x31_3 : Bool), v31 = .bool x31_3 ∧ Aside0 (lazyclaw01_NamesRoundTrip.j0 kq a0 a1 a2 x31_3 = some r) ∧ Aside0 (kq ≤ k) ∧ Aside0 (Below w.heap.size w wc))
  case first => as_aux_lemma =>
    have H := HC4.out
    clear HC4
    by_cases c5 : (a0.size : Int) > 1000
    · as_aux_lemma =>
      rw [if_pos c5] at H
      have c5b0 : decide (1000 < (a0.size : Int)) = true := decide_eq_true c5
      have c5b1 : decide (1000 < a0.size) = true := decide_eq_true (by omega)
      clear c5
      (first | rw [c5b0] | (simp only [i64_w, i32_w]; rw [c5b0]) | skip)
      have H' := Aside0.mk H
      clear H
      go_wp2
      go_meet
      case rel => exact ⟨_, (true), (by first | rfl | (simp; done) | (simp [*]; done)), H', ⟨by first | omega | exact Nat.le_refl _⟩, ⟨by repeat (first | (with_reducible first | exact HB.out | apply below_alloc | apply pw_below_drewN | apply below_drew1) | exact HB.out)⟩⟩
    · as_aux_lemma =>
      rw [if_neg c5] at H
      have c5b0 : decide (1000 < (a0.size : Int)) = false := decide_eq_false c5
      have c5b1 : decide (1000 < a0.size) = false := decide_eq_false (by omega)
      clear c5
      (first | rw [c5b0] | (simp only [i64_w, i32_w]; rw [c5b0]) | skip)
      have H' := Aside0.mk H
      clear H
      go_wp2
      go_meet
      case rel => exact ⟨_, (decide ((a1.size : Int) > 1000)), (by first | rfl | (simp; done) | (simp [*]; done)), H', ⟨by first | omega | exact Nat.le_refl _⟩, ⟨by repeat (first | (with_reducible first | exact HB.out | apply below_alloc | apply pw_below_drewN | apply below_drew1) | exact HB.out)⟩⟩
  case rest => as_aux_lemma =>
    clear HC4
    try clear p2
    try clear c5
    try clear c5b0
    try clear c5b1
    obtain ⟨kq, x31_3, rfl, HA, HJ3, HB⟩ := hcut
    cases kq with
    | zero => exact absurd HA.out (by simp [lazyclaw01_NamesRoundTrip.j0])
    | succ kj3 =>
      have H := HA.out
      clear HA
      simp only [lazyclaw01_NamesRoundTrip.j0] at H
      by_cases c6 : x31_3 = true
      · as_aux_lemma =>
        subst c6
        have H1 : ((lazyclaw01_awake.f).bind fun t188 => (some t188)) = some r := by rw [if_pos rfl] at H; exact H
        clear H
        have H := H1
        clear H1
        replace H := Option.bind_eq_some_iff.mp H
        obtain ⟨t188, A70, H⟩ := H
        replace H : (some t188) = some r := H
        have A7 := Aside0.mk A70
        clear A70
        obtain rfl := Option.some.inj H
        go_wp2_with (first | ((with_reducible refine gate_callee (f := 11) rfl ?_); refine goesL_ (some 32) rfl rfl Tryd.func11 (by kernel_rfl) rfl #[] rfl (by (try simp only [List.map_toArray, List.map_cons, List.map_nil]); first | done | rfl | (simp only [List.length_drop, List.length_take]; rfl)) ?_; (with_reducible refine (lazyclaw01_awake.calls  t188 _ ?sideG_ A7.out).mono ?_); (case sideG_ => exact Glob.below HG_.out (by repeat (first | (with_reducible first | exact HB.out | apply below_alloc | apply pw_below_drewN | apply below_drew1 | apply bA | apply bN | apply bD) | exact HB.out))); rintro e w8 ⟨rfl, hb⟩; refine ⟨_, rfl, ?_⟩; have n0_ := Aside0.mk (below_step (by repeat (first | (with_reducible first | exact HB.out | apply below_alloc | apply pw_below_drewN | apply below_drew1) | exact HB.out)) hb); clear HB; have HB := n0_; clear n0_; (try clear hb); (try clear hb2); (try clear hk); (try clear hi)))
        go_ret
        exact ⟨by first | rfl | (simp [errW_none, errW_some] <;> rfl) | (simp [*, errW_none, errW_some] <;> rfl), by repeat (first | (with_reducible first | exact HB.out | apply below_alloc | apply pw_below_drewN | apply below_drew1) | exact HB.out)⟩
      · as_aux_lemma =>
        replace c6 := Bool.eq_false_iff.mpr c6
        subst c6
        have H1 : ((names_Join.f kj3 a0 a1).bind fun t189 => (if t189.toList = ([] : List UInt8) then (lazyclaw01_NamesRoundTrip.j1 kj3 a1 a2) else ((names_Split.f kj3 t189).bind fun bt190 => (if bt190.2.2 = true then (if bt190.1.toList = a0.toList then (if bt190.2.1.toList = a1.toList then ((names_Classify.f kj3 t189).bind fun t193 => (if t193 = 0 then (lazyclaw01_NamesRoundTrip.j1 kj3 a1 a2) else (some false))) else (some false)) else (some false)) else (some false))))) = some r := by rw [if_neg (show ¬ (false = true) by decide)] at H; exact H
        clear H
        have H := H1
        clear H1
        replace H := Option.bind_eq_some_iff.mp H
        obtain ⟨t189, A90, H⟩ := H
        replace H : (if t189.toList = ([] : List UInt8) then (lazyclaw01_NamesRoundTrip.j1 kj3 a1 a2) else ((names_Split.f kj3 t189).bind fun bt190 => (if bt190.2.2 = true then (if bt190.1.toList = a0.toList then (if bt190.2.1.toList = a1.toList then ((names_Classify.f kj3 t189).bind fun t193 => (if t193 = 0 then (lazyclaw01_NamesRoundTrip.j1 kj3 a1 a2) else (some false))) else (some false)) else (some false)) else (some false)))) = some r := H
        have A9 := Aside0.mk A90
        clear A90
        have HC10 := Aside0.mk H
        clear H
        go_upto_if 37 with (first | ((with_reducible refine gate_callee (f := 16) rfl ?_); refine goesL_ (some 35) rfl rfl Tryd.func16 (by kernel_rfl) rfl #[.string a0, .string a1] rfl (by (try simp only [List.map_toArray, List.map_cons, List.map_nil]); first | done | rfl | (simp only [List.length_drop, List.length_take]; rfl)) ?_; (with_reducible refine (names_Join.calls kj3 a0 a1 t189 _ A9.out).mono ?_); rintro e w' ⟨rfl, ⟨nd, rfl⟩⟩; refine ⟨_, rfl, ?_⟩))
        (try simp only [Act.put, List.setIfInBounds_toArray, List.set_cons_zero, List.set_cons_succ])
        go_cut [] (fun wc => ∃ (kq : Nat), Aside0 (lazyclaw01_NamesRoundTrip.j1 kq a1 a2 = some r) ∧ Aside0 (kq ≤ kj3) ∧ Aside0 (Below w.heap.size w wc))
        case first => as_aux_lemma =>
          have H := HC10.out
          clear HC10
          by_cases c11 : t189.toList = ([] : List UInt8)
          · as_aux_lemma =>
            rw [if_pos c11] at H
            have c11b0 : (t189.toList == ([] : List UInt8)) = true := beq_iff_eq.mpr c11
            have c11b1 : (t189.toList != ([] : List UInt8)) = false := bne_eq_false_iff_eq.mpr c11
            have c11b9 : t189.toList.isEmpty = true := List.isEmpty_iff.mpr (beq_iff_eq.mp c11b0)
            clear c11
            (first | (rw [c11b9]; simp only [Bool.not_true, Bool.not_false]) | rw [c11b0] | (simp only [i64_w, i32_w]; rw [c11b0]) | skip)
            have H' := Aside0.mk H
            clear H
            go_wp2
            go_meet
            case rel => exact ⟨_, H', ⟨by have := HJ3.out; first | omega | exact Nat.le_refl _⟩, ⟨by repeat (first | (with_reducible first | exact HB.out | apply below_alloc | apply pw_below_drewN | apply below_drew1) | exact HB.out)⟩⟩
          · as_aux_lemma =>
            rw [if_neg c11] at H
            have c11b0 : (t189.toList == ([] : List UInt8)) = false := beq_eq_false_iff_ne.mpr c11
            have c11b1 : (t189.toList != ([] : List UInt8)) = true := bne_iff_ne.mpr c11
            have c11b9 : t189.toList.isEmpty = false := Bool.eq_false_iff.mpr (fun e_ => beq_eq_false_iff_ne.mp c11b0 (List.isEmpty_iff.mp e_))
            (first | (rw [c11b9]; simp only [Bool.not_true, Bool.not_false]) | rw [c11b0] | (simp only [i64_w, i32_w]; rw [c11b0]) | skip)
            replace H := Option.bind_eq_some_iff.mp H
            obtain ⟨⟨t190, t191, t192⟩, A120, H⟩ := H
            replace H : (if t192 = true then (if t190.toList = a0.toList then (if t191.toList = a1.toList then ((names_Classify.f kj3 t189).bind fun t193 => (if t193 = 0 then (lazyclaw01_NamesRoundTrip.j1 kj3 a1 a2) else (some false))) else (some false)) else (some false)) else (some false)) = some r := H
            have A12 := Aside0.mk A120
            clear A120
            by_cases c13 : t192 = true
            · as_aux_lemma =>
              subst c13
              have H1 : (if t190.toList = a0.toList then (if t191.toList = a1.toList then ((names_Classify.f kj3 t189).bind fun t193 => (if t193 = 0 then (lazyclaw01_NamesRoundTrip.j1 kj3 a1 a2) else (some false))) else (some false)) else (some false)) = some r := by rw [if_pos rfl] at H; exact H
              clear H
              have H := H1
              clear H1
              by_cases c14 : t190.toList = a0.toList
              · as_aux_lemma =>
                rw [if_pos c14] at H
                have c14b0 : (t190.toList == a0.toList) = true := beq_iff_eq.mpr c14
                have c14b1 : (t190.toList != a0.toList) = false := bne_eq_false_iff_eq.mpr c14
                clear c14
                by_cases c15 : t191.toList = a1.toList
                · as_aux_lemma =>
                  rw [if_pos c15] at H
                  have c15b0 : (t191.toList == a1.toList) = true := beq_iff_eq.mpr c15
                  have c15b1 : (t191.toList != a1.toList) = false := bne_eq_false_iff_eq.mpr c15
                  clear c15
                  replace H := Option.bind_eq_some_iff.mp H
                  obtain ⟨t193, A160, H⟩ := H
                  replace H : (if t193 = 0 then (lazyclaw01_NamesRoundTrip.j1 kj3 a1 a2) else (some false)) = some r := H
                  have A16 := Aside0.mk A160
                  clear A160
                  by_cases c17 : t193 = 0
                  · as_aux_lemma =>
                    rw [if_pos c17] at H
                    have c17b0 : (t193 == 0) = true := beq_iff_eq.mpr c17
                    have c17b1 : (t193 != 0) = false := bne_eq_false_iff_eq.mpr c17
                    clear c17
                    have H' := Aside0.mk H
                    clear H
                    go_wp2_with (first | ((with_reducible refine gate_callee (f := 14) rfl ?_); refine goesL_ (some 40) rfl rfl Tryd.func14 (by kernel_rfl) rfl #[.string t189] rfl (by (try simp only [List.map_toArray, List.map_cons, List.map_nil]); first | done | rfl | (simp only [List.length_drop, List.length_take]; rfl)) ?_; (with_reducible refine (names_Split.calls kj3 t189 t190 t191 true _ ?sideG_ A12.out).mono ?_); (case sideG_ => exact Glob.below HG_.out (by repeat (first | (with_reducible first | exact HB.out | apply below_alloc | apply pw_below_drewN | apply below_drew1 | apply bA | apply bN | apply bD) | exact HB.out))); rintro e w18 ⟨rfl, hb⟩; refine ⟨_, rfl, ?_⟩; have n0_ := Aside0.mk (below_step (by repeat (first | (with_reducible first | exact HB.out | apply below_alloc | apply pw_below_drewN | apply below_drew1) | exact HB.out)) hb); clear HB; have HB := n0_; clear n0_; (try clear hb); (try clear hb2); (try clear hk); (try clear hi)) | (go_at_call 12; (with_reducible refine (names_Classify.calls kj3 t189 t193 _ ?sideG_ A16.out).mono ?_); (case sideG_ => exact Glob.below HG_.out (by repeat (first | (with_reducible first | exact HB.out | apply below_alloc | apply pw_below_drewN | apply below_drew1 | apply bA | apply bN | apply bD) | exact HB.out))); rintro e w19 ⟨rfl, hb⟩; have n0_ := Aside0.mk (below_step (by repeat (first | (with_reducible first | exact HB.out | apply below_alloc | apply pw_below_drewN | apply below_drew1) | exact HB.out)) hb); clear HB; have HB := n0_; clear n0_; (try clear hb); (try clear hb2); (try clear hk); (try clear hi)))
                    go_meet
                    case rel => exact ⟨_, H', ⟨by have := HJ3.out; first | omega | exact Nat.le_refl _⟩, ⟨by repeat (first | (with_reducible first | exact HB.out | apply below_alloc | apply pw_below_drewN | apply below_drew1) | exact HB.out)⟩⟩
                  · as_aux_lemma =>
                    rw [if_neg c17] at H
                    have c17b0 : (t193 == 0) = false := beq_eq_false_iff_ne.mpr c17
                    have c17b1 : (t193 != 0) = true := bne_iff_ne.mpr c17
                    obtain rfl := Option.some.inj H
                    go_wp2_with (first | ((with_reducible refine gate_callee (f := 14) rfl ?_); refine goesL_ (some 40) rfl rfl Tryd.func14 (by kernel_rfl) rfl #[.string t189] rfl (by (try simp only [List.map_toArray, List.map_cons, List.map_nil]); first | done | rfl | (simp only [List.length_drop, List.length_take]; rfl)) ?_; (with_reducible refine (names_Split.calls kj3 t189 t190 t191 true _ ?sideG_ A12.out).mono ?_); (case sideG_ => exact Glob.below HG_.out (by repeat (first | (with_reducible first | exact HB.out | apply below_alloc | apply pw_below_drewN | apply below_drew1 | apply bA | apply bN | apply bD) | exact HB.out))); rintro e w20 ⟨rfl, hb⟩; refine ⟨_, rfl, ?_⟩; have n0_ := Aside0.mk (below_step (by repeat (first | (with_reducible first | exact HB.out | apply below_alloc | apply pw_below_drewN | apply below_drew1) | exact HB.out)) hb); clear HB; have HB := n0_; clear n0_; (try clear hb); (try clear hb2); (try clear hk); (try clear hi)) | (go_at_call 12; (with_reducible refine (names_Classify.calls kj3 t189 t193 _ ?sideG_ A16.out).mono ?_); (case sideG_ => exact Glob.below HG_.out (by repeat (first | (with_reducible first | exact HB.out | apply below_alloc | apply pw_below_drewN | apply below_drew1 | apply bA | apply bN | apply bD) | exact HB.out))); rintro e w21 ⟨rfl, hb⟩; have n0_ := Aside0.mk (below_step (by repeat (first | (with_reducible first | exact HB.out | apply below_alloc | apply pw_below_drewN | apply below_drew1) | exact HB.out)) hb); clear HB; have HB := n0_; clear n0_; (try clear hb); (try clear hb2); (try clear hk); (try clear hi)))
                    go_ret
                    exact ⟨by first | rfl | (simp [errW_none, errW_some] <;> rfl) | (simp [*, errW_none, errW_some] <;> rfl), by repeat (first | (with_reducible first | exact HB.out | apply below_alloc | apply pw_below_drewN | apply below_drew1) | exact HB.out)⟩
                · as_aux_lemma =>
                  rw [if_neg c15] at H
                  have c15b0 : (t191.toList == a1.toList) = false := beq_eq_false_iff_ne.mpr c15
                  have c15b1 : (t191.toList != a1.toList) = true := bne_iff_ne.mpr c15
                  obtain rfl := Option.some.inj H
                  go_wp2_with (first | ((with_reducible refine gate_callee (f := 14) rfl ?_); refine goesL_ (some 40) rfl rfl Tryd.func14 (by kernel_rfl) rfl #[.string t189] rfl (by (try simp only [List.map_toArray, List.map_cons, List.map_nil]); first | done | rfl | (simp only [List.length_drop, List.length_take]; rfl)) ?_; (with_reducible refine (names_Split.calls kj3 t189 t190 t191 true _ ?sideG_ A12.out).mono ?_); (case sideG_ => exact Glob.below HG_.out (by repeat (first | (with_reducible first | exact HB.out | apply below_alloc | apply pw_below_drewN | apply below_drew1 | apply bA | apply bN | apply bD) | exact HB.out))); rintro e w22 ⟨rfl, hb⟩; refine ⟨_, rfl, ?_⟩; have n0_ := Aside0.mk (below_step (by repeat (first | (with_reducible first | exact HB.out | apply below_alloc | apply pw_below_drewN | apply below_drew1) | exact HB.out)) hb); clear HB; have HB := n0_; clear n0_; (try clear hb); (try clear hb2); (try clear hk); (try clear hi)))
                  go_ret
                  exact ⟨by first | rfl | (simp [errW_none, errW_some] <;> rfl) | (simp [*, errW_none, errW_some] <;> rfl), by repeat (first | (with_reducible first | exact HB.out | apply below_alloc | apply pw_below_drewN | apply below_drew1) | exact HB.out)⟩
              · as_aux_lemma =>
                rw [if_neg c14] at H
                have c14b0 : (t190.toList == a0.toList) = false := beq_eq_false_iff_ne.mpr c14
                have c14b1 : (t190.toList != a0.toList) = true := bne_iff_ne.mpr c14
                obtain rfl := Option.some.inj H
                go_wp2_with (first | ((with_reducible refine gate_callee (f := 14) rfl ?_); refine goesL_ (some 40) rfl rfl Tryd.func14 (by kernel_rfl) rfl #[.string t189] rfl (by (try simp only [List.map_toArray, List.map_cons, List.map_nil]); first | done | rfl | (simp only [List.length_drop, List.length_take]; rfl)) ?_; (with_reducible refine (names_Split.calls kj3 t189 t190 t191 true _ ?sideG_ A12.out).mono ?_); (case sideG_ => exact Glob.below HG_.out (by repeat (first | (with_reducible first | exact HB.out | apply below_alloc | apply pw_below_drewN | apply below_drew1 | apply bA | apply bN | apply bD) | exact HB.out))); rintro e w23 ⟨rfl, hb⟩; refine ⟨_, rfl, ?_⟩; have n0_ := Aside0.mk (below_step (by repeat (first | (with_reducible first | exact HB.out | apply below_alloc | apply pw_below_drewN | apply below_drew1) | exact HB.out)) hb); clear HB; have HB := n0_; clear n0_; (try clear hb); (try clear hb2); (try clear hk); (try clear hi)))
                go_ret
                exact ⟨by first | rfl | (simp [errW_none, errW_some] <;> rfl) | (simp [*, errW_none, errW_some] <;> rfl), by repeat (first | (with_reducible first | exact HB.out | apply below_alloc | apply pw_below_drewN | apply below_drew1) | exact HB.out)⟩
            · as_aux_lemma =>
              replace c13 := Bool.eq_false_iff.mpr c13
              subst c13
              have H1 : (some false) = some r := by rw [if_neg (show ¬ (false = true) by decide)] at H; exact H
              clear H
              have H := H1
              clear H1
              obtain rfl := Option.some.inj H
              go_wp2_with (first | ((with_reducible refine gate_callee (f := 14) rfl ?_); refine goesL_ (some 40) rfl rfl Tryd.func14 (by kernel_rfl) rfl #[.string t189] rfl (by (try simp only [List.map_toArray, List.map_cons, List.map_nil]); first | done | rfl | (simp only [List.length_drop, List.length_take]; rfl)) ?_; (with_reducible refine (names_Split.calls kj3 t189 t190 t191 false _ ?sideG_ A12.out).mono ?_); (case sideG_ => exact Glob.below HG_.out (by repeat (first | (with_reducible first | exact HB.out | apply below_alloc | apply pw_below_drewN | apply below_drew1 | apply bA | apply bN | apply bD) | exact HB.out))); rintro e w24 ⟨rfl, hb⟩; refine ⟨_, rfl, ?_⟩; have n0_ := Aside0.mk (below_step (by repeat (first | (with_reducible first | exact HB.out | apply below_alloc | apply pw_below_drewN | apply below_drew1) | exact HB.out)) hb); clear HB; have HB := n0_; clear n0_; (try clear hb); (try clear hb2); (try clear hk); (try clear hi)))
              go_ret
              exact ⟨by first | rfl | (simp [errW_none, errW_some] <;> rfl) | (simp [*, errW_none, errW_some] <;> rfl), by repeat (first | (with_reducible first | exact HB.out | apply below_alloc | apply pw_below_drewN | apply below_drew1) | exact HB.out)⟩
        case rest => as_aux_lemma =>
          clear HC10
          try clear c1
          try clear p2
          try clear c5
          try clear c5b0
          try clear c5b1
          try clear c6
          try clear c11
          try clear c11b0
          try clear c11b1
          try clear c13
          try clear c14
          try clear c14b0
          try clear c14b1
          try clear c15
          try clear c15b0
          try clear c15b1
          try clear c16
          try clear c17
          try clear c17b0
          try clear c17b1
          try clear p2
          obtain ⟨kq, HA, HJ9, HB⟩ := hcut
          cases kq with
          | zero => exact absurd HA.out (by simp [lazyclaw01_NamesRoundTrip.j1])
          | succ kj9 =>
            have H := HA.out
            clear HA
            simp only [lazyclaw01_NamesRoundTrip.j1] at H
            replace H := Option.bind_eq_some_iff.mp H
            obtain ⟨t194, A250, H⟩ := H
            replace H : (if t194.toList = ([] : List UInt8) then (lazyclaw01_NamesRoundTrip.j2 kj9 a1) else ((names_Base.f kj9 t194).bind fun bt195 => ((names_Split.f kj9 t194).bind fun bt198 => (if bt195.2.2 = true then (if bt195.1.toList = a1.toList then (if bt195.2.1 = a2 then (if bt198.2.2 = true then (some false) else ((names_Classify.f kj9 t194).bind fun t201 => (if t201 = 7 then (lazyclaw01_NamesRoundTrip.j2 kj9 a1) else (some false)))) else (some false)) else (some false)) else (some false))))) = some r := H
            have A25 := Aside0.mk A250
            clear A250
            have HC26 := Aside0.mk H
            clear H
            go_upto_if 65 with (first | ((with_reducible refine gate_callee (f := 20) rfl ?_); refine goesL_ (some 63) rfl rfl Tryd.func20 (by kernel_rfl) rfl #[.string a1, .int .i64 a2] rfl (by (try simp only [List.map_toArray, List.map_cons, List.map_nil]); first | done | rfl | (simp only [List.length_drop, List.length_take]; rfl)) ?_; (with_reducible refine (names_Made.calls kj9 a1 a2 t194 _ ?sideG_ A25.out).mono ?_); (case sideG_ => exact Glob.below HG_.out (by repeat (first | (with_reducible first | exact HB.out | apply below_alloc | apply pw_below_drewN | apply below_drew1 | apply bA | apply bN | apply bD) | exact HB.out))); rintro e w27 ⟨rfl, hb⟩; refine ⟨_, rfl, ?_⟩; have n0_ := Aside0.mk (below_step (by repeat (first | (with_reducible first | exact HB.out | apply below_alloc | apply pw_below_drewN | apply below_drew1) | exact HB.out)) hb); clear HB; have HB := n0_; clear n0_; (try clear hb); (try clear hb2); (try clear hk); (try clear hi)))
            (try simp only [Act.put, List.setIfInBounds_toArray, List.set_cons_zero, List.set_cons_succ])
            go_cut [] (fun wc => ∃ (kq : Nat), Aside0 (lazyclaw01_NamesRoundTrip.j2 kq a1 = some r) ∧ Aside0 (kq ≤ kj9) ∧ Aside0 (Below w.heap.size w wc))
            case first => as_aux_lemma =>
              have H := HC26.out
              clear HC26
              by_cases c28 : t194.toList = ([] : List UInt8)
              · as_aux_lemma =>
                rw [if_pos c28] at H
                have c28b0 : (t194.toList == ([] : List UInt8)) = true := beq_iff_eq.mpr c28
                have c28b1 : (t194.toList != ([] : List UInt8)) = false := bne_eq_false_iff_eq.mpr c28
                have c28b9 : t194.toList.isEmpty = true := List.isEmpty_iff.mpr (beq_iff_eq.mp c28b0)
                clear c28
                (first | (rw [c28b9]; simp only [Bool.not_true, Bool.not_false]) | rw [c28b0] | (simp only [i64_w, i32_w]; rw [c28b0]) | skip)
                have H' := Aside0.mk H
                clear H
                go_wp2
                go_meet
                case rel => exact ⟨_, H', ⟨by have := HJ3.out; have := HJ9.out; first | omega | exact Nat.le_refl _⟩, ⟨by repeat (first | (with_reducible first | exact HB.out | apply below_alloc | apply pw_below_drewN | apply below_drew1) | exact HB.out)⟩⟩
              · as_aux_lemma =>
                rw [if_neg c28] at H
                have c28b0 : (t194.toList == ([] : List UInt8)) = false := beq_eq_false_iff_ne.mpr c28
                have c28b1 : (t194.toList != ([] : List UInt8)) = true := bne_iff_ne.mpr c28
                have c28b9 : t194.toList.isEmpty = false := Bool.eq_false_iff.mpr (fun e_ => beq_eq_false_iff_ne.mp c28b0 (List.isEmpty_iff.mp e_))
                (first | (rw [c28b9]; simp only [Bool.not_true, Bool.not_false]) | rw [c28b0] | (simp only [i64_w, i32_w]; rw [c28b0]) | skip)
                replace H := Option.bind_eq_some_iff.mp H
                obtain ⟨⟨t195, t196, t197⟩, A290, H⟩ := H
                replace H : ((names_Split.f kj9 t194).bind fun bt198 => (if t197 = true then (if t195.toList = a1.toList then (if t196 = a2 then (if bt198.2.2 = true then (some false) else ((names_Classify.f kj9 t194).bind fun t201 => (if t201 = 7 then (lazyclaw01_NamesRoundTrip.j2 kj9 a1) else (some false)))) else (some false)) else (some false)) else (some false))) = some r := H
                have A29 := Aside0.mk A290
                clear A290
                replace H := Option.bind_eq_some_iff.mp H
                obtain ⟨⟨t198, t199, t200⟩, A300, H⟩ := H
                replace H : (if t197 = true then (if t195.toList = a1.toList then (if t196 = a2 then (if t200 = true then (some false) else ((names_Classify.f kj9 t194).bind fun t201 => (if t201 = 7 then (lazyclaw01_NamesRoundTrip.j2 kj9 a1) else (some false)))) else (some false)) else (some false)) else (some false)) = some r := H
                have A30 := Aside0.mk A300
                clear A300
                by_cases c31 : t197 = true
                · as_aux_lemma =>
                  subst c31
                  have H1 : (if t195.toList = a1.toList then (if t196 = a2 then (if t200 = true then (some false) else ((names_Classify.f kj9 t194).bind fun t201 => (if t201 = 7 then (lazyclaw01_NamesRoundTrip.j2 kj9 a1) else (some false)))) else (some false)) else (some false)) = some r := by rw [if_pos rfl] at H; exact H
                  clear H
                  have H := H1
                  clear H1
                  by_cases c32 : t195.toList = a1.toList
                  · as_aux_lemma =>
                    rw [if_pos c32] at H
                    have c32b0 : (t195.toList == a1.toList) = true := beq_iff_eq.mpr c32
                    have c32b1 : (t195.toList != a1.toList) = false := bne_eq_false_iff_eq.mpr c32
                    clear c32
                    by_cases c33 : t196 = a2
                    · as_aux_lemma =>
                      rw [if_pos c33] at H
                      have c33b0 : (t196 == a2) = true := beq_iff_eq.mpr c33
                      have c33b1 : (t196 != a2) = false := bne_eq_false_iff_eq.mpr c33
                      clear c33
                      by_cases c34 : t200 = true
                      · as_aux_lemma =>
                        subst c34
                        have H1 : (some false) = some r := by rw [if_pos rfl] at H; exact H
                        clear H
                        have H := H1
                        clear H1
                        obtain rfl := Option.some.inj H
                        go_wp2_with (first | ((with_reducible refine gate_callee (f := 18) rfl ?_); refine goesL_ (some 68) rfl rfl Tryd.func18 (by kernel_rfl) rfl #[.string t194] rfl (by (try simp only [List.map_toArray, List.map_cons, List.map_nil]); first | done | rfl | (simp only [List.length_drop, List.length_take]; rfl)) ?_; (with_reducible refine (names_Base.calls kj9 t194 t195 t196 true _ ?sideG_ A29.out).mono ?_); (case sideG_ => exact Glob.below HG_.out (by repeat (first | (with_reducible first | exact HB.out | apply below_alloc | apply pw_below_drewN | apply below_drew1 | apply bA | apply bN | apply bD) | exact HB.out))); rintro e w35 ⟨rfl, hb⟩; refine ⟨_, rfl, ?_⟩; have n0_ := Aside0.mk (below_step (by repeat (first | (with_reducible first | exact HB.out | apply below_alloc | apply pw_below_drewN | apply below_drew1) | exact HB.out)) hb); clear HB; have HB := n0_; clear n0_; (try clear hb); (try clear hb2); (try clear hk); (try clear hi)) | ((with_reducible refine gate_callee (f := 14) rfl ?_); refine goesL_ (some 74) rfl rfl Tryd.func14 (by kernel_rfl) rfl #[.string t194] rfl (by (try simp only [List.map_toArray, List.map_cons, List.map_nil]); first | done | rfl | (simp only [List.length_drop, List.length_take]; rfl)) ?_; (with_reducible refine (names_Split.calls kj9 t194 t198 t199 true _ ?sideG_ A30.out).mono ?_); (case sideG_ => exact Glob.below HG_.out (by repeat (first | (with_reducible first | exact HB.out | apply below_alloc | apply pw_below_drewN | apply below_drew1 | apply bA | apply bN | apply bD) | exact HB.out))); rintro e w36 ⟨rfl, hb⟩; refine ⟨_, rfl, ?_⟩; have n0_ := Aside0.mk (below_step (by repeat (first | (with_reducible first | exact HB.out | apply below_alloc | apply pw_below_drewN | apply below_drew1) | exact HB.out)) hb); clear HB; have HB := n0_; clear n0_; (try clear hb); (try clear hb2); (try clear hk); (try clear hi)))
                        go_ret
                        exact ⟨by first | rfl | (simp [errW_none, errW_some] <;> rfl) | (simp [*, errW_none, errW_some] <;> rfl), by repeat (first | (with_reducible first | exact HB.out | apply below_alloc | apply pw_below_drewN | apply below_drew1) | exact HB.out)⟩
                      · as_aux_lemma =>
                        replace c34 := Bool.eq_false_iff.mpr c34
                        subst c34
                        have H1 : ((names_Classify.f kj9 t194).bind fun t201 => (if t201 = 7 then (lazyclaw01_NamesRoundTrip.j2 kj9 a1) else (some false))) = some r := by rw [if_neg (show ¬ (false = true) by decide)] at H; exact H
                        clear H
                        have H := H1
                        clear H1
                        replace H := Option.bind_eq_some_iff.mp H
                        obtain ⟨t201, A370, H⟩ := H
                        replace H : (if t201 = 7 then (lazyclaw01_NamesRoundTrip.j2 kj9 a1) else (some false)) = some r := H
                        have A37 := Aside0.mk A370
                        clear A370
                        by_cases c38 : t201 = 7
                        · as_aux_lemma =>
                          rw [if_pos c38] at H
                          have c38b0 : (t201 == 7) = true := beq_iff_eq.mpr c38
                          have c38b1 : (t201 != 7) = false := bne_eq_false_iff_eq.mpr c38
                          clear c38
                          have H' := Aside0.mk H
                          clear H
                          go_wp2_with (first | ((with_reducible refine gate_callee (f := 18) rfl ?_); refine goesL_ (some 68) rfl rfl Tryd.func18 (by kernel_rfl) rfl #[.string t194] rfl (by (try simp only [List.map_toArray, List.map_cons, List.map_nil]); first | done | rfl | (simp only [List.length_drop, List.length_take]; rfl)) ?_; (with_reducible refine (names_Base.calls kj9 t194 t195 t196 true _ ?sideG_ A29.out).mono ?_); (case sideG_ => exact Glob.below HG_.out (by repeat (first | (with_reducible first | exact HB.out | apply below_alloc | apply pw_below_drewN | apply below_drew1 | apply bA | apply bN | apply bD) | exact HB.out))); rintro e w39 ⟨rfl, hb⟩; refine ⟨_, rfl, ?_⟩; have n0_ := Aside0.mk (below_step (by repeat (first | (with_reducible first | exact HB.out | apply below_alloc | apply pw_below_drewN | apply below_drew1) | exact HB.out)) hb); clear HB; have HB := n0_; clear n0_; (try clear hb); (try clear hb2); (try clear hk); (try clear hi)) | ((with_reducible refine gate_callee (f := 14) rfl ?_); refine goesL_ (some 74) rfl rfl Tryd.func14 (by kernel_rfl) rfl #[.string t194] rfl (by (try simp only [List.map_toArray, List.map_cons, List.map_nil]); first | done | rfl | (simp only [List.length_drop, List.length_take]; rfl)) ?_; (with_reducible refine (names_Split.calls kj9 t194 t198 t199 false _ ?sideG_ A30.out).mono ?_); (case sideG_ => exact Glob.below HG_.out (by repeat (first | (with_reducible first | exact HB.out | apply below_alloc | apply pw_below_drewN | apply below_drew1 | apply bA | apply bN | apply bD) | exact HB.out))); rintro e w40 ⟨rfl, hb⟩; refine ⟨_, rfl, ?_⟩; have n0_ := Aside0.mk (below_step (by repeat (first | (with_reducible first | exact HB.out | apply below_alloc | apply pw_below_drewN | apply below_drew1) | exact HB.out)) hb); clear HB; have HB := n0_; clear n0_; (try clear hb); (try clear hb2); (try clear hk); (try clear hi)) | (go_at_call 12; (with_reducible refine (names_Classify.calls kj9 t194 t201 _ ?sideG_ A37.out).mono ?_); (case sideG_ => exact Glob.below HG_.out (by repeat (first | (with_reducible first | exact HB.out | apply below_alloc | apply pw_below_drewN | apply below_drew1 | apply bA | apply bN | apply bD) | exact HB.out))); rintro e w41 ⟨rfl, hb⟩; have n0_ := Aside0.mk (below_step (by repeat (first | (with_reducible first | exact HB.out | apply below_alloc | apply pw_below_drewN | apply below_drew1) | exact HB.out)) hb); clear HB; have HB := n0_; clear n0_; (try clear hb); (try clear hb2); (try clear hk); (try clear hi)))
                          go_meet
                          case rel => exact ⟨_, H', ⟨by have := HJ3.out; have := HJ9.out; first | omega | exact Nat.le_refl _⟩, ⟨by repeat (first | (with_reducible first | exact HB.out | apply below_alloc | apply pw_below_drewN | apply below_drew1) | exact HB.out)⟩⟩
                        · as_aux_lemma =>
                          rw [if_neg c38] at H
                          have c38b0 : (t201 == 7) = false := beq_eq_false_iff_ne.mpr c38
                          have c38b1 : (t201 != 7) = true := bne_iff_ne.mpr c38
                          obtain rfl := Option.some.inj H
                          go_wp2_with (first | ((with_reducible refine gate_callee (f := 18) rfl ?_); refine goesL_ (some 68) rfl rfl Tryd.func18 (by kernel_rfl) rfl #[.string t194] rfl (by (try simp only [List.map_toArray, List.map_cons, List.map_nil]); first | done | rfl | (simp only [List.length_drop, List.length_take]; rfl)) ?_; (with_reducible refine (names_Base.calls kj9 t194 t195 t196 true _ ?sideG_ A29.out).mono ?_); (case sideG_ => exact Glob.below HG_.out (by repeat (first | (with_reducible first | exact HB.out | apply below_alloc | apply pw_below_drewN | apply below_drew1 | apply bA | apply bN | apply bD) | exact HB.out))); rintro e w42 ⟨rfl, hb⟩; refine ⟨_, rfl, ?_⟩; have n0_ := Aside0.mk (below_step (by repeat (first | (with_reducible first | exact HB.out | apply below_alloc | apply pw_below_drewN | apply below_drew1) | exact HB.out)) hb); clear HB; have HB := n0_; clear n0_; (try clear hb); (try clear hb2); (try clear hk); (try clear hi)) | ((with_reducible refine gate_callee (f := 14) rfl ?_); refine goesL_ (some 74) rfl rfl Tryd.func14 (by kernel_rfl) rfl #[.string t194] rfl (by (try simp only [List.map_toArray, List.map_cons, List.map_nil]); first | done | rfl | (simp only [List.length_drop, List.length_take]; rfl)) ?_; (with_reducible refine (names_Split.calls kj9 t194 t198 t199 false _ ?sideG_ A30.out).mono ?_); (case sideG_ => exact Glob.below HG_.out (by repeat (first | (with_reducible first | exact HB.out | apply below_alloc | apply pw_below_drewN | apply below_drew1 | apply bA | apply bN | apply bD) | exact HB.out))); rintro e w43 ⟨rfl, hb⟩; refine ⟨_, rfl, ?_⟩; have n0_ := Aside0.mk (below_step (by repeat (first | (with_reducible first | exact HB.out | apply below_alloc | apply pw_below_drewN | apply below_drew1) | exact HB.out)) hb); clear HB; have HB := n0_; clear n0_; (try clear hb); (try clear hb2); (try clear hk); (try clear hi)) | (go_at_call 12; (with_reducible refine (names_Classify.calls kj9 t194 t201 _ ?sideG_ A37.out).mono ?_); (case sideG_ => exact Glob.below HG_.out (by repeat (first | (with_reducible first | exact HB.out | apply below_alloc | apply pw_below_drewN | apply below_drew1 | apply bA | apply bN | apply bD) | exact HB.out))); rintro e w44 ⟨rfl, hb⟩; have n0_ := Aside0.mk (below_step (by repeat (first | (with_reducible first | exact HB.out | apply below_alloc | apply pw_below_drewN | apply below_drew1) | exact HB.out)) hb); clear HB; have HB := n0_; clear n0_; (try clear hb); (try clear hb2); (try clear hk); (try clear hi)))
                          go_ret
                          exact ⟨by first | rfl | (simp [errW_none, errW_some] <;> rfl) | (simp [*, errW_none, errW_some] <;> rfl), by repeat (first | (with_reducible first | exact HB.out | apply below_alloc | apply pw_below_drewN | apply below_drew1) | exact HB.out)⟩
                    · as_aux_lemma =>
                      rw [if_neg c33] at H
                      have c33b0 : (t196 == a2) = false := beq_eq_false_iff_ne.mpr c33
                      have c33b1 : (t196 != a2) = true := bne_iff_ne.mpr c33
                      obtain rfl := Option.some.inj H
                      go_wp2_with (first | ((with_reducible refine gate_callee (f := 18) rfl ?_); refine goesL_ (some 68) rfl rfl Tryd.func18 (by kernel_rfl) rfl #[.string t194] rfl (by (try simp only [List.map_toArray, List.map_cons, List.map_nil]); first | done | rfl | (simp only [List.length_drop, List.length_take]; rfl)) ?_; (with_reducible refine (names_Base.calls kj9 t194 t195 t196 true _ ?sideG_ A29.out).mono ?_); (case sideG_ => exact Glob.below HG_.out (by repeat (first | (with_reducible first | exact HB.out | apply below_alloc | apply pw_below_drewN | apply below_drew1 | apply bA | apply bN | apply bD) | exact HB.out))); rintro e w45 ⟨rfl, hb⟩; refine ⟨_, rfl, ?_⟩; have n0_ := Aside0.mk (below_step (by repeat (first | (with_reducible first | exact HB.out | apply below_alloc | apply pw_below_drewN | apply below_drew1) | exact HB.out)) hb); clear HB; have HB := n0_; clear n0_; (try clear hb); (try clear hb2); (try clear hk); (try clear hi)) | ((with_reducible refine gate_callee (f := 14) rfl ?_); refine goesL_ (some 74) rfl rfl Tryd.func14 (by kernel_rfl) rfl #[.string t194] rfl (by (try simp only [List.map_toArray, List.map_cons, List.map_nil]); first | done | rfl | (simp only [List.length_drop, List.length_take]; rfl)) ?_; (with_reducible refine (names_Split.calls kj9 t194 t198 t199 t200 _ ?sideG_ A30.out).mono ?_); (case sideG_ => exact Glob.below HG_.out (by repeat (first | (with_reducible first | exact HB.out | apply below_alloc | apply pw_below_drewN | apply below_drew1 | apply bA | apply bN | apply bD) | exact HB.out))); rintro e w46 ⟨rfl, hb⟩; refine ⟨_, rfl, ?_⟩; have n0_ := Aside0.mk (below_step (by repeat (first | (with_reducible first | exact HB.out | apply below_alloc | apply pw_below_drewN | apply below_drew1) | exact HB.out)) hb); clear HB; have HB := n0_; clear n0_; (try clear hb); (try clear hb2); (try clear hk); (try clear hi)))
                      go_ret
                      exact ⟨by first | rfl | (simp [errW_none, errW_some] <;> rfl) | (simp [*, errW_none, errW_some] <;> rfl), by repeat (first | (with_reducible first | exact HB.out | apply below_alloc | apply pw_below_drewN | apply below_drew1) | exact HB.out)⟩
                  · as_aux_lemma =>
                    rw [if_neg c32] at H
                    have c32b0 : (t195.toList == a1.toList) = false := beq_eq_false_iff_ne.mpr c32
                    have c32b1 : (t195.toList != a1.toList) = true := bne_iff_ne.mpr c32
                    obtain rfl := Option.some.inj H
                    go_wp2_with (first | ((with_reducible refine gate_callee (f := 18) rfl ?_); refine goesL_ (some 68) rfl rfl Tryd.func18 (by kernel_rfl) rfl #[.string t194] rfl (by (try simp only [List.map_toArray, List.map_cons, List.map_nil]); first | done | rfl | (simp only [List.length_drop, List.length_take]; rfl)) ?_; (with_reducible refine (names_Base.calls kj9 t194 t195 t196 true _ ?sideG_ A29.out).mono ?_); (case sideG_ => exact Glob.below HG_.out (by repeat (first | (with_reducible first | exact HB.out | apply below_alloc | apply pw_below_drewN | apply below_drew1 | apply bA | apply bN | apply bD) | exact HB.out))); rintro e w47 ⟨rfl, hb⟩; refine ⟨_, rfl, ?_⟩; have n0_ := Aside0.mk (below_step (by repeat (first | (with_reducible first | exact HB.out | apply below_alloc | apply pw_below_drewN | apply below_drew1) | exact HB.out)) hb); clear HB; have HB := n0_; clear n0_; (try clear hb); (try clear hb2); (try clear hk); (try clear hi)) | ((with_reducible refine gate_callee (f := 14) rfl ?_); refine goesL_ (some 74) rfl rfl Tryd.func14 (by kernel_rfl) rfl #[.string t194] rfl (by (try simp only [List.map_toArray, List.map_cons, List.map_nil]); first | done | rfl | (simp only [List.length_drop, List.length_take]; rfl)) ?_; (with_reducible refine (names_Split.calls kj9 t194 t198 t199 t200 _ ?sideG_ A30.out).mono ?_); (case sideG_ => exact Glob.below HG_.out (by repeat (first | (with_reducible first | exact HB.out | apply below_alloc | apply pw_below_drewN | apply below_drew1 | apply bA | apply bN | apply bD) | exact HB.out))); rintro e w48 ⟨rfl, hb⟩; refine ⟨_, rfl, ?_⟩; have n0_ := Aside0.mk (below_step (by repeat (first | (with_reducible first | exact HB.out | apply below_alloc | apply pw_below_drewN | apply below_drew1) | exact HB.out)) hb); clear HB; have HB := n0_; clear n0_; (try clear hb); (try clear hb2); (try clear hk); (try clear hi)))
                    go_ret
                    exact ⟨by first | rfl | (simp [errW_none, errW_some] <;> rfl) | (simp [*, errW_none, errW_some] <;> rfl), by repeat (first | (with_reducible first | exact HB.out | apply below_alloc | apply pw_below_drewN | apply below_drew1) | exact HB.out)⟩
                · as_aux_lemma =>
                  replace c31 := Bool.eq_false_iff.mpr c31
                  subst c31
                  have H1 : (some false) = some r := by rw [if_neg (show ¬ (false = true) by decide)] at H; exact H
                  clear H
                  have H := H1
                  clear H1
                  obtain rfl := Option.some.inj H
                  go_wp2_with (first | ((with_reducible refine gate_callee (f := 18) rfl ?_); refine goesL_ (some 68) rfl rfl Tryd.func18 (by kernel_rfl) rfl #[.string t194] rfl (by (try simp only [List.map_toArray, List.map_cons, List.map_nil]); first | done | rfl | (simp only [List.length_drop, List.length_take]; rfl)) ?_; (with_reducible refine (names_Base.calls kj9 t194 t195 t196 false _ ?sideG_ A29.out).mono ?_); (case sideG_ => exact Glob.below HG_.out (by repeat (first | (with_reducible first | exact HB.out | apply below_alloc | apply pw_below_drewN | apply below_drew1 | apply bA | apply bN | apply bD) | exact HB.out))); rintro e w49 ⟨rfl, hb⟩; refine ⟨_, rfl, ?_⟩; have n0_ := Aside0.mk (below_step (by repeat (first | (with_reducible first | exact HB.out | apply below_alloc | apply pw_below_drewN | apply below_drew1) | exact HB.out)) hb); clear HB; have HB := n0_; clear n0_; (try clear hb); (try clear hb2); (try clear hk); (try clear hi)) | ((with_reducible refine gate_callee (f := 14) rfl ?_); refine goesL_ (some 74) rfl rfl Tryd.func14 (by kernel_rfl) rfl #[.string t194] rfl (by (try simp only [List.map_toArray, List.map_cons, List.map_nil]); first | done | rfl | (simp only [List.length_drop, List.length_take]; rfl)) ?_; (with_reducible refine (names_Split.calls kj9 t194 t198 t199 t200 _ ?sideG_ A30.out).mono ?_); (case sideG_ => exact Glob.below HG_.out (by repeat (first | (with_reducible first | exact HB.out | apply below_alloc | apply pw_below_drewN | apply below_drew1 | apply bA | apply bN | apply bD) | exact HB.out))); rintro e w50 ⟨rfl, hb⟩; refine ⟨_, rfl, ?_⟩; have n0_ := Aside0.mk (below_step (by repeat (first | (with_reducible first | exact HB.out | apply below_alloc | apply pw_below_drewN | apply below_drew1) | exact HB.out)) hb); clear HB; have HB := n0_; clear n0_; (try clear hb); (try clear hb2); (try clear hk); (try clear hi)))
                  go_ret
                  exact ⟨by first | rfl | (simp [errW_none, errW_some] <;> rfl) | (simp [*, errW_none, errW_some] <;> rfl), by repeat (first | (with_reducible first | exact HB.out | apply below_alloc | apply pw_below_drewN | apply below_drew1) | exact HB.out)⟩
            case rest => as_aux_lemma =>
              clear HC26
              try clear c1
              try clear c2
              try clear p2
              try clear c3
              try clear c5
              try clear c5b0
              try clear c5b1
              try clear c6
              try clear c11
              try clear c11b0
              try clear c11b1
              try clear c13
              try clear c14
              try clear c14b0
              try clear c14b1
              try clear c15
              try clear c15b0
              try clear c15b1
              try clear c16
              try clear c17
              try clear c17b0
              try clear c17b1
              try clear c18
              try clear c20
              try clear c28
              try clear c28b0
              try clear c28b1
              try clear c31
              try clear c32
              try clear c32b0
              try clear c32b1
              try clear c33
              try clear c33b0
              try clear c33b1
              try clear c34
              try clear c38
              try clear c38b0
              try clear c38b1
              try clear p2
              obtain ⟨kq, HA, HJ25, HB⟩ := hcut
              cases kq with
              | zero => exact absurd HA.out (by simp [lazyclaw01_NamesRoundTrip.j2])
              | succ kj25 =>
                have H := HA.out
                clear HA
                simp only [lazyclaw01_NamesRoundTrip.j2] at H
                replace H := Option.bind_eq_some_iff.mp H
                obtain ⟨⟨t202, t203, t204⟩, A510, H⟩ := H
                replace H : ((names_Base.f kj25 a1).bind fun bt205 => (if t204 = true then ((names_Join.f kj25 t202 t203).bind fun t208 => (if t208.toList = a1.toList then ((names_Classify.f kj25 a1).bind fun t209 => (if t209 = 0 then (if bt205.2.2 = true then (lazyclaw01_NamesRoundTrip.j3 kj25 a1 bt205.2.2 true) else (if bt205.1.toList = ([] : List UInt8) then (lazyclaw01_NamesRoundTrip.j3 kj25 a1 bt205.2.2 (bt205.2.1 != 0)) else (lazyclaw01_NamesRoundTrip.j3 kj25 a1 bt205.2.2 true))) else (lazyclaw01_NamesRoundTrip.j3 kj25 a1 bt205.2.2 true))) else (lazyclaw01_NamesRoundTrip.j3 kj25 a1 bt205.2.2 true))) else (if bt205.2.2 = true then ((names_Made.f kj25 bt205.1 bt205.2.1).bind fun t210 => (if t210.toList = a1.toList then (if t202.toList = ([] : List UInt8) then (if t203.toList = ([] : List UInt8) then (lazyclaw01_NamesRoundTrip.j3 kj25 a1 bt205.2.2 false) else (lazyclaw01_NamesRoundTrip.j3 kj25 a1 bt205.2.2 true)) else (lazyclaw01_NamesRoundTrip.j3 kj25 a1 bt205.2.2 true)) else (lazyclaw01_NamesRoundTrip.j3 kj25 a1 bt205.2.2 true))) else (if t202.toList = ([] : List UInt8) then (if t203.toList = ([] : List UInt8) then (if bt205.1.toList = ([] : List UInt8) then (lazyclaw01_NamesRoundTrip.j3 kj25 a1 bt205.2.2 (bt205.2.1 != 0)) else (lazyclaw01_NamesRoundTrip.j3 kj25 a1 bt205.2.2 true)) else (lazyclaw01_NamesRoundTrip.j3 kj25 a1 bt205.2.2 true)) else (lazyclaw01_NamesRoundTrip.j3 kj25 a1 bt205.2.2 true))))) = some r := H
                have A51 := Aside0.mk A510
                clear A510
                replace H := Option.bind_eq_some_iff.mp H
                obtain ⟨⟨t205, t206, t207⟩, A520, H⟩ := H
                replace H : (if t204 = true then ((names_Join.f kj25 t202 t203).bind fun t208 => (if t208.toList = a1.toList then ((names_Classify.f kj25 a1).bind fun t209 => (if t209 = 0 then (if t207 = true then (lazyclaw01_NamesRoundTrip.j3 kj25 a1 t207 true) else (if t205.toList = ([] : List UInt8) then (lazyclaw01_NamesRoundTrip.j3 kj25 a1 t207 (t206 != 0)) else (lazyclaw01_NamesRoundTrip.j3 kj25 a1 t207 true))) else (lazyclaw01_NamesRoundTrip.j3 kj25 a1 t207 true))) else (lazyclaw01_NamesRoundTrip.j3 kj25 a1 t207 true))) else (if t207 = true then ((names_Made.f kj25 t205 t206).bind fun t210 => (if t210.toList = a1.toList then (if t202.toList = ([] : List UInt8) then (if t203.toList = ([] : List UInt8) then (lazyclaw01_NamesRoundTrip.j3 kj25 a1 t207 false) else (lazyclaw01_NamesRoundTrip.j3 kj25 a1 t207 true)) else (lazyclaw01_NamesRoundTrip.j3 kj25 a1 t207 true)) else (lazyclaw01_NamesRoundTrip.j3 kj25 a1 t207 true))) else (if t202.toList = ([] : List UInt8) then (if t203.toList = ([] : List UInt8) then (if t205.toList = ([] : List UInt8) then (lazyclaw01_NamesRoundTrip.j3 kj25 a1 t207 (t206 != 0)) else (lazyclaw01_NamesRoundTrip.j3 kj25 a1 t207 true)) else (lazyclaw01_NamesRoundTrip.j3 kj25 a1 t207 true)) else (lazyclaw01_NamesRoundTrip.j3 kj25 a1 t207 true)))) = some r := H
                have A52 := Aside0.mk A520
                clear A520
                have HC53 := Aside0.mk H
                clear H
                go_upto_region 16 with (first | ((with_reducible refine gate_callee (f := 14) rfl ?_); refine goesL_ (some 100) rfl rfl Tryd.func14 (by kernel_rfl) rfl #[.string a1] rfl (by (try simp only [List.map_toArray, List.map_cons, List.map_nil]); first | done | rfl | (simp only [List.length_drop, List.length_take]; rfl)) ?_; (with_reducible refine (names_Split.calls kj25 a1 t202 t203 t204 _ ?sideG_ A51.out).mono ?_); (case sideG_ => exact Glob.below HG_.out (by repeat (first | (with_reducible first | exact HB.out | apply below_alloc | apply pw_below_drewN | apply below_drew1 | apply bA | apply bN | apply bD) | exact HB.out))); rintro e w54 ⟨rfl, hb⟩; refine ⟨_, rfl, ?_⟩; have n0_ := Aside0.mk (below_step (by repeat (first | (with_reducible first | exact HB.out | apply below_alloc | apply pw_below_drewN | apply below_drew1) | exact HB.out)) hb); clear HB; have HB := n0_; clear n0_; (try clear hb); (try clear hb2); (try clear hk); (try clear hi)) | ((with_reducible refine gate_callee (f := 18) rfl ?_); refine goesL_ (some 106) rfl rfl Tryd.func18 (by kernel_rfl) rfl #[.string a1] rfl (by (try simp only [List.map_toArray, List.map_cons, List.map_nil]); first | done | rfl | (simp only [List.length_drop, List.length_take]; rfl)) ?_; (with_reducible refine (names_Base.calls kj25 a1 t205 t206 t207 _ ?sideG_ A52.out).mono ?_); (case sideG_ => exact Glob.below HG_.out (by repeat (first | (with_reducible first | exact HB.out | apply below_alloc | apply pw_below_drewN | apply below_drew1 | apply bA | apply bN | apply bD) | exact HB.out))); rintro e w55 ⟨rfl, hb⟩; refine ⟨_, rfl, ?_⟩; have n0_ := Aside0.mk (below_step (by repeat (first | (with_reducible first | exact HB.out | apply below_alloc | apply pw_below_drewN | apply below_drew1) | exact HB.out)) hb); clear HB; have HB := n0_; clear n0_; (try clear hb); (try clear hb2); (try clear hk); (try clear hi)))
                (try simp only [Act.put, List.setIfInBounds_toArray, List.set_cons_zero, List.set_cons_succ])
                go_cut [159] (fun v159 wc => ∃ (kq : Nat) (x159_52 : Bool), v159 = .bool x159_52 ∧ Aside0 (lazyclaw01_NamesRoundTrip.j3 kq a1 t207 x159_52 = some r) ∧ Aside0 (kq ≤ kj25) ∧ Aside0 (Below w.heap.size w wc))
                case first => as_aux_lemma =>
                  have H := HC53.out
                  clear HC53
                  by_cases c56 : t204 = true
                  · as_aux_lemma =>
                    subst c56
                    have H1 : ((names_Join.f kj25 t202 t203).bind fun t208 => (if t208.toList = a1.toList then ((names_Classify.f kj25 a1).bind fun t209 => (if t209 = 0 then (if t207 = true then (lazyclaw01_NamesRoundTrip.j3 kj25 a1 t207 true) else (if t205.toList = ([] : List UInt8) then (lazyclaw01_NamesRoundTrip.j3 kj25 a1 t207 (t206 != 0)) else (lazyclaw01_NamesRoundTrip.j3 kj25 a1 t207 true))) else (lazyclaw01_NamesRoundTrip.j3 kj25 a1 t207 true))) else (lazyclaw01_NamesRoundTrip.j3 kj25 a1 t207 true))) = some r := by rw [if_pos rfl] at H; exact H
                    clear H
                    have H := H1
                    clear H1
                    replace H := Option.bind_eq_some_iff.mp H
                    obtain ⟨t208, A570, H⟩ := H
                    replace H : (if t208.toList = a1.toList then ((names_Classify.f kj25 a1).bind fun t209 => (if t209 = 0 then (if t207 = true then (lazyclaw01_NamesRoundTrip.j3 kj25 a1 t207 true) else (if t205.toList = ([] : List UInt8) then (lazyclaw01_NamesRoundTrip.j3 kj25 a1 t207 (t206 != 0)) else (lazyclaw01_NamesRoundTrip.j3 kj25 a1 t207 true))) else (lazyclaw01_NamesRoundTrip.j3 kj25 a1 t207 true))) else (lazyclaw01_NamesRoundTrip.j3 kj25 a1 t207 true)) = some r := H
                    have A57 := Aside0.mk A570
                    clear A570
                    by_cases c58 : t208.toList = a1.toList
                    · as_aux_lemma =>
                      rw [if_pos c58] at H
                      have c58b0 : (t208.toList == a1.toList) = true := beq_iff_eq.mpr c58
                      have c58b1 : (t208.toList != a1.toList) = false := bne_eq_false_iff_eq.mpr c58
                      clear c58
                      (first | rw [c58b0] | (simp only [i64_w, i32_w]; rw [c58b0]) | skip)
                      replace H := Option.bind_eq_some_iff.mp H
                      obtain ⟨t209, A590, H⟩ := H
                      replace H : (if t209 = 0 then (if t207 = true then (lazyclaw01_NamesRoundTrip.j3 kj25 a1 t207 true) else (if t205.toList = ([] : List UInt8) then (lazyclaw01_NamesRoundTrip.j3 kj25 a1 t207 (t206 != 0)) else (lazyclaw01_NamesRoundTrip.j3 kj25 a1 t207 true))) else (lazyclaw01_NamesRoundTrip.j3 kj25 a1 t207 true)) = some r := H
                      have A59 := Aside0.mk A590
                      clear A590
                      by_cases c60 : t209 = 0
                      · as_aux_lemma =>
                        rw [if_pos c60] at H
                        have c60b0 : (t209 == 0) = true := beq_iff_eq.mpr c60
                        have c60b1 : (t209 != 0) = false := bne_eq_false_iff_eq.mpr c60
                        clear c60
                        by_cases c61 : t207 = true
                        · as_aux_lemma =>
                          subst c61
                          have H1 : (lazyclaw01_NamesRoundTrip.j3 kj25 a1 true true) = some r := by rw [if_pos rfl] at H; exact H
                          clear H
                          have H := H1
                          clear H1
                          have H' := Aside0.mk H
                          clear H
                          go_wp2_with (first | (go_at_call 16; (with_reducible refine (names_Join.calls kj25 t202 t203 t208 _ A57.out).mono ?_); rintro e w' ⟨rfl, ⟨nd, rfl⟩⟩) | (go_at_call 12; (with_reducible refine (names_Classify.calls kj25 a1 t209 _ ?sideG_ A59.out).mono ?_); (case sideG_ => exact Glob.below HG_.out (by repeat (first | (with_reducible first | exact HB.out | apply below_alloc | apply pw_below_drewN | apply below_drew1 | apply bA | apply bN | apply bD) | exact HB.out))); rintro e w62 ⟨rfl, hb⟩; have n0_ := Aside0.mk (below_step (by repeat (first | (with_reducible first | exact HB.out | apply below_alloc | apply pw_below_drewN | apply below_drew1) | exact HB.out)) hb); clear HB; have HB := n0_; clear n0_; (try clear hb); (try clear hb2); (try clear hk); (try clear hi)))
                          go_meet
                          case rel => exact ⟨_, (true), (by first | rfl | (simp; done) | (simp [*]; done)), H', ⟨by have := HJ3.out; have := HJ9.out; have := HJ25.out; first | omega | exact Nat.le_refl _⟩, ⟨by repeat (first | (with_reducible first | exact HB.out | apply below_alloc | apply pw_below_drewN | apply below_drew1) | exact HB.out)⟩⟩
                        · as_aux_lemma =>
                          replace c61 := Bool.eq_false_iff.mpr c61
                          subst c61
                          have H1 : (if t205.toList = ([] : List UInt8) then (lazyclaw01_NamesRoundTrip.j3 kj25 a1 false (t206 != 0)) else (lazyclaw01_NamesRoundTrip.j3 kj25 a1 false true)) = some r := by rw [if_neg (show ¬ (false = true) by decide)] at H; exact H
                          clear H
                          have H := H1
                          clear H1
                          by_cases c63 : t205.toList = ([] : List UInt8)
                          · as_aux_lemma =>
                            rw [if_pos c63] at H
                            have c63b0 : (t205.toList == ([] : List UInt8)) = true := beq_iff_eq.mpr c63
                            have c63b1 : (t205.toList != ([] : List UInt8)) = false := bne_eq_false_iff_eq.mpr c63
                            have c63b9 : t205.toList.isEmpty = true := List.isEmpty_iff.mpr (beq_iff_eq.mp c63b0)
                            clear c63
                            have H' := Aside0.mk H
                            clear H
                            go_wp2_with (first | (go_at_call 16; (with_reducible refine (names_Join.calls kj25 t202 t203 t208 _ A57.out).mono ?_); rintro e w' ⟨rfl, ⟨nd, rfl⟩⟩) | (go_at_call 12; (with_reducible refine (names_Classify.calls kj25 a1 t209 _ ?sideG_ A59.out).mono ?_); (case sideG_ => exact Glob.below HG_.out (by repeat (first | (with_reducible first | exact HB.out | apply below_alloc | apply pw_below_drewN | apply below_drew1 | apply bA | apply bN | apply bD) | exact HB.out))); rintro e w64 ⟨rfl, hb⟩; have n0_ := Aside0.mk (below_step (by repeat (first | (with_reducible first | exact HB.out | apply below_alloc | apply pw_below_drewN | apply below_drew1) | exact HB.out)) hb); clear HB; have HB := n0_; clear n0_; (try clear hb); (try clear hb2); (try clear hk); (try clear hi)))
                            go_meet
                            case rel => exact ⟨_, ((t206 != 0)), (by first | rfl | (simp; done) | (simp [*]; done)), H', ⟨by have := HJ3.out; have := HJ9.out; have := HJ25.out; first | omega | exact Nat.le_refl _⟩, ⟨by repeat (first | (with_reducible first | exact HB.out | apply below_alloc | apply pw_below_drewN | apply below_drew1) | exact HB.out)⟩⟩
                          · as_aux_lemma =>
                            rw [if_neg c63] at H
                            have c63b0 : (t205.toList == ([] : List UInt8)) = false := beq_eq_false_iff_ne.mpr c63
                            have c63b1 : (t205.toList != ([] : List UInt8)) = true := bne_iff_ne.mpr c63
                            have c63b9 : t205.toList.isEmpty = false := Bool.eq_false_iff.mpr (fun e_ => beq_eq_false_iff_ne.mp c63b0 (List.isEmpty_iff.mp e_))
                            have H' := Aside0.mk H
                            clear H
                            go_wp2_with (first | (go_at_call 16; (with_reducible refine (names_Join.calls kj25 t202 t203 t208 _ A57.out).mono ?_); rintro e w' ⟨rfl, ⟨nd, rfl⟩⟩) | (go_at_call 12; (with_reducible refine (names_Classify.calls kj25 a1 t209 _ ?sideG_ A59.out).mono ?_); (case sideG_ => exact Glob.below HG_.out (by repeat (first | (with_reducible first | exact HB.out | apply below_alloc | apply pw_below_drewN | apply below_drew1 | apply bA | apply bN | apply bD) | exact HB.out))); rintro e w65 ⟨rfl, hb⟩; have n0_ := Aside0.mk (below_step (by repeat (first | (with_reducible first | exact HB.out | apply below_alloc | apply pw_below_drewN | apply below_drew1) | exact HB.out)) hb); clear HB; have HB := n0_; clear n0_; (try clear hb); (try clear hb2); (try clear hk); (try clear hi)))
                            go_meet
                            case rel => exact ⟨_, (true), (by first | rfl | (simp; done) | (simp [*]; done)), H', ⟨by have := HJ3.out; have := HJ9.out; have := HJ25.out; first | omega | exact Nat.le_refl _⟩, ⟨by repeat (first | (with_reducible first | exact HB.out | apply below_alloc | apply pw_below_drewN | apply below_drew1) | exact HB.out)⟩⟩
                      · as_aux_lemma =>
                        rw [if_neg c60] at H
                        have c60b0 : (t209 == 0) = false := beq_eq_false_iff_ne.mpr c60
                        have c60b1 : (t209 != 0) = true := bne_iff_ne.mpr c60
                        have H' := Aside0.mk H
                        clear H
                        go_wp2_with (first | (go_at_call 16; (with_reducible refine (names_Join.calls kj25 t202 t203 t208 _ A57.out).mono ?_); rintro e w' ⟨rfl, ⟨nd, rfl⟩⟩) | (go_at_call 12; (with_reducible refine (names_Classify.calls kj25 a1 t209 _ ?sideG_ A59.out).mono ?_); (case sideG_ => exact Glob.below HG_.out (by repeat (first | (with_reducible first | exact HB.out | apply below_alloc | apply pw_below_drewN | apply below_drew1 | apply bA | apply bN | apply bD) | exact HB.out))); rintro e w66 ⟨rfl, hb⟩; have n0_ := Aside0.mk (below_step (by repeat (first | (with_reducible first | exact HB.out | apply below_alloc | apply pw_below_drewN | apply below_drew1) | exact HB.out)) hb); clear HB; have HB := n0_; clear n0_; (try clear hb); (try clear hb2); (try clear hk); (try clear hi)))
                        go_meet
                        case rel => exact ⟨_, (true), (by first | rfl | (simp; done) | (simp [*]; done)), H', ⟨by have := HJ3.out; have := HJ9.out; have := HJ25.out; first | omega | exact Nat.le_refl _⟩, ⟨by repeat (first | (with_reducible first | exact HB.out | apply below_alloc | apply pw_below_drewN | apply below_drew1) | exact HB.out)⟩⟩
                    · as_aux_lemma =>
                      rw [if_neg c58] at H
                      have c58b0 : (t208.toList == a1.toList) = false := beq_eq_false_iff_ne.mpr c58
                      have c58b1 : (t208.toList != a1.toList) = true := bne_iff_ne.mpr c58
                      (first | rw [c58b0] | (simp only [i64_w, i32_w]; rw [c58b0]) | skip)
                      have H' := Aside0.mk H
                      clear H
                      go_wp2_with (first | (go_at_call 16; (with_reducible refine (names_Join.calls kj25 t202 t203 t208 _ A57.out).mono ?_); rintro e w' ⟨rfl, ⟨nd, rfl⟩⟩))
                      go_meet
                      case rel => exact ⟨_, (true), (by first | rfl | (simp; done) | (simp [*]; done)), H', ⟨by have := HJ3.out; have := HJ9.out; have := HJ25.out; first | omega | exact Nat.le_refl _⟩, ⟨by repeat (first | (with_reducible first | exact HB.out | apply below_alloc | apply pw_below_drewN | apply below_drew1) | exact HB.out)⟩⟩
                  · as_aux_lemma =>
                    replace c56 := Bool.eq_false_iff.mpr c56
                    subst c56
                    have H1 : (if t207 = true then ((names_Made.f kj25 t205 t206).bind fun t210 => (if t210.toList = a1.toList then (if t202.toList = ([] : List UInt8) then (if t203.toList = ([] : List UInt8) then (lazyclaw01_NamesRoundTrip.j3 kj25 a1 t207 false) else (lazyclaw01_NamesRoundTrip.j3 kj25 a1 t207 true)) else (lazyclaw01_NamesRoundTrip.j3 kj25 a1 t207 true)) else (lazyclaw01_NamesRoundTrip.j3 kj25 a1 t207 true))) else (if t202.toList = ([] : List UInt8) then (if t203.toList = ([] : List UInt8) then (if t205.toList = ([] : List UInt8) then (lazyclaw01_NamesRoundTrip.j3 kj25 a1 t207 (t206 != 0)) else (lazyclaw01_NamesRoundTrip.j3 kj25 a1 t207 true)) else (lazyclaw01_NamesRoundTrip.j3 kj25 a1 t207 true)) else (lazyclaw01_NamesRoundTrip.j3 kj25 a1 t207 true))) = some r := by rw [if_neg (show ¬ (false = true) by decide)] at H; exact H
                    clear H
                    have H := H1
                    clear H1
                    by_cases c67 : t207 = true
                    · as_aux_lemma =>
                      subst c67
                      have H1 : ((names_Made.f kj25 t205 t206).bind fun t210 => (if t210.toList = a1.toList then (if t202.toList = ([] : List UInt8) then (if t203.toList = ([] : List UInt8) then (lazyclaw01_NamesRoundTrip.j3 kj25 a1 true false) else (lazyclaw01_NamesRoundTrip.j3 kj25 a1 true true)) else (lazyclaw01_NamesRoundTrip.j3 kj25 a1 true true)) else (lazyclaw01_NamesRoundTrip.j3 kj25 a1 true true))) = some r := by rw [if_pos rfl] at H; exact H
                      clear H
                      have H := H1
                      clear H1
                      replace H := Option.bind_eq_some_iff.mp H
                      obtain ⟨t210, A680, H⟩ := H
                      replace H : (if t210.toList = a1.toList then (if t202.toList = ([] : List UInt8) then (if t203.toList = ([] : List UInt8) then (lazyclaw01_NamesRoundTrip.j3 kj25 a1 true false) else (lazyclaw01_NamesRoundTrip.j3 kj25 a1 true true)) else (lazyclaw01_NamesRoundTrip.j3 kj25 a1 true true)) else (lazyclaw01_NamesRoundTrip.j3 kj25 a1 true true)) = some r := H
                      have A68 := Aside0.mk A680
                      clear A680
                      by_cases c69 : t210.toList = a1.toList
                      · as_aux_lemma =>
                        rw [if_pos c69] at H
                        have c69b0 : (t210.toList == a1.toList) = true := beq_iff_eq.mpr c69
                        have c69b1 : (t210.toList != a1.toList) = false := bne_eq_false_iff_eq.mpr c69
                        clear c69
                        by_cases c70 : t202.toList = ([] : List UInt8)
                        · as_aux_lemma =>
                          rw [if_pos c70] at H
                          have c70b0 : (t202.toList == ([] : List UInt8)) = true := beq_iff_eq.mpr c70
                          have c70b1 : (t202.toList != ([] : List UInt8)) = false := bne_eq_false_iff_eq.mpr c70
                          have c70b9 : t202.toList.isEmpty = true := List.isEmpty_iff.mpr (beq_iff_eq.mp c70b0)
                          clear c70
                          by_cases c71 : t203.toList = ([] : List UInt8)
                          · as_aux_lemma =>
                            rw [if_pos c71] at H
                            have c71b0 : (t203.toList == ([] : List UInt8)) = true := beq_iff_eq.mpr c71
                            have c71b1 : (t203.toList != ([] : List UInt8)) = false := bne_eq_false_iff_eq.mpr c71
                            have c71b9 : t203.toList.isEmpty = true := List.isEmpty_iff.mpr (beq_iff_eq.mp c71b0)
                            clear c71
                            have H' := Aside0.mk H
                            clear H
                            go_wp2_with (first | (go_at_call 20; (with_reducible refine (names_Made.calls kj25 t205 t206 t210 _ ?sideG_ A68.out).mono ?_); (case sideG_ => exact Glob.below HG_.out (by repeat (first | (with_reducible first | exact HB.out | apply below_alloc | apply pw_below_drewN | apply below_drew1 | apply bA | apply bN | apply bD) | exact HB.out))); rintro e w72 ⟨rfl, hb⟩; have n0_ := Aside0.mk (below_step (by repeat (first | (with_reducible first | exact HB.out | apply below_alloc | apply pw_below_drewN | apply below_drew1) | exact HB.out)) hb); clear HB; have HB := n0_; clear n0_; (try clear hb); (try clear hb2); (try clear hk); (try clear hi)))
                            go_meet
                            case rel => exact ⟨_, (false), (by first | rfl | (simp; done) | (simp [*]; done)), H', ⟨by have := HJ3.out; have := HJ9.out; have := HJ25.out; first | omega | exact Nat.le_refl _⟩, ⟨by repeat (first | (with_reducible first | exact HB.out | apply below_alloc | apply pw_below_drewN | apply below_drew1) | exact HB.out)⟩⟩
                          · as_aux_lemma =>
                            rw [if_neg c71] at H
                            have c71b0 : (t203.toList == ([] : List UInt8)) = false := beq_eq_false_iff_ne.mpr c71
                            have c71b1 : (t203.toList != ([] : List UInt8)) = true := bne_iff_ne.mpr c71
                            have c71b9 : t203.toList.isEmpty = false := Bool.eq_false_iff.mpr (fun e_ => beq_eq_false_iff_ne.mp c71b0 (List.isEmpty_iff.mp e_))
                            have H' := Aside0.mk H
                            clear H
                            go_wp2_with (first | (go_at_call 20; (with_reducible refine (names_Made.calls kj25 t205 t206 t210 _ ?sideG_ A68.out).mono ?_); (case sideG_ => exact Glob.below HG_.out (by repeat (first | (with_reducible first | exact HB.out | apply below_alloc | apply pw_below_drewN | apply below_drew1 | apply bA | apply bN | apply bD) | exact HB.out))); rintro e w73 ⟨rfl, hb⟩; have n0_ := Aside0.mk (below_step (by repeat (first | (with_reducible first | exact HB.out | apply below_alloc | apply pw_below_drewN | apply below_drew1) | exact HB.out)) hb); clear HB; have HB := n0_; clear n0_; (try clear hb); (try clear hb2); (try clear hk); (try clear hi)))
                            go_meet
                            case rel => exact ⟨_, (true), (by first | rfl | (simp; done) | (simp [*]; done)), H', ⟨by have := HJ3.out; have := HJ9.out; have := HJ25.out; first | omega | exact Nat.le_refl _⟩, ⟨by repeat (first | (with_reducible first | exact HB.out | apply below_alloc | apply pw_below_drewN | apply below_drew1) | exact HB.out)⟩⟩
                        · as_aux_lemma =>
                          rw [if_neg c70] at H
                          have c70b0 : (t202.toList == ([] : List UInt8)) = false := beq_eq_false_iff_ne.mpr c70
                          have c70b1 : (t202.toList != ([] : List UInt8)) = true := bne_iff_ne.mpr c70
                          have c70b9 : t202.toList.isEmpty = false := Bool.eq_false_iff.mpr (fun e_ => beq_eq_false_iff_ne.mp c70b0 (List.isEmpty_iff.mp e_))
                          have H' := Aside0.mk H
                          clear H
                          go_wp2_with (first | (go_at_call 20; (with_reducible refine (names_Made.calls kj25 t205 t206 t210 _ ?sideG_ A68.out).mono ?_); (case sideG_ => exact Glob.below HG_.out (by repeat (first | (with_reducible first | exact HB.out | apply below_alloc | apply pw_below_drewN | apply below_drew1 | apply bA | apply bN | apply bD) | exact HB.out))); rintro e w74 ⟨rfl, hb⟩; have n0_ := Aside0.mk (below_step (by repeat (first | (with_reducible first | exact HB.out | apply below_alloc | apply pw_below_drewN | apply below_drew1) | exact HB.out)) hb); clear HB; have HB := n0_; clear n0_; (try clear hb); (try clear hb2); (try clear hk); (try clear hi)))
                          go_meet
                          case rel => exact ⟨_, (true), (by first | rfl | (simp; done) | (simp [*]; done)), H', ⟨by have := HJ3.out; have := HJ9.out; have := HJ25.out; first | omega | exact Nat.le_refl _⟩, ⟨by repeat (first | (with_reducible first | exact HB.out | apply below_alloc | apply pw_below_drewN | apply below_drew1) | exact HB.out)⟩⟩
                      · as_aux_lemma =>
                        rw [if_neg c69] at H
                        have c69b0 : (t210.toList == a1.toList) = false := beq_eq_false_iff_ne.mpr c69
                        have c69b1 : (t210.toList != a1.toList) = true := bne_iff_ne.mpr c69
                        have H' := Aside0.mk H
                        clear H
                        go_wp2_with (first | (go_at_call 20; (with_reducible refine (names_Made.calls kj25 t205 t206 t210 _ ?sideG_ A68.out).mono ?_); (case sideG_ => exact Glob.below HG_.out (by repeat (first | (with_reducible first | exact HB.out | apply below_alloc | apply pw_below_drewN | apply below_drew1 | apply bA | apply bN | apply bD) | exact HB.out))); rintro e w75 ⟨rfl, hb⟩; have n0_ := Aside0.mk (below_step (by repeat (first | (with_reducible first | exact HB.out | apply below_alloc | apply pw_below_drewN | apply below_drew1) | exact HB.out)) hb); clear HB; have HB := n0_; clear n0_; (try clear hb); (try clear hb2); (try clear hk); (try clear hi)))
                        go_meet
                        case rel => exact ⟨_, (true), (by first | rfl | (simp; done) | (simp [*]; done)), H', ⟨by have := HJ3.out; have := HJ9.out; have := HJ25.out; first | omega | exact Nat.le_refl _⟩, ⟨by repeat (first | (with_reducible first | exact HB.out | apply below_alloc | apply pw_below_drewN | apply below_drew1) | exact HB.out)⟩⟩
                    · as_aux_lemma =>
                      replace c67 := Bool.eq_false_iff.mpr c67
                      subst c67
                      have H1 : (if t202.toList = ([] : List UInt8) then (if t203.toList = ([] : List UInt8) then (if t205.toList = ([] : List UInt8) then (lazyclaw01_NamesRoundTrip.j3 kj25 a1 false (t206 != 0)) else (lazyclaw01_NamesRoundTrip.j3 kj25 a1 false true)) else (lazyclaw01_NamesRoundTrip.j3 kj25 a1 false true)) else (lazyclaw01_NamesRoundTrip.j3 kj25 a1 false true)) = some r := by rw [if_neg (show ¬ (false = true) by decide)] at H; exact H
                      clear H
                      have H := H1
                      clear H1
                      by_cases c76 : t202.toList = ([] : List UInt8)
                      · as_aux_lemma =>
                        rw [if_pos c76] at H
                        have c76b0 : (t202.toList == ([] : List UInt8)) = true := beq_iff_eq.mpr c76
                        have c76b1 : (t202.toList != ([] : List UInt8)) = false := bne_eq_false_iff_eq.mpr c76
                        have c76b9 : t202.toList.isEmpty = true := List.isEmpty_iff.mpr (beq_iff_eq.mp c76b0)
                        clear c76
                        by_cases c77 : t203.toList = ([] : List UInt8)
                        · as_aux_lemma =>
                          rw [if_pos c77] at H
                          have c77b0 : (t203.toList == ([] : List UInt8)) = true := beq_iff_eq.mpr c77
                          have c77b1 : (t203.toList != ([] : List UInt8)) = false := bne_eq_false_iff_eq.mpr c77
                          have c77b9 : t203.toList.isEmpty = true := List.isEmpty_iff.mpr (beq_iff_eq.mp c77b0)
                          clear c77
                          by_cases c78 : t205.toList = ([] : List UInt8)
                          · as_aux_lemma =>
                            rw [if_pos c78] at H
                            have c78b0 : (t205.toList == ([] : List UInt8)) = true := beq_iff_eq.mpr c78
                            have c78b1 : (t205.toList != ([] : List UInt8)) = false := bne_eq_false_iff_eq.mpr c78
                            have c78b9 : t205.toList.isEmpty = true := List.isEmpty_iff.mpr (beq_iff_eq.mp c78b0)
                            clear c78
                            have H' := Aside0.mk H
                            clear H
                            go_wp2
                            go_meet
                            case rel => exact ⟨_, ((t206 != 0)), (by first | rfl | (simp; done) | (simp [*]; done)), H', ⟨by have := HJ3.out; have := HJ9.out; have := HJ25.out; first | omega | exact Nat.le_refl _⟩, ⟨by repeat (first | (with_reducible first | exact HB.out | apply below_alloc | apply pw_below_drewN | apply below_drew1) | exact HB.out)⟩⟩
                          · as_aux_lemma =>
                            rw [if_neg c78] at H
                            have c78b0 : (t205.toList == ([] : List UInt8)) = false := beq_eq_false_iff_ne.mpr c78
                            have c78b1 : (t205.toList != ([] : List UInt8)) = true := bne_iff_ne.mpr c78
                            have c78b9 : t205.toList.isEmpty = false := Bool.eq_false_iff.mpr (fun e_ => beq_eq_false_iff_ne.mp c78b0 (List.isEmpty_iff.mp e_))
                            have H' := Aside0.mk H
                            clear H
                            go_wp2
                            go_meet
                            case rel => exact ⟨_, (true), (by first | rfl | (simp; done) | (simp [*]; done)), H', ⟨by have := HJ3.out; have := HJ9.out; have := HJ25.out; first | omega | exact Nat.le_refl _⟩, ⟨by repeat (first | (with_reducible first | exact HB.out | apply below_alloc | apply pw_below_drewN | apply below_drew1) | exact HB.out)⟩⟩
                        · as_aux_lemma =>
                          rw [if_neg c77] at H
                          have c77b0 : (t203.toList == ([] : List UInt8)) = false := beq_eq_false_iff_ne.mpr c77
                          have c77b1 : (t203.toList != ([] : List UInt8)) = true := bne_iff_ne.mpr c77
                          have c77b9 : t203.toList.isEmpty = false := Bool.eq_false_iff.mpr (fun e_ => beq_eq_false_iff_ne.mp c77b0 (List.isEmpty_iff.mp e_))
                          have H' := Aside0.mk H
                          clear H
                          go_wp2
                          go_meet
                          case rel => exact ⟨_, (true), (by first | rfl | (simp; done) | (simp [*]; done)), H', ⟨by have := HJ3.out; have := HJ9.out; have := HJ25.out; first | omega | exact Nat.le_refl _⟩, ⟨by repeat (first | (with_reducible first | exact HB.out | apply below_alloc | apply pw_below_drewN | apply below_drew1) | exact HB.out)⟩⟩
                      · as_aux_lemma =>
                        rw [if_neg c76] at H
                        have c76b0 : (t202.toList == ([] : List UInt8)) = false := beq_eq_false_iff_ne.mpr c76
                        have c76b1 : (t202.toList != ([] : List UInt8)) = true := bne_iff_ne.mpr c76
                        have c76b9 : t202.toList.isEmpty = false := Bool.eq_false_iff.mpr (fun e_ => beq_eq_false_iff_ne.mp c76b0 (List.isEmpty_iff.mp e_))
                        have H' := Aside0.mk H
                        clear H
                        go_wp2
                        go_meet
                        case rel => exact ⟨_, (true), (by first | rfl | (simp; done) | (simp [*]; done)), H', ⟨by have := HJ3.out; have := HJ9.out; have := HJ25.out; first | omega | exact Nat.le_refl _⟩, ⟨by repeat (first | (with_reducible first | exact HB.out | apply below_alloc | apply pw_below_drewN | apply below_drew1) | exact HB.out)⟩⟩
                case rest => as_aux_lemma =>
                  clear HC53
                  try clear c1
                  try clear c2
                  try clear p2
                  try clear c3
                  try clear c5
                  try clear c5b0
                  try clear c5b1
                  try clear c6
                  try clear c7
                  try clear c11
                  try clear c11b0
                  try clear c11b1
                  try clear c13
                  try clear c14
                  try clear c14b0
                  try clear c14b1
                  try clear c15
                  try clear c15b0
                  try clear c15b1
                  try clear c16
                  try clear c17
                  try clear c17b0
                  try clear c17b1
                  try clear c18
                  try clear c20
                  try clear c28
                  try clear c28b0
                  try clear c28b1
                  try clear c31
                  try clear c32
                  try clear c32b0
                  try clear c32b1
                  try clear c33
                  try clear c33b0
                  try clear c33b1
                  try clear c34
                  try clear c38
                  try clear c38b0
                  try clear c38b1
                  try clear c56
                  try clear c58
                  try clear c58b0
                  try clear c58b1
                  try clear c60
                  try clear c60b0
                  try clear c60b1
                  try clear c61
                  try clear c63
                  try clear c63b0
                  try clear c63b1
                  try clear c67
                  try clear c69
                  try clear c69b0
                  try clear c69b1
                  try clear c70
                  try clear c70b0
                  try clear c70b1
                  try clear c71
                  try clear c71b0
                  try clear c71b1
                  try clear c76
                  try clear c76b0
                  try clear c76b1
                  try clear c77
                  try clear c77b0
                  try clear c77b1
                  try clear c78
                  try clear c78b0
                  try clear c78b1
                  try clear p2
                  obtain ⟨kq, x159_52, rfl, HA, HJ52, HB⟩ := hcut
                  cases kq with
                  | zero => exact absurd HA.out (by simp [lazyclaw01_NamesRoundTrip.j3])
                  | succ kj52 =>
                    have H := HA.out
                    clear HA
                    simp only [lazyclaw01_NamesRoundTrip.j3] at H
                    by_cases c79 : x159_52 = true
                    · as_aux_lemma =>
                      subst c79
                      have H1 : (some false) = some r := by rw [if_pos rfl] at H; exact H
                      clear H
                      have H := H1
                      clear H1
                      obtain rfl := Option.some.inj H
                      go_wp2
                      go_ret
                      exact ⟨by first | rfl | (simp [errW_none, errW_some] <;> rfl) | (simp [*, errW_none, errW_some] <;> rfl), by repeat (first | (with_reducible first | exact HB.out | apply below_alloc | apply pw_below_drewN | apply below_drew1) | exact HB.out)⟩
                    · as_aux_lemma =>
                      replace c79 := Bool.eq_false_iff.mpr c79
                      subst c79
                      have H1 : ((names_Classify.f kj52 a1).bind fun t211 => (if (t207 == (t211 == 7)) = true then ((lazyclaw01_awake.f).bind fun t212 => (some t212)) else (some false))) = some r := by rw [if_neg (show ¬ (false = true) by decide)] at H; exact H
                      clear H
                      have H := H1
                      clear H1
                      replace H := Option.bind_eq_some_iff.mp H
                      obtain ⟨t211, A800, H⟩ := H
                      replace H : (if (t207 == (t211 == 7)) = true then ((lazyclaw01_awake.f).bind fun t212 => (some t212)) else (some false)) = some r := H
                      have A80 := Aside0.mk A800
                      clear A800
                      by_cases c81 : (t207 == (t211 == 7)) = true
                      · as_aux_lemma =>
                        rw [if_pos c81] at H
                        have c81b0 : (t207 == (t211 == 7)) = true := c81
                        (try (have c81b1 : decide (t207 = (t211 == 7)) = true := by simpa using c81))
                        (try (have c81b2 : (t207 == (t211 == 7)) = true := by simpa using c81))
                        clear c81
                        replace H := Option.bind_eq_some_iff.mp H
                        obtain ⟨t212, A820, H⟩ := H
                        replace H : (some t212) = some r := H
                        have A82 := Aside0.mk A820
                        clear A820
                        obtain rfl := Option.some.inj H
                        go_wp2_with (first | ((with_reducible refine gate_callee (f := 12) rfl ?_); refine goesL_ (some 162) rfl rfl Tryd.func12 (by kernel_rfl) rfl #[.string a1] rfl (by (try simp only [List.map_toArray, List.map_cons, List.map_nil]); first | done | rfl | (simp only [List.length_drop, List.length_take]; rfl)) ?_; (with_reducible refine (names_Classify.calls kj52 a1 t211 _ ?sideG_ A80.out).mono ?_); (case sideG_ => exact Glob.below HG_.out (by repeat (first | (with_reducible first | exact HB.out | apply below_alloc | apply pw_below_drewN | apply below_drew1 | apply bA | apply bN | apply bD) | exact HB.out))); rintro e w83 ⟨rfl, hb⟩; refine ⟨_, rfl, ?_⟩; have n0_ := Aside0.mk (below_step (by repeat (first | (with_reducible first | exact HB.out | apply below_alloc | apply pw_below_drewN | apply below_drew1) | exact HB.out)) hb); clear HB; have HB := n0_; clear n0_; (try clear hb); (try clear hb2); (try clear hk); (try clear hi)) | (go_at_call 11; (with_reducible refine (lazyclaw01_awake.calls  t212 _ ?sideG_ A82.out).mono ?_); (case sideG_ => exact Glob.below HG_.out (by repeat (first | (with_reducible first | exact HB.out | apply below_alloc | apply pw_below_drewN | apply below_drew1 | apply bA | apply bN | apply bD) | exact HB.out))); rintro e w84 ⟨rfl, hb⟩; have n0_ := Aside0.mk (below_step (by repeat (first | (with_reducible first | exact HB.out | apply below_alloc | apply pw_below_drewN | apply below_drew1) | exact HB.out)) hb); clear HB; have HB := n0_; clear n0_; (try clear hb); (try clear hb2); (try clear hk); (try clear hi)))
                        go_ret
                        exact ⟨by first | rfl | (simp [errW_none, errW_some] <;> rfl) | (simp [*, errW_none, errW_some] <;> rfl), by repeat (first | (with_reducible first | exact HB.out | apply below_alloc | apply pw_below_drewN | apply below_drew1) | exact HB.out)⟩
                      · as_aux_lemma =>
                        rw [if_neg c81] at H
                        have c81b0 : (t207 == (t211 == 7)) = false := by simpa using c81
                        (try (have c81b1 : decide (t207 = (t211 == 7)) = false := by simpa using c81))
                        (try (have c81b2 : (t207 == (t211 == 7)) = false := by simpa using c81))
                        (try (have c81b3 : ¬ (t207 = (t211 == 7)) := by simpa using c81))
                        clear c81
                        obtain rfl := Option.some.inj H
                        go_wp2_with (first | ((with_reducible refine gate_callee (f := 12) rfl ?_); refine goesL_ (some 162) rfl rfl Tryd.func12 (by kernel_rfl) rfl #[.string a1] rfl (by (try simp only [List.map_toArray, List.map_cons, List.map_nil]); first | done | rfl | (simp only [List.length_drop, List.length_take]; rfl)) ?_; (with_reducible refine (names_Classify.calls kj52 a1 t211 _ ?sideG_ A80.out).mono ?_); (case sideG_ => exact Glob.below HG_.out (by repeat (first | (with_reducible first | exact HB.out | apply below_alloc | apply pw_below_drewN | apply below_drew1 | apply bA | apply bN | apply bD) | exact HB.out))); rintro e w85 ⟨rfl, hb⟩; refine ⟨_, rfl, ?_⟩; have n0_ := Aside0.mk (below_step (by repeat (first | (with_reducible first | exact HB.out | apply below_alloc | apply pw_below_drewN | apply below_drew1) | exact HB.out)) hb); clear HB; have HB := n0_; clear n0_; (try clear hb); (try clear hb2); (try clear hk); (try clear hi)))
                        go_ret
                        exact ⟨by first | rfl | (simp [errW_none, errW_some] <;> rfl) | (simp [*, errW_none, errW_some] <;> rfl), by repeat (first | (with_reducible first | exact HB.out | apply below_alloc | apply pw_below_drewN | apply below_drew1) | exact HB.out)⟩

/-- THE ONE PURE STATEMENT of lazyclaw01_NamesRoundTrip: yours. -/
noncomputable def lazyclaw01_NamesRoundTrip.Pure : Prop := ∀ (a0 : ByteArray) (a1 : ByteArray) (a2 : Int), a0.size ≤ 140737488351232 → a1.size ≤ 140737488351232 → (Lit.int .i64 a2).wf = true → ∃ k, lazyclaw01_NamesRoundTrip.f k a0 a1 a2 = some true
theorem lazyclaw01_NamesRoundTrip.walk (P : lazyclaw01_NamesRoundTrip.Pure) (a0 : ByteArray) (a1 : ByteArray) (a2 : Int) (w : World) (w0 : a0.size ≤ 140737488351232) (w1 : a1.size ≤ 140737488351232) (w2 : (Lit.int .i64 a2).wf = true) (hG_ : Glob w) :
    Calls Tryd.prog 6 #[.string a0, .string a1, .int .i64 a2] w fun e w' => e = .returned (.bool true) ∧ Below w.heap.size w w' := by
  obtain ⟨k, h⟩ := P a0 a1 a2 w0 w1 w2
  refine (lazyclaw01_NamesRoundTrip.calls k a0 a1 a2 true w hG_ h).mono ?_
  rintro e w' ⟨rfl, hd⟩
  exact ⟨rfl, hd⟩

end Go.Proofs.YtfbhipcfjkkmmaaDoor.P
