/- Part 5 of 6 of one proof: A consistent list as a graph of numbers -/
import Derived.Test.YtmadhaccjmakdaaMDual1
import Derived.Test.YtmadhaccjmakdaaMDual2
import Derived.Test.YtmadhaccjmakdaaMDual3
import Derived.Test.YtmadhaccjmakdaaMDual4
set_option linter.unusedVariables false
set_option linter.unusedSimpArgs false
set_option maxHeartbeats 8000000
set_option maxRecDepth 100000
namespace Go.Proofs.Ytmadhaccjmakdaa.P
open Go.RowKit Go.Proofs.Yw.A Go.Proofs.Yw.A.Kd Go.Proofs.Yw.B Go.Proofs.Yw.C
attribute [local go_sem] str_gtr str_leq str_geq max2_int min2_int max_two min_two max_three min_three max_four min_four
mutual
noncomputable def w_ModgraphDual.j0 : Nat -> List (S42) -> ByteArray -> ByteArray -> Bool -> Option (Bool)
 | 0, _, _, _, _ => none
 | k + 1, x0, x1, x2, x27 => if x27 = true then ((w_awake.f).bind fun t597 => (some t597)) else ((m_Order.f k x0).bind fun bt598 => ((m_Cycle.f k x0).bind fun t606 => (if ((bt598.2.1 == 18) != (decide ((t606.length : Int) > 0))) = true then (some false) else (w_ModgraphDual.l0 k x0 x1 x2 t606 0 bt598.2.1 bt598.2.2.1 bt598.2.2.2.1 bt598.2.2.2.2))))
noncomputable def w_ModgraphDual.l0 : Nat -> List (S42) -> ByteArray -> ByteArray -> List ByteArray -> Int -> Int -> ByteArray -> Int -> Int -> Option (Bool)
 | 0, _, _, _, _, _, _, _, _, _ => none
 | k + 1, x0, x1, x2, x9, x10, x606000, x606001, x606002, x606003 => if x10 < (x9.length : Int) then (if 0 <= x10 then ((r_Imports.f k x0 (rdOf ByteArray.empty x9 x10)).bind fun t610 => (if (x9.length : Int) = 0 then (none) else (if 0 <= (Int.tmod (wrap64 (x10 + 1)) (x9.length : Int)) then (if (Int.tmod (wrap64 (x10 + 1)) (x9.length : Int)) < (x9.length : Int) then ((q_Has.f k t610 (rdOf ByteArray.empty x9 (Int.tmod (wrap64 (x10 + 1)) (x9.length : Int)))).bind fun t614 => (if t614 = true then (if x10 <= (x9.length : Int) then ((q_Has.f k (x9.take (x10 : Int).toNat) (rdOf ByteArray.empty x9 x10)).bind fun t620 => (if t620 = true then (some false) else (w_ModgraphDual.l0 k x0 x1 x2 x9 (wrap64 (x10 + 1)) x606000 x606001 x606002 x606003))) else (none)) else (some false))) else (none)) else (none)))) else (none)) else (if x606000 = 0 then ((m_Needs.f k x0 x1).bind fun bt624 => ((m_Users.f x0 x2).bind fun bt632 => (if bt624.2.1 = 0 then (w_ModgraphDual.j2 k x0 x1 x2 bt624.1 bt632.1 (bt632.2.1 != 0)) else (w_ModgraphDual.j2 k x0 x1 x2 bt624.1 bt632.1 true)))) else (if (x9.length : Int) = 0 then ((w_awake.f).bind fun t621 => (some t621)) else (if 0 < (x9.length : Int) then (if x606001.toList = (rdOf ByteArray.empty x9 0).toList then ((w_awake.f).bind fun t623 => (some t623)) else (some false)) else (none))))
noncomputable def w_ModgraphDual.j2 : Nat -> List (S42) -> ByteArray -> ByteArray -> List ByteArray -> List ByteArray -> Bool -> Option (Bool)
 | 0, _, _, _, _, _, _ => none
 | k + 1, x0, x1, x2, x11, x13, x111 => if x111 = true then ((w_awake.f).bind fun t640 => (some t640)) else ((q_Has.f k x11 x2).bind fun t641 => ((q_Has.f k x13 x1).bind fun t642 => (if (t641 != t642) = true then (some false) else ((r_Imports.f k x0 x1).bind fun t643 => (w_ModgraphDual.l1 k x0 x11 t643 0)))))
noncomputable def w_ModgraphDual.l1 : Nat -> List (S42) -> List ByteArray -> List ByteArray -> Int -> Option (Bool)
 | 0, _, _, _, _ => none
 | k + 1, x0, x11, x15, x16 => if x16 < (x15.length : Int) then (if 0 <= x16 then ((m_Needs.f k x0 (rdOf ByteArray.empty x15 x16)).bind fun bt648 => (w_ModgraphDual.l2 k x0 x11 x15 x16 bt648.1 0)) else (none)) else (if ((decide ((x15.length : Int) > 0)) == (decide ((x11.length : Int) > 0))) = true then ((w_awake.f).bind fun t646 => (some t646)) else (some false))
noncomputable def w_ModgraphDual.l2 : Nat -> List (S42) -> List ByteArray -> List ByteArray -> Int -> List ByteArray -> Int -> Option (Bool)
 | 0, _, _, _, _, _, _ => none
 | k + 1, x0, x11, x15, x16, x17, x19 => if x19 < (x17.length : Int) then (if 0 <= x19 then ((q_Has.f k x11 (rdOf ByteArray.empty x17 x19)).bind fun t657 => (if t657 = true then (w_ModgraphDual.l2 k x0 x11 x15 x16 x17 (wrap64 (x19 + 1))) else (some false))) else (none)) else (if 0 <= x16 then (if x16 < (x15.length : Int) then ((q_Has.f k x11 (rdOf ByteArray.empty x15 x16)).bind fun t659 => (if t659 = true then (w_ModgraphDual.l1 k x0 x11 x15 (wrap64 (x16 + 1))) else (some false))) else (none)) else (none))
end
noncomputable def w_ModgraphDual.f (k : Nat) (l0 : List (S42)) (a1 : ByteArray) (a2 : ByteArray) : Option (Bool) := (w_small.f k l0).bind fun t596 => (if t596 = true then (w_ModgraphDual.j0 k l0 a1 a2 (decide ((l0.length : Int) > 32))) else (w_ModgraphDual.j0 k l0 a1 a2 true))
noncomputable def w_ModgraphDual.T10 : Bool × List (List Nat × List Nat) := (true, [([], []), ([], []), ([], []), ([1, 2], [1, 2]), ([3], [3]), ([0, 4], [0, 4]), ([], []), ([], []), ([7], [7]), ([], []), ([9], [9]), ([8, 10], [8, 10]), ([6, 11], [6, 11]), ([12], [12]), ([5, 13, 5], [5, 13]), ([14], [14]), ([15, 14], [15]), ([16], [16]), ([16], [16]), ([17, 18, 16], [16, 17, 18]), ([16], [16]), ([16], [16]), ([20, 21, 16], [16, 20, 21]), ([22, 16], [16, 22]), ([19, 23, 16, 16], [16, 19, 23]), ([16, 24], [16, 24])])
noncomputable def w_ModgraphDual.B10 : List Nat := [0, 0, 0, 6, 14, 31, 0, 0, 128, 0, 512, 1920, 4032, 8128, 16383, 32767, 65535, 131071, 131071, 524287, 131071, 131071, 3276799, 7471103, 16777215, 33554431]
theorem w_ModgraphDual.tab10 : rtab .any (opsOf Try.f7 10) = w_ModgraphDual.T10 := by kernel_rfl
theorem w_ModgraphDual.bits10 : waitsOk w_ModgraphDual.T10.2 w_ModgraphDual.B10 = true := by kernel_rfl
noncomputable def w_ModgraphDual.T13 : Bool × List (List Nat × List Nat) := (true, [([], []), ([0], [0]), ([1], [1]), ([2], [2]), ([3], [3]), ([4, 3], [3, 4]), ([3], [3]), ([6, 3], [3, 6]), ([7, 3], [3, 7]), ([5, 8, 3], [3, 5, 8]), ([3, 9], [3, 9]), ([10, 3], [10]), ([11, 11], [11]), ([11, 12], [11, 12]), ([13, 12, 0, 1, 2, 3, 4, 5, 6, 7, 8, 9, 10, 11, 12, 13], [13])])
noncomputable def w_ModgraphDual.B13 : List Nat := [0, 1, 3, 7, 15, 31, 15, 79, 207, 511, 1023, 2047, 4095, 8191, 16383]
theorem w_ModgraphDual.tab13 : rtab .any (opsOf Try.f7 13) = w_ModgraphDual.T13 := by kernel_rfl
theorem w_ModgraphDual.bits13 : waitsOk w_ModgraphDual.T13.2 w_ModgraphDual.B13 = true := by kernel_rfl
theorem w_ModgraphDual.calls (k : Nat) (A0 : Option Addr) (c0 : Nat) (l0 : List (S42)) (a1 : ByteArray) (a2 : ByteArray) (r : Bool) (w : World) (hr0 : Kd.C k42 w A0 l0.length l0) (hc0 : l0.length <= c0) (h : w_ModgraphDual.f k l0 a1 a2 = some r) :
 Calls Try.prog 7 #[.slice A0 l0.length c0, .string a1, .string a2] w fun e w' => e = .returned (.bool r) /\ Below w.heap.size w w' := by
 have hu28 := Try.underlying28
 have HR0 := aM hr0
 have HC0 := aM hc0
 clear hr0 hc0
 have HB := aM (Below.refl w.heap.size w)
 have H : ((w_small.f k l0).bind fun t596 => (if t596 = true then (w_ModgraphDual.j0 k l0 a1 a2 (decide ((l0.length : Int) > 32))) else (w_ModgraphDual.j0 k l0 a1 a2 true))) = some r := h
 clear h
 have HC4 := aM H
 clear H
 go_enter Try.func7, Try.ntmps7
 go_upto_region 1 with (fail)
 go_cut [27] (fun v27 wc => ∃ (kq : Nat) (x27_3 : Bool), v27 = .bool x27_3 /\ Az (w_ModgraphDual.j0 kq l0 a1 a2 x27_3 = some r) /\ Az (kq <= k) /\ Az (Below w.heap.size w wc))
 case first =>
  have H := HC4.1
  clear HC4
  replace H := Option.bind_eq_some_iff.mp H
  obtain ⟨t596, A50, H⟩ := H
  try dsimp only at H
  have A5 := aM A50
  clear A50
  by_cases c6 : t596 = true
  · subst c6
    rw [if_pos rfl] at H
    have H' := aM H
    clear H
    go_wp2_with (first | ((with_reducible refine gate_callee (f := 8) rfl ?_); refine gL (some 21) rfl rfl Try.func8 (by kernel_rfl) rfl #[.slice A0 l0.length c0] rfl ?_; (with_reducible refine (w_small.calls k _ _ l0 true _ ?side1 ?side2 A5.1).mono ?_); (case side1 => exact cb HR0 HB); (case side2 => exact HC0.1); rintro e w' ⟨rfl, ⟨nd, rfl⟩⟩; refine ⟨_, rfl, ?_⟩))
    go_meet
    case rel => exact ⟨_, (decide ((l0.length : Int) > 32)), rr, H', ⟨by first | omega | exact Nat.le_refl _⟩, ⟨hh HB⟩⟩
  replace c6 := Bool.eq_false_iff.mpr c6
  subst c6
  rw [if_neg (show ¬ (false = true) by decide)] at H
  have H' := aM H
  clear H
  go_wp2_with (first | ((with_reducible refine gate_callee (f := 8) rfl ?_); refine gL (some 21) rfl rfl Try.func8 (by kernel_rfl) rfl #[.slice A0 l0.length c0] rfl ?_; (with_reducible refine (w_small.calls k _ _ l0 false _ ?side1 ?side2 A5.1).mono ?_); (case side1 => exact cb HR0 HB); (case side2 => exact HC0.1); rintro e w' ⟨rfl, ⟨nd, rfl⟩⟩; refine ⟨_, rfl, ?_⟩))
  go_meet
  case rel => exact ⟨_, (true), rr, H', ⟨by first | omega | exact Nat.le_refl _⟩, ⟨hh HB⟩⟩
 case rest =>
  clear HC4
  obtain ⟨kq, x27_3, rfl, HA, HJ3, HB⟩ := hcut
  cases kq with
  | zero => exact absurd HA.1 (by simp [w_ModgraphDual.j0])
  | succ kj3 =>
   have H := HA.1
   clear HA
   simp only [w_ModgraphDual.j0] at H
   by_cases c7 : x27_3 = true
   · subst c7
     rw [if_pos rfl] at H
     replace H := Option.bind_eq_some_iff.mp H
     obtain ⟨t597, A80, H⟩ := H
     try dsimp only at H
     have A8 := aM A80
     clear A80
     obtain rfl := Option.some.inj H
     go_wp2_with (first | ((with_reducible refine gate_callee (f := 9) rfl ?_); refine gL (some 28) rfl rfl Try.func9 (by kernel_rfl) rfl #[] rfl ?_; (with_reducible refine (w_awake.calls  t597 _ A8.1).mono ?_); rintro e w9 ⟨rfl, hb⟩; refine ⟨_, rfl, ?_⟩; replace HB := bs HB hb; clear hb))
     go_ret
     exact ⟨by first | rfl | (simp [errW_none, errW_some] <;> rfl) | (simp [*, errW_none, errW_some] <;> rfl), hh HB⟩
   replace c7 := Bool.eq_false_iff.mpr c7
   subst c7
   rw [if_neg (show ¬ (false = true) by decide)] at H
   replace H := Option.bind_eq_some_iff.mp H
   obtain ⟨⟨t598, t601, t602, t603, t604⟩, A100, H⟩ := H
   try dsimp only at H
   have A10 := aM A100
   clear A100
   replace H := Option.bind_eq_some_iff.mp H
   obtain ⟨t606, A110, H⟩ := H
   try dsimp only at H
   have A11 := aM A110
   clear A110
   by_cases c12 : ((t601 == 18) != (decide ((t606.length : Int) > 0))) = true
   · rw [if_pos c12] at H
     have c12b0 : ((t601 == 18) != (decide ((t606.length : Int) > 0))) = true := c12
     have c12b9 : (!((t601 == 18) == decide (0 < t606.length))) = true := by
      rw [show decide (0 < t606.length) = decide ((t606.length : Int) > 0) from decide_eq_decide.2 (by omega)]
      revert c12b0; cases (t601 == 18) <;> cases decide ((t606.length : Int) > 0) <;> simp
     (try (have c12b1 : decide ((t601 == 18) = (decide ((t606.length : Int) > 0))) = false := by simpa using c12))
     (try (have c12b2 : ((t601 == 18) == (decide ((t606.length : Int) > 0))) = false := by simpa using c12))
     (try (have c12b3 : ¬ ((t601 == 18) = (decide ((t606.length : Int) > 0))) := by simpa using c12))
     clear c12
     obtain rfl := Option.some.inj H
     go_wp2_with (first | ((with_reducible refine gate_callee (f := 10) rfl ?_); refine gL (some 31) rfl rfl Try.func10 (by kernel_rfl) rfl #[.slice A0 l0.length c0] rfl ?_; (with_reducible refine (m_Order.calls kj3 _ _ l0 t598 t601 t602 t603 t604 _ ?side1 ?side2 A10.1).mono ?_); (case side1 => exact cb HR0 HB); (case side2 => exact HC0.1); rintro e w13 ⟨v599, rfl, ho0, hb⟩; refine ⟨_, rfl, ?_⟩; have HO600 := aM (R_lower ho0 (below_size (hh HB))); replace HB := bs HB hb; clear hb ho0) | ((with_reducible refine gate_dst (N := 8) rfl ?_); (try (refine gate_guard (by rfl) ?_; dsimp only)); refine be 8 rfl rfl #[.int .i64 0, .string (⟨#[]⟩ : ByteArray), .int .i64 0, .int .i64 0] 28 ?_; intro gb605 hg w14 hbox hb; have BK605 := aM hbox; have GE605 := gs hg HB; replace HO600 := rb HO600 hb; replace HB := bs HB hb; clear hb hbox hg; obtain ⟨hcz15_0, hcz15_1, hcz15_2, hcz15_3⟩ := cz BK605; obtain ⟨hfz15_0, hfz15_1, hfz15_2, hfz15_3⟩ := fz BK605) | ((with_reducible refine gate_callee (f := 19) rfl ?_); refine gL (some 35) rfl rfl Try.func19 (by kernel_rfl) rfl #[.slice A0 l0.length c0] rfl ?_; (with_reducible refine (m_Cycle.calls kj3 _ _ l0 t606 _ ?side1 ?side2 A11.1).mono ?_); (case side1 => exact C_below HR0.1 (hh HB)); (case side2 => exact HC0.1); rintro e w16 ⟨v607, rfl, ho0, hb⟩; refine ⟨_, rfl, ?_⟩; have HO608 := aM (R_lower (R_new' ho0 (R_lt (rz (rf4 HO600 BK605 (by decide))))) (below_size (hh HB))); replace HO600 := aM (R_elder' (rz (rf4 HO600 BK605 (by decide))) (R_base ho0) hb); replace BK605 := kg (o' := .cells #[.int .i64 t601, .string t602, .int .i64 t603, .int .i64 t604] 28 (0, 0)) BK605 hb; replace HB := bs HB hb; clear hb ho0; obtain ⟨hcz17_0, hcz17_1, hcz17_2, hcz17_3⟩ := cz BK605; obtain ⟨hfz17_0, hfz17_1, hfz17_2, hfz17_3⟩ := fz BK605; obtain ⟨Ao18, co18, eo18⟩ := R_slice HO608.1; subst eo18))
     go_ret
     exact ⟨by first | rfl | (simp [errW_none, errW_some] <;> rfl) | (simp [*, errW_none, errW_some] <;> rfl), hh HB⟩
   rw [if_neg c12] at H
   have c12b0 : ((t601 == 18) != (decide ((t606.length : Int) > 0))) = false := by simpa using c12
   have c12b9 : (!((t601 == 18) == decide (0 < t606.length))) = false := by
    rw [show decide (0 < t606.length) = decide ((t606.length : Int) > 0) from decide_eq_decide.2 (by omega)]
    revert c12b0; cases (t601 == 18) <;> cases decide ((t606.length : Int) > 0) <;> simp
   (try (have c12b1 : decide ((t601 == 18) = (decide ((t606.length : Int) > 0))) = true := by simpa using c12))
   (try (have c12b2 : ((t601 == 18) == (decide ((t606.length : Int) > 0))) = true := by simpa using c12))
   clear c12
   have H' := aM H
   clear H
   go_wp2_with (first | ((with_reducible refine gate_callee (f := 10) rfl ?_); refine gL (some 31) rfl rfl Try.func10 (by kernel_rfl) rfl #[.slice A0 l0.length c0] rfl ?_; (with_reducible refine (m_Order.calls kj3 _ _ l0 t598 t601 t602 t603 t604 _ ?side1 ?side2 A10.1).mono ?_); (case side1 => exact cb HR0 HB); (case side2 => exact HC0.1); rintro e w19 ⟨v599, rfl, ho0, hb⟩; refine ⟨_, rfl, ?_⟩; have HO600 := aM (R_lower ho0 (below_size (hh HB))); replace HB := bs HB hb; clear hb ho0) | ((with_reducible refine gate_dst (N := 8) rfl ?_); (try (refine gate_guard (by rfl) ?_; dsimp only)); refine be 8 rfl rfl #[.int .i64 0, .string (⟨#[]⟩ : ByteArray), .int .i64 0, .int .i64 0] 28 ?_; intro gb605 hg w20 hbox hb; have BK605 := aM hbox; have GE605 := gs hg HB; replace HO600 := rb HO600 hb; replace HB := bs HB hb; clear hb hbox hg; obtain ⟨hcz21_0, hcz21_1, hcz21_2, hcz21_3⟩ := cz BK605; obtain ⟨hfz21_0, hfz21_1, hfz21_2, hfz21_3⟩ := fz BK605) | ((with_reducible refine gate_callee (f := 19) rfl ?_); refine gL (some 35) rfl rfl Try.func19 (by kernel_rfl) rfl #[.slice A0 l0.length c0] rfl ?_; (with_reducible refine (m_Cycle.calls kj3 _ _ l0 t606 _ ?side1 ?side2 A11.1).mono ?_); (case side1 => exact C_below HR0.1 (hh HB)); (case side2 => exact HC0.1); rintro e w22 ⟨v607, rfl, ho0, hb⟩; refine ⟨_, rfl, ?_⟩; have HO608 := aM (R_lower (R_new' ho0 (R_lt (rz (rf4 HO600 BK605 (by decide))))) (below_size (hh HB))); replace HO600 := aM (R_elder' (rz (rf4 HO600 BK605 (by decide))) (R_base ho0) hb); replace BK605 := kg (o' := .cells #[.int .i64 t601, .string t602, .int .i64 t603, .int .i64 t604] 28 (0, 0)) BK605 hb; replace HB := bs HB hb; clear hb ho0; obtain ⟨hcz23_0, hcz23_1, hcz23_2, hcz23_3⟩ := cz BK605; obtain ⟨hfz23_0, hfz23_1, hfz23_2, hfz23_3⟩ := fz BK605; obtain ⟨Ao24, co24, eo24⟩ := R_slice HO608.1; subst eo24))
   go_loopg [10] kj3 (fun kq v10 w' => ∃ (x10_2 : Int), v10 = .int .i64 x10_2 /\ Az (w_ModgraphDual.l0 kq l0 a1 a2 t606 x10_2 t601 t602 t603 t604 = some r) /\ Az (kq <= kj3) /\ Az (Kd.R Kd.string 9 w' w.heap.size (fun _ => True) (.slice Ao24 t606.length co24) t606) /\ Az (w'.heap[gb605]? = some (.cells #[.int .i64 t601, .string t602, .int .i64 t603, .int .i64 t604] 28 (0, 0))) /\ Az (Below w.heap.size w w'))
   case atStart => exact ⟨(0), rr, H', ⟨Nat.le_refl _⟩, ⟨rz (R_mono HO608.1 (fun _ hk => trivial))⟩, ⟨kk BK605⟩, ⟨hh HB⟩⟩
   case round =>
    clear H'
    clear c12b0 c12b1 c12b2 hcz21_0 hcz21_1 hcz21_2 hcz21_3 hcz23_0 hcz23_1 hcz23_2 hcz23_3 hfz21_0 hfz21_1 hfz21_2 hfz21_3 hfz23_0 hfz23_1 hfz23_2 hfz23_3
    obtain ⟨x10_2, rfl, HA, HK2, HO_9, BK605, HB⟩ := hrel
    cases gk with
    | zero => exact absurd HA.1 (by simp [w_ModgraphDual.l0])
    | succ k2 =>
     have H := HA.1
     clear HA
     simp only [w_ModgraphDual.l0] at H
     by_cases c25 : x10_2 < (t606.length : Int)
     rotate_left
     · rw [if_neg c25] at H
       have c25b0 : decide (x10_2 < (t606.length : Int)) = false := decide_eq_false c25
       clear c25
       by_cases c49 : t601 = 0
       rotate_left
       · rw [if_neg c49] at H
         have c49b0 : (t601 == 0) = false := beq_eq_false_iff_ne.mpr c49
         have c49b1 : (t601 != 0) = true := bne_iff_ne.mpr c49
         by_cases c111 : (t606.length : Int) = 0
         · rw [if_pos c111] at H
           have c111b0 : ((t606.length : Int) == 0) = true := beq_iff_eq.mpr c111
           have c111b1 : ((t606.length : Int) != 0) = false := bne_eq_false_iff_eq.mpr c111
           clear c111
           replace H := Option.bind_eq_some_iff.mp H
           obtain ⟨t621, A1120, H⟩ := H
           try dsimp only at H
           have A112 := aM A1120
           clear A1120
           obtain rfl := Option.some.inj H
           obtain ⟨hcz113_0, hcz113_1, hcz113_2, hcz113_3⟩ := cz BK605
           obtain ⟨hfz113_0, hfz113_1, hfz113_2, hfz113_3⟩ := fz BK605
           try go_wp2
           replace HO_9 := aM (R_drew HO_9.1)
           replace BK605 := aM (blk_drew BK605.1)
           replace HB := aM (below_drew1 HB.1)
           refine start_ (n := 15) (S := fun w' => True) (ds := []) #[F_, F_, F_, F_, F_, F_, F_, F_, F_, F_, F_, F_, F_, F_, F_] (by kernel_rfl) rfl rfl trivial (fun hHeld => ?_); refine with_tabW w_ModgraphDual.tab13 w_ModgraphDual.bits13 (fun HT_ HW_ => ?_)
           generalize wr.drew = w114 at HO_9 BK605 HB hHeld ⊢
           refine pure_ (i := 0) (N := some 78) (v := ?_) (a' := ?_) #[T_, F_, F_, F_, F_, F_, F_, F_, F_, F_, F_, F_, F_, F_, F_] rfl rfl (any_of HT_.1 (by kernel_rfl)) (fun _ _ _ h => h) (Or.inl ⟨by rfl, ?_⟩) ?_ ?_
           rotate_left
           · intro w'
             go_simp
             with_reducible rfl
           rotate_left
           · simp only [Act.put, sA, sZ, sS, i64_w, i32_w]
             rfl
           refine pure_ (i := 1) (N := some 79) (v := ?_) (a' := ?_) #[T_, T_, F_, F_, F_, F_, F_, F_, F_, F_, F_, F_, F_, F_, F_] rfl rfl (any_of HT_.1 (by kernel_rfl)) (fun _ _ _ h => h) (Or.inl ⟨by rfl, ?_⟩) ?_ ?_
           rotate_left
           · intro w'
             go_simp
             with_reducible rfl
           rotate_left
           · simp only [Act.put, sA, sZ, sS, i64_w, i32_w]
             rfl
           refine pure_ (i := 2) (N := some 80) (v := ?_) (a' := ?_) #[T_, T_, T_, F_, F_, F_, F_, F_, F_, F_, F_, F_, F_, F_, F_] rfl rfl (any_of HT_.1 (by kernel_rfl)) (fun _ _ _ h => h) (Or.inl ⟨by rfl, ?_⟩) ?_ ?_
           rotate_left
           · intro w'
             go_simp
             with_reducible rfl
           rotate_left
           · simp only [Act.put, sA, sZ, sS, i64_w, i32_w]
             rfl
           refine pure_ (i := 3) (N := some 81) (v := ?_) (a' := ?_) #[T_, T_, T_, T_, F_, F_, F_, F_, F_, F_, F_, F_, F_, F_, F_] rfl rfl (any_of HT_.1 (by kernel_rfl)) (fun _ _ _ h => h) (Or.inl ⟨by rfl, ?_⟩) ?_ ?_
           rotate_left
           · intro w'
             go_simp
             with_reducible rfl
           rotate_left
           · simp only [Act.put, sA, sZ, sS, i64_w, i32_w]
             rfl
           refine pure_ (i := 4) (N := some 82) (v := undef) (a' := ?_) #[T_, T_, T_, T_, T_, F_, F_, F_, F_, F_, F_, F_, F_, F_, F_] rfl rfl (any_of HT_.1 (by kernel_rfl)) (fun _ _ _ h => h) (Or.inr ⟨by rfl, rfl⟩) ?_ ?_
           rotate_left
           · simp only [Act.put, sA, sZ, sS, i64_w, i32_w]
             rfl
           refine pure_ (i := 5) (N := some 83) (v := undef) (a' := ?_) #[T_, T_, T_, T_, T_, T_, F_, F_, F_, F_, F_, F_, F_, F_, F_] rfl rfl (any_of HT_.1 (by kernel_rfl)) (fun _ _ _ h => h) (Or.inr ⟨by rfl, rfl⟩) ?_ ?_
           rotate_left
           · simp only [Act.put, sA, sZ, sS, i64_w, i32_w]
             rfl
           refine pure_ (i := 6) (N := some 84) (v := undef) (a' := ?_) #[T_, T_, T_, T_, T_, T_, T_, F_, F_, F_, F_, F_, F_, F_, F_] rfl rfl (any_of HT_.1 (by kernel_rfl)) (fun _ _ _ h => h) (Or.inr ⟨by rfl, rfl⟩) ?_ ?_
           rotate_left
           · simp only [Act.put, sA, sZ, sS, i64_w, i32_w]
             rfl
           refine pure_ (i := 7) (N := some 85) (v := undef) (a' := ?_) #[T_, T_, T_, T_, T_, T_, T_, T_, F_, F_, F_, F_, F_, F_, F_] rfl rfl (any_of HT_.1 (by kernel_rfl)) (fun _ _ _ h => h) (Or.inr ⟨by rfl, rfl⟩) ?_ ?_
           rotate_left
           · simp only [Act.put, sA, sZ, sS, i64_w, i32_w]
             rfl
           refine pure_ (i := 8) (N := some 86) (v := undef) (a' := ?_) #[T_, T_, T_, T_, T_, T_, T_, T_, T_, F_, F_, F_, F_, F_, F_] rfl rfl (any_of HT_.1 (by kernel_rfl)) (fun _ _ _ h => h) (Or.inr ⟨by rfl, rfl⟩) ?_ ?_
           rotate_left
           · simp only [Act.put, sA, sZ, sS, i64_w, i32_w]
             rfl
           refine pure_ (i := 9) (N := some 87) (v := undef) (a' := ?_) #[T_, T_, T_, T_, T_, T_, T_, T_, T_, T_, F_, F_, F_, F_, F_] rfl rfl (any_of HT_.1 (by kernel_rfl)) (fun _ _ _ h => h) (Or.inr ⟨by rfl, rfl⟩) ?_ ?_
           rotate_left
           · simp only [Act.put, sA, sZ, sS, i64_w, i32_w]
             rfl
           refine pure_ (i := 10) (N := some 88) (v := ?_) (a' := ?_) #[T_, T_, T_, T_, T_, T_, T_, T_, T_, T_, T_, F_, F_, F_, F_] rfl rfl (any_of HT_.1 (by kernel_rfl)) (fun _ _ _ h => h) (Or.inl ⟨by rfl, ?_⟩) ?_ ?_
           rotate_left
           · intro w'
             go_simp
             with_reducible rfl
           rotate_left
           · simp only [Act.put, sA, sZ, sS, i64_w, i32_w]
             rfl
           refine pure_ (i := 11) (N := some 89) (v := ?_) (a' := ?_) #[T_, T_, T_, T_, T_, T_, T_, T_, T_, T_, T_, T_, F_, F_, F_] rfl rfl (any_of HT_.1 (by kernel_rfl)) (fun _ _ _ h => h) (Or.inl ⟨by rfl, ?_⟩) ?_ ?_
           rotate_left
           · intro w'
             go_simp
             with_reducible rfl
           rotate_left
           · simp only [Act.put, sA, sZ, sS, i64_w, i32_w]
             rfl
           refine one_ (i := 12) (N := some 90) #[T_, T_, T_, T_, T_, T_, T_, T_, T_, T_, T_, T_, T_, F_, F_] rfl rfl (one_of HT_.1 (by kernel_rfl)) (by decide) (fun K hK => ?_)
           refine goes_ Try.func9 (by kernel_rfl) rfl #[] (by rfl) rfl rfl (by (try simp only [List.map_toArray, List.map_cons, List.map_nil]); first | done | rfl | (simp only [List.length_drop, List.length_take]; rfl)) ?_
           with_reducible refine (w_awake.calls  t621 _ A112.1).mono ?_
           rintro e w115 ⟨rfl, hb⟩
           refine ⟨_, rfl, ?_⟩
           replace HO_9 := rb HO_9 hb
           replace BK605 := kb BK605 hb
           replace HB := bs HB hb
           (clear hb)
           skip
           skip
           skip
           refine hK.out _ _ trivial (fun hHeld => ?_)
           clear hK K
           refine norm_ (a' := ?_) ?_ ?_
           rotate_left
           · show Act.put _ (some 90) _ = _
             simp only [Act.put, sA, sZ, sS, i64_w, i32_w]
             rfl
           refine pure_ (i := 13) (N := some 91) (v := ?_) (a' := ?_) #[T_, T_, T_, T_, T_, T_, T_, T_, T_, T_, T_, T_, T_, T_, F_] rfl rfl (any_of HT_.1 (by kernel_rfl)) (fun _ _ _ h => h) (Or.inl ⟨by rfl, ?_⟩) ?_ ?_
           rotate_left
           · intro w'
             go_simp
             with_reducible rfl
           rotate_left
           · simp only [Act.put, sA, sZ, sS, i64_w, i32_w]
             rfl
           refine pure_ (i := 14) (N := some 6) (v := ?_) (a' := ?_) #[T_, T_, T_, T_, T_, T_, T_, T_, T_, T_, T_, T_, T_, T_, T_] rfl rfl (any_of HT_.1 (by kernel_rfl)) (fun _ _ _ h => h) (Or.inl ⟨by rfl, ?_⟩) ?_ ?_
           rotate_left
           · intro w'
             go_simp
             with_reducible rfl
           rotate_left
           · simp only [Act.put, sA, sZ, sS, i64_w, i32_w]
             rfl
           refine done_ (done_of HT_.1 (by kernel_rfl)) ?_
           try go_wp2
           go_ret
           exact ⟨by first | rfl | (simp [errW_none, errW_some] <;> rfl) | (simp [*, errW_none, errW_some] <;> rfl), hh HB⟩
         rw [if_neg c111] at H
         have c111b0 : ((t606.length : Int) == 0) = false := beq_eq_false_iff_ne.mpr c111
         have c111b1 : ((t606.length : Int) != 0) = true := bne_iff_ne.mpr c111
         have c111b2 : ¬ (t606 = []) := fun h_ => c111 (by rw [h_]; rfl)
         by_cases c116 : 0 < (t606.length : Int)
         rotate_left
         · rw [if_neg c116] at H
           exact absurd H (by simp)
         rw [if_pos c116] at H
         have c116b0 : decide (0 < (t606.length : Int)) = true := decide_eq_true c116
         have c116b1 : decide (0 < t606.length) = true := decide_eq_true (by omega)
         clear c116
         by_cases c117 : t602.toList = (rdOf ByteArray.empty t606 0).toList
         rotate_left
         · rw [if_neg c117] at H
           have c117b0 : (t602.toList == (rdOf ByteArray.empty t606 0).toList) = false := beq_eq_false_iff_ne.mpr c117
           have c117b1 : (t602.toList != (rdOf ByteArray.empty t606 0).toList) = true := bne_iff_ne.mpr c117
           obtain rfl := Option.some.inj H
           obtain ⟨hcz122_0, hcz122_1, hcz122_2, hcz122_3⟩ := cz BK605
           obtain ⟨hfz122_0, hfz122_1, hfz122_2, hfz122_3⟩ := fz BK605
           try go_wp2
           replace HO_9 := aM (R_drew HO_9.1)
           replace BK605 := aM (blk_drew BK605.1)
           replace HB := aM (below_drew1 HB.1)
           have p622 : 0 <= (0 : Int) := (by omega)
           have q622 : 0 < (t606.length : Int) := dt
           obtain ⟨ad622, e622, hx622_0⟩ := Kd.at_string (R_reads' HO_9.1).2.2 0 p622 q622
           cases e622
           have qi622 : (0 < t606.length) = True := eq_true (by omega)
           (try rw [show ((0 : Int)).toNat = 0 from rfl] at hx622_0)
           (try rw [Addr.add_zero'] at hx622_0)
           replace p622 := eq_true p622
           replace q622 := eq_true q622
           refine start_ (n := 15) (S := fun w' => w'.cell? ⟨gb605, 0, none⟩ = some (.int .i64 t601) /\ w'.cell? ⟨gb605, 1, none⟩ = some (.string t602) /\ w'.cell? ⟨gb605, 2, none⟩ = some (.int .i64 t603) /\ w'.cell? ⟨gb605, 3, none⟩ = some (.int .i64 t604) /\ w'.cell? ad622 = some (.string (rdOf ByteArray.empty t606 0))) (ds := []) #[F_, F_, F_, F_, F_, F_, F_, F_, F_, F_, F_, F_, F_, F_, F_] (by kernel_rfl) rfl rfl ⟨(blk_cell BK605.1 0).trans rfl, (blk_cell BK605.1 1).trans rfl, (blk_cell BK605.1 2).trans rfl, (blk_cell BK605.1 3).trans rfl, hx622_0⟩ (fun hHeld => ?_); refine with_tabW w_ModgraphDual.tab13 w_ModgraphDual.bits13 (fun HT_ HW_ => ?_)
           generalize wr.drew = w123 at HO_9 BK605 HB hx622_0 hHeld ⊢
           refine pure_ (i := 0) (N := some 78) (v := ?_) (a' := ?_) #[T_, F_, F_, F_, F_, F_, F_, F_, F_, F_, F_, F_, F_, F_, F_] rfl rfl (any_of HT_.1 (by kernel_rfl)) (fun _ _ _ h => h) (Or.inl ⟨by rfl, ?_⟩) ?_ ?_
           rotate_left
           · intro w'
             go_simp
             with_reducible rfl
           rotate_left
           · simp only [Act.put, sA, sZ, sS, i64_w, i32_w]
             rfl
           refine pure_ (i := 1) (N := some 79) (v := ?_) (a' := ?_) #[T_, T_, F_, F_, F_, F_, F_, F_, F_, F_, F_, F_, F_, F_, F_] rfl rfl (any_of HT_.1 (by kernel_rfl)) (fun _ _ _ h => h) (Or.inl ⟨by rfl, ?_⟩) ?_ ?_
           rotate_left
           · intro w'
             go_simp
             with_reducible rfl
           rotate_left
           · simp only [Act.put, sA, sZ, sS, i64_w, i32_w]
             rfl
           refine pure_ (i := 2) (N := some 80) (v := ?_) (a' := ?_) #[T_, T_, T_, F_, F_, F_, F_, F_, F_, F_, F_, F_, F_, F_, F_] rfl rfl (any_of HT_.1 (by kernel_rfl)) (fun _ _ _ h => h) (Or.inl ⟨by rfl, ?_⟩) ?_ ?_
           rotate_left
           · intro w'
             go_simp
             with_reducible rfl
           rotate_left
           · simp only [Act.put, sA, sZ, sS, i64_w, i32_w]
             rfl
           refine pure_ (i := 3) (N := some 81) (v := ?_) (a' := ?_) #[T_, T_, T_, T_, F_, F_, F_, F_, F_, F_, F_, F_, F_, F_, F_] rfl rfl (any_of HT_.1 (by kernel_rfl)) (fun _ _ _ h => h) (Or.inl ⟨by rfl, ?_⟩) ?_ ?_
           rotate_left
           · intro w'
             go_simp
             with_reducible rfl
           rotate_left
           · simp only [Act.put, sA, sZ, sS, i64_w, i32_w]
             rfl
           refine pure_ (i := 4) (N := some 82) (v := ?_) (a' := ?_) #[T_, T_, T_, T_, T_, F_, F_, F_, F_, F_, F_, F_, F_, F_, F_] rfl rfl (any_of HT_.1 (by kernel_rfl)) (fun _ _ _ h => h) (Or.inl ⟨by rfl, ?_⟩) ?_ ?_
           rotate_left
           · intro w'
             go_simp
             with_reducible rfl
           rotate_left
           · simp only [Act.put, sA, sZ, sS, i64_w, i32_w]
             rfl
           refine pure_ (i := 6) (N := some 84) (v := ?_) (a' := ?_) #[T_, T_, T_, T_, T_, F_, T_, F_, F_, F_, F_, F_, F_, F_, F_] rfl rfl (any_of HT_.1 (by kernel_rfl)) (fun _ _ _ h => h) (Or.inl ⟨by rfl, ?_⟩) ?_ ?_
           rotate_left
           · intro w'
             go_simp
             with_reducible rfl
           rotate_left
           · simp only [Act.put, sA, sZ, sS, i64_w, i32_w]
             rfl
           refine pure_ (i := 7) (N := some 85) (v := ?_) (a' := ?_) #[T_, T_, T_, T_, T_, F_, T_, T_, F_, F_, F_, F_, F_, F_, F_] rfl rfl (any_of HT_.1 (by kernel_rfl)) (fun _ _ _ h => h) (Or.inl ⟨by rfl, ?_⟩) ?_ ?_
           rotate_left
           · intro w'
             go_simp
             with_reducible rfl
           rotate_left
           · simp only [Act.put, sA, sZ, sS, i64_w, i32_w]
             rfl
           refine take_ (i := 5) (N := some 83) (v := ?_) (a' := ?_) #[T_, T_, T_, T_, T_, T_, T_, T_, F_, F_, F_, F_, F_, F_, F_] rfl rfl (take_ofW HT_.1 HW_.1 (by kernel_rfl)) (fun _ _ _ h => h) (Or.inl ⟨by rfl, ?_⟩) hHeld ?_ ?_
           rotate_left
           · rintro w' ⟨s0, s1, s2, s3, s4⟩
             go_simp
             with_reducible rfl
           rotate_left
           · simp only [Act.put, sA, sZ, sS, i64_w, i32_w]
             rfl
           refine take_ (i := 8) (N := some 86) (v := ?_) (a' := ?_) #[T_, T_, T_, T_, T_, T_, T_, T_, T_, F_, F_, F_, F_, F_, F_] rfl rfl (take_ofW HT_.1 HW_.1 (by kernel_rfl)) (fun _ _ _ h => h) (Or.inl ⟨by rfl, ?_⟩) hHeld ?_ ?_
           rotate_left
           · rintro w' ⟨s0, s1, s2, s3, s4⟩
             go_simp
             with_reducible rfl
           rotate_left
           · simp only [Act.put, sA, sZ, sS, i64_w, i32_w]
             rfl
           refine pure_ (i := 9) (N := some 87) (v := ?_) (a' := ?_) #[T_, T_, T_, T_, T_, T_, T_, T_, T_, T_, F_, F_, F_, F_, F_] rfl rfl (any_of HT_.1 (by kernel_rfl)) (fun _ _ _ h => h) (Or.inl ⟨by rfl, ?_⟩) ?_ ?_
           rotate_left
           · intro w'
             go_simp
             with_reducible rfl
           rotate_left
           · simp only [Act.put, sA, sZ, sS, i64_w, i32_w]
             rfl
           refine pure_ (i := 10) (N := some 88) (v := ?_) (a' := ?_) #[T_, T_, T_, T_, T_, T_, T_, T_, T_, T_, T_, F_, F_, F_, F_] rfl rfl (any_of HT_.1 (by kernel_rfl)) (fun _ _ _ h => h) (Or.inl ⟨by rfl, ?_⟩) ?_ ?_
           rotate_left
           · intro w'
             go_simp
             with_reducible rfl
           rotate_left
           · simp only [Act.put, sA, sZ, sS, i64_w, i32_w]
             rfl
           refine pure_ (i := 11) (N := some 89) (v := ?_) (a' := ?_) #[T_, T_, T_, T_, T_, T_, T_, T_, T_, T_, T_, T_, F_, F_, F_] rfl rfl (any_of HT_.1 (by kernel_rfl)) (fun _ _ _ h => h) (Or.inl ⟨by rfl, ?_⟩) ?_ ?_
           rotate_left
           · intro w'
             go_simp
             with_reducible rfl
           rotate_left
           · simp only [Act.put, sA, sZ, sS, i64_w, i32_w]
             rfl
           refine pure_ (i := 12) (N := some 90) (v := undef) (a' := ?_) #[T_, T_, T_, T_, T_, T_, T_, T_, T_, T_, T_, T_, T_, F_, F_] rfl rfl (any_of HT_.1 (by kernel_rfl)) (fun _ _ _ h => h) (Or.inr ⟨by rfl, rfl⟩) ?_ ?_
           rotate_left
           · simp only [Act.put, sA, sZ, sS, i64_w, i32_w]
             rfl
           refine pure_ (i := 13) (N := some 91) (v := ?_) (a' := ?_) #[T_, T_, T_, T_, T_, T_, T_, T_, T_, T_, T_, T_, T_, T_, F_] rfl rfl (any_of HT_.1 (by kernel_rfl)) (fun _ _ _ h => h) (Or.inl ⟨by rfl, ?_⟩) ?_ ?_
           rotate_left
           · intro w'
             go_simp
             with_reducible rfl
           rotate_left
           · simp only [Act.put, sA, sZ, sS, i64_w, i32_w]
             rfl
           refine pure_ (i := 14) (N := some 6) (v := ?_) (a' := ?_) #[T_, T_, T_, T_, T_, T_, T_, T_, T_, T_, T_, T_, T_, T_, T_] rfl rfl (any_of HT_.1 (by kernel_rfl)) (fun _ _ _ h => h) (Or.inl ⟨by rfl, ?_⟩) ?_ ?_
           rotate_left
           · intro w'
             go_simp
             with_reducible rfl
           rotate_left
           · simp only [Act.put, sA, sZ, sS, i64_w, i32_w]
             rfl
           refine done_ (done_of HT_.1 (by kernel_rfl)) ?_
           try go_wp2
           go_ret
           exact ⟨by first | rfl | (simp [errW_none, errW_some] <;> rfl) | (simp [*, errW_none, errW_some] <;> rfl), hh HB⟩
         rw [if_pos c117] at H
         have c117b0 : (t602.toList == (rdOf ByteArray.empty t606 0).toList) = true := beq_iff_eq.mpr c117
         have c117b1 : (t602.toList != (rdOf ByteArray.empty t606 0).toList) = false := bne_eq_false_iff_eq.mpr c117
         clear c117
         replace H := Option.bind_eq_some_iff.mp H
         obtain ⟨t623, A1180, H⟩ := H
         try dsimp only at H
         have A118 := aM A1180
         clear A1180
         obtain rfl := Option.some.inj H
         obtain ⟨hcz119_0, hcz119_1, hcz119_2, hcz119_3⟩ := cz BK605
         obtain ⟨hfz119_0, hfz119_1, hfz119_2, hfz119_3⟩ := fz BK605
         try go_wp2
         replace HO_9 := aM (R_drew HO_9.1)
         replace BK605 := aM (blk_drew BK605.1)
         replace HB := aM (below_drew1 HB.1)
         have p622 : 0 <= (0 : Int) := (by omega)
         have q622 : 0 < (t606.length : Int) := dt
         obtain ⟨ad622, e622, hx622_0⟩ := Kd.at_string (R_reads' HO_9.1).2.2 0 p622 q622
         cases e622
         have qi622 : (0 < t606.length) = True := eq_true (by omega)
         (try rw [show ((0 : Int)).toNat = 0 from rfl] at hx622_0)
         (try rw [Addr.add_zero'] at hx622_0)
         replace p622 := eq_true p622
         replace q622 := eq_true q622
         refine start_ (n := 15) (S := fun w' => w'.cell? ⟨gb605, 0, none⟩ = some (.int .i64 t601) /\ w'.cell? ⟨gb605, 1, none⟩ = some (.string t602) /\ w'.cell? ⟨gb605, 2, none⟩ = some (.int .i64 t603) /\ w'.cell? ⟨gb605, 3, none⟩ = some (.int .i64 t604) /\ w'.cell? ad622 = some (.string (rdOf ByteArray.empty t606 0))) (ds := []) #[F_, F_, F_, F_, F_, F_, F_, F_, F_, F_, F_, F_, F_, F_, F_] (by kernel_rfl) rfl rfl ⟨(blk_cell BK605.1 0).trans rfl, (blk_cell BK605.1 1).trans rfl, (blk_cell BK605.1 2).trans rfl, (blk_cell BK605.1 3).trans rfl, hx622_0⟩ (fun hHeld => ?_); refine with_tabW w_ModgraphDual.tab13 w_ModgraphDual.bits13 (fun HT_ HW_ => ?_)
         generalize wr.drew = w120 at HO_9 BK605 HB hx622_0 hHeld ⊢
         refine pure_ (i := 0) (N := some 78) (v := ?_) (a' := ?_) #[T_, F_, F_, F_, F_, F_, F_, F_, F_, F_, F_, F_, F_, F_, F_] rfl rfl (any_of HT_.1 (by kernel_rfl)) (fun _ _ _ h => h) (Or.inl ⟨by rfl, ?_⟩) ?_ ?_
         rotate_left
         · intro w'
           go_simp
           with_reducible rfl
         rotate_left
         · simp only [Act.put, sA, sZ, sS, i64_w, i32_w]
           rfl
         refine pure_ (i := 1) (N := some 79) (v := ?_) (a' := ?_) #[T_, T_, F_, F_, F_, F_, F_, F_, F_, F_, F_, F_, F_, F_, F_] rfl rfl (any_of HT_.1 (by kernel_rfl)) (fun _ _ _ h => h) (Or.inl ⟨by rfl, ?_⟩) ?_ ?_
         rotate_left
         · intro w'
           go_simp
           with_reducible rfl
         rotate_left
         · simp only [Act.put, sA, sZ, sS, i64_w, i32_w]
           rfl
         refine pure_ (i := 2) (N := some 80) (v := ?_) (a' := ?_) #[T_, T_, T_, F_, F_, F_, F_, F_, F_, F_, F_, F_, F_, F_, F_] rfl rfl (any_of HT_.1 (by kernel_rfl)) (fun _ _ _ h => h) (Or.inl ⟨by rfl, ?_⟩) ?_ ?_
         rotate_left
         · intro w'
           go_simp
           with_reducible rfl
         rotate_left
         · simp only [Act.put, sA, sZ, sS, i64_w, i32_w]
           rfl
         refine pure_ (i := 3) (N := some 81) (v := ?_) (a' := ?_) #[T_, T_, T_, T_, F_, F_, F_, F_, F_, F_, F_, F_, F_, F_, F_] rfl rfl (any_of HT_.1 (by kernel_rfl)) (fun _ _ _ h => h) (Or.inl ⟨by rfl, ?_⟩) ?_ ?_
         rotate_left
         · intro w'
           go_simp
           with_reducible rfl
         rotate_left
         · simp only [Act.put, sA, sZ, sS, i64_w, i32_w]
           rfl
         refine pure_ (i := 4) (N := some 82) (v := ?_) (a' := ?_) #[T_, T_, T_, T_, T_, F_, F_, F_, F_, F_, F_, F_, F_, F_, F_] rfl rfl (any_of HT_.1 (by kernel_rfl)) (fun _ _ _ h => h) (Or.inl ⟨by rfl, ?_⟩) ?_ ?_
         rotate_left
         · intro w'
           go_simp
           with_reducible rfl
         rotate_left
         · simp only [Act.put, sA, sZ, sS, i64_w, i32_w]
           rfl
         refine pure_ (i := 6) (N := some 84) (v := ?_) (a' := ?_) #[T_, T_, T_, T_, T_, F_, T_, F_, F_, F_, F_, F_, F_, F_, F_] rfl rfl (any_of HT_.1 (by kernel_rfl)) (fun _ _ _ h => h) (Or.inl ⟨by rfl, ?_⟩) ?_ ?_
         rotate_left
         · intro w'
           go_simp
           with_reducible rfl
         rotate_left
         · simp only [Act.put, sA, sZ, sS, i64_w, i32_w]
           rfl
         refine pure_ (i := 7) (N := some 85) (v := ?_) (a' := ?_) #[T_, T_, T_, T_, T_, F_, T_, T_, F_, F_, F_, F_, F_, F_, F_] rfl rfl (any_of HT_.1 (by kernel_rfl)) (fun _ _ _ h => h) (Or.inl ⟨by rfl, ?_⟩) ?_ ?_
         rotate_left
         · intro w'
           go_simp
           with_reducible rfl
         rotate_left
         · simp only [Act.put, sA, sZ, sS, i64_w, i32_w]
           rfl
         refine take_ (i := 5) (N := some 83) (v := ?_) (a' := ?_) #[T_, T_, T_, T_, T_, T_, T_, T_, F_, F_, F_, F_, F_, F_, F_] rfl rfl (take_ofW HT_.1 HW_.1 (by kernel_rfl)) (fun _ _ _ h => h) (Or.inl ⟨by rfl, ?_⟩) hHeld ?_ ?_
         rotate_left
         · rintro w' ⟨s0, s1, s2, s3, s4⟩
           go_simp
           with_reducible rfl
         rotate_left
         · simp only [Act.put, sA, sZ, sS, i64_w, i32_w]
           rfl
         refine take_ (i := 8) (N := some 86) (v := ?_) (a' := ?_) #[T_, T_, T_, T_, T_, T_, T_, T_, T_, F_, F_, F_, F_, F_, F_] rfl rfl (take_ofW HT_.1 HW_.1 (by kernel_rfl)) (fun _ _ _ h => h) (Or.inl ⟨by rfl, ?_⟩) hHeld ?_ ?_
         rotate_left
         · rintro w' ⟨s0, s1, s2, s3, s4⟩
           go_simp
           with_reducible rfl
         rotate_left
         · simp only [Act.put, sA, sZ, sS, i64_w, i32_w]
           rfl
         refine pure_ (i := 9) (N := some 87) (v := ?_) (a' := ?_) #[T_, T_, T_, T_, T_, T_, T_, T_, T_, T_, F_, F_, F_, F_, F_] rfl rfl (any_of HT_.1 (by kernel_rfl)) (fun _ _ _ h => h) (Or.inl ⟨by rfl, ?_⟩) ?_ ?_
         rotate_left
         · intro w'
           go_simp
           with_reducible rfl
         rotate_left
         · simp only [Act.put, sA, sZ, sS, i64_w, i32_w]
           rfl
         refine pure_ (i := 10) (N := some 88) (v := ?_) (a' := ?_) #[T_, T_, T_, T_, T_, T_, T_, T_, T_, T_, T_, F_, F_, F_, F_] rfl rfl (any_of HT_.1 (by kernel_rfl)) (fun _ _ _ h => h) (Or.inl ⟨by rfl, ?_⟩) ?_ ?_
         rotate_left
         · intro w'
           go_simp
           with_reducible rfl
         rotate_left
         · simp only [Act.put, sA, sZ, sS, i64_w, i32_w]
           rfl
         refine pure_ (i := 11) (N := some 89) (v := ?_) (a' := ?_) #[T_, T_, T_, T_, T_, T_, T_, T_, T_, T_, T_, T_, F_, F_, F_] rfl rfl (any_of HT_.1 (by kernel_rfl)) (fun _ _ _ h => h) (Or.inl ⟨by rfl, ?_⟩) ?_ ?_
         rotate_left
         · intro w'
           go_simp
           with_reducible rfl
         rotate_left
         · simp only [Act.put, sA, sZ, sS, i64_w, i32_w]
           rfl
         refine one_ (i := 12) (N := some 90) #[T_, T_, T_, T_, T_, T_, T_, T_, T_, T_, T_, T_, T_, F_, F_] rfl rfl (one_of HT_.1 (by kernel_rfl)) (by decide) (fun K hK => ?_)
         refine goes_ Try.func9 (by kernel_rfl) rfl #[] (by rfl) rfl rfl (by (try simp only [List.map_toArray, List.map_cons, List.map_nil]); first | done | rfl | (simp only [List.length_drop, List.length_take]; rfl)) ?_
         with_reducible refine (w_awake.calls  t623 _ A118.1).mono ?_
         rintro e w121 ⟨rfl, hb⟩
         have HS4_ := (hb.cell (World.block_lt_of_cell? _ _ (hHeld.2.2.2.2))).trans (hHeld.2.2.2.2)
         refine ⟨_, rfl, ?_⟩
         replace HO_9 := rb HO_9 hb
         replace BK605 := kb BK605 hb
         replace HB := bs HB hb
         (clear hb)
         skip
         skip
         skip
         refine hK.out _ _ ⟨(blk_cell BK605.1 0).trans rfl, (blk_cell BK605.1 1).trans rfl, (blk_cell BK605.1 2).trans rfl, (blk_cell BK605.1 3).trans rfl, HS4_⟩ (fun hHeld => ?_)
         clear hK K
         refine norm_ (a' := ?_) ?_ ?_
         rotate_left
         · show Act.put _ (some 90) _ = _
           simp only [Act.put, sA, sZ, sS, i64_w, i32_w]
           rfl
         refine pure_ (i := 13) (N := some 91) (v := ?_) (a' := ?_) #[T_, T_, T_, T_, T_, T_, T_, T_, T_, T_, T_, T_, T_, T_, F_] rfl rfl (any_of HT_.1 (by kernel_rfl)) (fun _ _ _ h => h) (Or.inl ⟨by rfl, ?_⟩) ?_ ?_
         rotate_left
         · intro w'
           go_simp
           with_reducible rfl
         rotate_left
         · simp only [Act.put, sA, sZ, sS, i64_w, i32_w]
           rfl
         refine pure_ (i := 14) (N := some 6) (v := ?_) (a' := ?_) #[T_, T_, T_, T_, T_, T_, T_, T_, T_, T_, T_, T_, T_, T_, T_] rfl rfl (any_of HT_.1 (by kernel_rfl)) (fun _ _ _ h => h) (Or.inl ⟨by rfl, ?_⟩) ?_ ?_
         rotate_left
         · intro w'
           go_simp
           with_reducible rfl
         rotate_left
         · simp only [Act.put, sA, sZ, sS, i64_w, i32_w]
           rfl
         refine done_ (done_of HT_.1 (by kernel_rfl)) ?_
         try go_wp2
         go_ret
         exact ⟨by first | rfl | (simp [errW_none, errW_some] <;> rfl) | (simp [*, errW_none, errW_some] <;> rfl), hh HB⟩
       rw [if_pos c49] at H
       have c49b0 : (t601 == 0) = true := beq_iff_eq.mpr c49
       have c49b1 : (t601 != 0) = false := bne_eq_false_iff_eq.mpr c49
       clear c49
       replace H := Option.bind_eq_some_iff.mp H
       obtain ⟨⟨t624, t627, t628, t629, t630⟩, A500, H⟩ := H
       try dsimp only at H
       have A50 := aM A500
       clear A500
       replace H := Option.bind_eq_some_iff.mp H
       obtain ⟨⟨t632, t635, t636, t637, t638⟩, A510, H⟩ := H
       try dsimp only at H
       have A51 := aM A510
       clear A510
       have HC52 := aM H
       clear H
       obtain ⟨hcz53_0, hcz53_1, hcz53_2, hcz53_3⟩ := cz BK605
       obtain ⟨hfz53_0, hfz53_1, hfz53_2, hfz53_3⟩ := fz BK605
       go_upto_region 16 with (first | ((with_reducible refine gate_callee (f := 15) rfl ?_); refine gL (some 95) rfl rfl Try.func15 (by kernel_rfl) rfl #[.slice A0 l0.length c0, .string a1] rfl ?_; (with_reducible refine (m_Needs.calls k2 _ _ l0 a1 t624 t627 t628 t629 t630 _ ?side1 ?side2 A50.1).mono ?_); (case side1 => exact cb HR0 HB); (case side2 => exact HC0.1); rintro e w54 ⟨v625, rfl, ho0, hb⟩; refine ⟨_, rfl, ?_⟩; have HO626 := aM (R_lower (R_new' ho0 (R_lt (rk HO_9))) (below_size (hh HB))); replace HO_9 := aM (R_elder' (rk HO_9) (R_base ho0) hb); replace BK605 := kb BK605 hb; replace HB := bs HB hb; clear hb ho0) | ((with_reducible refine gate_dst (N := 12) rfl ?_); (try (refine gate_guard (by rfl) ?_; dsimp only)); refine be 12 rfl rfl #[.int .i64 0, .string (⟨#[]⟩ : ByteArray), .int .i64 0, .int .i64 0] 28 ?_; intro gb631 hg w55 hbox hb; have BK631 := aM hbox; have GE631 := gs hg HB; have NB605_631 := nl hg BK605; have NB631_605 := nr hg BK605; replace HO_9 := rb HO_9 hb; replace HO626 := rb HO626 hb; replace BK605 := kb BK605 hb; replace HB := bs HB hb; clear hb hbox hg; have hnb56 := NB631_605.1; have hnc56 := NB605_631.1; obtain ⟨hcz57_0, hcz57_1, hcz57_2, hcz57_3⟩ := cz BK631; obtain ⟨hfz57_0, hfz57_1, hfz57_2, hfz57_3⟩ := fz BK631) | ((with_reducible refine gate_callee (f := 17) rfl ?_); refine gL (some 101) rfl rfl Try.func17 (by kernel_rfl) rfl #[.slice A0 l0.length c0, .string a2] rfl ?_; (with_reducible refine (m_Users.calls _ _ l0 a2 t632 t635 t636 t637 t638 _ ?side1 ?side2 A51.1).mono ?_); (case side1 => exact C_below HR0.1 (hh HB)); (case side2 => exact HC0.1); rintro e w58 ⟨v633, rfl, ho0, hb⟩; refine ⟨_, rfl, ?_⟩; have HO634 := aM (R_lower (R_new' (R_new' ho0 (R_lt (rz (rf4 HO_9 BK631 (by decide))))) (R_lt (rz (rf4 HO626 BK631 (by decide))))) (below_size (hh HB))); replace HO_9 := aM (R_elder' (rz (rf4 HO_9 BK631 (by decide))) (R_base ho0) hb); replace HO626 := aM (R_elder' (rz (rf4 HO626 BK631 (by decide))) (R_base ho0) hb); replace BK605 := kg (o' := .cells #[.int .i64 t601, .string t602, .int .i64 t603, .int .i64 t604] 28 (0, 0)) BK605 hb; replace BK631 := kg (o' := .cells #[.int .i64 t627, .string t628, .int .i64 t629, .int .i64 t630] 28 (0, 0)) BK631 hb; replace HB := bs HB hb; clear hb ho0) | ((with_reducible refine gate_dst (N := 14) rfl ?_); (try (refine gate_guard (by rfl) ?_; dsimp only)); refine be 14 rfl rfl #[.int .i64 0, .string (⟨#[]⟩ : ByteArray), .int .i64 0, .int .i64 0] 28 ?_; intro gb639 hg w59 hbox hb; have BK639 := aM hbox; have GE639 := gs hg HB; have NB605_639 := nl hg BK605; have NB639_605 := nr hg BK605; have NB631_639 := nl hg BK631; have NB639_631 := nr hg BK631; replace HO_9 := rb HO_9 hb; replace HO626 := rb HO626 hb; replace HO634 := rb HO634 hb; replace BK605 := kb BK605 hb; replace BK631 := kb BK631 hb; replace HB := bs HB hb; clear hb hbox hg; have hnb60 := NB639_605.1; have hnc60 := NB605_639.1; have hnb61 := NB639_631.1; have hnc61 := NB631_639.1; obtain ⟨hcz62_0, hcz62_1, hcz62_2, hcz62_3⟩ := cz BK639; obtain ⟨hfz62_0, hfz62_1, hfz62_2, hfz62_3⟩ := fz BK639))
       (try simp only [Act.put, sA, sZ, sS])
       go_cut [111] (fun v111 wc => ∃ (kq : Nat) (x111_51 : Bool), v111 = .bool x111_51 /\ Az (w_ModgraphDual.j2 kq l0 a1 a2 t624 t632 x111_51 = some r) /\ Az (kq <= k2) /\ Az (Kd.R Kd.string 9 wc w.heap.size (fun k_ => some k_ ≠ (v633 : Value).ownBlock) v625 t624) /\ Az (Kd.R Kd.string 9 wc w.heap.size (fun k_ => some k_ ≠ (v625 : Value).ownBlock) v633 t632) /\ Az (wc.heap[gb605]? = some (.cells #[.int .i64 t601, .string t602, .int .i64 t603, .int .i64 t604] 28 (0, 0))) /\ Az (wc.heap[gb631]? = some (.cells #[.int .i64 t627, .string t628, .int .i64 t629, .int .i64 t630] 28 (0, 0))) /\ Az (wc.heap[gb639]? = some (.cells #[.int .i64 t635, .string t636, .int .i64 t637, .int .i64 t638] 28 (0, 0))) /\ Az (Below w.heap.size w wc))
       case first =>
        have H := HC52.1
        clear HC52
        by_cases c63 : t627 = 0
        rotate_left
        · rw [if_neg c63] at H
          have c63b0 : (t627 == 0) = false := beq_eq_false_iff_ne.mpr c63
          have c63b1 : (t627 != 0) = true := bne_iff_ne.mpr c63
          (first | rw [c63b0] | (simp only [i64_w, i32_w]; rw [c63b0]) | skip)
          have H' := aM H
          clear H
          have hnb69 := NB631_605.1
          have hnc69 := NB605_631.1
          have hnb70 := NB631_639.1
          have hnc70 := NB639_631.1
          obtain ⟨hcz71_0, hcz71_1, hcz71_2, hcz71_3⟩ := cz BK631
          obtain ⟨hfz71_0, hfz71_1, hfz71_2, hfz71_3⟩ := fz BK631
          go_wp2
          go_meet
          case rel => exact ⟨_, (true), rr, H', ⟨by have := HJ3.1; have := HK2.1; first | omega | exact Nat.le_refl _⟩, ⟨rz (R_mono (R_far (p := ⟨gb639, 3, none⟩) (R_far (p := ⟨gb639, 2, none⟩) (R_far (p := ⟨gb639, 1, none⟩) (R_far (p := ⟨gb639, 0, none⟩) (R_types HO626.1 BK639.1 (by decide)) (fun _ hk => hk.2) (.int .i64 t635)) (fun _ hk => hk.2) (.string t636)) (fun _ hk => hk.2) (.int .i64 t637)) (fun _ hk => hk.2) (.int .i64 t638)) (fun _ hk => hk.1.2))⟩, ⟨rz (R_mono (R_far (p := ⟨gb639, 3, none⟩) (R_far (p := ⟨gb639, 2, none⟩) (R_far (p := ⟨gb639, 1, none⟩) (R_far (p := ⟨gb639, 0, none⟩) (R_types HO634.1 BK639.1 (by decide)) (fun _ hk => hk.2) (.int .i64 t635)) (fun _ hk => hk.2) (.string t636)) (fun _ hk => hk.2) (.int .i64 t637)) (fun _ hk => hk.2) (.int .i64 t638)) (fun _ hk => hk.1.2))⟩, ⟨kf BK605⟩, ⟨kf BK631⟩, ⟨kf BK639⟩, ⟨hh HB⟩⟩
        rw [if_pos c63] at H
        have c63b0 : (t627 == 0) = true := beq_iff_eq.mpr c63
        have c63b1 : (t627 != 0) = false := bne_eq_false_iff_eq.mpr c63
        clear c63
        (first | rw [c63b0] | (simp only [i64_w, i32_w]; rw [c63b0]) | skip)
        have H' := aM H
        clear H
        have hnb64 := NB631_605.1
        have hnc64 := NB605_631.1
        have hnb65 := NB631_639.1
        have hnc65 := NB639_631.1
        obtain ⟨hcz66_0, hcz66_1, hcz66_2, hcz66_3⟩ := cz BK631
        obtain ⟨hfz66_0, hfz66_1, hfz66_2, hfz66_3⟩ := fz BK631
        have hnb67 := NB639_605.1
        have hnc67 := NB605_639.1
        obtain ⟨hcz68_0, hcz68_1, hcz68_2, hcz68_3⟩ := cz BK639
        obtain ⟨hfz68_0, hfz68_1, hfz68_2, hfz68_3⟩ := fz BK639
        go_wp2
        go_meet
        case rel => exact ⟨_, ((t635 != 0)), rr, H', ⟨by have := HJ3.1; have := HK2.1; first | omega | exact Nat.le_refl _⟩, ⟨rz (R_mono (R_far (p := ⟨gb639, 3, none⟩) (R_far (p := ⟨gb639, 2, none⟩) (R_far (p := ⟨gb639, 1, none⟩) (R_far (p := ⟨gb639, 0, none⟩) (R_types HO626.1 BK639.1 (by decide)) (fun _ hk => hk.2) (.int .i64 t635)) (fun _ hk => hk.2) (.string t636)) (fun _ hk => hk.2) (.int .i64 t637)) (fun _ hk => hk.2) (.int .i64 t638)) (fun _ hk => hk.1.2))⟩, ⟨rz (R_mono (R_far (p := ⟨gb639, 3, none⟩) (R_far (p := ⟨gb639, 2, none⟩) (R_far (p := ⟨gb639, 1, none⟩) (R_far (p := ⟨gb639, 0, none⟩) (R_types HO634.1 BK639.1 (by decide)) (fun _ hk => hk.2) (.int .i64 t635)) (fun _ hk => hk.2) (.string t636)) (fun _ hk => hk.2) (.int .i64 t637)) (fun _ hk => hk.2) (.int .i64 t638)) (fun _ hk => hk.1.2))⟩, ⟨kf BK605⟩, ⟨kf BK631⟩, ⟨kf BK639⟩, ⟨hh HB⟩⟩
       case rest =>
        clear HC52
        clear c25b0 c49b0 c49b1 hcz53_0 hcz53_1 hcz53_2 hcz53_3 hcz57_0 hcz57_1 hcz57_2 hcz57_3 hcz62_0 hcz62_1 hcz62_2 hcz62_3 hfz53_0 hfz53_1 hfz53_2 hfz53_3 hfz57_0 hfz57_1 hfz57_2 hfz57_3 hfz62_0 hfz62_1 hfz62_2 hfz62_3
        obtain ⟨kq, x111_51, rfl, HA, HJ51, HO_11, HO_13, BK605, BK631, BK639, HB⟩ := hcut
        cases kq with
        | zero => exact absurd HA.1 (by simp [w_ModgraphDual.j2])
        | succ kj51 =>
         have H := HA.1
         clear HA
         simp only [w_ModgraphDual.j2] at H
         by_cases c72 : x111_51 = true
         · subst c72
           rw [if_pos rfl] at H
           replace H := Option.bind_eq_some_iff.mp H
           obtain ⟨t640, A730, H⟩ := H
           try dsimp only at H
           have A73 := aM A730
           clear A730
           obtain rfl := Option.some.inj H
           go_wp2_with (first | ((with_reducible refine gate_callee (f := 9) rfl ?_); refine gL (some 112) rfl rfl Try.func9 (by kernel_rfl) rfl #[] rfl ?_; (with_reducible refine (w_awake.calls  t640 _ A73.1).mono ?_); rintro e w74 ⟨rfl, hb⟩; refine ⟨_, rfl, ?_⟩; replace HO_11 := rb HO_11 hb; replace HO_13 := rb HO_13 hb; replace BK605 := kb BK605 hb; replace BK631 := kb BK631 hb; replace BK639 := kb BK639 hb; replace HB := bs HB hb; clear hb))
           go_ret
           exact ⟨by first | rfl | (simp [errW_none, errW_some] <;> rfl) | (simp [*, errW_none, errW_some] <;> rfl), hh HB⟩
         replace c72 := Bool.eq_false_iff.mpr c72
         subst c72
         rw [if_neg (show ¬ (false = true) by decide)] at H
         replace H := Option.bind_eq_some_iff.mp H
         obtain ⟨t641, A750, H⟩ := H
         try dsimp only at H
         have A75 := aM A750
         clear A750
         replace H := Option.bind_eq_some_iff.mp H
         obtain ⟨t642, A760, H⟩ := H
         try dsimp only at H
         have A76 := aM A760
         clear A760
         by_cases c77 : (t641 != t642) = true
         · rw [if_pos c77] at H
           have c77b0 : (t641 != t642) = true := c77
           (try (have c77b1 : decide (t641 = t642) = false := by simpa using c77))
           (try (have c77b2 : (t641 == t642) = false := by simpa using c77))
           (try (have c77b3 : ¬ (t641 = t642) := by simpa using c77))
           clear c77
           obtain rfl := Option.some.inj H
           obtain ⟨Ao78, co78, eo78⟩ := R_slice HO_11.1
           subst eo78
           go_wp2_with (first | ((with_reducible refine gate_callee (f := 21) rfl ?_); refine gL (some 115) rfl rfl Try.func21 (by kernel_rfl) rfl #[.slice Ao78 t624.length co78, .string a2] rfl ?_; (with_reducible refine (q_Has.calls kj51 _ _ t624 a2 t641 _ ?side1 ?side2 A75.1).mono ?_); (case side1 => exact cr HO_11); (case side2 => exact (R_reads' HO_11.1).2.1); rintro e w' ⟨rfl, ⟨nd, rfl⟩⟩; refine ⟨_, rfl, ?_⟩; obtain ⟨Ao79, co79, eo79⟩ := R_slice HO_13.1; subst eo79) | ((with_reducible refine gate_callee (f := 21) rfl ?_); refine gL (some 118) rfl rfl Try.func21 (by kernel_rfl) rfl #[.slice Ao79 t632.length co79, .string a1] rfl ?_; (with_reducible refine (q_Has.calls kj51 _ _ t632 a1 t642 _ ?side1 ?side2 A76.1).mono ?_); (case side1 => exact cr HO_13); (case side2 => exact (R_reads' HO_13.1).2.1); rintro e w' ⟨rfl, ⟨nd, rfl⟩⟩; refine ⟨_, rfl, ?_⟩))
           go_ret
           exact ⟨by first | rfl | (simp [errW_none, errW_some] <;> rfl) | (simp [*, errW_none, errW_some] <;> rfl), hh HB⟩
         rw [if_neg c77] at H
         have c77b0 : (t641 != t642) = false := by simpa using c77
         (try (have c77b1 : decide (t641 = t642) = true := by simpa using c77))
         (try (have c77b2 : (t641 == t642) = true := by simpa using c77))
         clear c77
         replace H := Option.bind_eq_some_iff.mp H
         obtain ⟨t643, A800, H⟩ := H
         try dsimp only at H
         have A80 := aM A800
         clear A800
         have H' := aM H
         clear H
         obtain ⟨Ao81, co81, eo81⟩ := R_slice HO_11.1
         subst eo81
         go_wp2_with (first | ((with_reducible refine gate_callee (f := 21) rfl ?_); refine gL (some 115) rfl rfl Try.func21 (by kernel_rfl) rfl #[.slice Ao81 t624.length co81, .string a2] rfl ?_; (with_reducible refine (q_Has.calls kj51 _ _ t624 a2 t641 _ ?side1 ?side2 A75.1).mono ?_); (case side1 => exact cr HO_11); (case side2 => exact (R_reads' HO_11.1).2.1); rintro e w' ⟨rfl, ⟨nd, rfl⟩⟩; refine ⟨_, rfl, ?_⟩; obtain ⟨Ao82, co82, eo82⟩ := R_slice HO_13.1; subst eo82) | ((with_reducible refine gate_callee (f := 21) rfl ?_); refine gL (some 118) rfl rfl Try.func21 (by kernel_rfl) rfl #[.slice Ao82 t632.length co82, .string a1] rfl ?_; (with_reducible refine (q_Has.calls kj51 _ _ t632 a1 t642 _ ?side1 ?side2 A76.1).mono ?_); (case side1 => exact cr HO_13); (case side2 => exact (R_reads' HO_13.1).2.1); rintro e w' ⟨rfl, ⟨nd, rfl⟩⟩; refine ⟨_, rfl, ?_⟩) | ((with_reducible refine gate_callee (f := 22) rfl ?_); refine gL (some 122) rfl rfl Try.func22 (by kernel_rfl) rfl #[.slice A0 l0.length c0, .string a1] rfl ?_; (with_reducible refine (r_Imports.calls kj51 _ _ l0 a1 t643 _ ?side1 ?side2 A80.1).mono ?_); (case side1 => repeat (first | exact (C_below HR0.1 (hh HB)) | (with_reducible refine C_alloc ?_ _) | (with_reducible refine C_drewN ?_ _) | (with_reducible refine C_drew ?_))); (case side2 => exact HC0.1); rintro e w83 ⟨v644, rfl, ho0, hb⟩; refine ⟨_, rfl, ?_⟩; have HO645 := aM (R_lower (R_new' (R_new' ho0 (R_lt (rk HO_11))) (R_lt (rk HO_13))) (below_size (hh HB))); replace HO_11 := aM (R_elder' (rk HO_11) (R_base ho0) hb); replace HO_13 := aM (R_elder' (rk HO_13) (R_base ho0) hb); replace BK605 := kb BK605 hb; replace BK631 := kb BK631 hb; replace BK639 := kb BK639 hb; replace HB := bs HB hb; clear hb ho0))
         go_loopg [16] kj51 (fun kq v16 w' => ∃ (x16_4 : Int), v16 = .int .i64 x16_4 /\ Az (w_ModgraphDual.l1 kq l0 t624 t643 x16_4 = some r) /\ Az (kq <= kj51) /\ Az (Kd.R Kd.string 9 w' w.heap.size (fun k_ => some k_ ≠ (v644 : Value).ownBlock) (.slice Ao81 t624.length co81) t624) /\ Az (Kd.R Kd.string 9 w' w.heap.size (fun k_ => some k_ ≠ ((.slice Ao81 t624.length co81) : Value).ownBlock) v644 t643) /\ Az (w'.heap[gb605]? = some (.cells #[.int .i64 t601, .string t602, .int .i64 t603, .int .i64 t604] 28 (0, 0))) /\ Az (w'.heap[gb631]? = some (.cells #[.int .i64 t627, .string t628, .int .i64 t629, .int .i64 t630] 28 (0, 0))) /\ Az (w'.heap[gb639]? = some (.cells #[.int .i64 t635, .string t636, .int .i64 t637, .int .i64 t638] 28 (0, 0))) /\ Az (Below w.heap.size w w'))
         case atStart => exact ⟨(0), rr, H', ⟨Nat.le_refl _⟩, ⟨rz (R_mono HO_11.1 (fun _ hk => hk.2))⟩, ⟨rz (R_mono HO645.1 (fun _ hk => hk.1.2))⟩, ⟨kk BK605⟩, ⟨kk BK631⟩, ⟨kk BK639⟩, ⟨hh HB⟩⟩
         case round =>
          clear H'
          clear c77b0 c77b1 c77b2
          obtain ⟨x16_4, rfl, HA, HK4, HO_11, HO_15, BK605, BK631, BK639, HB⟩ := hrel
          cases gk with
          | zero => exact absurd HA.1 (by simp [w_ModgraphDual.l1])
          | succ k4 =>
           have H := HA.1
           clear HA
           simp only [w_ModgraphDual.l1] at H
           by_cases c84 : x16_4 < (t643.length : Int)
           rotate_left
           · rw [if_neg c84] at H
             have c84b0 : decide (x16_4 < (t643.length : Int)) = false := decide_eq_false c84
             clear c84
             by_cases c106 : ((decide ((t643.length : Int) > 0)) == (decide ((t624.length : Int) > 0))) = true
             rotate_left
             · rw [if_neg c106] at H
               have c106b0 : ((decide ((t643.length : Int) > 0)) == (decide ((t624.length : Int) > 0))) = false := by simpa using c106
               have c106b9 : ((decide (0 < t643.length)) == (decide (0 < t624.length))) = false := by
                rw [show decide (0 < t643.length) = decide ((t643.length : Int) > 0) from decide_eq_decide.2 (by omega), show decide (0 < t624.length) = decide ((t624.length : Int) > 0) from decide_eq_decide.2 (by omega)]
                exact c106b0
               (try (have c106b1 : decide ((decide ((t643.length : Int) > 0)) = (decide ((t624.length : Int) > 0))) = false := by simpa using c106))
               (try (have c106b2 : ((decide ((t643.length : Int) > 0)) == (decide ((t624.length : Int) > 0))) = false := by simpa using c106))
               (try (have c106b3 : ¬ ((decide ((t643.length : Int) > 0)) = (decide ((t624.length : Int) > 0))) := by simpa using c106))
               clear c106
               obtain rfl := Option.some.inj H
               obtain ⟨Ao110, co110, eo110⟩ := R_slice HO_15.1
               subst eo110
               go_wp2
               go_ret
               exact ⟨by first | rfl | (simp [errW_none, errW_some] <;> rfl) | (simp [*, errW_none, errW_some] <;> rfl), hh HB⟩
             rw [if_pos c106] at H
             have c106b0 : ((decide ((t643.length : Int) > 0)) == (decide ((t624.length : Int) > 0))) = true := c106
             have c106b9 : ((decide (0 < t643.length)) == (decide (0 < t624.length))) = true := by
              rw [show decide (0 < t643.length) = decide ((t643.length : Int) > 0) from decide_eq_decide.2 (by omega), show decide (0 < t624.length) = decide ((t624.length : Int) > 0) from decide_eq_decide.2 (by omega)]
              exact c106b0
             (try (have c106b1 : decide ((decide ((t643.length : Int) > 0)) = (decide ((t624.length : Int) > 0))) = true := by simpa using c106))
             (try (have c106b2 : ((decide ((t643.length : Int) > 0)) == (decide ((t624.length : Int) > 0))) = true := by simpa using c106))
             clear c106
             replace H := Option.bind_eq_some_iff.mp H
             obtain ⟨t646, A1070, H⟩ := H
             try dsimp only at H
             have A107 := aM A1070
             clear A1070
             obtain rfl := Option.some.inj H
             obtain ⟨Ao108, co108, eo108⟩ := R_slice HO_15.1
             subst eo108
             go_wp2_with (first | (go_at_call 9; (with_reducible refine (w_awake.calls  t646 _ A107.1).mono ?_); rintro e w109 ⟨rfl, hb⟩; replace HO_11 := rb HO_11 hb; replace HO_15 := rb HO_15 hb; replace BK605 := kb BK605 hb; replace BK631 := kb BK631 hb; replace BK639 := kb BK639 hb; replace HB := bs HB hb; clear hb))
             go_ret
             exact ⟨by first | rfl | (simp [errW_none, errW_some] <;> rfl) | (simp [*, errW_none, errW_some] <;> rfl), hh HB⟩
           rw [if_pos c84] at H
           have c84b0 : decide (x16_4 < (t643.length : Int)) = true := decide_eq_true c84
           clear c84
           by_cases c85 : 0 <= x16_4
           rotate_left
           · rw [if_neg c85] at H
             exact absurd H (by simp)
           rw [if_pos c85] at H
           have c85b0 : decide (0 <= x16_4) = true := decide_eq_true c85
           clear c85
           replace H := Option.bind_eq_some_iff.mp H
           obtain ⟨⟨t648, t651, t652, t653, t654⟩, A860, H⟩ := H
           try dsimp only at H
           have A86 := aM A860
           clear A860
           have H' := aM H
           clear H
           obtain ⟨Ao87, co87, eo87⟩ := R_slice HO_15.1
           subst eo87
           have p647 : 0 <= (x16_4 : Int) := dt
           have q647 : x16_4 < (t643.length : Int) := dt
           obtain ⟨ad647, e647, hx647_0⟩ := Kd.at_string (R_reads' HO_15.1).2.2 x16_4 p647 q647
           cases e647
           replace p647 := eq_true p647
           replace q647 := eq_true q647
           go_wp2_with (first | ((with_reducible refine gate_callee (f := 15) rfl ?_); refine gL (some 135) rfl rfl Try.func15 (by kernel_rfl) rfl #[.slice A0 l0.length c0, .string (rdOf ByteArray.empty t643 x16_4)] rfl ?_; (with_reducible refine (m_Needs.calls k4 _ _ l0 (rdOf ByteArray.empty t643 x16_4) t648 t651 t652 t653 t654 _ ?side1 ?side2 A86.1).mono ?_); (case side1 => exact cb HR0 HB); (case side2 => exact HC0.1); rintro e w88 ⟨v649, rfl, ho0, hb⟩; refine ⟨_, rfl, ?_⟩; have HO650 := aM (R_lower (R_new' (R_new' ho0 (R_lt (rk HO_11))) (R_lt (rk HO_15))) (below_size (hh HB))); replace HO_11 := aM (R_elder' (rk HO_11) (R_base ho0) hb); replace HO_15 := aM (R_elder' (rk HO_15) (R_base ho0) hb); replace BK605 := kb BK605 hb; replace BK631 := kb BK631 hb; replace BK639 := kb BK639 hb; replace HB := bs HB hb; clear hb ho0) | ((with_reducible refine gate_dst (N := 18) rfl ?_); (try (refine gate_guard (by rfl) ?_; dsimp only)); refine be 18 rfl rfl #[.int .i64 0, .string (⟨#[]⟩ : ByteArray), .int .i64 0, .int .i64 0] 28 ?_; intro gb655 hg w89 hbox hb; have BK655 := aM hbox; have GE655 := gs hg HB; have NB605_655 := nl hg BK605; have NB655_605 := nr hg BK605; have NB631_655 := nl hg BK631; have NB655_631 := nr hg BK631; have NB639_655 := nl hg BK639; have NB655_639 := nr hg BK639; replace HO_11 := rb HO_11 hb; replace HO_15 := rb HO_15 hb; replace HO650 := rb HO650 hb; replace BK605 := kb BK605 hb; replace BK631 := kb BK631 hb; replace BK639 := kb BK639 hb; replace HB := bs HB hb; clear hb hbox hg; have hnb90 := NB655_605.1; have hnc90 := NB605_655.1; have hnb91 := NB655_631.1; have hnc91 := NB631_655.1; have hnb92 := NB655_639.1; have hnc92 := NB639_655.1; obtain ⟨hcz93_0, hcz93_1, hcz93_2, hcz93_3⟩ := cz BK655; obtain ⟨hfz93_0, hfz93_1, hfz93_2, hfz93_3⟩ := fz BK655))
           go_loopg [19] k4 (fun kq v19 w' => ∃ (x19_5 : Int), v19 = .int .i64 x19_5 /\ Az (w_ModgraphDual.l2 kq l0 t624 t643 x16_4 t648 x19_5 = some r) /\ Az (kq <= k4) /\ Az (Kd.R Kd.string 9 w' w.heap.size (fun k_ => some k_ ≠ ((.slice (some ad647) t643.length co87) : Value).ownBlock /\ some k_ ≠ (v649 : Value).ownBlock) (.slice Ao81 t624.length co81) t624) /\ Az (Kd.R Kd.string 9 w' w.heap.size (fun k_ => some k_ ≠ ((.slice Ao81 t624.length co81) : Value).ownBlock /\ some k_ ≠ (v649 : Value).ownBlock) (.slice (some ad647) t643.length co87) t643) /\ Az (Kd.R Kd.string 9 w' w.heap.size (fun k_ => some k_ ≠ ((.slice Ao81 t624.length co81) : Value).ownBlock /\ some k_ ≠ ((.slice (some ad647) t643.length co87) : Value).ownBlock) v649 t648) /\ Az (w'.heap[gb605]? = some (.cells #[.int .i64 t601, .string t602, .int .i64 t603, .int .i64 t604] 28 (0, 0))) /\ Az (w'.heap[gb631]? = some (.cells #[.int .i64 t627, .string t628, .int .i64 t629, .int .i64 t630] 28 (0, 0))) /\ Az (w'.heap[gb639]? = some (.cells #[.int .i64 t635, .string t636, .int .i64 t637, .int .i64 t638] 28 (0, 0))) /\ Az (w'.heap[gb655]? = some (.cells #[.int .i64 t651, .string t652, .int .i64 t653, .int .i64 t654] 28 (0, 0))) /\ Az (Below w.heap.size w w'))
           case atStart => exact ⟨(0), rr, H', ⟨Nat.le_refl _⟩, ⟨rz (R_mono (R_far (p := ⟨gb655, 3, none⟩) (R_far (p := ⟨gb655, 2, none⟩) (R_far (p := ⟨gb655, 1, none⟩) (R_far (p := ⟨gb655, 0, none⟩) (R_types HO_11.1 BK655.1 (by decide)) (fun _ hk => hk.2) (.int .i64 t651)) (fun _ hk => hk.2) (.string t652)) (fun _ hk => hk.2) (.int .i64 t653)) (fun _ hk => hk.2) (.int .i64 t654)) (fun _ hk => ⟨hk.1.1, hk.1.2⟩))⟩, ⟨rz (R_mono (R_far (p := ⟨gb655, 3, none⟩) (R_far (p := ⟨gb655, 2, none⟩) (R_far (p := ⟨gb655, 1, none⟩) (R_far (p := ⟨gb655, 0, none⟩) (R_types HO_15.1 BK655.1 (by decide)) (fun _ hk => hk.2) (.int .i64 t651)) (fun _ hk => hk.2) (.string t652)) (fun _ hk => hk.2) (.int .i64 t653)) (fun _ hk => hk.2) (.int .i64 t654)) (fun _ hk => ⟨hk.1.1, hk.1.2⟩))⟩, ⟨rz (R_mono (R_far (p := ⟨gb655, 3, none⟩) (R_far (p := ⟨gb655, 2, none⟩) (R_far (p := ⟨gb655, 1, none⟩) (R_far (p := ⟨gb655, 0, none⟩) (R_types HO650.1 BK655.1 (by decide)) (fun _ hk => hk.2) (.int .i64 t651)) (fun _ hk => hk.2) (.string t652)) (fun _ hk => hk.2) (.int .i64 t653)) (fun _ hk => hk.2) (.int .i64 t654)) (fun _ hk => ⟨hk.1.1.2, hk.1.2⟩))⟩, ⟨kf BK605⟩, ⟨kf BK631⟩, ⟨kf BK639⟩, ⟨kf BK655⟩, ⟨hh HB⟩⟩
           case round =>
            clear H'
            clear c84b0 c85b0 hcz93_0 hcz93_1 hcz93_2 hcz93_3 hfz93_0 hfz93_1 hfz93_2 hfz93_3 hx647_0 p647 q647
            obtain ⟨x19_5, rfl, HA, HK5, HO_11, HO_15, HO_17, BK605, BK631, BK639, BK655, HB⟩ := hrel
            cases gk with
            | zero => exact absurd HA.1 (by simp [w_ModgraphDual.l2])
            | succ k5 =>
             have H := HA.1
             clear HA
             simp only [w_ModgraphDual.l2] at H
             by_cases c94 : x19_5 < (t648.length : Int)
             · rw [if_pos c94] at H
               have c94b0 : decide (x19_5 < (t648.length : Int)) = true := decide_eq_true c94
               clear c94
               by_cases c95 : 0 <= x19_5
               rotate_left
               · rw [if_neg c95] at H
                 exact absurd H (by simp)
               rw [if_pos c95] at H
               have c95b0 : decide (0 <= x19_5) = true := decide_eq_true c95
               clear c95
               replace H := Option.bind_eq_some_iff.mp H
               obtain ⟨t657, A960, H⟩ := H
               try dsimp only at H
               have A96 := aM A960
               clear A960
               by_cases c97 : t657 = true
               rotate_left
               · replace c97 := Bool.eq_false_iff.mpr c97
                 subst c97
                 rw [if_neg (show ¬ (false = true) by decide)] at H
                 obtain rfl := Option.some.inj H
                 obtain ⟨Ao99, co99, eo99⟩ := R_slice HO_17.1
                 subst eo99
                 have p656 : 0 <= (x19_5 : Int) := dt
                 have q656 : x19_5 < (t648.length : Int) := dt
                 obtain ⟨ad656, e656, hx656_0⟩ := Kd.at_string (R_reads' HO_17.1).2.2 x19_5 p656 q656
                 cases e656
                 replace p656 := eq_true p656
                 replace q656 := eq_true q656
                 go_wp2_with (first | ((with_reducible refine gate_callee (f := 21) rfl ?_); refine gL (some 149) rfl rfl Try.func21 (by kernel_rfl) rfl #[.slice Ao81 t624.length co81, .string (rdOf ByteArray.empty t648 x19_5)] rfl ?_; (with_reducible refine (q_Has.calls k5 _ _ t624 (rdOf ByteArray.empty t648 x19_5) false _ ?side1 ?side2 A96.1).mono ?_); (case side1 => exact cr HO_11); (case side2 => exact (R_reads' HO_11.1).2.1); rintro e w' ⟨rfl, ⟨nd, rfl⟩⟩; refine ⟨_, rfl, ?_⟩))
                 go_ret
                 exact ⟨by first | rfl | (simp [errW_none, errW_some] <;> rfl) | (simp [*, errW_none, errW_some] <;> rfl), hh HB⟩
               subst c97
               rw [if_pos rfl] at H
               have H' := aM H
               clear H
               obtain ⟨Ao98, co98, eo98⟩ := R_slice HO_17.1
               subst eo98
               have p656 : 0 <= (x19_5 : Int) := dt
               have q656 : x19_5 < (t648.length : Int) := dt
               obtain ⟨ad656, e656, hx656_0⟩ := Kd.at_string (R_reads' HO_17.1).2.2 x19_5 p656 q656
               cases e656
               replace p656 := eq_true p656
               replace q656 := eq_true q656
               go_wp2_with (first | ((with_reducible refine gate_callee (f := 21) rfl ?_); refine gL (some 149) rfl rfl Try.func21 (by kernel_rfl) rfl #[.slice Ao81 t624.length co81, .string (rdOf ByteArray.empty t648 x19_5)] rfl ?_; (with_reducible refine (q_Has.calls k5 _ _ t624 (rdOf ByteArray.empty t648 x19_5) true _ ?side1 ?side2 A96.1).mono ?_); (case side1 => exact cr HO_11); (case side2 => exact (R_reads' HO_11.1).2.1); rintro e w' ⟨rfl, ⟨nd, rfl⟩⟩; refine ⟨_, rfl, ?_⟩))
               go_roundg k5
               case measure => have := HJ3.1; have := HK2.1; have := HJ51.1; have := HK4.1; have := HK5.1; omega
               case rel => exact ⟨(wrap64 (x19_5 + 1)), rr, H', ⟨by have := HJ3.1; have := HK2.1; have := HJ51.1; have := HK4.1; have := HK5.1; omega⟩, ⟨rk HO_11⟩, ⟨rk HO_15⟩, ⟨rk HO_17⟩, ⟨kk BK605⟩, ⟨kk BK631⟩, ⟨kk BK639⟩, ⟨kk BK655⟩, ⟨hh HB⟩⟩
             rw [if_neg c94] at H
             have c94b0 : decide (x19_5 < (t648.length : Int)) = false := decide_eq_false c94
             clear c94
             by_cases c100 : 0 <= x16_4
             rotate_left
             · rw [if_neg c100] at H
               exact absurd H (by simp)
             rw [if_pos c100] at H
             have c100b0 : decide (0 <= x16_4) = true := decide_eq_true c100
             clear c100
             by_cases c101 : x16_4 < (t643.length : Int)
             rotate_left
             · rw [if_neg c101] at H
               exact absurd H (by simp)
             rw [if_pos c101] at H
             have c101b0 : decide (x16_4 < (t643.length : Int)) = true := decide_eq_true c101
             clear c101
             replace H := Option.bind_eq_some_iff.mp H
             obtain ⟨t659, A1020, H⟩ := H
             try dsimp only at H
             have A102 := aM A1020
             clear A1020
             by_cases c103 : t659 = true
             rotate_left
             · replace c103 := Bool.eq_false_iff.mpr c103
               subst c103
               rw [if_neg (show ¬ (false = true) by decide)] at H
               obtain rfl := Option.some.inj H
               obtain ⟨Ao105, co105, eo105⟩ := R_slice HO_17.1
               subst eo105
               have p658 : 0 <= (x16_4 : Int) := dt
               have q658 : x16_4 < (t643.length : Int) := dt
               obtain ⟨ad658, e658, hx658_0⟩ := Kd.at_string (R_reads' HO_15.1).2.2 x16_4 p658 q658
               obtain rfl : ad647 = ad658 := (by injection e658)
               replace p658 := eq_true p658
               replace q658 := eq_true q658
               go_wp2_with (first | ((with_reducible refine gate_callee (f := 21) rfl ?_); refine gL (some 156) rfl rfl Try.func21 (by kernel_rfl) rfl #[.slice Ao81 t624.length co81, .string (rdOf ByteArray.empty t643 x16_4)] rfl ?_; (with_reducible refine (q_Has.calls k5 _ _ t624 (rdOf ByteArray.empty t643 x16_4) false _ ?side1 ?side2 A102.1).mono ?_); (case side1 => exact cr HO_11); (case side2 => exact (R_reads' HO_11.1).2.1); rintro e w' ⟨rfl, ⟨nd, rfl⟩⟩; refine ⟨_, rfl, ?_⟩))
               go_ret
               exact ⟨by first | rfl | (simp [errW_none, errW_some] <;> rfl) | (simp [*, errW_none, errW_some] <;> rfl), hh HB⟩
             subst c103
             rw [if_pos rfl] at H
             have H' := aM H
             clear H
             obtain ⟨Ao104, co104, eo104⟩ := R_slice HO_17.1
             subst eo104
             have p658 : 0 <= (x16_4 : Int) := dt
             have q658 : x16_4 < (t643.length : Int) := dt
             obtain ⟨ad658, e658, hx658_0⟩ := Kd.at_string (R_reads' HO_15.1).2.2 x16_4 p658 q658
             obtain rfl : ad647 = ad658 := (by injection e658)
             replace p658 := eq_true p658
             replace q658 := eq_true q658
             go_wp2_with (first | ((with_reducible refine gate_callee (f := 21) rfl ?_); refine gL (some 156) rfl rfl Try.func21 (by kernel_rfl) rfl #[.slice Ao81 t624.length co81, .string (rdOf ByteArray.empty t643 x16_4)] rfl ?_; (with_reducible refine (q_Has.calls k5 _ _ t624 (rdOf ByteArray.empty t643 x16_4) true _ ?side1 ?side2 A102.1).mono ?_); (case side1 => exact cr HO_11); (case side2 => exact (R_reads' HO_11.1).2.1); rintro e w' ⟨rfl, ⟨nd, rfl⟩⟩; refine ⟨_, rfl, ?_⟩))
             go_roundg k5
             case measure => have := HJ3.1; have := HK2.1; have := HJ51.1; have := HK4.1; have := HK5.1; omega
             case rel => exact ⟨(wrap64 (x16_4 + 1)), rr, H', ⟨by have := HJ3.1; have := HK2.1; have := HJ51.1; have := HK4.1; have := HK5.1; omega⟩, ⟨rz (R_mono HO_11.1 (fun _ hk => hk.1))⟩, ⟨rz (R_mono HO_15.1 (fun _ hk => hk.1))⟩, ⟨kk BK605⟩, ⟨kk BK631⟩, ⟨kk BK639⟩, ⟨hh HB⟩⟩
     rw [if_pos c25] at H
     have c25b0 : decide (x10_2 < (t606.length : Int)) = true := decide_eq_true c25
     clear c25
     by_cases c26 : 0 <= x10_2
     rotate_left
     · rw [if_neg c26] at H
       exact absurd H (by simp)
     rw [if_pos c26] at H
     have c26b0 : decide (0 <= x10_2) = true := decide_eq_true c26
     clear c26
     replace H := Option.bind_eq_some_iff.mp H
     obtain ⟨t610, A270, H⟩ := H
     try dsimp only at H
     have A27 := aM A270
     clear A270
     by_cases c28 : (t606.length : Int) = 0
     · rw [if_pos c28] at H
       exact absurd H (by simp)
     rw [if_neg c28] at H
     have c28b0 : ((t606.length : Int) == 0) = false := beq_eq_false_iff_ne.mpr c28
     have c28b1 : ((t606.length : Int) != 0) = true := bne_iff_ne.mpr c28
     have c28b2 : ¬ (t606 = []) := fun h_ => c28 (by rw [h_]; rfl)
     obtain ⟨ji29, hji29⟩ : ∃ j_ : Int, (Int.tmod (wrap64 (x10_2 + 1)) (t606.length : Int)) = j_ := ⟨_, rfl⟩
     replace H : (if 0 <= (ji29) then (if (ji29) < (t606.length : Int) then ((q_Has.f k2 t610 (rdOf ByteArray.empty t606 (ji29))).bind fun t614 => (if t614 = true then (if x10_2 <= (t606.length : Int) then ((q_Has.f k2 (t606.take (x10_2 : Int).toNat) (rdOf ByteArray.empty t606 x10_2)).bind fun t620 => (if t620 = true then (some false) else (w_ModgraphDual.l0 k2 l0 a1 a2 t606 (wrap64 (x10_2 + 1)) t601 t602 t603 t604))) else (none)) else (some false))) else (none)) else (none)) = some r := by first | (rw [hji29] at H; exact H) | (simp only [hji29] at H ⊢; exact H)
     (try rw [hji29] at A27)
     by_cases c30 : 0 <= (ji29)
     rotate_left
     · rw [if_neg c30] at H
       exact absurd H (by simp)
     rw [if_pos c30] at H
     have c30b0 : decide (0 <= (ji29)) = true := decide_eq_true c30
     clear c30
     by_cases c31 : (ji29) < (t606.length : Int)
     rotate_left
     · rw [if_neg c31] at H
       exact absurd H (by simp)
     rw [if_pos c31] at H
     have c31b0 : decide ((ji29) < (t606.length : Int)) = true := decide_eq_true c31
     clear c31
     replace H := Option.bind_eq_some_iff.mp H
     obtain ⟨t614, A320, H⟩ := H
     try dsimp only at H
     have A32 := aM A320
     clear A320
     by_cases c33 : t614 = true
     rotate_left
     · replace c33 := Bool.eq_false_iff.mpr c33
       subst c33
       rw [if_neg (show ¬ (false = true) by decide)] at H
       obtain rfl := Option.some.inj H
       try go_wp2
       replace HO_9 := aM (R_drew HO_9.1)
       replace BK605 := aM (blk_drew BK605.1)
       replace HB := aM (below_drew1 HB.1)
       have p609 : 0 <= (x10_2 : Int) := dt
       have q609 : x10_2 < (t606.length : Int) := dt
       obtain ⟨ad609, e609, hx609_0⟩ := Kd.at_string (R_reads' HO_9.1).2.2 x10_2 p609 q609
       cases e609
       replace p609 := eq_true p609
       replace q609 := eq_true q609
       have p613 : 0 <= ((ji29) : Int) := dt
       have q613 : (ji29) < (t606.length : Int) := dt
       obtain ⟨ad613, e613, hx613_0⟩ := Kd.at_string (R_reads' HO_9.1).2.2 (ji29) p613 q613
       obtain rfl : ad609 = ad613 := (by injection e613)
       replace p613 := eq_true p613
       replace q613 := eq_true q613
       refine start_ (n := 26) (S := fun w' => w'.cell? (ad609.add (x10_2).toNat) = some (.string (rdOf ByteArray.empty t606 x10_2)) /\ w'.cell? (ad609.add ((ji29)).toNat) = some (.string (rdOf ByteArray.empty t606 (ji29)))) (ds := []) #[F_, F_, F_, F_, F_, F_, F_, F_, F_, F_, F_, F_, F_, F_, F_, F_, F_, F_, F_, F_, F_, F_, F_, F_, F_, F_] (by kernel_rfl) rfl rfl ⟨hx609_0, hx613_0⟩ (fun hHeld => ?_); refine with_tabW w_ModgraphDual.tab10 w_ModgraphDual.bits10 (fun HT_ HW_ => ?_)
       generalize wr.drew = w46 at HO_9 BK605 HB hx609_0 hx613_0 hHeld ⊢
       refine pure_ (i := 0) (N := some 49) (v := ?_) (a' := ?_) #[T_, F_, F_, F_, F_, F_, F_, F_, F_, F_, F_, F_, F_, F_, F_, F_, F_, F_, F_, F_, F_, F_, F_, F_, F_, F_] rfl rfl (any_of HT_.1 (by kernel_rfl)) (fun _ _ _ h => h) (Or.inl ⟨by rfl, ?_⟩) ?_ ?_
       rotate_left
       · intro w'
         go_simp
         with_reducible rfl
       rotate_left
       · simp only [Act.put, sA, sZ, sS, i64_w, i32_w]
         rfl
       refine pure_ (i := 1) (N := some 50) (v := ?_) (a' := ?_) #[T_, T_, F_, F_, F_, F_, F_, F_, F_, F_, F_, F_, F_, F_, F_, F_, F_, F_, F_, F_, F_, F_, F_, F_, F_, F_] rfl rfl (any_of HT_.1 (by kernel_rfl)) (fun _ _ _ h => h) (Or.inl ⟨by rfl, ?_⟩) ?_ ?_
       rotate_left
       · intro w'
         go_simp
         with_reducible rfl
       rotate_left
       · simp only [Act.put, sA, sZ, sS, i64_w, i32_w]
         rfl
       refine pure_ (i := 2) (N := some 51) (v := ?_) (a' := ?_) #[T_, T_, T_, F_, F_, F_, F_, F_, F_, F_, F_, F_, F_, F_, F_, F_, F_, F_, F_, F_, F_, F_, F_, F_, F_, F_] rfl rfl (any_of HT_.1 (by kernel_rfl)) (fun _ _ _ h => h) (Or.inl ⟨by rfl, ?_⟩) ?_ ?_
       rotate_left
       · intro w'
         go_simp
         with_reducible rfl
       rotate_left
       · simp only [Act.put, sA, sZ, sS, i64_w, i32_w]
         rfl
       refine pure_ (i := 3) (N := some 52) (v := ?_) (a' := ?_) #[T_, T_, T_, T_, F_, F_, F_, F_, F_, F_, F_, F_, F_, F_, F_, F_, F_, F_, F_, F_, F_, F_, F_, F_, F_, F_] rfl rfl (any_of HT_.1 (by kernel_rfl)) (fun _ _ _ h => h) (Or.inl ⟨by rfl, ?_⟩) ?_ ?_
       rotate_left
       · intro w'
         go_simp
         with_reducible rfl
       rotate_left
       · simp only [Act.put, sA, sZ, sS, i64_w, i32_w]
         rfl
       refine pure_ (i := 6) (N := some 55) (v := ?_) (a' := ?_) #[T_, T_, T_, T_, F_, F_, T_, F_, F_, F_, F_, F_, F_, F_, F_, F_, F_, F_, F_, F_, F_, F_, F_, F_, F_, F_] rfl rfl (any_of HT_.1 (by kernel_rfl)) (fun _ _ _ h => h) (Or.inl ⟨by rfl, ?_⟩) ?_ ?_
       rotate_left
       · intro w'
         go_simp
         with_reducible rfl
       rotate_left
       · simp only [Act.put, sA, sZ, sS, i64_w, i32_w]
         rfl
       refine pure_ (i := 7) (N := some 56) (v := ?_) (a' := ?_) #[T_, T_, T_, T_, F_, F_, T_, T_, F_, F_, F_, F_, F_, F_, F_, F_, F_, F_, F_, F_, F_, F_, F_, F_, F_, F_] rfl rfl (any_of HT_.1 (by kernel_rfl)) (fun _ _ _ h => h) (Or.inl ⟨by rfl, ?_⟩) ?_ ?_
       rotate_left
       · intro w'
         go_simp
         with_reducible rfl
       rotate_left
       · simp only [Act.put, sA, sZ, sS, i64_w, i32_w]
         rfl
       refine pure_ (i := 8) (N := some 57) (v := ?_) (a' := ?_) #[T_, T_, T_, T_, F_, F_, T_, T_, T_, F_, F_, F_, F_, F_, F_, F_, F_, F_, F_, F_, F_, F_, F_, F_, F_, F_] rfl rfl (any_of HT_.1 (by kernel_rfl)) (fun _ _ _ h => h) (Or.inl ⟨by rfl, ?_⟩) ?_ ?_
       rotate_left
       · intro w'
         go_simp
         with_reducible rfl
       rotate_left
       · simp only [Act.put, sA, sZ, sS, i64_w, i32_w]
         rfl
       refine pure_ (i := 9) (N := some 58) (v := ?_) (a' := ?_) #[T_, T_, T_, T_, F_, F_, T_, T_, T_, T_, F_, F_, F_, F_, F_, F_, F_, F_, F_, F_, F_, F_, F_, F_, F_, F_] rfl rfl (any_of HT_.1 (by kernel_rfl)) (fun _ _ _ h => h) (Or.inl ⟨by rfl, ?_⟩) ?_ ?_
       rotate_left
       · intro w'
         go_simp
         with_reducible rfl
       rotate_left
       · simp only [Act.put, sA, sZ, sS, i64_w, i32_w]
         rfl
       refine pure_ (i := 10) (N := some 59) (v := ?_) (a' := ?_) #[T_, T_, T_, T_, F_, F_, T_, T_, T_, T_, T_, F_, F_, F_, F_, F_, F_, F_, F_, F_, F_, F_, F_, F_, F_, F_] rfl rfl (any_of HT_.1 (by kernel_rfl)) (fun _ _ _ h => h) (Or.inl ⟨by rfl, ?_⟩) ?_ ?_
       rotate_left
       · intro w'
         go_simp
         with_reducible rfl
       rotate_left
       · simp only [Act.put, sA, sZ, sS, i64_w, i32_w]
         rfl
       refine pure_ (i := 11) (N := some 60) (v := ?_) (a' := ?_) #[T_, T_, T_, T_, F_, F_, T_, T_, T_, T_, T_, T_, F_, F_, F_, F_, F_, F_, F_, F_, F_, F_, F_, F_, F_, F_] rfl rfl (any_of HT_.1 (by kernel_rfl)) (fun _ _ _ h => h) (Or.inl ⟨by rfl, ?_⟩) ?_ ?_
       rotate_left
       · intro w'
         go_simp
         with_reducible rfl
       rotate_left
       · simp only [Act.put, sA, sZ, sS, i64_w, i32_w]
         rfl
       refine pure_ (i := 12) (N := some 61) (v := ?_) (a' := ?_) #[T_, T_, T_, T_, F_, F_, T_, T_, T_, T_, T_, T_, T_, F_, F_, F_, F_, F_, F_, F_, F_, F_, F_, F_, F_, F_] rfl rfl (any_of HT_.1 (by kernel_rfl)) (fun _ _ _ h => h) (Or.inl ⟨by rfl, ?_⟩) ?_ ?_
       rotate_left
       · intro w'
         go_simp
         with_reducible rfl
       rotate_left
       · simp only [Act.put, sA, sZ, sS, i64_w, i32_w]
         rfl
       refine take_ (i := 4) (N := some 53) (v := ?_) (a' := ?_) #[T_, T_, T_, T_, T_, F_, T_, T_, T_, T_, T_, T_, T_, F_, F_, F_, F_, F_, F_, F_, F_, F_, F_, F_, F_, F_] rfl rfl (take_ofW HT_.1 HW_.1 (by kernel_rfl)) (fun _ _ _ h => h) (Or.inl ⟨by rfl, ?_⟩) hHeld ?_ ?_
       rotate_left
       · rintro w' ⟨s0, s1⟩
         go_simp
         with_reducible rfl
       rotate_left
       · simp only [Act.put, sA, sZ, sS, i64_w, i32_w]
         rfl
       refine take_ (i := 13) (N := some 62) (v := ?_) (a' := ?_) #[T_, T_, T_, T_, T_, F_, T_, T_, T_, T_, T_, T_, T_, T_, F_, F_, F_, F_, F_, F_, F_, F_, F_, F_, F_, F_] rfl rfl (take_ofW HT_.1 HW_.1 (by kernel_rfl)) (fun _ _ _ h => h) (Or.inl ⟨by rfl, ?_⟩) hHeld ?_ ?_
       rotate_left
       · rintro w' ⟨s0, s1⟩
         go_simp
         with_reducible rfl
       rotate_left
       · simp only [Act.put, sA, sZ, sS, i64_w, i32_w]
         rfl
       refine one_ (i := 5) (N := some 54) #[T_, T_, T_, T_, T_, T_, T_, T_, T_, T_, T_, T_, T_, T_, F_, F_, F_, F_, F_, F_, F_, F_, F_, F_, F_, F_] rfl rfl (one_of HT_.1 (by kernel_rfl)) (by decide) (fun K hK => ?_)
       refine goes_ Try.func22 (by kernel_rfl) rfl #[.slice A0 l0.length c0, .string (rdOf ByteArray.empty t606 x10_2)] (by rfl) rfl rfl (by (try simp only [List.map_toArray, List.map_cons, List.map_nil]); first | done | rfl | (simp only [List.length_drop, List.length_take]; rfl)) ?_
       with_reducible refine (r_Imports.calls k2 _ _ l0 (rdOf ByteArray.empty t606 x10_2) t610 _ ?side1 ?side2 A27.1).mono ?_
       (case side1 => exact cb HR0 HB)
       (case side2 => exact HC0.1)
       rintro e w47 ⟨v611, rfl, ho0, hb⟩
       have HS0_ := (hb.cell (World.block_lt_of_cell? _ _ (hHeld.1))).trans (hHeld.1)
       have HS1_ := (hb.cell (World.block_lt_of_cell? _ _ (hHeld.2))).trans (hHeld.2)
       refine ⟨_, rfl, ?_⟩
       have HO612 := aM (R_lower (R_new' ho0 (R_lt (rk HO_9))) (below_size (hh HB)))
       replace HO_9 := aM (R_elder' (rk HO_9) (R_base ho0) hb)
       replace BK605 := kb BK605 hb
       replace HB := bs HB hb
       (clear hb)
       skip
       skip
       skip
       (clear ho0)
       obtain ⟨Ao48, co48, eo48⟩ := R_slice HO612.1
       (first | subst eo48 | (injection eo48 with f1_ f2_ f3_; have f4_ := f1_.symm; have f5_ := f3_.symm; clear f1_ f2_ f3_; subst f4_; subst f5_))
       refine hK.out _ _ ⟨HS0_, HS1_⟩ (fun hHeld => ?_)
       clear hK K
       refine norm_ (a' := ?_) ?_ ?_
       rotate_left
       · show Act.put _ (some 54) _ = _
         simp only [Act.put, sA, sZ, sS, i64_w, i32_w]
         rfl
       refine one_ (i := 14) (N := some 63) #[T_, T_, T_, T_, T_, T_, T_, T_, T_, T_, T_, T_, T_, T_, T_, F_, F_, F_, F_, F_, F_, F_, F_, F_, F_, F_] rfl rfl (one_of HT_.1 (by kernel_rfl)) (by decide) (fun K hK => ?_)
       refine goes_ Try.func21 (by kernel_rfl) rfl #[.slice Ao48 t610.length co48, .string (rdOf ByteArray.empty t606 (ji29))] (by rfl) rfl rfl (by (try simp only [List.map_toArray, List.map_cons, List.map_nil]); first | done | (simp only [hji29]; rfl) | rfl | (simp only [List.length_drop, List.length_take]; rfl)) ?_
       with_reducible refine (q_Has.calls k2 _ _ t610 (rdOf ByteArray.empty t606 (ji29)) false _ ?side1 ?side2 A32.1).mono ?_
       (case side1 => exact cr HO612)
       (case side2 => exact (R_reads' HO612.1).2.1)
       rintro e w' ⟨rfl, ⟨nd, rfl⟩⟩
       refine ⟨_, rfl, ?_⟩
       refine hK.out _ _ ⟨hHeld.1, hHeld.2⟩ (fun hHeld => ?_)
       clear hK K
       refine norm_ (a' := ?_) ?_ ?_
       rotate_left
       · show Act.put _ (some 63) _ = _
         simp only [Act.put, sA, sZ, sS, i64_w, i32_w]
         rfl
       refine pure_ (i := 15) (N := some 64) (v := ?_) (a' := ?_) #[T_, T_, T_, T_, T_, T_, T_, T_, T_, T_, T_, T_, T_, T_, T_, T_, F_, F_, F_, F_, F_, F_, F_, F_, F_, F_] rfl rfl (any_of HT_.1 (by kernel_rfl)) (fun _ _ _ h => h) (Or.inl ⟨by rfl, ?_⟩) ?_ ?_
       rotate_left
       · intro w'
         go_simp
         with_reducible rfl
       rotate_left
       · simp only [Act.put, sA, sZ, sS, i64_w, i32_w]
         rfl
       refine pure_ (i := 16) (N := some 65) (v := ?_) (a' := ?_) #[T_, T_, T_, T_, T_, T_, T_, T_, T_, T_, T_, T_, T_, T_, T_, T_, T_, F_, F_, F_, F_, F_, F_, F_, F_, F_] rfl rfl (any_of HT_.1 (by kernel_rfl)) (fun _ _ _ h => h) (Or.inl ⟨by rfl, ?_⟩) ?_ ?_
       rotate_left
       · intro w'
         go_simp
         with_reducible rfl
       rotate_left
       · simp only [Act.put, sA, sZ, sS, i64_w, i32_w]
         rfl
       refine pure_ (i := 17) (N := some 66) (v := undef) (a' := ?_) #[T_, T_, T_, T_, T_, T_, T_, T_, T_, T_, T_, T_, T_, T_, T_, T_, T_, T_, F_, F_, F_, F_, F_, F_, F_, F_] rfl rfl (any_of HT_.1 (by kernel_rfl)) (fun _ _ _ h => h) (Or.inr ⟨by rfl, rfl⟩) ?_ ?_
       rotate_left
       · simp only [Act.put, sA, sZ, sS, i64_w, i32_w]
         rfl
       refine pure_ (i := 18) (N := some 67) (v := undef) (a' := ?_) #[T_, T_, T_, T_, T_, T_, T_, T_, T_, T_, T_, T_, T_, T_, T_, T_, T_, T_, T_, F_, F_, F_, F_, F_, F_, F_] rfl rfl (any_of HT_.1 (by kernel_rfl)) (fun _ _ _ h => h) (Or.inr ⟨by rfl, rfl⟩) ?_ ?_
       rotate_left
       · simp only [Act.put, sA, sZ, sS, i64_w, i32_w]
         rfl
       refine pure_ (i := 19) (N := some 68) (v := undef) (a' := ?_) #[T_, T_, T_, T_, T_, T_, T_, T_, T_, T_, T_, T_, T_, T_, T_, T_, T_, T_, T_, T_, F_, F_, F_, F_, F_, F_] rfl rfl (any_of HT_.1 (by kernel_rfl)) (fun _ _ _ h => h) (Or.inr ⟨by rfl, rfl⟩) ?_ ?_
       rotate_left
       · simp only [Act.put, sA, sZ, sS, i64_w, i32_w]
         rfl
       refine pure_ (i := 20) (N := some 69) (v := undef) (a' := ?_) #[T_, T_, T_, T_, T_, T_, T_, T_, T_, T_, T_, T_, T_, T_, T_, T_, T_, T_, T_, T_, T_, F_, F_, F_, F_, F_] rfl rfl (any_of HT_.1 (by kernel_rfl)) (fun _ _ _ h => h) (Or.inr ⟨by rfl, rfl⟩) ?_ ?_
       rotate_left
       · simp only [Act.put, sA, sZ, sS, i64_w, i32_w]
         rfl
       refine pure_ (i := 21) (N := some 70) (v := undef) (a' := ?_) #[T_, T_, T_, T_, T_, T_, T_, T_, T_, T_, T_, T_, T_, T_, T_, T_, T_, T_, T_, T_, T_, T_, F_, F_, F_, F_] rfl rfl (any_of HT_.1 (by kernel_rfl)) (fun _ _ _ h => h) (Or.inr ⟨by rfl, rfl⟩) ?_ ?_
       rotate_left
       · simp only [Act.put, sA, sZ, sS, i64_w, i32_w]
         rfl
       refine pure_ (i := 22) (N := some 71) (v := undef) (a' := ?_) #[T_, T_, T_, T_, T_, T_, T_, T_, T_, T_, T_, T_, T_, T_, T_, T_, T_, T_, T_, T_, T_, T_, T_, F_, F_, F_] rfl rfl (any_of HT_.1 (by kernel_rfl)) (fun _ _ _ h => h) (Or.inr ⟨by rfl, rfl⟩) ?_ ?_
       rotate_left
       · simp only [Act.put, sA, sZ, sS, i64_w, i32_w]
         rfl
       refine pure_ (i := 23) (N := some 72) (v := undef) (a' := ?_) #[T_, T_, T_, T_, T_, T_, T_, T_, T_, T_, T_, T_, T_, T_, T_, T_, T_, T_, T_, T_, T_, T_, T_, T_, F_, F_] rfl rfl (any_of HT_.1 (by kernel_rfl)) (fun _ _ _ h => h) (Or.inr ⟨by rfl, rfl⟩) ?_ ?_
       rotate_left
       · simp only [Act.put, sA, sZ, sS, i64_w, i32_w]
         rfl
       refine pure_ (i := 24) (N := some 73) (v := undef) (a' := ?_) #[T_, T_, T_, T_, T_, T_, T_, T_, T_, T_, T_, T_, T_, T_, T_, T_, T_, T_, T_, T_, T_, T_, T_, T_, T_, F_] rfl rfl (any_of HT_.1 (by kernel_rfl)) (fun _ _ _ h => h) (Or.inr ⟨by rfl, rfl⟩) ?_ ?_
       rotate_left
       · simp only [Act.put, sA, sZ, sS, i64_w, i32_w]
         rfl
       refine pure_ (i := 25) (N := some 74) (v := ?_) (a' := ?_) #[T_, T_, T_, T_, T_, T_, T_, T_, T_, T_, T_, T_, T_, T_, T_, T_, T_, T_, T_, T_, T_, T_, T_, T_, T_, T_] rfl rfl (any_of HT_.1 (by kernel_rfl)) (fun _ _ _ h => h) (Or.inl ⟨by rfl, ?_⟩) ?_ ?_
       rotate_left
       · intro w'
         go_simp
         with_reducible rfl
       rotate_left
       · simp only [Act.put, sA, sZ, sS, i64_w, i32_w]
         rfl
       refine done_ (done_of HT_.1 (by kernel_rfl)) ?_
       try go_wp2
       go_ret
       exact ⟨by first | rfl | (simp [errW_none, errW_some] <;> rfl) | (simp only [<- hji29]; first | rfl | (simp [errW_none, errW_some] <;> rfl)) | (simp [*, errW_none, errW_some] <;> rfl), hh HB⟩
     subst c33
     rw [if_pos rfl] at H
     have c34b0 := eq_true (dt : 0 <= x10_2)
     by_cases c35 : x10_2 <= (t606.length : Int)
     rotate_left
     · rw [if_neg c35] at H
       exact absurd H (by simp)
     rw [if_pos c35] at H
     have c35b0 := eq_true c35
     have c35b1 : decide (x10_2 <= (t606.length : Int)) = true := decide_eq_true c35
     clear c35
     obtain ⟨y615, hy615⟩ : ∃ y_ : List ByteArray, y_ = (t606.take (x10_2 : Int).toNat) := ⟨_, rfl⟩
     replace H : ((q_Has.f k2 y615 (rdOf ByteArray.empty t606 x10_2)).bind fun t620 => (if t620 = true then (some false) else (w_ModgraphDual.l0 k2 l0 a1 a2 t606 (wrap64 (x10_2 + 1)) t601 t602 t603 t604))) = some r := by first | (rw [hy615]; with_reducible exact H) | (have H2_ := (Option.bind_some _ _).symm.trans H; rw [hy615]; with_reducible exact H2_) | (have H2_ := (Option.bind_some _ _).symm.trans H; with_reducible exact H2_) | with_reducible exact H | (rw [hy615]; exact H) | exact H
     have Ny615 := aM hy615
     clear hy615
     replace H := Option.bind_eq_some_iff.mp H
     obtain ⟨t620, A360, H⟩ := H
     try dsimp only at H
     have A36 := aM A360
     clear A360
     by_cases c37 : t620 = true
     · subst c37
       rw [if_pos rfl] at H
       obtain rfl := Option.some.inj H
       try go_wp2
       replace HO_9 := aM (R_drew HO_9.1)
       replace BK605 := aM (blk_drew BK605.1)
       replace HB := aM (below_drew1 HB.1)
       have p609 : 0 <= (x10_2 : Int) := dt
       have q609 : x10_2 < (t606.length : Int) := dt
       obtain ⟨ad609, e609, hx609_0⟩ := Kd.at_string (R_reads' HO_9.1).2.2 x10_2 p609 q609
       cases e609
       replace p609 := eq_true p609
       replace q609 := eq_true q609
       have p613 : 0 <= ((ji29) : Int) := dt
       have q613 : (ji29) < (t606.length : Int) := dt
       obtain ⟨ad613, e613, hx613_0⟩ := Kd.at_string (R_reads' HO_9.1).2.2 (ji29) p613 q613
       obtain rfl : ad609 = ad613 := (by injection e613)
       replace p613 := eq_true p613
       replace q613 := eq_true q613
       have p619 : 0 <= (x10_2 : Int) := dt
       have q619 : x10_2 < (t606.length : Int) := dt
       obtain ⟨ad619, e619, hx619_0⟩ := Kd.at_string (R_reads' HO_9.1).2.2 x10_2 p619 q619
       obtain rfl : ad609 = ad619 := (by injection e619)
       replace p619 := eq_true p619
       replace q619 := eq_true q619
       refine start_ (n := 26) (S := fun w' => w'.cell? (ad609.add (x10_2).toNat) = some (.string (rdOf ByteArray.empty t606 x10_2)) /\ w'.cell? (ad609.add ((ji29)).toNat) = some (.string (rdOf ByteArray.empty t606 (ji29))) /\ w'.cell? (ad609.add (x10_2).toNat) = some (.string (rdOf ByteArray.empty t606 x10_2))) (ds := []) #[F_, F_, F_, F_, F_, F_, F_, F_, F_, F_, F_, F_, F_, F_, F_, F_, F_, F_, F_, F_, F_, F_, F_, F_, F_, F_] (by kernel_rfl) rfl rfl ⟨hx609_0, hx613_0, hx619_0⟩ (fun hHeld => ?_); refine with_tabW w_ModgraphDual.tab10 w_ModgraphDual.bits10 (fun HT_ HW_ => ?_)
       generalize wr.drew = w38 at HO_9 BK605 HB hx609_0 hx613_0 hx619_0 hHeld ⊢
       refine pure_ (i := 0) (N := some 49) (v := ?_) (a' := ?_) #[T_, F_, F_, F_, F_, F_, F_, F_, F_, F_, F_, F_, F_, F_, F_, F_, F_, F_, F_, F_, F_, F_, F_, F_, F_, F_] rfl rfl (any_of HT_.1 (by kernel_rfl)) (fun _ _ _ h => h) (Or.inl ⟨by rfl, ?_⟩) ?_ ?_
       rotate_left
       · intro w'
         go_simp
         with_reducible rfl
       rotate_left
       · simp only [Act.put, sA, sZ, sS, i64_w, i32_w]
         rfl
       refine pure_ (i := 1) (N := some 50) (v := ?_) (a' := ?_) #[T_, T_, F_, F_, F_, F_, F_, F_, F_, F_, F_, F_, F_, F_, F_, F_, F_, F_, F_, F_, F_, F_, F_, F_, F_, F_] rfl rfl (any_of HT_.1 (by kernel_rfl)) (fun _ _ _ h => h) (Or.inl ⟨by rfl, ?_⟩) ?_ ?_
       rotate_left
       · intro w'
         go_simp
         with_reducible rfl
       rotate_left
       · simp only [Act.put, sA, sZ, sS, i64_w, i32_w]
         rfl
       refine pure_ (i := 2) (N := some 51) (v := ?_) (a' := ?_) #[T_, T_, T_, F_, F_, F_, F_, F_, F_, F_, F_, F_, F_, F_, F_, F_, F_, F_, F_, F_, F_, F_, F_, F_, F_, F_] rfl rfl (any_of HT_.1 (by kernel_rfl)) (fun _ _ _ h => h) (Or.inl ⟨by rfl, ?_⟩) ?_ ?_
       rotate_left
       · intro w'
         go_simp
         with_reducible rfl
       rotate_left
       · simp only [Act.put, sA, sZ, sS, i64_w, i32_w]
         rfl
       refine pure_ (i := 3) (N := some 52) (v := ?_) (a' := ?_) #[T_, T_, T_, T_, F_, F_, F_, F_, F_, F_, F_, F_, F_, F_, F_, F_, F_, F_, F_, F_, F_, F_, F_, F_, F_, F_] rfl rfl (any_of HT_.1 (by kernel_rfl)) (fun _ _ _ h => h) (Or.inl ⟨by rfl, ?_⟩) ?_ ?_
       rotate_left
       · intro w'
         go_simp
         with_reducible rfl
       rotate_left
       · simp only [Act.put, sA, sZ, sS, i64_w, i32_w]
         rfl
       refine pure_ (i := 6) (N := some 55) (v := ?_) (a' := ?_) #[T_, T_, T_, T_, F_, F_, T_, F_, F_, F_, F_, F_, F_, F_, F_, F_, F_, F_, F_, F_, F_, F_, F_, F_, F_, F_] rfl rfl (any_of HT_.1 (by kernel_rfl)) (fun _ _ _ h => h) (Or.inl ⟨by rfl, ?_⟩) ?_ ?_
       rotate_left
       · intro w'
         go_simp
         with_reducible rfl
       rotate_left
       · simp only [Act.put, sA, sZ, sS, i64_w, i32_w]
         rfl
       refine pure_ (i := 7) (N := some 56) (v := ?_) (a' := ?_) #[T_, T_, T_, T_, F_, F_, T_, T_, F_, F_, F_, F_, F_, F_, F_, F_, F_, F_, F_, F_, F_, F_, F_, F_, F_, F_] rfl rfl (any_of HT_.1 (by kernel_rfl)) (fun _ _ _ h => h) (Or.inl ⟨by rfl, ?_⟩) ?_ ?_
       rotate_left
       · intro w'
         go_simp
         with_reducible rfl
       rotate_left
       · simp only [Act.put, sA, sZ, sS, i64_w, i32_w]
         rfl
       refine pure_ (i := 8) (N := some 57) (v := ?_) (a' := ?_) #[T_, T_, T_, T_, F_, F_, T_, T_, T_, F_, F_, F_, F_, F_, F_, F_, F_, F_, F_, F_, F_, F_, F_, F_, F_, F_] rfl rfl (any_of HT_.1 (by kernel_rfl)) (fun _ _ _ h => h) (Or.inl ⟨by rfl, ?_⟩) ?_ ?_
       rotate_left
       · intro w'
         go_simp
         with_reducible rfl
       rotate_left
       · simp only [Act.put, sA, sZ, sS, i64_w, i32_w]
         rfl
       refine pure_ (i := 9) (N := some 58) (v := ?_) (a' := ?_) #[T_, T_, T_, T_, F_, F_, T_, T_, T_, T_, F_, F_, F_, F_, F_, F_, F_, F_, F_, F_, F_, F_, F_, F_, F_, F_] rfl rfl (any_of HT_.1 (by kernel_rfl)) (fun _ _ _ h => h) (Or.inl ⟨by rfl, ?_⟩) ?_ ?_
       rotate_left
       · intro w'
         go_simp
         with_reducible rfl
       rotate_left
       · simp only [Act.put, sA, sZ, sS, i64_w, i32_w]
         rfl
       refine pure_ (i := 10) (N := some 59) (v := ?_) (a' := ?_) #[T_, T_, T_, T_, F_, F_, T_, T_, T_, T_, T_, F_, F_, F_, F_, F_, F_, F_, F_, F_, F_, F_, F_, F_, F_, F_] rfl rfl (any_of HT_.1 (by kernel_rfl)) (fun _ _ _ h => h) (Or.inl ⟨by rfl, ?_⟩) ?_ ?_
       rotate_left
       · intro w'
         go_simp
         with_reducible rfl
       rotate_left
       · simp only [Act.put, sA, sZ, sS, i64_w, i32_w]
         rfl
       refine pure_ (i := 11) (N := some 60) (v := ?_) (a' := ?_) #[T_, T_, T_, T_, F_, F_, T_, T_, T_, T_, T_, T_, F_, F_, F_, F_, F_, F_, F_, F_, F_, F_, F_, F_, F_, F_] rfl rfl (any_of HT_.1 (by kernel_rfl)) (fun _ _ _ h => h) (Or.inl ⟨by rfl, ?_⟩) ?_ ?_
       rotate_left
       · intro w'
         go_simp
         with_reducible rfl
       rotate_left
       · simp only [Act.put, sA, sZ, sS, i64_w, i32_w]
         rfl
       refine pure_ (i := 12) (N := some 61) (v := ?_) (a' := ?_) #[T_, T_, T_, T_, F_, F_, T_, T_, T_, T_, T_, T_, T_, F_, F_, F_, F_, F_, F_, F_, F_, F_, F_, F_, F_, F_] rfl rfl (any_of HT_.1 (by kernel_rfl)) (fun _ _ _ h => h) (Or.inl ⟨by rfl, ?_⟩) ?_ ?_
       rotate_left
       · intro w'
         go_simp
         with_reducible rfl
       rotate_left
       · simp only [Act.put, sA, sZ, sS, i64_w, i32_w]
         rfl
       refine take_ (i := 4) (N := some 53) (v := ?_) (a' := ?_) #[T_, T_, T_, T_, T_, F_, T_, T_, T_, T_, T_, T_, T_, F_, F_, F_, F_, F_, F_, F_, F_, F_, F_, F_, F_, F_] rfl rfl (take_ofW HT_.1 HW_.1 (by kernel_rfl)) (fun _ _ _ h => h) (Or.inl ⟨by rfl, ?_⟩) hHeld ?_ ?_
       rotate_left
       · rintro w' ⟨s0, s1, s2⟩
         go_simp
         with_reducible rfl
       rotate_left
       · simp only [Act.put, sA, sZ, sS, i64_w, i32_w]
         rfl
       refine take_ (i := 13) (N := some 62) (v := ?_) (a' := ?_) #[T_, T_, T_, T_, T_, F_, T_, T_, T_, T_, T_, T_, T_, T_, F_, F_, F_, F_, F_, F_, F_, F_, F_, F_, F_, F_] rfl rfl (take_ofW HT_.1 HW_.1 (by kernel_rfl)) (fun _ _ _ h => h) (Or.inl ⟨by rfl, ?_⟩) hHeld ?_ ?_
       rotate_left
       · rintro w' ⟨s0, s1, s2⟩
         go_simp
         with_reducible rfl
       rotate_left
       · simp only [Act.put, sA, sZ, sS, i64_w, i32_w]
         rfl
       refine one_ (i := 5) (N := some 54) #[T_, T_, T_, T_, T_, T_, T_, T_, T_, T_, T_, T_, T_, T_, F_, F_, F_, F_, F_, F_, F_, F_, F_, F_, F_, F_] rfl rfl (one_of HT_.1 (by kernel_rfl)) (by decide) (fun K hK => ?_)
       refine goes_ Try.func22 (by kernel_rfl) rfl #[.slice A0 l0.length c0, .string (rdOf ByteArray.empty t606 x10_2)] (by rfl) rfl rfl (by (try simp only [List.map_toArray, List.map_cons, List.map_nil]); first | done | rfl | (simp only [List.length_drop, List.length_take]; rfl)) ?_
       with_reducible refine (r_Imports.calls k2 _ _ l0 (rdOf ByteArray.empty t606 x10_2) t610 _ ?side1 ?side2 A27.1).mono ?_
       (case side1 => exact cb HR0 HB)
       (case side2 => exact HC0.1)
       rintro e w39 ⟨v611, rfl, ho0, hb⟩
       have HS0_ := (hb.cell (World.block_lt_of_cell? _ _ (hHeld.1))).trans (hHeld.1)
       have HS1_ := (hb.cell (World.block_lt_of_cell? _ _ (hHeld.2.1))).trans (hHeld.2.1)
       have HS2_ := (hb.cell (World.block_lt_of_cell? _ _ (hHeld.2.2))).trans (hHeld.2.2)
       refine ⟨_, rfl, ?_⟩
       have HO612 := aM (R_lower (R_new' ho0 (R_lt (rk HO_9))) (below_size (hh HB)))
       replace HO_9 := aM (R_elder' (rk HO_9) (R_base ho0) hb)
       replace BK605 := kb BK605 hb
       replace HB := bs HB hb
       (clear hb)
       skip
       skip
       skip
       (clear ho0)
       obtain ⟨Ao40, co40, eo40⟩ := R_slice HO612.1
       (first | subst eo40 | (injection eo40 with f1_ f2_ f3_; have f4_ := f1_.symm; have f5_ := f3_.symm; clear f1_ f2_ f3_; subst f4_; subst f5_))
       refine hK.out _ _ ⟨HS0_, HS1_, HS2_⟩ (fun hHeld => ?_)
       clear hK K
       refine norm_ (a' := ?_) ?_ ?_
       rotate_left
       · show Act.put _ (some 54) _ = _
         simp only [Act.put, sA, sZ, sS, i64_w, i32_w]
         rfl
       refine one_ (i := 14) (N := some 63) #[T_, T_, T_, T_, T_, T_, T_, T_, T_, T_, T_, T_, T_, T_, T_, F_, F_, F_, F_, F_, F_, F_, F_, F_, F_, F_] rfl rfl (one_of HT_.1 (by kernel_rfl)) (by decide) (fun K hK => ?_)
       refine goes_ Try.func21 (by kernel_rfl) rfl #[.slice Ao40 t610.length co40, .string (rdOf ByteArray.empty t606 (ji29))] (by rfl) rfl rfl (by (try simp only [List.map_toArray, List.map_cons, List.map_nil]); first | done | (simp only [hji29]; rfl) | rfl | (simp only [List.length_drop, List.length_take]; rfl)) ?_
       with_reducible refine (q_Has.calls k2 _ _ t610 (rdOf ByteArray.empty t606 (ji29)) true _ ?side1 ?side2 A32.1).mono ?_
       (case side1 => exact cr HO612)
       (case side2 => exact (R_reads' HO612.1).2.1)
       rintro e w' ⟨rfl, ⟨nd, rfl⟩⟩
       refine ⟨_, rfl, ?_⟩
       have q41 : (x10_2 : Int) <= ((t606.length : Int) : Int) := dt
       obtain ⟨i041, hi041, _, hsz41, _⟩ := info_parts info9
       have hroom41 : t606.length <= co24 := (R_reads' HO_9.1).2.1
       have hC41 : Kd.C Kd.string _ (some ad609) t606.length t606 := (R_reads' HO_9.1).2.2
       have hcut41 := cut_to (P := Try.prog) 25 9 .i64 Try.underlying25 hi041 (some ad609) t606.length co24 x10_2 (dt) q41 hroom41
       have hr41 := C_take (m := (x10_2 : Int).toNat) hC41 (by omega)
       have hy41 : y615.length = (x10_2 : Int).toNat := (by rw [Ny615.1, List.length_take]; omega)
       rw [<- Ny615.1] at hr41
       rw [<- hy41] at hcut41
       have HR618 := aM hr41
       have HC618 := aM (show y615.length <= co24 from by omega)
       clear hr41 hC41 hroom41 hi041 hsz41
       have KY41 := aM hy41
       clear hy41
       have KL41 := aM (show (x10_2 : Int).toNat <= t606.length from by omega)
       replace q41 := eq_true q41
       refine hK.out _ _ ⟨hHeld.1, hHeld.2.1, hHeld.2.2⟩ (fun hHeld => ?_)
       clear hK K
       refine norm_ (a' := ?_) ?_ ?_
       rotate_left
       · show Act.put _ (some 63) _ = _
         simp only [Act.put, sA, sZ, sS, i64_w, i32_w]
         rfl
       refine pure_ (i := 15) (N := some 64) (v := ?_) (a' := ?_) #[T_, T_, T_, T_, T_, T_, T_, T_, T_, T_, T_, T_, T_, T_, T_, T_, F_, F_, F_, F_, F_, F_, F_, F_, F_, F_] rfl rfl (any_of HT_.1 (by kernel_rfl)) (fun _ _ _ h => h) (Or.inl ⟨by rfl, ?_⟩) ?_ ?_
       rotate_left
       · intro w'
         go_simp
         with_reducible rfl
       rotate_left
       · simp only [Act.put, sA, sZ, sS, i64_w, i32_w]
         rfl
       refine pure_ (i := 16) (N := some 65) (v := ?_) (a' := ?_) #[T_, T_, T_, T_, T_, T_, T_, T_, T_, T_, T_, T_, T_, T_, T_, T_, T_, F_, F_, F_, F_, F_, F_, F_, F_, F_] rfl rfl (any_of HT_.1 (by kernel_rfl)) (fun _ _ _ h => h) (Or.inl ⟨by rfl, ?_⟩) ?_ ?_
       rotate_left
       · intro w'
         go_simp
         with_reducible rfl
       rotate_left
       · simp only [Act.put, sA, sZ, sS, i64_w, i32_w]
         rfl
       refine pure_ (i := 17) (N := some 66) (v := ?_) (a' := ?_) #[T_, T_, T_, T_, T_, T_, T_, T_, T_, T_, T_, T_, T_, T_, T_, T_, T_, T_, F_, F_, F_, F_, F_, F_, F_, F_] rfl rfl (any_of HT_.1 (by kernel_rfl)) (fun _ _ _ h => h) (Or.inl ⟨by rfl, ?_⟩) ?_ ?_
       rotate_left
       · intro w'
         go_simp
         with_reducible rfl
       rotate_left
       · simp only [Act.put, sA, sZ, sS, i64_w, i32_w]
         rfl
       refine pure_ (i := 18) (N := some 67) (v := ?_) (a' := ?_) #[T_, T_, T_, T_, T_, T_, T_, T_, T_, T_, T_, T_, T_, T_, T_, T_, T_, T_, T_, F_, F_, F_, F_, F_, F_, F_] rfl rfl (any_of HT_.1 (by kernel_rfl)) (fun _ _ _ h => h) (Or.inl ⟨by rfl, ?_⟩) ?_ ?_
       rotate_left
       · intro w'
         go_simp
         with_reducible rfl
       rotate_left
       · simp only [Act.put, sA, sZ, sS, i64_w, i32_w]
         rfl
       refine pure_ (i := 19) (N := some 68) (v := ?_) (a' := ?_) #[T_, T_, T_, T_, T_, T_, T_, T_, T_, T_, T_, T_, T_, T_, T_, T_, T_, T_, T_, T_, F_, F_, F_, F_, F_, F_] rfl rfl (any_of HT_.1 (by kernel_rfl)) (fun _ _ _ h => h) (Or.inl ⟨by rfl, ?_⟩) ?_ ?_
       rotate_left
       · intro w'
         go_simp
         with_reducible rfl
       rotate_left
       · simp only [Act.put, sA, sZ, sS, i64_w, i32_w]
         rfl
       refine pure_ (i := 20) (N := some 69) (v := ?_) (a' := ?_) #[T_, T_, T_, T_, T_, T_, T_, T_, T_, T_, T_, T_, T_, T_, T_, T_, T_, T_, T_, T_, T_, F_, F_, F_, F_, F_] rfl rfl (any_of HT_.1 (by kernel_rfl)) (fun _ _ _ h => h) (Or.inl ⟨by rfl, ?_⟩) ?_ ?_
       rotate_left
       · intro w'
         go_simp
         with_reducible rfl
       rotate_left
       · simp only [Act.put, sA, sZ, sS, i64_w, i32_w]
         rfl
       refine pure_ (i := 21) (N := some 70) (v := ?_) (a' := ?_) #[T_, T_, T_, T_, T_, T_, T_, T_, T_, T_, T_, T_, T_, T_, T_, T_, T_, T_, T_, T_, T_, T_, F_, F_, F_, F_] rfl rfl (any_of HT_.1 (by kernel_rfl)) (fun _ _ _ h => h) (Or.inl ⟨by rfl, ?_⟩) ?_ ?_
       rotate_left
       · intro w'
         go_simp
         with_reducible rfl
       rotate_left
       · simp only [Act.put, sA, sZ, sS, i64_w, i32_w]
         rfl
       refine pure_ (i := 22) (N := some 71) (v := ?_) (a' := ?_) #[T_, T_, T_, T_, T_, T_, T_, T_, T_, T_, T_, T_, T_, T_, T_, T_, T_, T_, T_, T_, T_, T_, T_, F_, F_, F_] rfl rfl (any_of HT_.1 (by kernel_rfl)) (fun _ _ _ h => h) (Or.inl ⟨by rfl, ?_⟩) ?_ ?_
       rotate_left
       · intro w'
         go_simp
         with_reducible rfl
       rotate_left
       · simp only [Act.put, sA, sZ, sS, i64_w, i32_w]
         rfl
       refine take_ (i := 23) (N := some 72) (v := ?_) (a' := ?_) #[T_, T_, T_, T_, T_, T_, T_, T_, T_, T_, T_, T_, T_, T_, T_, T_, T_, T_, T_, T_, T_, T_, T_, T_, F_, F_] rfl rfl (take_ofW HT_.1 HW_.1 (by kernel_rfl)) (fun _ _ _ h => h) (Or.inl ⟨by rfl, ?_⟩) hHeld ?_ ?_
       rotate_left
       · rintro w' ⟨s0, s1, s2⟩
         go_simp
         with_reducible rfl
       rotate_left
       · simp only [Act.put, sA, sZ, sS, i64_w, i32_w]
         rfl
       refine one_ (i := 24) (N := some 73) #[T_, T_, T_, T_, T_, T_, T_, T_, T_, T_, T_, T_, T_, T_, T_, T_, T_, T_, T_, T_, T_, T_, T_, T_, T_, F_] rfl rfl (one_of HT_.1 (by kernel_rfl)) (by decide) (fun K hK => ?_)
       refine goes_ Try.func21 (by kernel_rfl) rfl #[.slice (some ad609) y615.length co24, .string (rdOf ByteArray.empty t606 x10_2)] (by rfl) rfl rfl (by (try simp only [List.map_toArray, List.map_cons, List.map_nil]); first | done | rfl | (simp only [List.length_drop, List.length_take]; rfl)) ?_
       with_reducible refine (q_Has.calls k2 _ _ y615 (rdOf ByteArray.empty t606 x10_2) true _ ?side1 ?side2 A36.1).mono ?_
       (case side1 => repeat (first | exact (by repeat (first | (with_reducible exact HR618.1) | (with_reducible refine C_alloc ?_ _) | (with_reducible refine C_drewN ?_ _) | (with_reducible refine C_drew ?_) | exact HR618.1)) | (with_reducible refine C_alloc ?_ _) | (with_reducible refine C_drewN ?_ _) | (with_reducible refine C_drew ?_)))
       (case side2 => exact HC618.1)
       rintro e w' ⟨rfl, ⟨nd, rfl⟩⟩
       refine ⟨_, rfl, ?_⟩
       refine hK.out _ _ ⟨hHeld.1, hHeld.2.1, hHeld.2.2⟩ (fun hHeld => ?_)
       clear hK K
       refine norm_ (a' := ?_) ?_ ?_
       rotate_left
       · show Act.put _ (some 73) _ = _
         simp only [Act.put, sA, sZ, sS, i64_w, i32_w]
         rfl
       refine pure_ (i := 25) (N := some 74) (v := ?_) (a' := ?_) #[T_, T_, T_, T_, T_, T_, T_, T_, T_, T_, T_, T_, T_, T_, T_, T_, T_, T_, T_, T_, T_, T_, T_, T_, T_, T_] rfl rfl (any_of HT_.1 (by kernel_rfl)) (fun _ _ _ h => h) (Or.inl ⟨by rfl, ?_⟩) ?_ ?_
       rotate_left
       · intro w'
         go_simp
         with_reducible rfl
       rotate_left
       · simp only [Act.put, sA, sZ, sS, i64_w, i32_w]
         rfl
       refine done_ (done_of HT_.1 (by kernel_rfl)) ?_
       try go_wp2
       go_ret
       exact ⟨by first | rfl | (simp [errW_none, errW_some] <;> rfl) | (simp only [<- hji29]; first | rfl | (simp [errW_none, errW_some] <;> rfl)) | (simp [*, errW_none, errW_some] <;> rfl), hh HB⟩
     replace c37 := Bool.eq_false_iff.mpr c37
     subst c37
     rw [if_neg (show ¬ (false = true) by decide)] at H
     have H' := aM H
     clear H
     try go_wp2
     replace HO_9 := aM (R_drew HO_9.1)
     replace BK605 := aM (blk_drew BK605.1)
     replace HB := aM (below_drew1 HB.1)
     have p609 : 0 <= (x10_2 : Int) := dt
     have q609 : x10_2 < (t606.length : Int) := dt
     obtain ⟨ad609, e609, hx609_0⟩ := Kd.at_string (R_reads' HO_9.1).2.2 x10_2 p609 q609
     cases e609
     replace p609 := eq_true p609
     replace q609 := eq_true q609
     have p613 : 0 <= ((ji29) : Int) := dt
     have q613 : (ji29) < (t606.length : Int) := dt
     obtain ⟨ad613, e613, hx613_0⟩ := Kd.at_string (R_reads' HO_9.1).2.2 (ji29) p613 q613
     obtain rfl : ad609 = ad613 := (by injection e613)
     replace p613 := eq_true p613
     replace q613 := eq_true q613
     have p619 : 0 <= (x10_2 : Int) := dt
     have q619 : x10_2 < (t606.length : Int) := dt
     obtain ⟨ad619, e619, hx619_0⟩ := Kd.at_string (R_reads' HO_9.1).2.2 x10_2 p619 q619
     obtain rfl : ad609 = ad619 := (by injection e619)
     replace p619 := eq_true p619
     replace q619 := eq_true q619
     refine start_ (n := 26) (S := fun w' => w'.cell? (ad609.add (x10_2).toNat) = some (.string (rdOf ByteArray.empty t606 x10_2)) /\ w'.cell? (ad609.add ((ji29)).toNat) = some (.string (rdOf ByteArray.empty t606 (ji29))) /\ w'.cell? (ad609.add (x10_2).toNat) = some (.string (rdOf ByteArray.empty t606 x10_2))) (ds := []) #[F_, F_, F_, F_, F_, F_, F_, F_, F_, F_, F_, F_, F_, F_, F_, F_, F_, F_, F_, F_, F_, F_, F_, F_, F_, F_] (by kernel_rfl) rfl rfl ⟨hx609_0, hx613_0, hx619_0⟩ (fun hHeld => ?_); refine with_tabW w_ModgraphDual.tab10 w_ModgraphDual.bits10 (fun HT_ HW_ => ?_)
     generalize wr.drew = w42 at HO_9 BK605 HB hx609_0 hx613_0 hx619_0 hHeld ⊢
     refine pure_ (i := 0) (N := some 49) (v := ?_) (a' := ?_) #[T_, F_, F_, F_, F_, F_, F_, F_, F_, F_, F_, F_, F_, F_, F_, F_, F_, F_, F_, F_, F_, F_, F_, F_, F_, F_] rfl rfl (any_of HT_.1 (by kernel_rfl)) (fun _ _ _ h => h) (Or.inl ⟨by rfl, ?_⟩) ?_ ?_
     rotate_left
     · intro w'
       go_simp
       with_reducible rfl
     rotate_left
     · simp only [Act.put, sA, sZ, sS, i64_w, i32_w]
       rfl
     refine pure_ (i := 1) (N := some 50) (v := ?_) (a' := ?_) #[T_, T_, F_, F_, F_, F_, F_, F_, F_, F_, F_, F_, F_, F_, F_, F_, F_, F_, F_, F_, F_, F_, F_, F_, F_, F_] rfl rfl (any_of HT_.1 (by kernel_rfl)) (fun _ _ _ h => h) (Or.inl ⟨by rfl, ?_⟩) ?_ ?_
     rotate_left
     · intro w'
       go_simp
       with_reducible rfl
     rotate_left
     · simp only [Act.put, sA, sZ, sS, i64_w, i32_w]
       rfl
     refine pure_ (i := 2) (N := some 51) (v := ?_) (a' := ?_) #[T_, T_, T_, F_, F_, F_, F_, F_, F_, F_, F_, F_, F_, F_, F_, F_, F_, F_, F_, F_, F_, F_, F_, F_, F_, F_] rfl rfl (any_of HT_.1 (by kernel_rfl)) (fun _ _ _ h => h) (Or.inl ⟨by rfl, ?_⟩) ?_ ?_
     rotate_left
     · intro w'
       go_simp
       with_reducible rfl
     rotate_left
     · simp only [Act.put, sA, sZ, sS, i64_w, i32_w]
       rfl
     refine pure_ (i := 3) (N := some 52) (v := ?_) (a' := ?_) #[T_, T_, T_, T_, F_, F_, F_, F_, F_, F_, F_, F_, F_, F_, F_, F_, F_, F_, F_, F_, F_, F_, F_, F_, F_, F_] rfl rfl (any_of HT_.1 (by kernel_rfl)) (fun _ _ _ h => h) (Or.inl ⟨by rfl, ?_⟩) ?_ ?_
     rotate_left
     · intro w'
       go_simp
       with_reducible rfl
     rotate_left
     · simp only [Act.put, sA, sZ, sS, i64_w, i32_w]
       rfl
     refine pure_ (i := 6) (N := some 55) (v := ?_) (a' := ?_) #[T_, T_, T_, T_, F_, F_, T_, F_, F_, F_, F_, F_, F_, F_, F_, F_, F_, F_, F_, F_, F_, F_, F_, F_, F_, F_] rfl rfl (any_of HT_.1 (by kernel_rfl)) (fun _ _ _ h => h) (Or.inl ⟨by rfl, ?_⟩) ?_ ?_
     rotate_left
     · intro w'
       go_simp
       with_reducible rfl
     rotate_left
     · simp only [Act.put, sA, sZ, sS, i64_w, i32_w]
       rfl
     refine pure_ (i := 7) (N := some 56) (v := ?_) (a' := ?_) #[T_, T_, T_, T_, F_, F_, T_, T_, F_, F_, F_, F_, F_, F_, F_, F_, F_, F_, F_, F_, F_, F_, F_, F_, F_, F_] rfl rfl (any_of HT_.1 (by kernel_rfl)) (fun _ _ _ h => h) (Or.inl ⟨by rfl, ?_⟩) ?_ ?_
     rotate_left
     · intro w'
       go_simp
       with_reducible rfl
     rotate_left
     · simp only [Act.put, sA, sZ, sS, i64_w, i32_w]
       rfl
     refine pure_ (i := 8) (N := some 57) (v := ?_) (a' := ?_) #[T_, T_, T_, T_, F_, F_, T_, T_, T_, F_, F_, F_, F_, F_, F_, F_, F_, F_, F_, F_, F_, F_, F_, F_, F_, F_] rfl rfl (any_of HT_.1 (by kernel_rfl)) (fun _ _ _ h => h) (Or.inl ⟨by rfl, ?_⟩) ?_ ?_
     rotate_left
     · intro w'
       go_simp
       with_reducible rfl
     rotate_left
     · simp only [Act.put, sA, sZ, sS, i64_w, i32_w]
       rfl
     refine pure_ (i := 9) (N := some 58) (v := ?_) (a' := ?_) #[T_, T_, T_, T_, F_, F_, T_, T_, T_, T_, F_, F_, F_, F_, F_, F_, F_, F_, F_, F_, F_, F_, F_, F_, F_, F_] rfl rfl (any_of HT_.1 (by kernel_rfl)) (fun _ _ _ h => h) (Or.inl ⟨by rfl, ?_⟩) ?_ ?_
     rotate_left
     · intro w'
       go_simp
       with_reducible rfl
     rotate_left
     · simp only [Act.put, sA, sZ, sS, i64_w, i32_w]
       rfl
     refine pure_ (i := 10) (N := some 59) (v := ?_) (a' := ?_) #[T_, T_, T_, T_, F_, F_, T_, T_, T_, T_, T_, F_, F_, F_, F_, F_, F_, F_, F_, F_, F_, F_, F_, F_, F_, F_] rfl rfl (any_of HT_.1 (by kernel_rfl)) (fun _ _ _ h => h) (Or.inl ⟨by rfl, ?_⟩) ?_ ?_
     rotate_left
     · intro w'
       go_simp
       with_reducible rfl
     rotate_left
     · simp only [Act.put, sA, sZ, sS, i64_w, i32_w]
       rfl
     refine pure_ (i := 11) (N := some 60) (v := ?_) (a' := ?_) #[T_, T_, T_, T_, F_, F_, T_, T_, T_, T_, T_, T_, F_, F_, F_, F_, F_, F_, F_, F_, F_, F_, F_, F_, F_, F_] rfl rfl (any_of HT_.1 (by kernel_rfl)) (fun _ _ _ h => h) (Or.inl ⟨by rfl, ?_⟩) ?_ ?_
     rotate_left
     · intro w'
       go_simp
       with_reducible rfl
     rotate_left
     · simp only [Act.put, sA, sZ, sS, i64_w, i32_w]
       rfl
     refine pure_ (i := 12) (N := some 61) (v := ?_) (a' := ?_) #[T_, T_, T_, T_, F_, F_, T_, T_, T_, T_, T_, T_, T_, F_, F_, F_, F_, F_, F_, F_, F_, F_, F_, F_, F_, F_] rfl rfl (any_of HT_.1 (by kernel_rfl)) (fun _ _ _ h => h) (Or.inl ⟨by rfl, ?_⟩) ?_ ?_
     rotate_left
     · intro w'
       go_simp
       with_reducible rfl
     rotate_left
     · simp only [Act.put, sA, sZ, sS, i64_w, i32_w]
       rfl
     refine take_ (i := 4) (N := some 53) (v := ?_) (a' := ?_) #[T_, T_, T_, T_, T_, F_, T_, T_, T_, T_, T_, T_, T_, F_, F_, F_, F_, F_, F_, F_, F_, F_, F_, F_, F_, F_] rfl rfl (take_ofW HT_.1 HW_.1 (by kernel_rfl)) (fun _ _ _ h => h) (Or.inl ⟨by rfl, ?_⟩) hHeld ?_ ?_
     rotate_left
     · rintro w' ⟨s0, s1, s2⟩
       go_simp
       with_reducible rfl
     rotate_left
     · simp only [Act.put, sA, sZ, sS, i64_w, i32_w]
       rfl
     refine take_ (i := 13) (N := some 62) (v := ?_) (a' := ?_) #[T_, T_, T_, T_, T_, F_, T_, T_, T_, T_, T_, T_, T_, T_, F_, F_, F_, F_, F_, F_, F_, F_, F_, F_, F_, F_] rfl rfl (take_ofW HT_.1 HW_.1 (by kernel_rfl)) (fun _ _ _ h => h) (Or.inl ⟨by rfl, ?_⟩) hHeld ?_ ?_
     rotate_left
     · rintro w' ⟨s0, s1, s2⟩
       go_simp
       with_reducible rfl
     rotate_left
     · simp only [Act.put, sA, sZ, sS, i64_w, i32_w]
       rfl
     refine one_ (i := 5) (N := some 54) #[T_, T_, T_, T_, T_, T_, T_, T_, T_, T_, T_, T_, T_, T_, F_, F_, F_, F_, F_, F_, F_, F_, F_, F_, F_, F_] rfl rfl (one_of HT_.1 (by kernel_rfl)) (by decide) (fun K hK => ?_)
     refine goes_ Try.func22 (by kernel_rfl) rfl #[.slice A0 l0.length c0, .string (rdOf ByteArray.empty t606 x10_2)] (by rfl) rfl rfl (by (try simp only [List.map_toArray, List.map_cons, List.map_nil]); first | done | rfl | (simp only [List.length_drop, List.length_take]; rfl)) ?_
     with_reducible refine (r_Imports.calls k2 _ _ l0 (rdOf ByteArray.empty t606 x10_2) t610 _ ?side1 ?side2 A27.1).mono ?_
     (case side1 => exact cb HR0 HB)
     (case side2 => exact HC0.1)
     rintro e w43 ⟨v611, rfl, ho0, hb⟩
     have HS0_ := (hb.cell (World.block_lt_of_cell? _ _ (hHeld.1))).trans (hHeld.1)
     have HS1_ := (hb.cell (World.block_lt_of_cell? _ _ (hHeld.2.1))).trans (hHeld.2.1)
     have HS2_ := (hb.cell (World.block_lt_of_cell? _ _ (hHeld.2.2))).trans (hHeld.2.2)
     refine ⟨_, rfl, ?_⟩
     have HO612 := aM (R_lower (R_new' ho0 (R_lt (rk HO_9))) (below_size (hh HB)))
     replace HO_9 := aM (R_elder' (rk HO_9) (R_base ho0) hb)
     replace BK605 := kb BK605 hb
     replace HB := bs HB hb
     (clear hb)
     skip
     skip
     skip
     (clear ho0)
     obtain ⟨Ao44, co44, eo44⟩ := R_slice HO612.1
     (first | subst eo44 | (injection eo44 with f1_ f2_ f3_; have f4_ := f1_.symm; have f5_ := f3_.symm; clear f1_ f2_ f3_; subst f4_; subst f5_))
     refine hK.out _ _ ⟨HS0_, HS1_, HS2_⟩ (fun hHeld => ?_)
     clear hK K
     refine norm_ (a' := ?_) ?_ ?_
     rotate_left
     · show Act.put _ (some 54) _ = _
       simp only [Act.put, sA, sZ, sS, i64_w, i32_w]
       rfl
     refine one_ (i := 14) (N := some 63) #[T_, T_, T_, T_, T_, T_, T_, T_, T_, T_, T_, T_, T_, T_, T_, F_, F_, F_, F_, F_, F_, F_, F_, F_, F_, F_] rfl rfl (one_of HT_.1 (by kernel_rfl)) (by decide) (fun K hK => ?_)
     refine goes_ Try.func21 (by kernel_rfl) rfl #[.slice Ao44 t610.length co44, .string (rdOf ByteArray.empty t606 (ji29))] (by rfl) rfl rfl (by (try simp only [List.map_toArray, List.map_cons, List.map_nil]); first | done | (simp only [hji29]; rfl) | rfl | (simp only [List.length_drop, List.length_take]; rfl)) ?_
     with_reducible refine (q_Has.calls k2 _ _ t610 (rdOf ByteArray.empty t606 (ji29)) true _ ?side1 ?side2 A32.1).mono ?_
     (case side1 => exact cr HO612)
     (case side2 => exact (R_reads' HO612.1).2.1)
     rintro e w' ⟨rfl, ⟨nd, rfl⟩⟩
     refine ⟨_, rfl, ?_⟩
     have q45 : (x10_2 : Int) <= ((t606.length : Int) : Int) := dt
     obtain ⟨i045, hi045, _, hsz45, _⟩ := info_parts info9
     have hroom45 : t606.length <= co24 := (R_reads' HO_9.1).2.1
     have hC45 : Kd.C Kd.string _ (some ad609) t606.length t606 := (R_reads' HO_9.1).2.2
     have hcut45 := cut_to (P := Try.prog) 25 9 .i64 Try.underlying25 hi045 (some ad609) t606.length co24 x10_2 (dt) q45 hroom45
     have hr45 := C_take (m := (x10_2 : Int).toNat) hC45 (by omega)
     have hy45 : y615.length = (x10_2 : Int).toNat := (by rw [Ny615.1, List.length_take]; omega)
     rw [<- Ny615.1] at hr45
     rw [<- hy45] at hcut45
     have HR618 := aM hr45
     have HC618 := aM (show y615.length <= co24 from by omega)
     clear hr45 hC45 hroom45 hi045 hsz45
     have KY45 := aM hy45
     clear hy45
     have KL45 := aM (show (x10_2 : Int).toNat <= t606.length from by omega)
     replace q45 := eq_true q45
     refine hK.out _ _ ⟨hHeld.1, hHeld.2.1, hHeld.2.2⟩ (fun hHeld => ?_)
     clear hK K
     refine norm_ (a' := ?_) ?_ ?_
     rotate_left
     · show Act.put _ (some 63) _ = _
       simp only [Act.put, sA, sZ, sS, i64_w, i32_w]
       rfl
     refine pure_ (i := 15) (N := some 64) (v := ?_) (a' := ?_) #[T_, T_, T_, T_, T_, T_, T_, T_, T_, T_, T_, T_, T_, T_, T_, T_, F_, F_, F_, F_, F_, F_, F_, F_, F_, F_] rfl rfl (any_of HT_.1 (by kernel_rfl)) (fun _ _ _ h => h) (Or.inl ⟨by rfl, ?_⟩) ?_ ?_
     rotate_left
     · intro w'
       go_simp
       with_reducible rfl
     rotate_left
     · simp only [Act.put, sA, sZ, sS, i64_w, i32_w]
       rfl
     refine pure_ (i := 16) (N := some 65) (v := ?_) (a' := ?_) #[T_, T_, T_, T_, T_, T_, T_, T_, T_, T_, T_, T_, T_, T_, T_, T_, T_, F_, F_, F_, F_, F_, F_, F_, F_, F_] rfl rfl (any_of HT_.1 (by kernel_rfl)) (fun _ _ _ h => h) (Or.inl ⟨by rfl, ?_⟩) ?_ ?_
     rotate_left
     · intro w'
       go_simp
       with_reducible rfl
     rotate_left
     · simp only [Act.put, sA, sZ, sS, i64_w, i32_w]
       rfl
     refine pure_ (i := 17) (N := some 66) (v := ?_) (a' := ?_) #[T_, T_, T_, T_, T_, T_, T_, T_, T_, T_, T_, T_, T_, T_, T_, T_, T_, T_, F_, F_, F_, F_, F_, F_, F_, F_] rfl rfl (any_of HT_.1 (by kernel_rfl)) (fun _ _ _ h => h) (Or.inl ⟨by rfl, ?_⟩) ?_ ?_
     rotate_left
     · intro w'
       go_simp
       with_reducible rfl
     rotate_left
     · simp only [Act.put, sA, sZ, sS, i64_w, i32_w]
       rfl
     refine pure_ (i := 18) (N := some 67) (v := ?_) (a' := ?_) #[T_, T_, T_, T_, T_, T_, T_, T_, T_, T_, T_, T_, T_, T_, T_, T_, T_, T_, T_, F_, F_, F_, F_, F_, F_, F_] rfl rfl (any_of HT_.1 (by kernel_rfl)) (fun _ _ _ h => h) (Or.inl ⟨by rfl, ?_⟩) ?_ ?_
     rotate_left
     · intro w'
       go_simp
       with_reducible rfl
     rotate_left
     · simp only [Act.put, sA, sZ, sS, i64_w, i32_w]
       rfl
     refine pure_ (i := 19) (N := some 68) (v := ?_) (a' := ?_) #[T_, T_, T_, T_, T_, T_, T_, T_, T_, T_, T_, T_, T_, T_, T_, T_, T_, T_, T_, T_, F_, F_, F_, F_, F_, F_] rfl rfl (any_of HT_.1 (by kernel_rfl)) (fun _ _ _ h => h) (Or.inl ⟨by rfl, ?_⟩) ?_ ?_
     rotate_left
     · intro w'
       go_simp
       with_reducible rfl
     rotate_left
     · simp only [Act.put, sA, sZ, sS, i64_w, i32_w]
       rfl
     refine pure_ (i := 20) (N := some 69) (v := ?_) (a' := ?_) #[T_, T_, T_, T_, T_, T_, T_, T_, T_, T_, T_, T_, T_, T_, T_, T_, T_, T_, T_, T_, T_, F_, F_, F_, F_, F_] rfl rfl (any_of HT_.1 (by kernel_rfl)) (fun _ _ _ h => h) (Or.inl ⟨by rfl, ?_⟩) ?_ ?_
     rotate_left
     · intro w'
       go_simp
       with_reducible rfl
     rotate_left
     · simp only [Act.put, sA, sZ, sS, i64_w, i32_w]
       rfl
     refine pure_ (i := 21) (N := some 70) (v := ?_) (a' := ?_) #[T_, T_, T_, T_, T_, T_, T_, T_, T_, T_, T_, T_, T_, T_, T_, T_, T_, T_, T_, T_, T_, T_, F_, F_, F_, F_] rfl rfl (any_of HT_.1 (by kernel_rfl)) (fun _ _ _ h => h) (Or.inl ⟨by rfl, ?_⟩) ?_ ?_
     rotate_left
     · intro w'
       go_simp
       with_reducible rfl
     rotate_left
     · simp only [Act.put, sA, sZ, sS, i64_w, i32_w]
       rfl
     refine pure_ (i := 22) (N := some 71) (v := ?_) (a' := ?_) #[T_, T_, T_, T_, T_, T_, T_, T_, T_, T_, T_, T_, T_, T_, T_, T_, T_, T_, T_, T_, T_, T_, T_, F_, F_, F_] rfl rfl (any_of HT_.1 (by kernel_rfl)) (fun _ _ _ h => h) (Or.inl ⟨by rfl, ?_⟩) ?_ ?_
     rotate_left
     · intro w'
       go_simp
       with_reducible rfl
     rotate_left
     · simp only [Act.put, sA, sZ, sS, i64_w, i32_w]
       rfl
     refine take_ (i := 23) (N := some 72) (v := ?_) (a' := ?_) #[T_, T_, T_, T_, T_, T_, T_, T_, T_, T_, T_, T_, T_, T_, T_, T_, T_, T_, T_, T_, T_, T_, T_, T_, F_, F_] rfl rfl (take_ofW HT_.1 HW_.1 (by kernel_rfl)) (fun _ _ _ h => h) (Or.inl ⟨by rfl, ?_⟩) hHeld ?_ ?_
     rotate_left
     · rintro w' ⟨s0, s1, s2⟩
       go_simp
       with_reducible rfl
     rotate_left
     · simp only [Act.put, sA, sZ, sS, i64_w, i32_w]
       rfl
     refine one_ (i := 24) (N := some 73) #[T_, T_, T_, T_, T_, T_, T_, T_, T_, T_, T_, T_, T_, T_, T_, T_, T_, T_, T_, T_, T_, T_, T_, T_, T_, F_] rfl rfl (one_of HT_.1 (by kernel_rfl)) (by decide) (fun K hK => ?_)
     refine goes_ Try.func21 (by kernel_rfl) rfl #[.slice (some ad609) y615.length co24, .string (rdOf ByteArray.empty t606 x10_2)] (by rfl) rfl rfl (by (try simp only [List.map_toArray, List.map_cons, List.map_nil]); first | done | rfl | (simp only [List.length_drop, List.length_take]; rfl)) ?_
     with_reducible refine (q_Has.calls k2 _ _ y615 (rdOf ByteArray.empty t606 x10_2) false _ ?side1 ?side2 A36.1).mono ?_
     (case side1 => repeat (first | exact (by repeat (first | (with_reducible exact HR618.1) | (with_reducible refine C_alloc ?_ _) | (with_reducible refine C_drewN ?_ _) | (with_reducible refine C_drew ?_) | exact HR618.1)) | (with_reducible refine C_alloc ?_ _) | (with_reducible refine C_drewN ?_ _) | (with_reducible refine C_drew ?_)))
     (case side2 => exact HC618.1)
     rintro e w' ⟨rfl, ⟨nd, rfl⟩⟩
     refine ⟨_, rfl, ?_⟩
     refine hK.out _ _ ⟨hHeld.1, hHeld.2.1, hHeld.2.2⟩ (fun hHeld => ?_)
     clear hK K
     refine norm_ (a' := ?_) ?_ ?_
     rotate_left
     · show Act.put _ (some 73) _ = _
       simp only [Act.put, sA, sZ, sS, i64_w, i32_w]
       rfl
     refine pure_ (i := 25) (N := some 74) (v := ?_) (a' := ?_) #[T_, T_, T_, T_, T_, T_, T_, T_, T_, T_, T_, T_, T_, T_, T_, T_, T_, T_, T_, T_, T_, T_, T_, T_, T_, T_] rfl rfl (any_of HT_.1 (by kernel_rfl)) (fun _ _ _ h => h) (Or.inl ⟨by rfl, ?_⟩) ?_ ?_
     rotate_left
     · intro w'
       go_simp
       with_reducible rfl
     rotate_left
     · simp only [Act.put, sA, sZ, sS, i64_w, i32_w]
       rfl
     refine done_ (done_of HT_.1 (by kernel_rfl)) ?_
     try go_wp2
     go_roundg k2
     case measure => have := HJ3.1; have := HK2.1; omega
     case rel => exact ⟨(wrap64 (x10_2 + 1)), rr, H', ⟨by have := HJ3.1; have := HK2.1; omega⟩, ⟨rz (R_mono HO_9.1 (fun _ hk => trivial))⟩, ⟨kk BK605⟩, ⟨hh HB⟩⟩
end Go.Proofs.Ytmadhaccjmakdaa.P
namespace Go.Proofs.Ytmadhaccjmakdaa
open Go.RowKit Go.Proofs.Yw.A Go.Proofs.Yw.B Go.Proofs.Yw.C
namespace Tp
open Tj
def nd (es : List (List Int)) (v : Int) : Prop := 0 <= v /\ v < es.length
def Vld (es : List (List Int)) : Prop := ∀ v, nd es v -> ∀ w ∈ row es v, nd es w
inductive Rc (es : List (List Int)) : Int -> Int -> Prop
 | refl (v : Int) : Rc es v v
 | tail {a b c : Int} : Rc es a b -> c ∈ row es b -> Rc es a c
theorem Rc.trans {es : List (List Int)} {a b c : Int} (h : Rc es a b) (h2 : Rc es b c) : Rc es a c := by
 induction h2 with
 | refl => exact h
 | tail _ h3 ih => exact .tail ih h3
theorem Rc.edge {es : List (List Int)} {a b : Int} (h : b ∈ row es a) : Rc es a b := .tail (.refl a) h
theorem w64 (x : Int) (h0 : -9223372036854775808 <= x) (h1 : x < 9223372036854775808) : wrap64 x = x := by
 unfold wrap64
 omega
theorem rd_set (l : List Int) (u v x : Int) (hu : 0 <= u) (hl : u < l.length) (hv : 0 <= v) : rd (l.set u.toNat x) v = if v = u then x else rd l v := by
 unfold rd
 rw [List.getD_eq_getElem?_getD, List.getElem?_set, List.getD_eq_getElem?_getD]
 by_cases h : v = u
 rotate_left
 · rw [if_neg (by omega), if_neg h]
 subst h
 rw [if_pos rfl, if_pos (by omega), if_pos rfl]
 rfl
theorem rd_at (l : List Int) (i : Nat) (h : i < l.length) : rd l (i : Int) = l[i] := by
 unfold rd
 rw [Int.toNat_natCast, List.getD_eq_getElem?_getD, List.getElem?_eq_getElem h]
 rfl
theorem rd_mem (l : List Int) (v : Int) (h0 : 0 <= v) (h : v < l.length) : rd l v ∈ l := by
 obtain ⟨i, rfl⟩ := Int.eq_ofNat_of_zero_le h0
 rw [rd_at l i (by omega)]
 exact List.getElem_mem _
theorem mem_rd (l : List Int) (x : Int) (h : x ∈ l) : ∃ i : Nat, i < l.length /\ rd l (i : Int) = x := by
 obtain ⟨i, hi, e⟩ := List.mem_iff_getElem.1 h
 exact ⟨i, hi, by rw [rd_at l i hi]; exact e⟩
theorem rd_rep (n : Nat) (x v : Int) (h0 : 0 <= v) (h : v < n) : rd (List.replicate n x) v = x := by
 obtain ⟨i, rfl⟩ := Int.eq_ofNat_of_zero_le h0
 rw [rd_at _ i (by simp; omega)]
 simp
structure Inv (es : List (List Int)) (st : TS) : Prop where
 li : st.index.length = es.length
 ll : st.low.length = es.length
 lc : st.comp.length = es.length
 stk : ∀ x ∈ st.stack, nd es x /\ 0 < rd st.index x /\ rd st.comp x = -1
 ons : ∀ x, nd es x -> rd st.index x ≠ 0 -> rd st.comp x < 0 -> x ∈ st.stack
 unv : ∀ x, nd es x -> rd st.index x = 0 -> rd st.comp x = -1
 idx : ∀ x, nd es x -> 0 <= rd st.index x /\ rd st.index x <= st.count
 cmp : ∀ x, nd es x -> -1 <= rd st.comp x /\ rd st.comp x < st.comps
 inj : ∀ x y, nd es x -> nd es y -> rd st.index x = rd st.index y -> rd st.index x ≠ 0 -> x = y
 srt : st.stack.Pairwise fun x y => rd st.index x < rd st.index y
 back : ∀ u, nd es u -> 0 <= rd st.comp u -> ∀ w ∈ row es u, 0 <= rd st.comp w /\ rd st.comp w <= rd st.comp u
 same : ∀ u v, nd es u -> nd es v -> rd st.comp u = rd st.comp v -> 0 <= rd st.comp u -> Rc es u v
 onto : ∀ c, 0 <= c -> c < st.comps -> ∃ v, nd es v /\ rd st.comp v = c
 cnt : st.count + (st.index.count 0 : Nat) = es.length
 cps : 0 <= st.comps /\ st.comps + st.stack.length <= st.count
structure Ext (es : List (List Int)) (p : Int -> Prop) (st st' : TS) : Prop where
 idx : ∀ x, nd es x -> rd st.index x ≠ 0 -> rd st'.index x = rd st.index x
 low : ∀ x, nd es x -> rd st.index x ≠ 0 -> p x -> rd st'.low x = rd st.low x
 cmp : ∀ x, nd es x -> 0 <= rd st.comp x -> rd st'.comp x = rd st.comp x
 cnt : st.count <= st'.count
 new : ∀ x, nd es x -> rd st.index x = 0 -> rd st'.index x = 0 \/ st.count < rd st'.index x
theorem Ext.refl (es : List (List Int)) (p : Int -> Prop) (st : TS) : Ext es p st st := ⟨fun _ _ _ => rfl, fun _ _ _ _ => rfl, fun _ _ _ => rfl, Int.le_refl _, fun _ _ h => .inl h⟩
theorem Ext.trans {es : List (List Int)} {p : Int -> Prop} {a b c : TS} (h : Ext es p a b) (k : Ext es p b c) : Ext es p a c where
 idx x hx h0 := by rw [k.idx x hx (by rw [h.idx x hx h0]; exact h0), h.idx x hx h0]
 low x hx h0 hp := by rw [k.low x hx (by rw [h.idx x hx h0]; exact h0) hp, h.low x hx h0 hp]
 cmp x hx h0 := by rw [k.cmp x hx (by rw [h.cmp x hx h0]; exact h0), h.cmp x hx h0]
 cnt := Int.le_trans h.cnt k.cnt
 new x hx h0 := by
  rcases h.new x hx h0 with h1 | h1
  · rcases k.new x hx h1 with h2 | h2
    · exact .inl h2
    · exact .inr (by have := h.cnt; omega)
  · by_cases h2 : rd b.index x = 0
    · rcases k.new x hx h2 with h3 | h3
      · exact .inl h3
      · exact .inr (by have := h.cnt; omega)
    · rw [k.idx x hx h2]
      exact .inr h1
theorem Ext.imp {es : List (List Int)} {p q : Int -> Prop} {a b : TS} (h : Ext es p a b) (hq : ∀ x, q x -> p x) : Ext es q a b := ⟨h.idx, fun x hx h0 hp => h.low x hx h0 (hq x hp), h.cmp, h.cnt, h.new⟩
def Ok (st : TS) (m w : Int) : Prop := 0 <= rd st.comp w \/ (rd st.index w ≠ 0 /\ m <= rd st.index w)
structure Post (es : List (List Int)) (S0 : List Int) (v c0 : Int) (st : TS) : Prop where
 inv : Inv es st
 idx : rd st.index v = c0 + 1
 way : (st.stack = S0 /\ rd st.low v = c0 + 1 /\ 0 <= rd st.comp v) \/
  (∃ rest, st.stack = S0 ++ v :: rest /\ (∀ x ∈ v :: rest, Rc es x v /\ Rc es v x) /\ (∀ x ∈ v :: rest, ∀ w ∈ row es x, Ok st (rd st.low v) w) /\ rd st.low v < c0 + 1 /\ ∃ y ∈ S0, rd st.index y = rd st.low v /\ Rc es v y)
structure Lp (es : List (List Int)) (S0 : List Int) (v c0 : Int) (i : Nat) (st : TS) (rest : List Int) : Prop where
 inv : Inv es st
 nd : nd es v
 idx : rd st.index v = c0 + 1
 stk : st.stack = S0 ++ v :: rest
 tov : ∀ x ∈ st.stack, Rc es x v
 frm : ∀ x ∈ rest, Rc es v x
 low : rd st.low v <= rd st.index v
 wit : ∃ y ∈ st.stack, rd st.index y = rd st.low v /\ Rc es v y
 blk : ∀ x ∈ rest, ∀ w ∈ row es x, Ok st (rd st.low v) w
 done : ∀ j : Nat, j < i -> j < (row es v).length -> Ok st (rd st.low v) (rd (row es v) j)
theorem row_nd {es : List (List Int)} (hv : Vld es) {v : Int} (h : nd es v) (j : Nat) (hj : j < (row es v).length) : nd es (rd (row es v) j) := hv v h _ (by rw [rd_at _ j hj]; exact List.getElem_mem _)
theorem pop_run (es : List (List Int)) (v : Int) (S0 : List Int) : ∀ (m : Nat) (rest : List Int) (k : Nat) (st : TS), rest.length = m -> m < k -> st.stack = S0 ++ v :: rest -> v ∉ rest ->
 (∀ x ∈ v :: rest, nd es x) -> st.comp.length = es.length ->
 ∃ cm : List Int, pop k v st = some { st with stack := S0, comp := cm, comps := wrap64 (st.comps + 1) } /\ cm.length = es.length /\
  (∀ x ∈ v :: rest, rd cm x = st.comps) /\ (∀ x, nd es x -> x ∉ v :: rest -> rd cm x = rd st.comp x) := by
 intro m
 induction m with
 | zero =>
  intro rest k st hm hk hs hnv hnd hl
  obtain rfl : rest = [] := List.eq_nil_of_length_eq_zero hm
  obtain ⟨k, rfl⟩ : ∃ m, k = m + 1 := ⟨k - 1, by omega⟩
  have hv := hnd v (by simp)
  have hlen : st.stack.length = S0.length + 1 := by rw [hs]; simp
  have hx : rd st.stack ((st.stack.length : Int) - 1) = v := by
   rw [show ((st.stack.length : Int) - 1) = ((S0.length : Nat) : Int) by omega, rd_at _ _ (by omega)]
   simp [hs]
  have ht : st.stack.take (st.stack.length - 1) = S0 := by
   rw [hlen, Nat.add_sub_cancel, hs]; simp
  refine ⟨st.comp.set v.toNat st.comps, ?_, by simpa using hl, ?_, ?_⟩
  · unfold pop
    rw [if_pos (by omega)]
    simp only [hx, ht]
    rw [if_pos (by have := hv.1; have := hv.2; rw [hl]; omega), if_pos trivial]
  · intro x hx
    rw [List.mem_singleton] at hx
    subst hx
    rw [rd_set _ _ _ _ hv.1 (by rw [hl]; exact hv.2) hv.1, if_pos rfl]
  · intro x hx hne
    rw [rd_set _ _ _ _ hv.1 (by rw [hl]; exact hv.2) hx.1, if_neg (by simpa using hne)]
 | succ m ih =>
  intro rest k st hm hk hs hnv hnd hl
  obtain ⟨k, rfl⟩ : ∃ m, k = m + 1 := ⟨k - 1, by omega⟩
  obtain ⟨r0, z, rfl⟩ : ∃ r0 z, rest = r0 ++ [z] := ⟨rest.dropLast, rest.getLast (by intro e; rw [e] at hm; cases hm), (List.dropLast_concat_getLast _).symm⟩
  have hz := hnd z (by simp)
  have hlen : st.stack.length = S0.length + 1 + r0.length + 1 := by rw [hs]; simp; omega
  have hs2 : st.stack = (S0 ++ v :: r0) ++ [z] := by rw [hs]; simp
  have hx : rd st.stack ((st.stack.length : Int) - 1) = z := by
   rw [show ((st.stack.length : Int) - 1) = (((S0 ++ v :: r0).length : Nat) : Int) by simp; omega, rd_at _ _ (by simp; omega)]
   simp [hs2]
  have ht : st.stack.take (st.stack.length - 1) = S0 ++ v :: r0 := by
   rw [hlen, Nat.add_sub_cancel, hs2, List.take_left' (by simp; omega)]
  have hzv : z ≠ v := by rintro rfl; simp at hnv
  obtain ⟨cm, h1, h2, h3, h4⟩ := ih r0 k { st with stack := S0 ++ v :: r0, comp := st.comp.set z.toNat st.comps } (by simpa using hm) (by omega) rfl (by intro h; exact hnv (by simp [h]))
   (fun x hx => hnd x (by rcases List.mem_cons.1 hx with h | h <;> simp [h])) (by simpa using hl)
  refine ⟨cm, ?_, h2, ?_, ?_⟩
  · unfold pop
    rw [if_pos (by omega)]
    simp only [hx, ht]
    rw [if_pos (by have := hz.1; have := hz.2; rw [hl]; omega), if_neg hzv]
    exact h1
  · intro x hx
    by_cases h : x ∈ v :: r0
    · exact h3 x h
    have hxz : x = z := by
     simp at hx h
     grind
    subst hxz
    rw [h4 x hz h]
    rw [rd_set _ _ _ _ hz.1 (by rw [hl]; exact hz.2) hz.1, if_pos rfl]
  · intro x hx hne
    rw [h4 x hx (by simp at hne ⊢; grind)]
    show rd (st.comp.set z.toNat st.comps) x = _
    rw [rd_set _ _ _ _ hz.1 (by rw [hl]; exact hz.2) hx.1, if_neg (by simp at hne; grind)]
end Tp
namespace Tp
open Tj
theorem Inv.count_le {es : List (List Int)} {st : TS} (h : Inv es st) : 0 <= st.count /\ st.count <= es.length := by
 have := h.cnt
 have := h.cps
 omega
theorem count_set_lt (l : List Int) (u x : Int) (hu : 0 <= u) (hl : u < l.length) (h0 : rd l u = 0) (hx : x ≠ 0) : (l.set u.toNat x).count 0 + 1 = l.count 0 := by
 obtain ⟨i, rfl⟩ := Int.eq_ofNat_of_zero_le hu
 rw [rd_at l i (by omega)] at h0
 have hi : i < l.length := by omega
 have h1 : 0 < l.count 0 := List.count_pos_iff.2 (h0 ▸ List.getElem_mem hi)
 show (l.set i x).count 0 + 1 = l.count 0
 rw [List.count_set hi]
 simp [h0, hx]
 omega
theorem enter_inv {es : List (List Int)} {st : TS} {v : Int} (h : Inv es st) (hv : nd es v) (h0 : rd st.index v = 0) (hn : es.length < 1000000) :
 Inv es (enter v st) /\ (enter v st).count = st.count + 1 /\ (∀ x, nd es x -> rd (enter v st).index x = if x = v then st.count + 1 else rd st.index x) /\
  (∀ x, nd es x -> rd (enter v st).low x = if x = v then st.count + 1 else rd st.low x) /\ (enter v st).index.count 0 + 1 = st.index.count 0 := by
 have hc := h.count_le
 have hw : wrap64 (st.count + 1) = st.count + 1 := w64 _ (by omega) (by omega)
 have hix : ∀ x, nd es x -> rd (enter v st).index x = if x = v then st.count + 1 else rd st.index x := by
  intro x hx
  show rd (st.index.set v.toNat (wrap64 (st.count + 1))) x = _
  rw [hw, rd_set _ _ _ _ hv.1 (by rw [h.li]; exact hv.2) hx.1]
 have hlx : ∀ x, nd es x -> rd (enter v st).low x = if x = v then st.count + 1 else rd st.low x := by
  intro x hx
  show rd (st.low.set v.toNat (wrap64 (st.count + 1))) x = _
  rw [hw, rd_set _ _ _ _ hv.1 (by rw [h.ll]; exact hv.2) hx.1]
 have hcount : (enter v st).index.count 0 + 1 = st.index.count 0 := count_set_lt _ _ _ hv.1 (by rw [h.li]; exact hv.2) h0 (by rw [hw]; omega)
 have hcnt : (enter v st).count = st.count + 1 := hw
 have hnew : ∀ x ∈ st.stack, x ≠ v := by
  rintro x hx rfl
  have := (h.stk x hx).2.1
  omega
 refine ⟨⟨?_, ?_, h.lc, ?_, ?_, ?_, ?_, h.cmp, ?_, ?_, h.back, h.same, h.onto, ?_, ?_⟩, hcnt, hix, hlx, hcount⟩
 · show (st.index.set _ _).length = _
   rw [List.length_set]; exact h.li
 · show (st.low.set _ _).length = _
   rw [List.length_set]; exact h.ll
 · intro x hx
   rcases List.mem_append.1 (show x ∈ st.stack ++ [v] from hx) with h1 | h1
   · obtain ⟨a, b, c⟩ := h.stk x h1
     refine ⟨a, ?_, c⟩
     rw [hix x a, if_neg (hnew x h1)]
     exact b
   · rw [List.mem_singleton] at h1
     subst h1
     exact ⟨hv, by rw [hix x hv, if_pos rfl]; omega, h.unv x hv h0⟩
 · intro x hx hi hcx
   by_cases e : x = v
   · subst e; show x ∈ st.stack ++ [x]; simp
   rw [hix x hx, if_neg e] at hi
   exact List.mem_append.2 (.inl (h.ons x hx hi hcx))
 · intro x hx hi
   by_cases e : x = v
   · subst e; exact h.unv x hx h0
   rw [hix x hx, if_neg e] at hi
   exact h.unv x hx hi
 · intro x hx
   rw [hix x hx, hcnt]
   have := h.idx x hx
   split <;> omega
 · intro x y hx hy he hne
   rw [hix x hx] at he hne
   rw [hix y hy] at he
   have h1 := h.idx x hx
   have h2 := h.idx y hy
   by_cases ex : x = v
   · rw [if_pos ex] at he
     by_cases ey : y = v
     · rw [ex, ey]
     rw [if_neg ey] at he; omega
   rw [if_neg ex] at he hne
   by_cases ey : y = v
   · rw [if_pos ey] at he; omega
   rw [if_neg ey] at he
   exact h.inj x y hx hy he hne
 · show (st.stack ++ [v]).Pairwise _
   rw [List.pairwise_append]
   refine ⟨?_, by simp, ?_⟩
   · refine h.srt.imp_of_mem ?_
     intro a b ha hb hab
     rw [hix a (h.stk a ha).1, hix b (h.stk b hb).1, if_neg (hnew a ha), if_neg (hnew b hb)]
     exact hab
   · intro a ha b hb
     rw [List.mem_singleton] at hb
     subst hb
     rw [hix a (h.stk a ha).1, hix b hv, if_neg (hnew a ha), if_pos rfl]
     have := (h.idx a (h.stk a ha).1).2
     omega
 · rw [hcnt]
   have := h.cnt
   omega
 · rw [hcnt]
   have := h.cps
   refine ⟨this.1, ?_⟩
   show st.comps + ((st.stack ++ [v]).length : Int) <= _
   rw [List.length_append, List.length_singleton]
   omega
theorem lower_inv {es : List (List Int)} {st : TS} {v x : Int} (h : Inv es st) : Inv es (lower v x st) :=
 ⟨h.li, by show (st.low.set _ _).length = _; rw [List.length_set]; exact h.ll, h.lc, h.stk, h.ons, h.unv, h.idx, h.cmp, h.inj, h.srt, h.back, h.same, h.onto, h.cnt, h.cps⟩
theorem lower_low {es : List (List Int)} {st : TS} {v x : Int} (h : Inv es st) (hv : nd es v) (u : Int) (hu : nd es u) : rd (lower v x st).low u = if u = v then mn (rd st.low v) x else rd st.low u := by
 show rd (st.low.set _ _) u = _
 rw [rd_set _ _ _ _ hv.1 (by rw [h.ll]; exact hv.2) hu.1]
theorem mn_le (a b : Int) : mn a b <= a /\ mn a b <= b /\ (mn a b = a \/ mn a b = b) := by
 unfold mn
 split <;> omega
theorem lower_ext {es : List (List Int)} {st : TS} {v x : Int} (h : Inv es st) (hv : nd es v) : Ext es (· ≠ v) st (lower v x st) :=
 ⟨fun _ _ _ => rfl, fun u hu _ hp => by rw [lower_low h hv u hu, if_neg hp], fun _ _ _ => rfl, Int.le_refl _, fun _ _ h => .inl h⟩
theorem Lp.notin {es : List (List Int)} {S0 : List Int} {v c0 : Int} {i : Nat} {st : TS} {rest : List Int} (h : Lp es S0 v c0 i st rest) :
 v ∉ rest /\ (∀ x ∈ S0, rd st.index x < rd st.index v) /\ (∀ x ∈ rest, rd st.index v < rd st.index x) := by
 have hs := h.inv.srt
 rw [h.stk, List.pairwise_append] at hs
 obtain ⟨_, h2, h3⟩ := hs
 rw [List.pairwise_cons] at h2
 refine ⟨fun hm => ?_, fun x hx => h3 x hx v (by simp), h2.1⟩
 have := h2.1 v hm
 omega
theorem end_pop {es : List (List Int)} (hvld : Vld es) {S0 : List Int} {v c0 : Int} {i k : Nat} {st : TS} {rest : List Int} (h : Lp es S0 v c0 i st rest) (hi : (row es v).length <= i)
 (hlow : rd st.low v = rd st.index v) (hk : es.length < k) (hn : es.length < 1000000) :
 ∃ st', pop k v st = some st' /\ Post es S0 v c0 st' /\ Ext es (· ≠ v) st st' /\ st'.index = st.index := by
 obtain ⟨n1, n2, n3⟩ := h.notin
 have hI := h.inv
 have hcl := hI.count_le
 have hmem : ∀ x ∈ v :: rest, x ∈ st.stack := fun x hx => by rw [h.stk]; exact List.mem_append.2 (.inr hx)
 have hseg : ∀ x ∈ v :: rest, nd es x := fun x hx => (hI.stk x (hmem x hx)).1
 have hlen : st.stack.length = S0.length + rest.length + 1 := by rw [h.stk]; simp; omega
 obtain ⟨cm, h1, h2, h3, h4⟩ := pop_run es v S0 rest.length rest k st rfl (by have := hI.cps; omega) h.stk n1 hseg hI.lc
 have hw : wrap64 (st.comps + 1) = st.comps + 1 := w64 _ (by have := hI.cps; omega) (by have := hI.cps; omega)
 rw [hw] at h1
 refine ⟨_, h1, ?_, ?_, rfl⟩
 · have hS0 : ∀ x ∈ S0, x ∉ v :: rest := by
    intro x hx hm
    have a1 := n2 x hx
    rcases List.mem_cons.1 hm with e | e
    · rw [e] at a1; omega
    · have := n3 x e; omega
   have hold : ∀ x, nd es x -> 0 <= rd st.comp x -> x ∉ v :: rest := by
    intro x hx hc hm
    have := (hI.stk x (hmem x hm)).2.2
    omega
   have hsuc : ∀ u ∈ v :: rest, ∀ w ∈ row es u, Ok st (rd st.low v) w := by
    intro u hu w hw
    rcases List.mem_cons.1 hu with e | e
    · subst e
      obtain ⟨j, hj, rfl⟩ := mem_rd _ _ hw
      exact h.done j (by omega) hj
    · exact h.blk u e w hw
   refine ⟨⟨hI.li, hI.ll, h2, ?_, ?_, ?_, hI.idx, ?_, hI.inj, ?_, ?_, ?_, ?_, hI.cnt, ?_⟩, h.idx, .inl ⟨rfl, by rw [<- h.idx]; exact hlow, ?_⟩⟩
   · intro x hx
     obtain ⟨a, b, c⟩ := hI.stk x (by rw [h.stk]; exact List.mem_append.2 (.inl hx))
     exact ⟨a, b, by show rd cm x = _; rw [h4 x a (hS0 x hx)]; exact c⟩
   · intro x hx hi0 hc
     have hc' : rd cm x < 0 := hc
     have hns : x ∉ v :: rest := by
      intro hm
      rw [h3 x hm] at hc'
      have := hI.cps
      omega
     rw [h4 x hx hns] at hc'
     have := hI.ons x hx hi0 hc'
     rw [h.stk] at this
     rcases List.mem_append.1 this with e | e
     · exact e
     · exact absurd e hns
   · intro x hx hi0
     have hns : x ∉ v :: rest := by
      intro hm
      have := (hI.stk x (hmem x hm)).2.1
      have hi1 : rd st.index x = 0 := hi0
      omega
     show rd cm x = _
     rw [h4 x hx hns]
     exact hI.unv x hx hi0
   · intro x hx
     show -1 <= rd cm x /\ rd cm x < st.comps + 1
     by_cases hm : x ∈ v :: rest
     · rw [h3 x hm]; have := hI.cps; omega
     rw [h4 x hx hm]; have := hI.cmp x hx; omega
   · have := hI.srt
     rw [h.stk, List.pairwise_append] at this
     exact this.1
   · intro u hu hc w hwm
     show 0 <= rd cm w /\ rd cm w <= rd cm u
     have hc' : 0 <= rd cm u := hc
     have hwn : nd es w := hvld u hu w hwm
     by_cases hm : u ∈ v :: rest
     rotate_left
     · rw [h4 u hu hm] at hc' ⊢
       have hb := hI.back u hu hc' w hwm
       rw [h4 w hwn (hold w hwn hb.1)]
       exact hb
     rw [h3 u hm]
     by_cases hwm2 : w ∈ v :: rest
     · rw [h3 w hwm2]; have := hI.cps; omega
     rw [h4 w hwn hwm2]
     rcases hsuc u hm w hwm with e | ⟨e1, e2⟩
     · have := hI.cmp w hwn; omega
     · by_cases hcw : 0 <= rd st.comp w
       · have := hI.cmp w hwn; omega
       · have hst := hI.ons w hwn e1 (by omega)
         rw [h.stk] at hst
         rcases List.mem_append.1 hst with e | e
         · have := n2 w e; omega
         · exact absurd e hwm2
   · intro x y hx hy he hc
     have he' : rd cm x = rd cm y := he
     by_cases hm : x ∈ v :: rest
     rotate_left
     · by_cases hm2 : y ∈ v :: rest
       · rw [h3 y hm2, h4 x hx hm] at he'
         have := hI.cmp x hx
         omega
       · have hc' : 0 <= rd cm x := hc
         rw [h4 x hx hm] at hc'
         rw [h4 x hx hm, h4 y hy hm2] at he'
         exact hI.same x y hx hy he' hc'
     by_cases hm2 : y ∈ v :: rest
     rotate_left
     · rw [h3 x hm, h4 y hy hm2] at he'
       have := hI.cmp y hy
       omega
     have hxv : Rc es x v := h.tov x (hmem x hm)
     rcases List.mem_cons.1 hm2 with e | e
     · rw [e]; exact hxv
     · exact hxv.trans (h.frm y e)
   · intro c h0 hc
     have hc' : c < st.comps + 1 := hc
     by_cases e : c = st.comps
     · exact ⟨v, h.nd, by rw [e]; exact h3 v (by simp)⟩
     obtain ⟨u, hu, hcu⟩ := hI.onto c h0 (by omega)
     exact ⟨u, hu, by show rd cm u = c; rw [h4 u hu (hold u hu (by omega))]; exact hcu⟩
   · show 0 <= st.comps + 1 /\ st.comps + 1 + (S0.length : Int) <= st.count
     have := hI.cps
     omega
   · show 0 <= rd cm v
     rw [h3 v (by simp)]
     exact hI.cps.1
 · refine ⟨fun _ _ _ => rfl, fun _ _ _ _ => rfl, fun x hx hc => ?_, Int.le_refl _, fun _ _ e => .inl e⟩
   have hns : x ∉ v :: rest := by
    intro hm
    have := (hI.stk x (hmem x hm)).2.2
    omega
   exact h4 x hx hns
end Tp
namespace Tp
open Tj
def VisitOk (es : List (List Int)) (L k : Nat) : Prop := ∀ (v : Int) (st : TS), Inv es st -> nd es v -> rd st.index v = 0 -> (∀ x ∈ st.stack, Rc es x v) -> st.index.count 0 * (L + 2) + es.length + 2 <= k ->
 ∃ st', visit k es v st = some st' /\ Post es st.stack v st.count st' /\ Ext es (fun _ => True) st st' /\ st'.index.count 0 <= st.index.count 0
def EachOk (es : List (List Int)) (L k : Nat) : Prop := ∀ (S0 : List Int) (v c0 : Int) (i : Nat) (st : TS) (rest : List Int), Lp es S0 v c0 i st rest -> st.index.count 0 * (L + 2) + (L - i) + es.length + 2 <= k ->
 ∃ st', each k es v (row es v) i st = some st' /\ Post es S0 v c0 st' /\ Ext es (· ≠ v) st st' /\ st'.index.count 0 <= st.index.count 0
theorem unv_le {es : List (List Int)} {a b : TS} (ha : Inv es a) (hb : Inv es b) (h : a.count <= b.count) : b.index.count 0 <= a.index.count 0 := by
 have := ha.cnt
 have := hb.cnt
 omega
theorem Ok.ext {es : List (List Int)} {p : Int -> Prop} {a b : TS} (h : Ext es p a b) {m m' w : Int} (hw : nd es w) (hm : m' <= m) (ho : Ok a m w) : Ok b m' w := by
 rcases ho with e | ⟨e1, e2⟩
 · exact .inl (by rw [h.cmp w hw e]; exact e)
 · exact .inr (by rw [h.idx w hw e1]; exact ⟨e1, by omega⟩)
theorem visit_step {es : List (List Int)} (hvld : Vld es) {L k : Nat} (hL : ∀ v, (row es v).length <= L) (hn : es.length < 1000000) (he : EachOk es L k) : VisitOk es L (k + 1) := by
 intro v st hI hv h0 hto hk
 obtain ⟨hI1, hc1, hix, hlx, hct⟩ := enter_inv hI hv h0 hn
 have hcps := hI.cps
 have hcl := hI.count_le
 unfold visit
 rw [if_pos ⟨hv.1, hv.2, by omega⟩]
 have hlp : Lp es st.stack v st.count 0 (enter v st) [] := by
  refine ⟨hI1, hv, by rw [hix v hv, if_pos rfl], rfl, ?_, by simp, ?_, ?_, by simp, by intro j hj; omega⟩
  · intro x hx
    rcases List.mem_append.1 (show x ∈ st.stack ++ [v] from hx) with e | e
    · exact hto x e
    · rw [List.mem_singleton] at e; subst e; exact .refl _
  · rw [hlx v hv, hix v hv]; simp
  · exact ⟨v, by show v ∈ st.stack ++ [v]; simp, by rw [hlx v hv, hix v hv]; simp, .refl _⟩
 have hmul : st.index.count 0 * (L + 2) = (enter v st).index.count 0 * (L + 2) + (L + 2) := by
  rw [<- hct, Nat.add_mul, Nat.one_mul]
 obtain ⟨st', h1, h2, h3, h4⟩ := he st.stack v st.count 0 (enter v st) [] hlp (by omega)
 refine ⟨st', h1, h2, ?_, by omega⟩
 refine ⟨?_, ?_, ?_, ?_, ?_⟩
 · intro x hx hi
   have e : x ≠ v := by rintro rfl; exact hi h0
   have := hix x hx
   rw [if_neg e] at this
   rw [h3.idx x hx (by rw [this]; exact hi), this]
 · intro x hx hi _
   have e : x ≠ v := by rintro rfl; exact hi h0
   have := hix x hx
   rw [if_neg e] at this
   rw [h3.low x hx (by rw [this]; exact hi) e, hlx x hx, if_neg e]
 · exact h3.cmp
 · have := h3.cnt; omega
 · intro x hx hi
   by_cases e : x = v
   · subst e
     right
     rw [h2.idx]; omega
   have := hix x hx
   rw [if_neg e] at this
   rcases h3.new x hx (by rw [this]; exact hi) with e2 | e2
   · exact .inl e2
   · exact .inr (by omega)
theorem lp_next {es : List (List Int)} (hvld : Vld es) {S0 : List Int} {v c0 : Int} {i : Nat} {st st2 : TS} {rest r1 : List Int} (h : Lp es S0 v c0 i st rest) (hi : i < (row es v).length)
 (h2 : Inv es st2) (he : Ext es (fun _ => False) st st2) (hs : st2.stack = st.stack ++ r1) (hr : ∀ x ∈ r1, Rc es x v /\ Rc es v x) (hl : rd st2.low v <= rd st.low v)
 (hw : rd st2.low v = rd st.low v \/ ∃ y ∈ st2.stack, rd st2.index y = rd st2.low v /\ Rc es v y) (hb : ∀ x ∈ r1, ∀ u ∈ row es x, Ok st2 (rd st2.low v) u) (hd : Ok st2 (rd st2.low v) (rd (row es v) i)) :
 Lp es S0 v c0 (i + 1) st2 (rest ++ r1) := by
 have hI := h.inv
 have hvs : v ∈ st.stack := by rw [h.stk]; simp
 have hix : ∀ x ∈ st.stack, nd es x /\ rd st2.index x = rd st.index x := fun x hx => ⟨(hI.stk x hx).1, he.idx x (hI.stk x hx).1 (by have := (hI.stk x hx).2.1; omega)⟩
 refine ⟨h2, h.nd, by rw [(hix v hvs).2]; exact h.idx, by rw [hs, h.stk]; simp, ?_, ?_, by rw [(hix v hvs).2]; have := h.low; omega, ?_, ?_, ?_⟩
 · intro x hx
   rw [hs] at hx
   rcases List.mem_append.1 hx with e | e
   · exact h.tov x e
   · exact (hr x e).1
 · intro x hx
   rcases List.mem_append.1 hx with e | e
   · exact h.frm x e
   · exact (hr x e).2
 · rcases hw with e | e
   · obtain ⟨y, y1, y2, y3⟩ := h.wit
     exact ⟨y, by rw [hs]; exact List.mem_append.2 (.inl y1), by rw [(hix y y1).2, e]; exact y2, y3⟩
   · exact e
 · intro x hx u hu
   rcases List.mem_append.1 hx with e | e
   · exact Ok.ext he (hvld x (hI.stk x (by rw [h.stk]; simp [e])).1 u hu) hl (h.blk x e u hu)
   · exact hb x e u hu
 · intro j hj hjl
   by_cases e : j = i
   · rw [e]; exact hd
   exact Ok.ext he (row_nd hvld h.nd j hjl) hl (h.done j (by omega) hjl)
theorem each_step {es : List (List Int)} (hvld : Vld es) {L k : Nat} (hL : ∀ v, (row es v).length <= L) (hn : es.length < 1000000) (hv : VisitOk es L k) (he : EachOk es L k) : EachOk es L (k + 1) := by
 intro S0 v c0 i st rest h hk
 have hI := h.inv
 have hcl := hI.count_le
 have hiv := hI.idx v h.nd
 have hLv := hL v
 have hvs : v ∈ st.stack := by rw [h.stk]; simp
 have hvi : rd st.index v ≠ 0 := by have := (hI.stk v hvs).2.1; omega
 unfold each
 by_cases hi : i < (row es v).length
 rotate_left
 · rw [if_neg (by omega)]
   by_cases hlow : rd st.low v = rd st.index v
   · rw [if_pos hlow]
     obtain ⟨st', b1, b2, b3, b4⟩ := end_pop (k := k) hvld h (by omega) hlow (by omega) hn
     exact ⟨st', b1, b2, b3, by rw [b4]; exact Nat.le_refl _⟩
   rw [if_neg hlow]
   refine ⟨st, rfl, ⟨hI, h.idx, .inr ⟨rest, h.stk, ?_, ?_, ?_, ?_⟩⟩, Ext.refl _ _ _, Nat.le_refl _⟩
   · intro x hx
     refine ⟨h.tov x (by rw [h.stk]; exact List.mem_append.2 (.inr hx)), ?_⟩
     rcases List.mem_cons.1 hx with e | e
     · rw [e]; exact .refl _
     · exact h.frm x e
   · intro x hx u hu
     rcases List.mem_cons.1 hx with e | e
     · rw [e] at hu
       obtain ⟨j, hj, rfl⟩ := mem_rd _ _ hu
       exact h.done j (by omega) hj
     · exact h.blk x e u hu
   · have := h.low; have := h.idx; omega
   · obtain ⟨y, y1, y2, y3⟩ := h.wit
     refine ⟨y, ?_, y2, y3⟩
     have := h.low
     obtain ⟨n1, n2, n3⟩ := h.notin
     rw [h.stk] at y1
     rcases List.mem_append.1 y1 with e | e
     · exact e
     · rcases List.mem_cons.1 e with e | e
       · rw [e] at y2; omega
       · have := n3 y e; omega
 rw [if_pos (by omega)]
 have hw := row_nd hvld h.nd i hi
 have hmem : rd (row es v) i ∈ row es v := by rw [rd_at _ i hi]; exact List.getElem_mem _
 have hnx := @lp_next es hvld S0 v c0 i st
 generalize hwd : rd (row es v) i = w at *
 rw [if_pos ⟨hw.1, hw.2⟩, show (i : Int) + 1 = ((i + 1 : Nat) : Int) by omega]
 by_cases h0 : rd st.index w = 0
 rotate_left
 · rw [if_neg h0]
   by_cases hc : rd st.comp w < 0
   rotate_left
   · rw [if_neg hc]
     have hlp := hnx h hi (r1 := []) hI (Ext.refl _ _ _) (by simp) (by simp) (Int.le_refl _) (.inl rfl) (by simp) (.inl (by omega))
     obtain ⟨st', b1, b2, b3, b4⟩ := he S0 v c0 (i + 1) _ _ hlp (by omega)
     exact ⟨st', b1, b2, b3, b4⟩
   rw [if_pos hc]
   have hlv : rd (lower v (rd st.index w) st).low v = mn (rd st.low v) (rd st.index w) := by rw [lower_low hI h.nd v h.nd, if_pos rfl]
   have hmn := mn_le (rd st.low v) (rd st.index w)
   have hlp := hnx h hi (r1 := []) (lower_inv (v := v) (x := rd st.index w) hI) ((lower_ext hI h.nd).imp (fun _ h => h.elim)) (by show st.stack = _; simp) (by simp) (by rw [hlv]; exact hmn.1)
    (by
     rw [hlv]
     rcases hmn.2.2 with e | e
     · exact .inl e
     · exact .inr ⟨w, hI.ons w hw h0 hc, e.symm, Rc.edge hmem⟩) (by simp) (.inr ⟨h0, by rw [hlv]; exact hmn.2.1⟩)
   obtain ⟨st', b1, b2, b3, b4⟩ := he S0 v c0 (i + 1) _ _ hlp (by show st.index.count 0 * (L + 2) + _ + _ + _ <= _; omega)
   exact ⟨st', b1, b2, (lower_ext hI h.nd).trans b3, b4⟩
 rw [if_pos h0]
 obtain ⟨st1, a1, a2, a3, a4⟩ := hv w st hI hw h0 (fun x hx => (h.tov x hx).tail hmem) (by omega)
 rw [a1, Option.bind_some]
 have hI1 := a2.inv
 have hl1 : rd st1.low v = rd st.low v := a3.low v h.nd hvi trivial
 have hlv : rd (lower v (rd st1.low w) st1).low v = mn (rd st.low v) (rd st1.low w) := by rw [lower_low hI1 h.nd v h.nd, if_pos rfl, hl1]
 have hmn := mn_le (rd st.low v) (rd st1.low w)
 have hext : Ext es (· ≠ v) st (lower v (rd st1.low w) st1) := (a3.imp (fun _ _ => trivial)).trans (lower_ext hI1 h.nd)
 have hlow := h.low
 have next : ∃ rest2, Lp es S0 v c0 (i + 1) (lower v (rd st1.low w) st1) rest2 := by
  rcases a2.way with ⟨s1, s2, s3⟩ | ⟨r1, s1, s2, s3, s4, y, s5, s6, s7⟩
  · exact ⟨_, hnx h hi (r1 := []) (lower_inv hI1) (hext.imp (fun _ h => h.elim)) (by show st1.stack = _; rw [s1]; simp) (by simp) (by rw [hlv]; exact hmn.1) (.inl (by rw [hlv]; omega)) (by simp) (.inl s3)⟩
  · refine ⟨_, hnx h hi (r1 := w :: r1) (lower_inv hI1) (hext.imp (fun _ h => h.elim)) s1 (fun x hx => ?_) (by rw [hlv]; exact hmn.1) ?_ ?_ (.inr ?_)⟩
    · exact ⟨(s2 x hx).1.trans (s7.trans (h.tov y s5)), (Rc.edge hmem).trans (s2 x hx).2⟩
    · rw [hlv]
      rcases hmn.2.2 with e | e
      · exact .inl e
      · refine .inr ⟨y, by show y ∈ st1.stack; rw [s1]; exact List.mem_append.2 (.inl s5), ?_, (Rc.edge hmem).trans s7⟩
        rw [e]; exact s6
    · intro x hx u hu
      rcases s3 x hx u hu with e | ⟨e1, e2⟩
      · exact .inl e
      · exact .inr ⟨e1, by rw [hlv]; show _ <= rd st1.index u; omega⟩
    · have e1 : rd (lower v (rd st1.low w) st1).index w = st.count + 1 := a2.idx
      rw [e1, hlv]
      omega
 obtain ⟨rest2, hlp⟩ := next
 have hu := unv_le hI hI1 a3.cnt
 have hmul : st1.index.count 0 * (L + 2) <= st.index.count 0 * (L + 2) := Nat.mul_le_mul_right _ hu
 obtain ⟨st', b1, b2, b3, b4⟩ := he S0 v c0 (i + 1) _ rest2 hlp (by show st1.index.count 0 * (L + 2) + _ + _ + _ <= _; omega)
 exact ⟨st', b1, b2, hext.trans b3, by have : (lower v (rd st1.low w) st1).index = st1.index := rfl; rw [this] at b4; omega⟩
theorem both {es : List (List Int)} (hvld : Vld es) {L : Nat} (hL : ∀ v, (row es v).length <= L) (hn : es.length < 1000000) : ∀ k, VisitOk es L k /\ EachOk es L k := by
 intro k
 induction k with
 | zero => exact ⟨fun v st _ _ _ _ hk => by omega, fun S0 v c0 i st rest _ hk => by omega⟩
 | succ k ih => exact ⟨visit_step hvld hL hn ih.2, each_step hvld hL hn ih.1 ih.2⟩
structure Sol (es : List (List Int)) (cm : List Int) (n : Int) : Prop where
 len : cm.length = es.length
 n0 : 0 <= n /\ n <= es.length
 rng : ∀ v, nd es v -> 0 <= rd cm v /\ rd cm v < n
 back : ∀ u, nd es u -> ∀ w ∈ row es u, rd cm w <= rd cm u
 same : ∀ u v, nd es u -> nd es v -> rd cm u = rd cm v -> Rc es u v
 onto : ∀ c, 0 <= c -> c < n -> ∃ v, nd es v /\ rd cm v = c
theorem outer_run {es : List (List Int)} (hvld : Vld es) {L : Nat} (hL : ∀ v, (row es v).length <= L) (hn : es.length < 1000000) : ∀ (m : Nat) (k i : Nat) (st : TS), i + m = es.length -> es.length * (L + 2) + es.length + 2 + m < k ->
 Inv es st -> st.stack = [] -> (∀ x, nd es x -> x < i -> rd st.index x ≠ 0) -> ∃ st', outer k es i st = some st' /\ Inv es st' /\ st'.stack = [] /\ ∀ x, nd es x -> rd st'.index x ≠ 0 := by
 intro m
 induction m with
 | zero =>
  intro k i st hi hk hI hs hx
  obtain ⟨k, rfl⟩ : ∃ m, k = m + 1 := ⟨k - 1, by omega⟩
  unfold outer
  rw [if_neg (by omega)]
  exact ⟨st, rfl, hI, hs, fun x h => hx x h (by have := h.2; omega)⟩
 | succ m ih =>
  intro k i st hi hk hI hs hx
  obtain ⟨k, rfl⟩ : ∃ m, k = m + 1 := ⟨k - 1, by omega⟩
  have hnd : nd es (i : Int) := ⟨by omega, by omega⟩
  have hcl := hI.count_le
  unfold outer
  rw [if_pos (by omega), show (i : Int) + 1 = ((i + 1 : Nat) : Int) by omega]
  by_cases h0 : rd st.index i = 0
  rotate_left
  · rw [if_neg h0]
    refine ih k (i + 1) st (by omega) (by omega) hI hs ?_
    intro x h1 h2
    by_cases e : x = i
    · subst e; exact h0
    exact hx x h1 (by omega)
  rw [if_pos h0]
  have hu : st.index.count 0 <= es.length := by rw [<- hI.li]; exact List.count_le_length
  have hmul : st.index.count 0 * (L + 2) <= es.length * (L + 2) := Nat.mul_le_mul_right _ hu
  obtain ⟨st1, a1, a2, a3, a4⟩ := (both hvld hL hn k).1 i st hI hnd h0 (by rw [hs]; simp) (by omega)
  rw [a1, Option.bind_some]
  have hs1 : st1.stack = [] := by
   rcases a2.way with ⟨s1, _⟩ | ⟨_, _, _, _, _, y, s5, _⟩
   · rw [s1, hs]
   · rw [hs] at s5; cases s5
  refine ih k (i + 1) st1 (by omega) (by omega) a2.inv hs1 ?_
  intro x h1 h2
  by_cases e : x = i
  · subst e; rw [a2.idx]; omega
  have := hx x h1 (by omega)
  rw [a3.idx x h1 this]
  exact this
theorem init_inv (es : List (List Int)) : Inv es (init es.length) := by
 have hi : ∀ x, nd es x -> rd (init es.length).index x = 0 := fun x h => rd_rep _ _ _ h.1 h.2
 have hc : ∀ x, nd es x -> rd (init es.length).comp x = -1 := fun x h => rd_rep _ _ _ h.1 h.2
 refine ⟨by simp [init], by simp [init], by simp [init], (fun x hx => by cases hx), (fun x h h0 => absurd (hi x h) h0), (fun x h _ => hc x h), (fun x h => ?_), (fun x h => ?_),
  (fun x y h _ _ h0 => absurd (hi x h) h0), List.Pairwise.nil, (fun u h h0 => ?_), (fun u v h _ _ h0 => ?_), (fun c h0 h1 => ?_), ?_, ?_⟩
 · rw [hi x h]; simp [init]
 · rw [hc x h]; simp [init]
 · rw [hc u h] at h0; omega
 · rw [hc u h] at h0; omega
 · simp [init] at h1; omega
 · simp [init]
 · simp [init]
theorem strong_sol {es : List (List Int)} (hvld : Vld es) {L : Nat} (hL : ∀ v, (row es v).length <= L) (hn : es.length < 1000000) (k : Nat) (hk : es.length * (L + 2) + es.length + es.length + 3 <= k) :
 ∃ cm n, strongF k es = some (cm, n) /\ Sol es cm n := by
 obtain ⟨st, h1, h2, h3, h4⟩ := outer_run hvld hL hn es.length k 0 (init es.length) (by omega) (by omega) (init_inv es) rfl (fun x h h0 => by have := h.1; omega)
 refine ⟨st.comp, st.comps, ?_, ?_⟩
 · unfold strongF
   rw [if_pos (by omega)]
   show (outer k es ((0 : Nat) : Int) _).map _ = _
   rw [h1]
   rfl
 · have hr : ∀ v, nd es v -> 0 <= rd st.comp v := by
    intro v hv
    have h5 := h2.cmp v hv
    by_cases e : rd st.comp v < 0
    rotate_left
    · omega
    have := h2.ons v hv (h4 v hv) e
    rw [h3] at this
    cases this
   have hcl := h2.count_le
   have hcps := h2.cps
   exact ⟨h2.lc, by omega, fun v hv => ⟨hr v hv, (h2.cmp v hv).2⟩, fun u hu w hw => (h2.back u hu (hr u hu) w hw).2, fun u v hu hv he => h2.same u v hu hv he (hr u hu), h2.onto⟩
end Tp
end Go.Proofs.Ytmadhaccjmakdaa
namespace Go.Proofs.Ytmadhaccjmakdaa
open Go.RowKit Go.Proofs.Yw.A Go.Proofs.Yw.B Go.Proofs.Yw.C
namespace Tp
open Tj Rw Od
def iota (n : Nat) : List Int := (List.range n).map fun (i : Nat) => (i : Int)
theorem mem_iota {n : Nat} {x : Int} : x ∈ iota n ↔ 0 <= x /\ x < n := by
 unfold iota
 rw [List.mem_map]
 constructor
 · rintro ⟨i, hi, rfl⟩
   have := List.mem_range.1 hi
   omega
 · intro h
   exact ⟨x.toNat, List.mem_range.2 (by omega), by omega⟩
theorem iota_succ (n : Nat) : iota (n + 1) = iota n ++ [(n : Int)] := by
 unfold iota
 rw [List.range_succ, List.map_append]
 rfl
theorem iota_lt (n : Nat) : (iota n).Pairwise (· < ·) := by
 unfold iota
 rw [List.pairwise_map]
 exact List.pairwise_lt_range.imp (fun h => by omega)
theorem iota_length (n : Nat) : (iota n).length = n := by simp [iota]
theorem nodup_le : ∀ (n : Nat) (l : List Int), l.Nodup -> (∀ x ∈ l, 0 <= x /\ x < n) -> l.length <= n := by
 intro n
 induction n with
 | zero =>
  intro l _ h
  cases l with
  | nil => exact Nat.le_refl _
  | cons a l => have := h a (by simp); omega
 | succ n ih =>
  intro l hd h
  have h1 := ih (l.erase (n : Int)) (hd.erase _) (fun x hx => by
   have h2 := (hd.mem_erase_iff).1 hx
   have := h x h2.2
   have := h2.1
   omega)
  by_cases hm : (n : Int) ∈ l
  rotate_left
  · rw [List.erase_of_not_mem hm] at h1; omega
  rw [List.length_erase_of_mem hm] at h1; omega
theorem row_set (ms : List (List Int)) (c d : Int) (r : List Int) (h0 : 0 <= c) (h1 : c < ms.length) (hd : 0 <= d) : row (ms.set c.toNat r) d = if d = c then r else row ms d := by
 unfold row
 rw [List.getD_eq_getElem?_getD, List.getElem?_set, List.getD_eq_getElem?_getD]
 by_cases h : d = c
 rotate_left
 · rw [if_neg (by omega), if_neg h]
 subst h
 rw [if_pos rfl, if_pos (by omega), if_pos rfl]
 rfl
theorem row_app (ms : List (List Int)) (c d x : Int) (h0 : 0 <= c) (h1 : c < ms.length) (hd : 0 <= d) : row (app ms c x) d = if d = c then row ms c ++ [x] else row ms d := row_set ms c d _ h0 h1 hd
theorem app_length (ms : List (List Int)) (c x : Int) : (app ms c x).length = ms.length := by simp [app]
theorem row_rep (n : Nat) (c : Int) : row (List.replicate n []) c = [] := by
 unfold row
 rw [List.getD_eq_getElem?_getD]
 by_cases h : c.toNat < n
 rotate_left
 · rw [List.getElem?_eq_none (by simpa using h)]; rfl
 rw [List.getElem?_eq_getElem (by simpa using h)]; simp
theorem rd_rep0 (n : Nat) (c : Int) : rd (List.replicate n 0) c = 0 := by
 unfold rd
 rw [List.getD_eq_getElem?_getD]
 by_cases h : c.toNat < n
 rotate_left
 · rw [List.getElem?_eq_none (by simpa using h)]; rfl
 rw [List.getElem?_eq_getElem (by simpa using h)]; simp
theorem row_mem (ms : List (List Int)) (i : Nat) (h : i < ms.length) : row ms (i : Int) = ms[i] := by
 unfold row
 rw [Int.toNat_natCast, List.getD_eq_getElem?_getD, List.getElem?_eq_getElem h]
 rfl
def mem (cm : List Int) (c : Int) : List Int := (iota cm.length).filter fun v => rd cm v == c
theorem mem_mem {cm : List Int} {c x : Int} : x ∈ mem cm c ↔ (0 <= x /\ x < cm.length) /\ rd cm x = c := by
 unfold mem
 rw [List.mem_filter, mem_iota]
 simp
theorem mem_len (cm : List Int) (c : Int) : (mem cm c).length <= cm.length := by
 unfold mem
 exact Nat.le_trans (List.length_filter_le _ _) (by rw [iota_length]; exact Nat.le_refl _)
theorem grp_run {es : List (List Int)} {cm : List Int} {n : Int} (S : Sol es cm n) (hn : es.length < 1000000) : ∀ (m k i : Nat) (ms : List (List Int)), i + m = cm.length -> m < k -> (ms.length : Int) = n ->
 (∀ c, 0 <= c -> c < n -> row ms c = (iota i).filter fun v => rd cm v == c) -> ∃ ms', grp k cm i ms = some ms' /\ (ms'.length : Int) = n /\ ∀ c, 0 <= c -> c < n -> row ms' c = mem cm c := by
 intro m
 induction m with
 | zero =>
  intro k i ms hi hk hl h
  obtain ⟨k, rfl⟩ : ∃ m, k = m + 1 := ⟨k - 1, by omega⟩
  obtain rfl : i = cm.length := by omega
  unfold grp
  rw [if_neg (by omega)]
  exact ⟨ms, rfl, hl, h⟩
 | succ m ih =>
  intro k i ms hi hk hl h
  obtain ⟨k, rfl⟩ : ∃ m, k = m + 1 := ⟨k - 1, by omega⟩
  have hr := S.rng i ⟨by omega, by have := S.len; omega⟩
  have hlen : (row ms (rd cm i)).length <= i := by
   rw [h _ hr.1 hr.2]
   exact Nat.le_trans (List.length_filter_le _ _) (by rw [iota_length]; exact Nat.le_refl _)
  unfold grp
  rw [if_pos (by omega), if_pos ⟨hr.1, by omega, by have := S.len; omega⟩, show (i : Int) + 1 = ((i + 1 : Nat) : Int) by omega]
  refine ih k (i + 1) _ (by omega) (by omega) (by rw [app_length]; exact hl) ?_
  intro c h0 h1
  rw [row_app _ _ _ _ hr.1 (by omega) h0, iota_succ, List.filter_append, <- h c h0 h1]
  by_cases e : c = rd cm i
  · subst e
    rw [if_pos rfl]
    simp
  rw [if_neg e]
  have : (rd cm i == c) = false := by simpa using fun h => e h.symm
  simp [this]
def Dep (es : List (List Int)) (cm : List Int) (c d : Int) : Prop := c ≠ d /\ ∃ v ∈ mem cm c, ∃ w ∈ row es v, rd cm w = d
structure J (n : Int) (c : Int) (O0 : Int -> Int) (U0 : Int -> List Int) (u : US) : Prop where
 lo : (u.opn.length : Int) = n
 lu : (u.users.length : Int) = n
 nd : u.seen.Nodup
 hc : c ∈ u.seen
 rg : ∀ d ∈ u.seen, 0 <= d /\ d < n
 oo : ∀ d, 0 <= d -> d ≠ c -> rd u.opn d = O0 d
 oc : rd u.opn c = u.seen.length - 1
 us : ∀ d, 0 <= d -> d < n -> row u.users d = U0 d ++ (if d ∈ u.seen /\ d ≠ c then [c] else [])
theorem wf_small (x : Int) (h0 : 0 <= x) (h1 : x < 1000000) : (Lit.int .i64 x).wf = true := by
 have a : IntKind.i64.min = -9223372036854775808 := rfl
 have b : IntKind.i64.max = 9223372036854775807 := rfl
 simp only [Lit.wf, a, b, Bool.and_eq_true, decide_eq_true_eq]
 omega
theorem link_J {n c d : Int} {O0 : Int -> Int} {U0 : Int -> List Int} {u : US} (h : J n c O0 U0 u) (hn : n < 1000000) (hd0 : 0 <= d) (hd1 : d < n) (hs : d ∉ u.seen) : J n c O0 U0 (link c d u) := by
 have hc := h.rg c h.hc
 have hlo := h.lo
 have hlu := h.lu
 have hlen : u.seen.length <= n.toNat := nodup_le _ _ h.nd (fun x hx => by have := h.rg x hx; omega)
 have hdc : d ≠ c := by rintro rfl; exact hs h.hc
 refine ⟨?_, ?_, ?_, ?_, ?_, ?_, ?_, ?_⟩
 · show ((u.opn.set _ _).length : Int) = n
   rw [List.length_set]; exact h.lo
 · show ((app u.users d c).length : Int) = n
   rw [app_length]; exact h.lu
 · show (u.seen ++ [d]).Nodup
   rw [List.nodup_append]
   exact ⟨h.nd, by simp, fun a ha b hb e => by rw [List.mem_singleton] at hb; subst hb; subst e; exact hs ha⟩
 · exact List.mem_append.2 (.inl h.hc)
 · intro x hx
   rcases List.mem_append.1 (show x ∈ u.seen ++ [d] from hx) with e | e
   · exact h.rg x e
   · rw [List.mem_singleton] at e; subst e; exact ⟨hd0, hd1⟩
 · intro x h0 hx
   show rd (u.opn.set c.toNat _) x = _
   rw [rd_set _ _ _ _ hc.1 (by omega) h0, if_neg hx]
   exact h.oo x h0 hx
 · show rd (u.opn.set c.toNat _) c = ((u.seen ++ [d]).length : Int) - 1
   rw [rd_set _ _ _ _ hc.1 (by omega) hc.1, if_pos rfl, h.oc, w64 _ (by omega) (by omega), List.length_append, List.length_singleton]
   omega
 · intro x h0 h1
   show row (app u.users d c) x = U0 x ++ (if x ∈ u.seen ++ [d] /\ x ≠ c then [c] else [])
   rw [row_app _ _ _ _ hd0 (by omega) h0]
   by_cases e : x = d
   · subst e
     rw [if_pos rfl, h.us x h0 h1, if_neg (fun h => hs h.1), if_pos ⟨by simp, hdc⟩]
     simp
   rw [if_neg e, h.us x h0 h1]
   have : (x ∈ u.seen ++ [d]) ↔ x ∈ u.seen := by simp [e]
   simp only [this]
theorem ed3_run {es : List (List Int)} {cm : List Int} {n c : Int} {O0 : Int -> Int} {U0 : Int -> List Int} (S : Sol es cm n) (hn : es.length < 1000000) (hU : ∀ d, 0 <= d -> d < n -> (U0 d).length <= 1000000) (l : List Int) (hl : ∀ w ∈ l, nd es w) :
 ∀ (m k i : Nat) (u : US), i + m = l.length -> m < k -> J n c O0 U0 u -> ∃ u', ed3 k cm c l i u = some u' /\ J n c O0 U0 u' /\ ∀ x, x ∈ u'.seen ↔ x ∈ u.seen \/ ∃ w ∈ l.drop i, rd cm w = x := by
 intro m
 induction m with
 | zero =>
  intro k i u hi hk hJ
  obtain ⟨k, rfl⟩ : ∃ m, k = m + 1 := ⟨k - 1, by omega⟩
  unfold ed3
  rw [if_neg (by omega)]
  refine ⟨u, rfl, hJ, fun x => ?_⟩
  rw [List.drop_eq_nil_of_le (by omega)]
  simp
 | succ m ih =>
  intro k i u hi hk hJ
  obtain ⟨k, rfl⟩ : ∃ m, k = m + 1 := ⟨k - 1, by omega⟩
  have hil : i < l.length := by omega
  have hw : nd es (rd l i) := hl _ (by rw [rd_at l i hil]; exact List.getElem_mem _)
  have hr := S.rng _ hw
  have hN := S.n0
  have hdrop : l.drop i = rd l i :: l.drop (i + 1) := by rw [rd_at l i hil]; exact List.drop_eq_getElem_cons hil
  have hlen : u.seen.length <= n.toNat := nodup_le _ _ hJ.nd (fun x hx => by have := hJ.rg x hx; omega)
  have hlo := hJ.lo
  have hlu := hJ.lu
  have hcr := hJ.rg c hJ.hc
  unfold ed3
  rw [if_pos (by omega), if_pos ⟨hw.1, by rw [S.len]; exact hw.2, wf_small _ hr.1 (by omega)⟩, show (i : Int) + 1 = ((i + 1 : Nat) : Int) by omega]
  by_cases hs : rd cm (rd l i) ∈ u.seen
  · rw [if_pos (List.contains_iff_mem.2 hs)]
    obtain ⟨u', a1, a2, a3⟩ := ih k (i + 1) u (by omega) (by omega) hJ
    refine ⟨u', a1, a2, fun x => ?_⟩
    rw [a3, hdrop]
    simp only [List.mem_cons, exists_eq_or_imp]
    constructor
    · rintro (h | h)
      · exact .inl h
      · exact .inr (.inr h)
    · rintro (h | h | h)
      · exact .inl h
      · subst h; exact .inl hs
      · exact .inr h
  rw [if_neg (fun h => hs (List.contains_iff_mem.1 h))]
  have hrow := hJ.us _ hr.1 hr.2
  have hrl : (row u.users (rd cm (rd l i))).length <= 1000001 := by
   rw [hrow, List.length_append]
   have := hU _ hr.1 hr.2
   split <;> simp <;> omega
  rw [if_pos ⟨hcr.1, by omega, hr.1, by omega, by omega, by omega⟩]
  obtain ⟨u', a1, a2, a3⟩ := ih k (i + 1) _ (by omega) (by omega) (link_J hJ (by omega) hr.1 hr.2 hs)
  refine ⟨u', a1, a2, fun x => ?_⟩
  rw [a3, hdrop]
  show x ∈ u.seen ++ [rd cm (rd l i)] \/ _ ↔ _
  simp only [List.mem_cons, exists_eq_or_imp, List.mem_append, List.not_mem_nil, or_false]
  constructor
  · rintro ((h | h) | h)
    · exact .inl h
    · exact .inr (.inl h.symm)
    · exact .inr (.inr h)
  · rintro (h | h | h)
    · exact .inl (.inl h)
    · exact .inl (.inr h.symm)
    · exact .inr h
theorem ed2_run {es : List (List Int)} {cm : List Int} {n c : Int} {O0 : Int -> Int} {U0 : Int -> List Int} (hvld : Vld es) (S : Sol es cm n) (hn : es.length < 1000000) {L : Nat} (hL : ∀ v, (row es v).length <= L)
 (hU : ∀ d, 0 <= d -> d < n -> (U0 d).length <= 1000000) (l : List Int) (hl : ∀ w ∈ l, nd es w) :
 ∀ (m k i : Nat) (u : US), i + m = l.length -> m + L + 1 < k -> J n c O0 U0 u -> ∃ u', ed2 k es cm c l i u = some u' /\ J n c O0 U0 u' /\ ∀ x, x ∈ u'.seen ↔ x ∈ u.seen \/ ∃ v ∈ l.drop i, ∃ w ∈ row es v, rd cm w = x := by
 intro m
 induction m with
 | zero =>
  intro k i u hi hk hJ
  obtain ⟨k, rfl⟩ : ∃ m, k = m + 1 := ⟨k - 1, by omega⟩
  unfold ed2
  rw [if_neg (by omega)]
  refine ⟨u, rfl, hJ, fun x => ?_⟩
  rw [List.drop_eq_nil_of_le (by omega)]
  simp
 | succ m ih =>
  intro k i u hi hk hJ
  obtain ⟨k, rfl⟩ : ∃ m, k = m + 1 := ⟨k - 1, by omega⟩
  have hil : i < l.length := by omega
  have hw : nd es (rd l i) := hl _ (by rw [rd_at l i hil]; exact List.getElem_mem _)
  have hdrop : l.drop i = rd l i :: l.drop (i + 1) := by rw [rd_at l i hil]; exact List.drop_eq_getElem_cons hil
  unfold ed2
  rw [if_pos (by omega), if_pos ⟨hw.1, hw.2⟩, show (i : Int) + 1 = ((i + 1 : Nat) : Int) by omega]
  obtain ⟨u1, b1, b2, b3⟩ := ed3_run S hn hU (row es (rd l i)) (hvld _ hw) (row es (rd l i)).length k 0 u (by omega) (by have := hL (rd l i); omega) hJ
  rw [show ((0 : Int)) = ((0 : Nat) : Int) from rfl, b1, Option.bind_some]
  obtain ⟨u', a1, a2, a3⟩ := ih k (i + 1) u1 (by omega) (by omega) b2
  refine ⟨u', a1, a2, fun x => ?_⟩
  rw [a3, b3, hdrop]
  simp only [List.mem_cons, exists_eq_or_imp, List.drop_zero]
  exact or_assoc
structure K1 (es : List (List Int)) (cm : List Int) (n c : Int) (u : US) : Prop where
 lo : (u.opn.length : Int) = n
 lu : (u.users.length : Int) = n
 dn : ∀ d, 0 <= d -> d < c -> ∃ P : List Int, P.Nodup /\ (∀ x, x ∈ P ↔ Dep es cm d x) /\ rd u.opn d = P.length
 op : ∀ d, c <= d -> rd u.opn d = 0
 us : ∀ d, 0 <= d -> d < n -> (row u.users d).Nodup /\ ∀ x, x ∈ row u.users d ↔ (0 <= x /\ x < c) /\ Dep es cm x d
theorem ed1_run {es : List (List Int)} {cm : List Int} {n : Int} {ms : List (List Int)} (hvld : Vld es) (S : Sol es cm n) (hn : es.length < 1000000) {L : Nat} (hL : ∀ v, (row es v).length <= L) (hml : (ms.length : Int) = n) (hms : ∀ c, 0 <= c -> c < n -> row ms c = mem cm c) :
 ∀ (m k i : Nat) (u : US), i + m = ms.length -> m + es.length + L + 2 < k -> K1 es cm n i u -> ∃ u', ed1 k es cm ms i u = some u' /\ K1 es cm n n u' := by
 intro m
 induction m with
 | zero =>
  intro k i u hi hk hJ
  obtain ⟨k, rfl⟩ : ∃ m, k = m + 1 := ⟨k - 1, by omega⟩
  unfold ed1
  rw [if_neg (by omega)]
  exact ⟨u, rfl, by rw [<- hml, show ms.length = i by omega]; rw [<- hml] at hJ; rw [show ms.length = i by omega] at hJ; exact hJ⟩
 | succ m ih =>
  intro k i u hi hk hJ
  obtain ⟨k, rfl⟩ : ∃ m, k = m + 1 := ⟨k - 1, by omega⟩
  have hN := S.n0
  have hi0 : (0 : Int) <= i := by omega
  have hin : (i : Int) < n := by omega
  have hbound : ∀ d, 0 <= d -> d < n -> (row u.users d).length <= 1000000 := fun d h0 h1 => by
   have := nodup_le n.toNat _ (hJ.us d h0 h1).1 (fun x hx => by have := ((hJ.us d h0 h1).2 x).1 hx; omega)
   omega
  have hlm : (row ms (i : Int)).length <= es.length := by rw [hms _ hi0 hin, <- S.len]; exact mem_len _ _
  have hnd : ∀ w ∈ row ms (i : Int), nd es w := fun w hw => by
   rw [hms _ hi0 hin] at hw
   have := (mem_mem.1 hw).1
   rw [S.len] at this
   exact this
  have hJ0 : J n i (rd u.opn) (row u.users) { u with seen := [(i : Int)] } := by
   refine ⟨hJ.lo, hJ.lu, by simp, by simp, ?_, fun _ _ _ => rfl, ?_, ?_⟩
   · intro d hd
     rw [List.mem_singleton] at hd
     subst hd
     exact ⟨hi0, hin⟩
   · show rd u.opn i = _
     rw [hJ.op i (Int.le_refl _)]
     rfl
   · intro d h0 h1
     rw [if_neg (by simp)]
     simp
  unfold ed1
  rw [if_pos (by omega), if_pos (wf_small _ hi0 (by omega))]
  obtain ⟨u1, b1, b2, b3⟩ := ed2_run hvld S hn hL hbound (row ms i) hnd (row ms i).length k 0 _ (by omega) (by omega) hJ0
  rw [show ((0 : Int)) = ((0 : Nat) : Int) from rfl, b1, Option.bind_some, show (i : Int) + 1 = ((i + 1 : Nat) : Int) by omega]
  refine ih k (i + 1) u1 (by omega) (by omega) ?_
  have hseen : ∀ x, x ∈ u1.seen ↔ x = i \/ ∃ v ∈ mem cm i, ∃ w ∈ row es v, rd cm w = x := by
   intro x
   rw [b3, hms _ hi0 hin]
   simp
  have hdep : ∀ x, (x ∈ u1.seen /\ x ≠ i) ↔ Dep es cm i x := by
   intro x
   rw [hseen]
   unfold Dep
   constructor
   · rintro ⟨h | h, hx⟩
     · exact absurd h hx
     · exact ⟨Ne.symm hx, h⟩
   · rintro ⟨hx, h⟩
     exact ⟨.inr h, Ne.symm hx⟩
  refine ⟨b2.lo, b2.lu, ?_, ?_, ?_⟩
  · intro d h0 h1
    by_cases e : d = i
    rotate_left
    · rw [b2.oo d h0 e]
      exact hJ.dn d h0 (by omega)
    subst e
    refine ⟨u1.seen.erase i, b2.nd.erase _, fun x => ?_, ?_⟩
    · rw [b2.nd.mem_erase_iff, <- hdep]
      exact And.comm
    · rw [b2.oc, List.length_erase_of_mem b2.hc]
      have := List.length_pos_of_mem b2.hc
      omega
  · intro d hd
    rw [b2.oo d (by omega) (by omega)]
    exact hJ.op d (by omega)
  · intro d h0 h1
    have hu := hJ.us d h0 h1
    rw [b2.us d h0 h1]
    by_cases hx : d ∈ u1.seen /\ d ≠ i
    rotate_left
    · rw [if_neg hx, List.append_nil]
      refine ⟨hu.1, fun x => ?_⟩
      rw [hu.2]
      constructor
      · rintro ⟨h1, h2⟩; exact ⟨by omega, h2⟩
      · rintro ⟨h1, h2⟩
        refine ⟨?_, h2⟩
        by_cases e : x = i
        rotate_left
        · omega
        subst e; exact absurd ((hdep d).2 h2) hx
    rw [if_pos hx]
    refine ⟨?_, fun x => ?_⟩
    · rw [List.nodup_append]
      refine ⟨hu.1, by simp, fun a ha b hb e => ?_⟩
      rw [List.mem_singleton] at hb
      subst hb; subst e
      have := ((hu.2 _).1 ha).1
      omega
    · rw [List.mem_append, hu.2, List.mem_singleton]
      constructor
      · rintro (h | h)
        · exact ⟨by omega, h.2⟩
        · subst h; exact ⟨by omega, (hdep d).1 hx⟩
      · rintro ⟨h1, h2⟩
        by_cases e : x = i
        · exact .inr e
        exact .inl ⟨by omega, h2⟩
structure Rows (es : List (List Int)) (cm : List Int) (n : Int) (ms : List (List Int)) : Prop where
 len : (ms.length : Int) = n
 row : ∀ c, 0 <= c -> c < n -> row ms c = mem cm c
theorem mem_lt (cm : List Int) (c : Int) : (mem cm c).Pairwise (· < ·) := by
 unfold mem
 exact (iota_lt _).filter _
theorem fine_of {es : List (List Int)} {cm : List Int} {n : Int} {ms : List (List Int)} (S : Sol es cm n) (hn : es.length < 1000000) (R : Rows es cm n ms) {c : Int} (h0 : 0 <= c) (h1 : c < n) :
 Fine ms c /\ (nd es (first ms c) /\ rd cm (first ms c) = c) /\ ∀ v, nd es v -> rd cm v = c -> first ms c <= v := by
 have hl := R.len
 obtain ⟨v, hv, hvc⟩ := S.onto c h0 h1
 have hm : v ∈ row ms c := by rw [R.row c h0 h1, mem_mem, S.len]; exact ⟨hv, hvc⟩
 have hpos := List.length_pos_of_mem hm
 have hf : first ms c ∈ row ms c := rd_mem _ _ (Int.le_refl _) (by omega)
 have hf2 := hf
 rw [R.row c h0 h1, mem_mem, S.len] at hf2
 refine ⟨⟨h0, by omega, hpos, hf2.1.1, by omega⟩, ⟨hf2.1, hf2.2⟩, ?_⟩
 intro u hu huc
 have hum : u ∈ row ms c := by rw [R.row c h0 h1, mem_mem, S.len]; exact ⟨hu, huc⟩
 have hp : (row ms c).Pairwise (· < ·) := by rw [R.row c h0 h1]; exact mem_lt _ _
 unfold first
 generalize row ms c = l at *
 cases l with
 | nil => cases hum
 | cons a l =>
  show a <= u
  rcases List.mem_cons.1 hum with e | e
  · omega
  · have := (List.pairwise_cons.1 hp).1 u e
    omega
theorem first_inj {es : List (List Int)} {cm : List Int} {n : Int} {ms : List (List Int)} (S : Sol es cm n) (hn : es.length < 1000000) (R : Rows es cm n ms) {c d : Int} (h0 : 0 <= c) (h1 : c < n) (k0 : 0 <= d) (k1 : d < n)
 (h : first ms c = first ms d) : c = d := by
 rw [<- (fine_of S hn R h0 h1).2.1.2, <- (fine_of S hn R k0 k1).2.1.2, h]
structure Rdy (ms : List (List Int)) (n : Int) (p : Int -> Prop) (ready : List Int) : Prop where
 mem : ∀ x, x ∈ ready ↔ (0 <= x /\ x < n) /\ p x
 srt : ready.Pairwise fun a b => first ms a < first ms b
theorem ins_sorted {ms : List (List Int)} {c : Int} : ∀ (l : List Int), l.Pairwise (fun a b => first ms a < first ms b) -> (∀ x ∈ l, first ms x ≠ first ms c) ->
 (ins l (pos ms (first ms c) l) c).Pairwise (fun a b => first ms a < first ms b) /\ ∀ x, x ∈ ins l (pos ms (first ms c) l) c ↔ x = c \/ x ∈ l := by
 intro l
 induction l with
 | nil => intro _ _; simp [ins]
 | cons a l ih =>
  intro hp hne
  obtain ⟨h1, h2⟩ := List.pairwise_cons.1 hp
  by_cases ha : first ms a < first ms c
  rotate_left
  · have hca : first ms c < first ms a := by have := hne a (by simp); omega
    have hpos : pos ms (first ms c) (a :: l) = 0 := by
     unfold pos
     rw [List.countP_eq_zero]
     intro x hx
     rcases List.mem_cons.1 hx with e | e
     · rw [e]; simpa using ha
     · have := h1 x e
       simp
       omega
    have hins : ins (a :: l) (pos ms (first ms c) (a :: l)) c = c :: a :: l := by
     rw [hpos]; simp [ins]
    rw [hins]
    refine ⟨List.pairwise_cons.2 ⟨fun x hx => ?_, hp⟩, fun x => List.mem_cons⟩
    rcases List.mem_cons.1 hx with e | e
    · rw [e]; exact hca
    · have := h1 x e; omega
  have hpos : pos ms (first ms c) (a :: l) = pos ms (first ms c) l + 1 := by
   unfold pos
   rw [List.countP_cons, if_pos (by simpa using ha)]
  have hins : ins (a :: l) (pos ms (first ms c) (a :: l)) c = a :: ins l (pos ms (first ms c) l) c := by
   rw [hpos]; simp [ins]
  obtain ⟨i1, i2⟩ := ih h2 (fun x hx => hne x (by simp [hx]))
  rw [hins]
  refine ⟨List.pairwise_cons.2 ⟨fun x hx => ?_, i1⟩, fun x => ?_⟩
  · rcases (i2 x).1 hx with e | e
    · rw [e]; exact ha
    · exact h1 x e
  · rw [List.mem_cons, i2, List.mem_cons]
    constructor
    · rintro (h | h | h)
      · exact .inr (.inl h)
      · exact .inl h
      · exact .inr (.inr h)
    · rintro (h | h | h)
      · exact .inr (.inl h)
      · exact .inl h
      · exact .inr (.inr h)
theorem rdy_len {ms : List (List Int)} {n : Int} {p : Int -> Prop} {ready : List Int} (h : Rdy ms n p ready) : ready.length <= n.toNat :=
 nodup_le _ _ (h.srt.imp (fun h e => by subst e; omega)) (fun x hx => by have := (h.mem x).1 hx; omega)
theorem enter_rdy {es : List (List Int)} {cm : List Int} {n : Int} {ms : List (List Int)} (S : Sol es cm n) (hn : es.length < 1000000) (R : Rows es cm n ms) {p q : Int -> Prop} {ready : List Int} {c : Int} (h : Rdy ms n p ready)
 (h0 : 0 <= c) (h1 : c < n) (hc : ¬ p c) (hq : ∀ x, 0 <= x -> x < n -> (q x ↔ x = c \/ p x)) : ∃ r, enterF ms c ready = some r /\ Rdy ms n q r := by
 have hne : ∀ x ∈ ready, first ms x ≠ first ms c := by
  intro x hx e
  obtain ⟨a, b⟩ := (h.mem x).1 hx
  have := first_inj S hn R a.1 a.2 h0 h1 e
  subst this
  exact hc b
 obtain ⟨i1, i2⟩ := ins_sorted ready h.srt hne
 have hl := rdy_len h
 have hN := S.n0
 refine ⟨_, ?_, ⟨fun x => ?_, i1⟩⟩
 · unfold enterF
   rw [if_pos ⟨(fine_of S hn R h0 h1).1, fun d hd => (fine_of S hn R ((h.mem d).1 hd).1.1 ((h.mem d).1 hd).1.2).1, h.srt.imp (fun h => by omega), by omega⟩]
 · rw [i2]
   constructor
   · rintro (e | e)
     · subst e; exact ⟨⟨h0, h1⟩, (hq x h0 h1).2 (.inl rfl)⟩
     · obtain ⟨a, b⟩ := (h.mem x).1 e
       exact ⟨a, (hq x a.1 a.2).2 (.inr b)⟩
   · rintro ⟨a, b⟩
     rcases (hq x a.1 a.2).1 b with e | e
     · exact .inl e
     · exact .inr ((h.mem x).2 ⟨a, e⟩)
theorem Rdy.congr {ms : List (List Int)} {n : Int} {p q : Int -> Prop} {r : List Int} (h : Rdy ms n p r) (hq : ∀ x, 0 <= x -> x < n -> (q x ↔ p x)) : Rdy ms n q r :=
 ⟨fun x => by
  rw [h.mem]
  exact ⟨fun ⟨a, b⟩ => ⟨a, (hq x a.1 a.2).2 b⟩, fun ⟨a, b⟩ => ⟨a, (hq x a.1 a.2).1 b⟩⟩, h.srt⟩
theorem starts_run {es : List (List Int)} {cm : List Int} {n : Int} {ms : List (List Int)} (S : Sol es cm n) (hn : es.length < 1000000) (R : Rows es cm n ms) (opn : List Int) (ho : (opn.length : Int) = n) :
 ∀ (m k i : Nat) (ready : List Int), (i : Int) + m = n -> m < k -> Rdy ms n (fun x => x < i /\ rd opn x = 0) ready -> ∃ r, starts k ms n i opn ready = some r /\ Rdy ms n (fun x => rd opn x = 0) r := by
 intro m
 induction m with
 | zero =>
  intro k i ready hi hk h
  obtain ⟨k, rfl⟩ : ∃ m, k = m + 1 := ⟨k - 1, by omega⟩
  unfold starts
  rw [if_neg (by omega)]
  exact ⟨ready, rfl, h.congr (fun x h0 h1 => ⟨fun e => ⟨by omega, e⟩, fun e => e.2⟩)⟩
 | succ m ih =>
  intro k i ready hi hk h
  obtain ⟨k, rfl⟩ : ∃ m, k = m + 1 := ⟨k - 1, by omega⟩
  unfold starts
  rw [if_pos (by omega), if_pos ⟨by omega, by omega⟩, show (i : Int) + 1 = ((i + 1 : Nat) : Int) by omega]
  by_cases h0 : rd opn i = 0
  rotate_left
  · rw [if_neg h0]
    refine ih k (i + 1) ready (by omega) (by omega) (h.congr (fun x k0 k1 => ?_))
    constructor
    · rintro ⟨a, b⟩
      by_cases e : x = i
      rotate_left
      · exact ⟨by omega, b⟩
      subst e; exact absurd b h0
    · rintro ⟨a, b⟩
      exact ⟨by omega, b⟩
  rw [if_pos h0]
  obtain ⟨r, a1, a2⟩ := enter_rdy S hn R (c := (i : Int)) (q := fun x => x < ((i + 1 : Nat) : Int) /\ rd opn x = 0) h (by omega) (by omega) (by omega) (fun x k0 k1 => by
   constructor
   · rintro ⟨a, b⟩
     by_cases e : x = i
     · exact .inl e
     exact .inr ⟨by omega, b⟩
   · rintro (e | e)
     · subst e; exact ⟨by omega, h0⟩
     · exact ⟨by omega, e.2⟩)
  rw [a1, Option.bind_some]
  exact ih k (i + 1) r (by omega) (by omega) a2
inductive Seq (es : List (List Int)) (cm : List Int) (n : Int) (ms : List (List Int)) : List Int -> Prop
 | nil : Seq es cm n ms []
 | snoc {D : List Int} {c : Int} : Seq es cm n ms D -> 0 <= c -> c < n -> c ∉ D -> (∀ d, Dep es cm c d -> d ∈ D) -> (∀ x, 0 <= x -> x < n -> x ∉ D -> (∀ d, Dep es cm x d -> d ∈ D) -> first ms c <= first ms x) -> Seq es cm n ms (D ++ [c])
theorem Seq.rng {es : List (List Int)} {cm : List Int} {n : Int} {ms : List (List Int)} {D : List Int} (h : Seq es cm n ms D) : D.Nodup /\ (∀ x ∈ D, 0 <= x /\ x < n) /\ ∀ x ∈ D, ∀ d, Dep es cm x d -> d ∈ D := by
 induction h with
 | nil => simp
 | snoc _ h0 h1 h2 h3 h4 ih =>
  obtain ⟨i1, i2, i3⟩ := ih
  refine ⟨?_, ?_, ?_⟩
  · rw [List.nodup_append]
    exact ⟨i1, by simp, fun a ha b hb e => by rw [List.mem_singleton] at hb; subst hb; subst e; exact h2 ha⟩
  · intro x hx
    rcases List.mem_append.1 hx with e | e
    · exact i2 x e
    · rw [List.mem_singleton] at e; subst e; exact ⟨h0, h1⟩
  · intro x hx d hd
    rcases List.mem_append.1 hx with e | e
    · exact List.mem_append.2 (.inl (i3 x e d hd))
    · rw [List.mem_singleton] at e; subst e; exact List.mem_append.2 (.inl (h3 d hd))
def Cnt (n : Int) (q : Int -> Int -> Prop) (opn : List Int) : Prop := (opn.length : Int) = n /\ ∀ u, 0 <= u -> u < n -> ∃ P : List Int, P.Nodup /\ (∀ x ∈ P, 0 <= x /\ x < n) /\ (∀ x, x ∈ P ↔ q u x) /\ rd opn u = P.length
theorem Cnt.zero {n : Int} {q : Int -> Int -> Prop} {opn : List Int} (h : Cnt n q opn) {u : Int} (h0 : 0 <= u) (h1 : u < n) : rd opn u = 0 ↔ ∀ x, ¬ q u x := by
 obtain ⟨P, _, _, p3, p4⟩ := h.2 u h0 h1
 rw [p4]
 constructor
 · intro h x hx
   have := List.length_pos_of_mem ((p3 x).2 hx)
   omega
 · intro h
   cases P with
   | nil => rfl
   | cons a P => exact absurd ((p3 a).1 (by simp)) (h a)
theorem Cnt.congr {n : Int} {q q' : Int -> Int -> Prop} {opn : List Int} (h : Cnt n q opn) (hq : ∀ u x, 0 <= u -> u < n -> (q' u x ↔ q u x)) : Cnt n q' opn :=
 ⟨h.1, fun u h0 h1 => by
  obtain ⟨P, p1, p2, p3, p4⟩ := h.2 u h0 h1
  exact ⟨P, p1, p2, fun x => by rw [p3, hq u x h0 h1], p4⟩⟩
theorem dec_run {es : List (List Int)} {cm : List Int} {n : Int} {ms : List (List Int)} (S : Sol es cm n) (hn : es.length < 1000000) (R : Rows es cm n ms) {D : List Int} {c : Int} (hcD : c ∉ D) (l : List Int) (hnd : l.Nodup)
 (hl : ∀ x, x ∈ l ↔ (0 <= x /\ x < n) /\ Dep es cm x c) :
 ∀ (m k i : Nat) (opn ready : List Int), i + m = l.length -> m < k -> Cnt n (fun u x => Dep es cm u x /\ x ∉ D /\ (x = c -> u ∉ l.take i)) opn ->
  Rdy ms n (fun x => x ∉ D /\ x ≠ c /\ ∀ d, Dep es cm x d -> d ∈ D \/ (d = c /\ x ∈ l.take i)) ready -> (∀ x ∈ l, x ∉ D) ->
  ∃ opn' ready', dec k ms l i opn ready = some (opn', ready') /\ Cnt n (fun u x => Dep es cm u x /\ x ∉ D ++ [c]) opn' /\ Rdy ms n (fun x => x ∉ D ++ [c] /\ ∀ d, Dep es cm x d -> d ∈ D ++ [c]) ready' := by
 intro m
 induction m with
 | zero =>
  intro k i opn ready hi hk hc hr hlD
  obtain ⟨k, rfl⟩ : ∃ m, k = m + 1 := ⟨k - 1, by omega⟩
  unfold dec
  rw [if_neg (by omega)]
  have ht : l.take i = l := List.take_of_length_le (by omega)
  rw [ht] at hc hr
  refine ⟨opn, ready, rfl, hc.congr (fun u x h0 h1 => ?_), hr.congr (fun x h0 h1 => ?_)⟩
  · simp only [List.mem_append, List.mem_singleton, not_or]
    constructor
    · rintro ⟨a, b, d⟩; exact ⟨a, b, fun e => absurd e d⟩
    · rintro ⟨a, b, d⟩
      refine ⟨a, b, fun e => ?_⟩
      subst e
      exact d rfl ((hl u).2 ⟨⟨h0, h1⟩, a⟩)
  · simp only [List.mem_append, List.mem_singleton, not_or]
    constructor
    · rintro ⟨⟨a, b⟩, d⟩
      refine ⟨a, b, fun e he => ?_⟩
      rcases d e he with h | h
      · exact .inl h
      · subst h; exact .inr ⟨rfl, (hl x).2 ⟨⟨h0, h1⟩, he⟩⟩
    · rintro ⟨a, b, d⟩
      refine ⟨⟨a, b⟩, fun e he => ?_⟩
      rcases d e he with h | h
      · exact .inl h
      · exact .inr h.1
 | succ m ih =>
  intro k i opn ready hi hk hc hr hlD
  obtain ⟨k, rfl⟩ : ∃ m, k = m + 1 := ⟨k - 1, by omega⟩
  have hil : i < l.length := by omega
  have hN := S.n0
  have hum : rd l i ∈ l := by rw [rd_at l i hil]; exact List.getElem_mem _
  obtain ⟨hu, hdep⟩ := (hl _).1 hum
  have htake : l.take (i + 1) = l.take i ++ [rd l i] := by rw [rd_at l i hil]; exact List.take_succ_eq_append_getElem hil
  have hnt : rd l i ∉ l.take i := by
   intro h
   have h2 : (l.take (i + 1)).Nodup := hnd.sublist (List.take_sublist _ _)
   rw [htake, List.nodup_append] at h2
   exact h2.2.2 _ h _ (by simp) rfl
  obtain ⟨P, p1, p2, p3, p4⟩ := hc.2 _ hu.1 hu.2
  have hlen := hc.1
  have hcP : c ∈ P := (p3 c).2 ⟨hdep, hcD, fun _ => hnt⟩
  have hPl : P.length <= n.toNat := nodup_le _ _ p1 (fun x hx => by have := p2 x hx; omega)
  have hP0 := List.length_pos_of_mem hcP
  generalize hud : rd l i = u at *
  have hw : wrap64 (rd opn u - 1) = rd opn u - 1 := w64 _ (by omega) (by omega)
  have hc2 : Cnt n (fun u x => Dep es cm u x /\ x ∉ D /\ (x = c -> u ∉ l.take (i + 1))) (opn.set u.toNat (wrap64 (rd opn u - 1))) := by
   refine ⟨by rw [List.length_set]; exact hlen, fun y h0 h1 => ?_⟩
   rw [hw, rd_set _ _ _ _ hu.1 (by omega) h0]
   by_cases e : y = u
   rotate_left
   · rw [if_neg e]
     obtain ⟨P', q1, q2, q3, q4⟩ := hc.2 y h0 h1
     refine ⟨P', q1, q2, fun x => ?_, q4⟩
     rw [q3, htake]
     simp only [List.mem_append, List.mem_singleton, e, or_false]
   subst e
   refine ⟨P.erase c, p1.erase _, fun x hx => p2 x (List.mem_of_mem_erase hx), fun x => ?_, ?_⟩
   · rw [p1.mem_erase_iff, p3, htake]
     simp only [List.mem_append, List.mem_singleton]
     constructor
     · rintro ⟨a, b, d, _⟩; exact ⟨b, d, fun e => absurd e a⟩
     · rintro ⟨a, b, d⟩
       refine ⟨fun e => d e (.inr trivial), a, b, fun e => absurd e (fun e => d e (.inr trivial))⟩
   · rw [if_pos rfl, List.length_erase_of_mem hcP]
     omega
  have hz := hc2.zero hu.1 hu.2
  unfold dec
  rw [if_pos (by omega), hud, if_pos ⟨hu.1, by omega⟩, show (i : Int) + 1 = ((i + 1 : Nat) : Int) by omega]
  by_cases h0 : rd (opn.set u.toNat (wrap64 (rd opn u - 1))) u = 0
  rotate_left
  · rw [if_neg h0]
    have hsome : ∃ x, Dep es cm u x /\ x ∉ D /\ x ≠ c := by
     refine Classical.byContradiction fun hno => h0 (hz.2 fun x hx => hno ⟨x, hx.1, hx.2.1, fun e => ?_⟩)
     exact hx.2.2 e (by rw [htake]; simp)
    refine ih k (i + 1) _ ready (by omega) (by omega) hc2 (hr.congr (fun x k0 k1 => ?_)) hlD
    rw [htake]
    constructor
    · rintro ⟨a, b, d⟩
      refine ⟨a, b, fun y hy => ?_⟩
      rcases d y hy with h | ⟨h, h2⟩
      · exact .inl h
      · rcases List.mem_append.1 h2 with h3 | h3
        · exact .inr ⟨h, h3⟩
        · rw [List.mem_singleton] at h3
          subst h3
          obtain ⟨z, z1, z2, z3⟩ := hsome
          rcases d z z1 with h4 | h4
          · exact absurd h4 z2
          · exact absurd h4.1 z3
    · rintro ⟨a, b, d⟩
      refine ⟨a, b, fun y hy => ?_⟩
      rcases d y hy with h | ⟨h, h2⟩
      · exact .inl h
      · exact .inr ⟨h, List.mem_append.2 (.inl h2)⟩
  rw [if_pos h0]
  have hnone := hz.1 h0
  obtain ⟨r, a1, a2⟩ := enter_rdy S hn R (c := u) (q := fun x => x ∉ D /\ x ≠ c /\ ∀ d, Dep es cm x d -> d ∈ D \/ (d = c /\ x ∈ l.take (i + 1))) hr hu.1 hu.2
   (fun h => by
    rcases h.2.2 c hdep with e | e
    · exact hcD e
    · exact hnt e.2)
   (fun x k0 k1 => by
    rw [htake]
    constructor
    · rintro ⟨a, b, d⟩
      by_cases e : x = u
      · exact .inl e
      refine .inr ⟨a, b, fun y hy => ?_⟩
      rcases d y hy with h | ⟨h, h2⟩
      · exact .inl h
      · rcases List.mem_append.1 h2 with h3 | h3
        · exact .inr ⟨h, h3⟩
        · exact absurd (List.mem_singleton.1 h3) e
    · rintro (e | ⟨a, b, d⟩)
      · subst e
        refine ⟨hlD x hum, fun e => hdep.1 e, fun y hy => ?_⟩
        by_cases e : y ∈ D
        · exact .inl e
        by_cases e2 : y = c
        · exact .inr ⟨e2, by simp⟩
        exact absurd ⟨hy, e, fun e3 => absurd e3 e2⟩ (hnone y)
      · refine ⟨a, b, fun y hy => ?_⟩
        rcases d y hy with h | ⟨h, h2⟩
        · exact .inl h
        · exact .inr ⟨h, List.mem_append.2 (.inl h2)⟩)
  rw [a1, Option.bind_some]
  exact ih k (i + 1) _ r (by omega) (by omega) hc2 a2 hlD
theorem dep_lt {es : List (List Int)} {cm : List Int} {n : Int} (S : Sol es cm n) (hvld : Vld es) {x d : Int} (h : Dep es cm x d) : 0 <= d /\ d < x := by
 obtain ⟨h1, v, hv, w, hw, rfl⟩ := h
 obtain ⟨a, b⟩ := mem_mem.1 hv
 rw [S.len] at a
 have h2 := S.back v a w hw
 have h3 := S.rng w (hvld v a w hw)
 omega
theorem ready_ex {es : List (List Int)} {cm : List Int} {n : Int} (S : Sol es cm n) (hvld : Vld es) (D : List Int) : ∀ (m : Nat) (x : Int), x = m -> x < n -> x ∉ D -> ∃ y, 0 <= y /\ y < n /\ y ∉ D /\ ∀ d, Dep es cm y d -> d ∈ D := by
 intro m
 induction m using Nat.strongRecOn with
 | ind m ih =>
  intro x hx hxn hxD
  by_cases h : ∀ d, Dep es cm x d -> d ∈ D
  · exact ⟨x, by omega, hxn, hxD, h⟩
  obtain ⟨d, hd⟩ := Classical.not_forall.1 h
  obtain ⟨h1, h2⟩ := Classical.not_imp.1 hd
  have := dep_lt S hvld h1
  exact ih d.toNat (by omega) d (by omega) (by omega) h2
theorem drain_run {es : List (List Int)} {cm : List Int} {n : Int} {ms users : List (List Int)} (S : Sol es cm n) (hn : es.length < 1000000) (R : Rows es cm n ms) (hvld : Vld es) (hul : (users.length : Int) = n)
 (hus : ∀ d, 0 <= d -> d < n -> (row users d).Nodup /\ ∀ x, x ∈ row users d ↔ (0 <= x /\ x < n) /\ Dep es cm x d) :
 ∀ (m k : Nat) (D opn ready : List Int), D.length + m = n.toNat -> m + n.toNat + 1 < k -> Seq es cm n ms D -> Cnt n (fun u x => Dep es cm u x /\ x ∉ D) opn -> Rdy ms n (fun x => x ∉ D /\ ∀ d, Dep es cm x d -> d ∈ D) ready ->
  ∃ D', Od.drain k ms users opn ready (D.map (row ms)) = some (D'.map (row ms)) /\ Seq es cm n ms D' /\ ∀ c, 0 <= c -> c < n -> c ∈ D' := by
 intro m
 induction m with
 | zero =>
  intro k D opn ready hm hk hD hc hr
  obtain ⟨k, rfl⟩ : ∃ m, k = m + 1 := ⟨k - 1, by omega⟩
  obtain ⟨d1, d2, d3⟩ := hD.rng
  have hall : ∀ c, 0 <= c -> c < n -> c ∈ D := by
   intro c h0 h1
   refine Classical.byContradiction fun hcD => ?_
   have := nodup_le n.toNat (c :: D) (List.nodup_cons.2 ⟨hcD, d1⟩) (fun x hx => by
    rcases List.mem_cons.1 hx with e | e
    · omega
    · have := d2 x e; omega)
   simp at this
   omega
  have hr0 : ready = [] := by
   cases ready with
   | nil => rfl
   | cons a l =>
    obtain ⟨⟨h0, h1⟩, h2, _⟩ := (hr.mem a).1 (by simp)
    exact absurd (hall a h0 h1) h2
  subst hr0
  refine ⟨D, ?_, hD, hall⟩
  unfold Od.drain
  rw [if_neg (by simp)]
 | succ m ih =>
  intro k D opn ready hm hk hD hc hr
  obtain ⟨k, rfl⟩ : ∃ m, k = m + 1 := ⟨k - 1, by omega⟩
  obtain ⟨d1, d2, d3⟩ := hD.rng
  have hN := S.n0
  have hml := R.len
  cases ready with
  | nil =>
   refine ⟨D, by unfold Od.drain; rw [if_neg (by simp)], hD, fun c h0 h1 => ?_⟩
   refine Classical.byContradiction fun hcD => ?_
   obtain ⟨y, y0, y1, y2, y3⟩ := ready_ex S hvld D c.toNat c (by omega) h1 hcD
   have := (hr.mem y).2 ⟨⟨y0, y1⟩, y2, y3⟩
   cases this
  | cons c rest =>
   obtain ⟨⟨c0, c1⟩, c2, c3⟩ := (hr.mem c).1 (by simp)
   obtain ⟨s1, s2⟩ := List.pairwise_cons.1 hr.srt
   have hu := hus c c0 c1
   have hul2 := nodup_le n.toNat _ hu.1 (fun x hx => by have := ((hu.2 x).1 hx).1; omega)
   have hnc : ∀ x ∈ row users c, x ∉ D := by
    intro x hx hxD
    exact c2 (d3 x hxD c ((hu.2 x).1 hx).2)
   have hrest : Rdy ms n (fun x => x ∉ D /\ x ≠ c /\ ∀ d, Dep es cm x d -> d ∈ D \/ (d = c /\ x ∈ (row users c).take 0)) rest := by
    refine ⟨fun x => ?_, s2⟩
    constructor
    · intro hx
      obtain ⟨a, b, d⟩ := (hr.mem x).1 (List.mem_cons.2 (.inr hx))
      refine ⟨a, b, fun e => ?_, fun y hy => .inl (d y hy)⟩
      subst e
      have := s1 x hx
      omega
    · rintro ⟨a, b, e, d⟩
      rcases List.mem_cons.1 ((hr.mem x).2 ⟨a, b, fun y hy => by
       rcases d y hy with h | h
       · exact h
       · have := h.2; simp at this⟩) with h | h
      · exact absurd h e
      · exact h
   obtain ⟨opn', ready', e1, e2, e3⟩ := dec_run S hn R c2 (row users c) hu.1 hu.2 (row users c).length k 0 opn rest (by omega) (by omega)
    (hc.congr (fun u x _ _ => by simp)) hrest hnc
   have hseq : Seq es cm n ms (D ++ [c]) := by
    refine .snoc hD c0 c1 c2 c3 fun x h0 h1 h2 h3 => ?_
    rcases List.mem_cons.1 ((hr.mem x).2 ⟨⟨h0, h1⟩, h2, h3⟩) with e | e
    · rw [e]; exact Int.le_refl _
    · exact Int.le_of_lt (s1 x e)
   obtain ⟨D', f1, f2, f3⟩ := ih k (D ++ [c]) opn' ready' (by simp; omega) (by omega) hseq e2 e3
   refine ⟨D', ?_, f2, f3⟩
   unfold Od.drain
   have hrd : rd (c :: rest) 0 = c := rfl
   rw [if_pos (by simp), hrd, if_pos ⟨c0, by omega, by omega, by simp; omega⟩]
   show (dec k ms (row users c) ((0 : Nat) : Int) opn rest).bind _ = _
   rw [e1, Option.bind_some]
   rw [List.map_append] at f1
   exact f1
theorem ordered_run {es : List (List Int)} (hvld : Vld es) {L : Nat} (hL : ∀ v, (row es v).length <= L) (hn : es.length < 1000000) (k : Nat) (hk : es.length * (L + 2) + 3 * es.length + L + 9 <= k) :
 ∃ cm n ms D, Sol es cm n /\ Rows es cm n ms /\ orderedF k es = some (D.map (row ms)) /\ Seq es cm n ms D /\ ∀ c, 0 <= c -> c < n -> c ∈ D := by
 obtain ⟨cm, n, h1, S⟩ := strong_sol hvld hL hn k (by omega)
 have hN := S.n0
 have hlen := S.len
 obtain ⟨ms, g1, g2, g3⟩ := grp_run S hn cm.length k 0 (List.replicate n.toNat []) (by omega) (by omega) (by simp; omega) (fun c h0 h1 => by rw [row_rep]; rfl)
 have R : Rows es cm n ms := ⟨g2, g3⟩
 obtain ⟨u, u1, u2⟩ := ed1_run hvld S hn hL g2 g3 ms.length k 0 { opn := List.replicate n.toNat 0, users := List.replicate n.toNat [], seen := [] } (by omega) (by omega)
  ⟨by simp; omega, by simp; omega, fun d h0 h1 => by omega, fun d _ => rd_rep0 _ _, fun d h0 h1 => by rw [row_rep]; simp; omega⟩
 have hcnt : Cnt n (fun u x => Dep es cm u x) u.opn := ⟨u2.lo, fun d h0 h1 => by
  obtain ⟨P, p1, p2, p3⟩ := u2.dn d h0 h1
  exact ⟨P, p1, fun x hx => by have := dep_lt S hvld ((p2 x).1 hx); omega, p2, p3⟩⟩
 obtain ⟨ready, r1, r2⟩ := starts_run S hn R u.opn u2.lo n.toNat k 0 [] (by omega) (by omega) ⟨fun x => by simp; omega, List.Pairwise.nil⟩
 obtain ⟨D, d1, d2, d3⟩ := drain_run S hn R hvld u2.lu u2.us n.toNat k [] u.opn ready (by simp) (by omega) .nil (hcnt.congr (fun _ _ _ _ => by simp)) (r2.congr (fun x h0 h1 => by rw [hcnt.zero h0 h1]; simp))
 refine ⟨cm, n, ms, D, S, R, ?_, d2, d3⟩
 unfold orderedF
 rw [h1, Option.bind_some]
 show (if 0 <= n /\ n < 5864062014805 then _ else none) = _
 rw [if_pos (by omega)]
 show (grp k cm ((0 : Nat) : Int) _).bind _ = _
 rw [g1, Option.bind_some]
 show (ed1 k es cm ms ((0 : Nat) : Int) _).bind _ = _
 rw [u1, Option.bind_some]
 show (starts k ms n ((0 : Nat) : Int) u.opn []).bind _ = _
 rw [r1, Option.bind_some]
 exact d1
end Tp
end Go.Proofs.Ytmadhaccjmakdaa
namespace Go.Proofs.Ytmadhaccjmakdaa
open Go.RowKit Go.Proofs.Yw.A Go.Proofs.Yw.B Go.Proofs.Yw.C Go.Proofs.Ytmadhaccjmakdaa.P
namespace Tp
open Tj Rw Od
theorem succ_cast (i : Nat) (h : i < 1000000000) : wrap64 ((i : Int) + 1) = ((i + 1 : Nat) : Int) := by
 rw [w64 _ (by omega) (by omega)]
 omega
theorem L1_row (l : List (List Int)) (i : Int) : rd_L11 l i = row l i := rfl
theorem row_in (l : List (List Int)) (i : Nat) (h : i < l.length) : row l (i : Int) ∈ l := by
 rw [row_mem l i h]
 exact List.getElem_mem _
def Sm (l : List (List Int)) : Prop := l.length <= 60 /\ ∀ j : Nat, j < l.length -> (row l j).length <= 2000
theorem Sm.row {l : List (List Int)} (h : Sm l) (v : Int) : (row l v).length <= 2000 := by
 by_cases hv : v.toNat < l.length
 rotate_left
 · unfold Tj.row
   rw [List.getD_eq_getElem?_getD, List.getElem?_eq_none (by omega)]
   simp
 have := h.2 v.toNat hv
 unfold Tj.row at *
 rw [Int.toNat_natCast] at this
 exact this
def okn (n : Nat) (w : Int) : Bool := decide (0 <= w) && decide (w < n)
def vldB (l : List (List Int)) : Bool := l.all fun r => r.all (okn l.length)
theorem vldB_iff (l : List (List Int)) : vldB l = true ↔ Vld l := by
 unfold vldB Vld nd
 rw [List.all_eq_true]
 constructor
 · intro h v hv w hw
   obtain ⟨i, rfl⟩ := Int.eq_ofNat_of_zero_le hv.1
   have := List.all_eq_true.1 (h _ (row_in l i (by omega))) w hw
   simpa [okn] using this
 · intro h r hr
   obtain ⟨i, hi, rfl⟩ := List.mem_iff_getElem.1 hr
   rw [List.all_eq_true]
   intro w hw
   rw [<- row_mem l i hi] at hw
   have := h i ⟨by omega, by omega⟩ w hw
   simpa [okn] using this
theorem drop_row (r : List Int) (j : Nat) (hj : j < r.length) : r.drop j = rd r j :: r.drop (j + 1) := by
 rw [rd_at r j hj]
 exact List.drop_eq_getElem_cons hj
theorem drop_rows (l : List (List Int)) (i : Nat) (hi : i < l.length) : l.drop i = row l i :: l.drop (i + 1) := by
 rw [row_mem l i hi]
 exact List.drop_eq_getElem_cons hi
theorem gv_in (l : List (List Int)) (hs : Sm l) (i : Nat) (hi : i < l.length) (ih : ∀ i' : Nat, i' = i + 1 -> Ev (fun k => g_valid.l0 k l (l.length : Int) (i' : Int) l) ((l.drop i').all fun r => r.all (okn l.length))) : ∀ (m j : Nat), j + m = (row l i).length ->
 Ev (fun k => g_valid.l1 k l (l.length : Int) i (row l i) ((row l i).length : Int) j l) (((row l i).drop j).all (okn l.length) && (l.drop (i + 1)).all fun r => r.all (okn l.length)) := by
 have hrl := hs.2 i hi
 have hl := hs.1
 intro m
 induction m with
 | zero =>
  intro j hj
  refine Ev.step (fun k => ?_) (by rw [List.drop_eq_nil_of_le (by omega), List.all_nil, Bool.true_and]; exact ih _ rfl)
  simp only [g_valid.l1]
  (try rw [L1_row])
  rw [if_neg (by omega), succ_cast i (by omega)]
 | succ m ihm =>
  intro j hj
  have hjl : j < (row l i).length := by omega
  rw [drop_row _ j hjl, List.all_cons]
  by_cases hw : okn l.length (rd (row l i) j) = true
  · rw [hw, Bool.true_and]
    have hw2 : 0 <= rd (row l i) j /\ rd (row l i) j < l.length := by simpa [okn] using hw
    refine Ev.step (fun k => ?_) (ihm (j + 1) (by omega))
    simp only [g_valid.l1]
    (try rw [L1_row])
    rw [if_pos (by omega), if_pos (by omega), if_pos (by omega), if_neg (by omega), if_neg (by omega), succ_cast j (by omega)]
  have hf : okn l.length (rd (row l i) j) = false := by simpa using hw
  rw [hf, Bool.false_and, Bool.false_and]
  have hw2 : ¬ (0 <= rd (row l i) j /\ rd (row l i) j < l.length) := by simpa [okn] using hw
  refine Ev.step (fun k => ?_) (Ev.now _)
  simp only [g_valid.l1]
  (try rw [L1_row])
  rw [if_pos (by omega), if_pos (by omega), if_pos (by omega)]
  by_cases h0 : rd (row l i) j < 0
  · rw [if_pos h0]
  rw [if_neg h0, if_pos (by omega)]
theorem gv_out (l : List (List Int)) (hs : Sm l) : ∀ (m i : Nat), i + m = l.length -> Ev (fun k => g_valid.l0 k l (l.length : Int) i l) ((l.drop i).all fun r => r.all (okn l.length)) := by
 have hl := hs.1
 intro m
 induction m with
 | zero =>
  intro i hi
  rw [List.drop_eq_nil_of_le (by omega)]
  refine Ev.step (fun k => ?_) (Ev.now _)
  simp only [g_valid.l0]
  rw [if_neg (by omega)]
  rfl
 | succ m ih =>
  intro i hi
  have hil : i < l.length := by omega
  have h := gv_in l hs i hil (fun i' e => ih i' (by omega)) (row l i).length 0 (by omega)
  rw [drop_rows l i hil, List.all_cons]
  refine Ev.step (fun k => ?_) h
  simp only [g_valid.l0, L1_row]
  rw [if_pos (by omega), if_pos (by omega), if_pos (by omega)]
  rfl
theorem gv_ev (l : List (List Int)) (hs : Sm l) : Ev (fun k => g_valid.f k l) (vldB l) := gv_out l hs l.length 0 (by omega)
end Tp
end Go.Proofs.Ytmadhaccjmakdaa
namespace Go.Proofs.Ytmadhaccjmakdaa
open Go.RowKit Go.Proofs.Yw.A Go.Proofs.Yw.B Go.Proofs.Yw.C Go.Proofs.Ytmadhaccjmakdaa.P
namespace Tp
open Tj Rw Od
open Classical
theorem rdOf_set (l : List Bool) (u v : Int) (hu : 0 <= u) (hl : u < l.length) (hv : 0 <= v) : rdOf false (l.set u.toNat true) v = if v = u then true else rdOf false l v := by
 unfold rdOf
 rw [List.getD_eq_getElem?_getD, List.getElem?_set, List.getD_eq_getElem?_getD]
 by_cases h : v = u
 rotate_left
 · rw [if_neg (by omega), if_neg h]
 subst h
 rw [if_pos rfl, if_pos (by omega), if_pos rfl]
 rfl
theorem rdOf_at (l : List Bool) (i : Nat) (h : i < l.length) : rdOf false l (i : Int) = l[i] := by
 unfold rdOf
 rw [Int.toNat_natCast, List.getD_eq_getElem?_getD, List.getElem?_eq_getElem h]
 rfl
theorem count_setB (l : List Bool) (u : Int) (hu : 0 <= u) (hl : u < l.length) (h0 : rdOf false l u = false) : (l.set u.toNat true).count false + 1 = l.count false := by
 obtain ⟨i, rfl⟩ := Int.eq_ofNat_of_zero_le hu
 rw [rdOf_at l i (by omega)] at h0
 have hi : i < l.length := by omega
 have h1 : 0 < l.count false := List.count_pos_iff.2 (h0 ▸ List.getElem_mem hi)
 show (l.set i true).count false + 1 = l.count false
 rw [List.count_set hi]
 simp [h0]
 omega
theorem meas {c c' t y r M : Nat} (h : c' + 1 = c) (h1 : c * 2001 + t <= M + 1) (h2 : y + 1 = t) (h3 : r <= 2000) : c' * 2001 + (y + r) <= M := by
 rw [<- h, Nat.add_mul, Nat.one_mul] at h1
 generalize c' * 2001 = q at h1 ⊢
 omega
noncomputable def rch (l : List (List Int)) (starts : List Int) : List Bool := (iota l.length).map fun v => decide (∃ s ∈ starts, Rc l s v)
theorem rch_len (l : List (List Int)) (starts : List Int) : (rch l starts).length = l.length := by simp [rch, iota_length]
theorem rch_at (l : List (List Int)) (starts : List Int) (v : Int) (h : nd l v) : rdOf false (rch l starts) v = decide (∃ s ∈ starts, Rc l s v) := by
 obtain ⟨i, rfl⟩ := Int.eq_ofNat_of_zero_le h.1
 have hi : i < l.length := by have := h.2; omega
 rw [rdOf_at _ i (by rw [rch_len]; exact hi)]
 simp [rch, iota]
theorem rc_nd {l : List (List Int)} (hv : Vld l) {a b : Int} (h : Rc l a b) (ha : nd l a) : nd l b := by
 induction h with
 | refl => exact ha
 | tail _ h2 ih => exact hv _ ih _ h2
theorem rch_eq {l : List (List Int)} (hv : Vld l) {starts : List Int} (hst : ∀ s ∈ starts, nd l s) {seen : List Bool} (hlen : seen.length = l.length) (hs : ∀ v, nd l v -> rdOf false seen v = true -> ∃ s ∈ starts, Rc l s v)
 (hc : ∀ v, nd l v -> rdOf false seen v = true -> ∀ w ∈ row l v, rdOf false seen w = true) (h0 : ∀ s ∈ starts, rdOf false seen s = true) : seen = rch l starts := by
 refine List.ext_getElem (by rw [rch_len, hlen]) fun i h1 h2 => ?_
 have hnd : nd l (i : Int) := ⟨by omega, by omega⟩
 rw [<- rdOf_at seen i h1, <- rdOf_at _ i h2, rch_at l starts i hnd]
 by_cases h : ∃ s ∈ starts, Rc l s i
 rotate_left
 · rw [decide_eq_false h]
   exact Bool.eq_false_iff.2 fun e => h (hs _ hnd e)
 rw [decide_eq_true h]
 obtain ⟨s, hsm, hr⟩ := h
 have key : ∀ b, Rc l s b -> nd l b /\ rdOf false seen b = true := by
  intro b hb
  induction hb with
  | refl => exact ⟨hst s hsm, h0 s hsm⟩
  | tail _ h2 ih => exact ⟨hv _ ih.1 _ h2, hc _ ih.1 ih.2 _ h2⟩
 exact (key _ hr).2
noncomputable def rchL (l : List (List Int)) (starts : List Int) : List Int := (iota l.length).filter fun v => decide (∃ s ∈ starts, Rc l s v)
theorem mem_rchL {l : List (List Int)} {starts : List Int} {x : Int} : x ∈ rchL l starts ↔ nd l x /\ ∃ s ∈ starts, Rc l s x := by
 unfold rchL nd
 rw [List.mem_filter, mem_iota]
 simp
theorem last_take (todo : List Int) (h : 0 < todo.length) : rd todo ((todo.length : Int) - 1) ∈ todo /\ todo = todo.take (todo.length - 1) ++ [rd todo ((todo.length : Int) - 1)] := by
 rw [show ((todo.length : Int) - 1) = ((todo.length - 1 : Nat) : Int) by omega, rd_at _ _ (by omega)]
 refine ⟨List.getElem_mem _, ?_⟩
 rw [<- List.take_succ_eq_append_getElem (by omega), List.take_of_length_le (by omega)]
theorem gr_loop {l : List (List Int)} (hv : Vld l) (hsm : Sm l) {starts : List Int} (hst : ∀ s ∈ starts, nd l s) : ∀ (M : Nat) (seen : List Bool) (todo : List Int), seen.count false * 2001 + todo.length <= M -> M <= 1000000 -> seen.length = l.length -> (∀ v ∈ todo, nd l v) ->
 (∀ v, nd l v -> rdOf false seen v = true -> ∃ s ∈ starts, Rc l s v) -> (∀ v ∈ todo, ∃ s ∈ starts, Rc l s v) -> (∀ v, nd l v -> rdOf false seen v = true -> ∀ w ∈ row l v, rdOf false seen w = true \/ w ∈ todo) -> (∀ s ∈ starts, rdOf false seen s = true \/ s ∈ todo) ->
 Ev (fun k => g_reached.l0 k l seen todo) (rch l starts) := by
 have done : ∀ (seen : List Bool), seen.length = l.length -> (∀ v, nd l v -> rdOf false seen v = true -> ∃ s ∈ starts, Rc l s v) -> (∀ v, nd l v -> rdOf false seen v = true -> ∀ w ∈ row l v, rdOf false seen w = true \/ w ∈ ([] : List Int)) -> (∀ s ∈ starts, rdOf false seen s = true \/ s ∈ ([] : List Int)) ->
  Ev (fun k => g_reached.l0 k l seen ([] : List Int)) (rch l starts) := by
  intro seen h1 h2 h3 h4
  have he := rch_eq hv hst h1 h2 (fun v a b w c => by simpa using h3 v a b w c) (fun s a => by simpa using h4 s a)
  refine Ev.step (fun k => ?_) (Ev.now _)
  simp only [g_reached.l0]
  rw [if_neg (by simp)]
  rw [<- he]
 intro M
 induction M with
 | zero =>
  intro seen todo hM hM2 hlen htd h1 h2 h3 h4
  obtain rfl : todo = [] := List.eq_nil_of_length_eq_zero (by omega)
  exact done seen hlen h1 h3 h4
 | succ M ih =>
  intro seen todo hM hM2 hlen htd h1 h2 h3 h4
  by_cases h0 : 0 < todo.length
  case neg =>
   obtain rfl : todo = [] := List.eq_nil_of_length_eq_zero (by omega)
   exact done seen hlen h1 h3 h4
  obtain ⟨hvm, htt⟩ := last_take todo h0
  have hw : wrap64 ((todo.length : Int) - 1) = (todo.length : Int) - 1 := w64 _ (by omega) (by omega)
  have htn : ((todo.length : Int) - 1).toNat = todo.length - 1 := by omega
  have hnv := htd _ hvm
  have hrv := h2 _ hvm
  generalize hvd : rd todo ((todo.length : Int) - 1) = v at *
  have hyl : (todo.take (todo.length - 1)).length = todo.length - 1 := by simp
  have hym : ∀ x, x ∈ todo ↔ x ∈ todo.take (todo.length - 1) \/ x = v := fun x => by
   constructor
   · intro h
     rw [htt] at h
     rcases List.mem_append.1 h with e | e
     · exact .inl e
     · exact .inr (List.mem_singleton.1 e)
   · rintro (h | h)
     · exact List.mem_of_mem_take h
     · rw [h]; exact hvm
  generalize htk : todo.take (todo.length - 1) = y at *
  by_cases hsv : rdOf false seen v = true
  · refine Ev.step (fun k => ?_) (ih seen y (by omega) (by omega) hlen (fun x hx => htd x ((hym x).2 (.inl hx))) h1 (fun x hx => h2 x ((hym x).2 (.inl hx))) (fun x a b w c => ?_) (fun s a => ?_))
    · simp only [g_reached.l0]
      rw [if_pos (by omega), hw, htn, htk, hvd]
      simp only [Option.bind_some]
      rw [if_pos (show 0 <= (todo.length : Int) - 1 by omega), if_pos (show (todo.length : Int) - 1 < todo.length by omega), if_pos (show (todo.length : Int) - 1 <= todo.length by omega), if_pos hnv.1, if_pos (show v < (seen.length : Int) by have := hnv.2; omega), if_pos hsv]
    · rcases h3 x a b w c with e | e
      · exact .inl e
      · rcases (hym w).1 e with e | e
        · exact .inr e
        · rw [e]; exact .inl hsv
    · rcases h4 s a with e | e
      · exact .inl e
      · rcases (hym s).1 e with e | e
        · exact .inr e
        · rw [e]; exact .inl hsv
  have hsf : rdOf false seen v = false := by simpa using hsv
  have hct := count_setB seen v hnv.1 (by have := hnv.2; omega) hsf
  have hrl := hsm.row v
  have hset : ∀ u, 0 <= u -> rdOf false (seen.set v.toNat true) u = if u = v then true else rdOf false seen u := fun u hu => rdOf_set seen v u hnv.1 (by have := hnv.2; omega) hu
  refine Ev.step (fun k => ?_) (ih (seen.set v.toNat true) (y ++ row l v) (by rw [List.length_append]; exact meas hct hM (by omega) hrl) (by omega) (by rw [List.length_set]; exact hlen) (fun x hx => ?_) (fun x a b => ?_) (fun x hx => ?_) (fun x a b w c => ?_) (fun s a => ?_))
  · simp only [g_reached.l0]
    rw [if_pos (by omega), hw, htn, htk, hvd]
    simp only [Option.bind_some]
    rw [L1_row]
    rw [if_pos (show 0 <= (todo.length : Int) - 1 by omega), if_pos (show (todo.length : Int) - 1 < todo.length by omega), if_pos (show (todo.length : Int) - 1 <= todo.length by omega), if_pos hnv.1, if_pos (show v < (seen.length : Int) by have := hnv.2; omega), if_neg hsv, if_pos (show v < (l.length : Int) from hnv.2), if_pos (by omega)]
  · rcases List.mem_append.1 hx with e | e
    · exact htd x ((hym x).2 (.inl e))
    · exact hv v hnv x e
  · rw [hset x a.1] at b
    by_cases e : x = v
    · rw [e]; exact hrv
    rw [if_neg e] at b; exact h1 x a b
  · rcases List.mem_append.1 hx with e | e
    · exact h2 x ((hym x).2 (.inl e))
    · obtain ⟨s, s1, s2⟩ := hrv
      exact ⟨s, s1, s2.tail e⟩
  · have hwn := hv x a w c
    rw [hset x a.1] at b
    rw [hset w hwn.1]
    by_cases e : x = v
    · subst e
      exact .inr (List.mem_append.2 (.inr c))
    rw [if_neg e] at b
    by_cases e2 : w = v
    · rw [if_pos e2]; exact .inl rfl
    rw [if_neg e2]
    rcases h3 x a b w c with e3 | e3
    · exact .inl e3
    · rcases (hym w).1 e3 with e4 | e4
      · exact .inr (List.mem_append.2 (.inl e4))
      · exact absurd e4 e2
  · rw [hset s (hst s a).1]
    by_cases e2 : s = v
    · rw [if_pos e2]; exact .inl rfl
    rw [if_neg e2]
    rcases h4 s a with e3 | e3
    · exact .inl e3
    · rcases (hym s).1 e3 with e4 | e4
      · exact .inr (List.mem_append.2 (.inl e4))
      · exact absurd e4 e2
theorem gr_start {l : List (List Int)} (hv : Vld l) (hsm : Sm l) {starts : List Int} (hst : ∀ s ∈ starts, nd l s) (hsl : starts.length <= 2000) : Ev (fun k => g_reached.l0 k l (List.replicate l.length false) starts) (rch l starts) := by
 have h60 := hsm.1
 have hr : ∀ v, nd l v -> rdOf false (List.replicate l.length false) v = false := by
  intro v h
  obtain ⟨i, rfl⟩ := Int.eq_ofNat_of_zero_le h.1
  rw [rdOf_at _ i (by simp; have := h.2; omega)]
  simp
 refine gr_loop hv hsm hst 122060 _ _ ?_ (by omega) (by simp) hst (fun v a b => by rw [hr v a] at b; cases b) (fun v a => ⟨v, a, .refl v⟩) (fun v a b => by rw [hr v a] at b; cases b) (fun s a => .inr a)
 simp only [List.count_replicate_self]
 omega
theorem gr_ev {l : List (List Int)} (hv : Vld l) (hsm : Sm l) {starts : List Int} (hst : ∀ s ∈ starts, nd l s) (hsl : starts.length <= 2000) : Ev (fun k => g_reached.f k l starts) (rch l starts) := by
 have h60 := hsm.1
 refine Ev.congr (fun k => ?_) (gr_start hv hsm hst hsl)
 unfold g_reached.f slices_Clone_int.f
 rw [if_pos (by omega), if_pos (by omega), if_pos (by omega), Option.bind_some, Int.toNat_natCast]
theorem filt_snoc (p : Int -> Bool) (i : Nat) : (iota (i + 1)).filter p = (iota i).filter p ++ (if p i = true then [(i : Int)] else []) := by
 rw [iota_succ, List.filter_append]
 by_cases h : p i = true <;> simp [h]
theorem filt_len (p : Int -> Bool) (i : Nat) : ((iota i).filter p).length <= i := Nat.le_trans (List.length_filter_le _ _) (by rw [iota_length]; exact Nat.le_refl _)
theorem gc_ev (seen : List Bool) (hl : seen.length < 1000000) : Ev (fun k => g_Reach.l0 k ([] : List Int) seen (seen.length : Int) 0) ((iota seen.length).filter (rdOf false seen)) := by
 have key : ∀ (m i : Nat), i + m = seen.length -> Ev (fun k => g_Reach.l0 k ((iota i).filter (rdOf false seen)) seen (seen.length : Int) i) ((iota seen.length).filter (rdOf false seen)) := by
  intro m
  induction m with
  | zero =>
   intro i hi
   obtain rfl : i = seen.length := by omega
   refine Ev.step (fun k => ?_) (Ev.now _)
   simp only [g_Reach.l0]
   rw [if_neg (by omega)]
  | succ m ih =>
   intro i hi
   have h := ih (i + 1) (by omega)
   have hlen := filt_len (rdOf false seen) i
   rw [filt_snoc] at h
   refine Ev.step (fun k => ?_) h
   simp only [g_Reach.l0]
   rw [if_pos (by omega), if_pos (by omega), if_pos (by omega), succ_cast i (by omega)]
   by_cases hp : rdOf false seen i = true
   rotate_left
   · rw [if_neg hp, if_neg hp, List.append_nil]
   rw [if_pos hp, if_pos hp, if_pos (by omega)]
 exact key seen.length 0 (by omega)
theorem rchL_eq (l : List (List Int)) (starts : List Int) : (iota (rch l starts).length).filter (rdOf false (rch l starts)) = rchL l starts := by
 rw [rch_len]
 unfold rchL
 refine List.filter_congr fun x hx => ?_
 rw [mem_iota] at hx
 exact rch_at l starts x hx
noncomputable def reachM (l : List (List Int)) (i : Int) : List Int := if Vld l /\ nd l i then rchL l [i] else []
theorem reach_ev {l : List (List Int)} (hsm : Sm l) (i : Int) : Ev (fun k => g_Reach.f k l i) (reachM l i) := by
 have h60 := hsm.1
 have hb := gv_ev l hsm
 have hnil : Ev (fun k => g_Reach.j0 k i true l) [] := Ev.step (fun k => by simp only [g_Reach.j0]; rw [if_pos trivial]) (Ev.now _)
 by_cases hv : Vld l
 rotate_left
 · have hf : vldB l = false := Bool.eq_false_iff.2 fun e => hv ((vldB_iff l).1 e)
   rw [hf] at hb
   have hm : reachM l i = [] := by unfold reachM; rw [if_neg (fun h => hv h.1)]
   rw [hm]
   refine Ev.congr (fun k => ?_) (Ev.bind hb (f := fun k t => if t = true then (if i < 0 then g_Reach.j0 k i true l else g_Reach.j0 k i (decide (i >= (l.length : Int))) l) else g_Reach.j0 k i true l) hnil)
   unfold g_Reach.f
   rfl
 rw [(vldB_iff l).2 hv] at hb
 by_cases hi : nd l i
 rotate_left
 · have hm : reachM l i = [] := by unfold reachM; rw [if_neg (fun h => hi h.2)]
   rw [hm]
   refine Ev.congr (fun k => ?_) (Ev.bind hb (f := fun k t => g_Reach.j0 k i true l) hnil)
   unfold g_Reach.f
   congr 1
   funext t
   by_cases h0 : i < 0
   · rw [if_pos h0]; split <;> rfl
   have h4 : decide (i >= (l.length : Int)) = true := decide_eq_true (by unfold nd at hi; omega)
   rw [if_neg h0, h4]; split <;> rfl
 have hm : reachM l i = rchL l [i] := by unfold reachM; rw [if_pos ⟨hv, hi⟩]
 rw [hm]
 have h1 := gr_ev hv hsm (starts := [i]) (fun s hs => by rw [List.mem_singleton.1 hs]; exact hi) (by simp)
 have h2 := gc_ev (rch l [i]) (by rw [rch_len]; omega)
 rw [rchL_eq] at h2
 have h3 : Ev (fun k => g_Reach.j0 k i false l) (rchL l [i]) := Ev.step (fun k => by simp only [g_Reach.j0]; rw [if_neg (by simp)]) (Ev.bind h1 (f := fun k t => g_Reach.l0 k ([] : List Int) t (t.length : Int) 0) h2)
 refine Ev.congr (fun k => ?_) (Ev.bind hb (f := fun k t => if t = true then g_Reach.j0 k i false l else g_Reach.j0 k i true l) h3)
 unfold g_Reach.f
 have h4 : decide (i >= (l.length : Int)) = false := decide_eq_false (by have := hi.2; omega)
 rw [h4, if_neg (show ¬ i < 0 by have := hi.1; omega)]
theorem reachM_eq' {l : List (List Int)} {i : Int} (hv : Vld l) (hi : nd l i) : reachM l i = rchL l [i] := by
 unfold reachM
 rw [if_pos ⟨hv, hi⟩]
theorem nodup_sub : ∀ (a b : List Int), a.Nodup -> (∀ x ∈ a, x ∈ b) -> a.length <= b.length := by
 intro a
 induction a with
 | nil => intro b _ _; exact Nat.zero_le _
 | cons x a ih =>
  intro b hd h
  obtain ⟨h1, h2⟩ := List.nodup_cons.1 hd
  have hx := h x (by simp)
  have := ih (b.erase x) h2 (fun y hy => by
   have hne : y ≠ x := by rintro rfl; exact h1 hy
   exact (List.mem_erase_of_ne hne).2 (h y (by simp [hy])))
  rw [List.length_erase_of_mem hx] at this
  have := List.length_pos_of_mem hx
  rw [List.length_cons]
  omega
noncomputable def scc (es : List (List Int)) (m : Int) : List Int := (iota es.length).filter fun x => decide (Rc es m x /\ Rc es x m)
theorem mem_scc {es : List (List Int)} {m x : Int} : x ∈ scc es m ↔ nd es x /\ Rc es m x /\ Rc es x m := by
 unfold scc nd
 rw [List.mem_filter, mem_iota]
 simp
theorem scc_lt (es : List (List Int)) (m : Int) : (scc es m).Pairwise (· < ·) := (iota_lt _).filter _
def Ready (es : List (List Int)) (o : List (List Int)) (m : Int) : Prop := ∀ x, Rc es m x -> x ∈ o.flatten \/ Rc es x m
def Next (es : List (List Int)) (o : List (List Int)) (c : List Int) : Prop :=
 ∃ m, nd es m /\ m ∉ o.flatten /\ Ready es o m /\ (∀ x, nd es x -> x ∉ o.flatten -> Ready es o x -> m <= x) /\ c = scc es m
inductive Kahn (es : List (List Int)) : List (List Int) -> Prop
 | nil : Kahn es []
 | snoc {o : List (List Int)} {c : List Int} : Kahn es o -> Next es o c -> Kahn es (o ++ [c])
def Full (es : List (List Int)) (o : List (List Int)) : Prop := Kahn es o /\ ∀ v, nd es v -> v ∈ o.flatten
theorem next_unique {es o : List (List Int)} {c d : List Int} (h : Next es o c) (k : Next es o d) : c = d := by
 obtain ⟨m, m1, m2, m3, m4, rfl⟩ := h
 obtain ⟨x, x1, x2, x3, x4, rfl⟩ := k
 have h1 := m4 x x1 x2 x3
 have h2 := x4 m m1 m2 m3
 have : m = x := by omega
 rw [this]
theorem kahn_next {es o : List (List Int)} (h : Kahn es o) : ∀ i (hi : i < o.length), Next es (o.take i) o[i] := by
 induction h with
 | nil => intro i hi; cases hi
 | @snoc o c h1 h2 ih =>
  intro i hi
  rw [List.length_append, List.length_singleton] at hi
  by_cases e : i < o.length
  · rw [List.take_append_of_le_length (by omega), List.getElem_append_left e]
    exact ih i e
  have : i = o.length := by omega
  subst this
  simp only [List.take_left, List.getElem_concat_length]
  exact h2
theorem kahn_prefix {es o : List (List Int)} (h : Kahn es o) : ∀ o', Kahn es o' -> o.length <= o'.length -> o = o'.take o.length := by
 induction h with
 | nil => intro o' _ _; simp
 | @snoc o c h1 h2 ih =>
  intro o' ho hl
  rw [List.length_append, List.length_singleton] at hl ⊢
  have e := ih o' ho (by omega)
  have hn := kahn_next ho o.length (by omega)
  rw [<- e] at hn
  rw [List.take_succ_eq_append_getElem (by omega), <- e, next_unique h2 hn]
theorem full_unique {es o o' : List (List Int)} (h : Full es o) (k : Full es o') : o = o' := by
 have key : ∀ {a b : List (List Int)}, Full es a -> Full es b -> a.length <= b.length -> a = b := by
  intro a b ha hb hl
  have e := kahn_prefix ha.1 b hb.1 hl
  by_cases h2 : a.length < b.length
  rotate_left
  · rw [e, List.take_of_length_le (by omega)]
  obtain ⟨m, m1, m2, _⟩ := kahn_next hb.1 a.length h2
  rw [<- e] at m2
  exact absurd (ha.2 m m1) m2
 rcases Nat.le_total o.length o'.length with e | e
 · exact key h k e
 · exact (key k h e).symm
theorem rc_le {es : List (List Int)} {cm : List Int} {n : Int} (S : Sol es cm n) (hvld : Vld es) {a b : Int} (h : Rc es a b) (ha : nd es a) : rd cm b <= rd cm a := by
 induction h with
 | refl => exact Int.le_refl _
 | tail h1 h2 ih => exact Int.le_trans (S.back _ (rc_nd hvld h1 ha) _ h2) ih
theorem mut_iff {es : List (List Int)} {cm : List Int} {n : Int} (S : Sol es cm n) (hvld : Vld es) {a b : Int} (ha : nd es a) (hb : nd es b) : (Rc es a b /\ Rc es b a) ↔ rd cm b = rd cm a := by
 constructor
 · rintro ⟨h1, h2⟩
   have := rc_le S hvld h1 ha
   have := rc_le S hvld h2 hb
   omega
 · intro h
   exact ⟨S.same a b ha hb h.symm, S.same b a hb ha h⟩
theorem mem_scc_eq {es : List (List Int)} {cm : List Int} {n : Int} (S : Sol es cm n) (hvld : Vld es) {m : Int} (hm : nd es m) : mem cm (rd cm m) = scc es m := by
 unfold mem scc
 rw [S.len]
 refine List.filter_congr fun x hx => ?_
 rw [mem_iota] at hx
 rw [Bool.eq_iff_iff, beq_iff_eq, decide_eq_true_iff]
 exact (mut_iff S hvld hm hx).symm
theorem kahn_of_seq {es : List (List Int)} {cm : List Int} {n : Int} {ms : List (List Int)} (S : Sol es cm n) (hn : es.length < 1000000) (R : Rows es cm n ms) (hvld : Vld es) {D : List Int} (h : Seq es cm n ms D) :
 Kahn es (D.map (row ms)) /\ ∀ x, x ∈ (D.map (row ms)).flatten ↔ nd es x /\ rd cm x ∈ D := by
 have flat : ∀ {D : List Int}, Seq es cm n ms D -> ∀ x, x ∈ (D.map (row ms)).flatten ↔ nd es x /\ rd cm x ∈ D := by
  intro D hD x
  have hr := hD.rng.2.1
  rw [List.mem_flatten]
  constructor
  · rintro ⟨l, hl, hx⟩
    obtain ⟨c, hc, rfl⟩ := List.mem_map.1 hl
    rw [R.row c (hr c hc).1 (hr c hc).2, mem_mem, S.len] at hx
    exact ⟨hx.1, by rw [hx.2]; exact hc⟩
  · rintro ⟨h1, h2⟩
    refine ⟨_, List.mem_map.2 ⟨_, h2, rfl⟩, ?_⟩
    rw [R.row _ (hr _ h2).1 (hr _ h2).2, mem_mem, S.len]
    exact ⟨h1, rfl⟩
 have ready : ∀ {D : List Int}, Seq es cm n ms D -> ∀ m, nd es m -> (Ready es (D.map (row ms)) m ↔ ∀ d, Dep es cm (rd cm m) d -> d ∈ D) := by
  intro D hD m hm
  constructor
  · rintro h d ⟨hne, v, hv, w, hw, rfl⟩
    obtain ⟨v1, v2⟩ := mem_mem.1 hv
    rw [S.len] at v1
    have hwn := hvld v v1 w hw
    have hmv : Rc es m v := S.same m v hm v1 v2.symm
    rcases h w (hmv.tail hw) with e | e
    · exact ((flat hD w).1 e).2
    · have := (mut_iff S hvld hm hwn).1 ⟨hmv.tail hw, e⟩
      exact absurd this.symm hne
  · intro h x hx
    have key : nd es x /\ (rd cm x = rd cm m \/ rd cm x ∈ D) := by
     induction hx with
     | refl => exact ⟨hm, .inl rfl⟩
     | @tail b c h1 h2 ih =>
      obtain ⟨i1, i2⟩ := ih
      have hc := hvld _ i1 _ h2
      refine ⟨hc, ?_⟩
      by_cases e : rd cm c = rd cm b
      · rw [e]; exact i2
      have hd : Dep es cm (rd cm b) (rd cm c) := ⟨fun e2 => e e2.symm, b, mem_mem.2 ⟨by rw [S.len]; exact i1, rfl⟩, c, h2, rfl⟩
      rcases i2 with i2 | i2
      · rw [i2] at hd; exact .inr (h _ hd)
      · exact .inr (hD.rng.2.2 _ i2 _ hd)
    rcases key.2 with e | e
    · exact .inr ((mut_iff S hvld hm key.1).2 e).2
    · exact .inl ((flat hD x).2 ⟨key.1, e⟩)
 refine ⟨?_, flat h⟩
 induction h with
 | nil => exact .nil
 | @snoc D c hD c0 c1 c2 c3 c4 ih =>
  rw [List.map_append]
  obtain ⟨f1, ⟨f2, f3⟩, f4⟩ := fine_of S hn R c0 c1
  refine .snoc ih ⟨first ms c, f2, fun e => ?_, (ready hD _ f2).2 (by rw [f3]; exact c3), fun x hx hxD hxr => ?_, ?_⟩
  · have := ((flat hD _).1 e).2
    rw [f3] at this
    exact c2 this
  · have hr := S.rng x hx
    obtain ⟨_, _, g4⟩ := fine_of S hn R hr.1 hr.2
    have h1 := c4 (rd cm x) hr.1 hr.2 (fun e => hxD ((flat hD x).2 ⟨hx, e⟩)) ((ready hD x hx).1 hxr)
    have h2 := g4 x hx rfl
    omega
  · rw [R.row c c0 c1, <- mem_scc_eq S hvld f2, f3]
theorem ordered_ev {es : List (List Int)} (hvld : Vld es) {L : Nat} (hL : ∀ v, (row es v).length <= L) (hn : es.length < 1000000) : ∃ o, Full es o /\ g_ordered.f es = some o := by
 have key : ∀ k, es.length * (L + 2) + 3 * es.length + L + 9 <= k -> ∃ o, Full es o /\ orderedF k es = some o := by
  intro k hk
  obtain ⟨cm, n, ms, D, S, R, h1, h2, h3⟩ := ordered_run hvld hL hn k hk
  obtain ⟨k1, k2⟩ := kahn_of_seq S hn R hvld h2
  exact ⟨_, ⟨k1, fun v hv => (k2 v).2 ⟨hv, h3 _ (S.rng v hv).1 (S.rng v hv).2⟩⟩, h1⟩
 obtain ⟨o, o1, o2⟩ := key _ (Nat.le_refl _)
 refine ⟨o, o1, Od.lim_of (k0 := es.length * (L + 2) + 3 * es.length + L + 9) fun k hk => ?_⟩
 obtain ⟨o', p1, p2⟩ := key k hk
 rw [p2, full_unique p1 o1]
structure Parts (es o : List (List Int)) : Prop where
 asc : ∀ c ∈ o, c.Pairwise (· < ·)
 scc : ∀ c ∈ o, ∃ m, nd es m /\ c = scc es m
 one : o.flatten.Nodup
 back : ∀ (i : Nat) (c : List Int), o[i]? = some c -> ∀ u ∈ c, ∀ w ∈ row es u, ∃ (j : Nat) (d : List Int), j <= i /\ o[j]? = some d /\ w ∈ d
theorem kahn_parts {es o : List (List Int)} (hvld : Vld es) (h : Kahn es o) : Parts es o := by
 induction h with
 | nil => exact ⟨by simp, by simp, by simp, by simp⟩
 | @snoc o c h1 h2 ih =>
  obtain ⟨m, m1, m2, m3, m4, rfl⟩ := h2
  refine ⟨?_, ?_, ?_, ?_⟩
  · intro c hc
    rcases List.mem_append.1 hc with e | e
    · exact ih.asc c e
    · rw [List.mem_singleton] at e; rw [e]; exact scc_lt _ _
  · intro c hc
    rcases List.mem_append.1 hc with e | e
    · exact ih.scc c e
    · rw [List.mem_singleton] at e; exact ⟨m, m1, e⟩
  · rw [List.flatten_append, List.nodup_append]
    refine ⟨ih.one, by rw [List.flatten_cons, List.flatten_nil, List.append_nil]; exact (scc_lt es m).imp (fun h e => by subst e; omega), ?_⟩
    rintro a ha b hb rfl
    have hb' : a ∈ Tp.scc es m := by simpa using hb
    obtain ⟨_, b2, b3⟩ := mem_scc.1 hb'
    obtain ⟨d, hd, had⟩ := List.mem_flatten.1 ha
    obtain ⟨x, _, rfl⟩ := ih.scc d hd
    obtain ⟨_, a2, a3⟩ := mem_scc.1 had
    exact m2 (List.mem_flatten.2 ⟨_, hd, mem_scc.2 ⟨m1, a2.trans b3, b2.trans a3⟩⟩)
  · intro i c hi u hu w hw
    by_cases e : i < o.length
    · rw [List.getElem?_append_left e] at hi
      obtain ⟨j, d, j1, j2, j3⟩ := ih.back i c hi u hu w hw
      exact ⟨j, d, j1, by rw [List.getElem?_append_left (by omega)]; exact j2, j3⟩
    have hil := (List.getElem?_eq_some_iff.1 hi).1
    rw [List.length_append, List.length_singleton] at hil
    have e2 : i = o.length := by omega
    subst e2
    rw [List.getElem?_append_right (Nat.le_refl _), Nat.sub_self, List.getElem?_cons_zero] at hi
    obtain rfl := Option.some.inj hi
    obtain ⟨u1, u2, u3⟩ := mem_scc.1 hu
    have hwn := hvld u u1 w hw
    rcases m3 w (u2.tail hw) with e | e
    · obtain ⟨d, hd, hwd⟩ := List.mem_flatten.1 e
      obtain ⟨j, hj, rfl⟩ := List.mem_iff_getElem.1 hd
      exact ⟨j, _, by omega, by rw [List.getElem?_append_left hj, List.getElem?_eq_getElem hj], hwd⟩
    · exact ⟨o.length, _, Nat.le_refl _, by rw [List.getElem?_append_right (Nat.le_refl _), Nat.sub_self, List.getElem?_cons_zero], mem_scc.2 ⟨hwn, u2.tail hw, e⟩⟩
theorem comps_ev {l : List (List Int)} (hs : Sm l) (hv : Vld l) : ∃ o, Full l o /\ Ev (fun k => g_Components.f k l) o := by
 have h60 := hs.1
 obtain ⟨o, o1, o2⟩ := ordered_ev hv (L := 2000) hs.row (by omega)
 have hb := gv_ev l hs
 rw [(vldB_iff l).2 hv] at hb
 refine ⟨o, o1, Ev.congr (fun k => ?_) (Ev.bind hb (f := fun k t => if t = true then some o else some []) (Ev.now _))⟩
 unfold g_Components.f
 rw [o2]
 rfl
end Tp
end Go.Proofs.Ytmadhaccjmakdaa
namespace Go.Proofs.Ytmadhaccjmakdaa.P
open Go.RowKit Go.Proofs.Yw.A Go.Proofs.Yw.A.Kd Go.Proofs.Yw.B Go.Proofs.Yw.C
attribute [local go_sem] str_gtr str_leq str_geq max2_int min2_int max_two min_two max_three min_three max_four min_four
mutual
noncomputable def r_consistent.l0 : Nat -> List (S42) -> List ByteArray -> Int -> Option (Int × ByteArray × Int × Int)
 | 0, _, _, _ => none
 | k + 1, x0, x3, x4 => if x4 < (x0.length : Int) then (if 0 <= x4 then ((q_Has.f k x3 ((rd_T42 x0 x4).f0)).bind fun t334 => (if t334 = true then (some (13, (rd_T42 x0 x4).f0, 0, 0)) else (if x3.length < 8796093022208 then (r_consistent.l0 k x0 (x3 ++ [(rd_T42 x0 x4).f0]) (wrap64 (x4 + 1))) else (none)))) else (none)) else (r_consistent.l1 k x0 x3 0)
noncomputable def r_consistent.l1 : Nat -> List (S42) -> List ByteArray -> Int -> Option (Int × ByteArray × Int × Int)
 | 0, _, _, _ => none
 | k + 1, x0, x3, x5 => if x5 < (x0.length : Int) then (r_consistent.l2 k x0 x3 x5 0) else (some (0, (⟨#[]⟩ : ByteArray), 0, 0))
noncomputable def r_consistent.l2 : Nat -> List (S42) -> List ByteArray -> Int -> Int -> Option (Int × ByteArray × Int × Int)
 | 0, _, _, _, _ => none
 | k + 1, x0, x3, x5, x6 => if 0 <= x5 then (if x5 < (x0.length : Int) then (if x6 < (((rd_T42 x0 x5).f3).length : Int) then (if 0 <= x6 then ((q_Has.f k x3 ((rd_T66 ((rd_T42 x0 x5).f3) x6).f0)).bind fun t343 => (if t343 = true then (r_consistent.l2 k x0 x3 x5 (wrap64 (x6 + 1))) else (some (16, (rd_T66 ((rd_T42 x0 x5).f3) x6).f0, 0, 0)))) else (none)) else (r_consistent.l1 k x0 x3 (wrap64 (x5 + 1)))) else (none)) else (none)
end
noncomputable def r_consistent.f (k : Nat) (l0 : List (S42)) : Option (Int × ByteArray × Int × Int) := if (l0.length : Int) > 32 then (some (3, (⟨#[]⟩ : ByteArray), 0, 0)) else (r_consistent.l0 k l0 ([] : List ByteArray) 0)
mutual
noncomputable def r_back.l0 : Nat -> List (S42) -> ByteArray -> Int -> List ByteArray -> Int -> Option (Bool)
 | 0, _, _, _, _, _ => none
 | k + 1, x0, x2, x3, x9, x10 => if x10 <= x3 then (r_back.l1 k x0 x2 x3 x9 x10 ([] : List ByteArray) 0) else (some false)
noncomputable def r_back.l1 : Nat -> List (S42) -> ByteArray -> Int -> List ByteArray -> Int -> List ByteArray -> Int -> Option (Bool)
 | 0, _, _, _, _, _, _, _ => none
 | k + 1, x0, x2, x3, x9, x10, x11, x12 => if x12 < (x9.length : Int) then (if 0 <= x12 then ((r_Insert.f k x11 (rdOf ByteArray.empty x9 x12)).bind fun t350 => ((r_Imports.f k x0 (rdOf ByteArray.empty x9 x12)).bind fun t354 => (r_back.l2 k x0 x2 x3 x9 x10 t350 x12 t354 0))) else (none)) else (r_back.l0 k x0 x2 x3 x11 (wrap64 (x10 + 1)))
noncomputable def r_back.l2 : Nat -> List (S42) -> ByteArray -> Int -> List ByteArray -> Int -> List ByteArray -> Int -> List ByteArray -> Int -> Option (Bool)
 | 0, _, _, _, _, _, _, _, _, _ => none
 | k + 1, x0, x2, x3, x9, x10, x11, x12, x13, x14 => if x14 < (x13.length : Int) then (if 0 <= x14 then (if (rdOf ByteArray.empty x13 x14).toList = x2.toList then (some true) else ((r_Insert.f k x11 (rdOf ByteArray.empty x13 x14)).bind fun t359 => (r_back.l2 k x0 x2 x3 x9 x10 t359 x12 x13 (wrap64 (x14 + 1))))) else (none)) else (r_back.l1 k x0 x2 x3 x9 x10 x11 (wrap64 (x12 + 1)))
end
noncomputable def r_back.f (k : Nat) (l0 : List (S42)) (a1 : ByteArray) (a2 : ByteArray) (a3 : Int) : Option (Bool) := r_back.l0 k l0 a2 a3 (([a1] : List ByteArray)) 0
end Go.Proofs.Ytmadhaccjmakdaa.P
namespace Go.Proofs.Ytmadhaccjmakdaa
open Go.Maps Go.Sort Go.RowKit Go.Proofs.Yw.A Go.Proofs.Yw.B Go.Proofs.Yw.C Go.Proofs.Ytmadhaccjmakdaa.P
namespace Tp
open Tj Rw Od Mg
open Classical
abbrev Nm := List UInt8
theorem dat_bz (x : Nm) : dat (bz x) = x := bz_list x
theorem bz_dat (x : ByteArray) : bz (dat x) = x := by cases x; simp [bz, dat]
theorem toL_iff (x y : ByteArray) : x.toList = y.toList ↔ x = y := by
 rw [toL, toL]
 exact ⟨fun h => dat_inj h, fun h => by rw [h]⟩
theorem drop_strs (l : List ByteArray) (j : Nat) (h : j < l.length) : l.drop j = rdOf ByteArray.empty l j :: l.drop (j + 1) := by
 rw [List.drop_eq_getElem_cons h]
 congr 1
 simp [rdOf, List.getElem?_eq_getElem h]
theorem less_dat (x y : ByteArray) : Op.bytesLess x.toList y.toList = decide (dat x < dat y) := by
 rw [bytesLess_eq, toL, toL]
theorem has_ev (l : List ByteArray) (x : ByteArray) (hl : l.length < 1000000) : Ev (fun k => q_Has.f k l x) (decide (x ∈ l)) := by
 have key : ∀ (m j : Nat), j + m = l.length -> Ev (fun k => q_Has.l0 k l x j) (decide (x ∈ l.drop j)) := by
  intro m
  induction m with
  | zero =>
   intro j hj
   rw [List.drop_eq_nil_of_le (by omega)]
   refine Ev.step (fun k => ?_) (Ev.now _)
   simp only [q_Has.l0]
   rw [if_neg (by omega), show decide (x ∈ ([] : List ByteArray)) = false by simp]
  | succ m ih =>
   intro j hj
   rw [drop_strs l j (by omega)]
   by_cases h : rdOf ByteArray.empty l j = x
   · rw [show decide (x ∈ rdOf ByteArray.empty l j :: l.drop (j + 1)) = true by simp [h]]
     refine Ev.step (fun k => ?_) (Ev.now _)
     simp only [q_Has.l0]
     rw [if_pos (by omega), if_pos (by omega), if_pos ((toL_iff _ _).2 h)]
   rw [show decide (x ∈ rdOf ByteArray.empty l j :: l.drop (j + 1)) = decide (x ∈ l.drop (j + 1)) by have h' : ¬ x = rdOf ByteArray.empty l j := fun e => h e.symm; simp [h']]
   refine Ev.step (fun k => ?_) (ih (j + 1) (by omega))
   simp only [q_Has.l0]
   rw [if_pos (by omega), if_pos (by omega), if_neg (fun e => h ((toL_iff _ _).1 e)), succ_cast j (by omega)]
 exact key l.length 0 (by omega)
def insU (s : Nm) : List Nm -> List Nm
 | [] => [s]
 | x :: l => if s < x then s :: x :: l else if s = x then x :: l else x :: insU s l
theorem mem_insU {s x : Nm} : ∀ {l : List Nm}, x ∈ insU s l ↔ x = s \/ x ∈ l := by
 intro l
 induction l with
 | nil => simp [insU]
 | cons y l ih =>
  unfold insU
  split
  · simp
  · split
    · rename_i h; subst h; simp
    · simp only [List.mem_cons, ih]
      constructor
      · rintro (h | h | h)
        · exact .inr (.inl h)
        · exact .inl h
        · exact .inr (.inr h)
      · rintro (h | h | h)
        · exact .inr (.inl h)
        · exact .inl h
        · exact .inr (.inr h)
theorem insU_len (s : Nm) : ∀ (l : List Nm), (insU s l).length <= l.length + 1 := by
 intro l
 induction l with
 | nil => simp [insU]
 | cons y l ih =>
  unfold insU
  split
  · simp
  · split
    · simp
    · simp; omega
theorem insU_lt (s : Nm) : ∀ {l : List Nm}, l.Pairwise (· < ·) -> (insU s l).Pairwise (· < ·) := by
 intro l
 induction l with
 | nil => intro _; simp [insU]
 | cons y l ih =>
  intro h
  rw [List.pairwise_cons] at h
  unfold insU
  split
  · rename_i h1
    rw [List.pairwise_cons]
    refine ⟨fun z hz => ?_, List.pairwise_cons.2 h⟩
    rcases List.mem_cons.1 hz with rfl | hz
    · exact h1
    · exact List.lt_trans h1 (h.1 z hz)
  · split
    · exact List.pairwise_cons.2 h
    · rename_i h1 h2
      rw [List.pairwise_cons]
      refine ⟨fun z hz => ?_, ih h.2⟩
      rcases mem_insU.1 hz with rfl | hz
      · rcases Std.lt_trichotomy z y with h3 | h3 | h3
        · exact absurd h3 h1
        · exact absurd h3 h2
        · exact h3
      · exact h.1 z hz
theorem ins_copy (x0 : List ByteArray) (x1 : ByteArray) (hl : x0.length < 1000000) : ∀ (m j : Nat) (x5 : List ByteArray), j + m = x0.length -> x5.length <= 2 * j + 2 -> Ev (fun k => r_Insert.l0 k x0 x1 x5 true j) (x5 ++ x0.drop j) := by
 intro m
 induction m with
 | zero =>
  intro j x5 hj hx
  rw [List.drop_eq_nil_of_le (by omega), List.append_nil]
  refine Ev.step (fun k => ?_) (Ev.now _)
  simp only [r_Insert.l0]
  rw [if_neg (by omega), if_pos trivial]
 | succ m ih =>
  intro j x5 hj hx
  have h1 := ih (j + 1) (x5 ++ [rdOf ByteArray.empty x0 j]) (by omega) (by simp; omega)
  rw [drop_strs x0 j (by omega)]
  rw [List.append_assoc, List.singleton_append] at h1
  refine Ev.step (fun k => ?_) (Ev.step (g := fun k => r_Insert.j1 k x0 x1 x5 true j false) (fun k => ?_) h1)
  · simp only [r_Insert.l0]
    rw [if_pos (by omega), if_pos trivial]
  · simp only [r_Insert.j1]
    rw [if_neg (by simp), if_pos (by omega), if_pos (by omega), if_pos (by omega), succ_cast j (by omega)]
theorem ins_ev (L : List Nm) (s : ByteArray) (hl : L.length < 1000000) : Ev (fun k => r_Insert.f k (L.map bz) s) ((insU (dat s) L).map bz) := by
 have hrd : ∀ j : Nat, (h : j < L.length) -> rdOf ByteArray.empty (L.map bz) (j : Int) = bz L[j] := by
  intro j h
  simp [rdOf, List.getElem?_eq_getElem h]
 have key : ∀ (m j : Nat) (x5 : List ByteArray), j + m = L.length -> x5.length <= j -> Ev (fun k => r_Insert.l0 k (L.map bz) s x5 false j) (x5 ++ (insU (dat s) (L.drop j)).map bz) := by
  intro m
  induction m with
  | zero =>
   intro j x5 hj hx
   rw [List.drop_eq_nil_of_le (by omega)]
   refine Ev.step (fun k => ?_) (Ev.now _)
   simp only [r_Insert.l0]
   rw [if_neg (by rw [List.length_map]; omega), if_neg (by simp), if_pos (by omega)]
   simp [insU, bz_dat]
  | succ m ih =>
   intro j x5 hj hx
   have hjl : j < L.length := by omega
   have hjm : (j : Int) < ((L.map bz).length : Int) := by rw [List.length_map]; omega
   rw [List.drop_eq_getElem_cons hjl]
   have hr := hrd j hjl
   by_cases h1 : L[j] < dat s
   · have e : insU (dat s) (L[j] :: L.drop (j + 1)) = L[j] :: insU (dat s) (L.drop (j + 1)) := by
      rw [insU, if_neg (fun h => List.lt_irrefl _ (List.lt_trans h h1)), if_neg (fun h => by rw [h] at h1; exact List.lt_irrefl _ h1)]
     rw [e]
     have h2 := ih (j + 1) (x5 ++ [rdOf ByteArray.empty (L.map bz) j]) (by omega) (by simp; omega)
     rw [hr, List.append_assoc, List.singleton_append] at h2
     refine Ev.step (fun k => ?_) (Ev.step (g := fun k => r_Insert.j1 k (L.map bz) s x5 false j false) (fun k => ?_) h2)
     · simp only [r_Insert.l0]
       rw [if_pos hjm, if_neg (by simp), if_pos (by omega), less_dat, hr, dat_bz, decide_eq_true h1]
       rfl
     · simp only [r_Insert.j1]
       rw [if_neg (by simp), if_pos (by omega), if_pos hjm, if_pos (by omega), succ_cast j (by omega), hr]
   have hcond : (!(Op.bytesLess ((rdOf ByteArray.empty (L.map bz) (j : Int)).toList) s.toList)) = true := by rw [less_dat, hr, dat_bz, decide_eq_false h1]; rfl
   by_cases h2 : dat s < L[j]
   · have e : insU (dat s) (L[j] :: L.drop (j + 1)) = dat s :: L[j] :: L.drop (j + 1) := by rw [insU, if_pos h2]
     rw [e]
     have h3 := ins_copy (L.map bz) s (by rw [List.length_map]; omega) m (j + 1) ((x5 ++ [s]) ++ [rdOf ByteArray.empty (L.map bz) j]) (by rw [List.length_map]; omega) (by simp; omega)
     rw [hr, <- List.map_drop] at h3
     refine Ev.step (fun k => ?_) (Ev.step (g := fun k => r_Insert.j1 k (L.map bz) s x5 false j true) (fun k => ?_) (r := x5 ++ List.map bz (dat s :: L[j] :: List.drop (j + 1) L)) (f := fun k => r_Insert.l0 k (L.map bz) s ((x5 ++ [s]) ++ [bz L[j]]) true ((j + 1 : Nat) : Int)) ?_)
     · simp only [r_Insert.l0]
       rw [if_pos hjm, if_neg (by simp), if_pos (by omega), hcond]
     · simp only [r_Insert.j1]
       rw [if_pos trivial, if_pos (by omega), if_pos hjm, if_pos (by rw [less_dat, hr, dat_bz, decide_eq_true h2]), if_pos (by omega), Option.bind_some, if_pos (by simp; omega), succ_cast j (by omega), hr]
     · rw [List.map_cons, List.map_cons, bz_dat]
       simpa only [List.append_assoc, List.singleton_append, List.cons_append, List.nil_append] using h3
   have h4 : dat s = L[j] := by
    rcases Std.lt_trichotomy (dat s) L[j] with h | h | h
    · exact absurd h h2
    · exact h
    · exact absurd h h1
   have e : insU (dat s) (L[j] :: L.drop (j + 1)) = L[j] :: L.drop (j + 1) := by rw [insU, if_neg h2, if_pos h4]
   rw [e]
   have h3 := ins_copy (L.map bz) s (by rw [List.length_map]; omega) m (j + 1) (x5 ++ [rdOf ByteArray.empty (L.map bz) j]) (by rw [List.length_map]; omega) (by simp; omega)
   rw [hr, <- List.map_drop] at h3
   refine Ev.step (fun k => ?_) (Ev.step (g := fun k => r_Insert.j1 k (L.map bz) s x5 false j true) (fun k => ?_) (f := fun k => r_Insert.l0 k (L.map bz) s (x5 ++ [bz L[j]]) true ((j + 1 : Nat) : Int)) ?_)
   · simp only [r_Insert.l0]
     rw [if_pos hjm, if_neg (by simp), if_pos (by omega), hcond]
   · simp only [r_Insert.j1]
     rw [if_pos trivial, if_pos (by omega), if_pos hjm, if_neg (by rw [less_dat, hr, dat_bz, decide_eq_false h2]; simp), if_pos (by omega), succ_cast j (by omega), hr]
   · rw [List.map_cons]
     simpa only [List.append_assoc, List.singleton_append, List.cons_append, List.nil_append] using h3
 have h := key L.length 0 [] (by omega) (by simp)
 rw [List.drop_zero, List.nil_append] at h
 exact h
theorem lt_ext : ∀ {a b : List Nm}, a.Pairwise (· < ·) -> b.Pairwise (· < ·) -> (∀ x, x ∈ a ↔ x ∈ b) -> a = b := by
 intro a
 induction a with
 | nil =>
  intro b _ _ h
  cases b with
  | nil => rfl
  | cons y b => exact absurd ((h y).2 (by simp)) (by simp)
 | cons x a ih =>
  intro b ha hb h
  cases b with
  | nil => exact absurd ((h x).1 (by simp)) (by simp)
  | cons y b =>
   rw [List.pairwise_cons] at ha hb
   have hxy : x = y := by
    rcases List.mem_cons.1 ((h x).1 (by simp)) with e | e
    · exact e
    · rcases List.mem_cons.1 ((h y).2 (by simp)) with e2 | e2
      · exact e2.symm
      · exact absurd (List.lt_trans (hb.1 x e) (ha.1 y e2)) (List.lt_irrefl _)
   subst hxy
   rw [ih ha.2 hb.2 (fun z => ?_)]
   have hz := h z
   simp only [List.mem_cons] at hz
   constructor
   · intro hza
     rcases hz.1 (.inr hza) with e | e
     · subst e; exact absurd (ha.1 z hza) (List.lt_irrefl _)
     · exact e
   · intro hzb
     rcases hz.2 (.inr hzb) with e | e
     · subst e; exact absurd (hb.1 z hzb) (List.lt_irrefl _)
     · exact e
theorem asc_lt (S : List Nm) : (asc S).Pairwise (· < ·) := by
 have h1 := asc_pair S
 have h2 : (asc S).Nodup := (asc_elems S).nodup
 refine (h1.and h2).imp ?_
 rintro a b ⟨h3, h4⟩
 rcases Std.lt_trichotomy a b with h | h | h
 · exact h
 · exact absurd h h4
 · exact absurd (List.lt_of_le_of_lt h3 h) (List.lt_irrefl _)
theorem insU_asc (S : List Nm) (x : Nm) : insU x (asc S) = asc (S ++ [x]) := by
 refine lt_ext (insU_lt x (asc_lt S)) (asc_lt _) (fun y => ?_)
 rw [mem_insU, mem_asc, mem_asc]
 simp [or_comm]
theorem asc_len (S : List Nm) : (asc S).length <= S.length := by
 have h1 : ∀ S : List Nm, (dd S).length <= S.length := by
  intro S
  induction S with
  | nil => simp [dd]
  | cons x S ih =>
   unfold dd
   split <;> simp <;> omega
 unfold asc
 rw [List.length_mergeSort]
 exact h1 S
theorem drop_mods (l : List S42) (i : Nat) (h : i < l.length) : l.drop i = rd_T42 l i :: l.drop (i + 1) := by
 have := drop_rd l (i : Int) (by omega) (by omega)
 simpa using this
theorem drop_imps (l : List S66) (i : Nat) (h : i < l.length) : l.drop i = rd_T66 l i :: l.drop (i + 1) := by
 have := drop_rdI l (i : Int) (by omega) (by omega)
 simpa using this
theorem names_ev (l : List S42) (hl : l.length < 100000) : Ev (fun k => r_Names.f k l) ((asc (l.map nm)).map bz) := by
 have key : ∀ (m j : Nat) (S : List Nm), j + m = l.length -> S.length = j -> Ev (fun k => r_Names.l0 k l ((asc S).map bz) j) ((asc (S ++ (l.drop j).map nm)).map bz) := by
  intro m
  induction m with
  | zero =>
   intro j S hj hS
   rw [List.drop_eq_nil_of_le (by omega), List.map_nil, List.append_nil]
   refine Ev.step (fun k => ?_) (Ev.now _)
   simp only [r_Names.l0]
   rw [if_neg (by omega)]
  | succ m ih =>
   intro j S hj hS
   have h1 := ins_ev (asc S) (rd_T42 l j).f0 (by have := asc_len S; omega)
   have h2 := ih (j + 1) (S ++ [nm (rd_T42 l j)]) (by omega) (by simp; omega)
   rw [drop_mods l j (by omega), List.map_cons, <- List.singleton_append, <- List.append_assoc]
   rw [<- insU_asc] at h2
   refine Ev.step (fun k => ?_) (Ev.bind h1 (f := fun k t => r_Names.l0 k l t ((j + 1 : Nat) : Int)) h2)
   simp only [r_Names.l0]
   rw [if_pos (by omega), if_pos (by omega), succ_cast j (by omega)]
 have h := key l.length 0 [] (by omega) rfl
 have e : asc ([] : List Nm) = [] := asc_self (by simp) (by simp)
 rw [e, List.drop_zero, List.nil_append] at h
 exact h
theorem imps_inner (l : List S42) (x : ByteArray) (hl : l.length < 100000) (hi : ∀ m ∈ l, m.f3.length <= 100000) (i : Nat) (hil : i < l.length) (hn : nm (rd_T42 l i) = dat x) (r : List ByteArray)
 (hk : Ev (fun k => r_Imports.l0 k l x ((asc ((rd_T42 l i).f3.map im)).map bz) ((i + 1 : Nat) : Int)) r) : Ev (fun k => r_Imports.l1 k l x [] i 0) r := by
 have hmem : (rd_T42 l i).f3.length <= 100000 := hi _ (Mg.mem_rd l i (by omega) (by omega))
 have key2 : ∀ (m j : Nat) (S : List Nm), j + m = (rd_T42 l i).f3.length -> (asc S).length <= j -> S = ((rd_T42 l i).f3.take j).map im -> Ev (fun k => r_Imports.l1 k l x ((asc S).map bz) i j) r := by
  intro m
  induction m with
  | zero =>
   intro j S hj hS hST
   rw [List.take_of_length_le (by omega)] at hST
   subst hST
   refine Ev.step (fun k => ?_) hk
   simp only [r_Imports.l1]
   rw [if_pos (by omega), if_pos (by omega), if_neg (by omega), succ_cast i (by omega)]
  | succ m ih =>
   intro j S hj hS hST
   have h1 := ins_ev (asc S) (rd_T66 (rd_T42 l i).f3 j).f0 (by omega)
   have h2 := ih (j + 1) (S ++ [im (rd_T66 (rd_T42 l i).f3 j)]) (by omega) (by rw [<- insU_asc]; have := insU_len (im (rd_T66 (rd_T42 l i).f3 j)) (asc S); omega) (by
    have := take_rdI (rd_T42 l i).f3 (j : Int) (by omega) (by omega)
    simp only [Int.toNat_natCast] at this
    rw [this, List.map_append, hST]
    simp)
   rw [<- insU_asc] at h2
   refine Ev.step (fun k => ?_) (Ev.bind h1 (f := fun k t => r_Imports.l1 k l x t i ((j + 1 : Nat) : Int)) h2)
   simp only [r_Imports.l1]
   rw [if_pos (by omega), if_pos (by omega), if_pos (by omega), if_pos (by rw [toL, toL]; exact hn), if_pos (by omega), succ_cast j (by omega)]
 have e : asc ([] : List Nm) = [] := asc_self (by simp) (by simp)
 have h := key2 (rd_T42 l i).f3.length 0 [] (by omega) (by rw [e]; exact Nat.le_refl _) (by simp)
 rw [e] at h
 exact h
theorem imps_skip (l : List S42) (x : ByteArray) (hl : l.length < 100000) (i : Nat) (hil : i < l.length) (hn : nm (rd_T42 l i) ≠ dat x) (R r : List ByteArray)
 (hk : Ev (fun k => r_Imports.l0 k l x R ((i + 1 : Nat) : Int)) r) : Ev (fun k => r_Imports.l1 k l x R i 0) r := by
 refine Ev.step (fun k => ?_) hk
 simp only [r_Imports.l1]
 rw [if_pos (by omega), if_pos (by omega)]
 by_cases h0 : (0 : Int) < (((rd_T42 l i).f3).length : Int)
 rotate_left
 · rw [if_neg h0, succ_cast i (by omega)]
 rw [if_pos h0, if_neg (by rw [toL, toL]; exact hn), succ_cast i (by omega)]
theorem impsL_cons_eq {m : S42} {l : List S42} {n : Nm} (h : nm m = n) : impsL (m :: l) n = m.f3.map im := by
 unfold impsL
 rw [List.find?_cons_of_pos (by simp [h])]
 rfl
theorem impsL_cons_ne {m : S42} {l : List S42} {n : Nm} (h : nm m ≠ n) : impsL (m :: l) n = impsL l n := by
 unfold impsL
 rw [List.find?_cons_of_neg (by simp [h])]
theorem imps_ev (l : List S42) (x : ByteArray) (hl : l.length < 100000) (hi : ∀ m ∈ l, m.f3.length <= 100000) (hnd : (l.map nm).Nodup) : Ev (fun k => r_Imports.f k l x) ((asc (impsL l (dat x))).map bz) := by
 have rest : ∀ (m j : Nat) (R : List ByteArray), j + m = l.length -> dat x ∉ (l.drop j).map nm -> Ev (fun k => r_Imports.l0 k l x R j) R := by
  intro m
  induction m with
  | zero =>
   intro j R hj _
   refine Ev.step (fun k => ?_) (Ev.now _)
   simp only [r_Imports.l0]
   rw [if_neg (by omega)]
  | succ m ih =>
   intro j R hj hx
   rw [drop_mods l j (by omega), List.map_cons, List.mem_cons, not_or] at hx
   refine Ev.step (fun k => ?_) (imps_skip l x hl j (by omega) (fun e => hx.1 e.symm) R R (ih (j + 1) R (by omega) hx.2))
   simp only [r_Imports.l0]
   rw [if_pos (by omega)]
 have e : asc ([] : List Nm) = [] := asc_self (by simp) (by simp)
 have key : ∀ (m j : Nat), j + m = l.length -> Ev (fun k => r_Imports.l0 k l x [] j) ((asc (impsL (l.drop j) (dat x))).map bz) := by
  intro m
  induction m with
  | zero =>
   intro j hj
   rw [List.drop_eq_nil_of_le (by omega)]
   have e2 : impsL ([] : List S42) (dat x) = [] := rfl
   rw [e2, e]
   refine Ev.step (fun k => ?_) (Ev.now _)
   simp only [r_Imports.l0]
   rw [if_neg (by omega)]
   rfl
  | succ m ih =>
   intro j hj
   rw [drop_mods l j (by omega)]
   by_cases hn : nm (rd_T42 l j) = dat x
   rotate_left
   · rw [impsL_cons_ne hn]
     refine Ev.step (fun k => ?_) (imps_skip l x hl j (by omega) hn [] _ (ih (j + 1) (by omega)))
     simp only [r_Imports.l0]
     rw [if_pos (by omega)]
   rw [impsL_cons_eq hn]
   have hx : dat x ∉ (l.drop (j + 1)).map nm := by
    have h1 : ((l.drop j).map nm).Nodup := by rw [List.map_drop]; exact (List.drop_sublist _ _).nodup hnd
    rw [drop_mods l j (by omega), List.map_cons, List.nodup_cons, hn] at h1
    exact h1.1
   refine Ev.step (fun k => ?_) (imps_inner l x hl hi j (by omega) hn _ (rest m (j + 1) _ (by omega) hx))
   simp only [r_Imports.l0]
   rw [if_pos (by omega)]
 have h := key l.length 0 (by omega)
 rw [List.drop_zero] at h
 exact h
def consF (l : List S42) : Int × ByteArray :=
 if (l.length : Int) > 32 then (3, ⟨#[]⟩) else match twice l [] with
  | some x => (13, x)
  | none => match miss (l.map nm) l with
   | some x => (16, x)
   | none => (0, ⟨#[]⟩)
theorem made_consF (l : List S42) (h : okSizes l) : m_made.f l = some (if (consF l).1 = 0 then (namesOf l, edgesOf l, 0, ⟨#[]⟩, 0, 0) else ([], [], (consF l).1, (consF l).2, 0, 0)) := by
 unfold m_made.f consF
 by_cases hl : (l.length : Int) > 32
 · rw [if_pos hl, if_pos hl]; rfl
 rw [if_neg hl, if_neg hl, if_pos h]
 cases twice l [] with
 | some x => rfl
 | none =>
  cases miss (l.map nm) l with
  | some x => rfl
  | none => rfl
theorem mem_nm (x : ByteArray) (S : List ByteArray) : (dat x ∈ S.map dat) ↔ x ∈ S :=
 ⟨fun h => by obtain ⟨y, hy, e⟩ := List.mem_map.1 h; exact dat_inj e ▸ hy, fun h => List.mem_map.2 ⟨x, h, rfl⟩⟩
theorem cons_ev (l : List S42) (hi : ∀ m ∈ l, m.f3.length <= 100000) : Ev (fun k => r_consistent.f k l) ((consF l).1, (consF l).2, 0, 0) := by
 unfold consF
 by_cases hl : (l.length : Int) > 32
 · rw [if_pos hl]
   refine Ev.congr (fun k => ?_) (Ev.now _)
   unfold r_consistent.f
   rw [if_pos hl]
 rw [if_neg hl]
 have hS : l.map nm = (l.map (fun m => m.f0)).map dat := by rw [List.map_map]; rfl
 have k2 : ∀ (i : Nat), i < l.length -> ∀ (m j : Nat) (r : Int × ByteArray × Int × Int), j + m = (rd_T42 l i).f3.length ->
  (∀ y, missI (l.map nm) ((rd_T42 l i).f3.drop j) = some y -> r = (16, y, 0, 0)) -> (missI (l.map nm) ((rd_T42 l i).f3.drop j) = none -> Ev (fun k => r_consistent.l1 k l (l.map (fun m => m.f0)) ((i + 1 : Nat) : Int)) r) ->
  Ev (fun k => r_consistent.l2 k l (l.map (fun m => m.f0)) i j) r := by
  intro i hil m
  have hmem : (rd_T42 l i).f3.length <= 100000 := hi _ (Mg.mem_rd l i (by omega) (by omega))
  induction m with
  | zero =>
   intro j r hj _ h2
   rw [List.drop_eq_nil_of_le (by omega)] at h2
   refine Ev.step (fun k => ?_) (h2 rfl)
   simp only [r_consistent.l2]
   rw [if_pos (by omega), if_pos (by omega), if_neg (by omega), succ_cast i (by omega)]
  | succ m ih =>
   intro j r hj h1 h2
   have hb := has_ev (l.map (fun m => m.f0)) (rd_T66 (rd_T42 l i).f3 j).f0 (by rw [List.length_map]; omega)
   rw [drop_imps _ j (by omega)] at h1 h2
   by_cases hc : (l.map nm).contains (im (rd_T66 (rd_T42 l i).f3 j)) = true
   · unfold missI at h1 h2
     rw [if_pos hc] at h1 h2
     rw [decide_eq_true ((mem_nm _ _).1 (by rw [<- hS]; exact List.contains_iff_mem.1 hc))] at hb
     refine Ev.step (fun k => ?_) (Ev.bind hb (f := fun k t => if t = true then r_consistent.l2 k l (l.map (fun m => m.f0)) i ((j + 1 : Nat) : Int) else some (16, (rd_T66 (rd_T42 l i).f3 j).f0, 0, 0)) (ih (j + 1) r (by omega) h1 h2))
     simp only [r_consistent.l2]
     rw [if_pos (by omega), if_pos (by omega), if_pos (by omega), if_pos (by omega), succ_cast j (by omega)]
   unfold missI at h1 h2
   rw [if_neg hc] at h1 h2
   rw [decide_eq_false (fun h => hc (List.contains_iff_mem.2 (by rw [hS]; exact (mem_nm _ _).2 h)))] at hb
   have hr := h1 _ rfl
   rw [hr]
   refine Ev.step (fun k => ?_) (Ev.bind hb (f := fun k t => if t = true then r_consistent.l2 k l (l.map (fun m => m.f0)) i ((j + 1 : Nat) : Int) else some (16, (rd_T66 (rd_T42 l i).f3 j).f0, 0, 0)) (Ev.now _))
   simp only [r_consistent.l2]
   rw [if_pos (by omega), if_pos (by omega), if_pos (by omega), if_pos (by omega), succ_cast j (by omega)]
 have k1 : ∀ (m i : Nat), i + m = l.length -> Ev (fun k => r_consistent.l1 k l (l.map (fun m => m.f0)) i) (match miss (l.map nm) (l.drop i) with | some x => (16, x, 0, 0) | none => (0, ⟨#[]⟩, 0, 0)) := by
  intro m
  induction m with
  | zero =>
   intro i hi2
   rw [List.drop_eq_nil_of_le (by omega)]
   refine Ev.step (fun k => ?_) (Ev.now _)
   simp only [r_consistent.l1]
   rw [if_neg (by omega)]
   rfl
  | succ m ih =>
   intro i hi2
   rw [drop_mods l i (by omega)]
   refine Ev.step (fun k => ?_) (k2 i (by omega) _ 0 _ (Nat.zero_add _) (fun y hy => ?_) (fun hn => ?_))
   · simp only [r_consistent.l1]
     rw [if_pos (by omega)]
     rfl
   · rw [List.drop_zero] at hy
     unfold miss
     rw [hy]
   · rw [List.drop_zero] at hn
     unfold miss
     rw [hn]
     exact ih (i + 1) (by omega)
 have k0 : ∀ (m i : Nat), i + m = l.length -> Ev (fun k => r_consistent.l0 k l ((l.take i).map (fun m => m.f0)) i) (match twice (l.drop i) ((l.take i).map nm) with | some x => (13, x, 0, 0) | none => (match miss (l.map nm) l with | some x => (16, x, 0, 0) | none => (0, ⟨#[]⟩, 0, 0))) := by
  intro m
  induction m with
  | zero =>
   intro i hi2
   have h1 := k1 l.length 0 (by omega)
   rw [List.drop_zero] at h1
   rw [List.drop_eq_nil_of_le (by omega), List.take_of_length_le (by omega)]
   refine Ev.step (fun k => ?_) h1
   simp only [r_consistent.l0]
   rw [if_neg (by omega)]
   rfl
  | succ m ih =>
   intro i hi2
   have hT : (l.take i).map nm = ((l.take i).map (fun m => m.f0)).map dat := by rw [List.map_map]; rfl
   have hb := has_ev ((l.take i).map (fun m => m.f0)) (rd_T42 l i).f0 (by rw [List.length_map, List.length_take]; omega)
   have htk : (l.take (i + 1)) = l.take i ++ [rd_T42 l i] := by
    have := take_rd l (i : Int) (by omega) (by omega)
    simpa using this
   rw [drop_mods l i (by omega)]
   unfold twice
   by_cases hc : ((l.take i).map nm).contains (nm (rd_T42 l i)) = true
   · rw [if_pos hc]
     rw [decide_eq_true ((mem_nm _ _).1 (by rw [<- hT]; exact List.contains_iff_mem.1 hc))] at hb
     refine Ev.step (fun k => ?_) (Ev.bind hb (f := fun k t => if t = true then some (13, (rd_T42 l i).f0, 0, 0) else r_consistent.l0 k l ((l.take i).map (fun m => m.f0) ++ [(rd_T42 l i).f0]) ((i + 1 : Nat) : Int)) (Ev.now _))
     simp only [r_consistent.l0]
     rw [if_pos (by omega), if_pos (by omega), succ_cast i (by omega)]
     congr 1
     funext t
     rw [if_pos (show ((l.take i).map (fun m => m.f0)).length < 8796093022208 by rw [List.length_map, List.length_take]; omega)]
   rw [if_neg hc]
   rw [decide_eq_false (fun h => hc (List.contains_iff_mem.2 (by rw [hT]; exact (mem_nm _ _).2 h)))] at hb
   have h2 := ih (i + 1) (by omega)
   rw [htk, List.map_append, List.map_append] at h2
   refine Ev.step (fun k => ?_) (Ev.bind hb (f := fun k t => if t = true then some (13, (rd_T42 l i).f0, 0, 0) else r_consistent.l0 k l ((l.take i).map (fun m => m.f0) ++ [(rd_T42 l i).f0]) ((i + 1 : Nat) : Int)) h2)
   simp only [r_consistent.l0]
   rw [if_pos (by omega), if_pos (by omega), succ_cast i (by omega)]
   congr 1
   funext t
   rw [if_pos (show ((l.take i).map (fun m => m.f0)).length < 8796093022208 by rw [List.length_map, List.length_take]; omega)]
 have h := k0 l.length 0 (by omega)
 rw [List.drop_zero, List.take_zero, List.map_nil, List.map_nil] at h
 refine Ev.congr (fun k => ?_) (g := fun k => r_consistent.f k l) (f := fun k => r_consistent.l0 k l [] 0) ?_
 · unfold r_consistent.f
   rw [if_neg hl]
 · cases h1 : twice l [] with
   | some x => rw [h1] at h; exact h
   | none =>
    rw [h1] at h
    cases h2 : miss (l.map nm) l with
    | some x => simp only [h2] at h; exact h
    | none => simp only [h2] at h; exact h
theorem missI_none (K : List Nm) : ∀ {q : List S66}, missI K q = none -> ∀ i ∈ q, im i ∈ K := by
 intro q
 induction q with
 | nil => intro _ i hi; cases hi
 | cons i q ih =>
  intro h j hj
  unfold missI at h
  by_cases hc : K.contains (im i) = true
  rotate_left
  · rw [if_neg hc] at h; cases h
  rw [if_pos hc] at h
  rcases List.mem_cons.1 hj with rfl | hj
  · exact List.contains_iff_mem.1 hc
  · exact ih h j hj
theorem miss_none (K : List Nm) : ∀ {q : List S42}, miss K q = none -> ∀ m ∈ q, ∀ i ∈ m.f3, im i ∈ K := by
 intro q
 induction q with
 | nil => intro _ i hi; cases hi
 | cons a q ih =>
  intro h m hm
  unfold miss at h
  cases h1 : missI K a.f3 with
  | some x => rw [h1] at h; cases h
  | none =>
   rw [h1] at h
   rcases List.mem_cons.1 hm with rfl | hm
   · exact missI_none K h1
   · exact ih h m hm
structure Good (l : List S42) : Prop where
 len : l.length <= 32
 nod : (l.map nm).Nodup
 imp : ∀ m ∈ l, ∀ i ∈ m.f3, im i ∈ l.map nm
 few : ∀ m ∈ l, m.f3.length <= 100
theorem good_of {l : List S42} (h : (consF l).1 = 0) (hf : ∀ m ∈ l, m.f3.length <= 100) : Good l := by
 unfold consF at h
 by_cases hl : (l.length : Int) > 32
 · rw [if_pos hl] at h; cases h
 rw [if_neg hl] at h
 cases h1 : twice l [] with
 | some x => rw [h1] at h; cases h
 | none =>
  rw [h1] at h
  cases h2 : miss (l.map nm) l with
  | some x => simp only [h2] at h; cases h
  | none =>
   have h3 := twice_none l [] (by simp) h1
   exact ⟨by omega, by simpa using h3, miss_none _ h2, hf⟩
theorem good_fault {l : List S42} (h : (consF l).1 = 0) : (consF l).2 = ⟨#[]⟩ := by
 unfold consF at h ⊢
 by_cases hl : (l.length : Int) > 32
 · rw [if_pos hl] at h; cases h
 rw [if_neg hl] at h ⊢
 cases h1 : twice l [] with
 | some x => rw [h1] at h; cases h
 | none =>
  rw [h1] at h
  cases h2 : miss (l.map nm) l with
  | some x => simp only [h2] at h; cases h
  | none => rfl
def nb (l : List S42) (i : Int) : ByteArray := rdOf ByteArray.empty (namesOf l) i
section
variable {l : List S42}
def NL (l : List S42) : List Nm := asc (l.map nm)
theorem NL_len (G : Good l) : (NL l).length = l.length := by
 have h1 := (asc_elems (l.map nm)).nodup
 have h2 : ∀ (a b : List Nm), a.Nodup -> (∀ x ∈ a, x ∈ b) -> a.length <= b.length := by
  intro a
  induction a with
  | nil => intro b _ _; simp
  | cons x a ih =>
   intro b hn hs
   rw [List.nodup_cons] at hn
   have hx := hs x (by simp)
   have := ih (b.erase x) hn.2 (fun y hy => (List.mem_erase_of_ne (by rintro rfl; exact hn.1 hy)).2 (hs y (by simp [hy])))
   rw [List.length_erase_of_mem hx] at this
   have := List.length_pos_of_mem hx
   rw [List.length_cons]; omega
 have h3 := h2 _ _ h1 (fun x hx => mem_asc.1 hx)
 have h4 := h2 _ _ G.nod (fun x hx => (mem_asc (S := l.map nm)).2 hx)
 rw [List.length_map] at h3 h4
 exact Nat.le_antisymm h3 h4
theorem es_len (G : Good l) : (edgesOf l).length = l.length := by
 unfold edgesOf; rw [List.length_map]; exact NL_len G
theorem nb_at (G : Good l) {i : Int} (h0 : 0 <= i) (h1 : i < l.length) : ∃ h : i.toNat < (NL l).length, nb l i = bz (NL l)[i.toNat] :=
 rd_bz (NL l) i h0 (by rw [NL_len G]; exact h1)
theorem nb_lt (G : Good l) {i j : Int} (h0 : 0 <= i) (h1 : i < j) (h2 : j < l.length) : dat (nb l i) < dat (nb l j) := by
 obtain ⟨a, ha⟩ := nb_at G h0 (by omega)
 obtain ⟨b, hb⟩ := nb_at G (by omega) h2
 rw [ha, hb, dat_bz, dat_bz]
 exact List.pairwise_iff_getElem.1 (asc_lt (l.map nm)) _ _ a b (by omega)
theorem nb_inj (G : Good l) {i j : Int} (h0 : 0 <= i) (h1 : i < l.length) (h2 : 0 <= j) (h3 : j < l.length) (h : nb l i = nb l j) : i = j := by
 rcases Int.lt_trichotomy i j with e | e | e
 · have := nb_lt G h0 e h3; rw [h] at this; exact absurd this (List.lt_irrefl _)
 · exact e
 · have := nb_lt G h2 e h1; rw [h] at this; exact absurd this (List.lt_irrefl _)
theorem rank_at (L : List Nm) (hp : L.Pairwise (· < ·)) (t : Nat) (ht : t < L.length) : rank L L[t] = t := by
 rcases Nat.lt_trichotomy (rank L L[t]) t with h | h | h
 · have h1 := rank_ge L L[t] (hp.imp (fun h => List.le_of_lt h)) (rank L L[t]) (by omega) (Nat.le_refl _)
   exact absurd (List.pairwise_iff_getElem.1 hp _ _ (by omega) ht h) h1
 · exact h
 · obtain ⟨h1, h2⟩ := rank_lt L L[t] t h
   exact absurd h2 (List.lt_irrefl _)
theorem nb_rank (G : Good l) {y : Nm} (hy : y ∈ l.map nm) : (0 : Int) <= (rank (NL l) y : Int) /\ (rank (NL l) y : Int) < l.length /\ nb l (rank (NL l) y : Int) = bz y := by
 obtain ⟨t, ht, rfl⟩ := List.mem_iff_getElem.1 ((mem_asc (S := l.map nm)).2 hy)
 have hr : rank (NL l) ((asc (l.map nm))[t]) = t := rank_at _ (asc_lt _) t ht
 rw [hr]
 have hl : t < l.length := by have := NL_len G; unfold NL at this; omega
 refine ⟨by omega, by omega, ?_⟩
 obtain ⟨h1, h2⟩ := nb_at G (i := (t : Int)) (by omega) (by omega)
 rw [h2]
 rfl
theorem rank_nb (G : Good l) {i : Int} (h0 : 0 <= i) (h1 : i < l.length) : (rank (NL l) (dat (nb l i)) : Int) = i := by
 obtain ⟨h, e⟩ := nb_at G h0 h1
 rw [e, dat_bz, rank_at (NL l) (asc_lt _) _ h]
 omega
theorem row_es (G : Good l) {i : Int} (h0 : 0 <= i) (h1 : i < l.length) : row (edgesOf l) i = edgeOf l (dat (nb l i)) := by
 obtain ⟨h, e⟩ := nb_at G h0 h1
 rw [e, dat_bz]
 obtain ⟨t, rfl⟩ : ∃ t : Nat, i = t := ⟨i.toNat, by omega⟩
 have ht : t < (edgesOf l).length := by rw [es_len G]; omega
 rw [row_mem _ t ht]
 exact List.getElem_map (edgeOf l) (l := NL l) (h := ht)
theorem imps_in (G : Good l) (n : Nm) : (∀ y ∈ impsL l n, y ∈ l.map nm) /\ (impsL l n).length <= 100 := by
 unfold impsL
 cases h : l.find? (fun m => nm m == n) with
 | none => simp
 | some m =>
  have hm := List.mem_of_find?_eq_some h
  simp only [Option.map_some, Option.getD_some]
  refine ⟨fun y hy => ?_, by rw [List.length_map]; exact G.few m hm⟩
  obtain ⟨i, hi, rfl⟩ := List.mem_map.1 hy
  exact G.imp m hm i hi
theorem row_nb (G : Good l) {i : Int} (h0 : 0 <= i) (h1 : i < l.length) : (row (edgesOf l) i).map (nb l) = (asc (impsL l (dat (nb l i)))).map bz := by
 rw [row_es G h0 h1]
 unfold edgeOf
 rw [List.map_map]
 refine List.map_congr_left fun y hy => ?_
 exact (nb_rank G ((imps_in G _).1 y (mem_asc.1 hy))).2.2
theorem es_vld (G : Good l) : Vld (edgesOf l) := by
 intro v hv w hw
 have hv' : v < l.length := by have := hv.2; rw [es_len G] at this; exact this
 rw [row_es G hv.1 hv'] at hw
 unfold edgeOf at hw
 obtain ⟨y, hy, rfl⟩ := List.mem_map.1 hw
 have := nb_rank G ((imps_in G _).1 y (mem_asc.1 hy))
 exact ⟨this.1, by rw [es_len G]; exact this.2.1⟩
theorem row_len (G : Good l) {v : Int} (h0 : 0 <= v) (h1 : v < l.length) : (row (edgesOf l) v).length <= 100 := by
 rw [row_es G h0 h1]
 unfold edgeOf
 rw [List.length_map]
 exact Nat.le_trans (asc_len _) (imps_in G _).2
theorem es_sm (G : Good l) : Sm (edgesOf l) := by
 refine ⟨by rw [es_len G]; have := G.len; omega, fun j hj => ?_⟩
 rw [es_len G] at hj
 have := row_len G (v := (j : Int)) (by omega) (by omega)
 omega
theorem names_iota (G : Good l) : namesOf l = (iota l.length).map (nb l) := by
 have hlen : (namesOf l).length = l.length := by unfold namesOf; rw [List.length_map]; exact NL_len G
 refine List.ext_getElem (by rw [hlen, List.length_map, iota_length]) (fun i h1 h2 => ?_)
 rw [List.getElem_map]
 have e : (iota l.length)[i]'(by rw [iota_length]; omega) = (i : Int) := by simp [iota]
 rw [e]
 unfold nb
 simp [rdOf, List.getElem?_eq_getElem h1]
theorem names_len (G : Good l) : (namesOf l).length = l.length := by unfold namesOf; rw [List.length_map]; exact NL_len G
def VL (l : List S42) (L : List Int) : Prop := ∀ x ∈ L, 0 <= x /\ x < l.length
theorem VL.row (G : Good l) {v : Int} (h0 : 0 <= v) (h1 : v < l.length) : VL l (row (edgesOf l) v) := fun x hx => by
 have := es_vld G v ⟨h0, by rw [es_len G]; exact h1⟩ x hx
 unfold nd at this
 rw [es_len G] at this
 exact this
theorem mem_nb (G : Good l) {L : List Int} (hL : VL l L) {i : Int} (h0 : 0 <= i) (h1 : i < l.length) : nb l i ∈ L.map (nb l) ↔ i ∈ L := by
 constructor
 · intro h
   obtain ⟨j, hj, e⟩ := List.mem_map.1 h
   exact nb_inj G (hL j hj).1 (hL j hj).2 h0 h1 e ▸ hj
 · intro h
   exact List.mem_map.2 ⟨i, h, rfl⟩
theorem has_at (G : Good l) {L : List Int} (hL : VL l L) {i : Int} (h0 : 0 <= i) (h1 : i < l.length) (hl : L.length < 1000000) : Ev (fun k => q_Has.f k (L.map (nb l)) (nb l i)) (decide (i ∈ L)) := by
 have h := has_ev (L.map (nb l)) (nb l i) (by rw [List.length_map]; exact hl)
 rw [show decide (nb l i ∈ L.map (nb l)) = decide (i ∈ L) from decide_eq_decide.2 (mem_nb G hL h0 h1)] at h
 exact h
theorem imps_at (G : Good l) {i : Int} (h0 : 0 <= i) (h1 : i < l.length) : Ev (fun k => r_Imports.f k l (nb l i)) ((row (edgesOf l) i).map (nb l)) := by
 rw [row_nb G h0 h1]
 exact imps_ev l (nb l i) (by have := G.len; omega) (fun m hm => by have := G.few m hm; omega) G.nod
theorem names_at (G : Good l) : Ev (fun k => r_Names.f k l) ((iota l.length).map (nb l)) := by
 rw [<- names_iota G]
 exact names_ev l (by have := G.len; omega)
def insI (s : Int) : List Int -> List Int
 | [] => [s]
 | x :: l => if s < x then s :: x :: l else if s = x then x :: l else x :: insI s l
theorem mem_insI {s x : Int} : ∀ {L : List Int}, x ∈ insI s L ↔ x = s \/ x ∈ L := by
 intro L
 induction L with
 | nil => simp [insI]
 | cons y L ih =>
  unfold insI
  split
  · simp
  · split
    · rename_i h; subst h; simp
    · simp only [List.mem_cons, ih]
      constructor
      · rintro (h | h | h)
        · exact .inr (.inl h)
        · exact .inl h
        · exact .inr (.inr h)
      · rintro (h | h | h)
        · exact .inr (.inl h)
        · exact .inl h
        · exact .inr (.inr h)
theorem insI_lt (s : Int) : ∀ {L : List Int}, L.Pairwise (· < ·) -> (insI s L).Pairwise (· < ·) := by
 intro L
 induction L with
 | nil => intro _; simp [insI]
 | cons y L ih =>
  intro h
  rw [List.pairwise_cons] at h
  unfold insI
  split
  · rename_i h1
    rw [List.pairwise_cons]
    refine ⟨fun z hz => ?_, List.pairwise_cons.2 h⟩
    rcases List.mem_cons.1 hz with rfl | hz
    · exact h1
    · have := h.1 z hz; omega
  · split
    · exact List.pairwise_cons.2 h
    · rename_i h1 h2
      rw [List.pairwise_cons]
      refine ⟨fun z hz => ?_, ih h.2⟩
      rcases mem_insI.1 hz with rfl | hz
      · omega
      · exact h.1 z hz
theorem VL.insI {L : List Int} (hL : VL l L) {i : Int} (h0 : 0 <= i) (h1 : i < l.length) : VL l (insI i L) := fun x hx => by
 rcases mem_insI.1 hx with rfl | hx
 · exact ⟨h0, h1⟩
 · exact hL x hx
theorem insU_nb (G : Good l) {i : Int} (h0 : 0 <= i) (h1 : i < l.length) : ∀ {L : List Int}, VL l L -> insU (dat (nb l i)) (L.map (fun x => dat (nb l x))) = (insI i L).map (fun x => dat (nb l x)) := by
 intro L
 induction L with
 | nil => intro _; rfl
 | cons x L ih =>
  intro hL
  have hx := hL x (by simp)
  rw [List.map_cons, insU, insI]
  rcases Int.lt_trichotomy i x with e | e | e
  · rw [if_pos (nb_lt G h0 e hx.2), if_pos e]; rfl
  · subst e
    rw [if_neg (List.lt_irrefl _), if_pos rfl, if_neg (by omega), if_pos rfl]; rfl
  · have h2 := nb_lt G hx.1 e h1
    rw [if_neg (fun h => List.lt_irrefl _ (List.lt_trans h h2)), if_neg (fun h => by rw [h] at h2; exact List.lt_irrefl _ h2), if_neg (by omega), if_neg (by omega), ih (fun y hy => hL y (by simp [hy]))]
    rfl
theorem ins_at (G : Good l) {L : List Int} (hL : VL l L) {i : Int} (h0 : 0 <= i) (h1 : i < l.length) (hl : L.length < 1000000) : Ev (fun k => r_Insert.f k (L.map (nb l)) (nb l i)) ((insI i L).map (nb l)) := by
 have e : ∀ q : List Int, q.map (nb l) = (q.map (fun x => dat (nb l x))).map bz := fun q => by
  rw [List.map_map]
  exact List.map_congr_left fun x _ => (bz_dat _).symm
 have h := ins_ev (L.map (fun x => dat (nb l x))) (nb l i) (by rw [List.length_map]; exact hl)
 rw [insU_nb G h0 h1 hL, <- e, <- e] at h
 exact h
theorem rd_strs {L : List Int} (j : Nat) (h : j < L.length) : rdOf ByteArray.empty (L.map (nb l)) (j : Int) = nb l (rd L j) := by
 rw [rd_at L j h]
 simp [rdOf, List.getElem?_eq_getElem h]
theorem named_at (G : Good l) {L : List Int} (hL : VL l L) (hl : L.length < 1000000) : Ev (fun k => p_named.f k (namesOf l) (edgesOf l) L) (L.map (nb l)) := by
 have key : ∀ (m j : Nat) (R : List ByteArray), j + m = L.length -> R.length = j -> Ev (fun k => p_named.l0 k R L (L.length : Int) j (namesOf l) (edgesOf l)) (R ++ (L.drop j).map (nb l)) := by
  intro m
  induction m with
  | zero =>
   intro j R hj hR
   rw [List.drop_eq_nil_of_le (by omega), List.map_nil, List.append_nil]
   refine Ev.step (fun k => ?_) (Ev.now _)
   simp only [p_named.l0]
   rw [if_neg (by omega)]
  | succ m ih =>
   intro j R hj hR
   have hv := hL (rd L j) (by rw [rd_at L j (by omega)]; exact List.getElem_mem _)
   have h2 := ih (j + 1) (R ++ [nb l (rd L j)]) (by omega) (by simp; omega)
   rw [drop_row L j (by omega), List.map_cons]
   rw [List.append_assoc, List.singleton_append] at h2
   refine Ev.step (fun k => ?_) h2
   simp only [p_named.l0]
   rw [if_pos (by omega), if_pos (by omega), if_pos (by omega), if_pos hv.1, if_pos (by rw [names_len G]; exact hv.2), if_pos (by omega), succ_cast j (by omega)]
   rfl
 have h := key L.length 0 [] (by omega) rfl
 rw [List.drop_zero, List.nil_append] at h
 exact h
end
end Tp
end Go.Proofs.Ytmadhaccjmakdaa
