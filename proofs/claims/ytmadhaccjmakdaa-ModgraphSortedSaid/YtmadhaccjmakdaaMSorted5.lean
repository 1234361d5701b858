/- Part 5 of 6 of one proof: Walks, and what distances answers -/
import Derived.Test.YtmadhaccjmakdaaMSorted1
import Derived.Test.YtmadhaccjmakdaaMSorted2
import Derived.Test.YtmadhaccjmakdaaMSorted3
import Derived.Test.YtmadhaccjmakdaaMSorted4
set_option linter.unusedVariables false
set_option linter.unusedSimpArgs false
set_option maxHeartbeats 8000000
set_option maxRecDepth 100000
namespace Go.Proofs.Ytmadhaccjmakdaa.P
open Go.RowKit Go.Proofs.Yw.A Go.Proofs.Yw.B Go.Proofs.Yw.C
theorem info42 : (Try.prog.info? 42).map (fun i => (i.zero, i.size, i.bytes)) = some (some (.agg #[(.string ⟨#[]⟩), (.bool false), (.slice none 0 0), (.slice none 0 0), (.slice none 0 0)]), 5, 96) := by kernel_rfl
attribute [local go_sem] str_gtr str_leq str_geq max2_int min2_int max_two min_two max_three min_three max_four min_four
mutual
noncomputable def w_ModgraphSorted.l0 : Nat -> List (S42) -> List (S42) -> Int -> Option (Bool)
  | 0, _, _, _ => none
  | k + 1, x0, x3, x4 => if x4 >= 0 then (w_ModgraphSorted.j1 k x0 x3 x4 (decide ((x0.length : Int) <= 32))) else (w_ModgraphSorted.j1 k x0 x3 x4 false)
noncomputable def w_ModgraphSorted.j1 : Nat -> List (S42) -> List (S42) -> Int -> Bool -> Option (Bool)
  | 0, _, _, _, _ => none
  | k + 1, x0, x3, x4, x21 => if x21 = true then (if 0 <= x4 then (if x4 < (x0.length : Int) then (if (((rd_T42 x0 x4).f3).length : Int) > 12 then ((w_awake.f).bind fun t328 => (some t328)) else (if x3.length < 1466015503701 then (w_ModgraphSorted.l0 k x0 (x3 ++ [(⟨(rd_T42 x0 x4).f0, (rd_T42 x0 x4).f1, (rd_T42 x0 x4).f2, (rd_T42 x0 x4).f3, (rd_T42 x0 x4).f4⟩ : S42)]) (wrap64 (x4 - 1))) else (none))) else (none)) else (none)) else (if (x0.length : Int) > 32 then ((w_awake.f).bind fun t333 => (some t333)) else ((m_Order.f k x0).bind fun bt334 => ((m_Order.f k x3).bind fun bt342 => ((w_same.f k bt334.1 bt342.1).bind fun t350 => (if t350 = true then (if bt334.2.1 = 0 then (w_ModgraphSorted.l1 k x0 bt334.1 0) else (if (bt334.1.length : Int) = 0 then ((w_awake.f).bind fun t351 => (some t351)) else (some false))) else (some false))))))
noncomputable def w_ModgraphSorted.l1 : Nat -> List (S42) -> List ByteArray -> Int -> Option (Bool)
  | 0, _, _, _ => none
  | k + 1, x0, x5, x9 => if x9 < (x5.length : Int) then (if 0 <= x9 then (if x9 <= (x5.length : Int) then ((q_Has.f k (x5.take (x9 : Int).toNat) (rdOf ByteArray.empty x5 x9)).bind fun t359 => (if t359 = true then (some false) else ((r_Imports.f k x0 (rdOf ByteArray.empty x5 x9)).bind fun t361 => (w_ModgraphSorted.l2 k x0 x5 x9 t361 0)))) else (none)) else (none)) else (if (x5.length : Int) = (x0.length : Int) then ((w_awake.f).bind fun t352 => (some t352)) else (some false))
noncomputable def w_ModgraphSorted.l2 : Nat -> List (S42) -> List ByteArray -> Int -> List ByteArray -> Int -> Option (Bool)
  | 0, _, _, _, _, _ => none
  | k + 1, x0, x5, x9, x10, x11 => if x11 < (x10.length : Int) then (if 0 <= x9 then (if x9 <= (x5.length : Int) then (if 0 <= x11 then ((q_Has.f k (x5.take (x9 : Int).toNat) (rdOf ByteArray.empty x10 x11)).bind fun t370 => (if t370 = true then (w_ModgraphSorted.l2 k x0 x5 x9 x10 (wrap64 (x11 + 1))) else (some false))) else (none)) else (none)) else (none)) else (w_ModgraphSorted.l1 k x0 x5 (wrap64 (x9 + 1)))
end
noncomputable def w_ModgraphSorted.f (k : Nat) (l0 : List (S42)) : Option (Bool) := w_ModgraphSorted.l0 k l0 ([] : List (S42)) (wrap64 ((l0.length : Int) - 1))
theorem w_ModgraphSorted.calls (k : Nat) (A0 : Option Addr) (c0 : Nat) (l0 : List (S42)) (r : Bool) (w : World) (hr0 : Kd.C k42 w A0 l0.length l0) (hc0 : l0.length <= c0) (h : w_ModgraphSorted.f k l0 = some r) :
    Calls Try.prog 6 #[.slice A0 l0.length c0] w fun e w' => e = .returned (.bool r) /\ Below w.heap.size w w' := by
  have hu42 := Try.underlying42
  have hu28 := Try.underlying28
  have HR0 := aM hr0
  have HC0 := aM hc0
  clear hr0 hc0
  have HB := aM (Below.refl w.heap.size w)
  have H : (w_ModgraphSorted.l0 k l0 ([] : List (S42)) (wrap64 ((l0.length : Int) - 1))) = some r := h
  clear h
  have H' := aM H
  clear H
  go_enter Try.func6, Try.ntmps6
  go_wp2
  repeat (go_quiet (fail); try go_wp2)
  go_loopg [3, 4] k (fun kq v3 v4 w' => ∃ (x3_1 : List (S42)) (x4_1 : Int), v4 = .int .i64 x4_1 /\ Az (w_ModgraphSorted.l0 kq l0 x3_1 x4_1 = some r) /\ Az (kq <= k) /\ Az (Kd.N k42 42 w' w.heap.size (fun _ => True) v3 x3_1) /\ Az (Below w.heap.size w w'))
  case atStart => exact ⟨(([] : List (S42))), (wrap64 ((l0.length : Int) - 1)), rr, H', ⟨Nat.le_refl _⟩, ⟨by first | exact Kd.R_nil _ _ _ _ _ | exact Kd.N_nil _ _ _ _ _ | exact Kd.V_nil _ _ _ _ _ | exact Kd.Q_nil _ _ _ _ _ | exact Kd.S_nil _ _ _ _ _⟩, ⟨hh HB⟩⟩
  case round =>
    clear H'
    obtain ⟨x3_1, x4_1, rfl, HA, HK1, HO_3, HB⟩ := hrel
    cases gk with
    | zero => exact absurd HA.1 (by simp [w_ModgraphSorted.l0])
    | succ k1 =>
      have H := HA.1
      clear HA
      simp only [w_ModgraphSorted.l0] at H
      have HC2 := aM H
      clear H
      go_upto_region 3 with (fail)
      repeat (go_quiet (fail); go_upto_region 3 with (fail))
      go_cut [21] (fun v21 wc => ∃ (kq : Nat) (x21_1 : Bool), v21 = .bool x21_1 /\ Az (w_ModgraphSorted.j1 kq l0 x3_1 x4_1 x21_1 = some r) /\ Az (kq <= k1) /\ Az (Kd.N k42 42 wc w.heap.size (fun _ => True) u3 x3_1) /\ Az (Below w.heap.size w wc))
      case first =>
        have H := HC2.1
        clear HC2
        by_cases c3 : x4_1 >= 0
        · rw [if_pos c3] at H
          have c3b0 : decide (0 <= x4_1) = true := decide_eq_true c3
          clear c3
          (first | rw [c3b0] | (simp only [i64_w, i32_w]; rw [c3b0]) | skip)
          have H' := aM H
          clear H
          go_wp2
          repeat (go_quiet (fail); try go_wp2)
          go_meet
          case rel => exact ⟨_, (decide ((l0.length : Int) <= 32)), rr, H', (ol HK1), ⟨by (with_reducible repeat (first | apply Kd.N_alloc | apply Kd.N_drewN | apply Kd.N_drew)); exact HO_3.1⟩, ⟨hh HB⟩⟩
        · rw [if_neg c3] at H
          have c3b0 : decide (0 <= x4_1) = false := decide_eq_false c3
          clear c3
          (first | rw [c3b0] | (simp only [i64_w, i32_w]; rw [c3b0]) | skip)
          have H' := aM H
          clear H
          go_wp2
          repeat (go_quiet (fail); try go_wp2)
          go_meet
          case rel => exact ⟨_, (false), rr, H', (ol HK1), ⟨by (with_reducible repeat (first | apply Kd.N_alloc | apply Kd.N_drewN | apply Kd.N_drew)); exact HO_3.1⟩, ⟨hh HB⟩⟩
      case rest =>
        clear HC2
        try clear p2
        try clear c3
        try clear c3b0
        obtain ⟨kq, x21_1, rfl, HA, HJ1, HO_3, HB⟩ := hcut
        cases kq with
        | zero => exact absurd HA.1 (by simp [w_ModgraphSorted.j1])
        | succ kj1 =>
          have H := HA.1
          clear HA
          simp only [w_ModgraphSorted.j1] at H
          by_cases c4 : x21_1 = true
          · subst c4
            rw [if_pos rfl] at H
            by_cases c5 : 0 <= x4_1
            · rw [if_pos c5] at H
              have c5b0 : decide (0 <= x4_1) = true := decide_eq_true c5
              clear c5
              by_cases c6 : x4_1 < (l0.length : Int)
              · rw [if_pos c6] at H
                have c6b0 : decide (x4_1 < (l0.length : Int)) = true := decide_eq_true c6
                clear c6
                by_cases c7 : (((rd_T42 l0 x4_1).f3).length : Int) > 12
                · rw [if_pos c7] at H
                  have c7b0 : decide (12 < (((rd_T42 l0 x4_1).f3).length : Int)) = true := decide_eq_true c7
                  have c7b1 : decide (12 < ((rd_T42 l0 x4_1).f3).length) = true := decide_eq_true (by omega)
                  clear c7
                  replace H := Option.bind_eq_some_iff.mp H
                  obtain ⟨t328, A80, H⟩ := H
                  try dsimp only at H
                  have A8 := aM A80
                  clear A80
                  obtain rfl := Option.some.inj H
                  have p327 : 0 <= (x4_1 : Int) := dt
                  have q327 : x4_1 < (l0.length : Int) := dt
                  obtain ⟨ad327, A327_2, c327_2, A327_3, c327_3, e327, hx327_0, hx327_1, hx327_2, hx327_3, hx327_4, hl327_2, hi327_2, hl327_3, hi327_3⟩ := at_T42 HR0.1 x4_1 p327 q327
                  cases e327
                  replace hx327_0 := hx HB hx327_0
                  replace hx327_1 := hx HB hx327_1
                  have hw_ea327_2 := aM hx327_2; replace hx327_2 := hx HB hx327_2
                  have hw_ea327_3 := aM hx327_3; replace hx327_3 := hx HB hx327_3
                  replace hx327_4 := hx HB hx327_4
                  have HR327_2 := aM hi327_2
                  have HC327_2 := aM hl327_2
                  clear hi327_2 hl327_2
                  have HR327_3 := aM hi327_3
                  have HC327_3 := aM hl327_3
                  clear hi327_3 hl327_3
                  replace p327 := eq_true p327
                  replace q327 := eq_true q327
                  go_wp2_with (first | (go_at_call 9; (with_reducible refine (w_awake.calls  t328 _ A8.1).mono ?_); rintro e w9 ⟨rfl, hb⟩; replace HO_3 := aM (Kd.N_below (by (with_reducible repeat (first | apply Kd.N_alloc | apply Kd.N_drewN | apply Kd.N_drew)); exact HO_3.1) hb); replace HB := bs HB hb; (try clear hb); (try clear hb2); (try clear hk); (try clear hi)))
                  repeat (go_quiet (first | (go_at_call 9; (with_reducible refine (w_awake.calls  t328 _ A8.1).mono ?_); rintro e w9 ⟨rfl, hb⟩; replace HO_3 := aM (Kd.N_below (by (with_reducible repeat (first | apply Kd.N_alloc | apply Kd.N_drewN | apply Kd.N_drew)); exact HO_3.1) hb); replace HB := bs HB hb; (try clear hb); (try clear hb2); (try clear hk); (try clear hi))); try go_wp2_with (first | (go_at_call 9; (with_reducible refine (w_awake.calls  t328 _ A8.1).mono ?_); rintro e w9 ⟨rfl, hb⟩; replace HO_3 := aM (Kd.N_below (by (with_reducible repeat (first | apply Kd.N_alloc | apply Kd.N_drewN | apply Kd.N_drew)); exact HO_3.1) hb); replace HB := bs HB hb; (try clear hb); (try clear hb2); (try clear hk); (try clear hi))))
                  go_ret
                  exact ⟨by first | rfl | (simp [errW_none, errW_some] <;> rfl) | (simp [*, errW_none, errW_some] <;> rfl), hh HB⟩
                · rw [if_neg c7] at H
                  have c7b0 : decide (12 < (((rd_T42 l0 x4_1).f3).length : Int)) = false := decide_eq_false c7
                  have c7b1 : decide (12 < ((rd_T42 l0 x4_1).f3).length) = false := decide_eq_false (by omega)
                  clear c7
                  by_cases c10 : x3_1.length < 1466015503701
                  · rw [if_pos c10] at H
                    have LMc10 := aM c10
                    clear c10
                    obtain ⟨y330, hy330⟩ : ∃ y_ : List (S42), y_ = (x3_1 ++ [(⟨(rd_T42 l0 x4_1).f0, (rd_T42 l0 x4_1).f1, (rd_T42 l0 x4_1).f2, (rd_T42 l0 x4_1).f3, (rd_T42 l0 x4_1).f4⟩ : S42)]) := ⟨_, rfl⟩
                    replace H : (w_ModgraphSorted.l0 kj1 l0 y330 (wrap64 (x4_1 - 1))) = some r := by first | (rw [hy330]; with_reducible exact H) | (have H2_ := (Option.bind_some _ _).symm.trans H; rw [hy330]; with_reducible exact H2_) | (have H2_ := (Option.bind_some _ _).symm.trans H; with_reducible exact H2_) | with_reducible exact H | (rw [hy330]; exact H) | exact H
                    have Ny330 := aM hy330
                    clear hy330
                    have H' := aM H
                    clear H
                    have p327 : 0 <= (x4_1 : Int) := dt
                    have q327 : x4_1 < (l0.length : Int) := dt
                    obtain ⟨ad327, A327_2, c327_2, A327_3, c327_3, e327, hx327_0, hx327_1, hx327_2, hx327_3, hx327_4, hl327_2, hi327_2, hl327_3, hi327_3⟩ := at_T42 HR0.1 x4_1 p327 q327
                    cases e327
                    replace hx327_0 := hx HB hx327_0
                    replace hx327_1 := hx HB hx327_1
                    have hw_ea327_2 := aM hx327_2; replace hx327_2 := hx HB hx327_2
                    have hw_ea327_3 := aM hx327_3; replace hx327_3 := hx HB hx327_3
                    replace hx327_4 := hx HB hx327_4
                    have HR327_2 := aM hi327_2
                    have HC327_2 := aM hl327_2
                    clear hi327_2 hl327_2
                    have HR327_3 := aM hi327_3
                    have HC327_3 := aM hl327_3
                    clear hi327_3 hl327_3
                    replace p327 := eq_true p327
                    replace q327 := eq_true q327
                    have p329 : 0 <= (x4_1 : Int) := dt
                    have q329 : x4_1 < (l0.length : Int) := dt
                    obtain ⟨ad329, A329_2, c329_2, A329_3, c329_3, e329, hx329_0, hx329_1, hx329_2, hx329_3, hx329_4, hl329_2, hi329_2, hl329_3, hi329_3⟩ := at_T42 HR0.1 x4_1 p329 q329
                    obtain rfl : ad327 = ad329 := (by injection e329)
                    replace hx329_0 := hx HB hx329_0
                    replace hx329_1 := hx HB hx329_1
                    have hw_ea329_2 := aM hx329_2; replace hx329_2 := hx HB hx329_2
                    have hw_ea329_3 := aM hx329_3; replace hx329_3 := hx HB hx329_3
                    replace hx329_4 := hx HB hx329_4
                    have HR329_2 := aM hi329_2
                    have HC329_2 := aM hl329_2
                    clear hi329_2 hl329_2
                    have HR329_3 := aM hi329_3
                    have HC329_3 := aM hl329_3
                    clear hi329_3 hl329_3
                    replace p329 := eq_true p329
                    replace q329 := eq_true q329
                    have ea_ := Option.some.inj (by first | exact hx327_2.symm.trans hx329_2 | exact hw_ea327_2.1.symm.trans hw_ea329_2.1)
                    injection ea_ with ea_ en_ ec_
                    subst ea_
                    subst ec_
                    clear en_
                    have ea_ := Option.some.inj (by first | exact hx327_3.symm.trans hx329_3 | exact hw_ea327_3.1.symm.trans hw_ea329_3.1)
                    injection ea_ with ea_ en_ ec_
                    subst ea_
                    subst ec_
                    clear en_
                    go_wp2_with (first | ((with_reducible refine gate_builtin (b := .append) (xs := #[.tmp 32, .tmp 37]) rfl ?_); (try (refine gate_guard (by rfl) ?_; dsimp only)); at_builtin; refine Kd.N_append k42 (w0 := w) w.heap.size rfl (.tmp 32) (.tmp 37) 22 42 (.agg #[(.string ⟨#[]⟩), (.bool false), (.slice none 0 0), (.slice none 0 0), (.slice none 0 0)]) 96 rfl Try.underlying22 info42 rfl (by decide) (by omega) u3 x3_1 (⟨(rd_T42 l0 x4_1).f0, (rd_T42 l0 x4_1).f1, (rd_T42 l0 x4_1).f2, (rd_T42 l0 x4_1).f3, (rd_T42 l0 x4_1).f4⟩ : S42) [.string ((rd_T42 l0 x4_1).f0), .bool ((rd_T42 l0 x4_1).f1), .slice A327_2 ((rd_T42 l0 x4_1).f2).length c327_2, .slice A327_3 ((rd_T42 l0 x4_1).f3).length c327_3, .slice ((rd_T42 l0 x4_1).f4).a ((rd_T42 l0 x4_1).f4).n ((rd_T42 l0 x4_1).f4).c] (fun _ => True) (fun k_ => ((fun _ => True)) k_ /\ some k_ ≠ (u3 : Value).ownBlock) rfl rfl ?aP (fun _ hk => hk) ?aF ?aO ?aB ?aS ?aL ?_; (case aP => exact (k42_mkF _ _ (⟨(rd_T42 l0 x4_1).f0, (rd_T42 l0 x4_1).f1, (rd_T42 l0 x4_1).f2, (rd_T42 l0 x4_1).f3, (rd_T42 l0 x4_1).f4⟩ : S42) (HC329_2.1) (gF (by first | exact k138_heap | exact k66_heap) HR329_2 HB) (HC329_3.1) (gF (by first | exact k138_heap | exact k66_heap) HR329_3 HB))); (case aB => exact (hh HB)); (case aF => exact (fun _ _ => trivial)); (case aO => exact (by (with_reducible repeat (first | apply Kd.N_alloc | apply Kd.N_drewN | apply Kd.N_drew)); exact HO_3.1)); (case aS => exact (below_size (hh HB))); (case aL => have := LMc10.1; omega); intro v331 w11 ho hb hg hat; rw [<- Ny330.1] at ho; have HO332 := aM (ho); replace HB := aM (hb); clear HO_3; clear ho hb hg hat))
                    repeat (go_quiet (first | ((with_reducible refine gate_builtin (b := .append) (xs := #[.tmp 32, .tmp 37]) rfl ?_); (try (refine gate_guard (by rfl) ?_; dsimp only)); at_builtin; refine Kd.N_append k42 (w0 := w) w.heap.size rfl (.tmp 32) (.tmp 37) 22 42 (.agg #[(.string ⟨#[]⟩), (.bool false), (.slice none 0 0), (.slice none 0 0), (.slice none 0 0)]) 96 rfl Try.underlying22 info42 rfl (by decide) (by omega) u3 x3_1 (⟨(rd_T42 l0 x4_1).f0, (rd_T42 l0 x4_1).f1, (rd_T42 l0 x4_1).f2, (rd_T42 l0 x4_1).f3, (rd_T42 l0 x4_1).f4⟩ : S42) [.string ((rd_T42 l0 x4_1).f0), .bool ((rd_T42 l0 x4_1).f1), .slice A327_2 ((rd_T42 l0 x4_1).f2).length c327_2, .slice A327_3 ((rd_T42 l0 x4_1).f3).length c327_3, .slice ((rd_T42 l0 x4_1).f4).a ((rd_T42 l0 x4_1).f4).n ((rd_T42 l0 x4_1).f4).c] (fun _ => True) (fun k_ => ((fun _ => True)) k_ /\ some k_ ≠ (u3 : Value).ownBlock) rfl rfl ?aP (fun _ hk => hk) ?aF ?aO ?aB ?aS ?aL ?_; (case aP => exact (k42_mkF _ _ (⟨(rd_T42 l0 x4_1).f0, (rd_T42 l0 x4_1).f1, (rd_T42 l0 x4_1).f2, (rd_T42 l0 x4_1).f3, (rd_T42 l0 x4_1).f4⟩ : S42) (HC329_2.1) (gF (by first | exact k138_heap | exact k66_heap) HR329_2 HB) (HC329_3.1) (gF (by first | exact k138_heap | exact k66_heap) HR329_3 HB))); (case aB => exact (hh HB)); (case aF => exact (fun _ _ => trivial)); (case aO => exact (by (with_reducible repeat (first | apply Kd.N_alloc | apply Kd.N_drewN | apply Kd.N_drew)); exact HO_3.1)); (case aS => exact (below_size (hh HB))); (case aL => have := LMc10.1; omega); intro v331 w11 ho hb hg hat; rw [<- Ny330.1] at ho; have HO332 := aM (ho); replace HB := aM (hb); clear HO_3; clear ho hb hg hat)); try go_wp2_with (first | ((with_reducible refine gate_builtin (b := .append) (xs := #[.tmp 32, .tmp 37]) rfl ?_); (try (refine gate_guard (by rfl) ?_; dsimp only)); at_builtin; refine Kd.N_append k42 (w0 := w) w.heap.size rfl (.tmp 32) (.tmp 37) 22 42 (.agg #[(.string ⟨#[]⟩), (.bool false), (.slice none 0 0), (.slice none 0 0), (.slice none 0 0)]) 96 rfl Try.underlying22 info42 rfl (by decide) (by omega) u3 x3_1 (⟨(rd_T42 l0 x4_1).f0, (rd_T42 l0 x4_1).f1, (rd_T42 l0 x4_1).f2, (rd_T42 l0 x4_1).f3, (rd_T42 l0 x4_1).f4⟩ : S42) [.string ((rd_T42 l0 x4_1).f0), .bool ((rd_T42 l0 x4_1).f1), .slice A327_2 ((rd_T42 l0 x4_1).f2).length c327_2, .slice A327_3 ((rd_T42 l0 x4_1).f3).length c327_3, .slice ((rd_T42 l0 x4_1).f4).a ((rd_T42 l0 x4_1).f4).n ((rd_T42 l0 x4_1).f4).c] (fun _ => True) (fun k_ => ((fun _ => True)) k_ /\ some k_ ≠ (u3 : Value).ownBlock) rfl rfl ?aP (fun _ hk => hk) ?aF ?aO ?aB ?aS ?aL ?_; (case aP => exact (k42_mkF _ _ (⟨(rd_T42 l0 x4_1).f0, (rd_T42 l0 x4_1).f1, (rd_T42 l0 x4_1).f2, (rd_T42 l0 x4_1).f3, (rd_T42 l0 x4_1).f4⟩ : S42) (HC329_2.1) (gF (by first | exact k138_heap | exact k66_heap) HR329_2 HB) (HC329_3.1) (gF (by first | exact k138_heap | exact k66_heap) HR329_3 HB))); (case aB => exact (hh HB)); (case aF => exact (fun _ _ => trivial)); (case aO => exact (by (with_reducible repeat (first | apply Kd.N_alloc | apply Kd.N_drewN | apply Kd.N_drew)); exact HO_3.1)); (case aS => exact (below_size (hh HB))); (case aL => have := LMc10.1; omega); intro v331 w11 ho hb hg hat; rw [<- Ny330.1] at ho; have HO332 := aM (ho); replace HB := aM (hb); clear HO_3; clear ho hb hg hat)))
                    go_roundg kj1
                    case measure => have := HK1.1; have := HJ1.1; omega
                    case rel => exact ⟨(y330), (wrap64 (x4_1 - 1)), rr, H', ⟨by have := HK1.1; have := HJ1.1; omega⟩, ⟨by (with_reducible repeat (first | apply Kd.N_alloc | apply Kd.N_drewN | apply Kd.N_drew)); exact HO332.1⟩, ⟨hh HB⟩⟩
                  · rw [if_neg c10] at H
                    exact absurd H (by simp)
              · rw [if_neg c6] at H
                exact absurd H (by simp)
            · rw [if_neg c5] at H
              exact absurd H (by simp)
          · replace c4 := Bool.eq_false_iff.mpr c4
            subst c4
            rw [if_neg (show ¬ (false = true) by decide)] at H
            by_cases c12 : (l0.length : Int) > 32
            · rw [if_pos c12] at H
              have c12b0 : decide (32 < (l0.length : Int)) = true := decide_eq_true c12
              have c12b1 : decide (32 < l0.length) = true := decide_eq_true (by omega)
              clear c12
              replace H := Option.bind_eq_some_iff.mp H
              obtain ⟨t333, A130, H⟩ := H
              try dsimp only at H
              have A13 := aM A130
              clear A130
              obtain rfl := Option.some.inj H
              go_wp2_with (first | (go_at_call 9; (with_reducible refine (w_awake.calls  t333 _ A13.1).mono ?_); rintro e w14 ⟨rfl, hb⟩; replace HO_3 := aM (Kd.N_below (by (with_reducible repeat (first | apply Kd.N_alloc | apply Kd.N_drewN | apply Kd.N_drew)); exact HO_3.1) hb); replace HB := bs HB hb; (try clear hb); (try clear hb2); (try clear hk); (try clear hi)))
              repeat (go_quiet (first | (go_at_call 9; (with_reducible refine (w_awake.calls  t333 _ A13.1).mono ?_); rintro e w14 ⟨rfl, hb⟩; replace HO_3 := aM (Kd.N_below (by (with_reducible repeat (first | apply Kd.N_alloc | apply Kd.N_drewN | apply Kd.N_drew)); exact HO_3.1) hb); replace HB := bs HB hb; (try clear hb); (try clear hb2); (try clear hk); (try clear hi))); try go_wp2_with (first | (go_at_call 9; (with_reducible refine (w_awake.calls  t333 _ A13.1).mono ?_); rintro e w14 ⟨rfl, hb⟩; replace HO_3 := aM (Kd.N_below (by (with_reducible repeat (first | apply Kd.N_alloc | apply Kd.N_drewN | apply Kd.N_drew)); exact HO_3.1) hb); replace HB := bs HB hb; (try clear hb); (try clear hb2); (try clear hk); (try clear hi))))
              go_ret
              exact ⟨by first | rfl | (simp [errW_none, errW_some] <;> rfl) | (simp [*, errW_none, errW_some] <;> rfl), hh HB⟩
            · rw [if_neg c12] at H
              have c12b0 : decide (32 < (l0.length : Int)) = false := decide_eq_false c12
              have c12b1 : decide (32 < l0.length) = false := decide_eq_false (by omega)
              clear c12
              replace H := Option.bind_eq_some_iff.mp H
              obtain ⟨⟨t334, t337, t338, t339, t340⟩, A150, H⟩ := H
              try dsimp only at H
              have A15 := aM A150
              clear A150
              replace H := Option.bind_eq_some_iff.mp H
              obtain ⟨⟨t342, t345, t346, t347, t348⟩, A160, H⟩ := H
              try dsimp only at H
              have A16 := aM A160
              clear A160
              replace H := Option.bind_eq_some_iff.mp H
              obtain ⟨t350, A170, H⟩ := H
              try dsimp only at H
              have A17 := aM A170
              clear A170
              by_cases c18 : t350 = true
              · subst c18
                rw [if_pos rfl] at H
                by_cases c19 : t337 = 0
                · rw [if_pos c19] at H
                  have c19b0 : (t337 == 0) = true := beq_iff_eq.mpr c19
                  have c19b1 : (t337 != 0) = false := bne_eq_false_iff_eq.mpr c19
                  clear c19
                  have H' := aM H
                  clear H
                  go_wp2_with (first | (go_at_call 10; (with_reducible refine (m_Order.calls kj1 _ _ l0 t334 t337 t338 t339 t340 _ ?side1 ?side2 A15.1).mono ?_); (case side1 => exact cb HR0 HB); (case side2 => exact HC0.1); rintro e w20 ⟨v335, rfl, ho0, hb⟩; have HO336 := aM (Kd.R_lower ho0 (below_size (hh HB))); replace HO_3 := aM (Kd.N_elder' (by (with_reducible repeat (first | apply Kd.N_alloc | apply Kd.N_drewN | apply Kd.N_drew)); exact HO_3.1) (Kd.R_base ho0) hb); replace HB := bs HB hb; (try clear hb); (try clear hb2); (try clear hk); (try clear hi); (try clear ho0)) | ((with_reducible refine gate_dst (N := 6) rfl ?_); (try (refine gate_guard (by rfl) ?_; dsimp only)); refine be 6 rfl rfl #[.int .i64 0, .string (⟨#[]⟩ : ByteArray), .int .i64 0, .int .i64 0] 28 ?_; intro gb341 hg w21 hbox hb; have BK341 := aM hbox; have GW341 := gs hg HB; have GE341 := gs hg HB; replace HO_3 := aM (Kd.N_below (Kd.N_elderB (by (with_reducible repeat (first | apply Kd.N_alloc | apply Kd.N_drewN | apply Kd.N_drew)); exact HO_3.1) gb341 (Nat.le_of_eq hg.symm)) hb); replace HO336 := rb HO336 hb; replace HB := bs HB hb; clear hb hbox hg; obtain ⟨hcz22_0, hcz22_1, hcz22_2, hcz22_3⟩ := cz BK341; obtain ⟨hfz22_0, hfz22_1, hfz22_2, hfz22_3⟩ := fz BK341; obtain ⟨Ao23, co23, eo23⟩ := Kd.N_slice HO_3.1; subst eo23) | (go_at_call 10; (with_reducible refine (m_Order.calls kj1 _ _ x3_1 t342 t345 t346 t347 t348 _ ?side1 ?side2 A16.1).mono ?_); (case side1 => refine (Kd.N_reads' (e := 42) (base := w.heap.size) (ok := fun k_ => ((True /\ some k_ ≠ (v335 : Value).ownBlock) /\ k_ ≠ gb341)) (n := x3_1.length) (c := co23) ?_).2.2; exact (by (with_reducible repeat (first | apply Kd.N_alloc | apply Kd.N_drewN | apply Kd.N_drew)); exact (Kd.N_mono (Kd.N_far (p := ⟨gb341, 3, none⟩) (Kd.N_far (p := ⟨gb341, 2, none⟩) (Kd.N_far (p := ⟨gb341, 1, none⟩) (Kd.N_far (p := ⟨gb341, 0, none⟩) (Kd.N_mono HO_3.1 (fun k_ hk => (⟨hk, hk.2⟩ : _ /\ k_ ≠ gb341))) (fun _ hk => hk.2) (.int .i64 t337)) (fun _ hk => hk.2) (.string t338)) (fun _ hk => hk.2) (.int .i64 t339)) (fun _ hk => hk.2) (.int .i64 t340)) (fun _ h_ => h_.1)))); (case side2 => exact (Kd.N_reads' HO_3.1).2.1); rintro e w24 ⟨v343, rfl, ho0, hb⟩; have HO344 := aM (Kd.R_lower (Kd.R_new' ho0 (Kd.R_lt (rz (rf4 HO336 BK341 (by decide))))) (below_size (hh HB))); replace HO_3 := aM (Kd.N_elder' (by (with_reducible repeat (first | apply Kd.N_alloc | apply Kd.N_drewN | apply Kd.N_drew)); exact (Kd.N_mono (Kd.N_far (p := ⟨gb341, 3, none⟩) (Kd.N_far (p := ⟨gb341, 2, none⟩) (Kd.N_far (p := ⟨gb341, 1, none⟩) (Kd.N_far (p := ⟨gb341, 0, none⟩) (Kd.N_mono HO_3.1 (fun k_ hk => (⟨hk, hk.2⟩ : _ /\ k_ ≠ gb341))) (fun _ hk => hk.2) (.int .i64 t337)) (fun _ hk => hk.2) (.string t338)) (fun _ hk => hk.2) (.int .i64 t339)) (fun _ hk => hk.2) (.int .i64 t340)) (fun _ h_ => h_.1))) (Kd.R_base ho0) hb); replace HO336 := aM (Kd.R_elder' (rz (rf4 HO336 BK341 (by decide))) (Kd.R_base ho0) hb); replace BK341 := kg (o' := .cells #[.int .i64 t337, .string t338, .int .i64 t339, .int .i64 t340] 28 (0, 0)) BK341 hb; replace HB := bs HB hb; (try clear hb); (try clear hb2); (try clear hk); (try clear hi); (try clear ho0)) | ((with_reducible refine gate_dst (N := 8) rfl ?_); (try (refine gate_guard (by rfl) ?_; dsimp only)); refine be 8 rfl rfl #[.int .i64 0, .string (⟨#[]⟩ : ByteArray), .int .i64 0, .int .i64 0] 28 ?_; intro gb349 hg w25 hbox hb; have BK349 := aM hbox; have GW349 := gs hg HB; have GE349 := gs hg HB; have NB341_349 := nl hg BK341; have NB349_341 := nr hg BK341; replace HO_3 := aM (Kd.N_below (Kd.N_elderB (by (with_reducible repeat (first | apply Kd.N_alloc | apply Kd.N_drewN | apply Kd.N_drew)); exact HO_3.1) gb349 (Nat.le_of_eq hg.symm)) hb); replace HO336 := rb HO336 hb; replace HO344 := rb HO344 hb; replace BK341 := kb BK341 hb; replace HB := bs HB hb; clear hb hbox hg; have hnb26 := NB349_341.1; have hnc26 := NB341_349.1; obtain ⟨hcz27_0, hcz27_1, hcz27_2, hcz27_3⟩ := cz BK349; obtain ⟨hfz27_0, hfz27_1, hfz27_2, hfz27_3⟩ := fz BK349; obtain ⟨Ao28, co28, eo28⟩ := Kd.R_slice HO336.1; subst eo28; obtain ⟨Ao29, co29, eo29⟩ := Kd.R_slice HO344.1; subst eo29) | (go_at_call 14; (with_reducible refine (w_same.calls kj1 _ _ t334 _ _ t342 true _ ?side1 ?side2 ?side3 ?side4 A17.1).mono ?_); (case side1 => exact c2 (rf4 HO336 BK349 (by decide))); (case side2 => exact (Kd.R_reads' HO336.1).2.1); (case side3 => exact c2 (rf4 HO344 BK349 (by decide))); (case side4 => exact (Kd.R_reads' HO344.1).2.1); rintro e w' ⟨rfl, ⟨nd, rfl⟩⟩; (try first | exact ⟨rfl, _, World.drewN_drewN _ _ _⟩ | exact ⟨rfl, _, Eq.trans (World.drewN_drewN _ _ _) (congrArg (World.drewN _) (Nat.add_assoc _ _ _))⟩); obtain ⟨hcz30_0, hcz30_1, hcz30_2, hcz30_3⟩ := cz BK341; obtain ⟨hfz30_0, hfz30_1, hfz30_2, hfz30_3⟩ := fz BK341))
                  repeat (go_quiet (first | (go_at_call 10; (with_reducible refine (m_Order.calls kj1 _ _ l0 t334 t337 t338 t339 t340 _ ?side1 ?side2 A15.1).mono ?_); (case side1 => exact cb HR0 HB); (case side2 => exact HC0.1); rintro e w20 ⟨v335, rfl, ho0, hb⟩; have HO336 := aM (Kd.R_lower ho0 (below_size (hh HB))); replace HO_3 := aM (Kd.N_elder' (by (with_reducible repeat (first | apply Kd.N_alloc | apply Kd.N_drewN | apply Kd.N_drew)); exact HO_3.1) (Kd.R_base ho0) hb); replace HB := bs HB hb; (try clear hb); (try clear hb2); (try clear hk); (try clear hi); (try clear ho0)) | ((with_reducible refine gate_dst (N := 6) rfl ?_); (try (refine gate_guard (by rfl) ?_; dsimp only)); refine be 6 rfl rfl #[.int .i64 0, .string (⟨#[]⟩ : ByteArray), .int .i64 0, .int .i64 0] 28 ?_; intro gb341 hg w21 hbox hb; have BK341 := aM hbox; have GW341 := gs hg HB; have GE341 := gs hg HB; replace HO_3 := aM (Kd.N_below (Kd.N_elderB (by (with_reducible repeat (first | apply Kd.N_alloc | apply Kd.N_drewN | apply Kd.N_drew)); exact HO_3.1) gb341 (Nat.le_of_eq hg.symm)) hb); replace HO336 := rb HO336 hb; replace HB := bs HB hb; clear hb hbox hg; obtain ⟨hcz22_0, hcz22_1, hcz22_2, hcz22_3⟩ := cz BK341; obtain ⟨hfz22_0, hfz22_1, hfz22_2, hfz22_3⟩ := fz BK341; obtain ⟨Ao23, co23, eo23⟩ := Kd.N_slice HO_3.1; subst eo23) | (go_at_call 10; (with_reducible refine (m_Order.calls kj1 _ _ x3_1 t342 t345 t346 t347 t348 _ ?side1 ?side2 A16.1).mono ?_); (case side1 => refine (Kd.N_reads' (e := 42) (base := w.heap.size) (ok := fun k_ => ((True /\ some k_ ≠ (v335 : Value).ownBlock) /\ k_ ≠ gb341)) (n := x3_1.length) (c := co23) ?_).2.2; exact (by (with_reducible repeat (first | apply Kd.N_alloc | apply Kd.N_drewN | apply Kd.N_drew)); exact (Kd.N_mono (Kd.N_far (p := ⟨gb341, 3, none⟩) (Kd.N_far (p := ⟨gb341, 2, none⟩) (Kd.N_far (p := ⟨gb341, 1, none⟩) (Kd.N_far (p := ⟨gb341, 0, none⟩) (Kd.N_mono HO_3.1 (fun k_ hk => (⟨hk, hk.2⟩ : _ /\ k_ ≠ gb341))) (fun _ hk => hk.2) (.int .i64 t337)) (fun _ hk => hk.2) (.string t338)) (fun _ hk => hk.2) (.int .i64 t339)) (fun _ hk => hk.2) (.int .i64 t340)) (fun _ h_ => h_.1)))); (case side2 => exact (Kd.N_reads' HO_3.1).2.1); rintro e w24 ⟨v343, rfl, ho0, hb⟩; have HO344 := aM (Kd.R_lower (Kd.R_new' ho0 (Kd.R_lt (rz (rf4 HO336 BK341 (by decide))))) (below_size (hh HB))); replace HO_3 := aM (Kd.N_elder' (by (with_reducible repeat (first | apply Kd.N_alloc | apply Kd.N_drewN | apply Kd.N_drew)); exact (Kd.N_mono (Kd.N_far (p := ⟨gb341, 3, none⟩) (Kd.N_far (p := ⟨gb341, 2, none⟩) (Kd.N_far (p := ⟨gb341, 1, none⟩) (Kd.N_far (p := ⟨gb341, 0, none⟩) (Kd.N_mono HO_3.1 (fun k_ hk => (⟨hk, hk.2⟩ : _ /\ k_ ≠ gb341))) (fun _ hk => hk.2) (.int .i64 t337)) (fun _ hk => hk.2) (.string t338)) (fun _ hk => hk.2) (.int .i64 t339)) (fun _ hk => hk.2) (.int .i64 t340)) (fun _ h_ => h_.1))) (Kd.R_base ho0) hb); replace HO336 := aM (Kd.R_elder' (rz (rf4 HO336 BK341 (by decide))) (Kd.R_base ho0) hb); replace BK341 := kg (o' := .cells #[.int .i64 t337, .string t338, .int .i64 t339, .int .i64 t340] 28 (0, 0)) BK341 hb; replace HB := bs HB hb; (try clear hb); (try clear hb2); (try clear hk); (try clear hi); (try clear ho0)) | ((with_reducible refine gate_dst (N := 8) rfl ?_); (try (refine gate_guard (by rfl) ?_; dsimp only)); refine be 8 rfl rfl #[.int .i64 0, .string (⟨#[]⟩ : ByteArray), .int .i64 0, .int .i64 0] 28 ?_; intro gb349 hg w25 hbox hb; have BK349 := aM hbox; have GW349 := gs hg HB; have GE349 := gs hg HB; have NB341_349 := nl hg BK341; have NB349_341 := nr hg BK341; replace HO_3 := aM (Kd.N_below (Kd.N_elderB (by (with_reducible repeat (first | apply Kd.N_alloc | apply Kd.N_drewN | apply Kd.N_drew)); exact HO_3.1) gb349 (Nat.le_of_eq hg.symm)) hb); replace HO336 := rb HO336 hb; replace HO344 := rb HO344 hb; replace BK341 := kb BK341 hb; replace HB := bs HB hb; clear hb hbox hg; have hnb26 := NB349_341.1; have hnc26 := NB341_349.1; obtain ⟨hcz27_0, hcz27_1, hcz27_2, hcz27_3⟩ := cz BK349; obtain ⟨hfz27_0, hfz27_1, hfz27_2, hfz27_3⟩ := fz BK349; obtain ⟨Ao28, co28, eo28⟩ := Kd.R_slice HO336.1; subst eo28; obtain ⟨Ao29, co29, eo29⟩ := Kd.R_slice HO344.1; subst eo29) | (go_at_call 14; (with_reducible refine (w_same.calls kj1 _ _ t334 _ _ t342 true _ ?side1 ?side2 ?side3 ?side4 A17.1).mono ?_); (case side1 => exact c2 (rf4 HO336 BK349 (by decide))); (case side2 => exact (Kd.R_reads' HO336.1).2.1); (case side3 => exact c2 (rf4 HO344 BK349 (by decide))); (case side4 => exact (Kd.R_reads' HO344.1).2.1); rintro e w' ⟨rfl, ⟨nd, rfl⟩⟩; (try first | exact ⟨rfl, _, World.drewN_drewN _ _ _⟩ | exact ⟨rfl, _, Eq.trans (World.drewN_drewN _ _ _) (congrArg (World.drewN _) (Nat.add_assoc _ _ _))⟩); obtain ⟨hcz30_0, hcz30_1, hcz30_2, hcz30_3⟩ := cz BK341; obtain ⟨hfz30_0, hfz30_1, hfz30_2, hfz30_3⟩ := fz BK341)); try go_wp2_with (first | (go_at_call 10; (with_reducible refine (m_Order.calls kj1 _ _ l0 t334 t337 t338 t339 t340 _ ?side1 ?side2 A15.1).mono ?_); (case side1 => exact cb HR0 HB); (case side2 => exact HC0.1); rintro e w20 ⟨v335, rfl, ho0, hb⟩; have HO336 := aM (Kd.R_lower ho0 (below_size (hh HB))); replace HO_3 := aM (Kd.N_elder' (by (with_reducible repeat (first | apply Kd.N_alloc | apply Kd.N_drewN | apply Kd.N_drew)); exact HO_3.1) (Kd.R_base ho0) hb); replace HB := bs HB hb; (try clear hb); (try clear hb2); (try clear hk); (try clear hi); (try clear ho0)) | ((with_reducible refine gate_dst (N := 6) rfl ?_); (try (refine gate_guard (by rfl) ?_; dsimp only)); refine be 6 rfl rfl #[.int .i64 0, .string (⟨#[]⟩ : ByteArray), .int .i64 0, .int .i64 0] 28 ?_; intro gb341 hg w21 hbox hb; have BK341 := aM hbox; have GW341 := gs hg HB; have GE341 := gs hg HB; replace HO_3 := aM (Kd.N_below (Kd.N_elderB (by (with_reducible repeat (first | apply Kd.N_alloc | apply Kd.N_drewN | apply Kd.N_drew)); exact HO_3.1) gb341 (Nat.le_of_eq hg.symm)) hb); replace HO336 := rb HO336 hb; replace HB := bs HB hb; clear hb hbox hg; obtain ⟨hcz22_0, hcz22_1, hcz22_2, hcz22_3⟩ := cz BK341; obtain ⟨hfz22_0, hfz22_1, hfz22_2, hfz22_3⟩ := fz BK341; obtain ⟨Ao23, co23, eo23⟩ := Kd.N_slice HO_3.1; subst eo23) | (go_at_call 10; (with_reducible refine (m_Order.calls kj1 _ _ x3_1 t342 t345 t346 t347 t348 _ ?side1 ?side2 A16.1).mono ?_); (case side1 => refine (Kd.N_reads' (e := 42) (base := w.heap.size) (ok := fun k_ => ((True /\ some k_ ≠ (v335 : Value).ownBlock) /\ k_ ≠ gb341)) (n := x3_1.length) (c := co23) ?_).2.2; exact (by (with_reducible repeat (first | apply Kd.N_alloc | apply Kd.N_drewN | apply Kd.N_drew)); exact (Kd.N_mono (Kd.N_far (p := ⟨gb341, 3, none⟩) (Kd.N_far (p := ⟨gb341, 2, none⟩) (Kd.N_far (p := ⟨gb341, 1, none⟩) (Kd.N_far (p := ⟨gb341, 0, none⟩) (Kd.N_mono HO_3.1 (fun k_ hk => (⟨hk, hk.2⟩ : _ /\ k_ ≠ gb341))) (fun _ hk => hk.2) (.int .i64 t337)) (fun _ hk => hk.2) (.string t338)) (fun _ hk => hk.2) (.int .i64 t339)) (fun _ hk => hk.2) (.int .i64 t340)) (fun _ h_ => h_.1)))); (case side2 => exact (Kd.N_reads' HO_3.1).2.1); rintro e w24 ⟨v343, rfl, ho0, hb⟩; have HO344 := aM (Kd.R_lower (Kd.R_new' ho0 (Kd.R_lt (rz (rf4 HO336 BK341 (by decide))))) (below_size (hh HB))); replace HO_3 := aM (Kd.N_elder' (by (with_reducible repeat (first | apply Kd.N_alloc | apply Kd.N_drewN | apply Kd.N_drew)); exact (Kd.N_mono (Kd.N_far (p := ⟨gb341, 3, none⟩) (Kd.N_far (p := ⟨gb341, 2, none⟩) (Kd.N_far (p := ⟨gb341, 1, none⟩) (Kd.N_far (p := ⟨gb341, 0, none⟩) (Kd.N_mono HO_3.1 (fun k_ hk => (⟨hk, hk.2⟩ : _ /\ k_ ≠ gb341))) (fun _ hk => hk.2) (.int .i64 t337)) (fun _ hk => hk.2) (.string t338)) (fun _ hk => hk.2) (.int .i64 t339)) (fun _ hk => hk.2) (.int .i64 t340)) (fun _ h_ => h_.1))) (Kd.R_base ho0) hb); replace HO336 := aM (Kd.R_elder' (rz (rf4 HO336 BK341 (by decide))) (Kd.R_base ho0) hb); replace BK341 := kg (o' := .cells #[.int .i64 t337, .string t338, .int .i64 t339, .int .i64 t340] 28 (0, 0)) BK341 hb; replace HB := bs HB hb; (try clear hb); (try clear hb2); (try clear hk); (try clear hi); (try clear ho0)) | ((with_reducible refine gate_dst (N := 8) rfl ?_); (try (refine gate_guard (by rfl) ?_; dsimp only)); refine be 8 rfl rfl #[.int .i64 0, .string (⟨#[]⟩ : ByteArray), .int .i64 0, .int .i64 0] 28 ?_; intro gb349 hg w25 hbox hb; have BK349 := aM hbox; have GW349 := gs hg HB; have GE349 := gs hg HB; have NB341_349 := nl hg BK341; have NB349_341 := nr hg BK341; replace HO_3 := aM (Kd.N_below (Kd.N_elderB (by (with_reducible repeat (first | apply Kd.N_alloc | apply Kd.N_drewN | apply Kd.N_drew)); exact HO_3.1) gb349 (Nat.le_of_eq hg.symm)) hb); replace HO336 := rb HO336 hb; replace HO344 := rb HO344 hb; replace BK341 := kb BK341 hb; replace HB := bs HB hb; clear hb hbox hg; have hnb26 := NB349_341.1; have hnc26 := NB341_349.1; obtain ⟨hcz27_0, hcz27_1, hcz27_2, hcz27_3⟩ := cz BK349; obtain ⟨hfz27_0, hfz27_1, hfz27_2, hfz27_3⟩ := fz BK349; obtain ⟨Ao28, co28, eo28⟩ := Kd.R_slice HO336.1; subst eo28; obtain ⟨Ao29, co29, eo29⟩ := Kd.R_slice HO344.1; subst eo29) | (go_at_call 14; (with_reducible refine (w_same.calls kj1 _ _ t334 _ _ t342 true _ ?side1 ?side2 ?side3 ?side4 A17.1).mono ?_); (case side1 => exact c2 (rf4 HO336 BK349 (by decide))); (case side2 => exact (Kd.R_reads' HO336.1).2.1); (case side3 => exact c2 (rf4 HO344 BK349 (by decide))); (case side4 => exact (Kd.R_reads' HO344.1).2.1); rintro e w' ⟨rfl, ⟨nd, rfl⟩⟩; (try first | exact ⟨rfl, _, World.drewN_drewN _ _ _⟩ | exact ⟨rfl, _, Eq.trans (World.drewN_drewN _ _ _) (congrArg (World.drewN _) (Nat.add_assoc _ _ _))⟩); obtain ⟨hcz30_0, hcz30_1, hcz30_2, hcz30_3⟩ := cz BK341; obtain ⟨hfz30_0, hfz30_1, hfz30_2, hfz30_3⟩ := fz BK341)))
                  go_loopg [9] kj1 (fun kq v9 w' => ∃ (x9_3 : Int), v9 = .int .i64 x9_3 /\ Az (w_ModgraphSorted.l1 kq l0 t334 x9_3 = some r) /\ Az (kq <= kj1) /\ Az (Kd.R Kd.string 9 w' w.heap.size (fun _ => True) (.slice Ao28 t334.length co28) t334) /\ Az (w'.heap[gb341]? = some (.cells #[.int .i64 t337, .string t338, .int .i64 t339, .int .i64 t340] 28 (0, 0))) /\ Az (w'.heap[gb349]? = some (.cells #[.int .i64 t345, .string t346, .int .i64 t347, .int .i64 t348] 28 (0, 0))) /\ Az (Below w.heap.size w w'))
                  case atStart => exact ⟨(0), rr, H', ⟨Nat.le_refl _⟩, ⟨rz (Kd.R_mono (Kd.R_far (p := ⟨gb349, 3, none⟩) (Kd.R_far (p := ⟨gb349, 2, none⟩) (Kd.R_far (p := ⟨gb349, 1, none⟩) (Kd.R_far (p := ⟨gb349, 0, none⟩) (Kd.R_types HO336.1 BK349.1 (by decide)) (fun _ hk => hk.2) (.int .i64 t345)) (fun _ hk => hk.2) (.string t346)) (fun _ hk => hk.2) (.int .i64 t347)) (fun _ hk => hk.2) (.int .i64 t348)) (fun _ hk => trivial))⟩, ⟨kf BK341⟩, ⟨kf BK349⟩, ⟨hh HB⟩⟩
                  case round =>
                    clear H'
                    try clear c1
                    try clear c2
                    try clear p2
                    try clear c3
                    try clear c3b0
                    try clear p3
                    try clear q3
                    try clear hx3
                    try clear c4
                    try clear c5
                    try clear c5b0
                    try clear c6
                    try clear c6b0
                    try clear p6
                    try clear c7
                    try clear c7b0
                    try clear c7b1
                    try clear c10
                    try clear c12
                    try clear c12b0
                    try clear c12b1
                    try clear c18
                    try clear c19
                    try clear c19b0
                    try clear c19b1
                    try clear c26
                    try clear hcz22_0
                    try clear hcz22_1
                    try clear hcz22_2
                    try clear hcz22_3
                    try clear hcz27_0
                    try clear hcz27_1
                    try clear hcz27_2
                    try clear hcz27_3
                    try clear hcz30_0
                    try clear hcz30_1
                    try clear hcz30_2
                    try clear hcz30_3
                    try clear hfz22_0
                    try clear hfz22_1
                    try clear hfz22_2
                    try clear hfz22_3
                    try clear hfz27_0
                    try clear hfz27_1
                    try clear hfz27_2
                    try clear hfz27_3
                    try clear hfz30_0
                    try clear hfz30_1
                    try clear hfz30_2
                    try clear hfz30_3
                    try clear hx327_0
                    try clear hx327_1
                    try clear hx327_2
                    try clear hx327_3
                    try clear hx327_4
                    try clear hx329_0
                    try clear hx329_1
                    try clear hx329_2
                    try clear hx329_3
                    try clear hx329_4
                    try clear p2
                    try clear p327
                    try clear p329
                    try clear q327
                    try clear q329
                    obtain ⟨x9_3, rfl, HA, HK3, HO_5, BK341, BK349, HB⟩ := hrel
                    cases gk with
                    | zero => exact absurd HA.1 (by simp [w_ModgraphSorted.l1])
                    | succ k3 =>
                      have H := HA.1
                      clear HA
                      simp only [w_ModgraphSorted.l1] at H
                      by_cases c31 : x9_3 < (t334.length : Int)
                      · rw [if_pos c31] at H
                        have c31b0 : decide (x9_3 < (t334.length : Int)) = true := decide_eq_true c31
                        clear c31
                        by_cases c32 : 0 <= x9_3
                        · rw [if_pos c32] at H
                          have c32b0 := eq_true c32
                          have c32b1 : decide (0 <= x9_3) = true := decide_eq_true c32
                          clear c32
                          by_cases c33 : x9_3 <= (t334.length : Int)
                          · rw [if_pos c33] at H
                            have c33b0 := eq_true c33
                            have c33b1 : decide (x9_3 <= (t334.length : Int)) = true := decide_eq_true c33
                            clear c33
                            obtain ⟨y353, hy353⟩ : ∃ y_ : List ByteArray, y_ = (t334.take (x9_3 : Int).toNat) := ⟨_, rfl⟩
                            replace H : ((q_Has.f k3 y353 (rdOf ByteArray.empty t334 x9_3)).bind fun t359 => (if t359 = true then (some false) else ((r_Imports.f k3 l0 (rdOf ByteArray.empty t334 x9_3)).bind fun t361 => (w_ModgraphSorted.l2 k3 l0 t334 x9_3 t361 0)))) = some r := by first | (rw [hy353]; with_reducible exact H) | (have H2_ := (Option.bind_some _ _).symm.trans H; rw [hy353]; with_reducible exact H2_) | (have H2_ := (Option.bind_some _ _).symm.trans H; with_reducible exact H2_) | with_reducible exact H | (rw [hy353]; exact H) | exact H
                            have Ny353 := aM hy353
                            clear hy353
                            replace H := Option.bind_eq_some_iff.mp H
                            obtain ⟨t359, A340, H⟩ := H
                            try dsimp only at H
                            have A34 := aM A340
                            clear A340
                            by_cases c35 : t359 = true
                            · subst c35
                              rw [if_pos rfl] at H
                              obtain rfl := Option.some.inj H
                              have q36 : (x9_3 : Int) <= ((t334.length : Int) : Int) := dt
                              obtain ⟨i036, hi036, _, hsz36, _⟩ := info_parts info9
                              have hroom36 : t334.length <= co28 := (Kd.R_reads' HO_5.1).2.1
                              have hC36 : Kd.F Kd.string _ _ Ao28 t334.length t334 := (Kd.V_at (base := w.heap.size) (Kd.R_V (Kd.R_types (Kd.R_types (HO_5.1) BK341.1 (by decide)) BK349.1 (by decide)))).2.2
                              have hcut36 := cut_to (P := Try.prog) 25 9 .i64 Try.underlying25 hi036 Ao28 t334.length co28 x9_3 (dt) q36 hroom36
                              have hr36 := Kd.F_take (m := (x9_3 : Int).toNat) hC36 (by omega)
                              have hy36 : y353.length = (x9_3 : Int).toNat := (by rw [Ny353.1, List.length_take]; omega)
                              rw [<- Ny353.1] at hr36
                              rw [<- hy36] at hcut36
                              have HO357 := aM (show Kd.V Kd.string 9 _ w.heap.size _ (.slice Ao28 y353.length co28) y353 from Kd.V_mk (by omega) hr36)
                              have HC357 := aM (show y353.length <= co28 from by omega)
                              clear hr36 hC36 hroom36 hi036 hsz36
                              have KY36 := aM hy36
                              clear hy36
                              replace q36 := eq_true q36
                              have p358 : 0 <= (x9_3 : Int) := dt
                              have q358 : x9_3 < (t334.length : Int) := dt
                              obtain ⟨ad358, e358, hx358_0⟩ := Kd.at_string (Kd.R_reads' HO_5.1).2.2 x9_3 p358 q358
                              cases e358
                              replace p358 := eq_true p358
                              replace q358 := eq_true q358
                              go_wp2_with (first | (go_at_call 21; (with_reducible refine (q_Has.calls k3 _ _ y353 (rdOf ByteArray.empty t334 x9_3) true _ ?side1 ?side2 A34.1).mono ?_); (case side1 => repeat (first | exact (Kd.V_reads' HO357.1).2.2 | (with_reducible refine Kd.C_alloc ?_ _) | (with_reducible refine Kd.C_drewN ?_ _) | (with_reducible refine Kd.C_drew ?_))); (case side2 => exact (Kd.V_reads' HO357.1).2.1); rintro e w' ⟨rfl, ⟨nd, rfl⟩⟩; (try first | exact ⟨rfl, _, World.drewN_drewN _ _ _⟩ | exact ⟨rfl, _, Eq.trans (World.drewN_drewN _ _ _) (congrArg (World.drewN _) (Nat.add_assoc _ _ _))⟩)))
                              repeat (go_quiet (first | (go_at_call 21; (with_reducible refine (q_Has.calls k3 _ _ y353 (rdOf ByteArray.empty t334 x9_3) true _ ?side1 ?side2 A34.1).mono ?_); (case side1 => repeat (first | exact (Kd.V_reads' HO357.1).2.2 | (with_reducible refine Kd.C_alloc ?_ _) | (with_reducible refine Kd.C_drewN ?_ _) | (with_reducible refine Kd.C_drew ?_))); (case side2 => exact (Kd.V_reads' HO357.1).2.1); rintro e w' ⟨rfl, ⟨nd, rfl⟩⟩; (try first | exact ⟨rfl, _, World.drewN_drewN _ _ _⟩ | exact ⟨rfl, _, Eq.trans (World.drewN_drewN _ _ _) (congrArg (World.drewN _) (Nat.add_assoc _ _ _))⟩))); try go_wp2_with (first | (go_at_call 21; (with_reducible refine (q_Has.calls k3 _ _ y353 (rdOf ByteArray.empty t334 x9_3) true _ ?side1 ?side2 A34.1).mono ?_); (case side1 => repeat (first | exact (Kd.V_reads' HO357.1).2.2 | (with_reducible refine Kd.C_alloc ?_ _) | (with_reducible refine Kd.C_drewN ?_ _) | (with_reducible refine Kd.C_drew ?_))); (case side2 => exact (Kd.V_reads' HO357.1).2.1); rintro e w' ⟨rfl, ⟨nd, rfl⟩⟩; (try first | exact ⟨rfl, _, World.drewN_drewN _ _ _⟩ | exact ⟨rfl, _, Eq.trans (World.drewN_drewN _ _ _) (congrArg (World.drewN _) (Nat.add_assoc _ _ _))⟩))))
                              go_ret
                              exact ⟨by first | rfl | (simp [errW_none, errW_some] <;> rfl) | (simp [*, errW_none, errW_some] <;> rfl), hh HB⟩
                            · replace c35 := Bool.eq_false_iff.mpr c35
                              subst c35
                              rw [if_neg (show ¬ (false = true) by decide)] at H
                              replace H := Option.bind_eq_some_iff.mp H
                              obtain ⟨t361, A370, H⟩ := H
                              try dsimp only at H
                              have A37 := aM A370
                              clear A370
                              have H' := aM H
                              clear H
                              have q38 : (x9_3 : Int) <= ((t334.length : Int) : Int) := dt
                              obtain ⟨i038, hi038, _, hsz38, _⟩ := info_parts info9
                              have hroom38 : t334.length <= co28 := (Kd.R_reads' HO_5.1).2.1
                              have hC38 : Kd.F Kd.string _ _ Ao28 t334.length t334 := (Kd.V_at (base := w.heap.size) (Kd.R_V (Kd.R_types (Kd.R_types (HO_5.1) BK341.1 (by decide)) BK349.1 (by decide)))).2.2
                              have hcut38 := cut_to (P := Try.prog) 25 9 .i64 Try.underlying25 hi038 Ao28 t334.length co28 x9_3 (dt) q38 hroom38
                              have hr38 := Kd.F_take (m := (x9_3 : Int).toNat) hC38 (by omega)
                              have hy38 : y353.length = (x9_3 : Int).toNat := (by rw [Ny353.1, List.length_take]; omega)
                              rw [<- Ny353.1] at hr38
                              rw [<- hy38] at hcut38
                              have HO357 := aM (show Kd.V Kd.string 9 _ w.heap.size _ (.slice Ao28 y353.length co28) y353 from Kd.V_mk (by omega) hr38)
                              have HC357 := aM (show y353.length <= co28 from by omega)
                              clear hr38 hC38 hroom38 hi038 hsz38
                              have KY38 := aM hy38
                              clear hy38
                              replace q38 := eq_true q38
                              have p358 : 0 <= (x9_3 : Int) := dt
                              have q358 : x9_3 < (t334.length : Int) := dt
                              obtain ⟨ad358, e358, hx358_0⟩ := Kd.at_string (Kd.R_reads' HO_5.1).2.2 x9_3 p358 q358
                              cases e358
                              replace p358 := eq_true p358
                              replace q358 := eq_true q358
                              go_wp2_with (first | (go_at_call 21; (with_reducible refine (q_Has.calls k3 _ _ y353 (rdOf ByteArray.empty t334 x9_3) false _ ?side1 ?side2 A34.1).mono ?_); (case side1 => repeat (first | exact (Kd.V_reads' HO357.1).2.2 | (with_reducible refine Kd.C_alloc ?_ _) | (with_reducible refine Kd.C_drewN ?_ _) | (with_reducible refine Kd.C_drew ?_))); (case side2 => exact (Kd.V_reads' HO357.1).2.1); rintro e w' ⟨rfl, ⟨nd, rfl⟩⟩; (try first | exact ⟨rfl, _, World.drewN_drewN _ _ _⟩ | exact ⟨rfl, _, Eq.trans (World.drewN_drewN _ _ _) (congrArg (World.drewN _) (Nat.add_assoc _ _ _))⟩); have p360 : 0 <= (x9_3 : Int) := dt; have q360 : x9_3 < (t334.length : Int) := dt; obtain ⟨ad360, e360, hx360_0⟩ := Kd.at_string (Kd.R_reads' HO_5.1).2.2 x9_3 p360 q360; obtain rfl : ad358 = ad360 := (by injection e360); replace p360 := eq_true p360; replace q360 := eq_true q360) | (go_at_call 22; (with_reducible refine (r_Imports.calls k3 _ _ l0 (rdOf ByteArray.empty t334 x9_3) t361 _ ?side1 ?side2 A37.1).mono ?_); (case side1 => repeat (first | exact (Kd.C_below HR0.1 (hh HB)) | (with_reducible refine Kd.C_alloc ?_ _) | (with_reducible refine Kd.C_drewN ?_ _) | (with_reducible refine Kd.C_drew ?_))); (case side2 => exact HC0.1); rintro e w39 ⟨v362, rfl, ho0, hb⟩; have HO363 := aM (Kd.R_lower (Kd.R_new' ho0 (Kd.R_lt (rk HO_5))) (below_size (hh HB))); replace HO_5 := aM (Kd.R_elder' (rk HO_5) (Kd.R_base ho0) hb); replace HO357 := aM (Kd.V_elder' (by (with_reducible repeat (first | apply Kd.V_alloc | apply Kd.V_drewN | apply Kd.V_drew)); exact HO357.1) (Kd.R_base ho0) hb); replace BK341 := kb BK341 hb; replace BK349 := kb BK349 hb; replace HB := bs HB hb; (try clear hb); (try clear hb2); (try clear hk); (try clear hi); (try clear ho0)))
                              repeat (go_quiet (first | (go_at_call 21; (with_reducible refine (q_Has.calls k3 _ _ y353 (rdOf ByteArray.empty t334 x9_3) false _ ?side1 ?side2 A34.1).mono ?_); (case side1 => repeat (first | exact (Kd.V_reads' HO357.1).2.2 | (with_reducible refine Kd.C_alloc ?_ _) | (with_reducible refine Kd.C_drewN ?_ _) | (with_reducible refine Kd.C_drew ?_))); (case side2 => exact (Kd.V_reads' HO357.1).2.1); rintro e w' ⟨rfl, ⟨nd, rfl⟩⟩; (try first | exact ⟨rfl, _, World.drewN_drewN _ _ _⟩ | exact ⟨rfl, _, Eq.trans (World.drewN_drewN _ _ _) (congrArg (World.drewN _) (Nat.add_assoc _ _ _))⟩); have p360 : 0 <= (x9_3 : Int) := dt; have q360 : x9_3 < (t334.length : Int) := dt; obtain ⟨ad360, e360, hx360_0⟩ := Kd.at_string (Kd.R_reads' HO_5.1).2.2 x9_3 p360 q360; obtain rfl : ad358 = ad360 := (by injection e360); replace p360 := eq_true p360; replace q360 := eq_true q360) | (go_at_call 22; (with_reducible refine (r_Imports.calls k3 _ _ l0 (rdOf ByteArray.empty t334 x9_3) t361 _ ?side1 ?side2 A37.1).mono ?_); (case side1 => repeat (first | exact (Kd.C_below HR0.1 (hh HB)) | (with_reducible refine Kd.C_alloc ?_ _) | (with_reducible refine Kd.C_drewN ?_ _) | (with_reducible refine Kd.C_drew ?_))); (case side2 => exact HC0.1); rintro e w39 ⟨v362, rfl, ho0, hb⟩; have HO363 := aM (Kd.R_lower (Kd.R_new' ho0 (Kd.R_lt (rk HO_5))) (below_size (hh HB))); replace HO_5 := aM (Kd.R_elder' (rk HO_5) (Kd.R_base ho0) hb); replace HO357 := aM (Kd.V_elder' (by (with_reducible repeat (first | apply Kd.V_alloc | apply Kd.V_drewN | apply Kd.V_drew)); exact HO357.1) (Kd.R_base ho0) hb); replace BK341 := kb BK341 hb; replace BK349 := kb BK349 hb; replace HB := bs HB hb; (try clear hb); (try clear hb2); (try clear hk); (try clear hi); (try clear ho0))); try go_wp2_with (first | (go_at_call 21; (with_reducible refine (q_Has.calls k3 _ _ y353 (rdOf ByteArray.empty t334 x9_3) false _ ?side1 ?side2 A34.1).mono ?_); (case side1 => repeat (first | exact (Kd.V_reads' HO357.1).2.2 | (with_reducible refine Kd.C_alloc ?_ _) | (with_reducible refine Kd.C_drewN ?_ _) | (with_reducible refine Kd.C_drew ?_))); (case side2 => exact (Kd.V_reads' HO357.1).2.1); rintro e w' ⟨rfl, ⟨nd, rfl⟩⟩; (try first | exact ⟨rfl, _, World.drewN_drewN _ _ _⟩ | exact ⟨rfl, _, Eq.trans (World.drewN_drewN _ _ _) (congrArg (World.drewN _) (Nat.add_assoc _ _ _))⟩); have p360 : 0 <= (x9_3 : Int) := dt; have q360 : x9_3 < (t334.length : Int) := dt; obtain ⟨ad360, e360, hx360_0⟩ := Kd.at_string (Kd.R_reads' HO_5.1).2.2 x9_3 p360 q360; obtain rfl : ad358 = ad360 := (by injection e360); replace p360 := eq_true p360; replace q360 := eq_true q360) | (go_at_call 22; (with_reducible refine (r_Imports.calls k3 _ _ l0 (rdOf ByteArray.empty t334 x9_3) t361 _ ?side1 ?side2 A37.1).mono ?_); (case side1 => repeat (first | exact (Kd.C_below HR0.1 (hh HB)) | (with_reducible refine Kd.C_alloc ?_ _) | (with_reducible refine Kd.C_drewN ?_ _) | (with_reducible refine Kd.C_drew ?_))); (case side2 => exact HC0.1); rintro e w39 ⟨v362, rfl, ho0, hb⟩; have HO363 := aM (Kd.R_lower (Kd.R_new' ho0 (Kd.R_lt (rk HO_5))) (below_size (hh HB))); replace HO_5 := aM (Kd.R_elder' (rk HO_5) (Kd.R_base ho0) hb); replace HO357 := aM (Kd.V_elder' (by (with_reducible repeat (first | apply Kd.V_alloc | apply Kd.V_drewN | apply Kd.V_drew)); exact HO357.1) (Kd.R_base ho0) hb); replace BK341 := kb BK341 hb; replace BK349 := kb BK349 hb; replace HB := bs HB hb; (try clear hb); (try clear hb2); (try clear hk); (try clear hi); (try clear ho0))))
                              go_loopg [11] k3 (fun kq v11 w' => ∃ (x11_4 : Int), v11 = .int .i64 x11_4 /\ Az (w_ModgraphSorted.l2 kq l0 t334 x9_3 t361 x11_4 = some r) /\ Az (kq <= k3) /\ Az (Kd.R Kd.string 9 w' w.heap.size (fun k_ => some k_ ≠ (v362 : Value).ownBlock) (.slice (some ad358) t334.length co28) t334) /\ Az (Kd.R Kd.string 9 w' w.heap.size (fun k_ => some k_ ≠ ((.slice (some ad358) t334.length co28) : Value).ownBlock) v362 t361) /\ Az (w'.heap[gb341]? = some (.cells #[.int .i64 t337, .string t338, .int .i64 t339, .int .i64 t340] 28 (0, 0))) /\ Az (w'.heap[gb349]? = some (.cells #[.int .i64 t345, .string t346, .int .i64 t347, .int .i64 t348] 28 (0, 0))) /\ Az (Below w.heap.size w w'))
                              case atStart => exact ⟨(0), rr, H', ⟨Nat.le_refl _⟩, ⟨rz (Kd.R_mono HO_5.1 (fun _ hk => hk.2))⟩, ⟨rz (Kd.R_mono HO363.1 (fun _ hk => hk.2))⟩, ⟨kk BK341⟩, ⟨kk BK349⟩, ⟨hh HB⟩⟩
                              case round =>
                                clear H'
                                try clear c1
                                try clear c2
                                try clear p2
                                try clear c3
                                try clear c3b0
                                try clear p3
                                try clear q3
                                try clear hx3
                                try clear c4
                                try clear c5
                                try clear c5b0
                                try clear c6
                                try clear c6b0
                                try clear p6
                                try clear c7
                                try clear c7b0
                                try clear c7b1
                                try clear c10
                                try clear c12
                                try clear c12b0
                                try clear c12b1
                                try clear c18
                                try clear c19
                                try clear c19b0
                                try clear c19b1
                                try clear c26
                                try clear c31
                                try clear c31b0
                                try clear c32
                                try clear c32b0
                                try clear c32b1
                                try clear p32
                                try clear q32
                                try clear hx32
                                try clear c33
                                try clear c33b0
                                try clear c33b1
                                try clear c35
                                try clear p35
                                try clear q35
                                try clear hx35
                                try clear p36
                                try clear q36
                                try clear hx36
                                try clear q38
                                try clear hcz22_0
                                try clear hcz22_1
                                try clear hcz22_2
                                try clear hcz22_3
                                try clear hcz27_0
                                try clear hcz27_1
                                try clear hcz27_2
                                try clear hcz27_3
                                try clear hcz30_0
                                try clear hcz30_1
                                try clear hcz30_2
                                try clear hcz30_3
                                try clear hfz22_0
                                try clear hfz22_1
                                try clear hfz22_2
                                try clear hfz22_3
                                try clear hfz27_0
                                try clear hfz27_1
                                try clear hfz27_2
                                try clear hfz27_3
                                try clear hfz30_0
                                try clear hfz30_1
                                try clear hfz30_2
                                try clear hfz30_3
                                try clear hx327_0
                                try clear hx327_1
                                try clear hx327_2
                                try clear hx327_3
                                try clear hx327_4
                                try clear hx329_0
                                try clear hx329_1
                                try clear hx329_2
                                try clear hx329_3
                                try clear hx329_4
                                try clear hx358_0
                                try clear hx360_0
                                try clear p2
                                try clear p3
                                try clear p327
                                try clear p329
                                try clear p358
                                try clear p360
                                try clear p6
                                try clear q3
                                try clear q327
                                try clear q329
                                try clear q358
                                try clear q36
                                try clear q360
                                try clear q38
                                obtain ⟨x11_4, rfl, HA, HK4, HO_5, HO_10, BK341, BK349, HB⟩ := hrel
                                cases gk with
                                | zero => exact absurd HA.1 (by simp [w_ModgraphSorted.l2])
                                | succ k4 =>
                                  have H := HA.1
                                  clear HA
                                  simp only [w_ModgraphSorted.l2] at H
                                  by_cases c40 : x11_4 < (t361.length : Int)
                                  · rw [if_pos c40] at H
                                    have c40b0 : decide (x11_4 < (t361.length : Int)) = true := decide_eq_true c40
                                    clear c40
                                    by_cases c41 : 0 <= x9_3
                                    · rw [if_pos c41] at H
                                      have c41b0 := eq_true c41
                                      have c41b1 : decide (0 <= x9_3) = true := decide_eq_true c41
                                      clear c41
                                      by_cases c42 : x9_3 <= (t334.length : Int)
                                      · rw [if_pos c42] at H
                                        have c42b0 := eq_true c42
                                        have c42b1 : decide (x9_3 <= (t334.length : Int)) = true := decide_eq_true c42
                                        clear c42
                                        obtain ⟨y364, hy364⟩ : ∃ y_ : List ByteArray, y_ = (t334.take (x9_3 : Int).toNat) := ⟨_, rfl⟩
                                        replace H : (if 0 <= x11_4 then ((q_Has.f k4 y364 (rdOf ByteArray.empty t361 x11_4)).bind fun t370 => (if t370 = true then (w_ModgraphSorted.l2 k4 l0 t334 x9_3 t361 (wrap64 (x11_4 + 1))) else (some false))) else (none)) = some r := by first | (rw [hy364]; with_reducible exact H) | (have H2_ := (Option.bind_some _ _).symm.trans H; rw [hy364]; with_reducible exact H2_) | (have H2_ := (Option.bind_some _ _).symm.trans H; with_reducible exact H2_) | with_reducible exact H | (rw [hy364]; exact H) | exact H
                                        have Ny364 := aM hy364
                                        clear hy364
                                        by_cases c43 : 0 <= x11_4
                                        · rw [if_pos c43] at H
                                          have c43b0 : decide (0 <= x11_4) = true := decide_eq_true c43
                                          clear c43
                                          replace H := Option.bind_eq_some_iff.mp H
                                          obtain ⟨t370, A440, H⟩ := H
                                          try dsimp only at H
                                          have A44 := aM A440
                                          clear A440
                                          by_cases c45 : t370 = true
                                          · subst c45
                                            rw [if_pos rfl] at H
                                            have H' := aM H
                                            clear H
                                            obtain ⟨Ao46, co46, eo46⟩ := Kd.R_slice HO_10.1
                                            subst eo46
                                            have q47 : (x9_3 : Int) <= ((t334.length : Int) : Int) := dt
                                            obtain ⟨i047, hi047, _, hsz47, _⟩ := info_parts info9
                                            have hroom47 : t334.length <= co28 := (Kd.R_reads' HO_5.1).2.1
                                            have hC47 : Kd.F Kd.string _ _ (some ad358) t334.length t334 := (Kd.V_at (base := w.heap.size) (Kd.R_V (Kd.R_types (Kd.R_types (HO_5.1) BK341.1 (by decide)) BK349.1 (by decide)))).2.2
                                            clear hcut38
                                            have hcut47 := cut_to (P := Try.prog) 25 9 .i64 Try.underlying25 hi047 (some ad358) t334.length co28 x9_3 (dt) q47 hroom47
                                            have hr47 := Kd.F_take (m := (x9_3 : Int).toNat) hC47 (by omega)
                                            have hy47 : y364.length = (x9_3 : Int).toNat := (by rw [Ny364.1, List.length_take]; omega)
                                            rw [<- Ny364.1] at hr47
                                            rw [<- hy47] at hcut47
                                            have HO368 := aM (show Kd.V Kd.string 9 _ w.heap.size _ (.slice (some ad358) y364.length co28) y364 from Kd.V_mk (by omega) hr47)
                                            have HC368 := aM (show y364.length <= co28 from by omega)
                                            clear hr47 hC47 hroom47 hi047 hsz47
                                            have KY47 := aM hy47
                                            clear hy47
                                            replace q47 := eq_true q47
                                            have p369 : 0 <= (x11_4 : Int) := dt
                                            have q369 : x11_4 < (t361.length : Int) := dt
                                            obtain ⟨ad369, e369, hx369_0⟩ := Kd.at_string (Kd.R_reads' HO_10.1).2.2 x11_4 p369 q369
                                            cases e369
                                            replace p369 := eq_true p369
                                            replace q369 := eq_true q369
                                            go_wp2_with (first | (go_at_call 21; (with_reducible refine (q_Has.calls k4 _ _ y364 (rdOf ByteArray.empty t361 x11_4) true _ ?side1 ?side2 A44.1).mono ?_); (case side1 => repeat (first | exact (Kd.V_reads' HO368.1).2.2 | (with_reducible refine Kd.C_alloc ?_ _) | (with_reducible refine Kd.C_drewN ?_ _) | (with_reducible refine Kd.C_drew ?_))); (case side2 => exact (Kd.V_reads' HO368.1).2.1); rintro e w' ⟨rfl, ⟨nd, rfl⟩⟩; (try first | exact ⟨rfl, _, World.drewN_drewN _ _ _⟩ | exact ⟨rfl, _, Eq.trans (World.drewN_drewN _ _ _) (congrArg (World.drewN _) (Nat.add_assoc _ _ _))⟩)))
                                            repeat (go_quiet (first | (go_at_call 21; (with_reducible refine (q_Has.calls k4 _ _ y364 (rdOf ByteArray.empty t361 x11_4) true _ ?side1 ?side2 A44.1).mono ?_); (case side1 => repeat (first | exact (Kd.V_reads' HO368.1).2.2 | (with_reducible refine Kd.C_alloc ?_ _) | (with_reducible refine Kd.C_drewN ?_ _) | (with_reducible refine Kd.C_drew ?_))); (case side2 => exact (Kd.V_reads' HO368.1).2.1); rintro e w' ⟨rfl, ⟨nd, rfl⟩⟩; (try first | exact ⟨rfl, _, World.drewN_drewN _ _ _⟩ | exact ⟨rfl, _, Eq.trans (World.drewN_drewN _ _ _) (congrArg (World.drewN _) (Nat.add_assoc _ _ _))⟩))); try go_wp2_with (first | (go_at_call 21; (with_reducible refine (q_Has.calls k4 _ _ y364 (rdOf ByteArray.empty t361 x11_4) true _ ?side1 ?side2 A44.1).mono ?_); (case side1 => repeat (first | exact (Kd.V_reads' HO368.1).2.2 | (with_reducible refine Kd.C_alloc ?_ _) | (with_reducible refine Kd.C_drewN ?_ _) | (with_reducible refine Kd.C_drew ?_))); (case side2 => exact (Kd.V_reads' HO368.1).2.1); rintro e w' ⟨rfl, ⟨nd, rfl⟩⟩; (try first | exact ⟨rfl, _, World.drewN_drewN _ _ _⟩ | exact ⟨rfl, _, Eq.trans (World.drewN_drewN _ _ _) (congrArg (World.drewN _) (Nat.add_assoc _ _ _))⟩))))
                                            go_roundg k4
                                            case measure => have := HK1.1; have := HJ1.1; have := HK3.1; have := HK4.1; omega
                                            case rel => exact ⟨(wrap64 (x11_4 + 1)), rr, H', ⟨by have := HK1.1; have := HJ1.1; have := HK3.1; have := HK4.1; omega⟩, ⟨rk HO_5⟩, ⟨rk HO_10⟩, ⟨kk BK341⟩, ⟨kk BK349⟩, ⟨hh HB⟩⟩
                                          · replace c45 := Bool.eq_false_iff.mpr c45
                                            subst c45
                                            rw [if_neg (show ¬ (false = true) by decide)] at H
                                            obtain rfl := Option.some.inj H
                                            obtain ⟨Ao48, co48, eo48⟩ := Kd.R_slice HO_10.1
                                            subst eo48
                                            have q49 : (x9_3 : Int) <= ((t334.length : Int) : Int) := dt
                                            obtain ⟨i049, hi049, _, hsz49, _⟩ := info_parts info9
                                            have hroom49 : t334.length <= co28 := (Kd.R_reads' HO_5.1).2.1
                                            have hC49 : Kd.F Kd.string _ _ (some ad358) t334.length t334 := (Kd.V_at (base := w.heap.size) (Kd.R_V (Kd.R_types (Kd.R_types (HO_5.1) BK341.1 (by decide)) BK349.1 (by decide)))).2.2
                                            clear hcut38
                                            have hcut49 := cut_to (P := Try.prog) 25 9 .i64 Try.underlying25 hi049 (some ad358) t334.length co28 x9_3 (dt) q49 hroom49
                                            have hr49 := Kd.F_take (m := (x9_3 : Int).toNat) hC49 (by omega)
                                            have hy49 : y364.length = (x9_3 : Int).toNat := (by rw [Ny364.1, List.length_take]; omega)
                                            rw [<- Ny364.1] at hr49
                                            rw [<- hy49] at hcut49
                                            have HO368 := aM (show Kd.V Kd.string 9 _ w.heap.size _ (.slice (some ad358) y364.length co28) y364 from Kd.V_mk (by omega) hr49)
                                            have HC368 := aM (show y364.length <= co28 from by omega)
                                            clear hr49 hC49 hroom49 hi049 hsz49
                                            have KY49 := aM hy49
                                            clear hy49
                                            replace q49 := eq_true q49
                                            have p369 : 0 <= (x11_4 : Int) := dt
                                            have q369 : x11_4 < (t361.length : Int) := dt
                                            obtain ⟨ad369, e369, hx369_0⟩ := Kd.at_string (Kd.R_reads' HO_10.1).2.2 x11_4 p369 q369
                                            cases e369
                                            replace p369 := eq_true p369
                                            replace q369 := eq_true q369
                                            go_wp2_with (first | (go_at_call 21; (with_reducible refine (q_Has.calls k4 _ _ y364 (rdOf ByteArray.empty t361 x11_4) false _ ?side1 ?side2 A44.1).mono ?_); (case side1 => repeat (first | exact (Kd.V_reads' HO368.1).2.2 | (with_reducible refine Kd.C_alloc ?_ _) | (with_reducible refine Kd.C_drewN ?_ _) | (with_reducible refine Kd.C_drew ?_))); (case side2 => exact (Kd.V_reads' HO368.1).2.1); rintro e w' ⟨rfl, ⟨nd, rfl⟩⟩; (try first | exact ⟨rfl, _, World.drewN_drewN _ _ _⟩ | exact ⟨rfl, _, Eq.trans (World.drewN_drewN _ _ _) (congrArg (World.drewN _) (Nat.add_assoc _ _ _))⟩)))
                                            repeat (go_quiet (first | (go_at_call 21; (with_reducible refine (q_Has.calls k4 _ _ y364 (rdOf ByteArray.empty t361 x11_4) false _ ?side1 ?side2 A44.1).mono ?_); (case side1 => repeat (first | exact (Kd.V_reads' HO368.1).2.2 | (with_reducible refine Kd.C_alloc ?_ _) | (with_reducible refine Kd.C_drewN ?_ _) | (with_reducible refine Kd.C_drew ?_))); (case side2 => exact (Kd.V_reads' HO368.1).2.1); rintro e w' ⟨rfl, ⟨nd, rfl⟩⟩; (try first | exact ⟨rfl, _, World.drewN_drewN _ _ _⟩ | exact ⟨rfl, _, Eq.trans (World.drewN_drewN _ _ _) (congrArg (World.drewN _) (Nat.add_assoc _ _ _))⟩))); try go_wp2_with (first | (go_at_call 21; (with_reducible refine (q_Has.calls k4 _ _ y364 (rdOf ByteArray.empty t361 x11_4) false _ ?side1 ?side2 A44.1).mono ?_); (case side1 => repeat (first | exact (Kd.V_reads' HO368.1).2.2 | (with_reducible refine Kd.C_alloc ?_ _) | (with_reducible refine Kd.C_drewN ?_ _) | (with_reducible refine Kd.C_drew ?_))); (case side2 => exact (Kd.V_reads' HO368.1).2.1); rintro e w' ⟨rfl, ⟨nd, rfl⟩⟩; (try first | exact ⟨rfl, _, World.drewN_drewN _ _ _⟩ | exact ⟨rfl, _, Eq.trans (World.drewN_drewN _ _ _) (congrArg (World.drewN _) (Nat.add_assoc _ _ _))⟩))))
                                            go_ret
                                            exact ⟨by first | rfl | (simp [errW_none, errW_some] <;> rfl) | (simp [*, errW_none, errW_some] <;> rfl), hh HB⟩
                                        · rw [if_neg c43] at H
                                          exact absurd H (by simp)
                                      · rw [if_neg c42] at H
                                        exact absurd H (by simp)
                                    · rw [if_neg c41] at H
                                      exact absurd H (by simp)
                                  · rw [if_neg c40] at H
                                    have c40b0 : decide (x11_4 < (t361.length : Int)) = false := decide_eq_false c40
                                    clear c40
                                    have H' := aM H
                                    clear H
                                    obtain ⟨Ao50, co50, eo50⟩ := Kd.R_slice HO_10.1
                                    subst eo50
                                    go_wp2
                                    repeat (go_quiet (fail); try go_wp2)
                                    go_roundg k4
                                    case measure => have := HK1.1; have := HJ1.1; have := HK3.1; have := HK4.1; omega
                                    case rel => exact ⟨(wrap64 (x9_3 + 1)), rr, H', ⟨by have := HK1.1; have := HJ1.1; have := HK3.1; have := HK4.1; omega⟩, ⟨rz (Kd.R_mono HO_5.1 (fun _ hk => trivial))⟩, ⟨kk BK341⟩, ⟨kk BK349⟩, ⟨hh HB⟩⟩
                          · rw [if_neg c33] at H
                            exact absurd H (by simp)
                        · rw [if_neg c32] at H
                          exact absurd H (by simp)
                      · rw [if_neg c31] at H
                        have c31b0 : decide (x9_3 < (t334.length : Int)) = false := decide_eq_false c31
                        clear c31
                        by_cases c51 : (t334.length : Int) = (l0.length : Int)
                        · rw [if_pos c51] at H
                          have c51b0 : ((t334.length : Int) == (l0.length : Int)) = true := beq_iff_eq.mpr c51
                          have c51b1 : ((t334.length : Int) != (l0.length : Int)) = false := bne_eq_false_iff_eq.mpr c51
                          have c51b2 : (t334.length == l0.length) = true := by first | simpa using c51 | (simp at c51 ⊢; omega)
                          clear c51
                          replace H := Option.bind_eq_some_iff.mp H
                          obtain ⟨t352, A520, H⟩ := H
                          try dsimp only at H
                          have A52 := aM A520
                          clear A520
                          obtain rfl := Option.some.inj H
                          go_wp2_with (first | (go_at_call 9; (with_reducible refine (w_awake.calls  t352 _ A52.1).mono ?_); rintro e w53 ⟨rfl, hb⟩; replace HO_5 := rb HO_5 hb; replace BK341 := kb BK341 hb; replace BK349 := kb BK349 hb; replace HB := bs HB hb; (try clear hb); (try clear hb2); (try clear hk); (try clear hi)))
                          repeat (go_quiet (first | (go_at_call 9; (with_reducible refine (w_awake.calls  t352 _ A52.1).mono ?_); rintro e w53 ⟨rfl, hb⟩; replace HO_5 := rb HO_5 hb; replace BK341 := kb BK341 hb; replace BK349 := kb BK349 hb; replace HB := bs HB hb; (try clear hb); (try clear hb2); (try clear hk); (try clear hi))); try go_wp2_with (first | (go_at_call 9; (with_reducible refine (w_awake.calls  t352 _ A52.1).mono ?_); rintro e w53 ⟨rfl, hb⟩; replace HO_5 := rb HO_5 hb; replace BK341 := kb BK341 hb; replace BK349 := kb BK349 hb; replace HB := bs HB hb; (try clear hb); (try clear hb2); (try clear hk); (try clear hi))))
                          go_ret
                          exact ⟨by first | rfl | (simp [errW_none, errW_some] <;> rfl) | (simp [*, errW_none, errW_some] <;> rfl), hh HB⟩
                        · rw [if_neg c51] at H
                          have c51b0 : ((t334.length : Int) == (l0.length : Int)) = false := beq_eq_false_iff_ne.mpr c51
                          have c51b1 : ((t334.length : Int) != (l0.length : Int)) = true := bne_iff_ne.mpr c51
                          have c51b2 : (t334.length == l0.length) = false := by first | simpa using c51 | (simp at c51 ⊢; omega)
                          obtain rfl := Option.some.inj H
                          go_wp2
                          repeat (go_quiet (fail); try go_wp2)
                          go_ret
                          exact ⟨by first | rfl | (simp [errW_none, errW_some] <;> rfl) | (simp [*, errW_none, errW_some] <;> rfl), hh HB⟩
                · rw [if_neg c19] at H
                  have c19b0 : (t337 == 0) = false := beq_eq_false_iff_ne.mpr c19
                  have c19b1 : (t337 != 0) = true := bne_iff_ne.mpr c19
                  by_cases c54 : (t334.length : Int) = 0
                  · rw [if_pos c54] at H
                    have c54b0 : ((t334.length : Int) == 0) = true := beq_iff_eq.mpr c54
                    have c54b1 : ((t334.length : Int) != 0) = false := bne_eq_false_iff_eq.mpr c54
                    clear c54
                    replace H := Option.bind_eq_some_iff.mp H
                    obtain ⟨t351, A550, H⟩ := H
                    try dsimp only at H
                    have A55 := aM A550
                    clear A550
                    obtain rfl := Option.some.inj H
                    go_wp2_with (first | (go_at_call 10; (with_reducible refine (m_Order.calls kj1 _ _ l0 t334 t337 t338 t339 t340 _ ?side1 ?side2 A15.1).mono ?_); (case side1 => exact cb HR0 HB); (case side2 => exact HC0.1); rintro e w56 ⟨v335, rfl, ho0, hb⟩; have HO336 := aM (Kd.R_lower ho0 (below_size (hh HB))); replace HO_3 := aM (Kd.N_elder' (by (with_reducible repeat (first | apply Kd.N_alloc | apply Kd.N_drewN | apply Kd.N_drew)); exact HO_3.1) (Kd.R_base ho0) hb); replace HB := bs HB hb; (try clear hb); (try clear hb2); (try clear hk); (try clear hi); (try clear ho0)) | ((with_reducible refine gate_dst (N := 6) rfl ?_); (try (refine gate_guard (by rfl) ?_; dsimp only)); refine be 6 rfl rfl #[.int .i64 0, .string (⟨#[]⟩ : ByteArray), .int .i64 0, .int .i64 0] 28 ?_; intro gb341 hg w57 hbox hb; have BK341 := aM hbox; have GW341 := gs hg HB; have GE341 := gs hg HB; replace HO_3 := aM (Kd.N_below (Kd.N_elderB (by (with_reducible repeat (first | apply Kd.N_alloc | apply Kd.N_drewN | apply Kd.N_drew)); exact HO_3.1) gb341 (Nat.le_of_eq hg.symm)) hb); replace HO336 := rb HO336 hb; replace HB := bs HB hb; clear hb hbox hg; obtain ⟨hcz58_0, hcz58_1, hcz58_2, hcz58_3⟩ := cz BK341; obtain ⟨hfz58_0, hfz58_1, hfz58_2, hfz58_3⟩ := fz BK341; obtain ⟨Ao59, co59, eo59⟩ := Kd.N_slice HO_3.1; subst eo59) | (go_at_call 10; (with_reducible refine (m_Order.calls kj1 _ _ x3_1 t342 t345 t346 t347 t348 _ ?side1 ?side2 A16.1).mono ?_); (case side1 => refine (Kd.N_reads' (e := 42) (base := w.heap.size) (ok := fun k_ => ((True /\ some k_ ≠ (v335 : Value).ownBlock) /\ k_ ≠ gb341)) (n := x3_1.length) (c := co59) ?_).2.2; exact (by (with_reducible repeat (first | apply Kd.N_alloc | apply Kd.N_drewN | apply Kd.N_drew)); exact (Kd.N_mono (Kd.N_far (p := ⟨gb341, 3, none⟩) (Kd.N_far (p := ⟨gb341, 2, none⟩) (Kd.N_far (p := ⟨gb341, 1, none⟩) (Kd.N_far (p := ⟨gb341, 0, none⟩) (Kd.N_mono HO_3.1 (fun k_ hk => (⟨hk, hk.2⟩ : _ /\ k_ ≠ gb341))) (fun _ hk => hk.2) (.int .i64 t337)) (fun _ hk => hk.2) (.string t338)) (fun _ hk => hk.2) (.int .i64 t339)) (fun _ hk => hk.2) (.int .i64 t340)) (fun _ h_ => h_.1)))); (case side2 => exact (Kd.N_reads' HO_3.1).2.1); rintro e w60 ⟨v343, rfl, ho0, hb⟩; have HO344 := aM (Kd.R_lower (Kd.R_new' ho0 (Kd.R_lt (rz (rf4 HO336 BK341 (by decide))))) (below_size (hh HB))); replace HO_3 := aM (Kd.N_elder' (by (with_reducible repeat (first | apply Kd.N_alloc | apply Kd.N_drewN | apply Kd.N_drew)); exact (Kd.N_mono (Kd.N_far (p := ⟨gb341, 3, none⟩) (Kd.N_far (p := ⟨gb341, 2, none⟩) (Kd.N_far (p := ⟨gb341, 1, none⟩) (Kd.N_far (p := ⟨gb341, 0, none⟩) (Kd.N_mono HO_3.1 (fun k_ hk => (⟨hk, hk.2⟩ : _ /\ k_ ≠ gb341))) (fun _ hk => hk.2) (.int .i64 t337)) (fun _ hk => hk.2) (.string t338)) (fun _ hk => hk.2) (.int .i64 t339)) (fun _ hk => hk.2) (.int .i64 t340)) (fun _ h_ => h_.1))) (Kd.R_base ho0) hb); replace HO336 := aM (Kd.R_elder' (rz (rf4 HO336 BK341 (by decide))) (Kd.R_base ho0) hb); replace BK341 := kg (o' := .cells #[.int .i64 t337, .string t338, .int .i64 t339, .int .i64 t340] 28 (0, 0)) BK341 hb; replace HB := bs HB hb; (try clear hb); (try clear hb2); (try clear hk); (try clear hi); (try clear ho0)) | ((with_reducible refine gate_dst (N := 8) rfl ?_); (try (refine gate_guard (by rfl) ?_; dsimp only)); refine be 8 rfl rfl #[.int .i64 0, .string (⟨#[]⟩ : ByteArray), .int .i64 0, .int .i64 0] 28 ?_; intro gb349 hg w61 hbox hb; have BK349 := aM hbox; have GW349 := gs hg HB; have GE349 := gs hg HB; have NB341_349 := nl hg BK341; have NB349_341 := nr hg BK341; replace HO_3 := aM (Kd.N_below (Kd.N_elderB (by (with_reducible repeat (first | apply Kd.N_alloc | apply Kd.N_drewN | apply Kd.N_drew)); exact HO_3.1) gb349 (Nat.le_of_eq hg.symm)) hb); replace HO336 := rb HO336 hb; replace HO344 := rb HO344 hb; replace BK341 := kb BK341 hb; replace HB := bs HB hb; clear hb hbox hg; have hnb62 := NB349_341.1; have hnc62 := NB341_349.1; obtain ⟨hcz63_0, hcz63_1, hcz63_2, hcz63_3⟩ := cz BK349; obtain ⟨hfz63_0, hfz63_1, hfz63_2, hfz63_3⟩ := fz BK349; obtain ⟨Ao64, co64, eo64⟩ := Kd.R_slice HO336.1; subst eo64; obtain ⟨Ao65, co65, eo65⟩ := Kd.R_slice HO344.1; subst eo65) | (go_at_call 14; (with_reducible refine (w_same.calls kj1 _ _ t334 _ _ t342 true _ ?side1 ?side2 ?side3 ?side4 A17.1).mono ?_); (case side1 => exact c2 (rf4 HO336 BK349 (by decide))); (case side2 => exact (Kd.R_reads' HO336.1).2.1); (case side3 => exact c2 (rf4 HO344 BK349 (by decide))); (case side4 => exact (Kd.R_reads' HO344.1).2.1); rintro e w' ⟨rfl, ⟨nd, rfl⟩⟩; (try first | exact ⟨rfl, _, World.drewN_drewN _ _ _⟩ | exact ⟨rfl, _, Eq.trans (World.drewN_drewN _ _ _) (congrArg (World.drewN _) (Nat.add_assoc _ _ _))⟩); obtain ⟨hcz66_0, hcz66_1, hcz66_2, hcz66_3⟩ := cz BK341; obtain ⟨hfz66_0, hfz66_1, hfz66_2, hfz66_3⟩ := fz BK341) | (go_at_call 9; (with_reducible refine (w_awake.calls  t351 _ A55.1).mono ?_); rintro e w67 ⟨rfl, hb⟩; replace HO_3 := aM (Kd.N_below (by (with_reducible repeat (first | apply Kd.N_alloc | apply Kd.N_drewN | apply Kd.N_drew)); exact (Kd.N_mono (Kd.N_far (p := ⟨gb349, 3, none⟩) (Kd.N_far (p := ⟨gb349, 2, none⟩) (Kd.N_far (p := ⟨gb349, 1, none⟩) (Kd.N_far (p := ⟨gb349, 0, none⟩) (Kd.N_mono HO_3.1 (fun k_ hk => (⟨hk, hk.2⟩ : _ /\ k_ ≠ gb349))) (fun _ hk => hk.2) (.int .i64 t345)) (fun _ hk => hk.2) (.string t346)) (fun _ hk => hk.2) (.int .i64 t347)) (fun _ hk => hk.2) (.int .i64 t348)) (fun _ h_ => h_.1))) hb); replace HO336 := aM (Kd.R_below (rz (rf4 HO336 BK349 (by decide))) hb); replace HO344 := aM (Kd.R_below (rz (rf4 HO344 BK349 (by decide))) hb); replace BK341 := kg (o' := .cells #[.int .i64 t337, .string t338, .int .i64 t339, .int .i64 t340] 28 (0, 0)) BK341 hb; replace BK349 := kg (o' := .cells #[.int .i64 t345, .string t346, .int .i64 t347, .int .i64 t348] 28 (0, 0)) BK349 hb; replace HB := bs HB hb; (try clear hb); (try clear hb2); (try clear hk); (try clear hi)))
                    repeat (go_quiet (first | (go_at_call 10; (with_reducible refine (m_Order.calls kj1 _ _ l0 t334 t337 t338 t339 t340 _ ?side1 ?side2 A15.1).mono ?_); (case side1 => exact cb HR0 HB); (case side2 => exact HC0.1); rintro e w56 ⟨v335, rfl, ho0, hb⟩; have HO336 := aM (Kd.R_lower ho0 (below_size (hh HB))); replace HO_3 := aM (Kd.N_elder' (by (with_reducible repeat (first | apply Kd.N_alloc | apply Kd.N_drewN | apply Kd.N_drew)); exact HO_3.1) (Kd.R_base ho0) hb); replace HB := bs HB hb; (try clear hb); (try clear hb2); (try clear hk); (try clear hi); (try clear ho0)) | ((with_reducible refine gate_dst (N := 6) rfl ?_); (try (refine gate_guard (by rfl) ?_; dsimp only)); refine be 6 rfl rfl #[.int .i64 0, .string (⟨#[]⟩ : ByteArray), .int .i64 0, .int .i64 0] 28 ?_; intro gb341 hg w57 hbox hb; have BK341 := aM hbox; have GW341 := gs hg HB; have GE341 := gs hg HB; replace HO_3 := aM (Kd.N_below (Kd.N_elderB (by (with_reducible repeat (first | apply Kd.N_alloc | apply Kd.N_drewN | apply Kd.N_drew)); exact HO_3.1) gb341 (Nat.le_of_eq hg.symm)) hb); replace HO336 := rb HO336 hb; replace HB := bs HB hb; clear hb hbox hg; obtain ⟨hcz58_0, hcz58_1, hcz58_2, hcz58_3⟩ := cz BK341; obtain ⟨hfz58_0, hfz58_1, hfz58_2, hfz58_3⟩ := fz BK341; obtain ⟨Ao59, co59, eo59⟩ := Kd.N_slice HO_3.1; subst eo59) | (go_at_call 10; (with_reducible refine (m_Order.calls kj1 _ _ x3_1 t342 t345 t346 t347 t348 _ ?side1 ?side2 A16.1).mono ?_); (case side1 => refine (Kd.N_reads' (e := 42) (base := w.heap.size) (ok := fun k_ => ((True /\ some k_ ≠ (v335 : Value).ownBlock) /\ k_ ≠ gb341)) (n := x3_1.length) (c := co59) ?_).2.2; exact (by (with_reducible repeat (first | apply Kd.N_alloc | apply Kd.N_drewN | apply Kd.N_drew)); exact (Kd.N_mono (Kd.N_far (p := ⟨gb341, 3, none⟩) (Kd.N_far (p := ⟨gb341, 2, none⟩) (Kd.N_far (p := ⟨gb341, 1, none⟩) (Kd.N_far (p := ⟨gb341, 0, none⟩) (Kd.N_mono HO_3.1 (fun k_ hk => (⟨hk, hk.2⟩ : _ /\ k_ ≠ gb341))) (fun _ hk => hk.2) (.int .i64 t337)) (fun _ hk => hk.2) (.string t338)) (fun _ hk => hk.2) (.int .i64 t339)) (fun _ hk => hk.2) (.int .i64 t340)) (fun _ h_ => h_.1)))); (case side2 => exact (Kd.N_reads' HO_3.1).2.1); rintro e w60 ⟨v343, rfl, ho0, hb⟩; have HO344 := aM (Kd.R_lower (Kd.R_new' ho0 (Kd.R_lt (rz (rf4 HO336 BK341 (by decide))))) (below_size (hh HB))); replace HO_3 := aM (Kd.N_elder' (by (with_reducible repeat (first | apply Kd.N_alloc | apply Kd.N_drewN | apply Kd.N_drew)); exact (Kd.N_mono (Kd.N_far (p := ⟨gb341, 3, none⟩) (Kd.N_far (p := ⟨gb341, 2, none⟩) (Kd.N_far (p := ⟨gb341, 1, none⟩) (Kd.N_far (p := ⟨gb341, 0, none⟩) (Kd.N_mono HO_3.1 (fun k_ hk => (⟨hk, hk.2⟩ : _ /\ k_ ≠ gb341))) (fun _ hk => hk.2) (.int .i64 t337)) (fun _ hk => hk.2) (.string t338)) (fun _ hk => hk.2) (.int .i64 t339)) (fun _ hk => hk.2) (.int .i64 t340)) (fun _ h_ => h_.1))) (Kd.R_base ho0) hb); replace HO336 := aM (Kd.R_elder' (rz (rf4 HO336 BK341 (by decide))) (Kd.R_base ho0) hb); replace BK341 := kg (o' := .cells #[.int .i64 t337, .string t338, .int .i64 t339, .int .i64 t340] 28 (0, 0)) BK341 hb; replace HB := bs HB hb; (try clear hb); (try clear hb2); (try clear hk); (try clear hi); (try clear ho0)) | ((with_reducible refine gate_dst (N := 8) rfl ?_); (try (refine gate_guard (by rfl) ?_; dsimp only)); refine be 8 rfl rfl #[.int .i64 0, .string (⟨#[]⟩ : ByteArray), .int .i64 0, .int .i64 0] 28 ?_; intro gb349 hg w61 hbox hb; have BK349 := aM hbox; have GW349 := gs hg HB; have GE349 := gs hg HB; have NB341_349 := nl hg BK341; have NB349_341 := nr hg BK341; replace HO_3 := aM (Kd.N_below (Kd.N_elderB (by (with_reducible repeat (first | apply Kd.N_alloc | apply Kd.N_drewN | apply Kd.N_drew)); exact HO_3.1) gb349 (Nat.le_of_eq hg.symm)) hb); replace HO336 := rb HO336 hb; replace HO344 := rb HO344 hb; replace BK341 := kb BK341 hb; replace HB := bs HB hb; clear hb hbox hg; have hnb62 := NB349_341.1; have hnc62 := NB341_349.1; obtain ⟨hcz63_0, hcz63_1, hcz63_2, hcz63_3⟩ := cz BK349; obtain ⟨hfz63_0, hfz63_1, hfz63_2, hfz63_3⟩ := fz BK349; obtain ⟨Ao64, co64, eo64⟩ := Kd.R_slice HO336.1; subst eo64; obtain ⟨Ao65, co65, eo65⟩ := Kd.R_slice HO344.1; subst eo65) | (go_at_call 14; (with_reducible refine (w_same.calls kj1 _ _ t334 _ _ t342 true _ ?side1 ?side2 ?side3 ?side4 A17.1).mono ?_); (case side1 => exact c2 (rf4 HO336 BK349 (by decide))); (case side2 => exact (Kd.R_reads' HO336.1).2.1); (case side3 => exact c2 (rf4 HO344 BK349 (by decide))); (case side4 => exact (Kd.R_reads' HO344.1).2.1); rintro e w' ⟨rfl, ⟨nd, rfl⟩⟩; (try first | exact ⟨rfl, _, World.drewN_drewN _ _ _⟩ | exact ⟨rfl, _, Eq.trans (World.drewN_drewN _ _ _) (congrArg (World.drewN _) (Nat.add_assoc _ _ _))⟩); obtain ⟨hcz66_0, hcz66_1, hcz66_2, hcz66_3⟩ := cz BK341; obtain ⟨hfz66_0, hfz66_1, hfz66_2, hfz66_3⟩ := fz BK341) | (go_at_call 9; (with_reducible refine (w_awake.calls  t351 _ A55.1).mono ?_); rintro e w67 ⟨rfl, hb⟩; replace HO_3 := aM (Kd.N_below (by (with_reducible repeat (first | apply Kd.N_alloc | apply Kd.N_drewN | apply Kd.N_drew)); exact (Kd.N_mono (Kd.N_far (p := ⟨gb349, 3, none⟩) (Kd.N_far (p := ⟨gb349, 2, none⟩) (Kd.N_far (p := ⟨gb349, 1, none⟩) (Kd.N_far (p := ⟨gb349, 0, none⟩) (Kd.N_mono HO_3.1 (fun k_ hk => (⟨hk, hk.2⟩ : _ /\ k_ ≠ gb349))) (fun _ hk => hk.2) (.int .i64 t345)) (fun _ hk => hk.2) (.string t346)) (fun _ hk => hk.2) (.int .i64 t347)) (fun _ hk => hk.2) (.int .i64 t348)) (fun _ h_ => h_.1))) hb); replace HO336 := aM (Kd.R_below (rz (rf4 HO336 BK349 (by decide))) hb); replace HO344 := aM (Kd.R_below (rz (rf4 HO344 BK349 (by decide))) hb); replace BK341 := kg (o' := .cells #[.int .i64 t337, .string t338, .int .i64 t339, .int .i64 t340] 28 (0, 0)) BK341 hb; replace BK349 := kg (o' := .cells #[.int .i64 t345, .string t346, .int .i64 t347, .int .i64 t348] 28 (0, 0)) BK349 hb; replace HB := bs HB hb; (try clear hb); (try clear hb2); (try clear hk); (try clear hi))); try go_wp2_with (first | (go_at_call 10; (with_reducible refine (m_Order.calls kj1 _ _ l0 t334 t337 t338 t339 t340 _ ?side1 ?side2 A15.1).mono ?_); (case side1 => exact cb HR0 HB); (case side2 => exact HC0.1); rintro e w56 ⟨v335, rfl, ho0, hb⟩; have HO336 := aM (Kd.R_lower ho0 (below_size (hh HB))); replace HO_3 := aM (Kd.N_elder' (by (with_reducible repeat (first | apply Kd.N_alloc | apply Kd.N_drewN | apply Kd.N_drew)); exact HO_3.1) (Kd.R_base ho0) hb); replace HB := bs HB hb; (try clear hb); (try clear hb2); (try clear hk); (try clear hi); (try clear ho0)) | ((with_reducible refine gate_dst (N := 6) rfl ?_); (try (refine gate_guard (by rfl) ?_; dsimp only)); refine be 6 rfl rfl #[.int .i64 0, .string (⟨#[]⟩ : ByteArray), .int .i64 0, .int .i64 0] 28 ?_; intro gb341 hg w57 hbox hb; have BK341 := aM hbox; have GW341 := gs hg HB; have GE341 := gs hg HB; replace HO_3 := aM (Kd.N_below (Kd.N_elderB (by (with_reducible repeat (first | apply Kd.N_alloc | apply Kd.N_drewN | apply Kd.N_drew)); exact HO_3.1) gb341 (Nat.le_of_eq hg.symm)) hb); replace HO336 := rb HO336 hb; replace HB := bs HB hb; clear hb hbox hg; obtain ⟨hcz58_0, hcz58_1, hcz58_2, hcz58_3⟩ := cz BK341; obtain ⟨hfz58_0, hfz58_1, hfz58_2, hfz58_3⟩ := fz BK341; obtain ⟨Ao59, co59, eo59⟩ := Kd.N_slice HO_3.1; subst eo59) | (go_at_call 10; (with_reducible refine (m_Order.calls kj1 _ _ x3_1 t342 t345 t346 t347 t348 _ ?side1 ?side2 A16.1).mono ?_); (case side1 => refine (Kd.N_reads' (e := 42) (base := w.heap.size) (ok := fun k_ => ((True /\ some k_ ≠ (v335 : Value).ownBlock) /\ k_ ≠ gb341)) (n := x3_1.length) (c := co59) ?_).2.2; exact (by (with_reducible repeat (first | apply Kd.N_alloc | apply Kd.N_drewN | apply Kd.N_drew)); exact (Kd.N_mono (Kd.N_far (p := ⟨gb341, 3, none⟩) (Kd.N_far (p := ⟨gb341, 2, none⟩) (Kd.N_far (p := ⟨gb341, 1, none⟩) (Kd.N_far (p := ⟨gb341, 0, none⟩) (Kd.N_mono HO_3.1 (fun k_ hk => (⟨hk, hk.2⟩ : _ /\ k_ ≠ gb341))) (fun _ hk => hk.2) (.int .i64 t337)) (fun _ hk => hk.2) (.string t338)) (fun _ hk => hk.2) (.int .i64 t339)) (fun _ hk => hk.2) (.int .i64 t340)) (fun _ h_ => h_.1)))); (case side2 => exact (Kd.N_reads' HO_3.1).2.1); rintro e w60 ⟨v343, rfl, ho0, hb⟩; have HO344 := aM (Kd.R_lower (Kd.R_new' ho0 (Kd.R_lt (rz (rf4 HO336 BK341 (by decide))))) (below_size (hh HB))); replace HO_3 := aM (Kd.N_elder' (by (with_reducible repeat (first | apply Kd.N_alloc | apply Kd.N_drewN | apply Kd.N_drew)); exact (Kd.N_mono (Kd.N_far (p := ⟨gb341, 3, none⟩) (Kd.N_far (p := ⟨gb341, 2, none⟩) (Kd.N_far (p := ⟨gb341, 1, none⟩) (Kd.N_far (p := ⟨gb341, 0, none⟩) (Kd.N_mono HO_3.1 (fun k_ hk => (⟨hk, hk.2⟩ : _ /\ k_ ≠ gb341))) (fun _ hk => hk.2) (.int .i64 t337)) (fun _ hk => hk.2) (.string t338)) (fun _ hk => hk.2) (.int .i64 t339)) (fun _ hk => hk.2) (.int .i64 t340)) (fun _ h_ => h_.1))) (Kd.R_base ho0) hb); replace HO336 := aM (Kd.R_elder' (rz (rf4 HO336 BK341 (by decide))) (Kd.R_base ho0) hb); replace BK341 := kg (o' := .cells #[.int .i64 t337, .string t338, .int .i64 t339, .int .i64 t340] 28 (0, 0)) BK341 hb; replace HB := bs HB hb; (try clear hb); (try clear hb2); (try clear hk); (try clear hi); (try clear ho0)) | ((with_reducible refine gate_dst (N := 8) rfl ?_); (try (refine gate_guard (by rfl) ?_; dsimp only)); refine be 8 rfl rfl #[.int .i64 0, .string (⟨#[]⟩ : ByteArray), .int .i64 0, .int .i64 0] 28 ?_; intro gb349 hg w61 hbox hb; have BK349 := aM hbox; have GW349 := gs hg HB; have GE349 := gs hg HB; have NB341_349 := nl hg BK341; have NB349_341 := nr hg BK341; replace HO_3 := aM (Kd.N_below (Kd.N_elderB (by (with_reducible repeat (first | apply Kd.N_alloc | apply Kd.N_drewN | apply Kd.N_drew)); exact HO_3.1) gb349 (Nat.le_of_eq hg.symm)) hb); replace HO336 := rb HO336 hb; replace HO344 := rb HO344 hb; replace BK341 := kb BK341 hb; replace HB := bs HB hb; clear hb hbox hg; have hnb62 := NB349_341.1; have hnc62 := NB341_349.1; obtain ⟨hcz63_0, hcz63_1, hcz63_2, hcz63_3⟩ := cz BK349; obtain ⟨hfz63_0, hfz63_1, hfz63_2, hfz63_3⟩ := fz BK349; obtain ⟨Ao64, co64, eo64⟩ := Kd.R_slice HO336.1; subst eo64; obtain ⟨Ao65, co65, eo65⟩ := Kd.R_slice HO344.1; subst eo65) | (go_at_call 14; (with_reducible refine (w_same.calls kj1 _ _ t334 _ _ t342 true _ ?side1 ?side2 ?side3 ?side4 A17.1).mono ?_); (case side1 => exact c2 (rf4 HO336 BK349 (by decide))); (case side2 => exact (Kd.R_reads' HO336.1).2.1); (case side3 => exact c2 (rf4 HO344 BK349 (by decide))); (case side4 => exact (Kd.R_reads' HO344.1).2.1); rintro e w' ⟨rfl, ⟨nd, rfl⟩⟩; (try first | exact ⟨rfl, _, World.drewN_drewN _ _ _⟩ | exact ⟨rfl, _, Eq.trans (World.drewN_drewN _ _ _) (congrArg (World.drewN _) (Nat.add_assoc _ _ _))⟩); obtain ⟨hcz66_0, hcz66_1, hcz66_2, hcz66_3⟩ := cz BK341; obtain ⟨hfz66_0, hfz66_1, hfz66_2, hfz66_3⟩ := fz BK341) | (go_at_call 9; (with_reducible refine (w_awake.calls  t351 _ A55.1).mono ?_); rintro e w67 ⟨rfl, hb⟩; replace HO_3 := aM (Kd.N_below (by (with_reducible repeat (first | apply Kd.N_alloc | apply Kd.N_drewN | apply Kd.N_drew)); exact (Kd.N_mono (Kd.N_far (p := ⟨gb349, 3, none⟩) (Kd.N_far (p := ⟨gb349, 2, none⟩) (Kd.N_far (p := ⟨gb349, 1, none⟩) (Kd.N_far (p := ⟨gb349, 0, none⟩) (Kd.N_mono HO_3.1 (fun k_ hk => (⟨hk, hk.2⟩ : _ /\ k_ ≠ gb349))) (fun _ hk => hk.2) (.int .i64 t345)) (fun _ hk => hk.2) (.string t346)) (fun _ hk => hk.2) (.int .i64 t347)) (fun _ hk => hk.2) (.int .i64 t348)) (fun _ h_ => h_.1))) hb); replace HO336 := aM (Kd.R_below (rz (rf4 HO336 BK349 (by decide))) hb); replace HO344 := aM (Kd.R_below (rz (rf4 HO344 BK349 (by decide))) hb); replace BK341 := kg (o' := .cells #[.int .i64 t337, .string t338, .int .i64 t339, .int .i64 t340] 28 (0, 0)) BK341 hb; replace BK349 := kg (o' := .cells #[.int .i64 t345, .string t346, .int .i64 t347, .int .i64 t348] 28 (0, 0)) BK349 hb; replace HB := bs HB hb; (try clear hb); (try clear hb2); (try clear hk); (try clear hi))))
                    go_ret
                    exact ⟨by first | rfl | (simp [errW_none, errW_some] <;> rfl) | (simp [*, errW_none, errW_some] <;> rfl), hh HB⟩
                  · rw [if_neg c54] at H
                    have c54b0 : ((t334.length : Int) == 0) = false := beq_eq_false_iff_ne.mpr c54
                    have c54b1 : ((t334.length : Int) != 0) = true := bne_iff_ne.mpr c54
                    have c54b2 : ¬ (t334 = []) := fun h_ => c54 (by rw [h_]; rfl)
                    obtain rfl := Option.some.inj H
                    go_wp2_with (first | (go_at_call 10; (with_reducible refine (m_Order.calls kj1 _ _ l0 t334 t337 t338 t339 t340 _ ?side1 ?side2 A15.1).mono ?_); (case side1 => exact cb HR0 HB); (case side2 => exact HC0.1); rintro e w68 ⟨v335, rfl, ho0, hb⟩; have HO336 := aM (Kd.R_lower ho0 (below_size (hh HB))); replace HO_3 := aM (Kd.N_elder' (by (with_reducible repeat (first | apply Kd.N_alloc | apply Kd.N_drewN | apply Kd.N_drew)); exact HO_3.1) (Kd.R_base ho0) hb); replace HB := bs HB hb; (try clear hb); (try clear hb2); (try clear hk); (try clear hi); (try clear ho0)) | ((with_reducible refine gate_dst (N := 6) rfl ?_); (try (refine gate_guard (by rfl) ?_; dsimp only)); refine be 6 rfl rfl #[.int .i64 0, .string (⟨#[]⟩ : ByteArray), .int .i64 0, .int .i64 0] 28 ?_; intro gb341 hg w69 hbox hb; have BK341 := aM hbox; have GW341 := gs hg HB; have GE341 := gs hg HB; replace HO_3 := aM (Kd.N_below (Kd.N_elderB (by (with_reducible repeat (first | apply Kd.N_alloc | apply Kd.N_drewN | apply Kd.N_drew)); exact HO_3.1) gb341 (Nat.le_of_eq hg.symm)) hb); replace HO336 := rb HO336 hb; replace HB := bs HB hb; clear hb hbox hg; obtain ⟨hcz70_0, hcz70_1, hcz70_2, hcz70_3⟩ := cz BK341; obtain ⟨hfz70_0, hfz70_1, hfz70_2, hfz70_3⟩ := fz BK341; obtain ⟨Ao71, co71, eo71⟩ := Kd.N_slice HO_3.1; subst eo71) | (go_at_call 10; (with_reducible refine (m_Order.calls kj1 _ _ x3_1 t342 t345 t346 t347 t348 _ ?side1 ?side2 A16.1).mono ?_); (case side1 => refine (Kd.N_reads' (e := 42) (base := w.heap.size) (ok := fun k_ => ((True /\ some k_ ≠ (v335 : Value).ownBlock) /\ k_ ≠ gb341)) (n := x3_1.length) (c := co71) ?_).2.2; exact (by (with_reducible repeat (first | apply Kd.N_alloc | apply Kd.N_drewN | apply Kd.N_drew)); exact (Kd.N_mono (Kd.N_far (p := ⟨gb341, 3, none⟩) (Kd.N_far (p := ⟨gb341, 2, none⟩) (Kd.N_far (p := ⟨gb341, 1, none⟩) (Kd.N_far (p := ⟨gb341, 0, none⟩) (Kd.N_mono HO_3.1 (fun k_ hk => (⟨hk, hk.2⟩ : _ /\ k_ ≠ gb341))) (fun _ hk => hk.2) (.int .i64 t337)) (fun _ hk => hk.2) (.string t338)) (fun _ hk => hk.2) (.int .i64 t339)) (fun _ hk => hk.2) (.int .i64 t340)) (fun _ h_ => h_.1)))); (case side2 => exact (Kd.N_reads' HO_3.1).2.1); rintro e w72 ⟨v343, rfl, ho0, hb⟩; have HO344 := aM (Kd.R_lower (Kd.R_new' ho0 (Kd.R_lt (rz (rf4 HO336 BK341 (by decide))))) (below_size (hh HB))); replace HO_3 := aM (Kd.N_elder' (by (with_reducible repeat (first | apply Kd.N_alloc | apply Kd.N_drewN | apply Kd.N_drew)); exact (Kd.N_mono (Kd.N_far (p := ⟨gb341, 3, none⟩) (Kd.N_far (p := ⟨gb341, 2, none⟩) (Kd.N_far (p := ⟨gb341, 1, none⟩) (Kd.N_far (p := ⟨gb341, 0, none⟩) (Kd.N_mono HO_3.1 (fun k_ hk => (⟨hk, hk.2⟩ : _ /\ k_ ≠ gb341))) (fun _ hk => hk.2) (.int .i64 t337)) (fun _ hk => hk.2) (.string t338)) (fun _ hk => hk.2) (.int .i64 t339)) (fun _ hk => hk.2) (.int .i64 t340)) (fun _ h_ => h_.1))) (Kd.R_base ho0) hb); replace HO336 := aM (Kd.R_elder' (rz (rf4 HO336 BK341 (by decide))) (Kd.R_base ho0) hb); replace BK341 := kg (o' := .cells #[.int .i64 t337, .string t338, .int .i64 t339, .int .i64 t340] 28 (0, 0)) BK341 hb; replace HB := bs HB hb; (try clear hb); (try clear hb2); (try clear hk); (try clear hi); (try clear ho0)) | ((with_reducible refine gate_dst (N := 8) rfl ?_); (try (refine gate_guard (by rfl) ?_; dsimp only)); refine be 8 rfl rfl #[.int .i64 0, .string (⟨#[]⟩ : ByteArray), .int .i64 0, .int .i64 0] 28 ?_; intro gb349 hg w73 hbox hb; have BK349 := aM hbox; have GW349 := gs hg HB; have GE349 := gs hg HB; have NB341_349 := nl hg BK341; have NB349_341 := nr hg BK341; replace HO_3 := aM (Kd.N_below (Kd.N_elderB (by (with_reducible repeat (first | apply Kd.N_alloc | apply Kd.N_drewN | apply Kd.N_drew)); exact HO_3.1) gb349 (Nat.le_of_eq hg.symm)) hb); replace HO336 := rb HO336 hb; replace HO344 := rb HO344 hb; replace BK341 := kb BK341 hb; replace HB := bs HB hb; clear hb hbox hg; have hnb74 := NB349_341.1; have hnc74 := NB341_349.1; obtain ⟨hcz75_0, hcz75_1, hcz75_2, hcz75_3⟩ := cz BK349; obtain ⟨hfz75_0, hfz75_1, hfz75_2, hfz75_3⟩ := fz BK349; obtain ⟨Ao76, co76, eo76⟩ := Kd.R_slice HO336.1; subst eo76; obtain ⟨Ao77, co77, eo77⟩ := Kd.R_slice HO344.1; subst eo77) | (go_at_call 14; (with_reducible refine (w_same.calls kj1 _ _ t334 _ _ t342 true _ ?side1 ?side2 ?side3 ?side4 A17.1).mono ?_); (case side1 => exact c2 (rf4 HO336 BK349 (by decide))); (case side2 => exact (Kd.R_reads' HO336.1).2.1); (case side3 => exact c2 (rf4 HO344 BK349 (by decide))); (case side4 => exact (Kd.R_reads' HO344.1).2.1); rintro e w' ⟨rfl, ⟨nd, rfl⟩⟩; (try first | exact ⟨rfl, _, World.drewN_drewN _ _ _⟩ | exact ⟨rfl, _, Eq.trans (World.drewN_drewN _ _ _) (congrArg (World.drewN _) (Nat.add_assoc _ _ _))⟩); obtain ⟨hcz78_0, hcz78_1, hcz78_2, hcz78_3⟩ := cz BK341; obtain ⟨hfz78_0, hfz78_1, hfz78_2, hfz78_3⟩ := fz BK341))
                    repeat (go_quiet (first | (go_at_call 10; (with_reducible refine (m_Order.calls kj1 _ _ l0 t334 t337 t338 t339 t340 _ ?side1 ?side2 A15.1).mono ?_); (case side1 => exact cb HR0 HB); (case side2 => exact HC0.1); rintro e w68 ⟨v335, rfl, ho0, hb⟩; have HO336 := aM (Kd.R_lower ho0 (below_size (hh HB))); replace HO_3 := aM (Kd.N_elder' (by (with_reducible repeat (first | apply Kd.N_alloc | apply Kd.N_drewN | apply Kd.N_drew)); exact HO_3.1) (Kd.R_base ho0) hb); replace HB := bs HB hb; (try clear hb); (try clear hb2); (try clear hk); (try clear hi); (try clear ho0)) | ((with_reducible refine gate_dst (N := 6) rfl ?_); (try (refine gate_guard (by rfl) ?_; dsimp only)); refine be 6 rfl rfl #[.int .i64 0, .string (⟨#[]⟩ : ByteArray), .int .i64 0, .int .i64 0] 28 ?_; intro gb341 hg w69 hbox hb; have BK341 := aM hbox; have GW341 := gs hg HB; have GE341 := gs hg HB; replace HO_3 := aM (Kd.N_below (Kd.N_elderB (by (with_reducible repeat (first | apply Kd.N_alloc | apply Kd.N_drewN | apply Kd.N_drew)); exact HO_3.1) gb341 (Nat.le_of_eq hg.symm)) hb); replace HO336 := rb HO336 hb; replace HB := bs HB hb; clear hb hbox hg; obtain ⟨hcz70_0, hcz70_1, hcz70_2, hcz70_3⟩ := cz BK341; obtain ⟨hfz70_0, hfz70_1, hfz70_2, hfz70_3⟩ := fz BK341; obtain ⟨Ao71, co71, eo71⟩ := Kd.N_slice HO_3.1; subst eo71) | (go_at_call 10; (with_reducible refine (m_Order.calls kj1 _ _ x3_1 t342 t345 t346 t347 t348 _ ?side1 ?side2 A16.1).mono ?_); (case side1 => refine (Kd.N_reads' (e := 42) (base := w.heap.size) (ok := fun k_ => ((True /\ some k_ ≠ (v335 : Value).ownBlock) /\ k_ ≠ gb341)) (n := x3_1.length) (c := co71) ?_).2.2; exact (by (with_reducible repeat (first | apply Kd.N_alloc | apply Kd.N_drewN | apply Kd.N_drew)); exact (Kd.N_mono (Kd.N_far (p := ⟨gb341, 3, none⟩) (Kd.N_far (p := ⟨gb341, 2, none⟩) (Kd.N_far (p := ⟨gb341, 1, none⟩) (Kd.N_far (p := ⟨gb341, 0, none⟩) (Kd.N_mono HO_3.1 (fun k_ hk => (⟨hk, hk.2⟩ : _ /\ k_ ≠ gb341))) (fun _ hk => hk.2) (.int .i64 t337)) (fun _ hk => hk.2) (.string t338)) (fun _ hk => hk.2) (.int .i64 t339)) (fun _ hk => hk.2) (.int .i64 t340)) (fun _ h_ => h_.1)))); (case side2 => exact (Kd.N_reads' HO_3.1).2.1); rintro e w72 ⟨v343, rfl, ho0, hb⟩; have HO344 := aM (Kd.R_lower (Kd.R_new' ho0 (Kd.R_lt (rz (rf4 HO336 BK341 (by decide))))) (below_size (hh HB))); replace HO_3 := aM (Kd.N_elder' (by (with_reducible repeat (first | apply Kd.N_alloc | apply Kd.N_drewN | apply Kd.N_drew)); exact (Kd.N_mono (Kd.N_far (p := ⟨gb341, 3, none⟩) (Kd.N_far (p := ⟨gb341, 2, none⟩) (Kd.N_far (p := ⟨gb341, 1, none⟩) (Kd.N_far (p := ⟨gb341, 0, none⟩) (Kd.N_mono HO_3.1 (fun k_ hk => (⟨hk, hk.2⟩ : _ /\ k_ ≠ gb341))) (fun _ hk => hk.2) (.int .i64 t337)) (fun _ hk => hk.2) (.string t338)) (fun _ hk => hk.2) (.int .i64 t339)) (fun _ hk => hk.2) (.int .i64 t340)) (fun _ h_ => h_.1))) (Kd.R_base ho0) hb); replace HO336 := aM (Kd.R_elder' (rz (rf4 HO336 BK341 (by decide))) (Kd.R_base ho0) hb); replace BK341 := kg (o' := .cells #[.int .i64 t337, .string t338, .int .i64 t339, .int .i64 t340] 28 (0, 0)) BK341 hb; replace HB := bs HB hb; (try clear hb); (try clear hb2); (try clear hk); (try clear hi); (try clear ho0)) | ((with_reducible refine gate_dst (N := 8) rfl ?_); (try (refine gate_guard (by rfl) ?_; dsimp only)); refine be 8 rfl rfl #[.int .i64 0, .string (⟨#[]⟩ : ByteArray), .int .i64 0, .int .i64 0] 28 ?_; intro gb349 hg w73 hbox hb; have BK349 := aM hbox; have GW349 := gs hg HB; have GE349 := gs hg HB; have NB341_349 := nl hg BK341; have NB349_341 := nr hg BK341; replace HO_3 := aM (Kd.N_below (Kd.N_elderB (by (with_reducible repeat (first | apply Kd.N_alloc | apply Kd.N_drewN | apply Kd.N_drew)); exact HO_3.1) gb349 (Nat.le_of_eq hg.symm)) hb); replace HO336 := rb HO336 hb; replace HO344 := rb HO344 hb; replace BK341 := kb BK341 hb; replace HB := bs HB hb; clear hb hbox hg; have hnb74 := NB349_341.1; have hnc74 := NB341_349.1; obtain ⟨hcz75_0, hcz75_1, hcz75_2, hcz75_3⟩ := cz BK349; obtain ⟨hfz75_0, hfz75_1, hfz75_2, hfz75_3⟩ := fz BK349; obtain ⟨Ao76, co76, eo76⟩ := Kd.R_slice HO336.1; subst eo76; obtain ⟨Ao77, co77, eo77⟩ := Kd.R_slice HO344.1; subst eo77) | (go_at_call 14; (with_reducible refine (w_same.calls kj1 _ _ t334 _ _ t342 true _ ?side1 ?side2 ?side3 ?side4 A17.1).mono ?_); (case side1 => exact c2 (rf4 HO336 BK349 (by decide))); (case side2 => exact (Kd.R_reads' HO336.1).2.1); (case side3 => exact c2 (rf4 HO344 BK349 (by decide))); (case side4 => exact (Kd.R_reads' HO344.1).2.1); rintro e w' ⟨rfl, ⟨nd, rfl⟩⟩; (try first | exact ⟨rfl, _, World.drewN_drewN _ _ _⟩ | exact ⟨rfl, _, Eq.trans (World.drewN_drewN _ _ _) (congrArg (World.drewN _) (Nat.add_assoc _ _ _))⟩); obtain ⟨hcz78_0, hcz78_1, hcz78_2, hcz78_3⟩ := cz BK341; obtain ⟨hfz78_0, hfz78_1, hfz78_2, hfz78_3⟩ := fz BK341)); try go_wp2_with (first | (go_at_call 10; (with_reducible refine (m_Order.calls kj1 _ _ l0 t334 t337 t338 t339 t340 _ ?side1 ?side2 A15.1).mono ?_); (case side1 => exact cb HR0 HB); (case side2 => exact HC0.1); rintro e w68 ⟨v335, rfl, ho0, hb⟩; have HO336 := aM (Kd.R_lower ho0 (below_size (hh HB))); replace HO_3 := aM (Kd.N_elder' (by (with_reducible repeat (first | apply Kd.N_alloc | apply Kd.N_drewN | apply Kd.N_drew)); exact HO_3.1) (Kd.R_base ho0) hb); replace HB := bs HB hb; (try clear hb); (try clear hb2); (try clear hk); (try clear hi); (try clear ho0)) | ((with_reducible refine gate_dst (N := 6) rfl ?_); (try (refine gate_guard (by rfl) ?_; dsimp only)); refine be 6 rfl rfl #[.int .i64 0, .string (⟨#[]⟩ : ByteArray), .int .i64 0, .int .i64 0] 28 ?_; intro gb341 hg w69 hbox hb; have BK341 := aM hbox; have GW341 := gs hg HB; have GE341 := gs hg HB; replace HO_3 := aM (Kd.N_below (Kd.N_elderB (by (with_reducible repeat (first | apply Kd.N_alloc | apply Kd.N_drewN | apply Kd.N_drew)); exact HO_3.1) gb341 (Nat.le_of_eq hg.symm)) hb); replace HO336 := rb HO336 hb; replace HB := bs HB hb; clear hb hbox hg; obtain ⟨hcz70_0, hcz70_1, hcz70_2, hcz70_3⟩ := cz BK341; obtain ⟨hfz70_0, hfz70_1, hfz70_2, hfz70_3⟩ := fz BK341; obtain ⟨Ao71, co71, eo71⟩ := Kd.N_slice HO_3.1; subst eo71) | (go_at_call 10; (with_reducible refine (m_Order.calls kj1 _ _ x3_1 t342 t345 t346 t347 t348 _ ?side1 ?side2 A16.1).mono ?_); (case side1 => refine (Kd.N_reads' (e := 42) (base := w.heap.size) (ok := fun k_ => ((True /\ some k_ ≠ (v335 : Value).ownBlock) /\ k_ ≠ gb341)) (n := x3_1.length) (c := co71) ?_).2.2; exact (by (with_reducible repeat (first | apply Kd.N_alloc | apply Kd.N_drewN | apply Kd.N_drew)); exact (Kd.N_mono (Kd.N_far (p := ⟨gb341, 3, none⟩) (Kd.N_far (p := ⟨gb341, 2, none⟩) (Kd.N_far (p := ⟨gb341, 1, none⟩) (Kd.N_far (p := ⟨gb341, 0, none⟩) (Kd.N_mono HO_3.1 (fun k_ hk => (⟨hk, hk.2⟩ : _ /\ k_ ≠ gb341))) (fun _ hk => hk.2) (.int .i64 t337)) (fun _ hk => hk.2) (.string t338)) (fun _ hk => hk.2) (.int .i64 t339)) (fun _ hk => hk.2) (.int .i64 t340)) (fun _ h_ => h_.1)))); (case side2 => exact (Kd.N_reads' HO_3.1).2.1); rintro e w72 ⟨v343, rfl, ho0, hb⟩; have HO344 := aM (Kd.R_lower (Kd.R_new' ho0 (Kd.R_lt (rz (rf4 HO336 BK341 (by decide))))) (below_size (hh HB))); replace HO_3 := aM (Kd.N_elder' (by (with_reducible repeat (first | apply Kd.N_alloc | apply Kd.N_drewN | apply Kd.N_drew)); exact (Kd.N_mono (Kd.N_far (p := ⟨gb341, 3, none⟩) (Kd.N_far (p := ⟨gb341, 2, none⟩) (Kd.N_far (p := ⟨gb341, 1, none⟩) (Kd.N_far (p := ⟨gb341, 0, none⟩) (Kd.N_mono HO_3.1 (fun k_ hk => (⟨hk, hk.2⟩ : _ /\ k_ ≠ gb341))) (fun _ hk => hk.2) (.int .i64 t337)) (fun _ hk => hk.2) (.string t338)) (fun _ hk => hk.2) (.int .i64 t339)) (fun _ hk => hk.2) (.int .i64 t340)) (fun _ h_ => h_.1))) (Kd.R_base ho0) hb); replace HO336 := aM (Kd.R_elder' (rz (rf4 HO336 BK341 (by decide))) (Kd.R_base ho0) hb); replace BK341 := kg (o' := .cells #[.int .i64 t337, .string t338, .int .i64 t339, .int .i64 t340] 28 (0, 0)) BK341 hb; replace HB := bs HB hb; (try clear hb); (try clear hb2); (try clear hk); (try clear hi); (try clear ho0)) | ((with_reducible refine gate_dst (N := 8) rfl ?_); (try (refine gate_guard (by rfl) ?_; dsimp only)); refine be 8 rfl rfl #[.int .i64 0, .string (⟨#[]⟩ : ByteArray), .int .i64 0, .int .i64 0] 28 ?_; intro gb349 hg w73 hbox hb; have BK349 := aM hbox; have GW349 := gs hg HB; have GE349 := gs hg HB; have NB341_349 := nl hg BK341; have NB349_341 := nr hg BK341; replace HO_3 := aM (Kd.N_below (Kd.N_elderB (by (with_reducible repeat (first | apply Kd.N_alloc | apply Kd.N_drewN | apply Kd.N_drew)); exact HO_3.1) gb349 (Nat.le_of_eq hg.symm)) hb); replace HO336 := rb HO336 hb; replace HO344 := rb HO344 hb; replace BK341 := kb BK341 hb; replace HB := bs HB hb; clear hb hbox hg; have hnb74 := NB349_341.1; have hnc74 := NB341_349.1; obtain ⟨hcz75_0, hcz75_1, hcz75_2, hcz75_3⟩ := cz BK349; obtain ⟨hfz75_0, hfz75_1, hfz75_2, hfz75_3⟩ := fz BK349; obtain ⟨Ao76, co76, eo76⟩ := Kd.R_slice HO336.1; subst eo76; obtain ⟨Ao77, co77, eo77⟩ := Kd.R_slice HO344.1; subst eo77) | (go_at_call 14; (with_reducible refine (w_same.calls kj1 _ _ t334 _ _ t342 true _ ?side1 ?side2 ?side3 ?side4 A17.1).mono ?_); (case side1 => exact c2 (rf4 HO336 BK349 (by decide))); (case side2 => exact (Kd.R_reads' HO336.1).2.1); (case side3 => exact c2 (rf4 HO344 BK349 (by decide))); (case side4 => exact (Kd.R_reads' HO344.1).2.1); rintro e w' ⟨rfl, ⟨nd, rfl⟩⟩; (try first | exact ⟨rfl, _, World.drewN_drewN _ _ _⟩ | exact ⟨rfl, _, Eq.trans (World.drewN_drewN _ _ _) (congrArg (World.drewN _) (Nat.add_assoc _ _ _))⟩); obtain ⟨hcz78_0, hcz78_1, hcz78_2, hcz78_3⟩ := cz BK341; obtain ⟨hfz78_0, hfz78_1, hfz78_2, hfz78_3⟩ := fz BK341)))
                    go_ret
                    exact ⟨by first | rfl | (simp [errW_none, errW_some] <;> rfl) | (simp [*, errW_none, errW_some] <;> rfl), hh HB⟩
              · replace c18 := Bool.eq_false_iff.mpr c18
                subst c18
                rw [if_neg (show ¬ (false = true) by decide)] at H
                obtain rfl := Option.some.inj H
                go_wp2_with (first | (go_at_call 10; (with_reducible refine (m_Order.calls kj1 _ _ l0 t334 t337 t338 t339 t340 _ ?side1 ?side2 A15.1).mono ?_); (case side1 => exact cb HR0 HB); (case side2 => exact HC0.1); rintro e w79 ⟨v335, rfl, ho0, hb⟩; have HO336 := aM (Kd.R_lower ho0 (below_size (hh HB))); replace HO_3 := aM (Kd.N_elder' (by (with_reducible repeat (first | apply Kd.N_alloc | apply Kd.N_drewN | apply Kd.N_drew)); exact HO_3.1) (Kd.R_base ho0) hb); replace HB := bs HB hb; (try clear hb); (try clear hb2); (try clear hk); (try clear hi); (try clear ho0)) | ((with_reducible refine gate_dst (N := 6) rfl ?_); (try (refine gate_guard (by rfl) ?_; dsimp only)); refine be 6 rfl rfl #[.int .i64 0, .string (⟨#[]⟩ : ByteArray), .int .i64 0, .int .i64 0] 28 ?_; intro gb341 hg w80 hbox hb; have BK341 := aM hbox; have GW341 := gs hg HB; have GE341 := gs hg HB; replace HO_3 := aM (Kd.N_below (Kd.N_elderB (by (with_reducible repeat (first | apply Kd.N_alloc | apply Kd.N_drewN | apply Kd.N_drew)); exact HO_3.1) gb341 (Nat.le_of_eq hg.symm)) hb); replace HO336 := rb HO336 hb; replace HB := bs HB hb; clear hb hbox hg; obtain ⟨hcz81_0, hcz81_1, hcz81_2, hcz81_3⟩ := cz BK341; obtain ⟨hfz81_0, hfz81_1, hfz81_2, hfz81_3⟩ := fz BK341; obtain ⟨Ao82, co82, eo82⟩ := Kd.N_slice HO_3.1; subst eo82) | (go_at_call 10; (with_reducible refine (m_Order.calls kj1 _ _ x3_1 t342 t345 t346 t347 t348 _ ?side1 ?side2 A16.1).mono ?_); (case side1 => refine (Kd.N_reads' (e := 42) (base := w.heap.size) (ok := fun k_ => ((True /\ some k_ ≠ (v335 : Value).ownBlock) /\ k_ ≠ gb341)) (n := x3_1.length) (c := co82) ?_).2.2; exact (by (with_reducible repeat (first | apply Kd.N_alloc | apply Kd.N_drewN | apply Kd.N_drew)); exact (Kd.N_mono (Kd.N_far (p := ⟨gb341, 3, none⟩) (Kd.N_far (p := ⟨gb341, 2, none⟩) (Kd.N_far (p := ⟨gb341, 1, none⟩) (Kd.N_far (p := ⟨gb341, 0, none⟩) (Kd.N_mono HO_3.1 (fun k_ hk => (⟨hk, hk.2⟩ : _ /\ k_ ≠ gb341))) (fun _ hk => hk.2) (.int .i64 t337)) (fun _ hk => hk.2) (.string t338)) (fun _ hk => hk.2) (.int .i64 t339)) (fun _ hk => hk.2) (.int .i64 t340)) (fun _ h_ => h_.1)))); (case side2 => exact (Kd.N_reads' HO_3.1).2.1); rintro e w83 ⟨v343, rfl, ho0, hb⟩; have HO344 := aM (Kd.R_lower (Kd.R_new' ho0 (Kd.R_lt (rz (rf4 HO336 BK341 (by decide))))) (below_size (hh HB))); replace HO_3 := aM (Kd.N_elder' (by (with_reducible repeat (first | apply Kd.N_alloc | apply Kd.N_drewN | apply Kd.N_drew)); exact (Kd.N_mono (Kd.N_far (p := ⟨gb341, 3, none⟩) (Kd.N_far (p := ⟨gb341, 2, none⟩) (Kd.N_far (p := ⟨gb341, 1, none⟩) (Kd.N_far (p := ⟨gb341, 0, none⟩) (Kd.N_mono HO_3.1 (fun k_ hk => (⟨hk, hk.2⟩ : _ /\ k_ ≠ gb341))) (fun _ hk => hk.2) (.int .i64 t337)) (fun _ hk => hk.2) (.string t338)) (fun _ hk => hk.2) (.int .i64 t339)) (fun _ hk => hk.2) (.int .i64 t340)) (fun _ h_ => h_.1))) (Kd.R_base ho0) hb); replace HO336 := aM (Kd.R_elder' (rz (rf4 HO336 BK341 (by decide))) (Kd.R_base ho0) hb); replace BK341 := kg (o' := .cells #[.int .i64 t337, .string t338, .int .i64 t339, .int .i64 t340] 28 (0, 0)) BK341 hb; replace HB := bs HB hb; (try clear hb); (try clear hb2); (try clear hk); (try clear hi); (try clear ho0)) | ((with_reducible refine gate_dst (N := 8) rfl ?_); (try (refine gate_guard (by rfl) ?_; dsimp only)); refine be 8 rfl rfl #[.int .i64 0, .string (⟨#[]⟩ : ByteArray), .int .i64 0, .int .i64 0] 28 ?_; intro gb349 hg w84 hbox hb; have BK349 := aM hbox; have GW349 := gs hg HB; have GE349 := gs hg HB; have NB341_349 := nl hg BK341; have NB349_341 := nr hg BK341; replace HO_3 := aM (Kd.N_below (Kd.N_elderB (by (with_reducible repeat (first | apply Kd.N_alloc | apply Kd.N_drewN | apply Kd.N_drew)); exact HO_3.1) gb349 (Nat.le_of_eq hg.symm)) hb); replace HO336 := rb HO336 hb; replace HO344 := rb HO344 hb; replace BK341 := kb BK341 hb; replace HB := bs HB hb; clear hb hbox hg; have hnb85 := NB349_341.1; have hnc85 := NB341_349.1; obtain ⟨hcz86_0, hcz86_1, hcz86_2, hcz86_3⟩ := cz BK349; obtain ⟨hfz86_0, hfz86_1, hfz86_2, hfz86_3⟩ := fz BK349; obtain ⟨Ao87, co87, eo87⟩ := Kd.R_slice HO336.1; subst eo87; obtain ⟨Ao88, co88, eo88⟩ := Kd.R_slice HO344.1; subst eo88) | (go_at_call 14; (with_reducible refine (w_same.calls kj1 _ _ t334 _ _ t342 false _ ?side1 ?side2 ?side3 ?side4 A17.1).mono ?_); (case side1 => exact c2 (rf4 HO336 BK349 (by decide))); (case side2 => exact (Kd.R_reads' HO336.1).2.1); (case side3 => exact c2 (rf4 HO344 BK349 (by decide))); (case side4 => exact (Kd.R_reads' HO344.1).2.1); rintro e w' ⟨rfl, ⟨nd, rfl⟩⟩; (try first | exact ⟨rfl, _, World.drewN_drewN _ _ _⟩ | exact ⟨rfl, _, Eq.trans (World.drewN_drewN _ _ _) (congrArg (World.drewN _) (Nat.add_assoc _ _ _))⟩)))
                repeat (go_quiet (first | (go_at_call 10; (with_reducible refine (m_Order.calls kj1 _ _ l0 t334 t337 t338 t339 t340 _ ?side1 ?side2 A15.1).mono ?_); (case side1 => exact cb HR0 HB); (case side2 => exact HC0.1); rintro e w79 ⟨v335, rfl, ho0, hb⟩; have HO336 := aM (Kd.R_lower ho0 (below_size (hh HB))); replace HO_3 := aM (Kd.N_elder' (by (with_reducible repeat (first | apply Kd.N_alloc | apply Kd.N_drewN | apply Kd.N_drew)); exact HO_3.1) (Kd.R_base ho0) hb); replace HB := bs HB hb; (try clear hb); (try clear hb2); (try clear hk); (try clear hi); (try clear ho0)) | ((with_reducible refine gate_dst (N := 6) rfl ?_); (try (refine gate_guard (by rfl) ?_; dsimp only)); refine be 6 rfl rfl #[.int .i64 0, .string (⟨#[]⟩ : ByteArray), .int .i64 0, .int .i64 0] 28 ?_; intro gb341 hg w80 hbox hb; have BK341 := aM hbox; have GW341 := gs hg HB; have GE341 := gs hg HB; replace HO_3 := aM (Kd.N_below (Kd.N_elderB (by (with_reducible repeat (first | apply Kd.N_alloc | apply Kd.N_drewN | apply Kd.N_drew)); exact HO_3.1) gb341 (Nat.le_of_eq hg.symm)) hb); replace HO336 := rb HO336 hb; replace HB := bs HB hb; clear hb hbox hg; obtain ⟨hcz81_0, hcz81_1, hcz81_2, hcz81_3⟩ := cz BK341; obtain ⟨hfz81_0, hfz81_1, hfz81_2, hfz81_3⟩ := fz BK341; obtain ⟨Ao82, co82, eo82⟩ := Kd.N_slice HO_3.1; subst eo82) | (go_at_call 10; (with_reducible refine (m_Order.calls kj1 _ _ x3_1 t342 t345 t346 t347 t348 _ ?side1 ?side2 A16.1).mono ?_); (case side1 => refine (Kd.N_reads' (e := 42) (base := w.heap.size) (ok := fun k_ => ((True /\ some k_ ≠ (v335 : Value).ownBlock) /\ k_ ≠ gb341)) (n := x3_1.length) (c := co82) ?_).2.2; exact (by (with_reducible repeat (first | apply Kd.N_alloc | apply Kd.N_drewN | apply Kd.N_drew)); exact (Kd.N_mono (Kd.N_far (p := ⟨gb341, 3, none⟩) (Kd.N_far (p := ⟨gb341, 2, none⟩) (Kd.N_far (p := ⟨gb341, 1, none⟩) (Kd.N_far (p := ⟨gb341, 0, none⟩) (Kd.N_mono HO_3.1 (fun k_ hk => (⟨hk, hk.2⟩ : _ /\ k_ ≠ gb341))) (fun _ hk => hk.2) (.int .i64 t337)) (fun _ hk => hk.2) (.string t338)) (fun _ hk => hk.2) (.int .i64 t339)) (fun _ hk => hk.2) (.int .i64 t340)) (fun _ h_ => h_.1)))); (case side2 => exact (Kd.N_reads' HO_3.1).2.1); rintro e w83 ⟨v343, rfl, ho0, hb⟩; have HO344 := aM (Kd.R_lower (Kd.R_new' ho0 (Kd.R_lt (rz (rf4 HO336 BK341 (by decide))))) (below_size (hh HB))); replace HO_3 := aM (Kd.N_elder' (by (with_reducible repeat (first | apply Kd.N_alloc | apply Kd.N_drewN | apply Kd.N_drew)); exact (Kd.N_mono (Kd.N_far (p := ⟨gb341, 3, none⟩) (Kd.N_far (p := ⟨gb341, 2, none⟩) (Kd.N_far (p := ⟨gb341, 1, none⟩) (Kd.N_far (p := ⟨gb341, 0, none⟩) (Kd.N_mono HO_3.1 (fun k_ hk => (⟨hk, hk.2⟩ : _ /\ k_ ≠ gb341))) (fun _ hk => hk.2) (.int .i64 t337)) (fun _ hk => hk.2) (.string t338)) (fun _ hk => hk.2) (.int .i64 t339)) (fun _ hk => hk.2) (.int .i64 t340)) (fun _ h_ => h_.1))) (Kd.R_base ho0) hb); replace HO336 := aM (Kd.R_elder' (rz (rf4 HO336 BK341 (by decide))) (Kd.R_base ho0) hb); replace BK341 := kg (o' := .cells #[.int .i64 t337, .string t338, .int .i64 t339, .int .i64 t340] 28 (0, 0)) BK341 hb; replace HB := bs HB hb; (try clear hb); (try clear hb2); (try clear hk); (try clear hi); (try clear ho0)) | ((with_reducible refine gate_dst (N := 8) rfl ?_); (try (refine gate_guard (by rfl) ?_; dsimp only)); refine be 8 rfl rfl #[.int .i64 0, .string (⟨#[]⟩ : ByteArray), .int .i64 0, .int .i64 0] 28 ?_; intro gb349 hg w84 hbox hb; have BK349 := aM hbox; have GW349 := gs hg HB; have GE349 := gs hg HB; have NB341_349 := nl hg BK341; have NB349_341 := nr hg BK341; replace HO_3 := aM (Kd.N_below (Kd.N_elderB (by (with_reducible repeat (first | apply Kd.N_alloc | apply Kd.N_drewN | apply Kd.N_drew)); exact HO_3.1) gb349 (Nat.le_of_eq hg.symm)) hb); replace HO336 := rb HO336 hb; replace HO344 := rb HO344 hb; replace BK341 := kb BK341 hb; replace HB := bs HB hb; clear hb hbox hg; have hnb85 := NB349_341.1; have hnc85 := NB341_349.1; obtain ⟨hcz86_0, hcz86_1, hcz86_2, hcz86_3⟩ := cz BK349; obtain ⟨hfz86_0, hfz86_1, hfz86_2, hfz86_3⟩ := fz BK349; obtain ⟨Ao87, co87, eo87⟩ := Kd.R_slice HO336.1; subst eo87; obtain ⟨Ao88, co88, eo88⟩ := Kd.R_slice HO344.1; subst eo88) | (go_at_call 14; (with_reducible refine (w_same.calls kj1 _ _ t334 _ _ t342 false _ ?side1 ?side2 ?side3 ?side4 A17.1).mono ?_); (case side1 => exact c2 (rf4 HO336 BK349 (by decide))); (case side2 => exact (Kd.R_reads' HO336.1).2.1); (case side3 => exact c2 (rf4 HO344 BK349 (by decide))); (case side4 => exact (Kd.R_reads' HO344.1).2.1); rintro e w' ⟨rfl, ⟨nd, rfl⟩⟩; (try first | exact ⟨rfl, _, World.drewN_drewN _ _ _⟩ | exact ⟨rfl, _, Eq.trans (World.drewN_drewN _ _ _) (congrArg (World.drewN _) (Nat.add_assoc _ _ _))⟩))); try go_wp2_with (first | (go_at_call 10; (with_reducible refine (m_Order.calls kj1 _ _ l0 t334 t337 t338 t339 t340 _ ?side1 ?side2 A15.1).mono ?_); (case side1 => exact cb HR0 HB); (case side2 => exact HC0.1); rintro e w79 ⟨v335, rfl, ho0, hb⟩; have HO336 := aM (Kd.R_lower ho0 (below_size (hh HB))); replace HO_3 := aM (Kd.N_elder' (by (with_reducible repeat (first | apply Kd.N_alloc | apply Kd.N_drewN | apply Kd.N_drew)); exact HO_3.1) (Kd.R_base ho0) hb); replace HB := bs HB hb; (try clear hb); (try clear hb2); (try clear hk); (try clear hi); (try clear ho0)) | ((with_reducible refine gate_dst (N := 6) rfl ?_); (try (refine gate_guard (by rfl) ?_; dsimp only)); refine be 6 rfl rfl #[.int .i64 0, .string (⟨#[]⟩ : ByteArray), .int .i64 0, .int .i64 0] 28 ?_; intro gb341 hg w80 hbox hb; have BK341 := aM hbox; have GW341 := gs hg HB; have GE341 := gs hg HB; replace HO_3 := aM (Kd.N_below (Kd.N_elderB (by (with_reducible repeat (first | apply Kd.N_alloc | apply Kd.N_drewN | apply Kd.N_drew)); exact HO_3.1) gb341 (Nat.le_of_eq hg.symm)) hb); replace HO336 := rb HO336 hb; replace HB := bs HB hb; clear hb hbox hg; obtain ⟨hcz81_0, hcz81_1, hcz81_2, hcz81_3⟩ := cz BK341; obtain ⟨hfz81_0, hfz81_1, hfz81_2, hfz81_3⟩ := fz BK341; obtain ⟨Ao82, co82, eo82⟩ := Kd.N_slice HO_3.1; subst eo82) | (go_at_call 10; (with_reducible refine (m_Order.calls kj1 _ _ x3_1 t342 t345 t346 t347 t348 _ ?side1 ?side2 A16.1).mono ?_); (case side1 => refine (Kd.N_reads' (e := 42) (base := w.heap.size) (ok := fun k_ => ((True /\ some k_ ≠ (v335 : Value).ownBlock) /\ k_ ≠ gb341)) (n := x3_1.length) (c := co82) ?_).2.2; exact (by (with_reducible repeat (first | apply Kd.N_alloc | apply Kd.N_drewN | apply Kd.N_drew)); exact (Kd.N_mono (Kd.N_far (p := ⟨gb341, 3, none⟩) (Kd.N_far (p := ⟨gb341, 2, none⟩) (Kd.N_far (p := ⟨gb341, 1, none⟩) (Kd.N_far (p := ⟨gb341, 0, none⟩) (Kd.N_mono HO_3.1 (fun k_ hk => (⟨hk, hk.2⟩ : _ /\ k_ ≠ gb341))) (fun _ hk => hk.2) (.int .i64 t337)) (fun _ hk => hk.2) (.string t338)) (fun _ hk => hk.2) (.int .i64 t339)) (fun _ hk => hk.2) (.int .i64 t340)) (fun _ h_ => h_.1)))); (case side2 => exact (Kd.N_reads' HO_3.1).2.1); rintro e w83 ⟨v343, rfl, ho0, hb⟩; have HO344 := aM (Kd.R_lower (Kd.R_new' ho0 (Kd.R_lt (rz (rf4 HO336 BK341 (by decide))))) (below_size (hh HB))); replace HO_3 := aM (Kd.N_elder' (by (with_reducible repeat (first | apply Kd.N_alloc | apply Kd.N_drewN | apply Kd.N_drew)); exact (Kd.N_mono (Kd.N_far (p := ⟨gb341, 3, none⟩) (Kd.N_far (p := ⟨gb341, 2, none⟩) (Kd.N_far (p := ⟨gb341, 1, none⟩) (Kd.N_far (p := ⟨gb341, 0, none⟩) (Kd.N_mono HO_3.1 (fun k_ hk => (⟨hk, hk.2⟩ : _ /\ k_ ≠ gb341))) (fun _ hk => hk.2) (.int .i64 t337)) (fun _ hk => hk.2) (.string t338)) (fun _ hk => hk.2) (.int .i64 t339)) (fun _ hk => hk.2) (.int .i64 t340)) (fun _ h_ => h_.1))) (Kd.R_base ho0) hb); replace HO336 := aM (Kd.R_elder' (rz (rf4 HO336 BK341 (by decide))) (Kd.R_base ho0) hb); replace BK341 := kg (o' := .cells #[.int .i64 t337, .string t338, .int .i64 t339, .int .i64 t340] 28 (0, 0)) BK341 hb; replace HB := bs HB hb; (try clear hb); (try clear hb2); (try clear hk); (try clear hi); (try clear ho0)) | ((with_reducible refine gate_dst (N := 8) rfl ?_); (try (refine gate_guard (by rfl) ?_; dsimp only)); refine be 8 rfl rfl #[.int .i64 0, .string (⟨#[]⟩ : ByteArray), .int .i64 0, .int .i64 0] 28 ?_; intro gb349 hg w84 hbox hb; have BK349 := aM hbox; have GW349 := gs hg HB; have GE349 := gs hg HB; have NB341_349 := nl hg BK341; have NB349_341 := nr hg BK341; replace HO_3 := aM (Kd.N_below (Kd.N_elderB (by (with_reducible repeat (first | apply Kd.N_alloc | apply Kd.N_drewN | apply Kd.N_drew)); exact HO_3.1) gb349 (Nat.le_of_eq hg.symm)) hb); replace HO336 := rb HO336 hb; replace HO344 := rb HO344 hb; replace BK341 := kb BK341 hb; replace HB := bs HB hb; clear hb hbox hg; have hnb85 := NB349_341.1; have hnc85 := NB341_349.1; obtain ⟨hcz86_0, hcz86_1, hcz86_2, hcz86_3⟩ := cz BK349; obtain ⟨hfz86_0, hfz86_1, hfz86_2, hfz86_3⟩ := fz BK349; obtain ⟨Ao87, co87, eo87⟩ := Kd.R_slice HO336.1; subst eo87; obtain ⟨Ao88, co88, eo88⟩ := Kd.R_slice HO344.1; subst eo88) | (go_at_call 14; (with_reducible refine (w_same.calls kj1 _ _ t334 _ _ t342 false _ ?side1 ?side2 ?side3 ?side4 A17.1).mono ?_); (case side1 => exact c2 (rf4 HO336 BK349 (by decide))); (case side2 => exact (Kd.R_reads' HO336.1).2.1); (case side3 => exact c2 (rf4 HO344 BK349 (by decide))); (case side4 => exact (Kd.R_reads' HO344.1).2.1); rintro e w' ⟨rfl, ⟨nd, rfl⟩⟩; (try first | exact ⟨rfl, _, World.drewN_drewN _ _ _⟩ | exact ⟨rfl, _, Eq.trans (World.drewN_drewN _ _ _) (congrArg (World.drewN _) (Nat.add_assoc _ _ _))⟩))))
                go_ret
                exact ⟨by first | rfl | (simp [errW_none, errW_some] <;> rfl) | (simp [*, errW_none, errW_some] <;> rfl), hh HB⟩
end Go.Proofs.Ytmadhaccjmakdaa.P
namespace Go.Proofs.Ytmadhaccjmakdaa
open Go.RowKit Go.Proofs.Yw.A Go.Proofs.Yw.B Go.Proofs.Yw.C
namespace Tp
open Tj
def nd (es : List (List Int)) (v : Int) : Prop := 0 <= v /\ v < es.length
def Vld (es : List (List Int)) : Prop := ∀ v, nd es v -> ∀ w ∈ row es v, nd es w
inductive Rc (es : List (List Int)) : Int -> Int -> Prop
 | refl (v : Int) : Rc es v v
 | tail {a b c : Int} : Rc es a b -> c ∈ row es b -> Rc es a c
theorem Rc.trans {es : List (List Int)} {a b c : Int} (h : Rc es a b) (h2 : Rc es b c) : Rc es a c := by
 induction h2 with
 | refl => exact h
 | tail _ h3 ih => exact .tail ih h3
theorem Rc.edge {es : List (List Int)} {a b : Int} (h : b ∈ row es a) : Rc es a b := .tail (.refl a) h
theorem w64 (x : Int) (h0 : -9223372036854775808 <= x) (h1 : x < 9223372036854775808) : wrap64 x = x := by
 unfold wrap64
 omega
theorem rd_set (l : List Int) (u v x : Int) (hu : 0 <= u) (hl : u < l.length) (hv : 0 <= v) : rd (l.set u.toNat x) v = if v = u then x else rd l v := by
 unfold rd
 rw [List.getD_eq_getElem?_getD, List.getElem?_set, List.getD_eq_getElem?_getD]
 by_cases h : v = u
 rotate_left
 · rw [if_neg (by omega), if_neg h]
 subst h
 rw [if_pos rfl, if_pos (by omega), if_pos rfl]
 rfl
theorem rd_at (l : List Int) (i : Nat) (h : i < l.length) : rd l (i : Int) = l[i] := by
 unfold rd
 rw [Int.toNat_natCast, List.getD_eq_getElem?_getD, List.getElem?_eq_getElem h]
 rfl
theorem rd_mem (l : List Int) (v : Int) (h0 : 0 <= v) (h : v < l.length) : rd l v ∈ l := by
 obtain ⟨i, rfl⟩ := Int.eq_ofNat_of_zero_le h0
 rw [rd_at l i (by omega)]
 exact List.getElem_mem _
theorem mem_rd (l : List Int) (x : Int) (h : x ∈ l) : ∃ i : Nat, i < l.length /\ rd l (i : Int) = x := by
 obtain ⟨i, hi, e⟩ := List.mem_iff_getElem.1 h
 exact ⟨i, hi, by rw [rd_at l i hi]; exact e⟩
theorem rd_rep (n : Nat) (x v : Int) (h0 : 0 <= v) (h : v < n) : rd (List.replicate n x) v = x := by
 obtain ⟨i, rfl⟩ := Int.eq_ofNat_of_zero_le h0
 rw [rd_at _ i (by simp; omega)]
 simp
structure Inv (es : List (List Int)) (st : TS) : Prop where
 li : st.index.length = es.length
 ll : st.low.length = es.length
 lc : st.comp.length = es.length
 stk : ∀ x ∈ st.stack, nd es x /\ 0 < rd st.index x /\ rd st.comp x = -1
 ons : ∀ x, nd es x -> rd st.index x ≠ 0 -> rd st.comp x < 0 -> x ∈ st.stack
 unv : ∀ x, nd es x -> rd st.index x = 0 -> rd st.comp x = -1
 idx : ∀ x, nd es x -> 0 <= rd st.index x /\ rd st.index x <= st.count
 cmp : ∀ x, nd es x -> -1 <= rd st.comp x /\ rd st.comp x < st.comps
 inj : ∀ x y, nd es x -> nd es y -> rd st.index x = rd st.index y -> rd st.index x ≠ 0 -> x = y
 srt : st.stack.Pairwise fun x y => rd st.index x < rd st.index y
 back : ∀ u, nd es u -> 0 <= rd st.comp u -> ∀ w ∈ row es u, 0 <= rd st.comp w /\ rd st.comp w <= rd st.comp u
 same : ∀ u v, nd es u -> nd es v -> rd st.comp u = rd st.comp v -> 0 <= rd st.comp u -> Rc es u v
 onto : ∀ c, 0 <= c -> c < st.comps -> ∃ v, nd es v /\ rd st.comp v = c
 cnt : st.count + (st.index.count 0 : Nat) = es.length
 cps : 0 <= st.comps /\ st.comps + st.stack.length <= st.count
structure Ext (es : List (List Int)) (p : Int -> Prop) (st st' : TS) : Prop where
 idx : ∀ x, nd es x -> rd st.index x ≠ 0 -> rd st'.index x = rd st.index x
 low : ∀ x, nd es x -> rd st.index x ≠ 0 -> p x -> rd st'.low x = rd st.low x
 cmp : ∀ x, nd es x -> 0 <= rd st.comp x -> rd st'.comp x = rd st.comp x
 cnt : st.count <= st'.count
 new : ∀ x, nd es x -> rd st.index x = 0 -> rd st'.index x = 0 \/ st.count < rd st'.index x
theorem Ext.refl (es : List (List Int)) (p : Int -> Prop) (st : TS) : Ext es p st st := ⟨fun _ _ _ => rfl, fun _ _ _ _ => rfl, fun _ _ _ => rfl, Int.le_refl _, fun _ _ h => .inl h⟩
theorem Ext.trans {es : List (List Int)} {p : Int -> Prop} {a b c : TS} (h : Ext es p a b) (k : Ext es p b c) : Ext es p a c where
 idx x hx h0 := by rw [k.idx x hx (by rw [h.idx x hx h0]; exact h0), h.idx x hx h0]
 low x hx h0 hp := by rw [k.low x hx (by rw [h.idx x hx h0]; exact h0) hp, h.low x hx h0 hp]
 cmp x hx h0 := by rw [k.cmp x hx (by rw [h.cmp x hx h0]; exact h0), h.cmp x hx h0]
 cnt := Int.le_trans h.cnt k.cnt
 new x hx h0 := by
  rcases h.new x hx h0 with h1 | h1
  · rcases k.new x hx h1 with h2 | h2
    · exact .inl h2
    · exact .inr (by have := h.cnt; omega)
  · by_cases h2 : rd b.index x = 0
    · rcases k.new x hx h2 with h3 | h3
      · exact .inl h3
      · exact .inr (by have := h.cnt; omega)
    · rw [k.idx x hx h2]
      exact .inr h1
theorem Ext.imp {es : List (List Int)} {p q : Int -> Prop} {a b : TS} (h : Ext es p a b) (hq : ∀ x, q x -> p x) : Ext es q a b := ⟨h.idx, fun x hx h0 hp => h.low x hx h0 (hq x hp), h.cmp, h.cnt, h.new⟩
def Ok (st : TS) (m w : Int) : Prop := 0 <= rd st.comp w \/ (rd st.index w ≠ 0 /\ m <= rd st.index w)
structure Post (es : List (List Int)) (S0 : List Int) (v c0 : Int) (st : TS) : Prop where
 inv : Inv es st
 idx : rd st.index v = c0 + 1
 way : (st.stack = S0 /\ rd st.low v = c0 + 1 /\ 0 <= rd st.comp v) \/
  (∃ rest, st.stack = S0 ++ v :: rest /\ (∀ x ∈ v :: rest, Rc es x v /\ Rc es v x) /\ (∀ x ∈ v :: rest, ∀ w ∈ row es x, Ok st (rd st.low v) w) /\ rd st.low v < c0 + 1 /\ ∃ y ∈ S0, rd st.index y = rd st.low v /\ Rc es v y)
structure Lp (es : List (List Int)) (S0 : List Int) (v c0 : Int) (i : Nat) (st : TS) (rest : List Int) : Prop where
 inv : Inv es st
 nd : nd es v
 idx : rd st.index v = c0 + 1
 stk : st.stack = S0 ++ v :: rest
 tov : ∀ x ∈ st.stack, Rc es x v
 frm : ∀ x ∈ rest, Rc es v x
 low : rd st.low v <= rd st.index v
 wit : ∃ y ∈ st.stack, rd st.index y = rd st.low v /\ Rc es v y
 blk : ∀ x ∈ rest, ∀ w ∈ row es x, Ok st (rd st.low v) w
 done : ∀ j : Nat, j < i -> j < (row es v).length -> Ok st (rd st.low v) (rd (row es v) j)
theorem row_nd {es : List (List Int)} (hv : Vld es) {v : Int} (h : nd es v) (j : Nat) (hj : j < (row es v).length) : nd es (rd (row es v) j) := hv v h _ (by rw [rd_at _ j hj]; exact List.getElem_mem _)
theorem pop_run (es : List (List Int)) (v : Int) (S0 : List Int) : ∀ (m : Nat) (rest : List Int) (k : Nat) (st : TS), rest.length = m -> m < k -> st.stack = S0 ++ v :: rest -> v ∉ rest ->
 (∀ x ∈ v :: rest, nd es x) -> st.comp.length = es.length ->
 ∃ cm : List Int, pop k v st = some { st with stack := S0, comp := cm, comps := wrap64 (st.comps + 1) } /\ cm.length = es.length /\
  (∀ x ∈ v :: rest, rd cm x = st.comps) /\ (∀ x, nd es x -> x ∉ v :: rest -> rd cm x = rd st.comp x) := by
 intro m
 induction m with
 | zero =>
  intro rest k st hm hk hs hnv hnd hl
  obtain rfl : rest = [] := List.eq_nil_of_length_eq_zero hm
  obtain ⟨k, rfl⟩ : ∃ m, k = m + 1 := ⟨k - 1, by omega⟩
  have hv := hnd v (by simp)
  have hlen : st.stack.length = S0.length + 1 := by rw [hs]; simp
  have hx : rd st.stack ((st.stack.length : Int) - 1) = v := by
   rw [show ((st.stack.length : Int) - 1) = ((S0.length : Nat) : Int) by omega, rd_at _ _ (by omega)]
   simp [hs]
  have ht : st.stack.take (st.stack.length - 1) = S0 := by
   rw [hlen, Nat.add_sub_cancel, hs]; simp
  refine ⟨st.comp.set v.toNat st.comps, ?_, by simpa using hl, ?_, ?_⟩
  · unfold pop
    rw [if_pos (by omega)]
    simp only [hx, ht]
    rw [if_pos (by have := hv.1; have := hv.2; rw [hl]; omega), if_pos trivial]
  · intro x hx
    rw [List.mem_singleton] at hx
    subst hx
    rw [rd_set _ _ _ _ hv.1 (by rw [hl]; exact hv.2) hv.1, if_pos rfl]
  · intro x hx hne
    rw [rd_set _ _ _ _ hv.1 (by rw [hl]; exact hv.2) hx.1, if_neg (by simpa using hne)]
 | succ m ih =>
  intro rest k st hm hk hs hnv hnd hl
  obtain ⟨k, rfl⟩ : ∃ m, k = m + 1 := ⟨k - 1, by omega⟩
  obtain ⟨r0, z, rfl⟩ : ∃ r0 z, rest = r0 ++ [z] := ⟨rest.dropLast, rest.getLast (by intro e; rw [e] at hm; cases hm), (List.dropLast_concat_getLast _).symm⟩
  have hz := hnd z (by simp)
  have hlen : st.stack.length = S0.length + 1 + r0.length + 1 := by rw [hs]; simp; omega
  have hs2 : st.stack = (S0 ++ v :: r0) ++ [z] := by rw [hs]; simp
  have hx : rd st.stack ((st.stack.length : Int) - 1) = z := by
   rw [show ((st.stack.length : Int) - 1) = (((S0 ++ v :: r0).length : Nat) : Int) by simp; omega, rd_at _ _ (by simp; omega)]
   simp [hs2]
  have ht : st.stack.take (st.stack.length - 1) = S0 ++ v :: r0 := by
   rw [hlen, Nat.add_sub_cancel, hs2, List.take_left' (by simp; omega)]
  have hzv : z ≠ v := by rintro rfl; simp at hnv
  obtain ⟨cm, h1, h2, h3, h4⟩ := ih r0 k { st with stack := S0 ++ v :: r0, comp := st.comp.set z.toNat st.comps } (by simpa using hm) (by omega) rfl (by intro h; exact hnv (by simp [h]))
   (fun x hx => hnd x (by rcases List.mem_cons.1 hx with h | h <;> simp [h])) (by simpa using hl)
  refine ⟨cm, ?_, h2, ?_, ?_⟩
  · unfold pop
    rw [if_pos (by omega)]
    simp only [hx, ht]
    rw [if_pos (by have := hz.1; have := hz.2; rw [hl]; omega), if_neg hzv]
    exact h1
  · intro x hx
    by_cases h : x ∈ v :: r0
    · exact h3 x h
    have hxz : x = z := by
     simp at hx h
     grind
    subst hxz
    rw [h4 x hz h]
    rw [rd_set _ _ _ _ hz.1 (by rw [hl]; exact hz.2) hz.1, if_pos rfl]
  · intro x hx hne
    rw [h4 x hx (by simp at hne ⊢; grind)]
    show rd (st.comp.set z.toNat st.comps) x = _
    rw [rd_set _ _ _ _ hz.1 (by rw [hl]; exact hz.2) hx.1, if_neg (by simp at hne; grind)]
end Tp
namespace Tp
open Tj
theorem Inv.count_le {es : List (List Int)} {st : TS} (h : Inv es st) : 0 <= st.count /\ st.count <= es.length := by
 have := h.cnt
 have := h.cps
 omega
theorem count_set_lt (l : List Int) (u x : Int) (hu : 0 <= u) (hl : u < l.length) (h0 : rd l u = 0) (hx : x ≠ 0) : (l.set u.toNat x).count 0 + 1 = l.count 0 := by
 obtain ⟨i, rfl⟩ := Int.eq_ofNat_of_zero_le hu
 rw [rd_at l i (by omega)] at h0
 have hi : i < l.length := by omega
 have h1 : 0 < l.count 0 := List.count_pos_iff.2 (h0 ▸ List.getElem_mem hi)
 show (l.set i x).count 0 + 1 = l.count 0
 rw [List.count_set hi]
 simp [h0, hx]
 omega
theorem enter_inv {es : List (List Int)} {st : TS} {v : Int} (h : Inv es st) (hv : nd es v) (h0 : rd st.index v = 0) (hn : es.length < 1000000) :
 Inv es (enter v st) /\ (enter v st).count = st.count + 1 /\ (∀ x, nd es x -> rd (enter v st).index x = if x = v then st.count + 1 else rd st.index x) /\
  (∀ x, nd es x -> rd (enter v st).low x = if x = v then st.count + 1 else rd st.low x) /\ (enter v st).index.count 0 + 1 = st.index.count 0 := by
 have hc := h.count_le
 have hw : wrap64 (st.count + 1) = st.count + 1 := w64 _ (by omega) (by omega)
 have hix : ∀ x, nd es x -> rd (enter v st).index x = if x = v then st.count + 1 else rd st.index x := by
  intro x hx
  show rd (st.index.set v.toNat (wrap64 (st.count + 1))) x = _
  rw [hw, rd_set _ _ _ _ hv.1 (by rw [h.li]; exact hv.2) hx.1]
 have hlx : ∀ x, nd es x -> rd (enter v st).low x = if x = v then st.count + 1 else rd st.low x := by
  intro x hx
  show rd (st.low.set v.toNat (wrap64 (st.count + 1))) x = _
  rw [hw, rd_set _ _ _ _ hv.1 (by rw [h.ll]; exact hv.2) hx.1]
 have hcount : (enter v st).index.count 0 + 1 = st.index.count 0 := count_set_lt _ _ _ hv.1 (by rw [h.li]; exact hv.2) h0 (by rw [hw]; omega)
 have hcnt : (enter v st).count = st.count + 1 := hw
 have hnew : ∀ x ∈ st.stack, x ≠ v := by
  rintro x hx rfl
  have := (h.stk x hx).2.1
  omega
 refine ⟨⟨?_, ?_, h.lc, ?_, ?_, ?_, ?_, h.cmp, ?_, ?_, h.back, h.same, h.onto, ?_, ?_⟩, hcnt, hix, hlx, hcount⟩
 · show (st.index.set _ _).length = _
   rw [List.length_set]; exact h.li
 · show (st.low.set _ _).length = _
   rw [List.length_set]; exact h.ll
 · intro x hx
   rcases List.mem_append.1 (show x ∈ st.stack ++ [v] from hx) with h1 | h1
   · obtain ⟨a, b, c⟩ := h.stk x h1
     refine ⟨a, ?_, c⟩
     rw [hix x a, if_neg (hnew x h1)]
     exact b
   · rw [List.mem_singleton] at h1
     subst h1
     exact ⟨hv, by rw [hix x hv, if_pos rfl]; omega, h.unv x hv h0⟩
 · intro x hx hi hcx
   by_cases e : x = v
   · subst e; show x ∈ st.stack ++ [x]; simp
   rw [hix x hx, if_neg e] at hi
   exact List.mem_append.2 (.inl (h.ons x hx hi hcx))
 · intro x hx hi
   by_cases e : x = v
   · subst e; exact h.unv x hx h0
   rw [hix x hx, if_neg e] at hi
   exact h.unv x hx hi
 · intro x hx
   rw [hix x hx, hcnt]
   have := h.idx x hx
   split <;> omega
 · intro x y hx hy he hne
   rw [hix x hx] at he hne
   rw [hix y hy] at he
   have h1 := h.idx x hx
   have h2 := h.idx y hy
   by_cases ex : x = v
   · rw [if_pos ex] at he
     by_cases ey : y = v
     · rw [ex, ey]
     rw [if_neg ey] at he; omega
   rw [if_neg ex] at he hne
   by_cases ey : y = v
   · rw [if_pos ey] at he; omega
   rw [if_neg ey] at he
   exact h.inj x y hx hy he hne
 · show (st.stack ++ [v]).Pairwise _
   rw [List.pairwise_append]
   refine ⟨?_, by simp, ?_⟩
   · refine h.srt.imp_of_mem ?_
     intro a b ha hb hab
     rw [hix a (h.stk a ha).1, hix b (h.stk b hb).1, if_neg (hnew a ha), if_neg (hnew b hb)]
     exact hab
   · intro a ha b hb
     rw [List.mem_singleton] at hb
     subst hb
     rw [hix a (h.stk a ha).1, hix b hv, if_neg (hnew a ha), if_pos rfl]
     have := (h.idx a (h.stk a ha).1).2
     omega
 · rw [hcnt]
   have := h.cnt
   omega
 · rw [hcnt]
   have := h.cps
   refine ⟨this.1, ?_⟩
   show st.comps + ((st.stack ++ [v]).length : Int) <= _
   rw [List.length_append, List.length_singleton]
   omega
theorem lower_inv {es : List (List Int)} {st : TS} {v x : Int} (h : Inv es st) : Inv es (lower v x st) :=
 ⟨h.li, by show (st.low.set _ _).length = _; rw [List.length_set]; exact h.ll, h.lc, h.stk, h.ons, h.unv, h.idx, h.cmp, h.inj, h.srt, h.back, h.same, h.onto, h.cnt, h.cps⟩
theorem lower_low {es : List (List Int)} {st : TS} {v x : Int} (h : Inv es st) (hv : nd es v) (u : Int) (hu : nd es u) : rd (lower v x st).low u = if u = v then mn (rd st.low v) x else rd st.low u := by
 show rd (st.low.set _ _) u = _
 rw [rd_set _ _ _ _ hv.1 (by rw [h.ll]; exact hv.2) hu.1]
theorem mn_le (a b : Int) : mn a b <= a /\ mn a b <= b /\ (mn a b = a \/ mn a b = b) := by
 unfold mn
 split <;> omega
theorem lower_ext {es : List (List Int)} {st : TS} {v x : Int} (h : Inv es st) (hv : nd es v) : Ext es (· ≠ v) st (lower v x st) :=
 ⟨fun _ _ _ => rfl, fun u hu _ hp => by rw [lower_low h hv u hu, if_neg hp], fun _ _ _ => rfl, Int.le_refl _, fun _ _ h => .inl h⟩
theorem Lp.notin {es : List (List Int)} {S0 : List Int} {v c0 : Int} {i : Nat} {st : TS} {rest : List Int} (h : Lp es S0 v c0 i st rest) :
 v ∉ rest /\ (∀ x ∈ S0, rd st.index x < rd st.index v) /\ (∀ x ∈ rest, rd st.index v < rd st.index x) := by
 have hs := h.inv.srt
 rw [h.stk, List.pairwise_append] at hs
 obtain ⟨_, h2, h3⟩ := hs
 rw [List.pairwise_cons] at h2
 refine ⟨fun hm => ?_, fun x hx => h3 x hx v (by simp), h2.1⟩
 have := h2.1 v hm
 omega
theorem end_pop {es : List (List Int)} (hvld : Vld es) {S0 : List Int} {v c0 : Int} {i k : Nat} {st : TS} {rest : List Int} (h : Lp es S0 v c0 i st rest) (hi : (row es v).length <= i)
 (hlow : rd st.low v = rd st.index v) (hk : es.length < k) (hn : es.length < 1000000) :
 ∃ st', pop k v st = some st' /\ Post es S0 v c0 st' /\ Ext es (· ≠ v) st st' /\ st'.index = st.index := by
 obtain ⟨n1, n2, n3⟩ := h.notin
 have hI := h.inv
 have hcl := hI.count_le
 have hmem : ∀ x ∈ v :: rest, x ∈ st.stack := fun x hx => by rw [h.stk]; exact List.mem_append.2 (.inr hx)
 have hseg : ∀ x ∈ v :: rest, nd es x := fun x hx => (hI.stk x (hmem x hx)).1
 have hlen : st.stack.length = S0.length + rest.length + 1 := by rw [h.stk]; simp; omega
 obtain ⟨cm, h1, h2, h3, h4⟩ := pop_run es v S0 rest.length rest k st rfl (by have := hI.cps; omega) h.stk n1 hseg hI.lc
 have hw : wrap64 (st.comps + 1) = st.comps + 1 := w64 _ (by have := hI.cps; omega) (by have := hI.cps; omega)
 rw [hw] at h1
 refine ⟨_, h1, ?_, ?_, rfl⟩
 · have hS0 : ∀ x ∈ S0, x ∉ v :: rest := by
    intro x hx hm
    have a1 := n2 x hx
    rcases List.mem_cons.1 hm with e | e
    · rw [e] at a1; omega
    · have := n3 x e; omega
   have hold : ∀ x, nd es x -> 0 <= rd st.comp x -> x ∉ v :: rest := by
    intro x hx hc hm
    have := (hI.stk x (hmem x hm)).2.2
    omega
   have hsuc : ∀ u ∈ v :: rest, ∀ w ∈ row es u, Ok st (rd st.low v) w := by
    intro u hu w hw
    rcases List.mem_cons.1 hu with e | e
    · subst e
      obtain ⟨j, hj, rfl⟩ := mem_rd _ _ hw
      exact h.done j (by omega) hj
    · exact h.blk u e w hw
   refine ⟨⟨hI.li, hI.ll, h2, ?_, ?_, ?_, hI.idx, ?_, hI.inj, ?_, ?_, ?_, ?_, hI.cnt, ?_⟩, h.idx, .inl ⟨rfl, by rw [<- h.idx]; exact hlow, ?_⟩⟩
   · intro x hx
     obtain ⟨a, b, c⟩ := hI.stk x (by rw [h.stk]; exact List.mem_append.2 (.inl hx))
     exact ⟨a, b, by show rd cm x = _; rw [h4 x a (hS0 x hx)]; exact c⟩
   · intro x hx hi0 hc
     have hc' : rd cm x < 0 := hc
     have hns : x ∉ v :: rest := by
      intro hm
      rw [h3 x hm] at hc'
      have := hI.cps
      omega
     rw [h4 x hx hns] at hc'
     have := hI.ons x hx hi0 hc'
     rw [h.stk] at this
     rcases List.mem_append.1 this with e | e
     · exact e
     · exact absurd e hns
   · intro x hx hi0
     have hns : x ∉ v :: rest := by
      intro hm
      have := (hI.stk x (hmem x hm)).2.1
      have hi1 : rd st.index x = 0 := hi0
      omega
     show rd cm x = _
     rw [h4 x hx hns]
     exact hI.unv x hx hi0
   · intro x hx
     show -1 <= rd cm x /\ rd cm x < st.comps + 1
     by_cases hm : x ∈ v :: rest
     · rw [h3 x hm]; have := hI.cps; omega
     rw [h4 x hx hm]; have := hI.cmp x hx; omega
   · have := hI.srt
     rw [h.stk, List.pairwise_append] at this
     exact this.1
   · intro u hu hc w hwm
     show 0 <= rd cm w /\ rd cm w <= rd cm u
     have hc' : 0 <= rd cm u := hc
     have hwn : nd es w := hvld u hu w hwm
     by_cases hm : u ∈ v :: rest
     rotate_left
     · rw [h4 u hu hm] at hc' ⊢
       have hb := hI.back u hu hc' w hwm
       rw [h4 w hwn (hold w hwn hb.1)]
       exact hb
     rw [h3 u hm]
     by_cases hwm2 : w ∈ v :: rest
     · rw [h3 w hwm2]; have := hI.cps; omega
     rw [h4 w hwn hwm2]
     rcases hsuc u hm w hwm with e | ⟨e1, e2⟩
     · have := hI.cmp w hwn; omega
     · by_cases hcw : 0 <= rd st.comp w
       · have := hI.cmp w hwn; omega
       · have hst := hI.ons w hwn e1 (by omega)
         rw [h.stk] at hst
         rcases List.mem_append.1 hst with e | e
         · have := n2 w e; omega
         · exact absurd e hwm2
   · intro x y hx hy he hc
     have he' : rd cm x = rd cm y := he
     by_cases hm : x ∈ v :: rest
     rotate_left
     · by_cases hm2 : y ∈ v :: rest
       · rw [h3 y hm2, h4 x hx hm] at he'
         have := hI.cmp x hx
         omega
       · have hc' : 0 <= rd cm x := hc
         rw [h4 x hx hm] at hc'
         rw [h4 x hx hm, h4 y hy hm2] at he'
         exact hI.same x y hx hy he' hc'
     by_cases hm2 : y ∈ v :: rest
     rotate_left
     · rw [h3 x hm, h4 y hy hm2] at he'
       have := hI.cmp y hy
       omega
     have hxv : Rc es x v := h.tov x (hmem x hm)
     rcases List.mem_cons.1 hm2 with e | e
     · rw [e]; exact hxv
     · exact hxv.trans (h.frm y e)
   · intro c h0 hc
     have hc' : c < st.comps + 1 := hc
     by_cases e : c = st.comps
     · exact ⟨v, h.nd, by rw [e]; exact h3 v (by simp)⟩
     obtain ⟨u, hu, hcu⟩ := hI.onto c h0 (by omega)
     exact ⟨u, hu, by show rd cm u = c; rw [h4 u hu (hold u hu (by omega))]; exact hcu⟩
   · show 0 <= st.comps + 1 /\ st.comps + 1 + (S0.length : Int) <= st.count
     have := hI.cps
     omega
   · show 0 <= rd cm v
     rw [h3 v (by simp)]
     exact hI.cps.1
 · refine ⟨fun _ _ _ => rfl, fun _ _ _ _ => rfl, fun x hx hc => ?_, Int.le_refl _, fun _ _ e => .inl e⟩
   have hns : x ∉ v :: rest := by
    intro hm
    have := (hI.stk x (hmem x hm)).2.2
    omega
   exact h4 x hx hns
end Tp
namespace Tp
open Tj
def VisitOk (es : List (List Int)) (L k : Nat) : Prop := ∀ (v : Int) (st : TS), Inv es st -> nd es v -> rd st.index v = 0 -> (∀ x ∈ st.stack, Rc es x v) -> st.index.count 0 * (L + 2) + es.length + 2 <= k ->
 ∃ st', visit k es v st = some st' /\ Post es st.stack v st.count st' /\ Ext es (fun _ => True) st st' /\ st'.index.count 0 <= st.index.count 0
def EachOk (es : List (List Int)) (L k : Nat) : Prop := ∀ (S0 : List Int) (v c0 : Int) (i : Nat) (st : TS) (rest : List Int), Lp es S0 v c0 i st rest -> st.index.count 0 * (L + 2) + (L - i) + es.length + 2 <= k ->
 ∃ st', each k es v (row es v) i st = some st' /\ Post es S0 v c0 st' /\ Ext es (· ≠ v) st st' /\ st'.index.count 0 <= st.index.count 0
theorem unv_le {es : List (List Int)} {a b : TS} (ha : Inv es a) (hb : Inv es b) (h : a.count <= b.count) : b.index.count 0 <= a.index.count 0 := by
 have := ha.cnt
 have := hb.cnt
 omega
theorem Ok.ext {es : List (List Int)} {p : Int -> Prop} {a b : TS} (h : Ext es p a b) {m m' w : Int} (hw : nd es w) (hm : m' <= m) (ho : Ok a m w) : Ok b m' w := by
 rcases ho with e | ⟨e1, e2⟩
 · exact .inl (by rw [h.cmp w hw e]; exact e)
 · exact .inr (by rw [h.idx w hw e1]; exact ⟨e1, by omega⟩)
theorem visit_step {es : List (List Int)} (hvld : Vld es) {L k : Nat} (hL : ∀ v, (row es v).length <= L) (hn : es.length < 1000000) (he : EachOk es L k) : VisitOk es L (k + 1) := by
 intro v st hI hv h0 hto hk
 obtain ⟨hI1, hc1, hix, hlx, hct⟩ := enter_inv hI hv h0 hn
 have hcps := hI.cps
 have hcl := hI.count_le
 unfold visit
 rw [if_pos ⟨hv.1, hv.2, by omega⟩]
 have hlp : Lp es st.stack v st.count 0 (enter v st) [] := by
  refine ⟨hI1, hv, by rw [hix v hv, if_pos rfl], rfl, ?_, by simp, ?_, ?_, by simp, by intro j hj; omega⟩
  · intro x hx
    rcases List.mem_append.1 (show x ∈ st.stack ++ [v] from hx) with e | e
    · exact hto x e
    · rw [List.mem_singleton] at e; subst e; exact .refl _
  · rw [hlx v hv, hix v hv]; simp
  · exact ⟨v, by show v ∈ st.stack ++ [v]; simp, by rw [hlx v hv, hix v hv]; simp, .refl _⟩
 have hmul : st.index.count 0 * (L + 2) = (enter v st).index.count 0 * (L + 2) + (L + 2) := by
  rw [<- hct, Nat.add_mul, Nat.one_mul]
 obtain ⟨st', h1, h2, h3, h4⟩ := he st.stack v st.count 0 (enter v st) [] hlp (by omega)
 refine ⟨st', h1, h2, ?_, by omega⟩
 refine ⟨?_, ?_, ?_, ?_, ?_⟩
 · intro x hx hi
   have e : x ≠ v := by rintro rfl; exact hi h0
   have := hix x hx
   rw [if_neg e] at this
   rw [h3.idx x hx (by rw [this]; exact hi), this]
 · intro x hx hi _
   have e : x ≠ v := by rintro rfl; exact hi h0
   have := hix x hx
   rw [if_neg e] at this
   rw [h3.low x hx (by rw [this]; exact hi) e, hlx x hx, if_neg e]
 · exact h3.cmp
 · have := h3.cnt; omega
 · intro x hx hi
   by_cases e : x = v
   · subst e
     right
     rw [h2.idx]; omega
   have := hix x hx
   rw [if_neg e] at this
   rcases h3.new x hx (by rw [this]; exact hi) with e2 | e2
   · exact .inl e2
   · exact .inr (by omega)
theorem lp_next {es : List (List Int)} (hvld : Vld es) {S0 : List Int} {v c0 : Int} {i : Nat} {st st2 : TS} {rest r1 : List Int} (h : Lp es S0 v c0 i st rest) (hi : i < (row es v).length)
 (h2 : Inv es st2) (he : Ext es (fun _ => False) st st2) (hs : st2.stack = st.stack ++ r1) (hr : ∀ x ∈ r1, Rc es x v /\ Rc es v x) (hl : rd st2.low v <= rd st.low v)
 (hw : rd st2.low v = rd st.low v \/ ∃ y ∈ st2.stack, rd st2.index y = rd st2.low v /\ Rc es v y) (hb : ∀ x ∈ r1, ∀ u ∈ row es x, Ok st2 (rd st2.low v) u) (hd : Ok st2 (rd st2.low v) (rd (row es v) i)) :
 Lp es S0 v c0 (i + 1) st2 (rest ++ r1) := by
 have hI := h.inv
 have hvs : v ∈ st.stack := by rw [h.stk]; simp
 have hix : ∀ x ∈ st.stack, nd es x /\ rd st2.index x = rd st.index x := fun x hx => ⟨(hI.stk x hx).1, he.idx x (hI.stk x hx).1 (by have := (hI.stk x hx).2.1; omega)⟩
 refine ⟨h2, h.nd, by rw [(hix v hvs).2]; exact h.idx, by rw [hs, h.stk]; simp, ?_, ?_, by rw [(hix v hvs).2]; have := h.low; omega, ?_, ?_, ?_⟩
 · intro x hx
   rw [hs] at hx
   rcases List.mem_append.1 hx with e | e
   · exact h.tov x e
   · exact (hr x e).1
 · intro x hx
   rcases List.mem_append.1 hx with e | e
   · exact h.frm x e
   · exact (hr x e).2
 · rcases hw with e | e
   · obtain ⟨y, y1, y2, y3⟩ := h.wit
     exact ⟨y, by rw [hs]; exact List.mem_append.2 (.inl y1), by rw [(hix y y1).2, e]; exact y2, y3⟩
   · exact e
 · intro x hx u hu
   rcases List.mem_append.1 hx with e | e
   · exact Ok.ext he (hvld x (hI.stk x (by rw [h.stk]; simp [e])).1 u hu) hl (h.blk x e u hu)
   · exact hb x e u hu
 · intro j hj hjl
   by_cases e : j = i
   · rw [e]; exact hd
   exact Ok.ext he (row_nd hvld h.nd j hjl) hl (h.done j (by omega) hjl)
theorem each_step {es : List (List Int)} (hvld : Vld es) {L k : Nat} (hL : ∀ v, (row es v).length <= L) (hn : es.length < 1000000) (hv : VisitOk es L k) (he : EachOk es L k) : EachOk es L (k + 1) := by
 intro S0 v c0 i st rest h hk
 have hI := h.inv
 have hcl := hI.count_le
 have hiv := hI.idx v h.nd
 have hLv := hL v
 have hvs : v ∈ st.stack := by rw [h.stk]; simp
 have hvi : rd st.index v ≠ 0 := by have := (hI.stk v hvs).2.1; omega
 unfold each
 by_cases hi : i < (row es v).length
 rotate_left
 · rw [if_neg (by omega)]
   by_cases hlow : rd st.low v = rd st.index v
   · rw [if_pos hlow]
     obtain ⟨st', b1, b2, b3, b4⟩ := end_pop (k := k) hvld h (by omega) hlow (by omega) hn
     exact ⟨st', b1, b2, b3, by rw [b4]; exact Nat.le_refl _⟩
   rw [if_neg hlow]
   refine ⟨st, rfl, ⟨hI, h.idx, .inr ⟨rest, h.stk, ?_, ?_, ?_, ?_⟩⟩, Ext.refl _ _ _, Nat.le_refl _⟩
   · intro x hx
     refine ⟨h.tov x (by rw [h.stk]; exact List.mem_append.2 (.inr hx)), ?_⟩
     rcases List.mem_cons.1 hx with e | e
     · rw [e]; exact .refl _
     · exact h.frm x e
   · intro x hx u hu
     rcases List.mem_cons.1 hx with e | e
     · rw [e] at hu
       obtain ⟨j, hj, rfl⟩ := mem_rd _ _ hu
       exact h.done j (by omega) hj
     · exact h.blk x e u hu
   · have := h.low; have := h.idx; omega
   · obtain ⟨y, y1, y2, y3⟩ := h.wit
     refine ⟨y, ?_, y2, y3⟩
     have := h.low
     obtain ⟨n1, n2, n3⟩ := h.notin
     rw [h.stk] at y1
     rcases List.mem_append.1 y1 with e | e
     · exact e
     · rcases List.mem_cons.1 e with e | e
       · rw [e] at y2; omega
       · have := n3 y e; omega
 rw [if_pos (by omega)]
 have hw := row_nd hvld h.nd i hi
 have hmem : rd (row es v) i ∈ row es v := by rw [rd_at _ i hi]; exact List.getElem_mem _
 have hnx := @lp_next es hvld S0 v c0 i st
 generalize hwd : rd (row es v) i = w at *
 rw [if_pos ⟨hw.1, hw.2⟩, show (i : Int) + 1 = ((i + 1 : Nat) : Int) by omega]
 by_cases h0 : rd st.index w = 0
 rotate_left
 · rw [if_neg h0]
   by_cases hc : rd st.comp w < 0
   rotate_left
   · rw [if_neg hc]
     have hlp := hnx h hi (r1 := []) hI (Ext.refl _ _ _) (by simp) (by simp) (Int.le_refl _) (.inl rfl) (by simp) (.inl (by omega))
     obtain ⟨st', b1, b2, b3, b4⟩ := he S0 v c0 (i + 1) _ _ hlp (by omega)
     exact ⟨st', b1, b2, b3, b4⟩
   rw [if_pos hc]
   have hlv : rd (lower v (rd st.index w) st).low v = mn (rd st.low v) (rd st.index w) := by rw [lower_low hI h.nd v h.nd, if_pos rfl]
   have hmn := mn_le (rd st.low v) (rd st.index w)
   have hlp := hnx h hi (r1 := []) (lower_inv (v := v) (x := rd st.index w) hI) ((lower_ext hI h.nd).imp (fun _ h => h.elim)) (by show st.stack = _; simp) (by simp) (by rw [hlv]; exact hmn.1)
    (by
     rw [hlv]
     rcases hmn.2.2 with e | e
     · exact .inl e
     · exact .inr ⟨w, hI.ons w hw h0 hc, e.symm, Rc.edge hmem⟩) (by simp) (.inr ⟨h0, by rw [hlv]; exact hmn.2.1⟩)
   obtain ⟨st', b1, b2, b3, b4⟩ := he S0 v c0 (i + 1) _ _ hlp (by show st.index.count 0 * (L + 2) + _ + _ + _ <= _; omega)
   exact ⟨st', b1, b2, (lower_ext hI h.nd).trans b3, b4⟩
 rw [if_pos h0]
 obtain ⟨st1, a1, a2, a3, a4⟩ := hv w st hI hw h0 (fun x hx => (h.tov x hx).tail hmem) (by omega)
 rw [a1, Option.bind_some]
 have hI1 := a2.inv
 have hl1 : rd st1.low v = rd st.low v := a3.low v h.nd hvi trivial
 have hlv : rd (lower v (rd st1.low w) st1).low v = mn (rd st.low v) (rd st1.low w) := by rw [lower_low hI1 h.nd v h.nd, if_pos rfl, hl1]
 have hmn := mn_le (rd st.low v) (rd st1.low w)
 have hext : Ext es (· ≠ v) st (lower v (rd st1.low w) st1) := (a3.imp (fun _ _ => trivial)).trans (lower_ext hI1 h.nd)
 have hlow := h.low
 have next : ∃ rest2, Lp es S0 v c0 (i + 1) (lower v (rd st1.low w) st1) rest2 := by
  rcases a2.way with ⟨s1, s2, s3⟩ | ⟨r1, s1, s2, s3, s4, y, s5, s6, s7⟩
  · exact ⟨_, hnx h hi (r1 := []) (lower_inv hI1) (hext.imp (fun _ h => h.elim)) (by show st1.stack = _; rw [s1]; simp) (by simp) (by rw [hlv]; exact hmn.1) (.inl (by rw [hlv]; omega)) (by simp) (.inl s3)⟩
  · refine ⟨_, hnx h hi (r1 := w :: r1) (lower_inv hI1) (hext.imp (fun _ h => h.elim)) s1 (fun x hx => ?_) (by rw [hlv]; exact hmn.1) ?_ ?_ (.inr ?_)⟩
    · exact ⟨(s2 x hx).1.trans (s7.trans (h.tov y s5)), (Rc.edge hmem).trans (s2 x hx).2⟩
    · rw [hlv]
      rcases hmn.2.2 with e | e
      · exact .inl e
      · refine .inr ⟨y, by show y ∈ st1.stack; rw [s1]; exact List.mem_append.2 (.inl s5), ?_, (Rc.edge hmem).trans s7⟩
        rw [e]; exact s6
    · intro x hx u hu
      rcases s3 x hx u hu with e | ⟨e1, e2⟩
      · exact .inl e
      · exact .inr ⟨e1, by rw [hlv]; show _ <= rd st1.index u; omega⟩
    · have e1 : rd (lower v (rd st1.low w) st1).index w = st.count + 1 := a2.idx
      rw [e1, hlv]
      omega
 obtain ⟨rest2, hlp⟩ := next
 have hu := unv_le hI hI1 a3.cnt
 have hmul : st1.index.count 0 * (L + 2) <= st.index.count 0 * (L + 2) := Nat.mul_le_mul_right _ hu
 obtain ⟨st', b1, b2, b3, b4⟩ := he S0 v c0 (i + 1) _ rest2 hlp (by show st1.index.count 0 * (L + 2) + _ + _ + _ <= _; omega)
 exact ⟨st', b1, b2, hext.trans b3, by have : (lower v (rd st1.low w) st1).index = st1.index := rfl; rw [this] at b4; omega⟩
theorem both {es : List (List Int)} (hvld : Vld es) {L : Nat} (hL : ∀ v, (row es v).length <= L) (hn : es.length < 1000000) : ∀ k, VisitOk es L k /\ EachOk es L k := by
 intro k
 induction k with
 | zero => exact ⟨fun v st _ _ _ _ hk => by omega, fun S0 v c0 i st rest _ hk => by omega⟩
 | succ k ih => exact ⟨visit_step hvld hL hn ih.2, each_step hvld hL hn ih.1 ih.2⟩
structure Sol (es : List (List Int)) (cm : List Int) (n : Int) : Prop where
 len : cm.length = es.length
 n0 : 0 <= n /\ n <= es.length
 rng : ∀ v, nd es v -> 0 <= rd cm v /\ rd cm v < n
 back : ∀ u, nd es u -> ∀ w ∈ row es u, rd cm w <= rd cm u
 same : ∀ u v, nd es u -> nd es v -> rd cm u = rd cm v -> Rc es u v
 onto : ∀ c, 0 <= c -> c < n -> ∃ v, nd es v /\ rd cm v = c
theorem outer_run {es : List (List Int)} (hvld : Vld es) {L : Nat} (hL : ∀ v, (row es v).length <= L) (hn : es.length < 1000000) : ∀ (m : Nat) (k i : Nat) (st : TS), i + m = es.length -> es.length * (L + 2) + es.length + 2 + m < k ->
 Inv es st -> st.stack = [] -> (∀ x, nd es x -> x < i -> rd st.index x ≠ 0) -> ∃ st', outer k es i st = some st' /\ Inv es st' /\ st'.stack = [] /\ ∀ x, nd es x -> rd st'.index x ≠ 0 := by
 intro m
 induction m with
 | zero =>
  intro k i st hi hk hI hs hx
  obtain ⟨k, rfl⟩ : ∃ m, k = m + 1 := ⟨k - 1, by omega⟩
  unfold outer
  rw [if_neg (by omega)]
  exact ⟨st, rfl, hI, hs, fun x h => hx x h (by have := h.2; omega)⟩
 | succ m ih =>
  intro k i st hi hk hI hs hx
  obtain ⟨k, rfl⟩ : ∃ m, k = m + 1 := ⟨k - 1, by omega⟩
  have hnd : nd es (i : Int) := ⟨by omega, by omega⟩
  have hcl := hI.count_le
  unfold outer
  rw [if_pos (by omega), show (i : Int) + 1 = ((i + 1 : Nat) : Int) by omega]
  by_cases h0 : rd st.index i = 0
  rotate_left
  · rw [if_neg h0]
    refine ih k (i + 1) st (by omega) (by omega) hI hs ?_
    intro x h1 h2
    by_cases e : x = i
    · subst e; exact h0
    exact hx x h1 (by omega)
  rw [if_pos h0]
  have hu : st.index.count 0 <= es.length := by rw [<- hI.li]; exact List.count_le_length
  have hmul : st.index.count 0 * (L + 2) <= es.length * (L + 2) := Nat.mul_le_mul_right _ hu
  obtain ⟨st1, a1, a2, a3, a4⟩ := (both hvld hL hn k).1 i st hI hnd h0 (by rw [hs]; simp) (by omega)
  rw [a1, Option.bind_some]
  have hs1 : st1.stack = [] := by
   rcases a2.way with ⟨s1, _⟩ | ⟨_, _, _, _, _, y, s5, _⟩
   · rw [s1, hs]
   · rw [hs] at s5; cases s5
  refine ih k (i + 1) st1 (by omega) (by omega) a2.inv hs1 ?_
  intro x h1 h2
  by_cases e : x = i
  · subst e; rw [a2.idx]; omega
  have := hx x h1 (by omega)
  rw [a3.idx x h1 this]
  exact this
theorem init_inv (es : List (List Int)) : Inv es (init es.length) := by
 have hi : ∀ x, nd es x -> rd (init es.length).index x = 0 := fun x h => rd_rep _ _ _ h.1 h.2
 have hc : ∀ x, nd es x -> rd (init es.length).comp x = -1 := fun x h => rd_rep _ _ _ h.1 h.2
 refine ⟨by simp [init], by simp [init], by simp [init], (fun x hx => by cases hx), (fun x h h0 => absurd (hi x h) h0), (fun x h _ => hc x h), (fun x h => ?_), (fun x h => ?_),
  (fun x y h _ _ h0 => absurd (hi x h) h0), List.Pairwise.nil, (fun u h h0 => ?_), (fun u v h _ _ h0 => ?_), (fun c h0 h1 => ?_), ?_, ?_⟩
 · rw [hi x h]; simp [init]
 · rw [hc x h]; simp [init]
 · rw [hc u h] at h0; omega
 · rw [hc u h] at h0; omega
 · simp [init] at h1; omega
 · simp [init]
 · simp [init]
theorem strong_sol {es : List (List Int)} (hvld : Vld es) {L : Nat} (hL : ∀ v, (row es v).length <= L) (hn : es.length < 1000000) (k : Nat) (hk : es.length * (L + 2) + es.length + es.length + 3 <= k) :
 ∃ cm n, strongF k es = some (cm, n) /\ Sol es cm n := by
 obtain ⟨st, h1, h2, h3, h4⟩ := outer_run hvld hL hn es.length k 0 (init es.length) (by omega) (by omega) (init_inv es) rfl (fun x h h0 => by have := h.1; omega)
 refine ⟨st.comp, st.comps, ?_, ?_⟩
 · unfold strongF
   rw [if_pos (by omega)]
   show (outer k es ((0 : Nat) : Int) _).map _ = _
   rw [h1]
   rfl
 · have hr : ∀ v, nd es v -> 0 <= rd st.comp v := by
    intro v hv
    have h5 := h2.cmp v hv
    by_cases e : rd st.comp v < 0
    rotate_left
    · omega
    have := h2.ons v hv (h4 v hv) e
    rw [h3] at this
    cases this
   have hcl := h2.count_le
   have hcps := h2.cps
   exact ⟨h2.lc, by omega, fun v hv => ⟨hr v hv, (h2.cmp v hv).2⟩, fun u hu w hw => (h2.back u hu (hr u hu) w hw).2, fun u v hu hv he => h2.same u v hu hv he (hr u hu), h2.onto⟩
end Tp
end Go.Proofs.Ytmadhaccjmakdaa
namespace Go.Proofs.Ytmadhaccjmakdaa
open Go.RowKit Go.Proofs.Yw.A Go.Proofs.Yw.B Go.Proofs.Yw.C
namespace Tp
open Tj Rw Od
def iota (n : Nat) : List Int := (List.range n).map fun (i : Nat) => (i : Int)
theorem mem_iota {n : Nat} {x : Int} : x ∈ iota n ↔ 0 <= x /\ x < n := by
 unfold iota
 rw [List.mem_map]
 constructor
 · rintro ⟨i, hi, rfl⟩
   have := List.mem_range.1 hi
   omega
 · intro h
   exact ⟨x.toNat, List.mem_range.2 (by omega), by omega⟩
theorem iota_succ (n : Nat) : iota (n + 1) = iota n ++ [(n : Int)] := by
 unfold iota
 rw [List.range_succ, List.map_append]
 rfl
theorem iota_lt (n : Nat) : (iota n).Pairwise (· < ·) := by
 unfold iota
 rw [List.pairwise_map]
 exact List.pairwise_lt_range.imp (fun h => by omega)
theorem iota_length (n : Nat) : (iota n).length = n := by simp [iota]
theorem nodup_le : ∀ (n : Nat) (l : List Int), l.Nodup -> (∀ x ∈ l, 0 <= x /\ x < n) -> l.length <= n := by
 intro n
 induction n with
 | zero =>
  intro l _ h
  cases l with
  | nil => exact Nat.le_refl _
  | cons a l => have := h a (by simp); omega
 | succ n ih =>
  intro l hd h
  have h1 := ih (l.erase (n : Int)) (hd.erase _) (fun x hx => by
   have h2 := (hd.mem_erase_iff).1 hx
   have := h x h2.2
   have := h2.1
   omega)
  by_cases hm : (n : Int) ∈ l
  rotate_left
  · rw [List.erase_of_not_mem hm] at h1; omega
  rw [List.length_erase_of_mem hm] at h1; omega
theorem row_set (ms : List (List Int)) (c d : Int) (r : List Int) (h0 : 0 <= c) (h1 : c < ms.length) (hd : 0 <= d) : row (ms.set c.toNat r) d = if d = c then r else row ms d := by
 unfold row
 rw [List.getD_eq_getElem?_getD, List.getElem?_set, List.getD_eq_getElem?_getD]
 by_cases h : d = c
 rotate_left
 · rw [if_neg (by omega), if_neg h]
 subst h
 rw [if_pos rfl, if_pos (by omega), if_pos rfl]
 rfl
theorem row_app (ms : List (List Int)) (c d x : Int) (h0 : 0 <= c) (h1 : c < ms.length) (hd : 0 <= d) : row (app ms c x) d = if d = c then row ms c ++ [x] else row ms d := row_set ms c d _ h0 h1 hd
theorem app_length (ms : List (List Int)) (c x : Int) : (app ms c x).length = ms.length := by simp [app]
theorem row_rep (n : Nat) (c : Int) : row (List.replicate n []) c = [] := by
 unfold row
 rw [List.getD_eq_getElem?_getD]
 by_cases h : c.toNat < n
 rotate_left
 · rw [List.getElem?_eq_none (by simpa using h)]; rfl
 rw [List.getElem?_eq_getElem (by simpa using h)]; simp
theorem rd_rep0 (n : Nat) (c : Int) : rd (List.replicate n 0) c = 0 := by
 unfold rd
 rw [List.getD_eq_getElem?_getD]
 by_cases h : c.toNat < n
 rotate_left
 · rw [List.getElem?_eq_none (by simpa using h)]; rfl
 rw [List.getElem?_eq_getElem (by simpa using h)]; simp
theorem row_mem (ms : List (List Int)) (i : Nat) (h : i < ms.length) : row ms (i : Int) = ms[i] := by
 unfold row
 rw [Int.toNat_natCast, List.getD_eq_getElem?_getD, List.getElem?_eq_getElem h]
 rfl
def mem (cm : List Int) (c : Int) : List Int := (iota cm.length).filter fun v => rd cm v == c
theorem mem_mem {cm : List Int} {c x : Int} : x ∈ mem cm c ↔ (0 <= x /\ x < cm.length) /\ rd cm x = c := by
 unfold mem
 rw [List.mem_filter, mem_iota]
 simp
theorem mem_len (cm : List Int) (c : Int) : (mem cm c).length <= cm.length := by
 unfold mem
 exact Nat.le_trans (List.length_filter_le _ _) (by rw [iota_length]; exact Nat.le_refl _)
theorem grp_run {es : List (List Int)} {cm : List Int} {n : Int} (S : Sol es cm n) (hn : es.length < 1000000) : ∀ (m k i : Nat) (ms : List (List Int)), i + m = cm.length -> m < k -> (ms.length : Int) = n ->
 (∀ c, 0 <= c -> c < n -> row ms c = (iota i).filter fun v => rd cm v == c) -> ∃ ms', grp k cm i ms = some ms' /\ (ms'.length : Int) = n /\ ∀ c, 0 <= c -> c < n -> row ms' c = mem cm c := by
 intro m
 induction m with
 | zero =>
  intro k i ms hi hk hl h
  obtain ⟨k, rfl⟩ : ∃ m, k = m + 1 := ⟨k - 1, by omega⟩
  obtain rfl : i = cm.length := by omega
  unfold grp
  rw [if_neg (by omega)]
  exact ⟨ms, rfl, hl, h⟩
 | succ m ih =>
  intro k i ms hi hk hl h
  obtain ⟨k, rfl⟩ : ∃ m, k = m + 1 := ⟨k - 1, by omega⟩
  have hr := S.rng i ⟨by omega, by have := S.len; omega⟩
  have hlen : (row ms (rd cm i)).length <= i := by
   rw [h _ hr.1 hr.2]
   exact Nat.le_trans (List.length_filter_le _ _) (by rw [iota_length]; exact Nat.le_refl _)
  unfold grp
  rw [if_pos (by omega), if_pos ⟨hr.1, by omega, by have := S.len; omega⟩, show (i : Int) + 1 = ((i + 1 : Nat) : Int) by omega]
  refine ih k (i + 1) _ (by omega) (by omega) (by rw [app_length]; exact hl) ?_
  intro c h0 h1
  rw [row_app _ _ _ _ hr.1 (by omega) h0, iota_succ, List.filter_append, <- h c h0 h1]
  by_cases e : c = rd cm i
  · subst e
    rw [if_pos rfl]
    simp
  rw [if_neg e]
  have : (rd cm i == c) = false := by simpa using fun h => e h.symm
  simp [this]
def Dep (es : List (List Int)) (cm : List Int) (c d : Int) : Prop := c ≠ d /\ ∃ v ∈ mem cm c, ∃ w ∈ row es v, rd cm w = d
structure J (n : Int) (c : Int) (O0 : Int -> Int) (U0 : Int -> List Int) (u : US) : Prop where
 lo : (u.opn.length : Int) = n
 lu : (u.users.length : Int) = n
 nd : u.seen.Nodup
 hc : c ∈ u.seen
 rg : ∀ d ∈ u.seen, 0 <= d /\ d < n
 oo : ∀ d, 0 <= d -> d ≠ c -> rd u.opn d = O0 d
 oc : rd u.opn c = u.seen.length - 1
 us : ∀ d, 0 <= d -> d < n -> row u.users d = U0 d ++ (if d ∈ u.seen /\ d ≠ c then [c] else [])
theorem wf_small (x : Int) (h0 : 0 <= x) (h1 : x < 1000000) : (Lit.int .i64 x).wf = true := by
 have a : IntKind.i64.min = -9223372036854775808 := rfl
 have b : IntKind.i64.max = 9223372036854775807 := rfl
 simp only [Lit.wf, a, b, Bool.and_eq_true, decide_eq_true_eq]
 omega
theorem link_J {n c d : Int} {O0 : Int -> Int} {U0 : Int -> List Int} {u : US} (h : J n c O0 U0 u) (hn : n < 1000000) (hd0 : 0 <= d) (hd1 : d < n) (hs : d ∉ u.seen) : J n c O0 U0 (link c d u) := by
 have hc := h.rg c h.hc
 have hlo := h.lo
 have hlu := h.lu
 have hlen : u.seen.length <= n.toNat := nodup_le _ _ h.nd (fun x hx => by have := h.rg x hx; omega)
 have hdc : d ≠ c := by rintro rfl; exact hs h.hc
 refine ⟨?_, ?_, ?_, ?_, ?_, ?_, ?_, ?_⟩
 · show ((u.opn.set _ _).length : Int) = n
   rw [List.length_set]; exact h.lo
 · show ((app u.users d c).length : Int) = n
   rw [app_length]; exact h.lu
 · show (u.seen ++ [d]).Nodup
   rw [List.nodup_append]
   exact ⟨h.nd, by simp, fun a ha b hb e => by rw [List.mem_singleton] at hb; subst hb; subst e; exact hs ha⟩
 · exact List.mem_append.2 (.inl h.hc)
 · intro x hx
   rcases List.mem_append.1 (show x ∈ u.seen ++ [d] from hx) with e | e
   · exact h.rg x e
   · rw [List.mem_singleton] at e; subst e; exact ⟨hd0, hd1⟩
 · intro x h0 hx
   show rd (u.opn.set c.toNat _) x = _
   rw [rd_set _ _ _ _ hc.1 (by omega) h0, if_neg hx]
   exact h.oo x h0 hx
 · show rd (u.opn.set c.toNat _) c = ((u.seen ++ [d]).length : Int) - 1
   rw [rd_set _ _ _ _ hc.1 (by omega) hc.1, if_pos rfl, h.oc, w64 _ (by omega) (by omega), List.length_append, List.length_singleton]
   omega
 · intro x h0 h1
   show row (app u.users d c) x = U0 x ++ (if x ∈ u.seen ++ [d] /\ x ≠ c then [c] else [])
   rw [row_app _ _ _ _ hd0 (by omega) h0]
   by_cases e : x = d
   · subst e
     rw [if_pos rfl, h.us x h0 h1, if_neg (fun h => hs h.1), if_pos ⟨by simp, hdc⟩]
     simp
   rw [if_neg e, h.us x h0 h1]
   have : (x ∈ u.seen ++ [d]) ↔ x ∈ u.seen := by simp [e]
   simp only [this]
theorem ed3_run {es : List (List Int)} {cm : List Int} {n c : Int} {O0 : Int -> Int} {U0 : Int -> List Int} (S : Sol es cm n) (hn : es.length < 1000000) (hU : ∀ d, 0 <= d -> d < n -> (U0 d).length <= 1000000) (l : List Int) (hl : ∀ w ∈ l, nd es w) :
 ∀ (m k i : Nat) (u : US), i + m = l.length -> m < k -> J n c O0 U0 u -> ∃ u', ed3 k cm c l i u = some u' /\ J n c O0 U0 u' /\ ∀ x, x ∈ u'.seen ↔ x ∈ u.seen \/ ∃ w ∈ l.drop i, rd cm w = x := by
 intro m
 induction m with
 | zero =>
  intro k i u hi hk hJ
  obtain ⟨k, rfl⟩ : ∃ m, k = m + 1 := ⟨k - 1, by omega⟩
  unfold ed3
  rw [if_neg (by omega)]
  refine ⟨u, rfl, hJ, fun x => ?_⟩
  rw [List.drop_eq_nil_of_le (by omega)]
  simp
 | succ m ih =>
  intro k i u hi hk hJ
  obtain ⟨k, rfl⟩ : ∃ m, k = m + 1 := ⟨k - 1, by omega⟩
  have hil : i < l.length := by omega
  have hw : nd es (rd l i) := hl _ (by rw [rd_at l i hil]; exact List.getElem_mem _)
  have hr := S.rng _ hw
  have hN := S.n0
  have hdrop : l.drop i = rd l i :: l.drop (i + 1) := by rw [rd_at l i hil]; exact List.drop_eq_getElem_cons hil
  have hlen : u.seen.length <= n.toNat := nodup_le _ _ hJ.nd (fun x hx => by have := hJ.rg x hx; omega)
  have hlo := hJ.lo
  have hlu := hJ.lu
  have hcr := hJ.rg c hJ.hc
  unfold ed3
  rw [if_pos (by omega), if_pos ⟨hw.1, by rw [S.len]; exact hw.2, wf_small _ hr.1 (by omega)⟩, show (i : Int) + 1 = ((i + 1 : Nat) : Int) by omega]
  by_cases hs : rd cm (rd l i) ∈ u.seen
  · rw [if_pos (List.contains_iff_mem.2 hs)]
    obtain ⟨u', a1, a2, a3⟩ := ih k (i + 1) u (by omega) (by omega) hJ
    refine ⟨u', a1, a2, fun x => ?_⟩
    rw [a3, hdrop]
    simp only [List.mem_cons, exists_eq_or_imp]
    constructor
    · rintro (h | h)
      · exact .inl h
      · exact .inr (.inr h)
    · rintro (h | h | h)
      · exact .inl h
      · subst h; exact .inl hs
      · exact .inr h
  rw [if_neg (fun h => hs (List.contains_iff_mem.1 h))]
  have hrow := hJ.us _ hr.1 hr.2
  have hrl : (row u.users (rd cm (rd l i))).length <= 1000001 := by
   rw [hrow, List.length_append]
   have := hU _ hr.1 hr.2
   split <;> simp <;> omega
  rw [if_pos ⟨hcr.1, by omega, hr.1, by omega, by omega, by omega⟩]
  obtain ⟨u', a1, a2, a3⟩ := ih k (i + 1) _ (by omega) (by omega) (link_J hJ (by omega) hr.1 hr.2 hs)
  refine ⟨u', a1, a2, fun x => ?_⟩
  rw [a3, hdrop]
  show x ∈ u.seen ++ [rd cm (rd l i)] \/ _ ↔ _
  simp only [List.mem_cons, exists_eq_or_imp, List.mem_append, List.not_mem_nil, or_false]
  constructor
  · rintro ((h | h) | h)
    · exact .inl h
    · exact .inr (.inl h.symm)
    · exact .inr (.inr h)
  · rintro (h | h | h)
    · exact .inl (.inl h)
    · exact .inl (.inr h.symm)
    · exact .inr h
theorem ed2_run {es : List (List Int)} {cm : List Int} {n c : Int} {O0 : Int -> Int} {U0 : Int -> List Int} (hvld : Vld es) (S : Sol es cm n) (hn : es.length < 1000000) {L : Nat} (hL : ∀ v, (row es v).length <= L)
 (hU : ∀ d, 0 <= d -> d < n -> (U0 d).length <= 1000000) (l : List Int) (hl : ∀ w ∈ l, nd es w) :
 ∀ (m k i : Nat) (u : US), i + m = l.length -> m + L + 1 < k -> J n c O0 U0 u -> ∃ u', ed2 k es cm c l i u = some u' /\ J n c O0 U0 u' /\ ∀ x, x ∈ u'.seen ↔ x ∈ u.seen \/ ∃ v ∈ l.drop i, ∃ w ∈ row es v, rd cm w = x := by
 intro m
 induction m with
 | zero =>
  intro k i u hi hk hJ
  obtain ⟨k, rfl⟩ : ∃ m, k = m + 1 := ⟨k - 1, by omega⟩
  unfold ed2
  rw [if_neg (by omega)]
  refine ⟨u, rfl, hJ, fun x => ?_⟩
  rw [List.drop_eq_nil_of_le (by omega)]
  simp
 | succ m ih =>
  intro k i u hi hk hJ
  obtain ⟨k, rfl⟩ : ∃ m, k = m + 1 := ⟨k - 1, by omega⟩
  have hil : i < l.length := by omega
  have hw : nd es (rd l i) := hl _ (by rw [rd_at l i hil]; exact List.getElem_mem _)
  have hdrop : l.drop i = rd l i :: l.drop (i + 1) := by rw [rd_at l i hil]; exact List.drop_eq_getElem_cons hil
  unfold ed2
  rw [if_pos (by omega), if_pos ⟨hw.1, hw.2⟩, show (i : Int) + 1 = ((i + 1 : Nat) : Int) by omega]
  obtain ⟨u1, b1, b2, b3⟩ := ed3_run S hn hU (row es (rd l i)) (hvld _ hw) (row es (rd l i)).length k 0 u (by omega) (by have := hL (rd l i); omega) hJ
  rw [show ((0 : Int)) = ((0 : Nat) : Int) from rfl, b1, Option.bind_some]
  obtain ⟨u', a1, a2, a3⟩ := ih k (i + 1) u1 (by omega) (by omega) b2
  refine ⟨u', a1, a2, fun x => ?_⟩
  rw [a3, b3, hdrop]
  simp only [List.mem_cons, exists_eq_or_imp, List.drop_zero]
  exact or_assoc
structure K1 (es : List (List Int)) (cm : List Int) (n c : Int) (u : US) : Prop where
 lo : (u.opn.length : Int) = n
 lu : (u.users.length : Int) = n
 dn : ∀ d, 0 <= d -> d < c -> ∃ P : List Int, P.Nodup /\ (∀ x, x ∈ P ↔ Dep es cm d x) /\ rd u.opn d = P.length
 op : ∀ d, c <= d -> rd u.opn d = 0
 us : ∀ d, 0 <= d -> d < n -> (row u.users d).Nodup /\ ∀ x, x ∈ row u.users d ↔ (0 <= x /\ x < c) /\ Dep es cm x d
theorem ed1_run {es : List (List Int)} {cm : List Int} {n : Int} {ms : List (List Int)} (hvld : Vld es) (S : Sol es cm n) (hn : es.length < 1000000) {L : Nat} (hL : ∀ v, (row es v).length <= L) (hml : (ms.length : Int) = n) (hms : ∀ c, 0 <= c -> c < n -> row ms c = mem cm c) :
 ∀ (m k i : Nat) (u : US), i + m = ms.length -> m + es.length + L + 2 < k -> K1 es cm n i u -> ∃ u', ed1 k es cm ms i u = some u' /\ K1 es cm n n u' := by
 intro m
 induction m with
 | zero =>
  intro k i u hi hk hJ
  obtain ⟨k, rfl⟩ : ∃ m, k = m + 1 := ⟨k - 1, by omega⟩
  unfold ed1
  rw [if_neg (by omega)]
  exact ⟨u, rfl, by rw [<- hml, show ms.length = i by omega]; rw [<- hml] at hJ; rw [show ms.length = i by omega] at hJ; exact hJ⟩
 | succ m ih =>
  intro k i u hi hk hJ
  obtain ⟨k, rfl⟩ : ∃ m, k = m + 1 := ⟨k - 1, by omega⟩
  have hN := S.n0
  have hi0 : (0 : Int) <= i := by omega
  have hin : (i : Int) < n := by omega
  have hbound : ∀ d, 0 <= d -> d < n -> (row u.users d).length <= 1000000 := fun d h0 h1 => by
   have := nodup_le n.toNat _ (hJ.us d h0 h1).1 (fun x hx => by have := ((hJ.us d h0 h1).2 x).1 hx; omega)
   omega
  have hlm : (row ms (i : Int)).length <= es.length := by rw [hms _ hi0 hin, <- S.len]; exact mem_len _ _
  have hnd : ∀ w ∈ row ms (i : Int), nd es w := fun w hw => by
   rw [hms _ hi0 hin] at hw
   have := (mem_mem.1 hw).1
   rw [S.len] at this
   exact this
  have hJ0 : J n i (rd u.opn) (row u.users) { u with seen := [(i : Int)] } := by
   refine ⟨hJ.lo, hJ.lu, by simp, by simp, ?_, fun _ _ _ => rfl, ?_, ?_⟩
   · intro d hd
     rw [List.mem_singleton] at hd
     subst hd
     exact ⟨hi0, hin⟩
   · show rd u.opn i = _
     rw [hJ.op i (Int.le_refl _)]
     rfl
   · intro d h0 h1
     rw [if_neg (by simp)]
     simp
  unfold ed1
  rw [if_pos (by omega), if_pos (wf_small _ hi0 (by omega))]
  obtain ⟨u1, b1, b2, b3⟩ := ed2_run hvld S hn hL hbound (row ms i) hnd (row ms i).length k 0 _ (by omega) (by omega) hJ0
  rw [show ((0 : Int)) = ((0 : Nat) : Int) from rfl, b1, Option.bind_some, show (i : Int) + 1 = ((i + 1 : Nat) : Int) by omega]
  refine ih k (i + 1) u1 (by omega) (by omega) ?_
  have hseen : ∀ x, x ∈ u1.seen ↔ x = i \/ ∃ v ∈ mem cm i, ∃ w ∈ row es v, rd cm w = x := by
   intro x
   rw [b3, hms _ hi0 hin]
   simp
  have hdep : ∀ x, (x ∈ u1.seen /\ x ≠ i) ↔ Dep es cm i x := by
   intro x
   rw [hseen]
   unfold Dep
   constructor
   · rintro ⟨h | h, hx⟩
     · exact absurd h hx
     · exact ⟨Ne.symm hx, h⟩
   · rintro ⟨hx, h⟩
     exact ⟨.inr h, Ne.symm hx⟩
  refine ⟨b2.lo, b2.lu, ?_, ?_, ?_⟩
  · intro d h0 h1
    by_cases e : d = i
    rotate_left
    · rw [b2.oo d h0 e]
      exact hJ.dn d h0 (by omega)
    subst e
    refine ⟨u1.seen.erase i, b2.nd.erase _, fun x => ?_, ?_⟩
    · rw [b2.nd.mem_erase_iff, <- hdep]
      exact And.comm
    · rw [b2.oc, List.length_erase_of_mem b2.hc]
      have := List.length_pos_of_mem b2.hc
      omega
  · intro d hd
    rw [b2.oo d (by omega) (by omega)]
    exact hJ.op d (by omega)
  · intro d h0 h1
    have hu := hJ.us d h0 h1
    rw [b2.us d h0 h1]
    by_cases hx : d ∈ u1.seen /\ d ≠ i
    rotate_left
    · rw [if_neg hx, List.append_nil]
      refine ⟨hu.1, fun x => ?_⟩
      rw [hu.2]
      constructor
      · rintro ⟨h1, h2⟩; exact ⟨by omega, h2⟩
      · rintro ⟨h1, h2⟩
        refine ⟨?_, h2⟩
        by_cases e : x = i
        rotate_left
        · omega
        subst e; exact absurd ((hdep d).2 h2) hx
    rw [if_pos hx]
    refine ⟨?_, fun x => ?_⟩
    · rw [List.nodup_append]
      refine ⟨hu.1, by simp, fun a ha b hb e => ?_⟩
      rw [List.mem_singleton] at hb
      subst hb; subst e
      have := ((hu.2 _).1 ha).1
      omega
    · rw [List.mem_append, hu.2, List.mem_singleton]
      constructor
      · rintro (h | h)
        · exact ⟨by omega, h.2⟩
        · subst h; exact ⟨by omega, (hdep d).1 hx⟩
      · rintro ⟨h1, h2⟩
        by_cases e : x = i
        · exact .inr e
        exact .inl ⟨by omega, h2⟩
structure Rows (es : List (List Int)) (cm : List Int) (n : Int) (ms : List (List Int)) : Prop where
 len : (ms.length : Int) = n
 row : ∀ c, 0 <= c -> c < n -> row ms c = mem cm c
theorem mem_lt (cm : List Int) (c : Int) : (mem cm c).Pairwise (· < ·) := by
 unfold mem
 exact (iota_lt _).filter _
theorem fine_of {es : List (List Int)} {cm : List Int} {n : Int} {ms : List (List Int)} (S : Sol es cm n) (hn : es.length < 1000000) (R : Rows es cm n ms) {c : Int} (h0 : 0 <= c) (h1 : c < n) :
 Fine ms c /\ (nd es (first ms c) /\ rd cm (first ms c) = c) /\ ∀ v, nd es v -> rd cm v = c -> first ms c <= v := by
 have hl := R.len
 obtain ⟨v, hv, hvc⟩ := S.onto c h0 h1
 have hm : v ∈ row ms c := by rw [R.row c h0 h1, mem_mem, S.len]; exact ⟨hv, hvc⟩
 have hpos := List.length_pos_of_mem hm
 have hf : first ms c ∈ row ms c := rd_mem _ _ (Int.le_refl _) (by omega)
 have hf2 := hf
 rw [R.row c h0 h1, mem_mem, S.len] at hf2
 refine ⟨⟨h0, by omega, hpos, hf2.1.1, by omega⟩, ⟨hf2.1, hf2.2⟩, ?_⟩
 intro u hu huc
 have hum : u ∈ row ms c := by rw [R.row c h0 h1, mem_mem, S.len]; exact ⟨hu, huc⟩
 have hp : (row ms c).Pairwise (· < ·) := by rw [R.row c h0 h1]; exact mem_lt _ _
 unfold first
 generalize row ms c = l at *
 cases l with
 | nil => cases hum
 | cons a l =>
  show a <= u
  rcases List.mem_cons.1 hum with e | e
  · omega
  · have := (List.pairwise_cons.1 hp).1 u e
    omega
theorem first_inj {es : List (List Int)} {cm : List Int} {n : Int} {ms : List (List Int)} (S : Sol es cm n) (hn : es.length < 1000000) (R : Rows es cm n ms) {c d : Int} (h0 : 0 <= c) (h1 : c < n) (k0 : 0 <= d) (k1 : d < n)
 (h : first ms c = first ms d) : c = d := by
 rw [<- (fine_of S hn R h0 h1).2.1.2, <- (fine_of S hn R k0 k1).2.1.2, h]
structure Rdy (ms : List (List Int)) (n : Int) (p : Int -> Prop) (ready : List Int) : Prop where
 mem : ∀ x, x ∈ ready ↔ (0 <= x /\ x < n) /\ p x
 srt : ready.Pairwise fun a b => first ms a < first ms b
theorem ins_sorted {ms : List (List Int)} {c : Int} : ∀ (l : List Int), l.Pairwise (fun a b => first ms a < first ms b) -> (∀ x ∈ l, first ms x ≠ first ms c) ->
 (ins l (pos ms (first ms c) l) c).Pairwise (fun a b => first ms a < first ms b) /\ ∀ x, x ∈ ins l (pos ms (first ms c) l) c ↔ x = c \/ x ∈ l := by
 intro l
 induction l with
 | nil => intro _ _; simp [ins]
 | cons a l ih =>
  intro hp hne
  obtain ⟨h1, h2⟩ := List.pairwise_cons.1 hp
  by_cases ha : first ms a < first ms c
  rotate_left
  · have hca : first ms c < first ms a := by have := hne a (by simp); omega
    have hpos : pos ms (first ms c) (a :: l) = 0 := by
     unfold pos
     rw [List.countP_eq_zero]
     intro x hx
     rcases List.mem_cons.1 hx with e | e
     · rw [e]; simpa using ha
     · have := h1 x e
       simp
       omega
    have hins : ins (a :: l) (pos ms (first ms c) (a :: l)) c = c :: a :: l := by
     rw [hpos]; simp [ins]
    rw [hins]
    refine ⟨List.pairwise_cons.2 ⟨fun x hx => ?_, hp⟩, fun x => List.mem_cons⟩
    rcases List.mem_cons.1 hx with e | e
    · rw [e]; exact hca
    · have := h1 x e; omega
  have hpos : pos ms (first ms c) (a :: l) = pos ms (first ms c) l + 1 := by
   unfold pos
   rw [List.countP_cons, if_pos (by simpa using ha)]
  have hins : ins (a :: l) (pos ms (first ms c) (a :: l)) c = a :: ins l (pos ms (first ms c) l) c := by
   rw [hpos]; simp [ins]
  obtain ⟨i1, i2⟩ := ih h2 (fun x hx => hne x (by simp [hx]))
  rw [hins]
  refine ⟨List.pairwise_cons.2 ⟨fun x hx => ?_, i1⟩, fun x => ?_⟩
  · rcases (i2 x).1 hx with e | e
    · rw [e]; exact ha
    · exact h1 x e
  · rw [List.mem_cons, i2, List.mem_cons]
    constructor
    · rintro (h | h | h)
      · exact .inr (.inl h)
      · exact .inl h
      · exact .inr (.inr h)
    · rintro (h | h | h)
      · exact .inr (.inl h)
      · exact .inl h
      · exact .inr (.inr h)
theorem rdy_len {ms : List (List Int)} {n : Int} {p : Int -> Prop} {ready : List Int} (h : Rdy ms n p ready) : ready.length <= n.toNat :=
 nodup_le _ _ (h.srt.imp (fun h e => by subst e; omega)) (fun x hx => by have := (h.mem x).1 hx; omega)
theorem enter_rdy {es : List (List Int)} {cm : List Int} {n : Int} {ms : List (List Int)} (S : Sol es cm n) (hn : es.length < 1000000) (R : Rows es cm n ms) {p q : Int -> Prop} {ready : List Int} {c : Int} (h : Rdy ms n p ready)
 (h0 : 0 <= c) (h1 : c < n) (hc : ¬ p c) (hq : ∀ x, 0 <= x -> x < n -> (q x ↔ x = c \/ p x)) : ∃ r, enterF ms c ready = some r /\ Rdy ms n q r := by
 have hne : ∀ x ∈ ready, first ms x ≠ first ms c := by
  intro x hx e
  obtain ⟨a, b⟩ := (h.mem x).1 hx
  have := first_inj S hn R a.1 a.2 h0 h1 e
  subst this
  exact hc b
 obtain ⟨i1, i2⟩ := ins_sorted ready h.srt hne
 have hl := rdy_len h
 have hN := S.n0
 refine ⟨_, ?_, ⟨fun x => ?_, i1⟩⟩
 · unfold enterF
   rw [if_pos ⟨(fine_of S hn R h0 h1).1, fun d hd => (fine_of S hn R ((h.mem d).1 hd).1.1 ((h.mem d).1 hd).1.2).1, h.srt.imp (fun h => by omega), by omega⟩]
 · rw [i2]
   constructor
   · rintro (e | e)
     · subst e; exact ⟨⟨h0, h1⟩, (hq x h0 h1).2 (.inl rfl)⟩
     · obtain ⟨a, b⟩ := (h.mem x).1 e
       exact ⟨a, (hq x a.1 a.2).2 (.inr b)⟩
   · rintro ⟨a, b⟩
     rcases (hq x a.1 a.2).1 b with e | e
     · exact .inl e
     · exact .inr ((h.mem x).2 ⟨a, e⟩)
theorem Rdy.congr {ms : List (List Int)} {n : Int} {p q : Int -> Prop} {r : List Int} (h : Rdy ms n p r) (hq : ∀ x, 0 <= x -> x < n -> (q x ↔ p x)) : Rdy ms n q r :=
 ⟨fun x => by
  rw [h.mem]
  exact ⟨fun ⟨a, b⟩ => ⟨a, (hq x a.1 a.2).2 b⟩, fun ⟨a, b⟩ => ⟨a, (hq x a.1 a.2).1 b⟩⟩, h.srt⟩
theorem starts_run {es : List (List Int)} {cm : List Int} {n : Int} {ms : List (List Int)} (S : Sol es cm n) (hn : es.length < 1000000) (R : Rows es cm n ms) (opn : List Int) (ho : (opn.length : Int) = n) :
 ∀ (m k i : Nat) (ready : List Int), (i : Int) + m = n -> m < k -> Rdy ms n (fun x => x < i /\ rd opn x = 0) ready -> ∃ r, starts k ms n i opn ready = some r /\ Rdy ms n (fun x => rd opn x = 0) r := by
 intro m
 induction m with
 | zero =>
  intro k i ready hi hk h
  obtain ⟨k, rfl⟩ : ∃ m, k = m + 1 := ⟨k - 1, by omega⟩
  unfold starts
  rw [if_neg (by omega)]
  exact ⟨ready, rfl, h.congr (fun x h0 h1 => ⟨fun e => ⟨by omega, e⟩, fun e => e.2⟩)⟩
 | succ m ih =>
  intro k i ready hi hk h
  obtain ⟨k, rfl⟩ : ∃ m, k = m + 1 := ⟨k - 1, by omega⟩
  unfold starts
  rw [if_pos (by omega), if_pos ⟨by omega, by omega⟩, show (i : Int) + 1 = ((i + 1 : Nat) : Int) by omega]
  by_cases h0 : rd opn i = 0
  rotate_left
  · rw [if_neg h0]
    refine ih k (i + 1) ready (by omega) (by omega) (h.congr (fun x k0 k1 => ?_))
    constructor
    · rintro ⟨a, b⟩
      by_cases e : x = i
      rotate_left
      · exact ⟨by omega, b⟩
      subst e; exact absurd b h0
    · rintro ⟨a, b⟩
      exact ⟨by omega, b⟩
  rw [if_pos h0]
  obtain ⟨r, a1, a2⟩ := enter_rdy S hn R (c := (i : Int)) (q := fun x => x < ((i + 1 : Nat) : Int) /\ rd opn x = 0) h (by omega) (by omega) (by omega) (fun x k0 k1 => by
   constructor
   · rintro ⟨a, b⟩
     by_cases e : x = i
     · exact .inl e
     exact .inr ⟨by omega, b⟩
   · rintro (e | e)
     · subst e; exact ⟨by omega, h0⟩
     · exact ⟨by omega, e.2⟩)
  rw [a1, Option.bind_some]
  exact ih k (i + 1) r (by omega) (by omega) a2
inductive Seq (es : List (List Int)) (cm : List Int) (n : Int) (ms : List (List Int)) : List Int -> Prop
 | nil : Seq es cm n ms []
 | snoc {D : List Int} {c : Int} : Seq es cm n ms D -> 0 <= c -> c < n -> c ∉ D -> (∀ d, Dep es cm c d -> d ∈ D) -> (∀ x, 0 <= x -> x < n -> x ∉ D -> (∀ d, Dep es cm x d -> d ∈ D) -> first ms c <= first ms x) -> Seq es cm n ms (D ++ [c])
theorem Seq.rng {es : List (List Int)} {cm : List Int} {n : Int} {ms : List (List Int)} {D : List Int} (h : Seq es cm n ms D) : D.Nodup /\ (∀ x ∈ D, 0 <= x /\ x < n) /\ ∀ x ∈ D, ∀ d, Dep es cm x d -> d ∈ D := by
 induction h with
 | nil => simp
 | snoc _ h0 h1 h2 h3 h4 ih =>
  obtain ⟨i1, i2, i3⟩ := ih
  refine ⟨?_, ?_, ?_⟩
  · rw [List.nodup_append]
    exact ⟨i1, by simp, fun a ha b hb e => by rw [List.mem_singleton] at hb; subst hb; subst e; exact h2 ha⟩
  · intro x hx
    rcases List.mem_append.1 hx with e | e
    · exact i2 x e
    · rw [List.mem_singleton] at e; subst e; exact ⟨h0, h1⟩
  · intro x hx d hd
    rcases List.mem_append.1 hx with e | e
    · exact List.mem_append.2 (.inl (i3 x e d hd))
    · rw [List.mem_singleton] at e; subst e; exact List.mem_append.2 (.inl (h3 d hd))
def Cnt (n : Int) (q : Int -> Int -> Prop) (opn : List Int) : Prop := (opn.length : Int) = n /\ ∀ u, 0 <= u -> u < n -> ∃ P : List Int, P.Nodup /\ (∀ x ∈ P, 0 <= x /\ x < n) /\ (∀ x, x ∈ P ↔ q u x) /\ rd opn u = P.length
theorem Cnt.zero {n : Int} {q : Int -> Int -> Prop} {opn : List Int} (h : Cnt n q opn) {u : Int} (h0 : 0 <= u) (h1 : u < n) : rd opn u = 0 ↔ ∀ x, ¬ q u x := by
 obtain ⟨P, _, _, p3, p4⟩ := h.2 u h0 h1
 rw [p4]
 constructor
 · intro h x hx
   have := List.length_pos_of_mem ((p3 x).2 hx)
   omega
 · intro h
   cases P with
   | nil => rfl
   | cons a P => exact absurd ((p3 a).1 (by simp)) (h a)
theorem Cnt.congr {n : Int} {q q' : Int -> Int -> Prop} {opn : List Int} (h : Cnt n q opn) (hq : ∀ u x, 0 <= u -> u < n -> (q' u x ↔ q u x)) : Cnt n q' opn :=
 ⟨h.1, fun u h0 h1 => by
  obtain ⟨P, p1, p2, p3, p4⟩ := h.2 u h0 h1
  exact ⟨P, p1, p2, fun x => by rw [p3, hq u x h0 h1], p4⟩⟩
theorem dec_run {es : List (List Int)} {cm : List Int} {n : Int} {ms : List (List Int)} (S : Sol es cm n) (hn : es.length < 1000000) (R : Rows es cm n ms) {D : List Int} {c : Int} (hcD : c ∉ D) (l : List Int) (hnd : l.Nodup)
 (hl : ∀ x, x ∈ l ↔ (0 <= x /\ x < n) /\ Dep es cm x c) :
 ∀ (m k i : Nat) (opn ready : List Int), i + m = l.length -> m < k -> Cnt n (fun u x => Dep es cm u x /\ x ∉ D /\ (x = c -> u ∉ l.take i)) opn ->
  Rdy ms n (fun x => x ∉ D /\ x ≠ c /\ ∀ d, Dep es cm x d -> d ∈ D \/ (d = c /\ x ∈ l.take i)) ready -> (∀ x ∈ l, x ∉ D) ->
  ∃ opn' ready', dec k ms l i opn ready = some (opn', ready') /\ Cnt n (fun u x => Dep es cm u x /\ x ∉ D ++ [c]) opn' /\ Rdy ms n (fun x => x ∉ D ++ [c] /\ ∀ d, Dep es cm x d -> d ∈ D ++ [c]) ready' := by
 intro m
 induction m with
 | zero =>
  intro k i opn ready hi hk hc hr hlD
  obtain ⟨k, rfl⟩ : ∃ m, k = m + 1 := ⟨k - 1, by omega⟩
  unfold dec
  rw [if_neg (by omega)]
  have ht : l.take i = l := List.take_of_length_le (by omega)
  rw [ht] at hc hr
  refine ⟨opn, ready, rfl, hc.congr (fun u x h0 h1 => ?_), hr.congr (fun x h0 h1 => ?_)⟩
  · simp only [List.mem_append, List.mem_singleton, not_or]
    constructor
    · rintro ⟨a, b, d⟩; exact ⟨a, b, fun e => absurd e d⟩
    · rintro ⟨a, b, d⟩
      refine ⟨a, b, fun e => ?_⟩
      subst e
      exact d rfl ((hl u).2 ⟨⟨h0, h1⟩, a⟩)
  · simp only [List.mem_append, List.mem_singleton, not_or]
    constructor
    · rintro ⟨⟨a, b⟩, d⟩
      refine ⟨a, b, fun e he => ?_⟩
      rcases d e he with h | h
      · exact .inl h
      · subst h; exact .inr ⟨rfl, (hl x).2 ⟨⟨h0, h1⟩, he⟩⟩
    · rintro ⟨a, b, d⟩
      refine ⟨⟨a, b⟩, fun e he => ?_⟩
      rcases d e he with h | h
      · exact .inl h
      · exact .inr h.1
 | succ m ih =>
  intro k i opn ready hi hk hc hr hlD
  obtain ⟨k, rfl⟩ : ∃ m, k = m + 1 := ⟨k - 1, by omega⟩
  have hil : i < l.length := by omega
  have hN := S.n0
  have hum : rd l i ∈ l := by rw [rd_at l i hil]; exact List.getElem_mem _
  obtain ⟨hu, hdep⟩ := (hl _).1 hum
  have htake : l.take (i + 1) = l.take i ++ [rd l i] := by rw [rd_at l i hil]; exact List.take_succ_eq_append_getElem hil
  have hnt : rd l i ∉ l.take i := by
   intro h
   have h2 : (l.take (i + 1)).Nodup := hnd.sublist (List.take_sublist _ _)
   rw [htake, List.nodup_append] at h2
   exact h2.2.2 _ h _ (by simp) rfl
  obtain ⟨P, p1, p2, p3, p4⟩ := hc.2 _ hu.1 hu.2
  have hlen := hc.1
  have hcP : c ∈ P := (p3 c).2 ⟨hdep, hcD, fun _ => hnt⟩
  have hPl : P.length <= n.toNat := nodup_le _ _ p1 (fun x hx => by have := p2 x hx; omega)
  have hP0 := List.length_pos_of_mem hcP
  generalize hud : rd l i = u at *
  have hw : wrap64 (rd opn u - 1) = rd opn u - 1 := w64 _ (by omega) (by omega)
  have hc2 : Cnt n (fun u x => Dep es cm u x /\ x ∉ D /\ (x = c -> u ∉ l.take (i + 1))) (opn.set u.toNat (wrap64 (rd opn u - 1))) := by
   refine ⟨by rw [List.length_set]; exact hlen, fun y h0 h1 => ?_⟩
   rw [hw, rd_set _ _ _ _ hu.1 (by omega) h0]
   by_cases e : y = u
   rotate_left
   · rw [if_neg e]
     obtain ⟨P', q1, q2, q3, q4⟩ := hc.2 y h0 h1
     refine ⟨P', q1, q2, fun x => ?_, q4⟩
     rw [q3, htake]
     simp only [List.mem_append, List.mem_singleton, e, or_false]
   subst e
   refine ⟨P.erase c, p1.erase _, fun x hx => p2 x (List.mem_of_mem_erase hx), fun x => ?_, ?_⟩
   · rw [p1.mem_erase_iff, p3, htake]
     simp only [List.mem_append, List.mem_singleton]
     constructor
     · rintro ⟨a, b, d, _⟩; exact ⟨b, d, fun e => absurd e a⟩
     · rintro ⟨a, b, d⟩
       refine ⟨fun e => d e (.inr trivial), a, b, fun e => absurd e (fun e => d e (.inr trivial))⟩
   · rw [if_pos rfl, List.length_erase_of_mem hcP]
     omega
  have hz := hc2.zero hu.1 hu.2
  unfold dec
  rw [if_pos (by omega), hud, if_pos ⟨hu.1, by omega⟩, show (i : Int) + 1 = ((i + 1 : Nat) : Int) by omega]
  by_cases h0 : rd (opn.set u.toNat (wrap64 (rd opn u - 1))) u = 0
  rotate_left
  · rw [if_neg h0]
    have hsome : ∃ x, Dep es cm u x /\ x ∉ D /\ x ≠ c := by
     refine Classical.byContradiction fun hno => h0 (hz.2 fun x hx => hno ⟨x, hx.1, hx.2.1, fun e => ?_⟩)
     exact hx.2.2 e (by rw [htake]; simp)
    refine ih k (i + 1) _ ready (by omega) (by omega) hc2 (hr.congr (fun x k0 k1 => ?_)) hlD
    rw [htake]
    constructor
    · rintro ⟨a, b, d⟩
      refine ⟨a, b, fun y hy => ?_⟩
      rcases d y hy with h | ⟨h, h2⟩
      · exact .inl h
      · rcases List.mem_append.1 h2 with h3 | h3
        · exact .inr ⟨h, h3⟩
        · rw [List.mem_singleton] at h3
          subst h3
          obtain ⟨z, z1, z2, z3⟩ := hsome
          rcases d z z1 with h4 | h4
          · exact absurd h4 z2
          · exact absurd h4.1 z3
    · rintro ⟨a, b, d⟩
      refine ⟨a, b, fun y hy => ?_⟩
      rcases d y hy with h | ⟨h, h2⟩
      · exact .inl h
      · exact .inr ⟨h, List.mem_append.2 (.inl h2)⟩
  rw [if_pos h0]
  have hnone := hz.1 h0
  obtain ⟨r, a1, a2⟩ := enter_rdy S hn R (c := u) (q := fun x => x ∉ D /\ x ≠ c /\ ∀ d, Dep es cm x d -> d ∈ D \/ (d = c /\ x ∈ l.take (i + 1))) hr hu.1 hu.2
   (fun h => by
    rcases h.2.2 c hdep with e | e
    · exact hcD e
    · exact hnt e.2)
   (fun x k0 k1 => by
    rw [htake]
    constructor
    · rintro ⟨a, b, d⟩
      by_cases e : x = u
      · exact .inl e
      refine .inr ⟨a, b, fun y hy => ?_⟩
      rcases d y hy with h | ⟨h, h2⟩
      · exact .inl h
      · rcases List.mem_append.1 h2 with h3 | h3
        · exact .inr ⟨h, h3⟩
        · exact absurd (List.mem_singleton.1 h3) e
    · rintro (e | ⟨a, b, d⟩)
      · subst e
        refine ⟨hlD x hum, fun e => hdep.1 e, fun y hy => ?_⟩
        by_cases e : y ∈ D
        · exact .inl e
        by_cases e2 : y = c
        · exact .inr ⟨e2, by simp⟩
        exact absurd ⟨hy, e, fun e3 => absurd e3 e2⟩ (hnone y)
      · refine ⟨a, b, fun y hy => ?_⟩
        rcases d y hy with h | ⟨h, h2⟩
        · exact .inl h
        · exact .inr ⟨h, List.mem_append.2 (.inl h2)⟩)
  rw [a1, Option.bind_some]
  exact ih k (i + 1) _ r (by omega) (by omega) hc2 a2 hlD
theorem dep_lt {es : List (List Int)} {cm : List Int} {n : Int} (S : Sol es cm n) (hvld : Vld es) {x d : Int} (h : Dep es cm x d) : 0 <= d /\ d < x := by
 obtain ⟨h1, v, hv, w, hw, rfl⟩ := h
 obtain ⟨a, b⟩ := mem_mem.1 hv
 rw [S.len] at a
 have h2 := S.back v a w hw
 have h3 := S.rng w (hvld v a w hw)
 omega
theorem ready_ex {es : List (List Int)} {cm : List Int} {n : Int} (S : Sol es cm n) (hvld : Vld es) (D : List Int) : ∀ (m : Nat) (x : Int), x = m -> x < n -> x ∉ D -> ∃ y, 0 <= y /\ y < n /\ y ∉ D /\ ∀ d, Dep es cm y d -> d ∈ D := by
 intro m
 induction m using Nat.strongRecOn with
 | ind m ih =>
  intro x hx hxn hxD
  by_cases h : ∀ d, Dep es cm x d -> d ∈ D
  · exact ⟨x, by omega, hxn, hxD, h⟩
  obtain ⟨d, hd⟩ := Classical.not_forall.1 h
  obtain ⟨h1, h2⟩ := Classical.not_imp.1 hd
  have := dep_lt S hvld h1
  exact ih d.toNat (by omega) d (by omega) (by omega) h2
theorem drain_run {es : List (List Int)} {cm : List Int} {n : Int} {ms users : List (List Int)} (S : Sol es cm n) (hn : es.length < 1000000) (R : Rows es cm n ms) (hvld : Vld es) (hul : (users.length : Int) = n)
 (hus : ∀ d, 0 <= d -> d < n -> (row users d).Nodup /\ ∀ x, x ∈ row users d ↔ (0 <= x /\ x < n) /\ Dep es cm x d) :
 ∀ (m k : Nat) (D opn ready : List Int), D.length + m = n.toNat -> m + n.toNat + 1 < k -> Seq es cm n ms D -> Cnt n (fun u x => Dep es cm u x /\ x ∉ D) opn -> Rdy ms n (fun x => x ∉ D /\ ∀ d, Dep es cm x d -> d ∈ D) ready ->
  ∃ D', Od.drain k ms users opn ready (D.map (row ms)) = some (D'.map (row ms)) /\ Seq es cm n ms D' /\ ∀ c, 0 <= c -> c < n -> c ∈ D' := by
 intro m
 induction m with
 | zero =>
  intro k D opn ready hm hk hD hc hr
  obtain ⟨k, rfl⟩ : ∃ m, k = m + 1 := ⟨k - 1, by omega⟩
  obtain ⟨d1, d2, d3⟩ := hD.rng
  have hall : ∀ c, 0 <= c -> c < n -> c ∈ D := by
   intro c h0 h1
   refine Classical.byContradiction fun hcD => ?_
   have := nodup_le n.toNat (c :: D) (List.nodup_cons.2 ⟨hcD, d1⟩) (fun x hx => by
    rcases List.mem_cons.1 hx with e | e
    · omega
    · have := d2 x e; omega)
   simp at this
   omega
  have hr0 : ready = [] := by
   cases ready with
   | nil => rfl
   | cons a l =>
    obtain ⟨⟨h0, h1⟩, h2, _⟩ := (hr.mem a).1 (by simp)
    exact absurd (hall a h0 h1) h2
  subst hr0
  refine ⟨D, ?_, hD, hall⟩
  unfold Od.drain
  rw [if_neg (by simp)]
 | succ m ih =>
  intro k D opn ready hm hk hD hc hr
  obtain ⟨k, rfl⟩ : ∃ m, k = m + 1 := ⟨k - 1, by omega⟩
  obtain ⟨d1, d2, d3⟩ := hD.rng
  have hN := S.n0
  have hml := R.len
  cases ready with
  | nil =>
   refine ⟨D, by unfold Od.drain; rw [if_neg (by simp)], hD, fun c h0 h1 => ?_⟩
   refine Classical.byContradiction fun hcD => ?_
   obtain ⟨y, y0, y1, y2, y3⟩ := ready_ex S hvld D c.toNat c (by omega) h1 hcD
   have := (hr.mem y).2 ⟨⟨y0, y1⟩, y2, y3⟩
   cases this
  | cons c rest =>
   obtain ⟨⟨c0, c1⟩, c2, c3⟩ := (hr.mem c).1 (by simp)
   obtain ⟨s1, s2⟩ := List.pairwise_cons.1 hr.srt
   have hu := hus c c0 c1
   have hul2 := nodup_le n.toNat _ hu.1 (fun x hx => by have := ((hu.2 x).1 hx).1; omega)
   have hnc : ∀ x ∈ row users c, x ∉ D := by
    intro x hx hxD
    exact c2 (d3 x hxD c ((hu.2 x).1 hx).2)
   have hrest : Rdy ms n (fun x => x ∉ D /\ x ≠ c /\ ∀ d, Dep es cm x d -> d ∈ D \/ (d = c /\ x ∈ (row users c).take 0)) rest := by
    refine ⟨fun x => ?_, s2⟩
    constructor
    · intro hx
      obtain ⟨a, b, d⟩ := (hr.mem x).1 (List.mem_cons.2 (.inr hx))
      refine ⟨a, b, fun e => ?_, fun y hy => .inl (d y hy)⟩
      subst e
      have := s1 x hx
      omega
    · rintro ⟨a, b, e, d⟩
      rcases List.mem_cons.1 ((hr.mem x).2 ⟨a, b, fun y hy => by
       rcases d y hy with h | h
       · exact h
       · have := h.2; simp at this⟩) with h | h
      · exact absurd h e
      · exact h
   obtain ⟨opn', ready', e1, e2, e3⟩ := dec_run S hn R c2 (row users c) hu.1 hu.2 (row users c).length k 0 opn rest (by omega) (by omega)
    (hc.congr (fun u x _ _ => by simp)) hrest hnc
   have hseq : Seq es cm n ms (D ++ [c]) := by
    refine .snoc hD c0 c1 c2 c3 fun x h0 h1 h2 h3 => ?_
    rcases List.mem_cons.1 ((hr.mem x).2 ⟨⟨h0, h1⟩, h2, h3⟩) with e | e
    · rw [e]; exact Int.le_refl _
    · exact Int.le_of_lt (s1 x e)
   obtain ⟨D', f1, f2, f3⟩ := ih k (D ++ [c]) opn' ready' (by simp; omega) (by omega) hseq e2 e3
   refine ⟨D', ?_, f2, f3⟩
   unfold Od.drain
   have hrd : rd (c :: rest) 0 = c := rfl
   rw [if_pos (by simp), hrd, if_pos ⟨c0, by omega, by omega, by simp; omega⟩]
   show (dec k ms (row users c) ((0 : Nat) : Int) opn rest).bind _ = _
   rw [e1, Option.bind_some]
   rw [List.map_append] at f1
   exact f1
theorem ordered_run {es : List (List Int)} (hvld : Vld es) {L : Nat} (hL : ∀ v, (row es v).length <= L) (hn : es.length < 1000000) (k : Nat) (hk : es.length * (L + 2) + 3 * es.length + L + 9 <= k) :
 ∃ cm n ms D, Sol es cm n /\ Rows es cm n ms /\ orderedF k es = some (D.map (row ms)) /\ Seq es cm n ms D /\ ∀ c, 0 <= c -> c < n -> c ∈ D := by
 obtain ⟨cm, n, h1, S⟩ := strong_sol hvld hL hn k (by omega)
 have hN := S.n0
 have hlen := S.len
 obtain ⟨ms, g1, g2, g3⟩ := grp_run S hn cm.length k 0 (List.replicate n.toNat []) (by omega) (by omega) (by simp; omega) (fun c h0 h1 => by rw [row_rep]; rfl)
 have R : Rows es cm n ms := ⟨g2, g3⟩
 obtain ⟨u, u1, u2⟩ := ed1_run hvld S hn hL g2 g3 ms.length k 0 { opn := List.replicate n.toNat 0, users := List.replicate n.toNat [], seen := [] } (by omega) (by omega)
  ⟨by simp; omega, by simp; omega, fun d h0 h1 => by omega, fun d _ => rd_rep0 _ _, fun d h0 h1 => by rw [row_rep]; simp; omega⟩
 have hcnt : Cnt n (fun u x => Dep es cm u x) u.opn := ⟨u2.lo, fun d h0 h1 => by
  obtain ⟨P, p1, p2, p3⟩ := u2.dn d h0 h1
  exact ⟨P, p1, fun x hx => by have := dep_lt S hvld ((p2 x).1 hx); omega, p2, p3⟩⟩
 obtain ⟨ready, r1, r2⟩ := starts_run S hn R u.opn u2.lo n.toNat k 0 [] (by omega) (by omega) ⟨fun x => by simp; omega, List.Pairwise.nil⟩
 obtain ⟨D, d1, d2, d3⟩ := drain_run S hn R hvld u2.lu u2.us n.toNat k [] u.opn ready (by simp) (by omega) .nil (hcnt.congr (fun _ _ _ _ => by simp)) (r2.congr (fun x h0 h1 => by rw [hcnt.zero h0 h1]; simp))
 refine ⟨cm, n, ms, D, S, R, ?_, d2, d3⟩
 unfold orderedF
 rw [h1, Option.bind_some]
 show (if 0 <= n /\ n < 5864062014805 then _ else none) = _
 rw [if_pos (by omega)]
 show (grp k cm ((0 : Nat) : Int) _).bind _ = _
 rw [g1, Option.bind_some]
 show (ed1 k es cm ms ((0 : Nat) : Int) _).bind _ = _
 rw [u1, Option.bind_some]
 show (starts k ms n ((0 : Nat) : Int) u.opn []).bind _ = _
 rw [r1, Option.bind_some]
 exact d1
end Tp
end Go.Proofs.Ytmadhaccjmakdaa
namespace Go.Proofs.Ytmadhaccjmakdaa
open Go.RowKit Go.Proofs.Yw.A Go.Proofs.Yw.B Go.Proofs.Yw.C Go.Proofs.Ytmadhaccjmakdaa.P
namespace Tp
open Tj Rw Od
theorem succ_cast (i : Nat) (h : i < 1000000000) : wrap64 ((i : Int) + 1) = ((i + 1 : Nat) : Int) := by
 rw [w64 _ (by omega) (by omega)]
 omega
theorem L1_row (l : List (List Int)) (i : Int) : rd_L11 l i = row l i := rfl
theorem row_in (l : List (List Int)) (i : Nat) (h : i < l.length) : row l (i : Int) ∈ l := by
 rw [row_mem l i h]
 exact List.getElem_mem _
def Sm (l : List (List Int)) : Prop := l.length <= 60 /\ ∀ j : Nat, j < l.length -> (row l j).length <= 2000
theorem Sm.row {l : List (List Int)} (h : Sm l) (v : Int) : (row l v).length <= 2000 := by
 by_cases hv : v.toNat < l.length
 rotate_left
 · unfold Tj.row
   rw [List.getD_eq_getElem?_getD, List.getElem?_eq_none (by omega)]
   simp
 have := h.2 v.toNat hv
 unfold Tj.row at *
 rw [Int.toNat_natCast] at this
 exact this
def okn (n : Nat) (w : Int) : Bool := decide (0 <= w) && decide (w < n)
def vldB (l : List (List Int)) : Bool := l.all fun r => r.all (okn l.length)
theorem vldB_iff (l : List (List Int)) : vldB l = true ↔ Vld l := by
 unfold vldB Vld nd
 rw [List.all_eq_true]
 constructor
 · intro h v hv w hw
   obtain ⟨i, rfl⟩ := Int.eq_ofNat_of_zero_le hv.1
   have := List.all_eq_true.1 (h _ (row_in l i (by omega))) w hw
   simpa [okn] using this
 · intro h r hr
   obtain ⟨i, hi, rfl⟩ := List.mem_iff_getElem.1 hr
   rw [List.all_eq_true]
   intro w hw
   rw [<- row_mem l i hi] at hw
   have := h i ⟨by omega, by omega⟩ w hw
   simpa [okn] using this
theorem drop_row (r : List Int) (j : Nat) (hj : j < r.length) : r.drop j = rd r j :: r.drop (j + 1) := by
 rw [rd_at r j hj]
 exact List.drop_eq_getElem_cons hj
theorem drop_rows (l : List (List Int)) (i : Nat) (hi : i < l.length) : l.drop i = row l i :: l.drop (i + 1) := by
 rw [row_mem l i hi]
 exact List.drop_eq_getElem_cons hi
theorem gv_in (l : List (List Int)) (hs : Sm l) (i : Nat) (hi : i < l.length) (ih : ∀ i' : Nat, i' = i + 1 -> Ev (fun k => g_valid.l0 k l (l.length : Int) (i' : Int) l) ((l.drop i').all fun r => r.all (okn l.length))) : ∀ (m j : Nat), j + m = (row l i).length ->
 Ev (fun k => g_valid.l1 k l (l.length : Int) i (row l i) ((row l i).length : Int) j l) (((row l i).drop j).all (okn l.length) && (l.drop (i + 1)).all fun r => r.all (okn l.length)) := by
 have hrl := hs.2 i hi
 have hl := hs.1
 intro m
 induction m with
 | zero =>
  intro j hj
  refine Ev.step (fun k => ?_) (by rw [List.drop_eq_nil_of_le (by omega), List.all_nil, Bool.true_and]; exact ih _ rfl)
  simp only [g_valid.l1]
  (try rw [L1_row])
  rw [if_neg (by omega), succ_cast i (by omega)]
 | succ m ihm =>
  intro j hj
  have hjl : j < (row l i).length := by omega
  rw [drop_row _ j hjl, List.all_cons]
  by_cases hw : okn l.length (rd (row l i) j) = true
  · rw [hw, Bool.true_and]
    have hw2 : 0 <= rd (row l i) j /\ rd (row l i) j < l.length := by simpa [okn] using hw
    refine Ev.step (fun k => ?_) (ihm (j + 1) (by omega))
    simp only [g_valid.l1]
    (try rw [L1_row])
    rw [if_pos (by omega), if_pos (by omega), if_pos (by omega), if_neg (by omega), if_neg (by omega), succ_cast j (by omega)]
  have hf : okn l.length (rd (row l i) j) = false := by simpa using hw
  rw [hf, Bool.false_and, Bool.false_and]
  have hw2 : ¬ (0 <= rd (row l i) j /\ rd (row l i) j < l.length) := by simpa [okn] using hw
  refine Ev.step (fun k => ?_) (Ev.now _)
  simp only [g_valid.l1]
  (try rw [L1_row])
  rw [if_pos (by omega), if_pos (by omega), if_pos (by omega)]
  by_cases h0 : rd (row l i) j < 0
  · rw [if_pos h0]
  rw [if_neg h0, if_pos (by omega)]
theorem gv_out (l : List (List Int)) (hs : Sm l) : ∀ (m i : Nat), i + m = l.length -> Ev (fun k => g_valid.l0 k l (l.length : Int) i l) ((l.drop i).all fun r => r.all (okn l.length)) := by
 have hl := hs.1
 intro m
 induction m with
 | zero =>
  intro i hi
  rw [List.drop_eq_nil_of_le (by omega)]
  refine Ev.step (fun k => ?_) (Ev.now _)
  simp only [g_valid.l0]
  rw [if_neg (by omega)]
  rfl
 | succ m ih =>
  intro i hi
  have hil : i < l.length := by omega
  have h := gv_in l hs i hil (fun i' e => ih i' (by omega)) (row l i).length 0 (by omega)
  rw [drop_rows l i hil, List.all_cons]
  refine Ev.step (fun k => ?_) h
  simp only [g_valid.l0, L1_row]
  rw [if_pos (by omega), if_pos (by omega), if_pos (by omega)]
  rfl
theorem gv_ev (l : List (List Int)) (hs : Sm l) : Ev (fun k => g_valid.f k l) (vldB l) := gv_out l hs l.length 0 (by omega)
end Tp
end Go.Proofs.Ytmadhaccjmakdaa
namespace Go.Proofs.Ytmadhaccjmakdaa
open Go.RowKit Go.Proofs.Yw.A Go.Proofs.Yw.B Go.Proofs.Yw.C Go.Proofs.Ytmadhaccjmakdaa.P
namespace Tp
open Tj Rw Od
open Classical
theorem rc_nd {l : List (List Int)} (hv : Vld l) {a b : Int} (h : Rc l a b) (ha : nd l a) : nd l b := by
 induction h with
 | refl => exact ha
 | tail _ h2 ih => exact hv _ ih _ h2
theorem nodup_sub : ∀ (a b : List Int), a.Nodup -> (∀ x ∈ a, x ∈ b) -> a.length <= b.length := by
 intro a
 induction a with
 | nil => intro b _ _; exact Nat.zero_le _
 | cons x a ih =>
  intro b hd h
  obtain ⟨h1, h2⟩ := List.nodup_cons.1 hd
  have hx := h x (by simp)
  have := ih (b.erase x) h2 (fun y hy => by
   have hne : y ≠ x := by rintro rfl; exact h1 hy
   exact (List.mem_erase_of_ne hne).2 (h y (by simp [hy])))
  rw [List.length_erase_of_mem hx] at this
  have := List.length_pos_of_mem hx
  rw [List.length_cons]
  omega
noncomputable def scc (es : List (List Int)) (m : Int) : List Int := (iota es.length).filter fun x => decide (Rc es m x /\ Rc es x m)
theorem mem_scc {es : List (List Int)} {m x : Int} : x ∈ scc es m ↔ nd es x /\ Rc es m x /\ Rc es x m := by
 unfold scc nd
 rw [List.mem_filter, mem_iota]
 simp
theorem scc_lt (es : List (List Int)) (m : Int) : (scc es m).Pairwise (· < ·) := (iota_lt _).filter _
def Ready (es : List (List Int)) (o : List (List Int)) (m : Int) : Prop := ∀ x, Rc es m x -> x ∈ o.flatten \/ Rc es x m
def Next (es : List (List Int)) (o : List (List Int)) (c : List Int) : Prop :=
 ∃ m, nd es m /\ m ∉ o.flatten /\ Ready es o m /\ (∀ x, nd es x -> x ∉ o.flatten -> Ready es o x -> m <= x) /\ c = scc es m
inductive Kahn (es : List (List Int)) : List (List Int) -> Prop
 | nil : Kahn es []
 | snoc {o : List (List Int)} {c : List Int} : Kahn es o -> Next es o c -> Kahn es (o ++ [c])
def Full (es : List (List Int)) (o : List (List Int)) : Prop := Kahn es o /\ ∀ v, nd es v -> v ∈ o.flatten
theorem next_unique {es o : List (List Int)} {c d : List Int} (h : Next es o c) (k : Next es o d) : c = d := by
 obtain ⟨m, m1, m2, m3, m4, rfl⟩ := h
 obtain ⟨x, x1, x2, x3, x4, rfl⟩ := k
 have h1 := m4 x x1 x2 x3
 have h2 := x4 m m1 m2 m3
 have : m = x := by omega
 rw [this]
theorem kahn_next {es o : List (List Int)} (h : Kahn es o) : ∀ i (hi : i < o.length), Next es (o.take i) o[i] := by
 induction h with
 | nil => intro i hi; cases hi
 | @snoc o c h1 h2 ih =>
  intro i hi
  rw [List.length_append, List.length_singleton] at hi
  by_cases e : i < o.length
  · rw [List.take_append_of_le_length (by omega), List.getElem_append_left e]
    exact ih i e
  have : i = o.length := by omega
  subst this
  simp only [List.take_left, List.getElem_concat_length]
  exact h2
theorem kahn_prefix {es o : List (List Int)} (h : Kahn es o) : ∀ o', Kahn es o' -> o.length <= o'.length -> o = o'.take o.length := by
 induction h with
 | nil => intro o' _ _; simp
 | @snoc o c h1 h2 ih =>
  intro o' ho hl
  rw [List.length_append, List.length_singleton] at hl ⊢
  have e := ih o' ho (by omega)
  have hn := kahn_next ho o.length (by omega)
  rw [<- e] at hn
  rw [List.take_succ_eq_append_getElem (by omega), <- e, next_unique h2 hn]
theorem full_unique {es o o' : List (List Int)} (h : Full es o) (k : Full es o') : o = o' := by
 have key : ∀ {a b : List (List Int)}, Full es a -> Full es b -> a.length <= b.length -> a = b := by
  intro a b ha hb hl
  have e := kahn_prefix ha.1 b hb.1 hl
  by_cases h2 : a.length < b.length
  rotate_left
  · rw [e, List.take_of_length_le (by omega)]
  obtain ⟨m, m1, m2, _⟩ := kahn_next hb.1 a.length h2
  rw [<- e] at m2
  exact absurd (ha.2 m m1) m2
 rcases Nat.le_total o.length o'.length with e | e
 · exact key h k e
 · exact (key k h e).symm
theorem rc_le {es : List (List Int)} {cm : List Int} {n : Int} (S : Sol es cm n) (hvld : Vld es) {a b : Int} (h : Rc es a b) (ha : nd es a) : rd cm b <= rd cm a := by
 induction h with
 | refl => exact Int.le_refl _
 | tail h1 h2 ih => exact Int.le_trans (S.back _ (rc_nd hvld h1 ha) _ h2) ih
theorem mut_iff {es : List (List Int)} {cm : List Int} {n : Int} (S : Sol es cm n) (hvld : Vld es) {a b : Int} (ha : nd es a) (hb : nd es b) : (Rc es a b /\ Rc es b a) ↔ rd cm b = rd cm a := by
 constructor
 · rintro ⟨h1, h2⟩
   have := rc_le S hvld h1 ha
   have := rc_le S hvld h2 hb
   omega
 · intro h
   exact ⟨S.same a b ha hb h.symm, S.same b a hb ha h⟩
theorem mem_scc_eq {es : List (List Int)} {cm : List Int} {n : Int} (S : Sol es cm n) (hvld : Vld es) {m : Int} (hm : nd es m) : mem cm (rd cm m) = scc es m := by
 unfold mem scc
 rw [S.len]
 refine List.filter_congr fun x hx => ?_
 rw [mem_iota] at hx
 rw [Bool.eq_iff_iff, beq_iff_eq, decide_eq_true_iff]
 exact (mut_iff S hvld hm hx).symm
theorem kahn_of_seq {es : List (List Int)} {cm : List Int} {n : Int} {ms : List (List Int)} (S : Sol es cm n) (hn : es.length < 1000000) (R : Rows es cm n ms) (hvld : Vld es) {D : List Int} (h : Seq es cm n ms D) :
 Kahn es (D.map (row ms)) /\ ∀ x, x ∈ (D.map (row ms)).flatten ↔ nd es x /\ rd cm x ∈ D := by
 have flat : ∀ {D : List Int}, Seq es cm n ms D -> ∀ x, x ∈ (D.map (row ms)).flatten ↔ nd es x /\ rd cm x ∈ D := by
  intro D hD x
  have hr := hD.rng.2.1
  rw [List.mem_flatten]
  constructor
  · rintro ⟨l, hl, hx⟩
    obtain ⟨c, hc, rfl⟩ := List.mem_map.1 hl
    rw [R.row c (hr c hc).1 (hr c hc).2, mem_mem, S.len] at hx
    exact ⟨hx.1, by rw [hx.2]; exact hc⟩
  · rintro ⟨h1, h2⟩
    refine ⟨_, List.mem_map.2 ⟨_, h2, rfl⟩, ?_⟩
    rw [R.row _ (hr _ h2).1 (hr _ h2).2, mem_mem, S.len]
    exact ⟨h1, rfl⟩
 have ready : ∀ {D : List Int}, Seq es cm n ms D -> ∀ m, nd es m -> (Ready es (D.map (row ms)) m ↔ ∀ d, Dep es cm (rd cm m) d -> d ∈ D) := by
  intro D hD m hm
  constructor
  · rintro h d ⟨hne, v, hv, w, hw, rfl⟩
    obtain ⟨v1, v2⟩ := mem_mem.1 hv
    rw [S.len] at v1
    have hwn := hvld v v1 w hw
    have hmv : Rc es m v := S.same m v hm v1 v2.symm
    rcases h w (hmv.tail hw) with e | e
    · exact ((flat hD w).1 e).2
    · have := (mut_iff S hvld hm hwn).1 ⟨hmv.tail hw, e⟩
      exact absurd this.symm hne
  · intro h x hx
    have key : nd es x /\ (rd cm x = rd cm m \/ rd cm x ∈ D) := by
     induction hx with
     | refl => exact ⟨hm, .inl rfl⟩
     | @tail b c h1 h2 ih =>
      obtain ⟨i1, i2⟩ := ih
      have hc := hvld _ i1 _ h2
      refine ⟨hc, ?_⟩
      by_cases e : rd cm c = rd cm b
      · rw [e]; exact i2
      have hd : Dep es cm (rd cm b) (rd cm c) := ⟨fun e2 => e e2.symm, b, mem_mem.2 ⟨by rw [S.len]; exact i1, rfl⟩, c, h2, rfl⟩
      rcases i2 with i2 | i2
      · rw [i2] at hd; exact .inr (h _ hd)
      · exact .inr (hD.rng.2.2 _ i2 _ hd)
    rcases key.2 with e | e
    · exact .inr ((mut_iff S hvld hm key.1).2 e).2
    · exact .inl ((flat hD x).2 ⟨key.1, e⟩)
 refine ⟨?_, flat h⟩
 induction h with
 | nil => exact .nil
 | @snoc D c hD c0 c1 c2 c3 c4 ih =>
  rw [List.map_append]
  obtain ⟨f1, ⟨f2, f3⟩, f4⟩ := fine_of S hn R c0 c1
  refine .snoc ih ⟨first ms c, f2, fun e => ?_, (ready hD _ f2).2 (by rw [f3]; exact c3), fun x hx hxD hxr => ?_, ?_⟩
  · have := ((flat hD _).1 e).2
    rw [f3] at this
    exact c2 this
  · have hr := S.rng x hx
    obtain ⟨_, _, g4⟩ := fine_of S hn R hr.1 hr.2
    have h1 := c4 (rd cm x) hr.1 hr.2 (fun e => hxD ((flat hD x).2 ⟨hx, e⟩)) ((ready hD x hx).1 hxr)
    have h2 := g4 x hx rfl
    omega
  · rw [R.row c c0 c1, <- mem_scc_eq S hvld f2, f3]
theorem ordered_ev {es : List (List Int)} (hvld : Vld es) {L : Nat} (hL : ∀ v, (row es v).length <= L) (hn : es.length < 1000000) : ∃ o, Full es o /\ g_ordered.f es = some o := by
 have key : ∀ k, es.length * (L + 2) + 3 * es.length + L + 9 <= k -> ∃ o, Full es o /\ orderedF k es = some o := by
  intro k hk
  obtain ⟨cm, n, ms, D, S, R, h1, h2, h3⟩ := ordered_run hvld hL hn k hk
  obtain ⟨k1, k2⟩ := kahn_of_seq S hn R hvld h2
  exact ⟨_, ⟨k1, fun v hv => (k2 v).2 ⟨hv, h3 _ (S.rng v hv).1 (S.rng v hv).2⟩⟩, h1⟩
 obtain ⟨o, o1, o2⟩ := key _ (Nat.le_refl _)
 refine ⟨o, o1, Od.lim_of (k0 := es.length * (L + 2) + 3 * es.length + L + 9) fun k hk => ?_⟩
 obtain ⟨o', p1, p2⟩ := key k hk
 rw [p2, full_unique p1 o1]
structure Parts (es o : List (List Int)) : Prop where
 asc : ∀ c ∈ o, c.Pairwise (· < ·)
 scc : ∀ c ∈ o, ∃ m, nd es m /\ c = scc es m
 one : o.flatten.Nodup
 back : ∀ (i : Nat) (c : List Int), o[i]? = some c -> ∀ u ∈ c, ∀ w ∈ row es u, ∃ (j : Nat) (d : List Int), j <= i /\ o[j]? = some d /\ w ∈ d
theorem kahn_parts {es o : List (List Int)} (hvld : Vld es) (h : Kahn es o) : Parts es o := by
 induction h with
 | nil => exact ⟨by simp, by simp, by simp, by simp⟩
 | @snoc o c h1 h2 ih =>
  obtain ⟨m, m1, m2, m3, m4, rfl⟩ := h2
  refine ⟨?_, ?_, ?_, ?_⟩
  · intro c hc
    rcases List.mem_append.1 hc with e | e
    · exact ih.asc c e
    · rw [List.mem_singleton] at e; rw [e]; exact scc_lt _ _
  · intro c hc
    rcases List.mem_append.1 hc with e | e
    · exact ih.scc c e
    · rw [List.mem_singleton] at e; exact ⟨m, m1, e⟩
  · rw [List.flatten_append, List.nodup_append]
    refine ⟨ih.one, by rw [List.flatten_cons, List.flatten_nil, List.append_nil]; exact (scc_lt es m).imp (fun h e => by subst e; omega), ?_⟩
    rintro a ha b hb rfl
    have hb' : a ∈ Tp.scc es m := by simpa using hb
    obtain ⟨_, b2, b3⟩ := mem_scc.1 hb'
    obtain ⟨d, hd, had⟩ := List.mem_flatten.1 ha
    obtain ⟨x, _, rfl⟩ := ih.scc d hd
    obtain ⟨_, a2, a3⟩ := mem_scc.1 had
    exact m2 (List.mem_flatten.2 ⟨_, hd, mem_scc.2 ⟨m1, a2.trans b3, b2.trans a3⟩⟩)
  · intro i c hi u hu w hw
    by_cases e : i < o.length
    · rw [List.getElem?_append_left e] at hi
      obtain ⟨j, d, j1, j2, j3⟩ := ih.back i c hi u hu w hw
      exact ⟨j, d, j1, by rw [List.getElem?_append_left (by omega)]; exact j2, j3⟩
    have hil := (List.getElem?_eq_some_iff.1 hi).1
    rw [List.length_append, List.length_singleton] at hil
    have e2 : i = o.length := by omega
    subst e2
    rw [List.getElem?_append_right (Nat.le_refl _), Nat.sub_self, List.getElem?_cons_zero] at hi
    obtain rfl := Option.some.inj hi
    obtain ⟨u1, u2, u3⟩ := mem_scc.1 hu
    have hwn := hvld u u1 w hw
    rcases m3 w (u2.tail hw) with e | e
    · obtain ⟨d, hd, hwd⟩ := List.mem_flatten.1 e
      obtain ⟨j, hj, rfl⟩ := List.mem_iff_getElem.1 hd
      exact ⟨j, _, by omega, by rw [List.getElem?_append_left hj, List.getElem?_eq_getElem hj], hwd⟩
    · exact ⟨o.length, _, Nat.le_refl _, by rw [List.getElem?_append_right (Nat.le_refl _), Nat.sub_self, List.getElem?_cons_zero], mem_scc.2 ⟨hwn, u2.tail hw, e⟩⟩
theorem comps_ev {l : List (List Int)} (hs : Sm l) (hv : Vld l) : ∃ o, Full l o /\ Ev (fun k => g_Components.f k l) o := by
 have h60 := hs.1
 obtain ⟨o, o1, o2⟩ := ordered_ev hv (L := 2000) hs.row (by omega)
 have hb := gv_ev l hs
 rw [(vldB_iff l).2 hv] at hb
 refine ⟨o, o1, Ev.congr (fun k => ?_) (Ev.bind hb (f := fun k t => if t = true then some o else some []) (Ev.now _))⟩
 unfold g_Components.f
 rw [o2]
 rfl
end Tp
end Go.Proofs.Ytmadhaccjmakdaa
namespace Go.Proofs.Ytmadhaccjmakdaa.P
open Go.RowKit Go.Proofs.Yw.A Go.Proofs.Yw.A.Kd Go.Proofs.Yw.B Go.Proofs.Yw.C
attribute [local go_sem] str_gtr str_leq str_geq max2_int min2_int max_two min_two max_three min_three max_four min_four
mutual
noncomputable def r_consistent.l0 : Nat -> List (S42) -> List ByteArray -> Int -> Option (Int × ByteArray × Int × Int)
 | 0, _, _, _ => none
 | k + 1, x0, x3, x4 => if x4 < (x0.length : Int) then (if 0 <= x4 then ((q_Has.f k x3 ((rd_T42 x0 x4).f0)).bind fun t334 => (if t334 = true then (some (13, (rd_T42 x0 x4).f0, 0, 0)) else (if x3.length < 8796093022208 then (r_consistent.l0 k x0 (x3 ++ [(rd_T42 x0 x4).f0]) (wrap64 (x4 + 1))) else (none)))) else (none)) else (r_consistent.l1 k x0 x3 0)
noncomputable def r_consistent.l1 : Nat -> List (S42) -> List ByteArray -> Int -> Option (Int × ByteArray × Int × Int)
 | 0, _, _, _ => none
 | k + 1, x0, x3, x5 => if x5 < (x0.length : Int) then (r_consistent.l2 k x0 x3 x5 0) else (some (0, (⟨#[]⟩ : ByteArray), 0, 0))
noncomputable def r_consistent.l2 : Nat -> List (S42) -> List ByteArray -> Int -> Int -> Option (Int × ByteArray × Int × Int)
 | 0, _, _, _, _ => none
 | k + 1, x0, x3, x5, x6 => if 0 <= x5 then (if x5 < (x0.length : Int) then (if x6 < (((rd_T42 x0 x5).f3).length : Int) then (if 0 <= x6 then ((q_Has.f k x3 ((rd_T66 ((rd_T42 x0 x5).f3) x6).f0)).bind fun t343 => (if t343 = true then (r_consistent.l2 k x0 x3 x5 (wrap64 (x6 + 1))) else (some (16, (rd_T66 ((rd_T42 x0 x5).f3) x6).f0, 0, 0)))) else (none)) else (r_consistent.l1 k x0 x3 (wrap64 (x5 + 1)))) else (none)) else (none)
end
noncomputable def r_consistent.f (k : Nat) (l0 : List (S42)) : Option (Int × ByteArray × Int × Int) := if (l0.length : Int) > 32 then (some (3, (⟨#[]⟩ : ByteArray), 0, 0)) else (r_consistent.l0 k l0 ([] : List ByteArray) 0)
mutual
noncomputable def r_back.l0 : Nat -> List (S42) -> ByteArray -> Int -> List ByteArray -> Int -> Option (Bool)
 | 0, _, _, _, _, _ => none
 | k + 1, x0, x2, x3, x9, x10 => if x10 <= x3 then (r_back.l1 k x0 x2 x3 x9 x10 ([] : List ByteArray) 0) else (some false)
noncomputable def r_back.l1 : Nat -> List (S42) -> ByteArray -> Int -> List ByteArray -> Int -> List ByteArray -> Int -> Option (Bool)
 | 0, _, _, _, _, _, _, _ => none
 | k + 1, x0, x2, x3, x9, x10, x11, x12 => if x12 < (x9.length : Int) then (if 0 <= x12 then ((r_Insert.f k x11 (rdOf ByteArray.empty x9 x12)).bind fun t350 => ((r_Imports.f k x0 (rdOf ByteArray.empty x9 x12)).bind fun t354 => (r_back.l2 k x0 x2 x3 x9 x10 t350 x12 t354 0))) else (none)) else (r_back.l0 k x0 x2 x3 x11 (wrap64 (x10 + 1)))
noncomputable def r_back.l2 : Nat -> List (S42) -> ByteArray -> Int -> List ByteArray -> Int -> List ByteArray -> Int -> List ByteArray -> Int -> Option (Bool)
 | 0, _, _, _, _, _, _, _, _, _ => none
 | k + 1, x0, x2, x3, x9, x10, x11, x12, x13, x14 => if x14 < (x13.length : Int) then (if 0 <= x14 then (if (rdOf ByteArray.empty x13 x14).toList = x2.toList then (some true) else ((r_Insert.f k x11 (rdOf ByteArray.empty x13 x14)).bind fun t359 => (r_back.l2 k x0 x2 x3 x9 x10 t359 x12 x13 (wrap64 (x14 + 1))))) else (none)) else (r_back.l1 k x0 x2 x3 x9 x10 x11 (wrap64 (x12 + 1)))
end
noncomputable def r_back.f (k : Nat) (l0 : List (S42)) (a1 : ByteArray) (a2 : ByteArray) (a3 : Int) : Option (Bool) := r_back.l0 k l0 a2 a3 (([a1] : List ByteArray)) 0
end Go.Proofs.Ytmadhaccjmakdaa.P
namespace Go.Proofs.Ytmadhaccjmakdaa
open Go.Maps Go.Sort Go.RowKit Go.Proofs.Yw.A Go.Proofs.Yw.B Go.Proofs.Yw.C Go.Proofs.Ytmadhaccjmakdaa.P
namespace Tp
open Tj Rw Od Mg
open Classical
abbrev Nm := List UInt8
theorem dat_bz (x : Nm) : dat (bz x) = x := bz_list x
theorem bz_dat (x : ByteArray) : bz (dat x) = x := by cases x; simp [bz, dat]
theorem toL_iff (x y : ByteArray) : x.toList = y.toList ↔ x = y := by
 rw [toL, toL]
 exact ⟨fun h => dat_inj h, fun h => by rw [h]⟩
theorem drop_strs (l : List ByteArray) (j : Nat) (h : j < l.length) : l.drop j = rdOf ByteArray.empty l j :: l.drop (j + 1) := by
 rw [List.drop_eq_getElem_cons h]
 congr 1
 simp [rdOf, List.getElem?_eq_getElem h]
theorem less_dat (x y : ByteArray) : Op.bytesLess x.toList y.toList = decide (dat x < dat y) := by
 rw [bytesLess_eq, toL, toL]
theorem has_ev (l : List ByteArray) (x : ByteArray) (hl : l.length < 1000000) : Ev (fun k => q_Has.f k l x) (decide (x ∈ l)) := by
 have key : ∀ (m j : Nat), j + m = l.length -> Ev (fun k => q_Has.l0 k l x j) (decide (x ∈ l.drop j)) := by
  intro m
  induction m with
  | zero =>
   intro j hj
   rw [List.drop_eq_nil_of_le (by omega)]
   refine Ev.step (fun k => ?_) (Ev.now _)
   simp only [q_Has.l0]
   rw [if_neg (by omega), show decide (x ∈ ([] : List ByteArray)) = false by simp]
  | succ m ih =>
   intro j hj
   rw [drop_strs l j (by omega)]
   by_cases h : rdOf ByteArray.empty l j = x
   · rw [show decide (x ∈ rdOf ByteArray.empty l j :: l.drop (j + 1)) = true by simp [h]]
     refine Ev.step (fun k => ?_) (Ev.now _)
     simp only [q_Has.l0]
     rw [if_pos (by omega), if_pos (by omega), if_pos ((toL_iff _ _).2 h)]
   rw [show decide (x ∈ rdOf ByteArray.empty l j :: l.drop (j + 1)) = decide (x ∈ l.drop (j + 1)) by have h' : ¬ x = rdOf ByteArray.empty l j := fun e => h e.symm; simp [h']]
   refine Ev.step (fun k => ?_) (ih (j + 1) (by omega))
   simp only [q_Has.l0]
   rw [if_pos (by omega), if_pos (by omega), if_neg (fun e => h ((toL_iff _ _).1 e)), succ_cast j (by omega)]
 exact key l.length 0 (by omega)
theorem same_ev (a b : List ByteArray) (hl : a.length < 1000000) : Ev (fun k => w_same.f k a b) (decide (a = b)) := by
 by_cases hlen : a.length = b.length
 rotate_left
 · rw [show decide (a = b) = false from decide_eq_false (fun e => hlen (by rw [e]))]
   refine Ev.congr (fun k => ?_) (Ev.now _)
   unfold w_same.f
   rw [if_neg (by omega)]
 have key : ∀ (m j : Nat), j + m = a.length -> Ev (fun k => w_same.l0 k a b j) (decide (a.drop j = b.drop j)) := by
  intro m
  induction m with
  | zero =>
   intro j hj
   rw [List.drop_eq_nil_of_le (by omega), List.drop_eq_nil_of_le (by omega)]
   refine Ev.step (fun k => ?_) (Ev.now _)
   simp only [w_same.l0]
   rw [if_neg (by omega)]
   rfl
  | succ m ih =>
   intro j hj
   rw [drop_strs a j (by omega), drop_strs b j (by omega)]
   by_cases h : rdOf ByteArray.empty a j = rdOf ByteArray.empty b j
   rotate_left
   · rw [show decide (rdOf ByteArray.empty a j :: a.drop (j + 1) = rdOf ByteArray.empty b j :: b.drop (j + 1)) = false by simp [h]]
     refine Ev.step (fun k => ?_) (Ev.now _)
     simp only [w_same.l0]
     rw [if_pos (by omega), if_pos (by omega), if_pos (by omega), if_neg (fun e => h ((toL_iff _ _).1 e))]
   rw [show decide (rdOf ByteArray.empty a j :: a.drop (j + 1) = rdOf ByteArray.empty b j :: b.drop (j + 1)) = decide (a.drop (j + 1) = b.drop (j + 1)) by simp [h]]
   refine Ev.step (fun k => ?_) (ih (j + 1) (by omega))
   simp only [w_same.l0]
   rw [if_pos (by omega), if_pos (by omega), if_pos (by omega), if_pos ((toL_iff _ _).2 h), succ_cast j (by omega)]
 refine Ev.congr (fun k => ?_) (key a.length 0 (by omega))
 unfold w_same.f
 rw [if_pos (by omega)]
 rfl
def insU (s : Nm) : List Nm -> List Nm
 | [] => [s]
 | x :: l => if s < x then s :: x :: l else if s = x then x :: l else x :: insU s l
theorem mem_insU {s x : Nm} : ∀ {l : List Nm}, x ∈ insU s l ↔ x = s \/ x ∈ l := by
 intro l
 induction l with
 | nil => simp [insU]
 | cons y l ih =>
  unfold insU
  split
  · simp
  · split
    · rename_i h; subst h; simp
    · simp only [List.mem_cons, ih]
      constructor
      · rintro (h | h | h)
        · exact .inr (.inl h)
        · exact .inl h
        · exact .inr (.inr h)
      · rintro (h | h | h)
        · exact .inr (.inl h)
        · exact .inl h
        · exact .inr (.inr h)
theorem insU_len (s : Nm) : ∀ (l : List Nm), (insU s l).length <= l.length + 1 := by
 intro l
 induction l with
 | nil => simp [insU]
 | cons y l ih =>
  unfold insU
  split
  · simp
  · split
    · simp
    · simp; omega
theorem insU_lt (s : Nm) : ∀ {l : List Nm}, l.Pairwise (· < ·) -> (insU s l).Pairwise (· < ·) := by
 intro l
 induction l with
 | nil => intro _; simp [insU]
 | cons y l ih =>
  intro h
  rw [List.pairwise_cons] at h
  unfold insU
  split
  · rename_i h1
    rw [List.pairwise_cons]
    refine ⟨fun z hz => ?_, List.pairwise_cons.2 h⟩
    rcases List.mem_cons.1 hz with rfl | hz
    · exact h1
    · exact List.lt_trans h1 (h.1 z hz)
  · split
    · exact List.pairwise_cons.2 h
    · rename_i h1 h2
      rw [List.pairwise_cons]
      refine ⟨fun z hz => ?_, ih h.2⟩
      rcases mem_insU.1 hz with rfl | hz
      · rcases Std.lt_trichotomy z y with h3 | h3 | h3
        · exact absurd h3 h1
        · exact absurd h3 h2
        · exact h3
      · exact h.1 z hz
theorem ins_copy (x0 : List ByteArray) (x1 : ByteArray) (hl : x0.length < 1000000) : ∀ (m j : Nat) (x5 : List ByteArray), j + m = x0.length -> x5.length <= 2 * j + 2 -> Ev (fun k => r_Insert.l0 k x0 x1 x5 true j) (x5 ++ x0.drop j) := by
 intro m
 induction m with
 | zero =>
  intro j x5 hj hx
  rw [List.drop_eq_nil_of_le (by omega), List.append_nil]
  refine Ev.step (fun k => ?_) (Ev.now _)
  simp only [r_Insert.l0]
  rw [if_neg (by omega), if_pos trivial]
 | succ m ih =>
  intro j x5 hj hx
  have h1 := ih (j + 1) (x5 ++ [rdOf ByteArray.empty x0 j]) (by omega) (by simp; omega)
  rw [drop_strs x0 j (by omega)]
  rw [List.append_assoc, List.singleton_append] at h1
  refine Ev.step (fun k => ?_) (Ev.step (g := fun k => r_Insert.j1 k x0 x1 x5 true j false) (fun k => ?_) h1)
  · simp only [r_Insert.l0]
    rw [if_pos (by omega), if_pos trivial]
  · simp only [r_Insert.j1]
    rw [if_neg (by simp), if_pos (by omega), if_pos (by omega), if_pos (by omega), succ_cast j (by omega)]
theorem ins_ev (L : List Nm) (s : ByteArray) (hl : L.length < 1000000) : Ev (fun k => r_Insert.f k (L.map bz) s) ((insU (dat s) L).map bz) := by
 have hrd : ∀ j : Nat, (h : j < L.length) -> rdOf ByteArray.empty (L.map bz) (j : Int) = bz L[j] := by
  intro j h
  simp [rdOf, List.getElem?_eq_getElem h]
 have key : ∀ (m j : Nat) (x5 : List ByteArray), j + m = L.length -> x5.length <= j -> Ev (fun k => r_Insert.l0 k (L.map bz) s x5 false j) (x5 ++ (insU (dat s) (L.drop j)).map bz) := by
  intro m
  induction m with
  | zero =>
   intro j x5 hj hx
   rw [List.drop_eq_nil_of_le (by omega)]
   refine Ev.step (fun k => ?_) (Ev.now _)
   simp only [r_Insert.l0]
   rw [if_neg (by rw [List.length_map]; omega), if_neg (by simp), if_pos (by omega)]
   simp [insU, bz_dat]
  | succ m ih =>
   intro j x5 hj hx
   have hjl : j < L.length := by omega
   have hjm : (j : Int) < ((L.map bz).length : Int) := by rw [List.length_map]; omega
   rw [List.drop_eq_getElem_cons hjl]
   have hr := hrd j hjl
   by_cases h1 : L[j] < dat s
   · have e : insU (dat s) (L[j] :: L.drop (j + 1)) = L[j] :: insU (dat s) (L.drop (j + 1)) := by
      rw [insU, if_neg (fun h => List.lt_irrefl _ (List.lt_trans h h1)), if_neg (fun h => by rw [h] at h1; exact List.lt_irrefl _ h1)]
     rw [e]
     have h2 := ih (j + 1) (x5 ++ [rdOf ByteArray.empty (L.map bz) j]) (by omega) (by simp; omega)
     rw [hr, List.append_assoc, List.singleton_append] at h2
     refine Ev.step (fun k => ?_) (Ev.step (g := fun k => r_Insert.j1 k (L.map bz) s x5 false j false) (fun k => ?_) h2)
     · simp only [r_Insert.l0]
       rw [if_pos hjm, if_neg (by simp), if_pos (by omega), less_dat, hr, dat_bz, decide_eq_true h1]
       rfl
     · simp only [r_Insert.j1]
       rw [if_neg (by simp), if_pos (by omega), if_pos hjm, if_pos (by omega), succ_cast j (by omega), hr]
   have hcond : (!(Op.bytesLess ((rdOf ByteArray.empty (L.map bz) (j : Int)).toList) s.toList)) = true := by rw [less_dat, hr, dat_bz, decide_eq_false h1]; rfl
   by_cases h2 : dat s < L[j]
   · have e : insU (dat s) (L[j] :: L.drop (j + 1)) = dat s :: L[j] :: L.drop (j + 1) := by rw [insU, if_pos h2]
     rw [e]
     have h3 := ins_copy (L.map bz) s (by rw [List.length_map]; omega) m (j + 1) ((x5 ++ [s]) ++ [rdOf ByteArray.empty (L.map bz) j]) (by rw [List.length_map]; omega) (by simp; omega)
     rw [hr, <- List.map_drop] at h3
     refine Ev.step (fun k => ?_) (Ev.step (g := fun k => r_Insert.j1 k (L.map bz) s x5 false j true) (fun k => ?_) (r := x5 ++ List.map bz (dat s :: L[j] :: List.drop (j + 1) L)) (f := fun k => r_Insert.l0 k (L.map bz) s ((x5 ++ [s]) ++ [bz L[j]]) true ((j + 1 : Nat) : Int)) ?_)
     · simp only [r_Insert.l0]
       rw [if_pos hjm, if_neg (by simp), if_pos (by omega), hcond]
     · simp only [r_Insert.j1]
       rw [if_pos trivial, if_pos (by omega), if_pos hjm, if_pos (by rw [less_dat, hr, dat_bz, decide_eq_true h2]), if_pos (by omega), Option.bind_some, if_pos (by simp; omega), succ_cast j (by omega), hr]
     · rw [List.map_cons, List.map_cons, bz_dat]
       simpa only [List.append_assoc, List.singleton_append, List.cons_append, List.nil_append] using h3
   have h4 : dat s = L[j] := by
    rcases Std.lt_trichotomy (dat s) L[j] with h | h | h
    · exact absurd h h2
    · exact h
    · exact absurd h h1
   have e : insU (dat s) (L[j] :: L.drop (j + 1)) = L[j] :: L.drop (j + 1) := by rw [insU, if_neg h2, if_pos h4]
   rw [e]
   have h3 := ins_copy (L.map bz) s (by rw [List.length_map]; omega) m (j + 1) (x5 ++ [rdOf ByteArray.empty (L.map bz) j]) (by rw [List.length_map]; omega) (by simp; omega)
   rw [hr, <- List.map_drop] at h3
   refine Ev.step (fun k => ?_) (Ev.step (g := fun k => r_Insert.j1 k (L.map bz) s x5 false j true) (fun k => ?_) (f := fun k => r_Insert.l0 k (L.map bz) s (x5 ++ [bz L[j]]) true ((j + 1 : Nat) : Int)) ?_)
   · simp only [r_Insert.l0]
     rw [if_pos hjm, if_neg (by simp), if_pos (by omega), hcond]
   · simp only [r_Insert.j1]
     rw [if_pos trivial, if_pos (by omega), if_pos hjm, if_neg (by rw [less_dat, hr, dat_bz, decide_eq_false h2]; simp), if_pos (by omega), succ_cast j (by omega), hr]
   · rw [List.map_cons]
     simpa only [List.append_assoc, List.singleton_append, List.cons_append, List.nil_append] using h3
 have h := key L.length 0 [] (by omega) (by simp)
 rw [List.drop_zero, List.nil_append] at h
 exact h
theorem lt_ext : ∀ {a b : List Nm}, a.Pairwise (· < ·) -> b.Pairwise (· < ·) -> (∀ x, x ∈ a ↔ x ∈ b) -> a = b := by
 intro a
 induction a with
 | nil =>
  intro b _ _ h
  cases b with
  | nil => rfl
  | cons y b => exact absurd ((h y).2 (by simp)) (by simp)
 | cons x a ih =>
  intro b ha hb h
  cases b with
  | nil => exact absurd ((h x).1 (by simp)) (by simp)
  | cons y b =>
   rw [List.pairwise_cons] at ha hb
   have hxy : x = y := by
    rcases List.mem_cons.1 ((h x).1 (by simp)) with e | e
    · exact e
    · rcases List.mem_cons.1 ((h y).2 (by simp)) with e2 | e2
      · exact e2.symm
      · exact absurd (List.lt_trans (hb.1 x e) (ha.1 y e2)) (List.lt_irrefl _)
   subst hxy
   rw [ih ha.2 hb.2 (fun z => ?_)]
   have hz := h z
   simp only [List.mem_cons] at hz
   constructor
   · intro hza
     rcases hz.1 (.inr hza) with e | e
     · subst e; exact absurd (ha.1 z hza) (List.lt_irrefl _)
     · exact e
   · intro hzb
     rcases hz.2 (.inr hzb) with e | e
     · subst e; exact absurd (hb.1 z hzb) (List.lt_irrefl _)
     · exact e
theorem asc_lt (S : List Nm) : (asc S).Pairwise (· < ·) := by
 have h1 := asc_pair S
 have h2 : (asc S).Nodup := (asc_elems S).nodup
 refine (h1.and h2).imp ?_
 rintro a b ⟨h3, h4⟩
 rcases Std.lt_trichotomy a b with h | h | h
 · exact h
 · exact absurd h h4
 · exact absurd (List.lt_of_le_of_lt h3 h) (List.lt_irrefl _)
theorem insU_asc (S : List Nm) (x : Nm) : insU x (asc S) = asc (S ++ [x]) := by
 refine lt_ext (insU_lt x (asc_lt S)) (asc_lt _) (fun y => ?_)
 rw [mem_insU, mem_asc, mem_asc]
 simp [or_comm]
theorem asc_len (S : List Nm) : (asc S).length <= S.length := by
 have h1 : ∀ S : List Nm, (dd S).length <= S.length := by
  intro S
  induction S with
  | nil => simp [dd]
  | cons x S ih =>
   unfold dd
   split <;> simp <;> omega
 unfold asc
 rw [List.length_mergeSort]
 exact h1 S
theorem drop_mods (l : List S42) (i : Nat) (h : i < l.length) : l.drop i = rd_T42 l i :: l.drop (i + 1) := by
 have := drop_rd l (i : Int) (by omega) (by omega)
 simpa using this
theorem drop_imps (l : List S66) (i : Nat) (h : i < l.length) : l.drop i = rd_T66 l i :: l.drop (i + 1) := by
 have := drop_rdI l (i : Int) (by omega) (by omega)
 simpa using this
theorem names_ev (l : List S42) (hl : l.length < 100000) : Ev (fun k => r_Names.f k l) ((asc (l.map nm)).map bz) := by
 have key : ∀ (m j : Nat) (S : List Nm), j + m = l.length -> S.length = j -> Ev (fun k => r_Names.l0 k l ((asc S).map bz) j) ((asc (S ++ (l.drop j).map nm)).map bz) := by
  intro m
  induction m with
  | zero =>
   intro j S hj hS
   rw [List.drop_eq_nil_of_le (by omega), List.map_nil, List.append_nil]
   refine Ev.step (fun k => ?_) (Ev.now _)
   simp only [r_Names.l0]
   rw [if_neg (by omega)]
  | succ m ih =>
   intro j S hj hS
   have h1 := ins_ev (asc S) (rd_T42 l j).f0 (by have := asc_len S; omega)
   have h2 := ih (j + 1) (S ++ [nm (rd_T42 l j)]) (by omega) (by simp; omega)
   rw [drop_mods l j (by omega), List.map_cons, <- List.singleton_append, <- List.append_assoc]
   rw [<- insU_asc] at h2
   refine Ev.step (fun k => ?_) (Ev.bind h1 (f := fun k t => r_Names.l0 k l t ((j + 1 : Nat) : Int)) h2)
   simp only [r_Names.l0]
   rw [if_pos (by omega), if_pos (by omega), succ_cast j (by omega)]
 have h := key l.length 0 [] (by omega) rfl
 have e : asc ([] : List Nm) = [] := asc_self (by simp) (by simp)
 rw [e, List.drop_zero, List.nil_append] at h
 exact h
theorem imps_inner (l : List S42) (x : ByteArray) (hl : l.length < 100000) (hi : ∀ m ∈ l, m.f3.length <= 100000) (i : Nat) (hil : i < l.length) (hn : nm (rd_T42 l i) = dat x) (r : List ByteArray)
 (hk : Ev (fun k => r_Imports.l0 k l x ((asc ((rd_T42 l i).f3.map im)).map bz) ((i + 1 : Nat) : Int)) r) : Ev (fun k => r_Imports.l1 k l x [] i 0) r := by
 have hmem : (rd_T42 l i).f3.length <= 100000 := hi _ (Mg.mem_rd l i (by omega) (by omega))
 have key2 : ∀ (m j : Nat) (S : List Nm), j + m = (rd_T42 l i).f3.length -> (asc S).length <= j -> S = ((rd_T42 l i).f3.take j).map im -> Ev (fun k => r_Imports.l1 k l x ((asc S).map bz) i j) r := by
  intro m
  induction m with
  | zero =>
   intro j S hj hS hST
   rw [List.take_of_length_le (by omega)] at hST
   subst hST
   refine Ev.step (fun k => ?_) hk
   simp only [r_Imports.l1]
   rw [if_pos (by omega), if_pos (by omega), if_neg (by omega), succ_cast i (by omega)]
  | succ m ih =>
   intro j S hj hS hST
   have h1 := ins_ev (asc S) (rd_T66 (rd_T42 l i).f3 j).f0 (by omega)
   have h2 := ih (j + 1) (S ++ [im (rd_T66 (rd_T42 l i).f3 j)]) (by omega) (by rw [<- insU_asc]; have := insU_len (im (rd_T66 (rd_T42 l i).f3 j)) (asc S); omega) (by
    have := take_rdI (rd_T42 l i).f3 (j : Int) (by omega) (by omega)
    simp only [Int.toNat_natCast] at this
    rw [this, List.map_append, hST]
    simp)
   rw [<- insU_asc] at h2
   refine Ev.step (fun k => ?_) (Ev.bind h1 (f := fun k t => r_Imports.l1 k l x t i ((j + 1 : Nat) : Int)) h2)
   simp only [r_Imports.l1]
   rw [if_pos (by omega), if_pos (by omega), if_pos (by omega), if_pos (by rw [toL, toL]; exact hn), if_pos (by omega), succ_cast j (by omega)]
 have e : asc ([] : List Nm) = [] := asc_self (by simp) (by simp)
 have h := key2 (rd_T42 l i).f3.length 0 [] (by omega) (by rw [e]; exact Nat.le_refl _) (by simp)
 rw [e] at h
 exact h
theorem imps_skip (l : List S42) (x : ByteArray) (hl : l.length < 100000) (i : Nat) (hil : i < l.length) (hn : nm (rd_T42 l i) ≠ dat x) (R r : List ByteArray)
 (hk : Ev (fun k => r_Imports.l0 k l x R ((i + 1 : Nat) : Int)) r) : Ev (fun k => r_Imports.l1 k l x R i 0) r := by
 refine Ev.step (fun k => ?_) hk
 simp only [r_Imports.l1]
 rw [if_pos (by omega), if_pos (by omega)]
 by_cases h0 : (0 : Int) < (((rd_T42 l i).f3).length : Int)
 rotate_left
 · rw [if_neg h0, succ_cast i (by omega)]
 rw [if_pos h0, if_neg (by rw [toL, toL]; exact hn), succ_cast i (by omega)]
theorem impsL_cons_eq {m : S42} {l : List S42} {n : Nm} (h : nm m = n) : impsL (m :: l) n = m.f3.map im := by
 unfold impsL
 rw [List.find?_cons_of_pos (by simp [h])]
 rfl
theorem impsL_cons_ne {m : S42} {l : List S42} {n : Nm} (h : nm m ≠ n) : impsL (m :: l) n = impsL l n := by
 unfold impsL
 rw [List.find?_cons_of_neg (by simp [h])]
theorem imps_ev (l : List S42) (x : ByteArray) (hl : l.length < 100000) (hi : ∀ m ∈ l, m.f3.length <= 100000) (hnd : (l.map nm).Nodup) : Ev (fun k => r_Imports.f k l x) ((asc (impsL l (dat x))).map bz) := by
 have rest : ∀ (m j : Nat) (R : List ByteArray), j + m = l.length -> dat x ∉ (l.drop j).map nm -> Ev (fun k => r_Imports.l0 k l x R j) R := by
  intro m
  induction m with
  | zero =>
   intro j R hj _
   refine Ev.step (fun k => ?_) (Ev.now _)
   simp only [r_Imports.l0]
   rw [if_neg (by omega)]
  | succ m ih =>
   intro j R hj hx
   rw [drop_mods l j (by omega), List.map_cons, List.mem_cons, not_or] at hx
   refine Ev.step (fun k => ?_) (imps_skip l x hl j (by omega) (fun e => hx.1 e.symm) R R (ih (j + 1) R (by omega) hx.2))
   simp only [r_Imports.l0]
   rw [if_pos (by omega)]
 have e : asc ([] : List Nm) = [] := asc_self (by simp) (by simp)
 have key : ∀ (m j : Nat), j + m = l.length -> Ev (fun k => r_Imports.l0 k l x [] j) ((asc (impsL (l.drop j) (dat x))).map bz) := by
  intro m
  induction m with
  | zero =>
   intro j hj
   rw [List.drop_eq_nil_of_le (by omega)]
   have e2 : impsL ([] : List S42) (dat x) = [] := rfl
   rw [e2, e]
   refine Ev.step (fun k => ?_) (Ev.now _)
   simp only [r_Imports.l0]
   rw [if_neg (by omega)]
   rfl
  | succ m ih =>
   intro j hj
   rw [drop_mods l j (by omega)]
   by_cases hn : nm (rd_T42 l j) = dat x
   rotate_left
   · rw [impsL_cons_ne hn]
     refine Ev.step (fun k => ?_) (imps_skip l x hl j (by omega) hn [] _ (ih (j + 1) (by omega)))
     simp only [r_Imports.l0]
     rw [if_pos (by omega)]
   rw [impsL_cons_eq hn]
   have hx : dat x ∉ (l.drop (j + 1)).map nm := by
    have h1 : ((l.drop j).map nm).Nodup := by rw [List.map_drop]; exact (List.drop_sublist _ _).nodup hnd
    rw [drop_mods l j (by omega), List.map_cons, List.nodup_cons, hn] at h1
    exact h1.1
   refine Ev.step (fun k => ?_) (imps_inner l x hl hi j (by omega) hn _ (rest m (j + 1) _ (by omega) hx))
   simp only [r_Imports.l0]
   rw [if_pos (by omega)]
 have h := key l.length 0 (by omega)
 rw [List.drop_zero] at h
 exact h
def consF (l : List S42) : Int × ByteArray :=
 if (l.length : Int) > 32 then (3, ⟨#[]⟩) else match twice l [] with
  | some x => (13, x)
  | none => match miss (l.map nm) l with
   | some x => (16, x)
   | none => (0, ⟨#[]⟩)
theorem made_consF (l : List S42) (h : okSizes l) : m_made.f l = some (if (consF l).1 = 0 then (namesOf l, edgesOf l, 0, ⟨#[]⟩, 0, 0) else ([], [], (consF l).1, (consF l).2, 0, 0)) := by
 unfold m_made.f consF
 by_cases hl : (l.length : Int) > 32
 · rw [if_pos hl, if_pos hl]; rfl
 rw [if_neg hl, if_neg hl, if_pos h]
 cases twice l [] with
 | some x => rfl
 | none =>
  cases miss (l.map nm) l with
  | some x => rfl
  | none => rfl
theorem mem_nm (x : ByteArray) (S : List ByteArray) : (dat x ∈ S.map dat) ↔ x ∈ S :=
 ⟨fun h => by obtain ⟨y, hy, e⟩ := List.mem_map.1 h; exact dat_inj e ▸ hy, fun h => List.mem_map.2 ⟨x, h, rfl⟩⟩
theorem cons_ev (l : List S42) (hi : ∀ m ∈ l, m.f3.length <= 100000) : Ev (fun k => r_consistent.f k l) ((consF l).1, (consF l).2, 0, 0) := by
 unfold consF
 by_cases hl : (l.length : Int) > 32
 · rw [if_pos hl]
   refine Ev.congr (fun k => ?_) (Ev.now _)
   unfold r_consistent.f
   rw [if_pos hl]
 rw [if_neg hl]
 have hS : l.map nm = (l.map (fun m => m.f0)).map dat := by rw [List.map_map]; rfl
 have k2 : ∀ (i : Nat), i < l.length -> ∀ (m j : Nat) (r : Int × ByteArray × Int × Int), j + m = (rd_T42 l i).f3.length ->
  (∀ y, missI (l.map nm) ((rd_T42 l i).f3.drop j) = some y -> r = (16, y, 0, 0)) -> (missI (l.map nm) ((rd_T42 l i).f3.drop j) = none -> Ev (fun k => r_consistent.l1 k l (l.map (fun m => m.f0)) ((i + 1 : Nat) : Int)) r) ->
  Ev (fun k => r_consistent.l2 k l (l.map (fun m => m.f0)) i j) r := by
  intro i hil m
  have hmem : (rd_T42 l i).f3.length <= 100000 := hi _ (Mg.mem_rd l i (by omega) (by omega))
  induction m with
  | zero =>
   intro j r hj _ h2
   rw [List.drop_eq_nil_of_le (by omega)] at h2
   refine Ev.step (fun k => ?_) (h2 rfl)
   simp only [r_consistent.l2]
   rw [if_pos (by omega), if_pos (by omega), if_neg (by omega), succ_cast i (by omega)]
  | succ m ih =>
   intro j r hj h1 h2
   have hb := has_ev (l.map (fun m => m.f0)) (rd_T66 (rd_T42 l i).f3 j).f0 (by rw [List.length_map]; omega)
   rw [drop_imps _ j (by omega)] at h1 h2
   by_cases hc : (l.map nm).contains (im (rd_T66 (rd_T42 l i).f3 j)) = true
   · unfold missI at h1 h2
     rw [if_pos hc] at h1 h2
     rw [decide_eq_true ((mem_nm _ _).1 (by rw [<- hS]; exact List.contains_iff_mem.1 hc))] at hb
     refine Ev.step (fun k => ?_) (Ev.bind hb (f := fun k t => if t = true then r_consistent.l2 k l (l.map (fun m => m.f0)) i ((j + 1 : Nat) : Int) else some (16, (rd_T66 (rd_T42 l i).f3 j).f0, 0, 0)) (ih (j + 1) r (by omega) h1 h2))
     simp only [r_consistent.l2]
     rw [if_pos (by omega), if_pos (by omega), if_pos (by omega), if_pos (by omega), succ_cast j (by omega)]
   unfold missI at h1 h2
   rw [if_neg hc] at h1 h2
   rw [decide_eq_false (fun h => hc (List.contains_iff_mem.2 (by rw [hS]; exact (mem_nm _ _).2 h)))] at hb
   have hr := h1 _ rfl
   rw [hr]
   refine Ev.step (fun k => ?_) (Ev.bind hb (f := fun k t => if t = true then r_consistent.l2 k l (l.map (fun m => m.f0)) i ((j + 1 : Nat) : Int) else some (16, (rd_T66 (rd_T42 l i).f3 j).f0, 0, 0)) (Ev.now _))
   simp only [r_consistent.l2]
   rw [if_pos (by omega), if_pos (by omega), if_pos (by omega), if_pos (by omega), succ_cast j (by omega)]
 have k1 : ∀ (m i : Nat), i + m = l.length -> Ev (fun k => r_consistent.l1 k l (l.map (fun m => m.f0)) i) (match miss (l.map nm) (l.drop i) with | some x => (16, x, 0, 0) | none => (0, ⟨#[]⟩, 0, 0)) := by
  intro m
  induction m with
  | zero =>
   intro i hi2
   rw [List.drop_eq_nil_of_le (by omega)]
   refine Ev.step (fun k => ?_) (Ev.now _)
   simp only [r_consistent.l1]
   rw [if_neg (by omega)]
   rfl
  | succ m ih =>
   intro i hi2
   rw [drop_mods l i (by omega)]
   refine Ev.step (fun k => ?_) (k2 i (by omega) _ 0 _ (Nat.zero_add _) (fun y hy => ?_) (fun hn => ?_))
   · simp only [r_consistent.l1]
     rw [if_pos (by omega)]
     rfl
   · rw [List.drop_zero] at hy
     unfold miss
     rw [hy]
   · rw [List.drop_zero] at hn
     unfold miss
     rw [hn]
     exact ih (i + 1) (by omega)
 have k0 : ∀ (m i : Nat), i + m = l.length -> Ev (fun k => r_consistent.l0 k l ((l.take i).map (fun m => m.f0)) i) (match twice (l.drop i) ((l.take i).map nm) with | some x => (13, x, 0, 0) | none => (match miss (l.map nm) l with | some x => (16, x, 0, 0) | none => (0, ⟨#[]⟩, 0, 0))) := by
  intro m
  induction m with
  | zero =>
   intro i hi2
   have h1 := k1 l.length 0 (by omega)
   rw [List.drop_zero] at h1
   rw [List.drop_eq_nil_of_le (by omega), List.take_of_length_le (by omega)]
   refine Ev.step (fun k => ?_) h1
   simp only [r_consistent.l0]
   rw [if_neg (by omega)]
   rfl
  | succ m ih =>
   intro i hi2
   have hT : (l.take i).map nm = ((l.take i).map (fun m => m.f0)).map dat := by rw [List.map_map]; rfl
   have hb := has_ev ((l.take i).map (fun m => m.f0)) (rd_T42 l i).f0 (by rw [List.length_map, List.length_take]; omega)
   have htk : (l.take (i + 1)) = l.take i ++ [rd_T42 l i] := by
    have := take_rd l (i : Int) (by omega) (by omega)
    simpa using this
   rw [drop_mods l i (by omega)]
   unfold twice
   by_cases hc : ((l.take i).map nm).contains (nm (rd_T42 l i)) = true
   · rw [if_pos hc]
     rw [decide_eq_true ((mem_nm _ _).1 (by rw [<- hT]; exact List.contains_iff_mem.1 hc))] at hb
     refine Ev.step (fun k => ?_) (Ev.bind hb (f := fun k t => if t = true then some (13, (rd_T42 l i).f0, 0, 0) else r_consistent.l0 k l ((l.take i).map (fun m => m.f0) ++ [(rd_T42 l i).f0]) ((i + 1 : Nat) : Int)) (Ev.now _))
     simp only [r_consistent.l0]
     rw [if_pos (by omega), if_pos (by omega), succ_cast i (by omega)]
     congr 1
     funext t
     rw [if_pos (show ((l.take i).map (fun m => m.f0)).length < 8796093022208 by rw [List.length_map, List.length_take]; omega)]
   rw [if_neg hc]
   rw [decide_eq_false (fun h => hc (List.contains_iff_mem.2 (by rw [hT]; exact (mem_nm _ _).2 h)))] at hb
   have h2 := ih (i + 1) (by omega)
   rw [htk, List.map_append, List.map_append] at h2
   refine Ev.step (fun k => ?_) (Ev.bind hb (f := fun k t => if t = true then some (13, (rd_T42 l i).f0, 0, 0) else r_consistent.l0 k l ((l.take i).map (fun m => m.f0) ++ [(rd_T42 l i).f0]) ((i + 1 : Nat) : Int)) h2)
   simp only [r_consistent.l0]
   rw [if_pos (by omega), if_pos (by omega), succ_cast i (by omega)]
   congr 1
   funext t
   rw [if_pos (show ((l.take i).map (fun m => m.f0)).length < 8796093022208 by rw [List.length_map, List.length_take]; omega)]
 have h := k0 l.length 0 (by omega)
 rw [List.drop_zero, List.take_zero, List.map_nil, List.map_nil] at h
 refine Ev.congr (fun k => ?_) (g := fun k => r_consistent.f k l) (f := fun k => r_consistent.l0 k l [] 0) ?_
 · unfold r_consistent.f
   rw [if_neg hl]
 · cases h1 : twice l [] with
   | some x => rw [h1] at h; exact h
   | none =>
    rw [h1] at h
    cases h2 : miss (l.map nm) l with
    | some x => simp only [h2] at h; exact h
    | none => simp only [h2] at h; exact h
theorem missI_none (K : List Nm) : ∀ {q : List S66}, missI K q = none -> ∀ i ∈ q, im i ∈ K := by
 intro q
 induction q with
 | nil => intro _ i hi; cases hi
 | cons i q ih =>
  intro h j hj
  unfold missI at h
  by_cases hc : K.contains (im i) = true
  rotate_left
  · rw [if_neg hc] at h; cases h
  rw [if_pos hc] at h
  rcases List.mem_cons.1 hj with rfl | hj
  · exact List.contains_iff_mem.1 hc
  · exact ih h j hj
theorem miss_none (K : List Nm) : ∀ {q : List S42}, miss K q = none -> ∀ m ∈ q, ∀ i ∈ m.f3, im i ∈ K := by
 intro q
 induction q with
 | nil => intro _ i hi; cases hi
 | cons a q ih =>
  intro h m hm
  unfold miss at h
  cases h1 : missI K a.f3 with
  | some x => rw [h1] at h; cases h
  | none =>
   rw [h1] at h
   rcases List.mem_cons.1 hm with rfl | hm
   · exact missI_none K h1
   · exact ih h m hm
structure Good (l : List S42) : Prop where
 len : l.length <= 32
 nod : (l.map nm).Nodup
 imp : ∀ m ∈ l, ∀ i ∈ m.f3, im i ∈ l.map nm
 few : ∀ m ∈ l, m.f3.length <= 100
theorem good_of {l : List S42} (h : (consF l).1 = 0) (hf : ∀ m ∈ l, m.f3.length <= 100) : Good l := by
 unfold consF at h
 by_cases hl : (l.length : Int) > 32
 · rw [if_pos hl] at h; cases h
 rw [if_neg hl] at h
 cases h1 : twice l [] with
 | some x => rw [h1] at h; cases h
 | none =>
  rw [h1] at h
  cases h2 : miss (l.map nm) l with
  | some x => simp only [h2] at h; cases h
  | none =>
   have h3 := twice_none l [] (by simp) h1
   exact ⟨by omega, by simpa using h3, miss_none _ h2, hf⟩
theorem good_fault {l : List S42} (h : (consF l).1 = 0) : (consF l).2 = ⟨#[]⟩ := by
 unfold consF at h ⊢
 by_cases hl : (l.length : Int) > 32
 · rw [if_pos hl] at h; cases h
 rw [if_neg hl] at h ⊢
 cases h1 : twice l [] with
 | some x => rw [h1] at h; cases h
 | none =>
  rw [h1] at h
  cases h2 : miss (l.map nm) l with
  | some x => simp only [h2] at h; cases h
  | none => rfl
def nb (l : List S42) (i : Int) : ByteArray := rdOf ByteArray.empty (namesOf l) i
section
variable {l : List S42}
def NL (l : List S42) : List Nm := asc (l.map nm)
theorem NL_len (G : Good l) : (NL l).length = l.length := by
 have h1 := (asc_elems (l.map nm)).nodup
 have h2 : ∀ (a b : List Nm), a.Nodup -> (∀ x ∈ a, x ∈ b) -> a.length <= b.length := by
  intro a
  induction a with
  | nil => intro b _ _; simp
  | cons x a ih =>
   intro b hn hs
   rw [List.nodup_cons] at hn
   have hx := hs x (by simp)
   have := ih (b.erase x) hn.2 (fun y hy => (List.mem_erase_of_ne (by rintro rfl; exact hn.1 hy)).2 (hs y (by simp [hy])))
   rw [List.length_erase_of_mem hx] at this
   have := List.length_pos_of_mem hx
   rw [List.length_cons]; omega
 have h3 := h2 _ _ h1 (fun x hx => mem_asc.1 hx)
 have h4 := h2 _ _ G.nod (fun x hx => (mem_asc (S := l.map nm)).2 hx)
 rw [List.length_map] at h3 h4
 exact Nat.le_antisymm h3 h4
theorem es_len (G : Good l) : (edgesOf l).length = l.length := by
 unfold edgesOf; rw [List.length_map]; exact NL_len G
theorem nb_at (G : Good l) {i : Int} (h0 : 0 <= i) (h1 : i < l.length) : ∃ h : i.toNat < (NL l).length, nb l i = bz (NL l)[i.toNat] :=
 rd_bz (NL l) i h0 (by rw [NL_len G]; exact h1)
theorem nb_lt (G : Good l) {i j : Int} (h0 : 0 <= i) (h1 : i < j) (h2 : j < l.length) : dat (nb l i) < dat (nb l j) := by
 obtain ⟨a, ha⟩ := nb_at G h0 (by omega)
 obtain ⟨b, hb⟩ := nb_at G (by omega) h2
 rw [ha, hb, dat_bz, dat_bz]
 exact List.pairwise_iff_getElem.1 (asc_lt (l.map nm)) _ _ a b (by omega)
theorem nb_inj (G : Good l) {i j : Int} (h0 : 0 <= i) (h1 : i < l.length) (h2 : 0 <= j) (h3 : j < l.length) (h : nb l i = nb l j) : i = j := by
 rcases Int.lt_trichotomy i j with e | e | e
 · have := nb_lt G h0 e h3; rw [h] at this; exact absurd this (List.lt_irrefl _)
 · exact e
 · have := nb_lt G h2 e h1; rw [h] at this; exact absurd this (List.lt_irrefl _)
theorem rank_at (L : List Nm) (hp : L.Pairwise (· < ·)) (t : Nat) (ht : t < L.length) : rank L L[t] = t := by
 rcases Nat.lt_trichotomy (rank L L[t]) t with h | h | h
 · have h1 := rank_ge L L[t] (hp.imp (fun h => List.le_of_lt h)) (rank L L[t]) (by omega) (Nat.le_refl _)
   exact absurd (List.pairwise_iff_getElem.1 hp _ _ (by omega) ht h) h1
 · exact h
 · obtain ⟨h1, h2⟩ := rank_lt L L[t] t h
   exact absurd h2 (List.lt_irrefl _)
theorem nb_rank (G : Good l) {y : Nm} (hy : y ∈ l.map nm) : (0 : Int) <= (rank (NL l) y : Int) /\ (rank (NL l) y : Int) < l.length /\ nb l (rank (NL l) y : Int) = bz y := by
 obtain ⟨t, ht, rfl⟩ := List.mem_iff_getElem.1 ((mem_asc (S := l.map nm)).2 hy)
 have hr : rank (NL l) ((asc (l.map nm))[t]) = t := rank_at _ (asc_lt _) t ht
 rw [hr]
 have hl : t < l.length := by have := NL_len G; unfold NL at this; omega
 refine ⟨by omega, by omega, ?_⟩
 obtain ⟨h1, h2⟩ := nb_at G (i := (t : Int)) (by omega) (by omega)
 rw [h2]
 rfl
theorem row_es (G : Good l) {i : Int} (h0 : 0 <= i) (h1 : i < l.length) : row (edgesOf l) i = edgeOf l (dat (nb l i)) := by
 obtain ⟨h, e⟩ := nb_at G h0 h1
 rw [e, dat_bz]
 obtain ⟨t, rfl⟩ : ∃ t : Nat, i = t := ⟨i.toNat, by omega⟩
 have ht : t < (edgesOf l).length := by rw [es_len G]; omega
 rw [row_mem _ t ht]
 exact List.getElem_map (edgeOf l) (l := NL l) (h := ht)
theorem imps_in (G : Good l) (n : Nm) : (∀ y ∈ impsL l n, y ∈ l.map nm) /\ (impsL l n).length <= 100 := by
 unfold impsL
 cases h : l.find? (fun m => nm m == n) with
 | none => simp
 | some m =>
  have hm := List.mem_of_find?_eq_some h
  simp only [Option.map_some, Option.getD_some]
  refine ⟨fun y hy => ?_, by rw [List.length_map]; exact G.few m hm⟩
  obtain ⟨i, hi, rfl⟩ := List.mem_map.1 hy
  exact G.imp m hm i hi
theorem row_nb (G : Good l) {i : Int} (h0 : 0 <= i) (h1 : i < l.length) : (row (edgesOf l) i).map (nb l) = (asc (impsL l (dat (nb l i)))).map bz := by
 rw [row_es G h0 h1]
 unfold edgeOf
 rw [List.map_map]
 refine List.map_congr_left fun y hy => ?_
 exact (nb_rank G ((imps_in G _).1 y (mem_asc.1 hy))).2.2
theorem es_vld (G : Good l) : Vld (edgesOf l) := by
 intro v hv w hw
 have hv' : v < l.length := by have := hv.2; rw [es_len G] at this; exact this
 rw [row_es G hv.1 hv'] at hw
 unfold edgeOf at hw
 obtain ⟨y, hy, rfl⟩ := List.mem_map.1 hw
 have := nb_rank G ((imps_in G _).1 y (mem_asc.1 hy))
 exact ⟨this.1, by rw [es_len G]; exact this.2.1⟩
theorem row_len (G : Good l) {v : Int} (h0 : 0 <= v) (h1 : v < l.length) : (row (edgesOf l) v).length <= 100 := by
 rw [row_es G h0 h1]
 unfold edgeOf
 rw [List.length_map]
 exact Nat.le_trans (asc_len _) (imps_in G _).2
theorem es_sm (G : Good l) : Sm (edgesOf l) := by
 refine ⟨by rw [es_len G]; have := G.len; omega, fun j hj => ?_⟩
 rw [es_len G] at hj
 have := row_len G (v := (j : Int)) (by omega) (by omega)
 omega
theorem names_iota (G : Good l) : namesOf l = (iota l.length).map (nb l) := by
 have hlen : (namesOf l).length = l.length := by unfold namesOf; rw [List.length_map]; exact NL_len G
 refine List.ext_getElem (by rw [hlen, List.length_map, iota_length]) (fun i h1 h2 => ?_)
 rw [List.getElem_map]
 have e : (iota l.length)[i]'(by rw [iota_length]; omega) = (i : Int) := by simp [iota]
 rw [e]
 unfold nb
 simp [rdOf, List.getElem?_eq_getElem h1]
theorem names_len (G : Good l) : (namesOf l).length = l.length := by unfold namesOf; rw [List.length_map]; exact NL_len G
def VL (l : List S42) (L : List Int) : Prop := ∀ x ∈ L, 0 <= x /\ x < l.length
theorem VL.row (G : Good l) {v : Int} (h0 : 0 <= v) (h1 : v < l.length) : VL l (row (edgesOf l) v) := fun x hx => by
 have := es_vld G v ⟨h0, by rw [es_len G]; exact h1⟩ x hx
 unfold nd at this
 rw [es_len G] at this
 exact this
theorem mem_nb (G : Good l) {L : List Int} (hL : VL l L) {i : Int} (h0 : 0 <= i) (h1 : i < l.length) : nb l i ∈ L.map (nb l) ↔ i ∈ L := by
 constructor
 · intro h
   obtain ⟨j, hj, e⟩ := List.mem_map.1 h
   exact nb_inj G (hL j hj).1 (hL j hj).2 h0 h1 e ▸ hj
 · intro h
   exact List.mem_map.2 ⟨i, h, rfl⟩
theorem has_at (G : Good l) {L : List Int} (hL : VL l L) {i : Int} (h0 : 0 <= i) (h1 : i < l.length) (hl : L.length < 1000000) : Ev (fun k => q_Has.f k (L.map (nb l)) (nb l i)) (decide (i ∈ L)) := by
 have h := has_ev (L.map (nb l)) (nb l i) (by rw [List.length_map]; exact hl)
 rw [show decide (nb l i ∈ L.map (nb l)) = decide (i ∈ L) from decide_eq_decide.2 (mem_nb G hL h0 h1)] at h
 exact h
theorem imps_at (G : Good l) {i : Int} (h0 : 0 <= i) (h1 : i < l.length) : Ev (fun k => r_Imports.f k l (nb l i)) ((row (edgesOf l) i).map (nb l)) := by
 rw [row_nb G h0 h1]
 exact imps_ev l (nb l i) (by have := G.len; omega) (fun m hm => by have := G.few m hm; omega) G.nod
theorem names_at (G : Good l) : Ev (fun k => r_Names.f k l) ((iota l.length).map (nb l)) := by
 rw [<- names_iota G]
 exact names_ev l (by have := G.len; omega)
def insI (s : Int) : List Int -> List Int
 | [] => [s]
 | x :: l => if s < x then s :: x :: l else if s = x then x :: l else x :: insI s l
theorem mem_insI {s x : Int} : ∀ {L : List Int}, x ∈ insI s L ↔ x = s \/ x ∈ L := by
 intro L
 induction L with
 | nil => simp [insI]
 | cons y L ih =>
  unfold insI
  split
  · simp
  · split
    · rename_i h; subst h; simp
    · simp only [List.mem_cons, ih]
      constructor
      · rintro (h | h | h)
        · exact .inr (.inl h)
        · exact .inl h
        · exact .inr (.inr h)
      · rintro (h | h | h)
        · exact .inr (.inl h)
        · exact .inl h
        · exact .inr (.inr h)
theorem insI_lt (s : Int) : ∀ {L : List Int}, L.Pairwise (· < ·) -> (insI s L).Pairwise (· < ·) := by
 intro L
 induction L with
 | nil => intro _; simp [insI]
 | cons y L ih =>
  intro h
  rw [List.pairwise_cons] at h
  unfold insI
  split
  · rename_i h1
    rw [List.pairwise_cons]
    refine ⟨fun z hz => ?_, List.pairwise_cons.2 h⟩
    rcases List.mem_cons.1 hz with rfl | hz
    · exact h1
    · have := h.1 z hz; omega
  · split
    · exact List.pairwise_cons.2 h
    · rename_i h1 h2
      rw [List.pairwise_cons]
      refine ⟨fun z hz => ?_, ih h.2⟩
      rcases mem_insI.1 hz with rfl | hz
      · omega
      · exact h.1 z hz
theorem VL.insI {L : List Int} (hL : VL l L) {i : Int} (h0 : 0 <= i) (h1 : i < l.length) : VL l (insI i L) := fun x hx => by
 rcases mem_insI.1 hx with rfl | hx
 · exact ⟨h0, h1⟩
 · exact hL x hx
theorem insU_nb (G : Good l) {i : Int} (h0 : 0 <= i) (h1 : i < l.length) : ∀ {L : List Int}, VL l L -> insU (dat (nb l i)) (L.map (fun x => dat (nb l x))) = (insI i L).map (fun x => dat (nb l x)) := by
 intro L
 induction L with
 | nil => intro _; rfl
 | cons x L ih =>
  intro hL
  have hx := hL x (by simp)
  rw [List.map_cons, insU, insI]
  rcases Int.lt_trichotomy i x with e | e | e
  · rw [if_pos (nb_lt G h0 e hx.2), if_pos e]; rfl
  · subst e
    rw [if_neg (List.lt_irrefl _), if_pos rfl, if_neg (by omega), if_pos rfl]; rfl
  · have h2 := nb_lt G hx.1 e h1
    rw [if_neg (fun h => List.lt_irrefl _ (List.lt_trans h h2)), if_neg (fun h => by rw [h] at h2; exact List.lt_irrefl _ h2), if_neg (by omega), if_neg (by omega), ih (fun y hy => hL y (by simp [hy]))]
    rfl
theorem ins_at (G : Good l) {L : List Int} (hL : VL l L) {i : Int} (h0 : 0 <= i) (h1 : i < l.length) (hl : L.length < 1000000) : Ev (fun k => r_Insert.f k (L.map (nb l)) (nb l i)) ((insI i L).map (nb l)) := by
 have e : ∀ q : List Int, q.map (nb l) = (q.map (fun x => dat (nb l x))).map bz := fun q => by
  rw [List.map_map]
  exact List.map_congr_left fun x _ => (bz_dat _).symm
 have h := ins_ev (L.map (fun x => dat (nb l x))) (nb l i) (by rw [List.length_map]; exact hl)
 rw [insU_nb G h0 h1 hL, <- e, <- e] at h
 exact h
theorem rd_strs {L : List Int} (j : Nat) (h : j < L.length) : rdOf ByteArray.empty (L.map (nb l)) (j : Int) = nb l (rd L j) := by
 rw [rd_at L j h]
 simp [rdOf, List.getElem?_eq_getElem h]
theorem named_at (G : Good l) {L : List Int} (hL : VL l L) (hl : L.length < 1000000) : Ev (fun k => p_named.f k (namesOf l) (edgesOf l) L) (L.map (nb l)) := by
 have key : ∀ (m j : Nat) (R : List ByteArray), j + m = L.length -> R.length = j -> Ev (fun k => p_named.l0 k R L (L.length : Int) j (namesOf l) (edgesOf l)) (R ++ (L.drop j).map (nb l)) := by
  intro m
  induction m with
  | zero =>
   intro j R hj hR
   rw [List.drop_eq_nil_of_le (by omega), List.map_nil, List.append_nil]
   refine Ev.step (fun k => ?_) (Ev.now _)
   simp only [p_named.l0]
   rw [if_neg (by omega)]
  | succ m ih =>
   intro j R hj hR
   have hv := hL (rd L j) (by rw [rd_at L j (by omega)]; exact List.getElem_mem _)
   have h2 := ih (j + 1) (R ++ [nb l (rd L j)]) (by omega) (by simp; omega)
   rw [drop_row L j (by omega), List.map_cons]
   rw [List.append_assoc, List.singleton_append] at h2
   refine Ev.step (fun k => ?_) h2
   simp only [p_named.l0]
   rw [if_pos (by omega), if_pos (by omega), if_pos (by omega), if_pos hv.1, if_pos (by rw [names_len G]; exact hv.2), if_pos (by omega), succ_cast j (by omega)]
   rfl
 have h := key L.length 0 [] (by omega) rfl
 rw [List.drop_zero, List.nil_append] at h
 exact h
end
def Wk (es : List (List Int)) : Nat -> Int -> Int -> Prop
 | 0, a, b => a = b
 | m + 1, a, b => ∃ c ∈ row es a, Wk es m c b
section
variable {es : List (List Int)}
theorem wk_add {m n : Nat} {a b c : Int} (h : Wk es m a b) (h2 : Wk es n b c) : Wk es (m + n) a c := by
 induction m generalizing a with
 | zero => have e : a = b := h; subst e; rw [Nat.zero_add]; exact h2
 | succ m ih =>
  obtain ⟨x, hx, h⟩ := h
  rw [Nat.succ_add]
  exact ⟨x, hx, ih h⟩
theorem wk_split {m n : Nat} {a c : Int} (h : Wk es (m + n) a c) : ∃ b, Wk es m a b /\ Wk es n b c := by
 induction m generalizing a with
 | zero => rw [Nat.zero_add] at h; exact ⟨a, rfl, h⟩
 | succ m ih =>
  rw [Nat.succ_add] at h
  obtain ⟨x, hx, h⟩ := h
  obtain ⟨b, h1, h2⟩ := ih h
  exact ⟨b, ⟨x, hx, h1⟩, h2⟩
theorem wk_one {a b : Int} (h : b ∈ row es a) : Wk es 1 a b := ⟨b, h, rfl⟩
structure DL (es : List (List Int)) (t : Int) (dl : List Int) : Prop where
 len : dl.length = es.length
 non : ∀ v, nd es v -> rd dl v < 0 -> rd dl v = -1 /\ ∀ m, ¬ Wk es m v t
 has : ∀ v, nd es v -> 0 <= rd dl v -> Wk es (rd dl v).toNat v t /\ ∀ m, Wk es m v t -> rd dl v <= m
 up : ∀ v, nd es v -> rd dl v < es.length
structure DInv (es : List (List Int)) (t : Int) (d : List Int) : Prop where
 len : d.length = es.length
 nt : nd es t
 at0 : rd d t = 0
 low : ∀ v, nd es v -> -1 <= rd d v
 wk : ∀ v, nd es v -> 0 <= rd d v -> Wk es (rd d v).toNat v t
 up : ∀ v, nd es v -> rd d v + (d.count (-1) : Nat) < es.length
def mz (n : Nat) (x : Int) : Nat := if x < 0 then n else x.toNat
def Ms (n : Nat) (d : List Int) : Nat := (d.map (mz n)).sum
theorem ms_set (n : Nat) : ∀ (d : List Int) (i : Nat) (x : Int) (h : i < d.length), Ms n (d.set i x) + mz n d[i] = Ms n d + mz n x := by
 intro d
 induction d with
 | nil => intro i x h; cases h
 | cons y d ih =>
  intro i x h
  cases i with
  | zero => simp [Ms]; omega
  | succ i =>
   have := ih i x (by simpa using h)
   simp only [List.set_cons_succ, List.getElem_cons_succ]
   unfold Ms at this ⊢
   rw [List.map_cons, List.sum_cons, List.map_cons, List.sum_cons]
   omega
theorem count_set1 : ∀ (d : List Int) (i : Nat) (x : Int) (h : i < d.length), 0 <= x -> (d.set i x).count (-1) + (if d[i] = -1 then 1 else 0) = d.count (-1) := by
 intro d
 induction d with
 | nil => intro i x h; cases h
 | cons y d ih =>
  intro i x h hx
  cases i with
  | zero =>
   have hx1 : ¬ x = -1 := by omega
   simp [List.count_cons, hx1]
  | succ i =>
   have := ih i x (by simpa using h) hx
   simp only [List.set_cons_succ, List.getElem_cons_succ, List.count_cons]
   omega
theorem relax_inv {t : Int} {d : List Int} {v w : Int} (I : DInv es t d) (hv : nd es v) (hw : nd es w) (hvw : w ∈ row es v) (h0 : 0 <= rd d w) (h1 : rd d v < 0 \/ rd d v > rd d w + 1) :
 DInv es t (d.set v.toNat (rd d w + 1)) /\ Ms es.length (d.set v.toNat (rd d w + 1)) < Ms es.length d := by
 have hvl : v < d.length := by rw [I.len]; exact hv.2
 have hvn : v.toNat < d.length := by have := hv.1; omega
 have hrd : ∀ u, 0 <= u -> rd (d.set v.toNat (rd d w + 1)) u = if u = v then rd d w + 1 else rd d u := fun u hu => rd_set d v u _ hv.1 hvl hu
 have hgv : d[v.toNat] = rd d v := by
  rw [<- rd_at d v.toNat hvn, show ((v.toNat : Nat) : Int) = v by have := hv.1; omega]
 have hc := count_set1 d v.toNat (rd d w + 1) hvn (by omega)
 have hms := ms_set es.length d v.toNat (rd d w + 1) hvn
 rw [hgv] at hc hms
 have hlowv := I.low v hv
 have huw := I.up w hw
 have huv := I.up v hv
 refine ⟨⟨by rw [List.length_set]; exact I.len, I.nt, ?_, ?_, ?_, ?_⟩, ?_⟩
 · rw [hrd t I.nt.1, if_neg]
   · exact I.at0
   · rintro rfl
     have := I.at0
     omega
 · intro u hu
   rw [hrd u hu.1]
   split
   · omega
   · exact I.low u hu
 · intro u hu hu0
   rw [hrd u hu.1] at hu0 ⊢
   split
   · rename_i e
     subst e
     rw [show (rd d w + 1).toNat = (rd d w).toNat + 1 by omega]
     exact ⟨w, hvw, I.wk w hw h0⟩
   · rename_i e
     rw [if_neg e] at hu0
     exact I.wk u hu hu0
 · intro u hu
   have huu := I.up u hu
   rw [hrd u hu.1]
   split at hc
   · rename_i e
     split <;> omega
   · rename_i e
     split <;> omega
 · unfold mz at hms
   rw [if_neg (show ¬ rd d w + 1 < 0 by omega)] at hms
   split at hms
   · have : (rd d w + 1).toNat < es.length := by
      rw [if_pos (by omega)] at hc
      omega
     omega
   · omega
def okE (d : List Int) (u w : Int) : Prop := 0 <= rd d w -> 0 <= rd d u /\ rd d u <= rd d w + 1
theorem dl_of {t : Int} {d : List Int} (hvld : Vld es) (I : DInv es t d) (h : ∀ u, nd es u -> ∀ w ∈ row es u, okE d u w) : DL es t d := by
 have key : ∀ (m : Nat) (v : Int), nd es v -> Wk es m v t -> 0 <= rd d v /\ rd d v <= m := by
  intro m
  induction m with
  | zero =>
   intro v hv hw
   have e : v = t := hw
   rw [e, I.at0]
   omega
  | succ m ih =>
   rintro v hv ⟨c, hc, hw⟩
   obtain ⟨h1, h2⟩ := ih c (hvld v hv c hc) hw
   obtain ⟨h3, h4⟩ := h v hv c hc h1
   exact ⟨h3, by omega⟩
 refine ⟨I.len, fun v hv hn => ⟨by have := I.low v hv; omega, fun m hw => ?_⟩, fun v hv h0 => ⟨I.wk v hv h0, fun m hw => (key m v hv hw).2⟩, fun v hv => by have := I.up v hv; omega⟩
 have := (key m v hv hw).1
 omega
theorem pass_ev (names : List ByteArray) {t : Int} (hvld : Vld es) (hn : es.length <= 60) (hr : ∀ v, nd es v -> (row es v).length <= 2000) (M : Nat)
 (IH : ∀ d, DInv es t d -> Ms es.length d < M -> ∃ dl, DL es t dl /\ Ev (fun k => p_distances.l1 k d true names es) dl) :
 ∀ (m v : Nat), v + m = es.length -> ∀ (d : List Int) (b : Bool), DInv es t d -> (b = true -> Ms es.length d < M) -> (b = false -> Ms es.length d <= M /\ ∀ u, nd es u -> u < v -> ∀ w ∈ row es u, okE d u w) ->
  ∃ dl, DL es t dl /\ Ev (fun k => p_distances.l2 k d b es (es.length : Int) v names es) dl := by
 intro m
 induction m with
 | zero =>
  intro v hv d b I h1 h2
  cases b with
  | true =>
   obtain ⟨dl, g1, g2⟩ := IH d I (h1 rfl)
   refine ⟨dl, g1, Ev.step (fun k => ?_) g2⟩
   simp only [p_distances.l2]
   rw [if_neg (by omega)]
  | false =>
   refine ⟨d, dl_of hvld I (fun u hu => (h2 rfl).2 u hu (by have := hu.2; omega)), Ev.step (fun k => ?_) (Ev.step (g := fun k => p_distances.l1 k d false names es) (fun k => ?_) (Ev.now _))⟩
   · simp only [p_distances.l2]
     rw [if_neg (by omega)]
   · simp only [p_distances.l1]
     rw [if_neg (by simp)]
 | succ m ih =>
  intro v hv d b I h1 h2
  have hvn : nd es (v : Int) := ⟨by omega, by omega⟩
  have hrv := hr v hvn
  have inner : ∀ (q j : Nat), j + q = (row es v).length -> ∀ (d : List Int) (b : Bool), DInv es t d -> (b = true -> Ms es.length d < M) -> (b = false -> Ms es.length d <= M /\ (∀ u, nd es u -> u < v -> ∀ w ∈ row es u, okE d u w) /\ ∀ w ∈ (row es v).take j, okE d v w) ->
   ∃ dl, DL es t dl /\ Ev (fun k => p_distances.l3 k d b v es (es.length : Int) v (row es v) ((row es v).length : Int) j names es) dl := by
   intro q
   induction q with
   | zero =>
    intro j hj d b I h1 h2
    obtain ⟨dl, g1, g2⟩ := ih (v + 1) (by omega) d b I h1 (fun hb => ⟨(h2 hb).1, fun u hu huv w hw => by
     by_cases e : u < v
     · exact (h2 hb).2.1 u hu e w hw
     have e2 : u = v := by omega
     subst e2
     exact (h2 hb).2.2 w (by rw [List.take_of_length_le (by omega)]; exact hw)⟩)
    refine ⟨dl, g1, Ev.step (fun k => ?_) g2⟩
    simp only [p_distances.l3]
    rw [if_neg (by omega), succ_cast v (by omega)]
   | succ q ihq =>
    intro j hj d b I h1 h2
    have hwm : rd (row es v) j ∈ row es v := by rw [rd_at _ j (by omega)]; exact List.getElem_mem _
    have hw := hvld v hvn _ hwm
    have hdl := I.len
    have hwl : rd (row es v) j < (d.length : Int) := by rw [hdl]; exact hw.2
    have hup := I.up _ hw
    have htk : (row es v).take (j + 1) = (row es v).take j ++ [rd (row es v) j] := by
     rw [List.take_succ_eq_append_getElem (by omega), rd_at _ j (by omega)]
    by_cases c1 : rd d (rd (row es v) j) >= 0
    rotate_left
    · obtain ⟨dl, g1, g2⟩ := ihq (j + 1) (by omega) d b I h1 (fun hb => ⟨(h2 hb).1, (h2 hb).2.1, fun w hw2 => by
       rw [htk, List.mem_append, List.mem_singleton] at hw2
       rcases hw2 with hw2 | rfl
       · exact (h2 hb).2.2 w hw2
       · exact fun h => absurd h (by omega)⟩)
      refine ⟨dl, g1, Ev.step (fun k => ?_) g2⟩
      simp only [p_distances.l3]
      rw [if_pos (by omega), if_pos (by omega), if_pos (by omega), if_pos hw.1, if_pos hwl, if_neg c1, succ_cast j (by omega)]
    have hw64 : wrap64 (rd d (rd (row es v) j) + 1) = rd d (rd (row es v) j) + 1 := w64 _ (by omega) (by omega)
    by_cases c2 : rd d v < 0
    · obtain ⟨r1, r2⟩ := relax_inv I hvn hw hwm c1 (.inl c2)
      obtain ⟨dl, g1, g2⟩ := ihq (j + 1) (by omega) _ true r1 (fun _ => by
       cases b with
       | true => have := h1 rfl; omega
       | false => have := (h2 rfl).1; omega) (fun hb => by cases hb)
      refine ⟨dl, g1, Ev.step (fun k => ?_) g2⟩
      simp only [p_distances.l3]
      rw [if_pos (by omega), if_pos (by omega), if_pos (by omega), if_pos hw.1, if_pos hwl, if_pos c1, if_pos (by omega), if_pos (by omega), if_pos c2, succ_cast j (by omega), hw64]
    by_cases c3 : rd d v > rd d (rd (row es v) j) + 1
    · obtain ⟨r1, r2⟩ := relax_inv I hvn hw hwm c1 (.inr c3)
      obtain ⟨dl, g1, g2⟩ := ihq (j + 1) (by omega) _ true r1 (fun _ => by
       cases b with
       | true => have := h1 rfl; omega
       | false => have := (h2 rfl).1; omega) (fun hb => by cases hb)
      refine ⟨dl, g1, Ev.step (fun k => ?_) g2⟩
      simp only [p_distances.l3]
      rw [if_pos (by omega), if_pos (by omega), if_pos (by omega), if_pos hw.1, if_pos hwl, if_pos c1, if_pos (by omega), if_pos (by omega), if_neg c2, hw64, if_pos c3, succ_cast j (by omega)]
    obtain ⟨dl, g1, g2⟩ := ihq (j + 1) (by omega) d b I h1 (fun hb => ⟨(h2 hb).1, (h2 hb).2.1, fun w hw2 => by
     rw [htk, List.mem_append, List.mem_singleton] at hw2
     rcases hw2 with hw2 | rfl
     · exact (h2 hb).2.2 w hw2
     · exact fun _ => ⟨by omega, by omega⟩⟩)
    refine ⟨dl, g1, Ev.step (fun k => ?_) g2⟩
    simp only [p_distances.l3]
    rw [if_pos (by omega), if_pos (by omega), if_pos (by omega), if_pos hw.1, if_pos hwl, if_pos c1, if_pos (by omega), if_pos (by omega), if_neg c2, hw64, if_neg c3, succ_cast j (by omega)]
  obtain ⟨dl, g1, g2⟩ := inner (row es v).length 0 (by omega) d b I h1 (fun hb => ⟨(h2 hb).1, (h2 hb).2, fun w hw => by simp at hw⟩)
  refine ⟨dl, g1, Ev.step (fun k => ?_) g2⟩
  simp only [p_distances.l2]
  rw [if_pos (by omega), if_pos (by omega), if_pos (by omega), L1_row]
  rfl
theorem again_ev (names : List ByteArray) {t : Int} (hvld : Vld es) (hn : es.length <= 60) (hr : ∀ v, nd es v -> (row es v).length <= 2000) : ∀ (M : Nat) (d : List Int), DInv es t d -> Ms es.length d < M ->
 ∃ dl, DL es t dl /\ Ev (fun k => p_distances.l1 k d true names es) dl := by
 intro M
 induction M with
 | zero => intro d _ h; omega
 | succ M ih =>
  intro d I h
  obtain ⟨dl, g1, g2⟩ := pass_ev names hvld hn hr M ih es.length 0 (by omega) d false I (fun h => by cases h) (fun _ => ⟨by omega, fun u hu h0 => by have := hu.1; omega⟩)
  refine ⟨dl, g1, Ev.step (fun k => ?_) g2⟩
  simp only [p_distances.l1]
  rw [if_pos trivial]
  rfl
theorem init_dinv {t : Int} (ht : nd es t) : DInv es t ((List.replicate es.length (-1)).set t.toNat 0) := by
 have htl : t.toNat < (List.replicate es.length (-1 : Int)).length := by rw [List.length_replicate]; have := ht.1; have := ht.2; omega
 have hrd : ∀ u, nd es u -> rd ((List.replicate es.length (-1)).set t.toNat 0) u = if u = t then 0 else -1 := fun u hu => by
  rw [rd_set _ t u 0 ht.1 (by rw [List.length_replicate]; exact ht.2) hu.1, rd_rep _ _ u hu.1 hu.2]
 have hc := count_set1 (List.replicate es.length (-1)) t.toNat 0 htl (by omega)
 rw [List.getElem_replicate, if_pos rfl, List.count_replicate_self] at hc
 refine ⟨by rw [List.length_set, List.length_replicate], ht, by rw [hrd t ht, if_pos rfl], fun v hv => ?_, fun v hv h0 => ?_, fun v hv => ?_⟩
 · rw [hrd v hv]; split <;> omega
 · rw [hrd v hv] at h0 ⊢
   split at h0
   · rename_i e
     rw [if_pos e]
     exact e
   · omega
 · rw [hrd v hv]
   split <;> omega
theorem dist_ev (names : List ByteArray) {t : Int} (hvld : Vld es) (hn : es.length <= 60) (hr : ∀ v, nd es v -> (row es v).length <= 2000) (hnl : names.length = es.length) (ht : nd es t) :
 ∃ dl, DL es t dl /\ Ev (fun k => p_distances.f k names es t) dl := by
 obtain ⟨dl, g1, g2⟩ := again_ev names hvld hn hr _ _ (init_dinv ht) (Nat.lt_succ_self _)
 refine ⟨dl, g1, ?_⟩
 have fill : ∀ (m i : Nat), i + m = es.length -> Ev (fun k => p_distances.l0 k t (List.replicate i (-1) ++ List.replicate m 0) (es.length : Int) i names es) dl := by
  intro m
  induction m with
  | zero =>
   intro i hi
   rw [List.replicate_zero, List.append_nil]
   have e : i = es.length := by omega
   subst e
   refine Ev.step (fun k => ?_) g2
   simp only [p_distances.l0]
   rw [if_neg (by omega), if_pos ht.1, if_pos (by rw [List.length_replicate]; exact ht.2)]
  | succ m ih =>
   intro i hi
   refine Ev.step (fun k => ?_) (ih (i + 1) (by omega))
   simp only [p_distances.l0]
   rw [if_pos (by omega), if_pos (by omega), if_pos (by rw [List.length_append, List.length_replicate, List.length_replicate]; omega), succ_cast i (by omega)]
   congr 1
   rw [Int.toNat_natCast, List.set_append_right _ _ (by rw [List.length_replicate]; exact Nat.le_refl _), List.length_replicate, Nat.sub_self, List.replicate_succ, List.set_cons_zero, List.replicate_succ', List.append_assoc]
   rfl
 have h := fill es.length 0 (by omega)
 refine Ev.congr (fun k => ?_) h
 unfold p_distances.f
 rw [if_pos (by omega), if_pos (by omega), Option.bind_some, Int.toNat_natCast, List.length_replicate, hnl]
 rfl
end
end Tp
end Go.Proofs.Ytmadhaccjmakdaa
