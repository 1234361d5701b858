/- Part 2 of 6 of one proof: graph.ordered as a Lean function on lists -/
import Derived.Ground.Names2Prog
import Derived.Ground.SlgfProg
import Derived.Ground.SlsfProg
import Derived.Maps.OwnOps
import Derived.Maps.OwnSet
import Derived.Maps.RangeWalk
import Derived.Maps.Views
import Derived.Shelf.SlSortCmp.NoneTotal
import Derived.Shelf.Slices.Clone
import Derived.Shelf.SlicesE.DeleteFunc
import Derived.Shelf.Spec.SearchS
import Derived.Shelf.Spec.SlicesInsert
import Derived.Shelf.Spec.SlicesInsertGrow
import Derived.Sort.KeysCollected
import Derived.Sort.OwnSorted
import Derived.Sort.Walk0
import Derived.StringKeys
import Derived.Test.YtmadhaccjmakdaaProg
import Derived.Test.YtmadhaccjmakdaaMSorted1
set_option linter.unusedVariables false
set_option linter.unusedSimpArgs false
set_option maxHeartbeats 8000000
set_option maxRecDepth 100000
namespace Go.Proofs.Ytmadhaccjmakdaa.P
open Go.RowKit Go.Proofs.Yw.A Go.Proofs.Yw.A.Kd Go.Proofs.Yw.B Go.Proofs.Yw.C
attribute [local go_sem] str_gtr str_leq str_geq max2_int min2_int max_two min_two max_three min_three max_four min_four
mutual
noncomputable def p_distances.l0 : Nat -> Int -> List Int -> Int -> Int -> List ByteArray -> List (List Int) -> Option (List Int)
 | 0, _, _, _, _, _, _ => none
 | k + 1, x1, x5, x17, x18, x104000, x104001 => if x18 < x17 then (if 0 <= x18 then (if x18 < (x5.length : Int) then (p_distances.l0 k x1 (x5.set (x18 : Int).toNat (-1)) x17 (wrap64 (x18 + 1)) x104000 x104001) else (none)) else (none)) else (if 0 <= x1 then (if x1 < (x5.length : Int) then (p_distances.l1 k (x5.set (x1 : Int).toNat 0) true x104000 x104001) else (none)) else (none))
noncomputable def p_distances.l1 : Nat -> List Int -> Bool -> List ByteArray -> List (List Int) -> Option (List Int)
 | 0, _, _, _, _ => none
 | k + 1, x5, x7, x104000, x104001 => if x7 = true then (p_distances.l2 k x5 false x104001 (x104001.length : Int) 0 x104000 x104001) else (some x5)
noncomputable def p_distances.l2 : Nat -> List Int -> Bool -> List (List Int) -> Int -> Int -> List ByteArray -> List (List Int) -> Option (List Int)
 | 0, _, _, _, _, _, _, _ => none
 | k + 1, x5, x7, x31, x32, x33, x104000, x104001 => if x33 < x32 then (if 0 <= x33 then (if x33 < (x31.length : Int) then (p_distances.l3 k x5 x7 x33 x31 x32 x33 (rd_L11 x31 x33) ((rd_L11 x31 x33).length : Int) 0 x104000 x104001) else (none)) else (none)) else (p_distances.l1 k x5 x7 x104000 x104001)
noncomputable def p_distances.l3 : Nat -> List Int -> Bool -> Int -> List (List Int) -> Int -> Int -> List Int -> Int -> Int -> List ByteArray -> List (List Int) -> Option (List Int)
 | 0, _, _, _, _, _, _, _, _, _, _, _ => none
 | k + 1, x5, x7, x8, x31, x32, x33, x38, x39, x40, x104000, x104001 => if x40 < x39 then (if 0 <= x40 then (if x40 < (x38.length : Int) then (if 0 <= (rd x38 x40) then (if (rd x38 x40) < (x5.length : Int) then (if (rd x5 (rd x38 x40)) >= 0 then (if 0 <= x8 then (if x8 < (x5.length : Int) then (if (rd x5 x8) < 0 then (p_distances.l3 k (x5.set (x8 : Int).toNat (wrap64 ((rd x5 (rd x38 x40)) + 1))) true x8 x31 x32 x33 x38 x39 (wrap64 (x40 + 1)) x104000 x104001) else (if (rd x5 x8) > (wrap64 ((rd x5 (rd x38 x40)) + 1)) then (p_distances.l3 k (x5.set (x8 : Int).toNat (wrap64 ((rd x5 (rd x38 x40)) + 1))) true x8 x31 x32 x33 x38 x39 (wrap64 (x40 + 1)) x104000 x104001) else (p_distances.l3 k x5 x7 x8 x31 x32 x33 x38 x39 (wrap64 (x40 + 1)) x104000 x104001))) else (none)) else (none)) else (p_distances.l3 k x5 x7 x8 x31 x32 x33 x38 x39 (wrap64 (x40 + 1)) x104000 x104001)) else (none)) else (none)) else (none)) else (none)) else (p_distances.l2 k x5 x7 x31 x32 (wrap64 (x33 + 1)) x104000 x104001)
end
noncomputable def p_distances.f (k : Nat) (l0_0 : List ByteArray) (l0_1 : List (List Int)) (a1 : Int) : Option (List Int) := if 0 <= (l0_0.length : Int) then (if ((l0_0.length : Int) : Int).toNat <= 35184372088832 then ((some (List.replicate ((l0_0.length : Int) : Int).toNat 0 : List Int)).bind fun y104 => (p_distances.l0 k a1 y104 (y104.length : Int) 0 l0_0 l0_1)) else (none)) else (none)
theorem p_distances.calls (k : Nat) (A0_0 : Option Addr) (c0_0 : Nat) (l0_0 : List ByteArray) (A0_1 : Option Addr) (c0_1 : Nat) (l0_1 : List (List Int)) (a1 : Int) (r : List Int) (w : World) (hr0_0 : Kd.C Kd.string w A0_0 l0_0.length l0_0) (hc0_0 : l0_0.length <= c0_0) (hr0_1 : Kd.C (Kd.slice 3 (Kd.int .i64)) w A0_1 l0_1.length l0_1) (hc0_1 : l0_1.length <= c0_1) (h : p_distances.f k l0_0 l0_1 a1 = some r) :
 Calls Try.prog 48 #[.agg #[.slice A0_0 l0_0.length c0_0, .slice A0_1 l0_1.length c0_1], .int .i64 a1] w fun e w' => ∃ v0_ : Value, e = .returned (v0_) /\ Kd.R (Kd.int .i64) 3 w' w.heap.size (fun _ => True) v0_ r /\ Below w.heap.size w w' := by
 have hu51 := Try.underlying51
 have HR0_0 := aM hr0_0
 have HC0_0 := aM hc0_0
 clear hr0_0 hc0_0
 have HR0_1 := aM hr0_1
 have HC0_1 := aM hc0_1
 clear hr0_1 hc0_1
 have HB := aM (Below.refl w.heap.size w)
 have H : (if 0 <= (l0_0.length : Int) then (if ((l0_0.length : Int) : Int).toNat <= 35184372088832 then ((some (List.replicate ((l0_0.length : Int) : Int).toNat 0 : List Int)).bind fun y104 => (p_distances.l0 k a1 y104 (y104.length : Int) 0 l0_0 l0_1)) else (none)) else (none)) = some r := h
 clear h
 by_cases c3 : 0 <= (l0_0.length : Int)
 rotate_left
 · rw [if_neg c3] at H
   exact absurd H (by simp)
 rw [if_pos c3] at H
 have c3b0 := eq_true c3
 have c3b1 : decide (0 <= (l0_0.length : Int)) = true := decide_eq_true c3
 clear c3
 by_cases c4 : ((l0_0.length : Int) : Int).toNat <= 35184372088832
 rotate_left
 · rw [if_neg c4] at H
   exact absurd H (by simp)
 rw [if_pos c4] at H
 have c4b0 := eq_true c4
 have c4b1 : decide (((l0_0.length : Int) : Int).toNat <= 35184372088832) = true := decide_eq_true c4
 clear c4
 obtain ⟨y104, hy104⟩ : ∃ y_ : List Int, y_ = (List.replicate ((l0_0.length : Int) : Int).toNat 0) := ⟨_, rfl⟩
 replace H : (p_distances.l0 k a1 y104 (y104.length : Int) 0 l0_0 l0_1) = some r := by first | (rw [hy104]; with_reducible exact H) | (have H2_ := (Option.bind_some _ _).symm.trans H; rw [hy104]; with_reducible exact H2_) | (have H2_ := (Option.bind_some _ _).symm.trans H; with_reducible exact H2_) | with_reducible exact H | (rw [hy104]; exact H) | exact H
 have Ny104 := aM hy104
 clear hy104
 have H' := aM H
 clear H
 go_enter Try.func48, Try.ntmps48
 go_wp2_with (first | ((with_reducible refine gate_dst (N := 2) rfl ?_); refine be 2 rfl rfl #[.slice A0_0 l0_0.length c0_0, .slice A0_1 l0_1.length c0_1] 51 ?_; intro gb103 hg w5 hbox hb; have BK103 := aM hbox; have GE103 := gs hg HB; replace HB := bs HB hb; clear hb hbox hg; obtain ⟨hcz6_0, hcz6_1⟩ := cz2 BK103; obtain ⟨hfz6_0, hfz6_1⟩ := fz2 BK103) | ((with_reducible refine gate_dst (N := 15) rfl ?_); refine R_make (Kd.int .i64) _ 3 rfl (N := 15) rfl 55 _ _ rfl (l0_0.length : Int) rfl rfl Try.underlying55 (.int .i64 0) 8 info3 rfl (by decide) (by omega) 0 (ok := fun _ => True) (okp := fun _ => True) rfl (fun _ hk => hk) trivial (dt) (Nat.le_trans (Nat.mul_le_mul_right _ (dt : (l0_0.length : Int).toNat <= 35184372088832)) (by omega)) (Below.refl _ _) (Nat.le_refl _) ?_; intro v105 w7 ho8 hb hg_ hnew_; clear hg_ hnew_; (first | rw [<- Ny104.1] at ho8 | (simp only [Int.reduceToNat] at ho8; rw [<- Ny104.1] at ho8)); have HO106 := aM (R_lower ho8 (below_size (hh HB))); replace BK103 := kb BK103 hb; replace HB := bs HB hb; clear hb ho8; obtain ⟨Ao9, co9, eo9⟩ := R_slice HO106.1; subst eo9))
 repeat (go_quiet (first | ((with_reducible refine gate_dst (N := 2) rfl ?_); refine be 2 rfl rfl #[.slice A0_0 l0_0.length c0_0, .slice A0_1 l0_1.length c0_1] 51 ?_; intro gb103 hg w5 hbox hb; have BK103 := aM hbox; have GE103 := gs hg HB; replace HB := bs HB hb; clear hb hbox hg; obtain ⟨hcz6_0, hcz6_1⟩ := cz2 BK103; obtain ⟨hfz6_0, hfz6_1⟩ := fz2 BK103) | ((with_reducible refine gate_dst (N := 15) rfl ?_); refine R_make (Kd.int .i64) _ 3 rfl (N := 15) rfl 55 _ _ rfl (l0_0.length : Int) rfl rfl Try.underlying55 (.int .i64 0) 8 info3 rfl (by decide) (by omega) 0 (ok := fun _ => True) (okp := fun _ => True) rfl (fun _ hk => hk) trivial (dt) (Nat.le_trans (Nat.mul_le_mul_right _ (dt : (l0_0.length : Int).toNat <= 35184372088832)) (by omega)) (Below.refl _ _) (Nat.le_refl _) ?_; intro v105 w7 ho8 hb hg_ hnew_; clear hg_ hnew_; (first | rw [<- Ny104.1] at ho8 | (simp only [Int.reduceToNat] at ho8; rw [<- Ny104.1] at ho8)); have HO106 := aM (R_lower ho8 (below_size (hh HB))); replace BK103 := kb BK103 hb; replace HB := bs HB hb; clear hb ho8; obtain ⟨Ao9, co9, eo9⟩ := R_slice HO106.1; subst eo9)); try go_wp2_with (first | ((with_reducible refine gate_dst (N := 2) rfl ?_); refine be 2 rfl rfl #[.slice A0_0 l0_0.length c0_0, .slice A0_1 l0_1.length c0_1] 51 ?_; intro gb103 hg w5 hbox hb; have BK103 := aM hbox; have GE103 := gs hg HB; replace HB := bs HB hb; clear hb hbox hg; obtain ⟨hcz6_0, hcz6_1⟩ := cz2 BK103; obtain ⟨hfz6_0, hfz6_1⟩ := fz2 BK103) | ((with_reducible refine gate_dst (N := 15) rfl ?_); refine R_make (Kd.int .i64) _ 3 rfl (N := 15) rfl 55 _ _ rfl (l0_0.length : Int) rfl rfl Try.underlying55 (.int .i64 0) 8 info3 rfl (by decide) (by omega) 0 (ok := fun _ => True) (okp := fun _ => True) rfl (fun _ hk => hk) trivial (dt) (Nat.le_trans (Nat.mul_le_mul_right _ (dt : (l0_0.length : Int).toNat <= 35184372088832)) (by omega)) (Below.refl _ _) (Nat.le_refl _) ?_; intro v105 w7 ho8 hb hg_ hnew_; clear hg_ hnew_; (first | rw [<- Ny104.1] at ho8 | (simp only [Int.reduceToNat] at ho8; rw [<- Ny104.1] at ho8)); have HO106 := aM (R_lower ho8 (below_size (hh HB))); replace BK103 := kb BK103 hb; replace HB := bs HB hb; clear hb ho8; obtain ⟨Ao9, co9, eo9⟩ := R_slice HO106.1; subst eo9)))
 go_loopg [18] k (fun kq v18 w' => ∃ (x5_1 : List Int) (x18_1 : Int), v18 = .int .i64 x18_1 /\ Az (p_distances.l0 kq a1 x5_1 (y104.length : Int) x18_1 l0_0 l0_1 = some r) /\ Az (kq <= k) /\ Az (Kd.R (Kd.int .i64) 3 w' w.heap.size (fun _ => True) (.slice Ao9 y104.length co9) x5_1) /\ Az (w'.heap[gb103]? = some (.cells #[(.slice A0_0 l0_0.length c0_0), (.slice A0_1 l0_1.length c0_1)] 51 (0, 0))) /\ Az (Below w.heap.size w w'))
 case atStart => exact ⟨(y104), (0), rr, H', ⟨Nat.le_refl _⟩, ⟨rk HO106⟩, ⟨kk BK103⟩, ⟨hh HB⟩⟩
 case round =>
  clear H'
  clear c3b0 c3b1 c4b0 c4b1 hcz6_0 hcz6_1 hfz6_0 hfz6_1
  obtain ⟨x5_1, x18_1, rfl, HA, HK1, HO_5, BK103, HB⟩ := hrel
  have hl5_1 := (R_reads' HO_5.1).1
  rw [hl5_1] at HO_5
  (try simp only [hl5_1])
  (try simp only [hl5_1] at BK103)
  cases gk with
  | zero => exact absurd HA.1 (by simp [p_distances.l0])
  | succ k1 =>
   have H := HA.1
   clear HA
   simp only [p_distances.l0] at H
   by_cases c10 : x18_1 < (y104.length : Int)
   · rw [if_pos c10] at H
     have c10b0 : decide (x18_1 < (y104.length : Int)) = true := decide_eq_true c10
     try (have c10b9 := c10b0; rw [hl5_1] at c10b9)
     clear c10
     by_cases c11 : 0 <= x18_1
     rotate_left
     · rw [if_neg c11] at H
       exact absurd H (by simp)
     rw [if_pos c11] at H
     have c11b0 : decide (0 <= x18_1) = true := decide_eq_true c11
     clear c11
     by_cases c12 : x18_1 < (x5_1.length : Int)
     rotate_left
     · rw [if_neg c12] at H
       exact absurd H (by simp)
     rw [if_pos c12] at H
     have c12b0 : decide (x18_1 < (x5_1.length : Int)) = true := decide_eq_true c12
     clear c12
     obtain ⟨y107, hy107⟩ : ∃ y_ : List Int, y_ = (x5_1.set (x18_1 : Int).toNat (-1)) := ⟨_, rfl⟩
     replace H : (p_distances.l0 k1 a1 y107 (y104.length : Int) (wrap64 (x18_1 + 1)) l0_0 l0_1) = some r := by first | (rw [hy107]; with_reducible exact H) | (have H2_ := (Option.bind_some _ _).symm.trans H; rw [hy107]; with_reducible exact H2_) | (have H2_ := (Option.bind_some _ _).symm.trans H; with_reducible exact H2_) | with_reducible exact H | (rw [hy107]; exact H) | exact H
     have Ny107 := aM hy107
     clear hy107
     have H' := aM H
     clear H
     have p13 : 0 <= (x18_1 : Int) := dt
     have q13 : (x18_1 : Int) < ((x5_1.length : Int) : Int) := dt
     obtain ⟨go13, co13, eo13, gb13, gl13, cl13, HG13⟩ := R_form HO_5.1 (by omega)
     (first | cases eo13 | (injection eo13 with ea_ en_ ec_; (first | subst ea_ | (injection ea_ with ea_; subst ea_)); subst ec_; clear en_))
     have GB13 := aM gb13
     have GG13 := aM HG13
     clear gb13 gl13 HG13
     obtain ⟨hx13_0, hf13_0⟩ := R_celln 0 HO_5.1 (x18_1 : Int) p13 q13
     replace p13 := eq_true p13
     replace q13 := eq_true q13
     have HP14 := R_putg HO_5.1 (x18_1 : Int) (-1)
     go_wp2_with (first | ((with_reducible refine gate_store (t := 3) (p := 23) rfl ?_); (try (rw [drewN_self wr]; generalize hq_ : World.drewN wr _ = wr; have n0_ := aM (R_at hq_ HO_5.1); have n1_ := aM (blk_at hq_ BK103.1); have n2_ := aM (below_at hq_ HB.1); clear hq_ HO_5 BK103 HB; have HO_5 := n0_; have BK103 := n1_; have HB := n2_; clear n0_ n1_ n2_; (try (obtain ⟨hx13_0, hf13_0⟩ := R_celln 0 HO_5.1 (x18_1 : Int) (of_eq_true p13) (of_eq_true q13))); (try (have HP14 := R_putg HO_5.1 (x18_1 : Int) (-1))))); refine store_event (t := 3) (p := 23) (v := ?vo_w15) (w1 := (wr.setCell ⟨go13, (x18_1 : Int).toNat, none⟩ (.int .i64 (-1)))) ?hg ?ho ?hn ?hr ?_; (case ho => rfl); (case hg => rfl); (case hn => rfl); (case hr => first | (go_simp; done) | (go_simp; rfl)); intro w15 hw; have hg : wr.grownBy w15 (some go13) := (by rw [hw]; exact HP14.2); have hp_ : Kd.R (Kd.int .i64) 3 w15 w.heap.size (fun _ => True) (.slice (some ⟨go13, 0, none⟩) x5_1.length co9) y107 := (by rw [hw, Ny107.1]; exact HP14.1); clear HP14; replace BK103 := aM (blk_grown (g := gb103) (o := .cells #[.slice A0_0 l0_0.length c0_0, .slice A0_1 l0_1.length c0_1] 51 (0, 0)) (kk BK103) hg (R_ne HO_5.1 BK103.1 (by decide))); replace HO_5 := aM (hp_); replace HB := aM ((by rw [hw]; exact below_set (HB.1) GB13.1 : Below w.heap.size w w15)); clear hg hw hp_))
     repeat (go_quiet (first | ((with_reducible refine gate_store (t := 3) (p := 23) rfl ?_); (try (rw [drewN_self wr]; generalize hq_ : World.drewN wr _ = wr; have n0_ := aM (R_at hq_ HO_5.1); have n1_ := aM (blk_at hq_ BK103.1); have n2_ := aM (below_at hq_ HB.1); clear hq_ HO_5 BK103 HB; have HO_5 := n0_; have BK103 := n1_; have HB := n2_; clear n0_ n1_ n2_; (try (obtain ⟨hx13_0, hf13_0⟩ := R_celln 0 HO_5.1 (x18_1 : Int) (of_eq_true p13) (of_eq_true q13))); (try (have HP14 := R_putg HO_5.1 (x18_1 : Int) (-1))))); refine store_event (t := 3) (p := 23) (v := ?vo_w15) (w1 := (wr.setCell ⟨go13, (x18_1 : Int).toNat, none⟩ (.int .i64 (-1)))) ?hg ?ho ?hn ?hr ?_; (case ho => rfl); (case hg => rfl); (case hn => rfl); (case hr => first | (go_simp; done) | (go_simp; rfl)); intro w15 hw; have hg : wr.grownBy w15 (some go13) := (by rw [hw]; exact HP14.2); have hp_ : Kd.R (Kd.int .i64) 3 w15 w.heap.size (fun _ => True) (.slice (some ⟨go13, 0, none⟩) x5_1.length co9) y107 := (by rw [hw, Ny107.1]; exact HP14.1); clear HP14; replace BK103 := aM (blk_grown (g := gb103) (o := .cells #[.slice A0_0 l0_0.length c0_0, .slice A0_1 l0_1.length c0_1] 51 (0, 0)) (kk BK103) hg (R_ne HO_5.1 BK103.1 (by decide))); replace HO_5 := aM (hp_); replace HB := aM ((by rw [hw]; exact below_set (HB.1) GB13.1 : Below w.heap.size w w15)); clear hg hw hp_)); try go_wp2_with (first | ((with_reducible refine gate_store (t := 3) (p := 23) rfl ?_); (try (rw [drewN_self wr]; generalize hq_ : World.drewN wr _ = wr; have n0_ := aM (R_at hq_ HO_5.1); have n1_ := aM (blk_at hq_ BK103.1); have n2_ := aM (below_at hq_ HB.1); clear hq_ HO_5 BK103 HB; have HO_5 := n0_; have BK103 := n1_; have HB := n2_; clear n0_ n1_ n2_; (try (obtain ⟨hx13_0, hf13_0⟩ := R_celln 0 HO_5.1 (x18_1 : Int) (of_eq_true p13) (of_eq_true q13))); (try (have HP14 := R_putg HO_5.1 (x18_1 : Int) (-1))))); refine store_event (t := 3) (p := 23) (v := ?vo_w15) (w1 := (wr.setCell ⟨go13, (x18_1 : Int).toNat, none⟩ (.int .i64 (-1)))) ?hg ?ho ?hn ?hr ?_; (case ho => rfl); (case hg => rfl); (case hn => rfl); (case hr => first | (go_simp; done) | (go_simp; rfl)); intro w15 hw; have hg : wr.grownBy w15 (some go13) := (by rw [hw]; exact HP14.2); have hp_ : Kd.R (Kd.int .i64) 3 w15 w.heap.size (fun _ => True) (.slice (some ⟨go13, 0, none⟩) x5_1.length co9) y107 := (by rw [hw, Ny107.1]; exact HP14.1); clear HP14; replace BK103 := aM (blk_grown (g := gb103) (o := .cells #[.slice A0_0 l0_0.length c0_0, .slice A0_1 l0_1.length c0_1] 51 (0, 0)) (kk BK103) hg (R_ne HO_5.1 BK103.1 (by decide))); replace HO_5 := aM (hp_); replace HB := aM ((by rw [hw]; exact below_set (HB.1) GB13.1 : Below w.heap.size w w15)); clear hg hw hp_)))
     (try simp only [<- hl5_1])
     go_roundg k1
     case measure => have := HK1.1; omega
     case rel => exact ⟨(y107), (wrap64 (x18_1 + 1)), rr, H', ⟨by have := HK1.1; omega⟩, ⟨by (try simp only [hl5_1]); (with_reducible repeat (first | apply R_alloc | apply R_drewN | apply R_drew)); exact HO_5.1⟩, ⟨by (try simp only [hl5_1]); (with_reducible repeat (first | refine kN ?_ _ | refine kD ?_ | refine kA ?_ _)); exact BK103.1⟩, ⟨hh HB⟩⟩
   rw [if_neg c10] at H
   have c10b0 : decide (x18_1 < (y104.length : Int)) = false := decide_eq_false c10
   try (have c10b9 := c10b0; rw [hl5_1] at c10b9)
   clear c10
   by_cases c16 : 0 <= a1
   rotate_left
   · rw [if_neg c16] at H
     exact absurd H (by simp)
   rw [if_pos c16] at H
   have c16b0 : decide (0 <= a1) = true := decide_eq_true c16
   clear c16
   by_cases c17 : a1 < (x5_1.length : Int)
   rotate_left
   · rw [if_neg c17] at H
     exact absurd H (by simp)
   rw [if_pos c17] at H
   have c17b0 : decide (a1 < (x5_1.length : Int)) = true := decide_eq_true c17
   clear c17
   obtain ⟨y108, hy108⟩ : ∃ y_ : List Int, y_ = (x5_1.set (a1 : Int).toNat 0) := ⟨_, rfl⟩
   replace H : (p_distances.l1 k1 y108 true l0_0 l0_1) = some r := by first | (rw [hy108]; with_reducible exact H) | (have H2_ := (Option.bind_some _ _).symm.trans H; rw [hy108]; with_reducible exact H2_) | (have H2_ := (Option.bind_some _ _).symm.trans H; with_reducible exact H2_) | with_reducible exact H | (rw [hy108]; exact H) | exact H
   have Ny108 := aM hy108
   clear hy108
   have H' := aM H
   clear H
   have p18 : 0 <= (a1 : Int) := dt
   have q18 : (a1 : Int) < ((x5_1.length : Int) : Int) := dt
   obtain ⟨go18, co18, eo18, gb18, gl18, cl18, HG18⟩ := R_form HO_5.1 (by omega)
   (first | cases eo18 | (injection eo18 with ea_ en_ ec_; (first | subst ea_ | (injection ea_ with ea_; subst ea_)); subst ec_; clear en_))
   have GB18 := aM gb18
   have GG18 := aM HG18
   clear gb18 gl18 HG18
   obtain ⟨hx18_0, hf18_0⟩ := R_celln 0 HO_5.1 (a1 : Int) p18 q18
   replace p18 := eq_true p18
   replace q18 := eq_true q18
   have HP19 := R_putg HO_5.1 (a1 : Int) 0
   go_wp2_with (first | ((with_reducible refine gate_store (t := 3) (p := 27) rfl ?_); (try (rw [drewN_self wr]; generalize hq_ : World.drewN wr _ = wr; have n0_ := aM (R_at hq_ HO_5.1); have n1_ := aM (blk_at hq_ BK103.1); have n2_ := aM (below_at hq_ HB.1); clear hq_ HO_5 BK103 HB; have HO_5 := n0_; have BK103 := n1_; have HB := n2_; clear n0_ n1_ n2_; (try (obtain ⟨hx18_0, hf18_0⟩ := R_celln 0 HO_5.1 (a1 : Int) (of_eq_true p18) (of_eq_true q18))); (try (have HP19 := R_putg HO_5.1 (a1 : Int) 0)))); refine store_event (t := 3) (p := 27) (v := ?vo_w20) (w1 := (wr.setCell ⟨go18, (a1 : Int).toNat, none⟩ (.int .i64 0))) ?hg ?ho ?hn ?hr ?_; (case ho => rfl); (case hg => rfl); (case hn => rfl); (case hr => first | (go_simp; done) | (go_simp; rfl)); intro w20 hw; have hg : wr.grownBy w20 (some go18) := (by rw [hw]; exact HP19.2); have hp_ : Kd.R (Kd.int .i64) 3 w20 w.heap.size (fun _ => True) (.slice (some ⟨go18, 0, none⟩) x5_1.length co9) y108 := (by rw [hw, Ny108.1]; exact HP19.1); clear HP19; replace BK103 := aM (blk_grown (g := gb103) (o := .cells #[.slice A0_0 l0_0.length c0_0, .slice A0_1 l0_1.length c0_1] 51 (0, 0)) (kk BK103) hg (R_ne HO_5.1 BK103.1 (by decide))); replace HO_5 := aM (hp_); replace HB := aM ((by rw [hw]; exact below_set (HB.1) GB18.1 : Below w.heap.size w w20)); clear hg hw hp_))
   repeat (go_quiet (first | ((with_reducible refine gate_store (t := 3) (p := 27) rfl ?_); (try (rw [drewN_self wr]; generalize hq_ : World.drewN wr _ = wr; have n0_ := aM (R_at hq_ HO_5.1); have n1_ := aM (blk_at hq_ BK103.1); have n2_ := aM (below_at hq_ HB.1); clear hq_ HO_5 BK103 HB; have HO_5 := n0_; have BK103 := n1_; have HB := n2_; clear n0_ n1_ n2_; (try (obtain ⟨hx18_0, hf18_0⟩ := R_celln 0 HO_5.1 (a1 : Int) (of_eq_true p18) (of_eq_true q18))); (try (have HP19 := R_putg HO_5.1 (a1 : Int) 0)))); refine store_event (t := 3) (p := 27) (v := ?vo_w20) (w1 := (wr.setCell ⟨go18, (a1 : Int).toNat, none⟩ (.int .i64 0))) ?hg ?ho ?hn ?hr ?_; (case ho => rfl); (case hg => rfl); (case hn => rfl); (case hr => first | (go_simp; done) | (go_simp; rfl)); intro w20 hw; have hg : wr.grownBy w20 (some go18) := (by rw [hw]; exact HP19.2); have hp_ : Kd.R (Kd.int .i64) 3 w20 w.heap.size (fun _ => True) (.slice (some ⟨go18, 0, none⟩) x5_1.length co9) y108 := (by rw [hw, Ny108.1]; exact HP19.1); clear HP19; replace BK103 := aM (blk_grown (g := gb103) (o := .cells #[.slice A0_0 l0_0.length c0_0, .slice A0_1 l0_1.length c0_1] 51 (0, 0)) (kk BK103) hg (R_ne HO_5.1 BK103.1 (by decide))); replace HO_5 := aM (hp_); replace HB := aM ((by rw [hw]; exact below_set (HB.1) GB18.1 : Below w.heap.size w w20)); clear hg hw hp_)); try go_wp2_with (first | ((with_reducible refine gate_store (t := 3) (p := 27) rfl ?_); (try (rw [drewN_self wr]; generalize hq_ : World.drewN wr _ = wr; have n0_ := aM (R_at hq_ HO_5.1); have n1_ := aM (blk_at hq_ BK103.1); have n2_ := aM (below_at hq_ HB.1); clear hq_ HO_5 BK103 HB; have HO_5 := n0_; have BK103 := n1_; have HB := n2_; clear n0_ n1_ n2_; (try (obtain ⟨hx18_0, hf18_0⟩ := R_celln 0 HO_5.1 (a1 : Int) (of_eq_true p18) (of_eq_true q18))); (try (have HP19 := R_putg HO_5.1 (a1 : Int) 0)))); refine store_event (t := 3) (p := 27) (v := ?vo_w20) (w1 := (wr.setCell ⟨go18, (a1 : Int).toNat, none⟩ (.int .i64 0))) ?hg ?ho ?hn ?hr ?_; (case ho => rfl); (case hg => rfl); (case hn => rfl); (case hr => first | (go_simp; done) | (go_simp; rfl)); intro w20 hw; have hg : wr.grownBy w20 (some go18) := (by rw [hw]; exact HP19.2); have hp_ : Kd.R (Kd.int .i64) 3 w20 w.heap.size (fun _ => True) (.slice (some ⟨go18, 0, none⟩) x5_1.length co9) y108 := (by rw [hw, Ny108.1]; exact HP19.1); clear HP19; replace BK103 := aM (blk_grown (g := gb103) (o := .cells #[.slice A0_0 l0_0.length c0_0, .slice A0_1 l0_1.length c0_1] 51 (0, 0)) (kk BK103) hg (R_ne HO_5.1 BK103.1 (by decide))); replace HO_5 := aM (hp_); replace HB := aM ((by rw [hw]; exact below_set (HB.1) GB18.1 : Below w.heap.size w w20)); clear hg hw hp_)))
   go_loopg [7] k1 (fun kq v7 w' => ∃ (x5_2 : List Int) (x7_2 : Bool), v7 = .bool x7_2 /\ Az (p_distances.l1 kq x5_2 x7_2 l0_0 l0_1 = some r) /\ Az (kq <= k1) /\ Az (Kd.R (Kd.int .i64) 3 w' w.heap.size (fun _ => True) (.slice (some ⟨go18, 0, none⟩) x5_1.length co9) x5_2) /\ Az (w'.heap[gb103]? = some (.cells #[(.slice A0_0 l0_0.length c0_0), (.slice A0_1 l0_1.length c0_1)] 51 (0, 0))) /\ Az (Below w.heap.size w w'))
   case atStart => exact ⟨(y108), (true), rr, H', ⟨Nat.le_refl _⟩, ⟨by (try simp only [hl5_1]); (with_reducible repeat (first | apply R_alloc | apply R_drewN | apply R_drew)); exact HO_5.1⟩, ⟨by (try simp only [hl5_1]); (with_reducible repeat (first | refine kN ?_ _ | refine kD ?_ | refine kA ?_ _)); exact BK103.1⟩, ⟨hh HB⟩⟩
   case round =>
    clear H'
    clear c10b0 c16b0 c17b0 p18 q18 hx18_0
    obtain ⟨x5_2, x7_2, rfl, HA, HK2, HO_5, BK103, HB⟩ := hrel
    have hl5_2 := (R_reads' HO_5.1).1
    rw [hl5_2] at HO_5
    (try simp only [hl5_2])
    (try simp only [hl5_2] at BK103)
    cases gk with
    | zero => exact absurd HA.1 (by simp [p_distances.l1])
    | succ k2 =>
     have H := HA.1
     clear HA
     simp only [p_distances.l1] at H
     by_cases c21 : x7_2 = true
     rotate_left
     · replace c21 := Bool.eq_false_iff.mpr c21
       subst c21
       rw [if_neg (show ¬ (false = true) by decide)] at H
       obtain rfl := Option.some.inj H
       go_wp2
       repeat (go_quiet (fail); try go_wp2)
       go_ret
       exact ⟨_, by first | rfl | (simp [errW_none, errW_some] <;> rfl) | (simp [*, errW_none, errW_some] <;> rfl), rk HO_5, hh HB⟩
     subst c21
     rw [if_pos rfl] at H
     have H' := aM H
     clear H
     obtain ⟨hcz22_0, hcz22_1⟩ := cz2 BK103
     obtain ⟨hfz22_0, hfz22_1⟩ := fz2 BK103
     go_wp2
     repeat (go_quiet (fail); try go_wp2)
     go_loopg [7, 33] k2 (fun kq v7 v33 w' => ∃ (x5_3 : List Int) (x7_3 : Bool) (x33_3 : Int), v7 = .bool x7_3 /\ v33 = .int .i64 x33_3 /\ Az (p_distances.l2 kq x5_3 x7_3 l0_1 (l0_1.length : Int) x33_3 l0_0 l0_1 = some r) /\ Az (kq <= k2) /\ Az (Kd.R (Kd.int .i64) 3 w' w.heap.size (fun _ => True) (.slice (some ⟨go18, 0, none⟩) x5_2.length co9) x5_3) /\ Az (w'.heap[gb103]? = some (.cells #[(.slice A0_0 l0_0.length c0_0), (.slice A0_1 l0_1.length c0_1)] 51 (0, 0))) /\ Az (Below w.heap.size w w'))
     case atStart => exact ⟨(x5_2), (false), (0), rr, rr, H', ⟨Nat.le_refl _⟩, ⟨by (try simp only [hl5_1]); (try simp only [hl5_2]); (with_reducible repeat (first | apply R_alloc | apply R_drewN | apply R_drew)); exact HO_5.1⟩, ⟨by (try simp only [hl5_1]); (try simp only [hl5_2]); (with_reducible repeat (first | refine kN ?_ _ | refine kD ?_ | refine kA ?_ _)); exact BK103.1⟩, ⟨hh HB⟩⟩
     case round =>
      clear H'
      clear hcz22_0 hcz22_1 hfz22_0 hfz22_1
      obtain ⟨x5_3, x7_3, x33_3, rfl, rfl, HA, HK3, HO_5, BK103, HB⟩ := hrel
      have hl5_3 := (R_reads' HO_5.1).1
      rw [hl5_3] at HO_5
      (try simp only [hl5_3])
      (try simp only [hl5_3] at BK103)
      cases gk with
      | zero => exact absurd HA.1 (by simp [p_distances.l2])
      | succ k3 =>
       have H := HA.1
       clear HA
       simp only [p_distances.l2] at H
       by_cases c23 : x33_3 < (l0_1.length : Int)
       rotate_left
       · rw [if_neg c23] at H
         have c23b0 : decide (x33_3 < (l0_1.length : Int)) = false := decide_eq_false c23
         clear c23
         have H' := aM H
         clear H
         go_wp2
         repeat (go_quiet (fail); try go_wp2)
         (try simp only [<- hl5_2, <- hl5_3])
         go_roundg k3
         case measure => have := HK1.1; have := HK2.1; have := HK3.1; omega
         case rel => exact ⟨(x5_3), (x7_3), rr, H', ⟨by have := HK1.1; have := HK2.1; have := HK3.1; omega⟩, ⟨by (try simp only [hl5_1]); (try simp only [hl5_2]); (try simp only [hl5_3]); (with_reducible repeat (first | apply R_alloc | apply R_drewN | apply R_drew)); exact HO_5.1⟩, ⟨by (try simp only [hl5_1]); (try simp only [hl5_2]); (try simp only [hl5_3]); (with_reducible repeat (first | refine kN ?_ _ | refine kD ?_ | refine kA ?_ _)); exact BK103.1⟩, ⟨hh HB⟩⟩
       rw [if_pos c23] at H
       have c23b0 : decide (x33_3 < (l0_1.length : Int)) = true := decide_eq_true c23
       clear c23
       by_cases c24 : 0 <= x33_3
       rotate_left
       · rw [if_neg c24] at H
         exact absurd H (by simp)
       rw [if_pos c24] at H
       have c24b0 : decide (0 <= x33_3) = true := decide_eq_true c24
       clear c24
       by_cases c25 : x33_3 < (l0_1.length : Int)
       rotate_left
       · rw [if_neg c25] at H
         exact absurd H (by simp)
       rw [if_pos c25] at H
       have c25b0 : decide (x33_3 < (l0_1.length : Int)) = true := decide_eq_true c25
       clear c25
       have H' := aM H
       clear H
       have p109 : 0 <= (x33_3 : Int) := dt
       have q109 : x33_3 < (l0_1.length : Int) := dt
       obtain ⟨ad109, A109_0, c109_0, e109, hx109_0, hl109_0, hi109_0⟩ := at_L11 HR0_1.1 x33_3 p109 q109
       cases e109
       replace hx109_0 := hx HB hx109_0
       have HR109_0 := aM hi109_0
       have HC109_0 := aM hl109_0
       clear hi109_0 hl109_0
       replace p109 := eq_true p109
       replace q109 := eq_true q109
       go_wp2
       repeat (go_quiet (fail); try go_wp2)
       go_loopg [7, 40] k3 (fun kq v7 v40 w' => ∃ (x5_4 : List Int) (x7_4 : Bool) (x40_4 : Int), v7 = .bool x7_4 /\ v40 = .int .i64 x40_4 /\ Az (p_distances.l3 kq x5_4 x7_4 x33_3 l0_1 (l0_1.length : Int) x33_3 (rd_L11 l0_1 x33_3) ((rd_L11 l0_1 x33_3).length : Int) x40_4 l0_0 l0_1 = some r) /\ Az (kq <= k3) /\ Az (Kd.R (Kd.int .i64) 3 w' w.heap.size (fun _ => True) (.slice (some ⟨go18, 0, none⟩) x5_3.length co9) x5_4) /\ Az (w'.heap[gb103]? = some (.cells #[(.slice A0_0 l0_0.length c0_0), (.slice (some ad109) l0_1.length c0_1)] 51 (0, 0))) /\ Az (Below w.heap.size w w'))
       case atStart => exact ⟨(x5_3), (x7_3), (0), rr, rr, H', ⟨Nat.le_refl _⟩, ⟨by (try simp only [hl5_1]); (try simp only [hl5_2]); (try simp only [hl5_3]); (with_reducible repeat (first | apply R_alloc | apply R_drewN | apply R_drew)); exact HO_5.1⟩, ⟨by (try simp only [hl5_1]); (try simp only [hl5_2]); (try simp only [hl5_3]); (with_reducible repeat (first | refine kN ?_ _ | refine kD ?_ | refine kA ?_ _)); exact BK103.1⟩, ⟨hh HB⟩⟩
       case round =>
        clear H'
        clear c23b0 c24b0 c25b0 hx109_0 p109 q109
        obtain ⟨x5_4, x7_4, x40_4, rfl, rfl, HA, HK4, HO_5, BK103, HB⟩ := hrel
        have hl5_4 := (R_reads' HO_5.1).1
        rw [hl5_4] at HO_5
        (try simp only [hl5_4])
        (try simp only [hl5_4] at BK103)
        cases gk with
        | zero => exact absurd HA.1 (by simp [p_distances.l3])
        | succ k4 =>
         have H := HA.1
         clear HA
         simp only [p_distances.l3] at H
         by_cases c26 : x40_4 < ((rd_L11 l0_1 x33_3).length : Int)
         rotate_left
         · rw [if_neg c26] at H
           have c26b0 : decide (x40_4 < ((rd_L11 l0_1 x33_3).length : Int)) = false := decide_eq_false c26
           clear c26
           have H' := aM H
           clear H
           go_wp2
           repeat (go_quiet (fail); try go_wp2)
           (try simp only [<- hl5_3, <- hl5_4])
           go_roundg k4
           case measure => have := HK1.1; have := HK2.1; have := HK3.1; have := HK4.1; omega
           case rel => exact ⟨(x5_4), (x7_4), (wrap64 (x33_3 + 1)), rr, rr, H', ⟨by have := HK1.1; have := HK2.1; have := HK3.1; have := HK4.1; omega⟩, ⟨by (try simp only [hl5_1]); (try simp only [hl5_2]); (try simp only [hl5_3]); (try simp only [hl5_4]); (with_reducible repeat (first | apply R_alloc | apply R_drewN | apply R_drew)); exact HO_5.1⟩, ⟨by (try simp only [hl5_1]); (try simp only [hl5_2]); (try simp only [hl5_3]); (try simp only [hl5_4]); (with_reducible repeat (first | refine kN ?_ _ | refine kD ?_ | refine kA ?_ _)); exact BK103.1⟩, ⟨hh HB⟩⟩
         rw [if_pos c26] at H
         have c26b0 : decide (x40_4 < ((rd_L11 l0_1 x33_3).length : Int)) = true := decide_eq_true c26
         clear c26
         by_cases c27 : 0 <= x40_4
         rotate_left
         · rw [if_neg c27] at H
           exact absurd H (by simp)
         rw [if_pos c27] at H
         have c27b0 : decide (0 <= x40_4) = true := decide_eq_true c27
         clear c27
         by_cases c28 : x40_4 < ((rd_L11 l0_1 x33_3).length : Int)
         rotate_left
         · rw [if_neg c28] at H
           exact absurd H (by simp)
         rw [if_pos c28] at H
         have c28b0 : decide (x40_4 < ((rd_L11 l0_1 x33_3).length : Int)) = true := decide_eq_true c28
         clear c28
         by_cases c29 : 0 <= (rd (rd_L11 l0_1 x33_3) x40_4)
         rotate_left
         · rw [if_neg c29] at H
           exact absurd H (by simp)
         rw [if_pos c29] at H
         have c29b0 : decide (0 <= (rd (rd_L11 l0_1 x33_3) x40_4)) = true := decide_eq_true c29
         clear c29
         by_cases c30 : (rd (rd_L11 l0_1 x33_3) x40_4) < (x5_4.length : Int)
         rotate_left
         · rw [if_neg c30] at H
           exact absurd H (by simp)
         rw [if_pos c30] at H
         have c30b0 : decide ((rd (rd_L11 l0_1 x33_3) x40_4) < (x5_4.length : Int)) = true := decide_eq_true c30
         clear c30
         by_cases c31 : (rd x5_4 (rd (rd_L11 l0_1 x33_3) x40_4)) >= 0
         rotate_left
         · rw [if_neg c31] at H
           have c31b0 : decide (0 <= (rd x5_4 (rd (rd_L11 l0_1 x33_3) x40_4))) = false := decide_eq_false c31
           clear c31
           have H' := aM H
           clear H
           have p110 : 0 <= (x40_4 : Int) := dt
           have q110 : x40_4 < ((rd_L11 l0_1 x33_3).length : Int) := dt
           obtain ⟨ad110, e110, hx110_0⟩ := Kd.at_int HR109_0.1 x40_4 p110 q110
           cases e110
           replace hx110_0 := hx HB hx110_0
           replace p110 := eq_true p110
           replace q110 := eq_true q110
           have p111 : 0 <= ((rd (rd_L11 l0_1 x33_3) x40_4) : Int) := dt
           have q111 : (rd (rd_L11 l0_1 x33_3) x40_4) < (x5_4.length : Int) := dt
           obtain ⟨ad111, e111, hx111_0⟩ := Kd.at_int (R_reads' HO_5.1).2.2 (rd (rd_L11 l0_1 x33_3) x40_4) p111 q111
           obtain rfl : (⟨go18, 0, none⟩ : Addr) = ad111 := (by injection e111)
           (first | simp only [add_plain] at hx111_0 | simp only [add_at] at hx111_0 | simp only [Addr.add, Nat.zero_add] at hx111_0 | skip)
           replace p111 := eq_true p111
           replace q111 := eq_true q111
           go_wp2
           repeat (go_quiet (fail); try go_wp2)
           (try simp only [<- hl5_4])
           go_roundg k4
           case measure => have := HK1.1; have := HK2.1; have := HK3.1; have := HK4.1; omega
           case rel => exact ⟨(x5_4), (x7_4), (wrap64 (x40_4 + 1)), rr, rr, H', ⟨by have := HK1.1; have := HK2.1; have := HK3.1; have := HK4.1; omega⟩, ⟨by (try simp only [hl5_1]); (try simp only [hl5_2]); (try simp only [hl5_3]); (try simp only [hl5_4]); (with_reducible repeat (first | apply R_alloc | apply R_drewN | apply R_drew)); exact HO_5.1⟩, ⟨by (try simp only [hl5_1]); (try simp only [hl5_2]); (try simp only [hl5_3]); (try simp only [hl5_4]); (with_reducible repeat (first | refine kN ?_ _ | refine kD ?_ | refine kA ?_ _)); exact BK103.1⟩, ⟨hh HB⟩⟩
         rw [if_pos c31] at H
         have c31b0 : decide (0 <= (rd x5_4 (rd (rd_L11 l0_1 x33_3) x40_4))) = true := decide_eq_true c31
         clear c31
         by_cases c32 : 0 <= x33_3
         rotate_left
         · rw [if_neg c32] at H
           exact absurd H (by simp)
         rw [if_pos c32] at H
         have c32b0 : decide (0 <= x33_3) = true := decide_eq_true c32
         clear c32
         by_cases c33 : x33_3 < (x5_4.length : Int)
         rotate_left
         · rw [if_neg c33] at H
           exact absurd H (by simp)
         rw [if_pos c33] at H
         have c33b0 : decide (x33_3 < (x5_4.length : Int)) = true := decide_eq_true c33
         clear c33
         by_cases c34 : (rd x5_4 x33_3) < 0
         · rw [if_pos c34] at H
           have c34b0 : decide ((rd x5_4 x33_3) < 0) = true := decide_eq_true c34
           clear c34
           obtain ⟨y114, hy114⟩ : ∃ y_ : List Int, y_ = (x5_4.set (x33_3 : Int).toNat (wrap64 ((rd x5_4 (rd (rd_L11 l0_1 x33_3) x40_4)) + 1))) := ⟨_, rfl⟩
           replace H : (p_distances.l3 k4 y114 true x33_3 l0_1 (l0_1.length : Int) x33_3 (rd_L11 l0_1 x33_3) ((rd_L11 l0_1 x33_3).length : Int) (wrap64 (x40_4 + 1)) l0_0 l0_1) = some r := by first | (rw [hy114]; with_reducible exact H) | (have H2_ := (Option.bind_some _ _).symm.trans H; rw [hy114]; with_reducible exact H2_) | (have H2_ := (Option.bind_some _ _).symm.trans H; with_reducible exact H2_) | with_reducible exact H | (rw [hy114]; exact H) | exact H
           have Ny114 := aM hy114
           clear hy114
           have H' := aM H
           clear H
           have p110 : 0 <= (x40_4 : Int) := dt
           have q110 : x40_4 < ((rd_L11 l0_1 x33_3).length : Int) := dt
           obtain ⟨ad110, e110, hx110_0⟩ := Kd.at_int HR109_0.1 x40_4 p110 q110
           cases e110
           replace hx110_0 := hx HB hx110_0
           replace p110 := eq_true p110
           replace q110 := eq_true q110
           have p111 : 0 <= ((rd (rd_L11 l0_1 x33_3) x40_4) : Int) := dt
           have q111 : (rd (rd_L11 l0_1 x33_3) x40_4) < (x5_4.length : Int) := dt
           obtain ⟨ad111, e111, hx111_0⟩ := Kd.at_int (R_reads' HO_5.1).2.2 (rd (rd_L11 l0_1 x33_3) x40_4) p111 q111
           obtain rfl : (⟨go18, 0, none⟩ : Addr) = ad111 := (by injection e111)
           (first | simp only [add_plain] at hx111_0 | simp only [add_at] at hx111_0 | simp only [Addr.add, Nat.zero_add] at hx111_0 | skip)
           replace p111 := eq_true p111
           replace q111 := eq_true q111
           have p112 : 0 <= (x33_3 : Int) := dt
           have q112 : x33_3 < (x5_4.length : Int) := dt
           obtain ⟨ad112, e112, hx112_0⟩ := Kd.at_int (R_reads' HO_5.1).2.2 x33_3 p112 q112
           obtain rfl : (⟨go18, 0, none⟩ : Addr) = ad112 := (by injection e112)
           (first | simp only [add_plain] at hx112_0 | simp only [add_at] at hx112_0 | simp only [Addr.add, Nat.zero_add] at hx112_0 | skip)
           replace p112 := eq_true p112
           replace q112 := eq_true q112
           have p113 : 0 <= ((rd (rd_L11 l0_1 x33_3) x40_4) : Int) := dt
           have q113 : (rd (rd_L11 l0_1 x33_3) x40_4) < (x5_4.length : Int) := dt
           obtain ⟨ad113, e113, hx113_0⟩ := Kd.at_int (R_reads' HO_5.1).2.2 (rd (rd_L11 l0_1 x33_3) x40_4) p113 q113
           obtain rfl : (⟨go18, 0, none⟩ : Addr) = ad113 := (by injection e113)
           (first | simp only [add_plain] at hx113_0 | simp only [add_at] at hx113_0 | simp only [Addr.add, Nat.zero_add] at hx113_0 | skip)
           replace p113 := eq_true p113
           replace q113 := eq_true q113
           have p35 : 0 <= (x33_3 : Int) := dt
           have q35 : (x33_3 : Int) < ((x5_4.length : Int) : Int) := dt
           obtain ⟨hx35_0, hf35_0⟩ := R_celln 0 HO_5.1 (x33_3 : Int) p35 q35
           replace p35 := eq_true p35
           replace q35 := eq_true q35
           have HP36 := R_putg HO_5.1 (x33_3 : Int) (wrap64 ((rd x5_4 (rd (rd_L11 l0_1 x33_3) x40_4)) + 1))
           go_wp2_with (first | ((with_reducible refine gate_store (t := 3) (p := 75) rfl ?_); (try (rw [drewN_self wr]; generalize hq_ : World.drewN wr _ = wr; have n0_ := aM (R_at hq_ HO_5.1); have n1_ := aM (blk_at hq_ BK103.1); have n2_ := aM (below_at hq_ HB.1); clear hq_ HO_5 BK103 HB; have HO_5 := n0_; have BK103 := n1_; have HB := n2_; clear n0_ n1_ n2_; (try (obtain ⟨hx35_0, hf35_0⟩ := R_celln 0 HO_5.1 (x33_3 : Int) (of_eq_true p35) (of_eq_true q35))); (try (have HP36 := R_putg HO_5.1 (x33_3 : Int) (wrap64 ((rd x5_4 (rd (rd_L11 l0_1 x33_3) x40_4)) + 1)))))); refine store_event (t := 3) (p := 75) (v := ?vo_w37) (w1 := (wr.setCell ⟨go18, (x33_3 : Int).toNat, none⟩ (.int .i64 (wrap64 ((rd x5_4 (rd (rd_L11 l0_1 x33_3) x40_4)) + 1))))) ?hg ?ho ?hn ?hr ?_; (case ho => rfl); (case hg => rfl); (case hn => rfl); (case hr => first | (go_simp; done) | (go_simp; rfl)); intro w37 hw; have hg : wr.grownBy w37 (some go18) := (by rw [hw]; exact HP36.2); have hp_ : Kd.R (Kd.int .i64) 3 w37 w.heap.size (fun _ => True) (.slice (some ⟨go18, 0, none⟩) x5_4.length co9) y114 := (by rw [hw, Ny114.1]; exact HP36.1); clear HP36; replace BK103 := aM (blk_grown (g := gb103) (o := .cells #[.slice A0_0 l0_0.length c0_0, .slice (some ad109) l0_1.length c0_1] 51 (0, 0)) (kk BK103) hg (R_ne HO_5.1 BK103.1 (by decide))); replace HO_5 := aM (hp_); replace HB := aM ((by rw [hw]; exact below_set (HB.1) GB18.1 : Below w.heap.size w w37)); clear hg hw hp_))
           repeat (go_quiet (first | ((with_reducible refine gate_store (t := 3) (p := 75) rfl ?_); (try (rw [drewN_self wr]; generalize hq_ : World.drewN wr _ = wr; have n0_ := aM (R_at hq_ HO_5.1); have n1_ := aM (blk_at hq_ BK103.1); have n2_ := aM (below_at hq_ HB.1); clear hq_ HO_5 BK103 HB; have HO_5 := n0_; have BK103 := n1_; have HB := n2_; clear n0_ n1_ n2_; (try (obtain ⟨hx35_0, hf35_0⟩ := R_celln 0 HO_5.1 (x33_3 : Int) (of_eq_true p35) (of_eq_true q35))); (try (have HP36 := R_putg HO_5.1 (x33_3 : Int) (wrap64 ((rd x5_4 (rd (rd_L11 l0_1 x33_3) x40_4)) + 1)))))); refine store_event (t := 3) (p := 75) (v := ?vo_w37) (w1 := (wr.setCell ⟨go18, (x33_3 : Int).toNat, none⟩ (.int .i64 (wrap64 ((rd x5_4 (rd (rd_L11 l0_1 x33_3) x40_4)) + 1))))) ?hg ?ho ?hn ?hr ?_; (case ho => rfl); (case hg => rfl); (case hn => rfl); (case hr => first | (go_simp; done) | (go_simp; rfl)); intro w37 hw; have hg : wr.grownBy w37 (some go18) := (by rw [hw]; exact HP36.2); have hp_ : Kd.R (Kd.int .i64) 3 w37 w.heap.size (fun _ => True) (.slice (some ⟨go18, 0, none⟩) x5_4.length co9) y114 := (by rw [hw, Ny114.1]; exact HP36.1); clear HP36; replace BK103 := aM (blk_grown (g := gb103) (o := .cells #[.slice A0_0 l0_0.length c0_0, .slice (some ad109) l0_1.length c0_1] 51 (0, 0)) (kk BK103) hg (R_ne HO_5.1 BK103.1 (by decide))); replace HO_5 := aM (hp_); replace HB := aM ((by rw [hw]; exact below_set (HB.1) GB18.1 : Below w.heap.size w w37)); clear hg hw hp_)); try go_wp2_with (first | ((with_reducible refine gate_store (t := 3) (p := 75) rfl ?_); (try (rw [drewN_self wr]; generalize hq_ : World.drewN wr _ = wr; have n0_ := aM (R_at hq_ HO_5.1); have n1_ := aM (blk_at hq_ BK103.1); have n2_ := aM (below_at hq_ HB.1); clear hq_ HO_5 BK103 HB; have HO_5 := n0_; have BK103 := n1_; have HB := n2_; clear n0_ n1_ n2_; (try (obtain ⟨hx35_0, hf35_0⟩ := R_celln 0 HO_5.1 (x33_3 : Int) (of_eq_true p35) (of_eq_true q35))); (try (have HP36 := R_putg HO_5.1 (x33_3 : Int) (wrap64 ((rd x5_4 (rd (rd_L11 l0_1 x33_3) x40_4)) + 1)))))); refine store_event (t := 3) (p := 75) (v := ?vo_w37) (w1 := (wr.setCell ⟨go18, (x33_3 : Int).toNat, none⟩ (.int .i64 (wrap64 ((rd x5_4 (rd (rd_L11 l0_1 x33_3) x40_4)) + 1))))) ?hg ?ho ?hn ?hr ?_; (case ho => rfl); (case hg => rfl); (case hn => rfl); (case hr => first | (go_simp; done) | (go_simp; rfl)); intro w37 hw; have hg : wr.grownBy w37 (some go18) := (by rw [hw]; exact HP36.2); have hp_ : Kd.R (Kd.int .i64) 3 w37 w.heap.size (fun _ => True) (.slice (some ⟨go18, 0, none⟩) x5_4.length co9) y114 := (by rw [hw, Ny114.1]; exact HP36.1); clear HP36; replace BK103 := aM (blk_grown (g := gb103) (o := .cells #[.slice A0_0 l0_0.length c0_0, .slice (some ad109) l0_1.length c0_1] 51 (0, 0)) (kk BK103) hg (R_ne HO_5.1 BK103.1 (by decide))); replace HO_5 := aM (hp_); replace HB := aM ((by rw [hw]; exact below_set (HB.1) GB18.1 : Below w.heap.size w w37)); clear hg hw hp_)))
           (try simp only [<- hl5_4])
           go_roundg k4
           case measure => have := HK1.1; have := HK2.1; have := HK3.1; have := HK4.1; omega
           case rel => exact ⟨(y114), (true), (wrap64 (x40_4 + 1)), rr, rr, H', ⟨by have := HK1.1; have := HK2.1; have := HK3.1; have := HK4.1; omega⟩, ⟨by (try simp only [hl5_1]); (try simp only [hl5_2]); (try simp only [hl5_3]); (try simp only [hl5_4]); (with_reducible repeat (first | apply R_alloc | apply R_drewN | apply R_drew)); exact HO_5.1⟩, ⟨by (try simp only [hl5_1]); (try simp only [hl5_2]); (try simp only [hl5_3]); (try simp only [hl5_4]); (with_reducible repeat (first | refine kN ?_ _ | refine kD ?_ | refine kA ?_ _)); exact BK103.1⟩, ⟨hh HB⟩⟩
         rw [if_neg c34] at H
         have c34b0 : decide ((rd x5_4 x33_3) < 0) = false := decide_eq_false c34
         clear c34
         by_cases c38 : (rd x5_4 x33_3) > (wrap64 ((rd x5_4 (rd (rd_L11 l0_1 x33_3) x40_4)) + 1))
         rotate_left
         · rw [if_neg c38] at H
           have c38b0 : decide ((wrap64 ((rd x5_4 (rd (rd_L11 l0_1 x33_3) x40_4)) + 1)) < (rd x5_4 x33_3)) = false := decide_eq_false c38
           clear c38
           have H' := aM H
           clear H
           have p110 : 0 <= (x40_4 : Int) := dt
           have q110 : x40_4 < ((rd_L11 l0_1 x33_3).length : Int) := dt
           obtain ⟨ad110, e110, hx110_0⟩ := Kd.at_int HR109_0.1 x40_4 p110 q110
           cases e110
           replace hx110_0 := hx HB hx110_0
           replace p110 := eq_true p110
           replace q110 := eq_true q110
           have p111 : 0 <= ((rd (rd_L11 l0_1 x33_3) x40_4) : Int) := dt
           have q111 : (rd (rd_L11 l0_1 x33_3) x40_4) < (x5_4.length : Int) := dt
           obtain ⟨ad111, e111, hx111_0⟩ := Kd.at_int (R_reads' HO_5.1).2.2 (rd (rd_L11 l0_1 x33_3) x40_4) p111 q111
           obtain rfl : (⟨go18, 0, none⟩ : Addr) = ad111 := (by injection e111)
           (first | simp only [add_plain] at hx111_0 | simp only [add_at] at hx111_0 | simp only [Addr.add, Nat.zero_add] at hx111_0 | skip)
           replace p111 := eq_true p111
           replace q111 := eq_true q111
           have p112 : 0 <= (x33_3 : Int) := dt
           have q112 : x33_3 < (x5_4.length : Int) := dt
           obtain ⟨ad112, e112, hx112_0⟩ := Kd.at_int (R_reads' HO_5.1).2.2 x33_3 p112 q112
           obtain rfl : (⟨go18, 0, none⟩ : Addr) = ad112 := (by injection e112)
           (first | simp only [add_plain] at hx112_0 | simp only [add_at] at hx112_0 | simp only [Addr.add, Nat.zero_add] at hx112_0 | skip)
           replace p112 := eq_true p112
           replace q112 := eq_true q112
           have p115 : 0 <= (x33_3 : Int) := dt
           have q115 : x33_3 < (x5_4.length : Int) := dt
           obtain ⟨ad115, e115, hx115_0⟩ := Kd.at_int (R_reads' HO_5.1).2.2 x33_3 p115 q115
           obtain rfl : (⟨go18, 0, none⟩ : Addr) = ad115 := (by injection e115)
           (first | simp only [add_plain] at hx115_0 | simp only [add_at] at hx115_0 | simp only [Addr.add, Nat.zero_add] at hx115_0 | skip)
           replace p115 := eq_true p115
           replace q115 := eq_true q115
           have p116 : 0 <= ((rd (rd_L11 l0_1 x33_3) x40_4) : Int) := dt
           have q116 : (rd (rd_L11 l0_1 x33_3) x40_4) < (x5_4.length : Int) := dt
           obtain ⟨ad116, e116, hx116_0⟩ := Kd.at_int (R_reads' HO_5.1).2.2 (rd (rd_L11 l0_1 x33_3) x40_4) p116 q116
           obtain rfl : (⟨go18, 0, none⟩ : Addr) = ad116 := (by injection e116)
           (first | simp only [add_plain] at hx116_0 | simp only [add_at] at hx116_0 | simp only [Addr.add, Nat.zero_add] at hx116_0 | skip)
           replace p116 := eq_true p116
           replace q116 := eq_true q116
           go_wp2
           repeat (go_quiet (fail); try go_wp2)
           (try simp only [<- hl5_4])
           go_roundg k4
           case measure => have := HK1.1; have := HK2.1; have := HK3.1; have := HK4.1; omega
           case rel => exact ⟨(x5_4), (x7_4), (wrap64 (x40_4 + 1)), rr, rr, H', ⟨by have := HK1.1; have := HK2.1; have := HK3.1; have := HK4.1; omega⟩, ⟨by (try simp only [hl5_1]); (try simp only [hl5_2]); (try simp only [hl5_3]); (try simp only [hl5_4]); (with_reducible repeat (first | apply R_alloc | apply R_drewN | apply R_drew)); exact HO_5.1⟩, ⟨by (try simp only [hl5_1]); (try simp only [hl5_2]); (try simp only [hl5_3]); (try simp only [hl5_4]); (with_reducible repeat (first | refine kN ?_ _ | refine kD ?_ | refine kA ?_ _)); exact BK103.1⟩, ⟨hh HB⟩⟩
         rw [if_pos c38] at H
         have c38b0 : decide ((wrap64 ((rd x5_4 (rd (rd_L11 l0_1 x33_3) x40_4)) + 1)) < (rd x5_4 x33_3)) = true := decide_eq_true c38
         clear c38
         obtain ⟨y118, hy118⟩ : ∃ y_ : List Int, y_ = (x5_4.set (x33_3 : Int).toNat (wrap64 ((rd x5_4 (rd (rd_L11 l0_1 x33_3) x40_4)) + 1))) := ⟨_, rfl⟩
         replace H : (p_distances.l3 k4 y118 true x33_3 l0_1 (l0_1.length : Int) x33_3 (rd_L11 l0_1 x33_3) ((rd_L11 l0_1 x33_3).length : Int) (wrap64 (x40_4 + 1)) l0_0 l0_1) = some r := by first | (rw [hy118]; with_reducible exact H) | (have H2_ := (Option.bind_some _ _).symm.trans H; rw [hy118]; with_reducible exact H2_) | (have H2_ := (Option.bind_some _ _).symm.trans H; with_reducible exact H2_) | with_reducible exact H | (rw [hy118]; exact H) | exact H
         have Ny118 := aM hy118
         clear hy118
         have H' := aM H
         clear H
         have p110 : 0 <= (x40_4 : Int) := dt
         have q110 : x40_4 < ((rd_L11 l0_1 x33_3).length : Int) := dt
         obtain ⟨ad110, e110, hx110_0⟩ := Kd.at_int HR109_0.1 x40_4 p110 q110
         cases e110
         replace hx110_0 := hx HB hx110_0
         replace p110 := eq_true p110
         replace q110 := eq_true q110
         have p111 : 0 <= ((rd (rd_L11 l0_1 x33_3) x40_4) : Int) := dt
         have q111 : (rd (rd_L11 l0_1 x33_3) x40_4) < (x5_4.length : Int) := dt
         obtain ⟨ad111, e111, hx111_0⟩ := Kd.at_int (R_reads' HO_5.1).2.2 (rd (rd_L11 l0_1 x33_3) x40_4) p111 q111
         obtain rfl : (⟨go18, 0, none⟩ : Addr) = ad111 := (by injection e111)
         (first | simp only [add_plain] at hx111_0 | simp only [add_at] at hx111_0 | simp only [Addr.add, Nat.zero_add] at hx111_0 | skip)
         replace p111 := eq_true p111
         replace q111 := eq_true q111
         have p112 : 0 <= (x33_3 : Int) := dt
         have q112 : x33_3 < (x5_4.length : Int) := dt
         obtain ⟨ad112, e112, hx112_0⟩ := Kd.at_int (R_reads' HO_5.1).2.2 x33_3 p112 q112
         obtain rfl : (⟨go18, 0, none⟩ : Addr) = ad112 := (by injection e112)
         (first | simp only [add_plain] at hx112_0 | simp only [add_at] at hx112_0 | simp only [Addr.add, Nat.zero_add] at hx112_0 | skip)
         replace p112 := eq_true p112
         replace q112 := eq_true q112
         have p115 : 0 <= (x33_3 : Int) := dt
         have q115 : x33_3 < (x5_4.length : Int) := dt
         obtain ⟨ad115, e115, hx115_0⟩ := Kd.at_int (R_reads' HO_5.1).2.2 x33_3 p115 q115
         obtain rfl : (⟨go18, 0, none⟩ : Addr) = ad115 := (by injection e115)
         (first | simp only [add_plain] at hx115_0 | simp only [add_at] at hx115_0 | simp only [Addr.add, Nat.zero_add] at hx115_0 | skip)
         replace p115 := eq_true p115
         replace q115 := eq_true q115
         have p116 : 0 <= ((rd (rd_L11 l0_1 x33_3) x40_4) : Int) := dt
         have q116 : (rd (rd_L11 l0_1 x33_3) x40_4) < (x5_4.length : Int) := dt
         obtain ⟨ad116, e116, hx116_0⟩ := Kd.at_int (R_reads' HO_5.1).2.2 (rd (rd_L11 l0_1 x33_3) x40_4) p116 q116
         obtain rfl : (⟨go18, 0, none⟩ : Addr) = ad116 := (by injection e116)
         (first | simp only [add_plain] at hx116_0 | simp only [add_at] at hx116_0 | simp only [Addr.add, Nat.zero_add] at hx116_0 | skip)
         replace p116 := eq_true p116
         replace q116 := eq_true q116
         have p117 : 0 <= ((rd (rd_L11 l0_1 x33_3) x40_4) : Int) := dt
         have q117 : (rd (rd_L11 l0_1 x33_3) x40_4) < (x5_4.length : Int) := dt
         obtain ⟨ad117, e117, hx117_0⟩ := Kd.at_int (R_reads' HO_5.1).2.2 (rd (rd_L11 l0_1 x33_3) x40_4) p117 q117
         obtain rfl : (⟨go18, 0, none⟩ : Addr) = ad117 := (by injection e117)
         (first | simp only [add_plain] at hx117_0 | simp only [add_at] at hx117_0 | simp only [Addr.add, Nat.zero_add] at hx117_0 | skip)
         replace p117 := eq_true p117
         replace q117 := eq_true q117
         have p39 : 0 <= (x33_3 : Int) := dt
         have q39 : (x33_3 : Int) < ((x5_4.length : Int) : Int) := dt
         obtain ⟨hx39_0, hf39_0⟩ := R_celln 0 HO_5.1 (x33_3 : Int) p39 q39
         replace p39 := eq_true p39
         replace q39 := eq_true q39
         have HP40 := R_putg HO_5.1 (x33_3 : Int) (wrap64 ((rd x5_4 (rd (rd_L11 l0_1 x33_3) x40_4)) + 1))
         go_wp2_with (first | ((with_reducible refine gate_store (t := 3) (p := 75) rfl ?_); (try (rw [drewN_self wr]; generalize hq_ : World.drewN wr _ = wr; have n0_ := aM (R_at hq_ HO_5.1); have n1_ := aM (blk_at hq_ BK103.1); have n2_ := aM (below_at hq_ HB.1); clear hq_ HO_5 BK103 HB; have HO_5 := n0_; have BK103 := n1_; have HB := n2_; clear n0_ n1_ n2_; (try (obtain ⟨hx39_0, hf39_0⟩ := R_celln 0 HO_5.1 (x33_3 : Int) (of_eq_true p39) (of_eq_true q39))); (try (have HP40 := R_putg HO_5.1 (x33_3 : Int) (wrap64 ((rd x5_4 (rd (rd_L11 l0_1 x33_3) x40_4)) + 1)))))); refine store_event (t := 3) (p := 75) (v := ?vo_w41) (w1 := (wr.setCell ⟨go18, (x33_3 : Int).toNat, none⟩ (.int .i64 (wrap64 ((rd x5_4 (rd (rd_L11 l0_1 x33_3) x40_4)) + 1))))) ?hg ?ho ?hn ?hr ?_; (case ho => rfl); (case hg => rfl); (case hn => rfl); (case hr => first | (go_simp; done) | (go_simp; rfl)); intro w41 hw; have hg : wr.grownBy w41 (some go18) := (by rw [hw]; exact HP40.2); have hp_ : Kd.R (Kd.int .i64) 3 w41 w.heap.size (fun _ => True) (.slice (some ⟨go18, 0, none⟩) x5_4.length co9) y118 := (by rw [hw, Ny118.1]; exact HP40.1); clear HP40; replace BK103 := aM (blk_grown (g := gb103) (o := .cells #[.slice A0_0 l0_0.length c0_0, .slice (some ad109) l0_1.length c0_1] 51 (0, 0)) (kk BK103) hg (R_ne HO_5.1 BK103.1 (by decide))); replace HO_5 := aM (hp_); replace HB := aM ((by rw [hw]; exact below_set (HB.1) GB18.1 : Below w.heap.size w w41)); clear hg hw hp_))
         repeat (go_quiet (first | ((with_reducible refine gate_store (t := 3) (p := 75) rfl ?_); (try (rw [drewN_self wr]; generalize hq_ : World.drewN wr _ = wr; have n0_ := aM (R_at hq_ HO_5.1); have n1_ := aM (blk_at hq_ BK103.1); have n2_ := aM (below_at hq_ HB.1); clear hq_ HO_5 BK103 HB; have HO_5 := n0_; have BK103 := n1_; have HB := n2_; clear n0_ n1_ n2_; (try (obtain ⟨hx39_0, hf39_0⟩ := R_celln 0 HO_5.1 (x33_3 : Int) (of_eq_true p39) (of_eq_true q39))); (try (have HP40 := R_putg HO_5.1 (x33_3 : Int) (wrap64 ((rd x5_4 (rd (rd_L11 l0_1 x33_3) x40_4)) + 1)))))); refine store_event (t := 3) (p := 75) (v := ?vo_w41) (w1 := (wr.setCell ⟨go18, (x33_3 : Int).toNat, none⟩ (.int .i64 (wrap64 ((rd x5_4 (rd (rd_L11 l0_1 x33_3) x40_4)) + 1))))) ?hg ?ho ?hn ?hr ?_; (case ho => rfl); (case hg => rfl); (case hn => rfl); (case hr => first | (go_simp; done) | (go_simp; rfl)); intro w41 hw; have hg : wr.grownBy w41 (some go18) := (by rw [hw]; exact HP40.2); have hp_ : Kd.R (Kd.int .i64) 3 w41 w.heap.size (fun _ => True) (.slice (some ⟨go18, 0, none⟩) x5_4.length co9) y118 := (by rw [hw, Ny118.1]; exact HP40.1); clear HP40; replace BK103 := aM (blk_grown (g := gb103) (o := .cells #[.slice A0_0 l0_0.length c0_0, .slice (some ad109) l0_1.length c0_1] 51 (0, 0)) (kk BK103) hg (R_ne HO_5.1 BK103.1 (by decide))); replace HO_5 := aM (hp_); replace HB := aM ((by rw [hw]; exact below_set (HB.1) GB18.1 : Below w.heap.size w w41)); clear hg hw hp_)); try go_wp2_with (first | ((with_reducible refine gate_store (t := 3) (p := 75) rfl ?_); (try (rw [drewN_self wr]; generalize hq_ : World.drewN wr _ = wr; have n0_ := aM (R_at hq_ HO_5.1); have n1_ := aM (blk_at hq_ BK103.1); have n2_ := aM (below_at hq_ HB.1); clear hq_ HO_5 BK103 HB; have HO_5 := n0_; have BK103 := n1_; have HB := n2_; clear n0_ n1_ n2_; (try (obtain ⟨hx39_0, hf39_0⟩ := R_celln 0 HO_5.1 (x33_3 : Int) (of_eq_true p39) (of_eq_true q39))); (try (have HP40 := R_putg HO_5.1 (x33_3 : Int) (wrap64 ((rd x5_4 (rd (rd_L11 l0_1 x33_3) x40_4)) + 1)))))); refine store_event (t := 3) (p := 75) (v := ?vo_w41) (w1 := (wr.setCell ⟨go18, (x33_3 : Int).toNat, none⟩ (.int .i64 (wrap64 ((rd x5_4 (rd (rd_L11 l0_1 x33_3) x40_4)) + 1))))) ?hg ?ho ?hn ?hr ?_; (case ho => rfl); (case hg => rfl); (case hn => rfl); (case hr => first | (go_simp; done) | (go_simp; rfl)); intro w41 hw; have hg : wr.grownBy w41 (some go18) := (by rw [hw]; exact HP40.2); have hp_ : Kd.R (Kd.int .i64) 3 w41 w.heap.size (fun _ => True) (.slice (some ⟨go18, 0, none⟩) x5_4.length co9) y118 := (by rw [hw, Ny118.1]; exact HP40.1); clear HP40; replace BK103 := aM (blk_grown (g := gb103) (o := .cells #[.slice A0_0 l0_0.length c0_0, .slice (some ad109) l0_1.length c0_1] 51 (0, 0)) (kk BK103) hg (R_ne HO_5.1 BK103.1 (by decide))); replace HO_5 := aM (hp_); replace HB := aM ((by rw [hw]; exact below_set (HB.1) GB18.1 : Below w.heap.size w w41)); clear hg hw hp_)))
         (try simp only [<- hl5_4])
         go_roundg k4
         case measure => have := HK1.1; have := HK2.1; have := HK3.1; have := HK4.1; omega
         case rel => exact ⟨(y118), (true), (wrap64 (x40_4 + 1)), rr, rr, H', ⟨by have := HK1.1; have := HK2.1; have := HK3.1; have := HK4.1; omega⟩, ⟨by (try simp only [hl5_1]); (try simp only [hl5_2]); (try simp only [hl5_3]); (try simp only [hl5_4]); (with_reducible repeat (first | apply R_alloc | apply R_drewN | apply R_drew)); exact HO_5.1⟩, ⟨by (try simp only [hl5_1]); (try simp only [hl5_2]); (try simp only [hl5_3]); (try simp only [hl5_4]); (with_reducible repeat (first | refine kN ?_ _ | refine kD ?_ | refine kA ?_ _)); exact BK103.1⟩, ⟨hh HB⟩⟩
mutual
noncomputable def p_cycle.l0 : Nat -> Int -> Int -> Int -> Int -> List ByteArray -> List (List Int) -> Option (List Int)
 | 0, _, _, _, _, _, _ => none
 | k + 1, x3, x4, x17, x18, x120000, x120001 => if x18 < x17 then ((p_distances.f k x120000 x120001 x18).bind fun t120 => (if 0 <= x18 then (if x18 < (x120001.length : Int) then (p_cycle.l1 k x3 x4 x18 t120 x17 x18 (rd_L11 x120001 x18) ((rd_L11 x120001 x18).length : Int) 0 x120000 x120001) else (none)) else (none))) else (if x4 < 0 then (some ([] : List Int)) else ((p_distances.f k x120000 x120001 x4).bind fun t129 => (p_cycle.l2 k t129 (([x4] : List Int)) x4 (wrap64 (x3 - 1)) x120000 x120001)))
noncomputable def p_cycle.l1 : Nat -> Int -> Int -> Int -> List Int -> Int -> Int -> List Int -> Int -> Int -> List ByteArray -> List (List Int) -> Option (List Int)
 | 0, _, _, _, _, _, _, _, _, _, _, _ => none
 | k + 1, x3, x4, x5, x6, x17, x18, x29, x30, x31, x120000, x120001 => if x31 < x30 then (if 0 <= x31 then (if x31 < (x29.length : Int) then (if 0 <= (rd x29 x31) then (if (rd x29 x31) < (x6.length : Int) then (if (rd x6 (rd x29 x31)) >= 0 then (if x4 < 0 then (p_cycle.l1 k (wrap64 ((rd x6 (rd x29 x31)) + 1)) x5 x5 x6 x17 x18 x29 x30 (wrap64 (x31 + 1)) x120000 x120001) else (if (wrap64 ((rd x6 (rd x29 x31)) + 1)) < x3 then (p_cycle.l1 k (wrap64 ((rd x6 (rd x29 x31)) + 1)) x5 x5 x6 x17 x18 x29 x30 (wrap64 (x31 + 1)) x120000 x120001) else (p_cycle.l1 k x3 x4 x5 x6 x17 x18 x29 x30 (wrap64 (x31 + 1)) x120000 x120001))) else (p_cycle.l1 k x3 x4 x5 x6 x17 x18 x29 x30 (wrap64 (x31 + 1)) x120000 x120001)) else (none)) else (none)) else (none)) else (none)) else (p_cycle.l0 k x3 x4 x17 (wrap64 (x18 + 1)) x120000 x120001)
noncomputable def p_cycle.l2 : Nat -> List Int -> List Int -> Int -> Int -> List ByteArray -> List (List Int) -> Option (List Int)
 | 0, _, _, _, _, _, _ => none
 | k + 1, x9, x10, x11, x12, x120000, x120001 => if x12 > 0 then (if 0 <= x11 then (if x11 < (x120001.length : Int) then (p_cycle.l3 k x9 x10 x11 x12 (rd_L11 x120001 x11) ((rd_L11 x120001 x11).length : Int) 0 x120000 x120001) else (none)) else (none)) else (some x10)
noncomputable def p_cycle.l3 : Nat -> List Int -> List Int -> Int -> Int -> List Int -> Int -> Int -> List ByteArray -> List (List Int) -> Option (List Int)
 | 0, _, _, _, _, _, _, _, _, _ => none
 | k + 1, x9, x10, x11, x12, x80, x81, x82, x120000, x120001 => if x82 < x81 then (if 0 <= x82 then (if x82 < (x80.length : Int) then (if 0 <= (rd x80 x82) then (if (rd x80 x82) < (x9.length : Int) then (if (rd x9 (rd x80 x82)) = x12 then (if x10.length < 17592186044416 then (p_cycle.l2 k x9 (x10 ++ [rd x80 x82]) (rd x80 x82) (wrap64 (x12 - 1)) x120000 x120001) else (none)) else (p_cycle.l3 k x9 x10 x11 x12 x80 x81 (wrap64 (x82 + 1)) x120000 x120001)) else (none)) else (none)) else (none)) else (none)) else (if x10.length < 17592186044416 then (p_cycle.l2 k x9 (x10 ++ [x11]) x11 (wrap64 (x12 - 1)) x120000 x120001) else (none))
end
noncomputable def p_cycle.f (k : Nat) (l0_0 : List ByteArray) (l0_1 : List (List Int)) : Option (List Int) := p_cycle.l0 k 0 (-1) (l0_0.length : Int) 0 l0_0 l0_1
theorem p_cycle.calls (k : Nat) (A0_0 : Option Addr) (c0_0 : Nat) (l0_0 : List ByteArray) (A0_1 : Option Addr) (c0_1 : Nat) (l0_1 : List (List Int)) (r : List Int) (w : World) (hr0_0 : Kd.C Kd.string w A0_0 l0_0.length l0_0) (hc0_0 : l0_0.length <= c0_0) (hr0_1 : Kd.C (Kd.slice 3 (Kd.int .i64)) w A0_1 l0_1.length l0_1) (hc0_1 : l0_1.length <= c0_1) (h : p_cycle.f k l0_0 l0_1 = some r) :
 Calls Try.prog 35 #[.agg #[.slice A0_0 l0_0.length c0_0, .slice A0_1 l0_1.length c0_1]] w fun e w' => ∃ v0_ : Value, e = .returned (v0_) /\ Kd.R (Kd.int .i64) 3 w' w.heap.size (fun _ => True) v0_ r /\ Below w.heap.size w w' := by
 have hu51 := Try.underlying51
 have HR0_0 := aM hr0_0
 have HC0_0 := aM hc0_0
 clear hr0_0 hc0_0
 have HR0_1 := aM hr0_1
 have HC0_1 := aM hc0_1
 clear hr0_1 hc0_1
 have HB := aM (Below.refl w.heap.size w)
 have H : (p_cycle.l0 k 0 (-1) (l0_0.length : Int) 0 l0_0 l0_1) = some r := h
 clear h
 have H' := aM H
 clear H
 go_enter Try.func35, Try.ntmps35
 go_wp2_with (first | ((with_reducible refine gate_dst (N := 1) rfl ?_); refine be 1 rfl rfl #[.slice A0_0 l0_0.length c0_0, .slice A0_1 l0_1.length c0_1] 51 ?_; intro gb119 hg w2 hbox hb; have BK119 := aM hbox; have GE119 := gs hg HB; replace HB := bs HB hb; clear hb hbox hg; obtain ⟨hcz3_0, hcz3_1⟩ := cz2 BK119; obtain ⟨hfz3_0, hfz3_1⟩ := fz2 BK119))
 go_loopg [3, 4, 18] k (fun kq v3 v4 v18 w' => ∃ (x3_1 : Int) (x4_1 : Int) (x18_1 : Int), v3 = .int .i64 x3_1 /\ v4 = .int .i64 x4_1 /\ v18 = .int .i64 x18_1 /\ Az (p_cycle.l0 kq x3_1 x4_1 (l0_0.length : Int) x18_1 l0_0 l0_1 = some r) /\ Az (kq <= k) /\ Az (w'.heap[gb119]? = some (.cells #[(.slice A0_0 l0_0.length c0_0), (.slice A0_1 l0_1.length c0_1)] 51 (0, 0))) /\ Az (Below w.heap.size w w'))
 case atStart => exact ⟨(0), ((-1)), (0), rr, rr, rr, H', ⟨Nat.le_refl _⟩, ⟨kk BK119⟩, ⟨hh HB⟩⟩
 case round =>
  clear H'
  clear hcz3_0 hcz3_1 hfz3_0 hfz3_1
  obtain ⟨x3_1, x4_1, x18_1, rfl, rfl, rfl, HA, HK1, BK119, HB⟩ := hrel
  cases gk with
  | zero => exact absurd HA.1 (by simp [p_cycle.l0])
  | succ k1 =>
   have H := HA.1
   clear HA
   simp only [p_cycle.l0] at H
   by_cases c4 : x18_1 < (l0_0.length : Int)
   · rw [if_pos c4] at H
     have c4b0 : decide (x18_1 < (l0_0.length : Int)) = true := decide_eq_true c4
     clear c4
     replace H := Option.bind_eq_some_iff.mp H
     obtain ⟨t120, A50, H⟩ := H
     try dsimp only at H
     have A5 := aM A50
     clear A50
     by_cases c6 : 0 <= x18_1
     rotate_left
     · rw [if_neg c6] at H
       exact absurd H (by simp)
     rw [if_pos c6] at H
     have c6b0 : decide (0 <= x18_1) = true := decide_eq_true c6
     clear c6
     by_cases c7 : x18_1 < (l0_1.length : Int)
     rotate_left
     · rw [if_neg c7] at H
       exact absurd H (by simp)
     rw [if_pos c7] at H
     have c7b0 : decide (x18_1 < (l0_1.length : Int)) = true := decide_eq_true c7
     clear c7
     have H' := aM H
     clear H
     obtain ⟨hcz8_0, hcz8_1⟩ := cz2 BK119
     obtain ⟨hfz8_0, hfz8_1⟩ := fz2 BK119
     go_wp2_with (first | ((with_reducible refine gate_callee (f := 48) rfl ?_); refine gL (some 23) rfl rfl Try.func48 (by kernel_rfl) rfl #[.agg #[.slice A0_0 l0_0.length c0_0, .slice A0_1 l0_1.length c0_1], .int .i64 x18_1] rfl ?_; (with_reducible refine (p_distances.calls k1 _ _ l0_0 _ _ l0_1 x18_1 t120 _ ?side1 ?side2 ?side3 ?side4 A5.1).mono ?_); (case side1 => exact cb HR0_0 HB); (case side2 => exact HC0_0.1); (case side3 => exact cb HR0_1 HB); (case side4 => exact HC0_1.1); rintro e w9 ⟨v121, rfl, ho0, hb⟩; refine ⟨_, rfl, ?_⟩; have HO122 := aM (R_lower ho0 (below_size (hh HB))); replace BK119 := kb BK119 hb; replace HB := bs HB hb; clear hb ho0; obtain ⟨hcz10_0, hcz10_1⟩ := cz2 BK119; obtain ⟨hfz10_0, hfz10_1⟩ := fz2 BK119; have p123 : 0 <= (x18_1 : Int) := dt; have q123 : x18_1 < (l0_1.length : Int) := dt; obtain ⟨ad123, A123_0, c123_0, e123, hx123_0, hl123_0, hi123_0⟩ := at_L11 HR0_1.1 x18_1 p123 q123; cases e123; replace hx123_0 := hx HB hx123_0; have HR123_0 := aM hi123_0; have HC123_0 := aM hl123_0; clear hi123_0 hl123_0; replace p123 := eq_true p123; replace q123 := eq_true q123))
     go_loopg [3, 4, 31] k1 (fun kq v3 v4 v31 w' => ∃ (x3_2 : Int) (x4_2 : Int) (x31_2 : Int), v3 = .int .i64 x3_2 /\ v4 = .int .i64 x4_2 /\ v31 = .int .i64 x31_2 /\ Az (p_cycle.l1 kq x3_2 x4_2 x18_1 t120 (l0_0.length : Int) x18_1 (rd_L11 l0_1 x18_1) ((rd_L11 l0_1 x18_1).length : Int) x31_2 l0_0 l0_1 = some r) /\ Az (kq <= k1) /\ Az (Kd.R (Kd.int .i64) 3 w' w.heap.size (fun _ => True) v121 t120) /\ Az (w'.heap[gb119]? = some (.cells #[(.slice A0_0 l0_0.length c0_0), (.slice (some ad123) l0_1.length c0_1)] 51 (0, 0))) /\ Az (Below w.heap.size w w'))
     case atStart => exact ⟨(x3_1), (x4_1), (0), rr, rr, rr, H', ⟨Nat.le_refl _⟩, ⟨rk HO122⟩, ⟨kk BK119⟩, ⟨hh HB⟩⟩
     case round =>
      clear H'
      clear c4b0 c6b0 c7b0 hcz10_0 hcz10_1 hcz8_0 hcz8_1 hfz10_0 hfz10_1 hfz8_0 hfz8_1 hx123_0 p123 q123
      obtain ⟨x3_2, x4_2, x31_2, rfl, rfl, rfl, HA, HK2, HO_6, BK119, HB⟩ := hrel
      cases gk with
      | zero => exact absurd HA.1 (by simp [p_cycle.l1])
      | succ k2 =>
       have H := HA.1
       clear HA
       simp only [p_cycle.l1] at H
       by_cases c11 : x31_2 < ((rd_L11 l0_1 x18_1).length : Int)
       rotate_left
       · rw [if_neg c11] at H
         have c11b0 : decide (x31_2 < ((rd_L11 l0_1 x18_1).length : Int)) = false := decide_eq_false c11
         clear c11
         have H' := aM H
         clear H
         go_wp2
         go_roundg k2
         case measure => have := HK1.1; have := HK2.1; omega
         case rel => exact ⟨(x3_2), (x4_2), (wrap64 (x18_1 + 1)), rr, rr, rr, H', ⟨by have := HK1.1; have := HK2.1; omega⟩, ⟨kk BK119⟩, ⟨hh HB⟩⟩
       rw [if_pos c11] at H
       have c11b0 : decide (x31_2 < ((rd_L11 l0_1 x18_1).length : Int)) = true := decide_eq_true c11
       clear c11
       by_cases c12 : 0 <= x31_2
       rotate_left
       · rw [if_neg c12] at H
         exact absurd H (by simp)
       rw [if_pos c12] at H
       have c12b0 : decide (0 <= x31_2) = true := decide_eq_true c12
       clear c12
       by_cases c13 : x31_2 < ((rd_L11 l0_1 x18_1).length : Int)
       rotate_left
       · rw [if_neg c13] at H
         exact absurd H (by simp)
       rw [if_pos c13] at H
       have c13b0 : decide (x31_2 < ((rd_L11 l0_1 x18_1).length : Int)) = true := decide_eq_true c13
       clear c13
       by_cases c14 : 0 <= (rd (rd_L11 l0_1 x18_1) x31_2)
       rotate_left
       · rw [if_neg c14] at H
         exact absurd H (by simp)
       rw [if_pos c14] at H
       have c14b0 : decide (0 <= (rd (rd_L11 l0_1 x18_1) x31_2)) = true := decide_eq_true c14
       clear c14
       by_cases c15 : (rd (rd_L11 l0_1 x18_1) x31_2) < (t120.length : Int)
       rotate_left
       · rw [if_neg c15] at H
         exact absurd H (by simp)
       rw [if_pos c15] at H
       have c15b0 : decide ((rd (rd_L11 l0_1 x18_1) x31_2) < (t120.length : Int)) = true := decide_eq_true c15
       clear c15
       by_cases c16 : (rd t120 (rd (rd_L11 l0_1 x18_1) x31_2)) >= 0
       rotate_left
       · rw [if_neg c16] at H
         have c16b0 : decide (0 <= (rd t120 (rd (rd_L11 l0_1 x18_1) x31_2))) = false := decide_eq_false c16
         clear c16
         have H' := aM H
         clear H
         have p124 : 0 <= (x31_2 : Int) := dt
         have q124 : x31_2 < ((rd_L11 l0_1 x18_1).length : Int) := dt
         obtain ⟨ad124, e124, hx124_0⟩ := Kd.at_int HR123_0.1 x31_2 p124 q124
         cases e124
         replace hx124_0 := hx HB hx124_0
         replace p124 := eq_true p124
         replace q124 := eq_true q124
         obtain ⟨Ao22, co22, eo22⟩ := R_slice HO_6.1
         subst eo22
         have p125 : 0 <= ((rd (rd_L11 l0_1 x18_1) x31_2) : Int) := dt
         have q125 : (rd (rd_L11 l0_1 x18_1) x31_2) < (t120.length : Int) := dt
         obtain ⟨ad125, e125, hx125_0⟩ := Kd.at_int (R_reads' HO_6.1).2.2 (rd (rd_L11 l0_1 x18_1) x31_2) p125 q125
         cases e125
         replace p125 := eq_true p125
         replace q125 := eq_true q125
         go_wp2
         go_roundg k2
         case measure => have := HK1.1; have := HK2.1; omega
         case rel => exact ⟨(x3_2), (x4_2), (wrap64 (x31_2 + 1)), rr, rr, rr, H', ⟨by have := HK1.1; have := HK2.1; omega⟩, ⟨rk HO_6⟩, ⟨kk BK119⟩, ⟨hh HB⟩⟩
       rw [if_pos c16] at H
       have c16b0 : decide (0 <= (rd t120 (rd (rd_L11 l0_1 x18_1) x31_2))) = true := decide_eq_true c16
       clear c16
       by_cases c17 : x4_2 < 0
       · rw [if_pos c17] at H
         have c17b0 : decide (x4_2 < 0) = true := decide_eq_true c17
         clear c17
         have H' := aM H
         clear H
         have p124 : 0 <= (x31_2 : Int) := dt
         have q124 : x31_2 < ((rd_L11 l0_1 x18_1).length : Int) := dt
         obtain ⟨ad124, e124, hx124_0⟩ := Kd.at_int HR123_0.1 x31_2 p124 q124
         cases e124
         replace hx124_0 := hx HB hx124_0
         replace p124 := eq_true p124
         replace q124 := eq_true q124
         obtain ⟨Ao18, co18, eo18⟩ := R_slice HO_6.1
         subst eo18
         have p125 : 0 <= ((rd (rd_L11 l0_1 x18_1) x31_2) : Int) := dt
         have q125 : (rd (rd_L11 l0_1 x18_1) x31_2) < (t120.length : Int) := dt
         obtain ⟨ad125, e125, hx125_0⟩ := Kd.at_int (R_reads' HO_6.1).2.2 (rd (rd_L11 l0_1 x18_1) x31_2) p125 q125
         cases e125
         replace p125 := eq_true p125
         replace q125 := eq_true q125
         have p126 : 0 <= ((rd (rd_L11 l0_1 x18_1) x31_2) : Int) := dt
         have q126 : (rd (rd_L11 l0_1 x18_1) x31_2) < (t120.length : Int) := dt
         obtain ⟨ad126, e126, hx126_0⟩ := Kd.at_int (R_reads' HO_6.1).2.2 (rd (rd_L11 l0_1 x18_1) x31_2) p126 q126
         obtain rfl : ad125 = ad126 := (by injection e126)
         replace p126 := eq_true p126
         replace q126 := eq_true q126
         go_wp2
         go_roundg k2
         case measure => have := HK1.1; have := HK2.1; omega
         case rel => exact ⟨(wrap64 ((rd t120 (rd (rd_L11 l0_1 x18_1) x31_2)) + 1)), (x18_1), (wrap64 (x31_2 + 1)), rr, rr, rr, H', ⟨by have := HK1.1; have := HK2.1; omega⟩, ⟨rk HO_6⟩, ⟨kk BK119⟩, ⟨hh HB⟩⟩
       rw [if_neg c17] at H
       have c17b0 : decide (x4_2 < 0) = false := decide_eq_false c17
       clear c17
       by_cases c19 : (wrap64 ((rd t120 (rd (rd_L11 l0_1 x18_1) x31_2)) + 1)) < x3_2
       rotate_left
       · rw [if_neg c19] at H
         have c19b0 : decide ((wrap64 ((rd t120 (rd (rd_L11 l0_1 x18_1) x31_2)) + 1)) < x3_2) = false := decide_eq_false c19
         clear c19
         have H' := aM H
         clear H
         have p124 : 0 <= (x31_2 : Int) := dt
         have q124 : x31_2 < ((rd_L11 l0_1 x18_1).length : Int) := dt
         obtain ⟨ad124, e124, hx124_0⟩ := Kd.at_int HR123_0.1 x31_2 p124 q124
         cases e124
         replace hx124_0 := hx HB hx124_0
         replace p124 := eq_true p124
         replace q124 := eq_true q124
         obtain ⟨Ao21, co21, eo21⟩ := R_slice HO_6.1
         subst eo21
         have p125 : 0 <= ((rd (rd_L11 l0_1 x18_1) x31_2) : Int) := dt
         have q125 : (rd (rd_L11 l0_1 x18_1) x31_2) < (t120.length : Int) := dt
         obtain ⟨ad125, e125, hx125_0⟩ := Kd.at_int (R_reads' HO_6.1).2.2 (rd (rd_L11 l0_1 x18_1) x31_2) p125 q125
         cases e125
         replace p125 := eq_true p125
         replace q125 := eq_true q125
         have p127 : 0 <= ((rd (rd_L11 l0_1 x18_1) x31_2) : Int) := dt
         have q127 : (rd (rd_L11 l0_1 x18_1) x31_2) < (t120.length : Int) := dt
         obtain ⟨ad127, e127, hx127_0⟩ := Kd.at_int (R_reads' HO_6.1).2.2 (rd (rd_L11 l0_1 x18_1) x31_2) p127 q127
         obtain rfl : ad125 = ad127 := (by injection e127)
         replace p127 := eq_true p127
         replace q127 := eq_true q127
         go_wp2
         go_roundg k2
         case measure => have := HK1.1; have := HK2.1; omega
         case rel => exact ⟨(x3_2), (x4_2), (wrap64 (x31_2 + 1)), rr, rr, rr, H', ⟨by have := HK1.1; have := HK2.1; omega⟩, ⟨rk HO_6⟩, ⟨kk BK119⟩, ⟨hh HB⟩⟩
       rw [if_pos c19] at H
       have c19b0 : decide ((wrap64 ((rd t120 (rd (rd_L11 l0_1 x18_1) x31_2)) + 1)) < x3_2) = true := decide_eq_true c19
       clear c19
       have H' := aM H
       clear H
       have p124 : 0 <= (x31_2 : Int) := dt
       have q124 : x31_2 < ((rd_L11 l0_1 x18_1).length : Int) := dt
       obtain ⟨ad124, e124, hx124_0⟩ := Kd.at_int HR123_0.1 x31_2 p124 q124
       cases e124
       replace hx124_0 := hx HB hx124_0
       replace p124 := eq_true p124
       replace q124 := eq_true q124
       obtain ⟨Ao20, co20, eo20⟩ := R_slice HO_6.1
       subst eo20
       have p125 : 0 <= ((rd (rd_L11 l0_1 x18_1) x31_2) : Int) := dt
       have q125 : (rd (rd_L11 l0_1 x18_1) x31_2) < (t120.length : Int) := dt
       obtain ⟨ad125, e125, hx125_0⟩ := Kd.at_int (R_reads' HO_6.1).2.2 (rd (rd_L11 l0_1 x18_1) x31_2) p125 q125
       cases e125
       replace p125 := eq_true p125
       replace q125 := eq_true q125
       have p127 : 0 <= ((rd (rd_L11 l0_1 x18_1) x31_2) : Int) := dt
       have q127 : (rd (rd_L11 l0_1 x18_1) x31_2) < (t120.length : Int) := dt
       obtain ⟨ad127, e127, hx127_0⟩ := Kd.at_int (R_reads' HO_6.1).2.2 (rd (rd_L11 l0_1 x18_1) x31_2) p127 q127
       obtain rfl : ad125 = ad127 := (by injection e127)
       replace p127 := eq_true p127
       replace q127 := eq_true q127
       have p128 : 0 <= ((rd (rd_L11 l0_1 x18_1) x31_2) : Int) := dt
       have q128 : (rd (rd_L11 l0_1 x18_1) x31_2) < (t120.length : Int) := dt
       obtain ⟨ad128, e128, hx128_0⟩ := Kd.at_int (R_reads' HO_6.1).2.2 (rd (rd_L11 l0_1 x18_1) x31_2) p128 q128
       obtain rfl : ad125 = ad128 := (by injection e128)
       replace p128 := eq_true p128
       replace q128 := eq_true q128
       go_wp2
       go_roundg k2
       case measure => have := HK1.1; have := HK2.1; omega
       case rel => exact ⟨(wrap64 ((rd t120 (rd (rd_L11 l0_1 x18_1) x31_2)) + 1)), (x18_1), (wrap64 (x31_2 + 1)), rr, rr, rr, H', ⟨by have := HK1.1; have := HK2.1; omega⟩, ⟨rk HO_6⟩, ⟨kk BK119⟩, ⟨hh HB⟩⟩
   rw [if_neg c4] at H
   have c4b0 : decide (x18_1 < (l0_0.length : Int)) = false := decide_eq_false c4
   clear c4
   by_cases c23 : x4_1 < 0
   · rw [if_pos c23] at H
     have c23b0 : decide (x4_1 < 0) = true := decide_eq_true c23
     clear c23
     obtain rfl := Option.some.inj H
     go_wp2
     go_ret
     exact ⟨_, by first | rfl | (simp [errW_none, errW_some] <;> rfl) | (simp [*, errW_none, errW_some] <;> rfl), by first | exact R_nil _ _ _ _ _ | exact N_nil _ _ _ _ _ | exact V_nil _ _ _ _ _ | exact Q_nil _ _ _ _ _ | exact S_nil _ _ _ _ _, hh HB⟩
   rw [if_neg c23] at H
   have c23b0 : decide (x4_1 < 0) = false := decide_eq_false c23
   clear c23
   replace H := Option.bind_eq_some_iff.mp H
   obtain ⟨t129, A240, H⟩ := H
   try dsimp only at H
   have A24 := aM A240
   clear A240
   obtain ⟨y132, hy132⟩ : ∃ y_ : List Int, y_ = (([x4_1] : List Int)) := ⟨_, rfl⟩
   replace H : (p_cycle.l2 k1 t129 y132 x4_1 (wrap64 (x3_1 - 1)) l0_0 l0_1) = some r := by first | (rw [hy132]; with_reducible exact H) | (have H2_ := (Option.bind_some _ _).symm.trans H; rw [hy132]; with_reducible exact H2_) | (have H2_ := (Option.bind_some _ _).symm.trans H; with_reducible exact H2_) | with_reducible exact H | (rw [hy132]; exact H) | exact H
   have Ny132 := aM hy132
   clear hy132
   have H' := aM H
   clear H
   obtain ⟨hcz25_0, hcz25_1⟩ := cz2 BK119
   obtain ⟨hfz25_0, hfz25_1⟩ := fz2 BK119
   go_wp2_with (first | ((with_reducible refine gate_callee (f := 48) rfl ?_); refine gL (some 65) rfl rfl Try.func48 (by kernel_rfl) rfl #[.agg #[.slice A0_0 l0_0.length c0_0, .slice A0_1 l0_1.length c0_1], .int .i64 x4_1] rfl ?_; (with_reducible refine (p_distances.calls k1 _ _ l0_0 _ _ l0_1 x4_1 t129 _ ?side1 ?side2 ?side3 ?side4 A24.1).mono ?_); (case side1 => exact cb HR0_0 HB); (case side2 => exact HC0_0.1); (case side3 => exact cb HR0_1 HB); (case side4 => exact HC0_1.1); rintro e w26 ⟨v130, rfl, ho0, hb⟩; refine ⟨_, rfl, ?_⟩; have HO131 := aM (R_lower ho0 (below_size (hh HB))); replace BK119 := kb BK119 hb; replace HB := bs HB hb; clear hb ho0) | ((with_reducible refine gate_dst (N := 67) rfl ?_); refine R_lit (Kd.int .i64) _ 3 ?hg (N := 67) ?hd (xs := ([x4_1] : List Int)) (inner := [.int .i64 x4_1]) (ok := fun _ => True) (okp := fun _ => True) ?hr ?hp (fun _ hk => hk) trivial (Below.refl _ _) (Nat.le_refl _) (by simp) ?_; (case hd => rfl); (case hg => rfl); (case hr => first | (go_simp; done) | (go_simp; rfl)); (case hp => exact (Reps.one (show Kd.M (Kd.int .i64) _ _ _ x4_1 [.int .i64 x4_1] from rfl) (Reps.none _ _))); intro v133 w27 ho28 hb hg_ hnew_; clear hg_ hnew_; (first | rw [<- Ny132.1] at ho28 | (simp only [Int.reduceToNat] at ho28; rw [<- Ny132.1] at ho28)); have HO134 := aM (R_lower (R_new' ho28 (R_lt (rk HO131))) (below_size (hh HB))); replace HO131 := aM (R_elder' (rk HO131) (R_base ho28) hb); replace BK119 := kb BK119 hb; replace HB := bs HB hb; clear hb ho28))
   go_loopg [10, 11, 12] k1 (fun kq v10 v11 v12 w' => ∃ (x10_2 : List Int) (x11_2 : Int) (x12_2 : Int), v11 = .int .i64 x11_2 /\ v12 = .int .i64 x12_2 /\ Az (p_cycle.l2 kq t129 x10_2 x11_2 x12_2 l0_0 l0_1 = some r) /\ Az (kq <= k1) /\ Az (Kd.R (Kd.int .i64) 3 w' w.heap.size (fun k_ => some k_ ≠ (v10 : Value).ownBlock) v130 t129) /\ Az (Kd.R (Kd.int .i64) 3 w' w.heap.size (fun k_ => some k_ ≠ (v130 : Value).ownBlock) v10 x10_2) /\ Az (w'.heap[gb119]? = some (.cells #[(.slice A0_0 l0_0.length c0_0), (.slice A0_1 l0_1.length c0_1)] 51 (0, 0))) /\ Az (Below w.heap.size w w'))
   case atStart => exact ⟨(y132), (x4_1), (wrap64 (x3_1 - 1)), rr, rr, H', ⟨Nat.le_refl _⟩, ⟨rz (R_mono HO131.1 (fun _ hk => hk.2))⟩, ⟨rz (R_mono HO134.1 (fun _ hk => hk.2))⟩, ⟨kk BK119⟩, ⟨hh HB⟩⟩
   case round =>
    clear H'
    clear c4b0 c23b0 hcz25_0 hcz25_1 hfz25_0 hfz25_1
    obtain ⟨x10_2, x11_2, x12_2, rfl, rfl, HA, HK2, HO_9, HO_10, BK119, HB⟩ := hrel
    cases gk with
    | zero => exact absurd HA.1 (by simp [p_cycle.l2])
    | succ k2 =>
     have H := HA.1
     clear HA
     simp only [p_cycle.l2] at H
     by_cases c29 : x12_2 > 0
     rotate_left
     · rw [if_neg c29] at H
       have c29b0 : decide (0 < x12_2) = false := decide_eq_false c29
       clear c29
       obtain rfl := Option.some.inj H
       go_wp2
       go_ret
       exact ⟨_, by first | rfl | (simp [errW_none, errW_some] <;> rfl) | (simp [*, errW_none, errW_some] <;> rfl), rz (R_mono HO_10.1 (fun _ hk => trivial)), hh HB⟩
     rw [if_pos c29] at H
     have c29b0 : decide (0 < x12_2) = true := decide_eq_true c29
     clear c29
     by_cases c30 : 0 <= x11_2
     rotate_left
     · rw [if_neg c30] at H
       exact absurd H (by simp)
     rw [if_pos c30] at H
     have c30b0 : decide (0 <= x11_2) = true := decide_eq_true c30
     clear c30
     by_cases c31 : x11_2 < (l0_1.length : Int)
     rotate_left
     · rw [if_neg c31] at H
       exact absurd H (by simp)
     rw [if_pos c31] at H
     have c31b0 : decide (x11_2 < (l0_1.length : Int)) = true := decide_eq_true c31
     clear c31
     have H' := aM H
     clear H
     obtain ⟨hcz32_0, hcz32_1⟩ := cz2 BK119
     obtain ⟨hfz32_0, hfz32_1⟩ := fz2 BK119
     have p135 : 0 <= (x11_2 : Int) := dt
     have q135 : x11_2 < (l0_1.length : Int) := dt
     obtain ⟨ad135, A135_0, c135_0, e135, hx135_0, hl135_0, hi135_0⟩ := at_L11 HR0_1.1 x11_2 p135 q135
     cases e135
     replace hx135_0 := hx HB hx135_0
     have HR135_0 := aM hi135_0
     have HC135_0 := aM hl135_0
     clear hi135_0 hl135_0
     replace p135 := eq_true p135
     replace q135 := eq_true q135
     go_wp2
     go_loopg [11, 82] k2 (fun kq v11 v82 w' => ∃ (x11_3 : Int) (x82_3 : Int), v11 = .int .i64 x11_3 /\ v82 = .int .i64 x82_3 /\ Az (p_cycle.l3 kq t129 x10_2 x11_3 x12_2 (rd_L11 l0_1 x11_2) ((rd_L11 l0_1 x11_2).length : Int) x82_3 l0_0 l0_1 = some r) /\ Az (kq <= k2) /\ Az (Kd.R (Kd.int .i64) 3 w' w.heap.size (fun k_ => some k_ ≠ (u10 : Value).ownBlock) v130 t129) /\ Az (Kd.R (Kd.int .i64) 3 w' w.heap.size (fun k_ => some k_ ≠ (v130 : Value).ownBlock) u10 x10_2) /\ Az (w'.heap[gb119]? = some (.cells #[(.slice A0_0 l0_0.length c0_0), (.slice (some ad135) l0_1.length c0_1)] 51 (0, 0))) /\ Az (Below w.heap.size w w'))
     case atStart => exact ⟨(x11_2), (0), rr, rr, H', ⟨Nat.le_refl _⟩, ⟨rk HO_9⟩, ⟨rk HO_10⟩, ⟨kk BK119⟩, ⟨hh HB⟩⟩
     case round =>
      clear H'
      clear c29b0 c30b0 c31b0 hcz32_0 hcz32_1 hfz32_0 hfz32_1 hx135_0 p135 q135
      obtain ⟨x11_3, x82_3, rfl, rfl, HA, HK3, HO_9, HO_10, BK119, HB⟩ := hrel
      cases gk with
      | zero => exact absurd HA.1 (by simp [p_cycle.l3])
      | succ k3 =>
       have H := HA.1
       clear HA
       simp only [p_cycle.l3] at H
       by_cases c33 : x82_3 < ((rd_L11 l0_1 x11_2).length : Int)
       rotate_left
       · rw [if_neg c33] at H
         have c33b0 : decide (x82_3 < ((rd_L11 l0_1 x11_2).length : Int)) = false := decide_eq_false c33
         clear c33
         by_cases c43 : x10_2.length < 17592186044416
         rotate_left
         · rw [if_neg c43] at H
           exact absurd H (by simp)
         rw [if_pos c43] at H
         have LMc43 := aM c43
         clear c43
         obtain ⟨y141, hy141⟩ : ∃ y_ : List Int, y_ = (x10_2 ++ [x11_3]) := ⟨_, rfl⟩
         replace H : (p_cycle.l2 k3 t129 y141 x11_3 (wrap64 (x12_2 - 1)) l0_0 l0_1) = some r := by first | (rw [hy141]; with_reducible exact H) | (have H2_ := (Option.bind_some _ _).symm.trans H; rw [hy141]; with_reducible exact H2_) | (have H2_ := (Option.bind_some _ _).symm.trans H; with_reducible exact H2_) | with_reducible exact H | (rw [hy141]; exact H) | exact H
         have Ny141 := aM hy141
         clear hy141
         have H' := aM H
         clear H
         go_wp2_with (first | ((with_reducible refine gate_builtin (b := .append) (xs := #[.tmp 94, .tmp 96]) rfl ?_); at_builtin; refine R_append (Kd.int .i64) (w0 := w) w.heap.size rfl (.tmp 94) (.tmp 96) 55 3 (.int .i64 0) 8 rfl Try.underlying55 info3 rfl (by decide) (by omega) u10 x10_2 x11_3 [.int .i64 x11_3] (fun k_ => some k_ ≠ (v130 : Value).ownBlock) (fun _ => False) rfl rfl ?aP (fun _ hk => hk.elim) ?aF ?aO ?aB ?aS ?aL ?_; (case aP => exact rfl); (case aB => exact (hh HB)); (case aF => exact (fun k_ hk => Kd.fresh' (R_lt (rk HO_9)) k_ hk)); (case aO => exact (rk HO_10)); (case aS => exact (below_size (hh HB))); (case aL => have := LMc43.1; omega); intro v142 w44 ho hb hg hat; rw [<- Ny141.1] at ho; have HO143 := aM (ho); replace HO_9 := aM (R_after (ok := (fun _ => True)) (rz (R_mono HO_9.1 (fun _ hk => ⟨trivial, hk⟩))) hg hat); replace BK119 := aM (blk_grown (g := gb119) (o := .cells #[.slice A0_0 l0_0.length c0_0, .slice (some ad135) l0_1.length c0_1] 51 (0, 0)) (kk BK119) hg (R_ne HO_10.1 BK119.1 (by decide))); replace HB := aM (hb); clear HO_10; clear ho hb hg hat))
         go_roundg k3
         case measure => have := HK1.1; have := HK2.1; have := HK3.1; omega
         case rel => exact ⟨(y141), (x11_3), (wrap64 (x12_2 - 1)), rr, rr, H', ⟨by have := HK1.1; have := HK2.1; have := HK3.1; omega⟩, ⟨rz (R_mono HO_9.1 (fun _ hk => hk.2))⟩, ⟨rk HO143⟩, ⟨kk BK119⟩, ⟨hh HB⟩⟩
       rw [if_pos c33] at H
       have c33b0 : decide (x82_3 < ((rd_L11 l0_1 x11_2).length : Int)) = true := decide_eq_true c33
       clear c33
       by_cases c34 : 0 <= x82_3
       rotate_left
       · rw [if_neg c34] at H
         exact absurd H (by simp)
       rw [if_pos c34] at H
       have c34b0 : decide (0 <= x82_3) = true := decide_eq_true c34
       clear c34
       by_cases c35 : x82_3 < ((rd_L11 l0_1 x11_2).length : Int)
       rotate_left
       · rw [if_neg c35] at H
         exact absurd H (by simp)
       rw [if_pos c35] at H
       have c35b0 : decide (x82_3 < ((rd_L11 l0_1 x11_2).length : Int)) = true := decide_eq_true c35
       clear c35
       by_cases c36 : 0 <= (rd (rd_L11 l0_1 x11_2) x82_3)
       rotate_left
       · rw [if_neg c36] at H
         exact absurd H (by simp)
       rw [if_pos c36] at H
       have c36b0 : decide (0 <= (rd (rd_L11 l0_1 x11_2) x82_3)) = true := decide_eq_true c36
       clear c36
       by_cases c37 : (rd (rd_L11 l0_1 x11_2) x82_3) < (t129.length : Int)
       rotate_left
       · rw [if_neg c37] at H
         exact absurd H (by simp)
       rw [if_pos c37] at H
       have c37b0 : decide ((rd (rd_L11 l0_1 x11_2) x82_3) < (t129.length : Int)) = true := decide_eq_true c37
       clear c37
       by_cases c38 : (rd t129 (rd (rd_L11 l0_1 x11_2) x82_3)) = x12_2
       rotate_left
       · rw [if_neg c38] at H
         have c38b0 : ((rd t129 (rd (rd_L11 l0_1 x11_2) x82_3)) == x12_2) = false := beq_eq_false_iff_ne.mpr c38
         have c38b1 : ((rd t129 (rd (rd_L11 l0_1 x11_2) x82_3)) != x12_2) = true := bne_iff_ne.mpr c38
         have H' := aM H
         clear H
         have p136 : 0 <= (x82_3 : Int) := dt
         have q136 : x82_3 < ((rd_L11 l0_1 x11_2).length : Int) := dt
         obtain ⟨ad136, e136, hx136_0⟩ := Kd.at_int HR135_0.1 x82_3 p136 q136
         cases e136
         replace hx136_0 := hx HB hx136_0
         replace p136 := eq_true p136
         replace q136 := eq_true q136
         obtain ⟨Ao42, co42, eo42⟩ := R_slice HO_9.1
         subst eo42
         have p137 : 0 <= ((rd (rd_L11 l0_1 x11_2) x82_3) : Int) := dt
         have q137 : (rd (rd_L11 l0_1 x11_2) x82_3) < (t129.length : Int) := dt
         obtain ⟨ad137, e137, hx137_0⟩ := Kd.at_int (R_reads' HO_9.1).2.2 (rd (rd_L11 l0_1 x11_2) x82_3) p137 q137
         cases e137
         replace p137 := eq_true p137
         replace q137 := eq_true q137
         go_wp2
         go_roundg k3
         case measure => have := HK1.1; have := HK2.1; have := HK3.1; omega
         case rel => exact ⟨(x11_3), (wrap64 (x82_3 + 1)), rr, rr, H', ⟨by have := HK1.1; have := HK2.1; have := HK3.1; omega⟩, ⟨rk HO_9⟩, ⟨rk HO_10⟩, ⟨kk BK119⟩, ⟨hh HB⟩⟩
       rw [if_pos c38] at H
       have c38b0 : ((rd t129 (rd (rd_L11 l0_1 x11_2) x82_3)) == x12_2) = true := beq_iff_eq.mpr c38
       have c38b1 : ((rd t129 (rd (rd_L11 l0_1 x11_2) x82_3)) != x12_2) = false := bne_eq_false_iff_eq.mpr c38
       clear c38
       by_cases c39 : x10_2.length < 17592186044416
       rotate_left
       · rw [if_neg c39] at H
         exact absurd H (by simp)
       rw [if_pos c39] at H
       have LMc39 := aM c39
       clear c39
       obtain ⟨y138, hy138⟩ : ∃ y_ : List Int, y_ = (x10_2 ++ [rd (rd_L11 l0_1 x11_2) x82_3]) := ⟨_, rfl⟩
       replace H : (p_cycle.l2 k3 t129 y138 (rd (rd_L11 l0_1 x11_2) x82_3) (wrap64 (x12_2 - 1)) l0_0 l0_1) = some r := by first | (rw [hy138]; with_reducible exact H) | (have H2_ := (Option.bind_some _ _).symm.trans H; rw [hy138]; with_reducible exact H2_) | (have H2_ := (Option.bind_some _ _).symm.trans H; with_reducible exact H2_) | with_reducible exact H | (rw [hy138]; exact H) | exact H
       have Ny138 := aM hy138
       clear hy138
       have H' := aM H
       clear H
       have p136 : 0 <= (x82_3 : Int) := dt
       have q136 : x82_3 < ((rd_L11 l0_1 x11_2).length : Int) := dt
       obtain ⟨ad136, e136, hx136_0⟩ := Kd.at_int HR135_0.1 x82_3 p136 q136
       cases e136
       replace hx136_0 := hx HB hx136_0
       replace p136 := eq_true p136
       replace q136 := eq_true q136
       obtain ⟨Ao40, co40, eo40⟩ := R_slice HO_9.1
       subst eo40
       have p137 : 0 <= ((rd (rd_L11 l0_1 x11_2) x82_3) : Int) := dt
       have q137 : (rd (rd_L11 l0_1 x11_2) x82_3) < (t129.length : Int) := dt
       obtain ⟨ad137, e137, hx137_0⟩ := Kd.at_int (R_reads' HO_9.1).2.2 (rd (rd_L11 l0_1 x11_2) x82_3) p137 q137
       cases e137
       replace p137 := eq_true p137
       replace q137 := eq_true q137
       go_wp2_with (first | ((with_reducible refine gate_builtin (b := .append) (xs := #[.tmp 94, .tmp 96]) rfl ?_); at_builtin; refine R_append (Kd.int .i64) (w0 := w) w.heap.size rfl (.tmp 94) (.tmp 96) 55 3 (.int .i64 0) 8 rfl Try.underlying55 info3 rfl (by decide) (by omega) u10 x10_2 (rd (rd_L11 l0_1 x11_2) x82_3) [.int .i64 (rd (rd_L11 l0_1 x11_2) x82_3)] (fun k_ => some k_ ≠ (.slice (some ad137) t129.length co40 : Value).ownBlock) (fun _ => False) rfl rfl ?aP (fun _ hk => hk.elim) ?aF ?aO ?aB ?aS ?aL ?_; (case aP => exact rfl); (case aB => exact (hh HB)); (case aF => exact (fun k_ hk => Kd.fresh' (R_lt (rk HO_9)) k_ hk)); (case aO => exact (rk HO_10)); (case aS => exact (below_size (hh HB))); (case aL => have := LMc39.1; omega); intro v139 w41 ho hb hg hat; rw [<- Ny138.1] at ho; have HO140 := aM (ho); replace HO_9 := aM (R_after (ok := (fun _ => True)) (rz (R_mono HO_9.1 (fun _ hk => ⟨trivial, hk⟩))) hg hat); replace BK119 := aM (blk_grown (g := gb119) (o := .cells #[.slice A0_0 l0_0.length c0_0, .slice (some ad135) l0_1.length c0_1] 51 (0, 0)) (kk BK119) hg (R_ne HO_10.1 BK119.1 (by decide))); replace HB := aM (hb); clear HO_10; clear ho hb hg hat))
       go_roundg k3
       case measure => have := HK1.1; have := HK2.1; have := HK3.1; omega
       case rel => exact ⟨(y138), (rd (rd_L11 l0_1 x11_2) x82_3), (wrap64 (x12_2 - 1)), rr, rr, H', ⟨by have := HK1.1; have := HK2.1; have := HK3.1; omega⟩, ⟨rz (R_mono HO_9.1 (fun _ hk => hk.2))⟩, ⟨rk HO140⟩, ⟨kk BK119⟩, ⟨hh HB⟩⟩
noncomputable def m_byName.f (a0 : ByteArray) (a1 : ByteArray) : Option (Int) := if (Op.bytesLess a0.toList a1.toList) = true then (some (-1)) else (if (Op.bytesLess a1.toList a0.toList) = true then (some 1) else (some 0))
theorem m_byName.calls (a0 : ByteArray) (a1 : ByteArray) (r : Int) (w : World) (h : m_byName.f a0 a1 = some r) :
 Calls Try.prog 47 #[.string a0, .string a1] w fun e w' => e = .returned (.int .i64 r) /\ Drawn0 w w' := by
 have H : (if (Op.bytesLess a0.toList a1.toList) = true then (some (-1)) else (if (Op.bytesLess a1.toList a0.toList) = true then (some 1) else (some 0))) = some r := h
 clear h
 by_cases c3 : (Op.bytesLess a0.toList a1.toList) = true
 · rw [if_pos c3] at H
   have c3b0 : (Op.bytesLess a0.toList a1.toList) = true := c3
   clear c3
   obtain rfl := Option.some.inj H
   go_enter Try.func47, Try.ntmps47
   go_wp2
   go_ret
   exact ⟨by first | rfl | (simp; done) | (simp [*]; done), by repeat (first | exact Drawn0.refl _ | apply Drawn0.step)⟩
 rw [if_neg c3] at H
 have c3b0 : (Op.bytesLess a0.toList a1.toList) = false := by simpa using c3
 clear c3
 by_cases c4 : (Op.bytesLess a1.toList a0.toList) = true
 · rw [if_pos c4] at H
   have c4b0 : (Op.bytesLess a1.toList a0.toList) = true := c4
   clear c4
   obtain rfl := Option.some.inj H
   go_enter Try.func47, Try.ntmps47
   go_wp2
   go_ret
   exact ⟨by first | rfl | (simp; done) | (simp [*]; done), by repeat (first | exact Drawn0.refl _ | apply Drawn0.step)⟩
 rw [if_neg c4] at H
 have c4b0 : (Op.bytesLess a1.toList a0.toList) = false := by simpa using c4
 clear c4
 obtain rfl := Option.some.inj H
 go_enter Try.func47, Try.ntmps47
 go_wp2
 go_ret
 exact ⟨by first | rfl | (simp; done) | (simp [*]; done), by repeat (first | exact Drawn0.refl _ | apply Drawn0.step)⟩
end Go.Proofs.Ytmadhaccjmakdaa.P
namespace Go.Proofs
open Go.Shelf
def Try.sortS_ren : Go.Shelf.Ren := ⟨fun | 6 => 60 | 15 => 67 | 14 => 66 | 28 => 77 | 29 => 78 | 20 => 69 | 21 => 70 | 22 => 71 | 23 => 72 | 24 => 73 | 25 => 74 | 26 => 75 | 27 => 76 | 46 => 80 | 47 => 81 | 48 => 82 | 49 => 83 | 50 => 84 | 57 => 85 | n => n, fun | 22 => 25 | 24 => 9 | 25 => 79 | 3 => 3 | 39 => 90 | 0 => 0 | 53 => 109 | 55 => 111 | 4 => 4 | 46 => 103 | 45 => 102 | 50 => 70 | 5 => 5 | 9 => 9 | 66 => 113 | 70 => 117 | 76 => 119 | 77 => 120 | n => n, fun | n => n⟩
theorem Try.sortS : Go.Proofs.SlLaysF.n6 Try.prog Try.sortS_ren := {
 mixed := by kernel_rfl
 f6 := ⟨Try.f60.name, by decide, Try.func60.trans (congrArg some (by kernel_rfl))⟩
 f14 := ⟨Try.f66.name, by decide, Try.func66.trans (congrArg some (by kernel_rfl))⟩
 f15 := Try.func67.trans (congrArg some (by kernel_rfl))
 f20 := ⟨Try.f69.name, by decide, Try.func69.trans (congrArg some (by kernel_rfl))⟩
 f21 := ⟨Try.f70.name, by decide, Try.func70.trans (congrArg some (by kernel_rfl))⟩
 f22 := ⟨Try.f71.name, by decide, Try.func71.trans (congrArg some (by kernel_rfl))⟩
 f23 := ⟨Try.f72.name, by decide, Try.func72.trans (congrArg some (by kernel_rfl))⟩
 f24 := ⟨Try.f73.name, by decide, Try.func73.trans (congrArg some (by kernel_rfl))⟩
 f25 := ⟨Try.f74.name, by decide, Try.func74.trans (congrArg some (by kernel_rfl))⟩
 f26 := ⟨Try.f75.name, by decide, Try.func75.trans (congrArg some (by kernel_rfl))⟩
 f27 := ⟨Try.f76.name, by decide, Try.func76.trans (congrArg some (by kernel_rfl))⟩
 f28 := Try.func77.trans (congrArg some (by kernel_rfl))
 f29 := Try.func78.trans (congrArg some (by kernel_rfl))
 f46 := ⟨Try.f80.name, by decide, Try.func80.trans (congrArg some (by kernel_rfl))⟩
 f47 := Try.func81.trans (congrArg some (by kernel_rfl))
 f48 := Try.func82.trans (congrArg some (by kernel_rfl))
 f49 := ⟨Try.f83.name, by decide, Try.func83.trans (congrArg some (by kernel_rfl))⟩
 f50 := ⟨Try.f84.name, by decide, Try.func84.trans (congrArg some (by kernel_rfl))⟩
 f57 := ⟨Try.f85.name, by decide, Try.func85.trans (congrArg some (by kernel_rfl))⟩
 t0 := Try.underlying0
 a0 := Try.isAgg0
 z0 := Try.sizeOf0
 v0 := Try.zeroValue0
 t3 := Try.underlying3
 a3 := Try.isAgg3
 z3 := Try.sizeOf3
 v3 := Try.zeroValue3
 t4 := Try.underlying4
 a4 := Try.isAgg4
 z4 := Try.sizeOf4
 v4 := Try.zeroValue4
 t5 := Try.underlying5
 a5 := Try.isAgg5
 z5 := Try.sizeOf5
 v5 := Try.zeroValue5
 t9 := Try.underlying9
 a9 := Try.isAgg9
 z9 := Try.sizeOf9
 v9 := Try.zeroValue9
 t22 := Try.underlying25
 a22 := Try.isAgg25
 z22 := Try.sizeOf25
 v22 := Try.zeroValue25
 a24 := Try.isAgg9
 z24 := Try.sizeOf9
 t25 := Try.underlying79
 a25 := Try.isAgg79
 z25 := Try.sizeOf79
 v25 := Try.zeroValue79
 t39 := Try.underlying90
 a39 := Try.isAgg90
 z39 := Try.sizeOf90
 v39 := Try.zeroValue90
 t45 := Try.underlying102
 a45 := Try.isAgg102
 z45 := Try.sizeOf102
 v45 := Try.zeroValue102
 t46 := Try.underlying103
 a46 := Try.isAgg103
 z46 := Try.sizeOf103
 v46 := Try.zeroValue103
 t50 := Try.underlying70
 a50 := Try.isAgg70
 z50 := Try.sizeOf70
 v50 := Try.zeroValue70
 t53 := Try.underlying109
 a53 := Try.isAgg109
 z53 := Try.sizeOf109
 v53 := Try.zeroValue109
 t55 := Try.underlying111
 a55 := Try.isAgg111
 z55 := Try.sizeOf111
 v55 := Try.zeroValue111
 t66 := Try.underlying113
 a66 := Try.isAgg113
 z66 := Try.sizeOf113
 v66 := Try.zeroValue113
 t70 := Try.underlying117
 a70 := Try.isAgg117
 z70 := Try.sizeOf117
 v70 := Try.zeroValue117
 t76 := Try.underlying119
 a76 := Try.isAgg119
 z76 := Try.sizeOf119
 v76 := Try.zeroValue119
 t77 := Try.underlying120
 a77 := Try.isAgg120
 z77 := Try.sizeOf120
 v77 := Try.zeroValue120 }
end Go.Proofs
namespace Go.Proofs.Ytmadhaccjmakdaa
open Go.RowKit Go.Maps Go.Sort Go.Proofs.Yw.A Go.Proofs.Yw.B Go.Proofs.Yw.C
attribute [local go_sem] max2_int min2_int max_two min_two max_three min_three max_four min_four
open P
namespace Mg
theorem keys9 : Maps.Keyed Try.prog 9 := Maps.string_keyed Try.underlying9
theorem zero4 (w : World) : (zeroValue 4).run Try.prog w = .ok (.bool false) w := by kernel_rfl
theorem key9 {x : ByteArray} (hx : x.size <= maxLen) : keyOf Try.prog 9 (.string x) = some (.string x.data.toList) := WideMaps.keyOf_string_mk Try.underlying9 hx
def SetAt (w : World) (b c : Nat) (S : List (List UInt8)) : Prop := ∃ (n : Nat) (D : DataW Unit), w.ownsMap Try.prog 9 (plainElem Try.prog 4) b n D /\ n <= c /\ Maps.IsMap D /\
 (∀ x : ByteArray, x.size <= maxLen -> D.atKey (.string x.data.toList) (.lit (.bool false)) = .lit (.bool (S.contains x.data.toList))) /\
 (∀ x : List UInt8, Maps.has D (.string x) = S.contains x) /\ Maps.size D <= c
theorem SetAt.made (w : World) : SetAt (w.alloc (.map #[] 0)) w.heap.size 0 [] :=
 ⟨0, .map [], World.ownsMap_made _ _ _ _, Nat.le_refl _, Maps.isMap_empty, fun x _ => by simp [DataW.atKey], fun x => by simp [Maps.has], by simp [Maps.size]⟩
theorem SetAt.kept {w w' : World} {b c : Nat} {S : List (List UInt8)} {row : Option Nat} (h : SetAt w b c S) (hg : w.grownBy w' row) (hne : some b ≠ row) : SetAt w' b c S := by
 obtain ⟨n, D, h1, h2⟩ := h
 exact ⟨n, D, h1.kept hg hne, h2⟩
theorem SetAt.below {w w' : World} {b c : Nat} {S : List (List UInt8)} (h : SetAt w b c S) (hb : Below w.heap.size w w') : SetAt w' b c S :=
 h.kept (grown_of_below hb none) (by simp)
theorem SetAt.lt {w : World} {b c : Nat} {S : List (List UInt8)} (h : SetAt w b c S) : b < w.heap.size := by
 obtain ⟨n, D, h1, h2⟩ := h
 exact h1.lt
theorem SetAt.look {w : World} {b c : Nat} {S : List (List UInt8)} (h : SetAt w b c S) (x : ByteArray) (hx : x.size <= maxLen) : (Instr.lookup 76 (.map (some b)) (.string x) false).run Try.prog w = .ok (.bool (S.contains x.data.toList)) w := by
 obtain ⟨n, D, h1, h2, _, h3, _⟩ := h
 obtain ⟨v, ps, hrun, hv⟩ := h1.lookup keys9 Try.underlying76 (zero4 w) (plainElem_bool Try.underlying4 false) (key9 hx)
 rw [h3 x hx] at hv
 rw [hrun]
 unfold plainElem at hv
 rw [Try.underlying4] at hv
 cases v <;> simp at hv
 obtain ⟨rfl, _⟩ := hv
 simp
theorem SetAt.put {w : World} {b c : Nat} {S : List (List UInt8)} (h : SetAt w b c S) (hn : c < maxLen) (x : ByteArray) (hx : x.size <= maxLen) :
 ∃ w', (Instr.mapUpdate 76 (.map (some b)) (.string x) (.bool true)).run Try.prog w = .ok () w' /\ SetAt w' b (c + 1) (S ++ [x.data.toList]) /\ w.grownBy w' (some b) := by
 obtain ⟨n, D, h1, h2, hm, h3, h4, h5⟩ := h
 obtain ⟨w', hrun, h6, hg⟩ := h1.update keys9 Try.underlying76 (Nat.lt_of_le_of_lt h2 hn) (key9 hx) (plainElem_bool Try.underlying4 true)
 refine ⟨w', hrun, ⟨n + 1, _, h6, Nat.succ_le_succ h2, hm.put _ _, fun y hy => ?_, fun y => ?_, ?_⟩, hg⟩
 · by_cases hyx : y.data.toList = x.data.toList
   · rw [hyx, Maps.atKey_put_same hm (by simp [WideAt.IsKeyLit])]
     simp
   · rw [Maps.atKey_put_other (by intro e; injection e with e; exact hyx e), h3 y hy]
     simp [hyx]
 · by_cases hyx : y = x.data.toList
   · rw [hyx, Maps.has_put_same hm (by simp [WideAt.IsKeyLit])]
     simp
   · rw [Maps.has_put_other (by intro e; injection e with e; exact hyx e), h4 y]
     simp [hyx]
 · rw [Maps.size_put (h1.tidy keys9)]
   split <;> omega
def cfN (x y : List UInt8) : Int := if x < y then -1 else if y < x then 1 else 0
theorem ltN (x y : List UInt8) : ltOf cfN x y = decide (x < y) := by
 unfold ltOf cfN
 by_cases h : x < y
 · simp [h]
 by_cases h2 : y < x <;> simp [h, h2]
theorem swoN : SWO (ltOf cfN) where
 irrefl x := by rw [ltN]; simp
 trans x y z h1 h2 := by rw [ltN] at *; simp at *; exact List.lt_trans h1 h2
 ntrans x y z h1 h2 := by
  rw [ltN] at *
  simp at *
  exact List.le_trans h2 h1
theorem totN (x y : List UInt8) (h1 : ltOf cfN x y = false) (h2 : ltOf cfN y x = false) : x = y := by
 rw [ltN] at *
 simp at *
 exact List.le_antisymm h2 h1
theorem geN : (fun x y : List UInt8 => !ltOf cfN y x) = leB := by
 funext x y
 rw [ltN]
 unfold leB
 by_cases h : y < x
 rotate_left
 · have h' : x <= y := List.not_lt.1 h
   simp [h, h']
 have h' : ¬ x <= y := fun e => List.not_lt.2 e h
 simp [h, h']
theorem toL (s : ByteArray) : s.toList = s.data.toList := ByteArray.toList_eq s
theorem closure47 (x y : List UInt8) (W : World) : Calls Try.prog 47 #[encStr x, encStr y] W fun e w' => e = .returned (.int .i64 (cfN x y)) /\ ∃ q, w' = W.drewN q := by
 refine (m_byName.calls ⟨x.toArray⟩ ⟨y.toArray⟩ (cfN x y) W ?_).mono fun e w' ⟨he, hd⟩ => ⟨he, hd.1⟩
 unfold m_byName.f cfN
 rw [toL, toL, bytesLess_eq, bytesLess_eq]
 simp only [List.toList_toArray, decide_eq_true_eq]
 split
 · rfl
 · split <;> rfl
theorem cmp47 (blk off size : Nat) (w : World) : CmpReads Try.prog 47 #[] encStr cfN blk off size w := fun _ _ _ _ x y => closure47 x y _
structure Bx where
 b : Bool
theorem boolElem_inv {v : Value} {y : DataW Unit × List MemPlace} (h : plainElem Try.prog 4 v = some y) : ∃ c : Bx, v = .bool c.b := by
 unfold plainElem at h
 rw [Try.underlying4] at h
 cases v <;> simp at h
 exact ⟨⟨_⟩, rfl⟩
theorem sort_calls (w : World) (g cap : Nat) (ss : List (List UInt8)) (hH : Holds encStr w g 0 ss.toArray) (hg : g < w.heap.size) (hl : ss.length < 4611686018427387904) :
 Calls Try.prog 60 #[.slice (some ⟨g, 0, none⟩) ss.length cap, .func (.func 47) #[] #[]] w fun e w' => e = .returned (.tuple #[]) /\ ∃ n os, w' = grow (putRow encStr (Sort.ahead w n) g 0 (ss.mergeSort leB).toArray) os := by
 have eg : ∀ args w, (callFunc 47 args).run Try.prog w = .ok (.enter 47 args) w := enters_of Try.func47 (by kernel_rfl) rfl
 have hS := Any.slices_SortFunc_total Try.sortS encStr (fun _ => rfl) cfN swoN 47 #[] g 0 cap ss.toArray w eg (cmp47 g 0 ss.toArray.size w).lays hH hg (by simpa using hl) totN
 rw [geN] at hS
 simp only [List.size_toArray] at hS
 exact hS
theorem sort_none (w : World) (p : Option Addr) (cap : Nat) : Calls Try.prog 60 #[.slice p 0 cap, .func (.func 47) #[] #[]] w fun e w' => e = .returned (.tuple #[]) /\ w' = w :=
 AnyF.slices_SortFunc_none (P := Try.prog) (ρ := Try.sortS_ren) { Try.sortS with } p cap (.func (.func 47) #[] #[]) w
structure Elems (S ss : List (List UInt8)) : Prop where
 nodup : ss.Nodup
 mem : ∀ x, x ∈ ss ↔ S.contains x = true
theorem sorted_calls (w : World) {b c : Nat} {S : List (List UInt8)} (h : SetAt w b c S) (hc : c <= 100000000) :
 Calls Try.prog 46 #[.map (some b), .func (.func 47) #[] #[]] w fun e w' => ∃ v ss, e = .returned v /\ Elems S ss /\ ss.length <= c /\ (∀ x ∈ ss, x.length <= maxLen) /\
  w'.ownsRow w.heap.size 9 1 v ss.length ((ss.mergeSort leB).map encStr) /\ Below w.heap.size w w' := by
 obtain ⟨n, D0, hown, h2, hm, h3, h4, h5⟩ := h
 obtain ⟨i0, hi, hz0, hz1, hz2⟩ := info_parts info9
 have hbl := hown.lt
 have hkl := strKeys_le hown Try.underlying9
 clear h3 hm h2
 go_enter Try.func46, Try.ntmps46
 go_wp2_with (first
  | (at_range; refine wpList_range_own _ rfl _ 76 rfl 9 4 keys9 Try.underlying76 _ b n _ rfl hown ?_; intro w0 hrg0 hg0 hs0)
  | go_in)
 go_frame
 go_loopw [5] (fun v wr => ∃ (left : Lit -> Bool) (cnt : Nat) (ss : List (List UInt8)), wr.ranges Try.prog 9 (plainElem Try.prog 4) b w.heap.size n D0 left cnt /\ ss.length + cnt <= Maps.size D0 /\
  wr.ownsRow w.heap.size 9 1 v ss.length (ss.map encStr) /\ Collected D0 left ss /\ Below w.heap.size w wr)
  (fun _ wr => wr.rangeLeft b w.heap.size)
 case atStart => exact ⟨_, _, [], hrg0, by simp, own_nil _ _ _ _, Collected.start D0, (Below.refl _ _).grown hg0 (Nat.le_refl _) (fun j hj => by cases hj)⟩
 case round =>
  obtain ⟨left, cnt, ss, hrg, hcs, hrow, hC, hnx⟩ := hrel
  go_wp2_with (first
   | (at_next; refine wpList_next_ranges _ rfl _ rfl 9 keys9 (plainElem Try.prog 4) encStr (fun x : Bx => Value.bool x.b) (fun key kl hk => by obtain ⟨x, hx, _⟩ := Maps.keyOf_str Try.underlying9 hk; exact ⟨x, hx⟩) (fun v y hv => boolElem_inv hv) b w.heap.size n _ _ _ rfl hrg ?_ ?_)
   | go_in)
  · intro hc0 hl0
    have hE : Elems S ss := ⟨hC.1, fun x => by rw [hC.2 x, hl0, h4]; simp⟩
    have hpm := hC.perm hown keys9 Try.underlying9 hl0
    have hle : ∀ x ∈ ss, x.length <= maxLen := fun x hx => hkl x (hpm.mem_iff.1 hx)
    have hsc : ss.length <= c := by omega
    have HE := Az.mk hE
    have HLE := Az.mk hle
    have HSC := Az.mk hsc
    have HNX := Az.mk hnx
    rcases hrow.2 with ⟨rfl, hn0⟩ | ⟨g, cap, cur, rfl, hbase, hb, h1, h6, h7, h8⟩
    · have hss : ss = [] := List.eq_nil_of_length_eq_zero hn0
      subst hss
      clear hrow hC hE hpm hle hsc hnx hcs hrg
      go_wp2_with (first | (go_at_call 60; refine (sort_none _ none 0).mono ?_; rintro e w' ⟨rfl, rfl⟩))
      go_ret
      exact ⟨.slice none 0 0, [], rfl, HE.1, HSC.1, HLE.1, by simpa using own_nil _ _ _ _, HNX.1⟩
    · have hH : Holds encStr wr g 0 ss.toArray := holds_of_block hb (by simpa using h8)
      have hgl : g < wr.heap.size := (Array.getElem?_eq_some_iff.1 hb).1
      have hcall := sort_calls wr g cap ss hH hgl (by omega)
      have HB := Az.mk hb
      have H1 := Az.mk (And.intro hbase (And.intro h1 (And.intro h6 h7)))
      clear hrow hC hE hpm hle hsc hnx hcs hrg hH hgl hb hbase h1 h6 h7 h8
      go_wp2_with (first | (go_at_call 60; refine hcall.mono ?_; rintro e w' ⟨rfl, nn, os, rfl⟩))
      go_ret
      exact ⟨_, ss, rfl, HE.1, HSC.1, HLE.1, ownsRow_sorted (by simp) H1.1.1 HB.1 H1.1.2.1 H1.1.2.2.1 H1.1.2.2.2, HNX.1.grown (grownBy_sorted _) HNX.1.size (fun j hj => by cases hj; exact H1.1.1)⟩
  · intro x c kl yd yp w2 cnt2 hkey hlk hv hat hrg2 hlt hg2 hs2 hen
    obtain ⟨x', ex, rfl, _⟩ := Maps.keyOf_str Try.underlying9 hkey
    obtain rfl : x = x' := encStr_inj ex
    have hrow2 := hrow.kept hg2 (Or.inr (row_ne_iter hrow hrg).symm)
    clear hs2
    go_wp2_with (first
     | (at_builtin; refine wpList_append_own _ rfl _ _ 25 rfl w.heap.size 9 i0 (.string ⟨#[]⟩) 1 16 Try.underlying25 hi hz0 hz1 hz2 rfl (by decide) _ _ _ rfl (hrow2.alloc _) ⟨w2.heap.size, 0, none⟩ 1 1 [encStr x] rfl rfl (cell_one_new _ _ _) (by simp [Value.oneCell', encStr]) (by unfold maxLen at *; omega) (by omega) (by have := hnx.size; have := hg2.size; simp; omega) ?_; intro v' w3 hown' hg3 hnil3; go_frame)
     | go_in)
    have hrg3 := (hrg2.alloc _).kept hg3 (row_ne_low hrow2 hbl) (row_ne_iter hrow2 hrg2)
    go_roundw
    case rel =>
     refine ⟨_, cnt2, ss ++ [x], hrg3, by simp; omega, by simpa using hown', hC.step hlk hat, ?_⟩
     exact ((hnx.grown hg2 hnx.size (fun j hj => by cases hj; exact Nat.le_refl _)).alloc (by have := hnx.size; have := hg2.size; omega) _).grown hg3 (by have := hnx.size; have := hg2.size; simp; omega) (fun j hj => (hrow2.lt j hj).1)
    case measure => rw [hrg3.left_eq, hrg.left_eq]; exact hlt
end Mg
end Go.Proofs.Ytmadhaccjmakdaa
namespace Go.Proofs
open Go.Shelf
def Try.lays21_ren : Go.Shelf.Ren := ⟨fun | 21 => 54 | 27 => 62 | 28 => 63 | 35 => 68 | 39 => 79 | n => n, fun | 22 => 55 | 3 => 3 | 4 => 4 | 0 => 0 | n => n, fun | n => n⟩
theorem Try.lays21 : Go.Proofs.Lays2.n21 Try.prog Try.lays21_ren := {
 mixed := by kernel_rfl
 f21 := Try.func54.trans (congrArg some (by kernel_rfl))
 f27 := Try.func62.trans (congrArg some (by kernel_rfl))
 f28 := Try.func63.trans (congrArg some (by kernel_rfl))
 f35 := Try.func68.trans (congrArg some (by kernel_rfl))
 f39 := Try.func79.trans (congrArg some (by kernel_rfl))
 t0 := Try.underlying0
 a0 := Try.isAgg0
 z0 := Try.sizeOf0
 v0 := Try.zeroValue0
 t3 := Try.underlying3
 a3 := Try.isAgg3
 z3 := Try.sizeOf3
 v3 := Try.zeroValue3
 t4 := Try.underlying4
 a4 := Try.isAgg4
 z4 := Try.sizeOf4
 v4 := Try.zeroValue4
 t22 := Try.underlying55
 a22 := Try.isAgg55
 z22 := Try.sizeOf55
 v22 := Try.zeroValue55
 i3 := by kernel_rfl }
def Try.lays26_ren : Go.Shelf.Ren := ⟨fun | 26 => 42 | 33 => 56 | 34 => 57 | 38 => 64 | n => n, fun | 24 => 25 | 9 => 9 | 3 => 3 | 4 => 4 | 40 => 90 | 0 => 0 | n => n, fun | n => n⟩
theorem Try.lays26 : Go.Proofs.Lays2.n26 Try.prog Try.lays26_ren := {
 mixed := by kernel_rfl
 f26 := Try.func42.trans (congrArg some (by kernel_rfl))
 f33 := Try.func56.trans (congrArg some (by kernel_rfl))
 f34 := Try.func57.trans (congrArg some (by kernel_rfl))
 f38 := Try.func64.trans (congrArg some (by kernel_rfl))
 t0 := Try.underlying0
 a0 := Try.isAgg0
 z0 := Try.sizeOf0
 v0 := Try.zeroValue0
 t3 := Try.underlying3
 a3 := Try.isAgg3
 z3 := Try.sizeOf3
 v3 := Try.zeroValue3
 t4 := Try.underlying4
 a4 := Try.isAgg4
 z4 := Try.sizeOf4
 v4 := Try.zeroValue4
 t9 := Try.underlying9
 a9 := Try.isAgg9
 z9 := Try.sizeOf9
 v9 := Try.zeroValue9
 t24 := Try.underlying25
 a24 := Try.isAgg25
 z24 := Try.sizeOf25
 v24 := Try.zeroValue25
 t40 := Try.underlying90
 a40 := Try.isAgg90
 z40 := Try.sizeOf90
 v40 := Try.zeroValue90 }
def Try.delS_ren : Go.Shelf.Ren := ⟨fun | 10 => 44 | 6 => 59 | n => n, fun | 22 => 25 | 23 => 9 | 25 => 74 | 3 => 3 | 4 => 4 | 0 => 0 | n => n, fun | n => n⟩
theorem Try.delS : Go.Proofs.SlLaysH.n10 Try.prog Try.delS_ren := {
 mixed := by kernel_rfl
 f6 := ⟨Try.f59.name, by decide, Try.func59.trans (congrArg some (by kernel_rfl))⟩
 f10 := ⟨Try.f44.name, by decide, Try.func44.trans (congrArg some (by kernel_rfl))⟩
 t0 := Try.underlying0
 a0 := Try.isAgg0
 z0 := Try.sizeOf0
 v0 := Try.zeroValue0
 t3 := Try.underlying3
 a3 := Try.isAgg3
 z3 := Try.sizeOf3
 v3 := Try.zeroValue3
 t4 := Try.underlying4
 a4 := Try.isAgg4
 z4 := Try.sizeOf4
 v4 := Try.zeroValue4
 t22 := Try.underlying25
 a22 := Try.isAgg25
 z22 := Try.sizeOf25
 v22 := Try.zeroValue25
 a23 := Try.isAgg9
 z23 := Try.sizeOf9
 t25 := Try.underlying74
 a25 := Try.isAgg74
 z25 := Try.sizeOf74
 v25 := Try.zeroValue74 }
end Go.Proofs
namespace Go.Proofs.Ytmadhaccjmakdaa
open Go.RowKit Go.Maps Go.Sort Go.Proofs.Yw.A Go.Proofs.Yw.B Go.Proofs.Yw.C
attribute [local go_sem] max2_int min2_int max_two min_two max_three min_three max_four min_four
open P
namespace Mg
abbrev nm (m : S42) : List UInt8 := m.f0.data.toList
abbrev im (i : S66) : List UInt8 := i.f0.data.toList
def twice : List S42 -> List (List UInt8) -> Option ByteArray
 | [], _ => none
 | m :: l, seen => if seen.contains (nm m) then some m.f0 else twice l (seen ++ [nm m])
def missI (K : List (List UInt8)) : List S66 -> Option ByteArray
 | [] => none
 | i :: l => if K.contains (im i) then missI K l else some i.f0
def miss (K : List (List UInt8)) : List S42 -> Option ByteArray
 | [] => none
 | m :: l => match missI K m.f3 with
  | some x => some x
  | none => miss K l
theorem drop_rd (l : List S42) (x : Int) (h0 : 0 <= x) (h1 : x < l.length) : l.drop x.toNat = rd_T42 l x :: l.drop (x.toNat + 1) := by
 have hi : x.toNat < l.length := by omega
 rw [List.drop_eq_getElem_cons hi]
 simp [rd_T42, List.getD_eq_getElem?_getD, List.getElem?_eq_getElem hi]
theorem take_rd (l : List S42) (x : Int) (h0 : 0 <= x) (h1 : x < l.length) : l.take (x.toNat + 1) = l.take x.toNat ++ [rd_T42 l x] := by
 have hi : x.toNat < l.length := by omega
 rw [List.take_add_one, List.getElem?_eq_getElem hi]
 simp [rd_T42, List.getD_eq_getElem?_getD, List.getElem?_eq_getElem hi]
theorem twice_none : ∀ (l : List S42) (seen : List (List UInt8)), seen.Nodup -> twice l seen = none -> (seen ++ l.map nm).Nodup := by
 intro l
 induction l with
 | nil => intro seen hs _; simpa using hs
 | cons m l ih =>
  intro seen hs h
  unfold twice at h
  by_cases hc : seen.contains (nm m) = true
  · rw [if_pos hc] at h; cases h
  rw [if_neg hc] at h
  have hm : nm m ∉ seen := fun e => hc (List.contains_iff_mem.2 e)
  have h2 := ih (seen ++ [nm m]) (by
   rw [List.nodup_append]
   exact ⟨hs, by simp, fun a ha b hb => by
    rw [List.mem_singleton.1 hb]
    exact fun e => hm (e ▸ ha)⟩) h
  simpa using h2
theorem drop_rdI (l : List S66) (x : Int) (h0 : 0 <= x) (h1 : x < l.length) : l.drop x.toNat = rd_T66 l x :: l.drop (x.toNat + 1) := by
 have hi : x.toNat < l.length := by omega
 rw [List.drop_eq_getElem_cons hi]
 simp [rd_T66, List.getD_eq_getElem?_getD, List.getElem?_eq_getElem hi]
theorem take_rdI (l : List S66) (x : Int) (h0 : 0 <= x) (h1 : x < l.length) : l.take (x.toNat + 1) = l.take x.toNat ++ [rd_T66 l x] := by
 have hi : x.toNat < l.length := by omega
 rw [List.take_add_one, List.getElem?_eq_getElem hi]
 simp [rd_T66, List.getD_eq_getElem?_getD, List.getElem?_eq_getElem hi]
theorem mem_rd (l : List S42) (x : Int) (h0 : 0 <= x) (h1 : x < l.length) : rd_T42 l x ∈ l := by
 have hi : x.toNat < l.length := by omega
 have : rd_T42 l x = l[x.toNat] := by simp [rd_T42, List.getD_eq_getElem?_getD, List.getElem?_eq_getElem hi]
 rw [this]; exact List.getElem_mem hi
theorem mem_rdI (l : List S66) (x : Int) (h0 : 0 <= x) (h1 : x < l.length) : rd_T66 l x ∈ l := by
 have hi : x.toNat < l.length := by omega
 have : rd_T66 l x = l[x.toNat] := by simp [rd_T66, List.getD_eq_getElem?_getD, List.getElem?_eq_getElem hi]
 rw [this]; exact List.getElem_mem hi
theorem name_new (l : List S42) (x : Int) (h0 : 0 <= x) (h1 : x < l.length) (h : twice l [] = none) : nm (rd_T42 l x) ∉ (l.take x.toNat).map nm := by
 have hn := twice_none l [] List.nodup_nil h
 have e : l.map nm = (l.take x.toNat).map nm ++ (nm (rd_T42 l x) :: (l.drop (x.toNat + 1)).map nm) := by
  rw [<- List.map_cons, <- drop_rd l x h0 h1, <- List.map_append, List.take_append_drop]
 rw [List.nil_append, e, List.nodup_append] at hn
 exact fun hm => hn.2.2 _ hm _ List.mem_cons_self rfl
def dd : List (List UInt8) -> List (List UInt8)
 | [] => []
 | a :: l => if (dd l).contains a then dd l else a :: dd l
theorem dd_elems : ∀ S : List (List UInt8), Elems S (dd S) := by
 intro S
 induction S with
 | nil => exact ⟨List.nodup_nil, fun x => by simp [dd]⟩
 | cons a l ih =>
  unfold dd
  by_cases h : (dd l).contains a = true
  rotate_left
  · rw [if_neg h]
    refine ⟨List.nodup_cons.2 ⟨fun e => h (List.contains_iff_mem.2 e), ih.nodup⟩, fun x => ?_⟩
    have := ih.mem x
    simp only [List.contains_iff_mem, List.mem_cons] at this ⊢
    rw [this]
  rw [if_pos h]
  refine ⟨ih.nodup, fun x => ?_⟩
  rw [ih.mem x]
  have ha := (ih.mem a).1 (List.contains_iff_mem.1 h)
  simp only [List.contains_iff_mem, List.mem_cons] at ha ⊢
  exact ⟨.inr, fun e => e.elim (fun e => e ▸ ha) id⟩
def asc (S : List (List UInt8)) : List (List UInt8) := (dd S).mergeSort leB
theorem Elems.asc {S ss : List (List UInt8)} (h : Elems S ss) : ss.mergeSort leB = asc S :=
 mergeSort_of_perm ((List.perm_ext_iff_of_nodup h.nodup (dd_elems S).nodup).2 (fun x => by rw [h.mem, (dd_elems S).mem]))
def bz (x : List UInt8) : ByteArray := ⟨x.toArray⟩
def rank (L : List (List UInt8)) (y : List UInt8) : Nat := (L.takeWhile (fun s => decide (s < y))).length
def impsL (l : List S42) (n : List UInt8) : List (List UInt8) := ((l.find? (fun m => nm m == n)).map (fun m => m.f3.map im)).getD []
def edgeOf (l : List S42) (n : List UInt8) : List Int := (asc (impsL l n)).map (fun y => (rank (asc (l.map nm)) y : Int))
def namesOf (l : List S42) : List ByteArray := (asc (l.map nm)).map bz
def edgesOf (l : List S42) : List (List Int) := (asc (l.map nm)).map (edgeOf l)
def MadePost (w : World) (r1 : List ByteArray) (r2 : List (List Int)) (r3 : Int) (r4 : ByteArray) (e : Ending) (w' : World) : Prop :=
 ∃ v0_ v1_ : Value, e = .returned (.tuple #[.agg #[v0_, v1_], .agg #[.int .i64 r3, .string r4, .int .i64 0, .int .i64 0]]) /\ Kd.R Kd.string 9 w' w.heap.size (fun _ => True) v0_ r1 /\ Kd.S (Kd.slice 3 (Kd.int .i64)) 55 w' w.heap.size (fun _ => True) v1_ r2 /\ Below w.heap.size w w'
theorem post_fault (w w' : World) (c : Int) (x : ByteArray) (hb : Below w.heap.size w w') : MadePost w [] [] c x (.returned (.tuple #[.agg #[.slice none 0 0, .slice none 0 0], .agg #[.int .i64 c, .string x, .int .i64 0, .int .i64 0]])) w' :=
 ⟨_, _, rfl, Kd.R_nil _ _ _ _ _, Kd.S_nil _ _ _ _ _, hb⟩
structure RZ (w : World) (B : Nat) : Prop where
 p : w.heap[B]? = some (.cells #[.slice none 0 0, .slice none 0 0] 51 (0, 0))
 f : w.heap[B + 1]? = some (.cells #[.int .i64 0, .string ⟨#[]⟩, .int .i64 0, .int .i64 0] 28 (0, 0))
theorem RZ.below {w w' : World} {B : Nat} (h : RZ w B) (hb : Below w.heap.size w w') : RZ w' B := ⟨blk_below h.p hb, blk_below h.f hb⟩
theorem make76 (w : World) : Sem.run Try.prog (Instr.makeMap 76 none) w = .ok (.map (some w.heap.size)) (w.alloc (.map #[] 0)) := rfl
theorem make77 (w : World) : Sem.run Try.prog (Instr.makeMap 77 none) w = .ok (.map (some w.heap.size)) (w.alloc (.map #[] 0)) := rfl
theorem hi51 : (Try.prog.info? 51).map (·.size) = some 2 := by kernel_rfl
theorem hi28 : (Try.prog.info? 28).map (·.size) = some 4 := by kernel_rfl
theorem rz_new (w : World) : RZ ((w.alloc (Obj.cells #[Value.slice none 0 0, Value.slice none 0 0] 51)).alloc (Obj.cells #[Value.int .i64 0, Value.string ⟨#[]⟩, Value.int .i64 0, Value.int .i64 0] 28)) w.heap.size := by
 have h1 := (MapKept.heap_alloc w (Obj.cells #[Value.slice none 0 0, Value.slice none 0 0] 51)).1
 have h2 := (MapKept.heap_alloc (w.alloc (Obj.cells #[Value.slice none 0 0, Value.slice none 0 0] 51)) (Obj.cells #[Value.int .i64 0, Value.string ⟨#[]⟩, Value.int .i64 0, Value.int .i64 0] 28)).1
 have e : (w.alloc (Obj.cells #[Value.slice none 0 0, Value.slice none 0 0] 51)).heap.size = w.heap.size + 1 := by simp
 rw [e] at h2
 exact ⟨blk_alloc h1 _, h2⟩
def R77 : Value -> Option (DataW Unit × List MemPlace)
 | .map none => some (.lit (.bool false), [])
 | .map (some b) => some (.lit (.int .i64 b), [])
 | _ => none
abbrev Ent := List UInt8 × Nat × List (List UInt8)
def gof (E : List Ent) (y : List UInt8) : Option Nat := (E.find? (fun e => e.1 == y)).map (·.2.1)
def ImAt (w : World) (b c : Nat) (E : List Ent) : Prop := ∃ (n : Nat) (D : DataW Unit), w.ownsMap Try.prog 9 R77 b n D /\ n <= c /\ Maps.IsMap D /\
 ∀ x : ByteArray, x.size <= maxLen -> D.atKey (.string x.data.toList) (.lit (.bool false)) = match gof E x.data.toList with | none => .lit (.bool false) | some k => .lit (.int .i64 k)
theorem zero76 (w : World) : (zeroValue 76).run Try.prog w = .ok (.map none) w := by kernel_rfl
theorem ImAt.made (w : World) : ImAt (w.alloc (.map #[] 0)) w.heap.size 0 [] :=
 ⟨0, .map [], World.ownsMap_made _ _ _ _, Nat.le_refl _, Maps.isMap_empty, fun x _ => by simp [DataW.atKey, gof]⟩
theorem ImAt.kept {w w' : World} {b c : Nat} {E : List Ent} {row : Option Nat} (h : ImAt w b c E) (hg : w.grownBy w' row) (hne : some b ≠ row) : ImAt w' b c E := by
 obtain ⟨n, D, h1, h2⟩ := h
 exact ⟨n, D, h1.kept hg hne, h2⟩
theorem ImAt.below {w w' : World} {b c : Nat} {E : List Ent} (h : ImAt w b c E) (hb : Below w.heap.size w w') : ImAt w' b c E :=
 h.kept (grown_of_below hb none) (by simp)
theorem ImAt.lt {w : World} {b c : Nat} {E : List Ent} (h : ImAt w b c E) : b < w.heap.size := by
 obtain ⟨n, D, h1, h2⟩ := h
 exact h1.lt
theorem ImAt.look {w : World} {b c : Nat} {E : List Ent} (h : ImAt w b c E) (x : ByteArray) (hx : x.size <= maxLen) : (Instr.lookup 77 (.map (some b)) (.string x) false).run Try.prog w = .ok (.map (gof E x.data.toList)) w := by
 obtain ⟨n, D, h1, h2, _, h3⟩ := h
 obtain ⟨v, ps, hrun, hv⟩ := h1.lookup keys9 Try.underlying77 (zero76 w) (show R77 (.map none) = some (.lit (.bool false), []) from rfl) (key9 hx)
 rw [h3 x hx] at hv
 rw [hrun]
 cases hg : gof E x.data.toList with
 | none =>
  rw [hg] at hv
  unfold R77 at hv
  split at hv
  · rfl
  · simp at hv
  · cases hv
 | some k =>
  rw [hg] at hv
  unfold R77 at hv
  split at hv
  · simp at hv
  · rename_i b'
    have : b' = k := by
     have h := hv
     simp at h
     omega
    subst this
    rfl
  · cases hv
theorem gof_snoc (E : List Ent) (e : Ent) (y : List UInt8) (h : gof E e.1 = none) : gof (E ++ [e]) y = if y = e.1 then some e.2.1 else gof E y := by
 unfold gof at *
 rw [List.find?_append]
 by_cases hy : y = e.1
 · subst hy
   have : E.find? (fun e' => e'.1 == e.1) = none := by simpa using h
   rw [this]
   simp
 have hy2 : (e.1 == y) = false := by simpa using fun h => hy h.symm
 rw [if_neg hy]
 cases hf : E.find? (fun e' => e'.1 == y) with
 | none => simp [List.find?, hy2]
 | some z => simp
theorem ImAt.put {w : World} {b c : Nat} {E : List Ent} (h : ImAt w b c E) (hn : c < maxLen) (x : ByteArray) (hx : x.size <= maxLen) (k : Nat) (S : List (List UInt8)) (hnew : gof E x.data.toList = none) :
 ∃ w', (Instr.mapUpdate 77 (.map (some b)) (.string x) (.map (some k))).run Try.prog w = .ok () w' /\ ImAt w' b (c + 1) (E ++ [(x.data.toList, k, S)]) /\ w.grownBy w' (some b) := by
 obtain ⟨n, D, h1, h2, hm, h3⟩ := h
 obtain ⟨w', hrun, h6, hg⟩ := h1.update keys9 Try.underlying77 (Nat.lt_of_le_of_lt h2 hn) (key9 hx) (show R77 (.map (some k)) = some (.lit (.int .i64 k), []) from rfl)
 refine ⟨w', hrun, ⟨n + 1, _, h6, Nat.succ_le_succ h2, hm.put _ _, fun y hy => ?_⟩, hg⟩
 rw [gof_snoc E _ _ hnew]
 by_cases hyx : y.data.toList = x.data.toList
 · rw [hyx, Maps.atKey_put_same hm (by simp [WideAt.IsKeyLit]), if_pos rfl]
 rw [Maps.atKey_put_other (by intro e; injection e with e; exact hyx e), h3 y hy, if_neg hyx]
theorem ImAt.retell {w : World} {b c : Nat} {E E' : List Ent} (h : ImAt w b c E) (he : ∀ y, gof E' y = gof E y) : ImAt w b c E' := by
 obtain ⟨n, D, h1, h2, hm, h3⟩ := h
 exact ⟨n, D, h1, h2, hm, fun x hx => by rw [he]; exact h3 x hx⟩
theorem gof_none {E : List Ent} {y : List UInt8} (h : y ∉ E.map (·.1)) : gof E y = none := by
 unfold gof
 have : E.find? (fun e => e.1 == y) = none := by
  rw [List.find?_eq_none]
  intro e he hc
  exact h (List.mem_map.2 ⟨e, he, by simpa using hc⟩)
 rw [this]; rfl
theorem gof_imps {E : List Ent} {l : List S42} (h : E.map (fun e => (e.1, e.2.2)) = l.map (fun m => (nm m, m.f3.map im))) {n : List UInt8} (hn : n ∈ l.map nm) : ∃ e ∈ E, gof E n = some e.2.1 /\ e.2.2 = impsL l n := by
 induction l generalizing E with
 | nil => simp at hn
 | cons m l ih =>
  cases E with
  | nil => simp at h
  | cons e E =>
   simp only [List.map_cons, List.cons.injEq, Prod.mk.injEq] at h
   obtain ⟨⟨h1, h2⟩, h3⟩ := h
   by_cases hm : nm m = n
   · refine ⟨e, List.mem_cons_self, ?_, ?_⟩
     · unfold gof
       rw [List.find?_cons_of_pos (by rw [h1, hm]; simp)]
       rfl
     · unfold impsL
       rw [List.find?_cons_of_pos (by simpa using hm), h2]
       rfl
   have hn2 : n ∈ l.map nm := by
    rcases List.mem_cons.1 (by simpa using hn : n ∈ nm m :: l.map nm) with e | e
    · exact absurd e.symm hm
    · exact e
   obtain ⟨e2, a, b, c⟩ := ih h3 hn2
   refine ⟨e2, List.mem_cons_of_mem _ a, ?_, ?_⟩
   · unfold gof at b ⊢
     rw [List.find?_cons_of_neg (by rw [h1]; simpa using hm)]
     exact b
   · unfold impsL at c ⊢
     rw [List.find?_cons_of_neg (by simpa using hm)]
     exact c
theorem gof_last_self (E : List Ent) (n : List UInt8) (k : Nat) (S : List (List UInt8)) (h : gof E n = none) : gof (E ++ [(n, k, S)]) n = some k := by
 rw [gof_snoc E _ _ h, if_pos rfl]
theorem gof_last (E : List Ent) (n : List UInt8) (k : Nat) (S S' : List (List UInt8)) (y : List UInt8) : gof (E ++ [(n, k, S)]) y = gof (E ++ [(n, k, S')]) y := by
 unfold gof
 rw [List.find?_append, List.find?_append]
 cases E.find? (fun e => e.1 == y) with
 | none => by_cases hy : (n == y) = true <;> simp [List.find?, hy]
 | some z => rfl
theorem SetAt.more {w : World} {b c c' : Nat} {S : List (List UInt8)} (h : SetAt w b c S) (hc : c <= c') : SetAt w b c' S := by
 obtain ⟨n, D, h1, h2, h3, h4, h5, h6⟩ := h
 exact ⟨n, D, h1, by omega, h3, h4, h5, by omega⟩
def Sets (w : World) (E : List Ent) : Prop := ∀ e ∈ E, SetAt w e.2.1 100000 e.2.2
theorem Sets.kept {w w' : World} {E : List Ent} {row : Option Nat} (h : Sets w E) (hg : w.grownBy w' row) (hne : ∀ e ∈ E, some e.2.1 ≠ row) : Sets w' E := fun e he => (h e he).kept hg (hne e he)
theorem Sets.below {w w' : World} {E : List Ent} (h : Sets w E) (hb : Below w.heap.size w w') : Sets w' E := fun e he => (h e he).below hb
structure Imp (w0 w : World) (bi : Nat) (K : List (List UInt8)) (c : Nat) (E E' : List Ent) : Prop where
 known : SetAt w (w0.heap.size + 1 + 1) 100 K
 rz : RZ w w0.heap.size
 im : ImAt w bi c E'
 sets : Sets w E
 ne : ∀ e ∈ E, bi < e.2.1
 lo : w0.heap.size + 1 + 1 < bi
 bel : Below w0.heap.size w0 w
theorem Imp.below {w0 w w' : World} {bi : Nat} {K : List (List UInt8)} {c : Nat} {E E' : List Ent} (h : Imp w0 w bi K c E E') (hb : Below w.heap.size w w') : Imp w0 w' bi K c E E' :=
 ⟨h.known.below hb, h.rz.below hb, h.im.below hb, h.sets.below hb, h.ne, h.lo, h.bel.trans (hb.mono h.bel.size)⟩
theorem Imp.grown {w0 w w' : World} {bi k : Nat} {K : List (List UInt8)} {c c' : Nat} {E E' E2 : List Ent} (h : Imp w0 w bi K c E E') (hg : w.grownBy w' (some k)) (hk : bi <= k) (hs : ∀ e ∈ E, e.2.1 ≠ k) (him : ImAt w' bi c' E2) : Imp w0 w' bi K c' E E2 := by
 have hlo := h.lo
 exact ⟨h.known.kept hg (by intro e; injection e with e; omega), ⟨blk_grown h.rz.p hg (by intro e; injection e with e; omega), blk_grown h.rz.f hg (by intro e; injection e with e; omega)⟩, him, h.sets.kept hg (fun e he hc => by injection hc with hc; exact hs e he hc), h.ne, hlo, h.bel.grown hg h.bel.size (fun j hj => by injection hj with hj; omega)⟩
def faulted (w : World) (B : Nat) (c : Int) (x : ByteArray) : World :=
 ((((((w.setCell ⟨B, 0, none⟩ (.slice none 0 0)).setCell ⟨B, 1, none⟩ (.slice none 0 0)).setCell ⟨B + 1, 0, none⟩ (.int .i64 c)).setCell ⟨B + 1, 1, none⟩ (.string x)).setCell ⟨B + 1, 2, none⟩ (.int .i64 0)).setCell ⟨B + 1, 3, none⟩ (.int .i64 0))
theorem faulted_p {w : World} {B : Nat} (h : RZ w B) (c : Int) (x : ByteArray) : (faulted w B c x).heap[B]? = some (.cells #[.slice none 0 0, .slice none 0 0] 51 (0, 0)) := by
 have hf : ∀ j, B ≠ (⟨B + 1, j, none⟩ : Addr).block := fun j => by show B ≠ B + 1; omega
 exact blk_far (blk_far (blk_far (blk_far (blk_put (blk_put h.p 0 _ rfl) 1 _ rfl) (hf 0) _) (hf 1) _) (hf 2) _) (hf 3) _
theorem faulted_f {w : World} {B : Nat} (h : RZ w B) (c : Int) (x : ByteArray) : (faulted w B c x).heap[B + 1]? = some (.cells #[.int .i64 c, .string x, .int .i64 0, .int .i64 0] 28 (0, 0)) := by
 have hf : ∀ j, B + 1 ≠ (⟨B, j, none⟩ : Addr).block := fun j => by show B + 1 ≠ B; omega
 exact blk_put (blk_put (blk_put (blk_put (blk_far (blk_far h.f (hf 0) _) (hf 1) _) 0 _ rfl) 1 _ rfl) 2 _ rfl) 3 _ rfl
theorem faulted_below {w W : World} {B : Nat} (h : Below B w W) (c : Int) (x : ByteArray) : Below B w (faulted W B c x) := by
 unfold faulted
 exact (((((h.setCell (Nat.le_refl _) _).setCell (Nat.le_refl _) _).setCell (Nat.le_succ _) _).setCell (Nat.le_succ _) _).setCell (Nat.le_succ _) _).setCell (Nat.le_succ _) _
theorem leB_pair (L : List (List UInt8)) : (L.mergeSort leB).Pairwise (fun a b => a <= b) := by
 have h := List.pairwise_mergeSort (le := leB) (fun a b c h1 h2 => by unfold leB at *; simp at *; exact List.le_trans h1 h2) (fun a b => by unfold leB; simp; exact List.le_total a b) L
 exact h.imp (fun hab => by unfold leB at hab; simpa using hab)
theorem rank_cons (a : List UInt8) (L : List (List UInt8)) (y : List UInt8) : rank (a :: L) y = if a < y then rank L y + 1 else 0 := by
 unfold rank
 by_cases ha : a < y
 rotate_left
 · rw [List.takeWhile_cons_of_neg (by simpa using ha), if_neg ha]; rfl
 rw [List.takeWhile_cons_of_pos (by simpa using ha), if_pos ha]; rfl
theorem rank_lt : ∀ (L : List (List UInt8)) (y : List UInt8) (t : Nat), t < rank L y -> ∃ ht : t < L.length, L[t] < y := by
 intro L y
 induction L with
 | nil => intro t h; simp [rank] at h
 | cons a L ih =>
  intro t h
  rw [rank_cons] at h
  by_cases ha : a < y
  rotate_left
  · rw [if_neg ha] at h; omega
  rw [if_pos ha] at h
  cases t with
  | zero => exact ⟨by simp, ha⟩
  | succ t =>
   obtain ⟨h1, h2⟩ := ih t (by omega)
   exact ⟨by simpa using h1, by simpa using h2⟩
theorem rank_ge : ∀ (L : List (List UInt8)) (y : List UInt8), L.Pairwise (fun a b => a <= b) -> ∀ t (ht : t < L.length), rank L y <= t -> ¬ L[t] < y := by
 intro L y
 induction L with
 | nil => intro _ t ht; simp at ht
 | cons a L ih =>
  intro hp t ht hr
  have hp2 := List.pairwise_cons.1 hp
  by_cases ha : a < y
  · have e : rank (a :: L) y = rank L y + 1 := by rw [rank_cons, if_pos ha]
    cases t with
    | zero => omega
    | succ t => exact ih hp2.2 t (by simpa using ht) (by omega)
  cases t with
  | zero => exact ha
  | succ t =>
   have hm : L[t]'(by simpa using ht) ∈ L := List.getElem_mem _
   have hle := hp2.1 _ hm
   intro hlt
   exact ha (List.lt_of_le_of_lt hle hlt)
theorem rank_le (L : List (List UInt8)) (y : List UInt8) : rank L y <= L.length := (List.takeWhile_sublist _).length_le
theorem rd_bz (L : List (List UInt8)) (y : Int) (h0 : 0 <= y) (h1 : y < L.length) : ∃ h : y.toNat < L.length, rdOf ByteArray.empty (L.map bz) y = bz L[y.toNat] := by
 have hi : y.toNat < L.length := by omega
 exact ⟨hi, by simp [rdOf, List.getD_eq_getElem?_getD, List.getElem?_eq_getElem hi]⟩
theorem bz_list (x : List UInt8) : (bz x).data.toList = x := by simp [bz]
theorem names_row {w : World} {base n : Nat} {v : Value} {L : List (List UInt8)} (hn : n = L.length) (h : w.ownsRow base 9 1 v n (L.map encStr)) : Kd.string.R 9 w base (fun _ => True) v (L.map bz) := by
 refine Kd.R_of_own ?_ (fun _ _ => trivial)
 rw [List.length_map, <- hn]
 have e : encs Value.string (L.map bz) = L.map encStr := by unfold encs; rw [List.map_map]; rfl
 rw [e]
 exact h
theorem search_calls (w : World) (g c : Nat) (L : List (List UInt8)) (s : ByteArray) (hC : Kd.C Kd.string w (some ⟨g, 0, none⟩) L.length (L.map bz)) (hp : L.Pairwise (fun a b => a <= b)) (hl : L.length <= 100) :
 Calls Try.prog 42 #[.slice (some ⟨g, 0, none⟩) L.length c, .string s] w fun e w' => ∃ b, e = .returned (.tuple #[.int .i64 (rank L s.data.toList : Nat), .bool b]) /\ Drawn0 w w' := by
 have hcell : ∀ j, j < L.length -> w.cell? ⟨g, 0 + j, none⟩ = some (.string ((L.map bz).getD j s)) := by
  intro j hj
  obtain ⟨ad, he, hc⟩ := Kd.at_string hC (j : Int) (by omega) (by omega)
  injection he with he
  subst he
  have e : (L.map bz).getD j s = rdOf ByteArray.empty (L.map bz) (j : Int) := by
   simp [rdOf, List.getD_eq_getElem?_getD, List.getElem?_eq_getElem hj]
  rw [e, Nat.zero_add]
  have := hc
  rw [add_plain] at this
  simpa using this
 have h := Any2.slices_BinarySearch_string Try.lays26 g 0 L.length c (fun j => (L.map bz).getD j s) s w (by omega) hcell
 have hk : Lib.bsGo (fun t => Op.bytesLess ((L.map bz).getD t s).toList s.toList) L.length 0 L.length = rank L s.data.toList := by
  refine Lib.bsGo_spec _ (rank L s.data.toList) (fun t ht => ?_) (fun t ht => ?_) L.length 0 L.length (by omega) (Nat.zero_le _) (rank_le _ _)
  · obtain ⟨h1, h2⟩ := rank_lt L s.data.toList t ht
    rw [toL, toL, bytesLess_eq]
    have e : ((L.map bz).getD t s).data.toList = L[t] := by simp [List.getD_eq_getElem?_getD, List.getElem?_eq_getElem h1, bz]
    rw [e]
    simpa using h2
  · rw [toL, toL, bytesLess_eq]
    by_cases h1 : t < L.length
    rotate_left
    · have e : (L.map bz).getD t s = s := by simp [List.getD_eq_getElem?_getD, List.getElem?_eq_none (show L.length <= t by omega)]
      rw [e]
      simp [List.lt_irrefl]
    have e : ((L.map bz).getD t s).data.toList = L[t] := by simp [List.getD_eq_getElem?_getD, List.getElem?_eq_getElem h1, bz]
    rw [e]
    simpa using rank_ge L s.data.toList hp t h1 ht
 refine h.mono fun e w' ⟨he, hd⟩ => ?_
 rw [hk] at he
 exact ⟨_, he, ⟨hd⟩⟩
def stored (w : World) (B : Nat) (v u : Value) : World :=
 ((((((w.setCell ⟨B, 0, none⟩ v).setCell ⟨B, 1, none⟩ u).setCell ⟨B + 1, 0, none⟩ (.int .i64 0)).setCell ⟨B + 1, 1, none⟩ (.string ⟨#[]⟩)).setCell ⟨B + 1, 2, none⟩ (.int .i64 0)).setCell ⟨B + 1, 3, none⟩ (.int .i64 0))
theorem stored_p {w : World} {B : Nat} (h : RZ w B) (v u : Value) : (stored w B v u).heap[B]? = some (.cells #[v, u] 51 (0, 0)) := by
 have hf : ∀ j, B ≠ (⟨B + 1, j, none⟩ : Addr).block := fun j => by show B ≠ B + 1; omega
 exact blk_far (blk_far (blk_far (blk_far (blk_put (blk_put h.p 0 _ rfl) 1 _ rfl) (hf 0) _) (hf 1) _) (hf 2) _) (hf 3) _
theorem stored_f {w : World} {B : Nat} (h : RZ w B) (v u : Value) : (stored w B v u).heap[B + 1]? = some (.cells #[.int .i64 0, .string ⟨#[]⟩, .int .i64 0, .int .i64 0] 28 (0, 0)) := by
 have hf : ∀ j, B + 1 ≠ (⟨B, j, none⟩ : Addr).block := fun j => by show B + 1 ≠ B; omega
 exact blk_put (blk_put (blk_put (blk_put (blk_far (blk_far h.f (hf 0) _) (hf 1) _) 0 _ rfl) 1 _ rfl) 2 _ rfl) 3 _ rfl
theorem stored_below {w W : World} {B : Nat} (h : Below B w W) (v u : Value) : Below B w (stored W B v u) := by
 unfold stored
 exact (((((h.setCell (Nat.le_refl _) _).setCell (Nat.le_refl _) _).setCell (Nat.le_succ _) _).setCell (Nat.le_succ _) _).setCell (Nat.le_succ _) _).setCell (Nat.le_succ _) _
theorem stored_heap (w : World) (B : Nat) (v u : Value) (k : Nat) (h : B + 1 < k) : (stored w B v u).heap[k]? = w.heap[k]? := by
 unfold stored
 rw [Below.heap_setCell _ _ _ k (by show k ≠ B + 1; omega), Below.heap_setCell _ _ _ k (by show k ≠ B + 1; omega), Below.heap_setCell _ _ _ k (by show k ≠ B + 1; omega), Below.heap_setCell _ _ _ k (by show k ≠ B + 1; omega), Below.heap_setCell _ _ _ k (by show k ≠ B; omega), Below.heap_setCell _ _ _ k (by show k ≠ B; omega)]
theorem info55m : (Try.prog.info? 55).map (fun i => (i.zero, i.size, i.bytes)) = some (some (.slice none 0 0), 1, 24) := by kernel_rfl
theorem made_walk (w : World) (A0 : Option Addr) (c0 : Nat) (l : List S42) (hr0 : Kd.C k42 w A0 l.length l) (hc0 : l.length <= c0) (hsz : ∀ m ∈ l, m.f0.size <= maxLen /\ m.f3.length <= 100000 /\ ∀ i ∈ m.f3, i.f0.size <= maxLen) (hl : ¬ (l.length : Int) > 32) :
 Calls Try.prog 34 #[.slice A0 l.length c0] w fun e w' => (∃ x, twice l [] = some x /\ MadePost w [] [] 13 x e w') \/ (twice l [] = none /\ ∃ x, miss (l.map nm) l = some x /\ MadePost w [] [] 16 x e w') \/ (twice l [] = none /\ miss (l.map nm) l = none /\ MadePost w (namesOf l) (edgesOf l) 0 ⟨#[]⟩ e w') := by
 have HR0 := Az.mk hr0
 have HC0 := Az.mk hc0
 have HSZ := Az.mk hsz
 have q1 : decide (32 < (l.length : Int)) = false := decide_eq_false hl
 have q2 : decide (32 < l.length) = false := decide_eq_false (by omega)
 have HL := Az.mk hl
 clear hr0 hc0 hsz hl
 go_enter Try.func34, Try.ntmps34
 have hm1 := fun w => make76 w
 go_wp2
 clear hm1 q1 q2
 have HZ := Az.mk (rz_new w)
 have hB0 := below_alloc (below_alloc (Below.refl w.heap.size w) (Obj.cells #[Value.slice none 0 0, Value.slice none 0 0] 51)) (Obj.cells #[Value.int .i64 0, Value.string ⟨#[]⟩, Value.int .i64 0, Value.int .i64 0] 28)
 have hz0 : ((w.alloc (Obj.cells #[Value.slice none 0 0, Value.slice none 0 0] 51)).alloc (Obj.cells #[Value.int .i64 0, Value.string ⟨#[]⟩, Value.int .i64 0, Value.int .i64 0] 28)).heap.size = w.heap.size + 1 + 1 := by simp
 have hs0 := SetAt.made ((w.alloc (Obj.cells #[Value.slice none 0 0, Value.slice none 0 0] 51)).alloc (Obj.cells #[Value.int .i64 0, Value.string ⟨#[]⟩, Value.int .i64 0, Value.int .i64 0] 28))
 rw [hz0] at hs0
 have HS0 := Az.mk hs0
 have HZ1 := Az.mk (HZ.1.below (below_alloc (Below.refl _ _) (Obj.map #[] 0)))
 have HB1 := Az.mk (below_alloc hB0 (Obj.map #[] 0))
 clear hs0 HZ hB0 hz0
 generalize ((w.alloc (Obj.cells #[Value.slice none 0 0, Value.slice none 0 0] 51)).alloc (Obj.cells #[Value.int .i64 0, Value.string ⟨#[]⟩, Value.int .i64 0, Value.int .i64 0] 28)).alloc (Obj.map #[] 0) = w1 at *
 go_loopg [28] l.length (fun kq v28 w' => ∃ x : Int, v28 = .int .i64 x /\ Az (0 <= x /\ x.toNat + kq = l.length) /\ Az (SetAt w' (w.heap.size + 1 + 1) x.toNat ((l.take x.toNat).map nm) /\ twice (l.drop x.toNat) ((l.take x.toNat).map nm) = twice l [] /\ RZ w' w.heap.size /\ Below w.heap.size w w'))
 case atStart => exact ⟨0, rfl, ⟨by decide, by simp⟩, ⟨by simpa using HS0.1, by simp, HZ1.1, HB1.1⟩⟩
 case round =>
  obtain ⟨x, rfl, hk, hI⟩ := hrel
  clear HS0 HZ1 HB1
  have hk0 := hk.1.1
  by_cases hx : x < (l.length : Int)
  · have q1 : decide (x < (l.length : Int)) = true := decide_eq_true hx
    have HX := Az.mk hx
    obtain ⟨ad, A2, c2, A3, c3, rfl, g0, g1, g2, g3, g4, g5⟩ := at_T42 (Kd.C_below HR0.1 hI.1.2.2.2) x hk0 hx
    have hmem : rd_T42 l x ∈ l := by
     have hi : x.toNat < l.length := by omega
     have : rd_T42 l x = l[x.toNat] := by simp [rd_T42, List.getD_eq_getElem?_getD, List.getElem?_eq_getElem hi]
     rw [this]; exact List.getElem_mem hi
    have hnl := (HSZ.1 _ hmem).1
    have hdr := drop_rd l x hk0 hx
    have htk := take_rd l x hk0 hx
    generalize rd_T42 l x = m at *
    have p1 := eq_true hk0
    have p2 := eq_true hx
    have hI1 : (if ((l.take x.toNat).map nm).contains (nm m) = true then some m.f0 else twice (l.drop (x.toNat + 1)) ((l.take x.toNat).map nm ++ [nm m])) = twice l [] := by
     have h := hI.1.2.1
     rw [hdr] at h
     exact h
    have HTW := Az.mk hI1
    have HDR := Az.mk hdr
    have HTK := Az.mk htk
    clear g5 hmem hdr htk hI1 hx hk0
    go_upto_region 7 with fail
    have hB2 := below_alloc (Below.refl wr.heap.size wr) (Obj.cells #[Value.string m.f0, Value.bool m.f1, Value.slice A2 m.f2.length c2, Value.slice A3 m.f3.length c3, Value.slice m.f4.a m.f4.n m.f4.c] 42)
    have hb6 := (MapKept.heap_alloc wr (Obj.cells #[Value.string m.f0, Value.bool m.f1, Value.slice A2 m.f2.length c2, Value.slice A3 m.f3.length c3, Value.slice m.f4.a m.f4.n m.f4.c] 42)).1
    have hS2 := SetAt.below hI.1.1 hB2
    have HS2 := Az.mk hS2
    have HZ2 := Az.mk (hI.1.2.2.1.below hB2)
    have HB2 := Az.mk (below_step hI.1.2.2.2 hB2)
    clear hB2 g0 g1 g2 g3 g4
    generalize wr.alloc (Obj.cells #[Value.string m.f0, Value.bool m.f1, Value.slice A2 m.f2.length c2, Value.slice A3 m.f3.length c3, Value.slice m.f4.a m.f4.n m.f4.c] 42) = w2 at *
    have c6 : w2.cell? ⟨wr.heap.size, 0, none⟩ = some (.string m.f0) := blk_cell hb6 0
    have hlk := hS2.look m.f0 hnl
    by_cases hcn : ((l.take x.toNat).map nm).contains m.f0.data.toList = true
    rotate_left
    · have hcf : ((l.take x.toNat).map nm).contains m.f0.data.toList = false := by simpa using hcn
      have htw := HTW.1
      rw [if_neg hcn] at htw
      have HT := Az.mk htw
      rw [hcf] at hlk
      obtain ⟨w3, hrun, hset, hg⟩ := hS2.put (by have := hk.1; have := HL.1; unfold maxLen; omega) m.f0 hnl
      have HS3 := Az.mk hset
      have HG3 := Az.mk hg
      clear hcn hcf htw hS2 hb6 hnl hset hg
      go_wp2
      go_roundg (gk - 1)
      case measure => have := hk.1; have := HX.1; omega
      case rel =>
       have h1 := hk.1
       have h2 := HX.1
       have h3 := HL.1
       have et : (x + 1).toNat = x.toNat + 1 := by omega
       have e3 : ((l.take (x + 1).toNat).map nm) = (l.take x.toNat).map nm ++ [nm m] := by rw [et, HTK.1, List.map_append]; rfl
       have hne : ∀ k, some (w.heap.size + 1 + 1) = some k -> w.heap.size <= k := fun k hk => by injection hk with hk; omega
       exact ⟨x + 1, by rw [show wrap64 (x + 1) = x + 1 from by unfold wrap64; omega], ⟨by omega, by omega⟩, ⟨by rw [e3, et]; exact HS3.1, by rw [e3, et]; exact HT.1, ⟨blk_grown HZ2.1.p HG3.1 (by intro e; injection e with e; omega), blk_grown HZ2.1.f HG3.1 (by intro e; injection e with e; omega)⟩, HB2.1.grown HG3.1 HB2.1.size hne⟩⟩
    have htw := HTW.1
    rw [if_pos hcn] at htw
    have HT := Az.mk htw
    rw [hcn] at hlk
    have z0 := blk_cell HZ2.1.p 0
    have z1 := blk_cell HZ2.1.p 1
    have y0 := blk_cell HZ2.1.f 0
    have y1 := blk_cell HZ2.1.f 1
    have y2 := blk_cell HZ2.1.f 2
    have y3 := blk_cell HZ2.1.f 3
    have e0 := blk_frozen HZ2.1.p 0
    have e1 := blk_frozen HZ2.1.p 1
    have d0 := blk_frozen HZ2.1.f 0
    have d1 := blk_frozen HZ2.1.f 1
    have d2 := blk_frozen HZ2.1.f 2
    have d3 := blk_frozen HZ2.1.f 3
    have hne : w.heap.size ≠ wr.heap.size := by have := blk_lt hI.1.2.2.1.p; omega
    have c6a : (w2.setCell ⟨w.heap.size, 0, none⟩ (.slice none 0 0)).cell? ⟨wr.heap.size, 0, none⟩ = some (.string m.f0) := (World.cell?_of_block (Below.heap_setCell w2 ⟨w.heap.size, 0, none⟩ _ wr.heap.size (fun e => hne e.symm))).trans c6
    have c6b : ((w2.setCell ⟨w.heap.size, 0, none⟩ (.slice none 0 0)).setCell ⟨w.heap.size, 1, none⟩ (.slice none 0 0)).cell? ⟨wr.heap.size, 0, none⟩ = some (.string m.f0) := (World.cell?_of_block (Below.heap_setCell _ ⟨w.heap.size, 1, none⟩ _ wr.heap.size (fun e => hne e.symm))).trans c6a
    have HNE := Az.mk hne
    clear hcn htw hS2 hb6 hnl hne
    go_upto_region 8 with fail
    go_region
    all_goals go_wp2
    all_goals refine bodyPost_ret (results_cc rfl _ _ w.heap.size (w.heap.size + 1) 51 28 #[.slice none 0 0, .slice none 0 0] #[.int .i64 13, .string m.f0, .int .i64 0, .int .i64 0] (0, 0) (0, 0) _ _ rfl (by first | exact blk_drew (faulted_p HZ2.1 13 m.f0) | exact faulted_p HZ2.1 13 m.f0) Try.underlying51 rfl hi51 rfl (by first | exact blk_drew (faulted_f HZ2.1 13 m.f0) | exact faulted_f HZ2.1 13 m.f0) Try.underlying28 rfl hi28) rfl ?_
    all_goals exact .inl ⟨m.f0, HT.1.symm, post_fault w _ 13 m.f0 (by first | exact below_drew (faulted_below HB2.1 13 m.f0) | exact faulted_below HB2.1 13 m.f0)⟩
  have q1 : decide (x < (l.length : Int)) = false := decide_eq_false hx
  have hxl : l.take x.toNat = l := List.take_of_length_le (by have := hk.1; omega)
  have hdl : l.drop x.toNat = [] := List.drop_of_length_le (by have := hk.1; omega)
  have hI2 := hI.1
  rw [hxl, hdl] at hI2
  have hxle : x.toNat = l.length := by have := hk.1; omega
  rw [hxle] at hI2
  have HI := Az.mk hI2
  clear hxl hdl hI2 hI hk hk0 hxle hx
  have hm2 := fun w => make77 w
  go_wp2
  clear hm2
  have hB3 := below_alloc (Below.refl wr.heap.size wr) (Obj.map #[] 0)
  have hi0 : Imp w (wr.alloc (Obj.map #[] 0)) wr.heap.size (l.map nm) 0 [] [] :=
   ⟨(HI.1.1.below hB3).more (by have := HL.1; omega), HI.1.2.2.1.below hB3, ImAt.made wr, fun _ he => (by cases he), fun _ he => (by cases he), HI.1.1.lt, below_step HI.1.2.2.2 hB3⟩
  have HTN : Az (twice l [] = none) := ⟨HI.1.2.1.symm⟩
  have HI0 := Az.mk hi0
  clear hi0 hB3 HI
  generalize wr.heap.size = bi at HI0 ⊢
  generalize wr.alloc (Obj.map #[] 0) = w2 at *
  obtain ⟨K, hK⟩ : ∃ K, K = l.map nm := ⟨_, rfl⟩
  rw [<- hK] at HI0
  have HK := Az.mk hK
  clear hK
  go_loopg [47] l.length (fun kq v47 w' => ∃ (x : Int) (E : List Ent), v47 = .int .i64 x /\ Az (0 <= x /\ x.toNat + kq = l.length) /\ Az (Imp w w' bi K x.toNat E E /\ E.map (fun e => (e.1, e.2.2)) = (l.take x.toNat).map (fun m => (nm m, m.f3.map im)) /\ miss K (l.drop x.toNat) = miss K l))
  case atStart => exact ⟨0, [], rfl, ⟨by decide, by simp⟩, ⟨by simpa using HI0.1, by simp, by simp⟩⟩
  case round =>
   obtain ⟨x, E, rfl, hk, hI⟩ := hrel
   clear HI0
   obtain ⟨g2k, rfl⟩ : ∃ g, g = gk := ⟨_, rfl⟩
   have hk0 := hk.1.1
   by_cases hx : x < (l.length : Int)
   · have q3 : decide (x < (l.length : Int)) = true := decide_eq_true hx
     have HX := Az.mk hx
     obtain ⟨ad, A2, c2, A3, c3, rfl, g0, g1, g2, g3, g4, g5, g6, g7, g8⟩ := at_T42 HR0.1 x hk0 hx
     replace g0 := pw_cell_below hI.1.1.bel g0
     replace g1 := pw_cell_below hI.1.1.bel g1
     replace g2 := pw_cell_below hI.1.1.bel g2
     replace g3 := pw_cell_below hI.1.1.bel g3
     replace g4 := pw_cell_below hI.1.1.bel g4
     have hnew := name_new l x hk0 hx HTN.1
     have hmem := mem_rd l x hk0 hx
     have hsz := HSZ.1 _ hmem
     have hdr := drop_rd l x hk0 hx
     have htk := take_rd l x hk0 hx
     generalize rd_T42 l x = m at *
     have p1 := eq_true hk0
     have p2 := eq_true hx
     have HMS : Az ((match missI K m.f3 with | some y => some y | none => miss K (l.drop (x.toNat + 1))) = miss K l) := ⟨by
      have h := hI.1.2.2
      rw [hdr] at h
      exact h⟩
     have HGN : Az (gof E (nm m) = none) := ⟨gof_none (by
      have h := congrArg (List.map Prod.fst) hI.1.2.1
      rw [List.map_map, List.map_map] at h
      have h2 : E.map (·.1) = (l.take x.toNat).map nm := h
      rw [h2]; exact hnew)⟩
     have HTK := Az.mk htk
     have HSM := Az.mk hsz
     have H8 := Az.mk g8
     clear g5 g6 g7 g8 hmem hdr htk hnew hx hk0 hsz
     go_upto_region 15 with fail
     have hB3 := below_alloc (Below.refl wr.heap.size wr) (Obj.cells #[Value.string m.f0, Value.bool m.f1, Value.slice A2 m.f2.length c2, Value.slice A3 m.f3.length c3, Value.slice m.f4.a m.f4.n m.f4.c] 42)
     have hb6 := (MapKept.heap_alloc wr (Obj.cells #[Value.string m.f0, Value.bool m.f1, Value.slice A2 m.f2.length c2, Value.slice A3 m.f3.length c3, Value.slice m.f4.a m.f4.n m.f4.c] 42)).1
     have hz3 : (wr.alloc (Obj.cells #[Value.string m.f0, Value.bool m.f1, Value.slice A2 m.f2.length c2, Value.slice A3 m.f3.length c3, Value.slice m.f4.a m.f4.n m.f4.c] 42)).heap.size = wr.heap.size + 1 := by simp
     have HI3 := Az.mk (hI.1.1.below hB3)
     have HB3 := Az.mk hB3
     have HZ3 := Az.mk hz3
     clear hB3 hz3 g0 g1 g2 g3 g4
     generalize wr.alloc (Obj.cells #[Value.string m.f0, Value.bool m.f1, Value.slice A2 m.f2.length c2, Value.slice A3 m.f3.length c3, Value.slice m.f4.a m.f4.n m.f4.c] 42) = w3 at *
     have c6 : w3.cell? ⟨wr.heap.size, 0, none⟩ = some (.string m.f0) := blk_cell hb6 0
     have hm3 := make76 w3
     have hB4 := below_alloc (Below.refl w3.heap.size w3) (Obj.map #[] 0)
     have hI4 := HI3.1.below hB4
     have hs4 := SetAt.made w3
     have hb64 := blk_below hb6 hB4
     obtain ⟨w5, hrun, him, hg⟩ := hI4.im.put (by have := hk.1; have := HL.1; unfold maxLen; omega) m.f0 HSM.1.1 w3.heap.size [] HGN.1
     have hbi : bi < wr.heap.size := hI.1.1.im.lt
     have HS5 := Az.mk (hs4.kept hg (by intro e; injection e with e; have := HZ3.1; omega))
     have HI5 := Az.mk (hI4.grown hg (Nat.le_refl _) (fun e he => by have := hI.1.1.ne e he; omega) him)
     have hb65 := blk_grown hb64 hg (by intro e; injection e with e; omega)
     have HG5 := Az.mk hg
     have HBI := Az.mk hbi
     have HB5 := Az.mk hB4
     have c63 : w5.cell? ⟨wr.heap.size, 3, none⟩ = some (.slice A3 m.f3.length c3) := blk_cell hb65 3
     have HB65 := Az.mk hb65
     clear hB4 hI4 hs4 hb64 him hg hbi hb6 hb65
     obtain ⟨wo, rfl⟩ : ∃ wo, wo = wr := ⟨_, rfl⟩
     go_wp2
     clear hrun c6 c63 hm3
     have hkb : wo.heap.size < w3.heap.size := by have := HZ3.1; omega
     have HKB := Az.mk hkb
     clear hkb
     generalize hkbq : w3.heap.size = kb at *
     have HKE := Az.mk hkbq
     clear hkbq
     go_loopg [58] m.f3.length (fun kq v58 w' => ∃ z : Int, v58 = .int .i64 z /\ Az (0 <= z /\ z.toNat + kq = m.f3.length) /\ Az (Imp w w' bi K (x.toNat + 1) E (E ++ [(nm m, kb, [])]) /\ SetAt w' kb z.toNat ((m.f3.take z.toNat).map im) /\ w'.heap[wo.heap.size]? = some (Obj.cells #[Value.string m.f0, Value.bool m.f1, Value.slice A2 m.f2.length c2, Value.slice A3 m.f3.length c3, Value.slice m.f4.a m.f4.n m.f4.c] 42) /\ missI K (m.f3.drop z.toNat) = missI K m.f3))
     case atStart => exact ⟨0, rfl, ⟨by decide, by simp⟩, ⟨HI5.1, by simpa using HS5.1, HB65.1, by simp⟩⟩
     case round =>
      obtain ⟨z, rfl, hk2, hJ⟩ := hrel
      clear HI5 HS5 HB65
      have hk20 := hk2.1.1
      by_cases hz : z < (m.f3.length : Int)
      rotate_left
      · have q4 : decide (z < (m.f3.length : Int)) = false := decide_eq_false hz
        have hzl : m.f3.take z.toNat = m.f3 := List.take_of_length_le (by have := hk2.1; omega)
        have hzd : m.f3.drop z.toNat = [] := List.drop_of_length_le (by have := hk2.1; omega)
        have hJ2 := hJ.1
        rw [hzl, hzd] at hJ2
        have hzn : z.toNat <= 100000 := by have := hk2.1; have := HSM.1.2.1; omega
        have HJE := Az.mk hJ2
        have HZN := Az.mk hzn
        clear hzl hzd hJ2 hzn hz hk20
        go_wp2
        go_roundg (g2k - 1)
        case measure => have := hk.1; have := HX.1; omega
        case rel =>
         have h1 := hk.1
         have h2 := HX.1
         have h4 := HKB.1
         have h5 := HBI.1
         have et : (x + 1).toNat = x.toNat + 1 := by omega
         have hj := HJE.1.1
         have hmn := HJE.1.2.2.2
         have hms := HMS.1
         rw [<- hmn] at hms
         refine ⟨x + 1, E ++ [(nm m, kb, m.f3.map im)], by rw [show wrap64 (x + 1) = x + 1 from by unfold wrap64; have := HL.1; omega], ⟨by omega, by omega⟩, ⟨⟨hj.known, hj.rz, by rw [et]; exact hj.im.retell (fun y => gof_last E (nm m) kb (m.f3.map im) [] y), fun e he => ?_, fun e he => ?_, hj.lo, hj.bel⟩, ?_, by rw [et]; exact hms⟩⟩
         · rcases List.mem_append.1 he with he | he
           · exact hj.sets e he
           · obtain rfl := List.mem_singleton.1 he
             exact HJE.1.2.1.more HZN.1
         · rcases List.mem_append.1 he with he | he
           · exact hj.ne e he
           · obtain rfl := List.mem_singleton.1 he
             show bi < kb
             omega
         · rw [et, HTK.1, List.map_append, List.map_append, hI.1.2.1]
           rfl
      have q4 : decide (z < (m.f3.length : Int)) = true := decide_eq_true hz
      have HZX := Az.mk hz
      obtain ⟨ad3, A5, c5, rfl, r0, r1, r2, r3, r4, r5, r6⟩ := at_T66 (Kd.C_below H8.1 hJ.1.1.bel) z hk20 hz
      have hmi := mem_rdI m.f3 z hk20 hz
      have hisz := HSM.1.2.2 _ hmi
      have hdi := drop_rdI m.f3 z hk20 hz
      have hti := take_rdI m.f3 z hk20 hz
      generalize rd_T66 m.f3 z = i at *
      have p3 := eq_true hk20
      have p4 := eq_true hz
      have HMI : Az ((if K.contains (im i) = true then missI K (m.f3.drop (z.toNat + 1)) else some i.f0) = missI K m.f3) := ⟨by
       have h := hJ.1.2.2.2
       rw [hdi] at h
       exact h⟩
      have HTI := Az.mk hti
      have HIS := Az.mk hisz
      clear r6 hmi hdi hti hz hk20 hisz
      go_upto_region 19 with fail
      have hB6 := below_alloc (Below.refl wr.heap.size wr) (Obj.cells #[Value.string i.f0, Value.bool i.f1, Value.string i.f2, Value.bool i.f3, Value.bool i.f4, Value.slice A5 i.f5.length c5] 66)
      have hb7 := (MapKept.heap_alloc wr (Obj.cells #[Value.string i.f0, Value.bool i.f1, Value.string i.f2, Value.bool i.f3, Value.bool i.f4, Value.slice A5 i.f5.length c5] 66)).1
      have HJ6 := Az.mk (hJ.1.1.below hB6)
      have HC6 := Az.mk (hJ.1.2.1.below hB6)
      have HM6 := Az.mk (blk_below hJ.1.2.2.1 hB6)
      have hlt7 : wo.heap.size < wr.heap.size := blk_lt hJ.1.2.2.1
      have HLT7 := Az.mk hlt7
      have HB6 := Az.mk hB6
      clear hB6 r0 r1 r2 r3 r4 r5 hlt7
      generalize wr.alloc (Obj.cells #[Value.string i.f0, Value.bool i.f1, Value.string i.f2, Value.bool i.f3, Value.bool i.f4, Value.slice A5 i.f5.length c5] 66) = w7 at *
      have c7 : w7.cell? ⟨wr.heap.size, 0, none⟩ = some (.string i.f0) := blk_cell hb7 0
      have hlk := HJ6.1.known.look i.f0 HIS.1
      by_cases hcn : K.contains i.f0.data.toList = true
      · rw [hcn] at hlk
        have hmi2 := HMI.1
        rw [if_pos hcn] at hmi2
        have HMJ := Az.mk hmi2
        have hli := HJ6.1.im.look m.f0 HSM.1.1
        have hgl : gof (E ++ [(nm m, kb, [])]) m.f0.data.toList = some kb := gof_last_self E (nm m) kb [] HGN.1
        rw [hgl] at hli
        have c76 : w7.cell? ⟨wo.heap.size, 0, none⟩ = some (.string m.f0) := blk_cell HM6.1 0
        obtain ⟨w8, hrun8, hset8, hg8⟩ := HC6.1.put (by have := hk2.1; have := HSM.1.2.1; unfold maxLen; omega) i.f0 HIS.1
        have HS8 := Az.mk hset8
        have HG8 := Az.mk hg8
        clear hcn hmi2 hgl hset8 hg8 hb7
        go_wp2
        go_roundg (gk - 1)
        case measure => have := hk2.1; have := HZX.1; omega
        case rel =>
         have h1 := hk2.1
         have h2 := HZX.1
         have h3 := HSM.1.2.1
         have h4 := HKB.1
         have h5 := HBI.1
         have h6 := HKE.1
         have et : (z + 1).toNat = z.toNat + 1 := by omega
         have e3 : ((m.f3.take (z + 1).toNat).map im) = (m.f3.take z.toNat).map im ++ [im i] := by rw [et, HTI.1, List.map_append]; rfl
         have hE : ∀ e ∈ E, e.2.1 ≠ kb := fun e he => by have := (hI.1.1.sets e he).lt; omega
         exact ⟨z + 1, by rw [show wrap64 (z + 1) = z + 1 from by unfold wrap64; omega], ⟨by omega, by omega⟩, ⟨HJ6.1.grown HG8.1 (by omega) hE (HJ6.1.im.kept HG8.1 (by intro e; injection e with e; omega)), by rw [e3, et]; exact HS8.1, blk_grown HM6.1 HG8.1 (by intro e; injection e with e; omega), by rw [et]; exact HMJ.1⟩⟩
      have hcf : K.contains i.f0.data.toList = false := by simpa using hcn
      have hmi2 := HMI.1
      rw [if_neg hcn] at hmi2
      have hms := HMS.1
      rw [<- hmi2] at hms
      have HMJ : Az (miss (l.map nm) l = some i.f0) := ⟨by rw [<- HK.1]; exact hms.symm⟩
      rw [hcf] at hlk
      have z0 := blk_cell HJ6.1.rz.p 0
      have z1 := blk_cell HJ6.1.rz.p 1
      have y0 := blk_cell HJ6.1.rz.f 0
      have y1 := blk_cell HJ6.1.rz.f 1
      have y2 := blk_cell HJ6.1.rz.f 2
      have y3 := blk_cell HJ6.1.rz.f 3
      have e0 := blk_frozen HJ6.1.rz.p 0
      have e1 := blk_frozen HJ6.1.rz.p 1
      have d0 := blk_frozen HJ6.1.rz.f 0
      have d1 := blk_frozen HJ6.1.rz.f 1
      have d2 := blk_frozen HJ6.1.rz.f 2
      have d3 := blk_frozen HJ6.1.rz.f 3
      have hne : w.heap.size ≠ wr.heap.size := by have := blk_lt hJ.1.1.rz.p; omega
      have c7a : (w7.setCell ⟨w.heap.size, 0, none⟩ (.slice none 0 0)).cell? ⟨wr.heap.size, 0, none⟩ = some (.string i.f0) := (World.cell?_of_block (Below.heap_setCell w7 ⟨w.heap.size, 0, none⟩ _ wr.heap.size (fun e => hne e.symm))).trans c7
      have c7b : ((w7.setCell ⟨w.heap.size, 0, none⟩ (.slice none 0 0)).setCell ⟨w.heap.size, 1, none⟩ (.slice none 0 0)).cell? ⟨wr.heap.size, 0, none⟩ = some (.string i.f0) := (World.cell?_of_block (Below.heap_setCell _ ⟨w.heap.size, 1, none⟩ _ wr.heap.size (fun e => hne e.symm))).trans c7a
      clear hcn hcf hmi2 hms hb7 hne
      go_upto_region 20 with fail
      go_region
      all_goals go_wp2
      all_goals refine bodyPost_ret (results_cc rfl _ _ w.heap.size (w.heap.size + 1) 51 28 #[.slice none 0 0, .slice none 0 0] #[.int .i64 16, .string i.f0, .int .i64 0, .int .i64 0] (0, 0) (0, 0) _ _ rfl (by first | exact blk_drew (faulted_p HJ6.1.rz 16 i.f0) | exact faulted_p HJ6.1.rz 16 i.f0) Try.underlying51 rfl hi51 rfl (by first | exact blk_drew (faulted_f HJ6.1.rz 16 i.f0) | exact faulted_f HJ6.1.rz 16 i.f0) Try.underlying28 rfl hi28) rfl ?_
      all_goals exact .inr (.inl ⟨HTN.1, i.f0, HMJ.1, post_fault w _ 16 i.f0 (by first | exact below_drew (faulted_below HJ6.1.bel 16 i.f0) | exact faulted_below HJ6.1.bel 16 i.f0)⟩)
   have q3 : decide (x < (l.length : Int)) = false := decide_eq_false hx
   have hxl : l.take x.toNat = l := List.take_of_length_le (by have := hk.1; omega)
   have hdl : l.drop x.toNat = [] := List.drop_of_length_le (by have := hk.1; omega)
   have hI2 := hI.1
   rw [hxl, hdl] at hI2
   have HIF := Az.mk hI2
   have HMN : Az (miss (l.map nm) l = none) := ⟨by rw [<- HK.1]; exact hI2.2.2.symm⟩
   clear hxl hdl hI2 hI hk hk0 hx
   obtain ⟨wp, rfl⟩ : ∃ wp, wp = wr := ⟨_, rfl⟩
   go_upto_region 25 with (first | (go_at_call 46; (refine (sorted_calls _ HIF.1.1.known (by omega)).mono ?_); rintro e w9 ⟨v9, ss, rfl, hel, hlen, hsz9, hrow, hb9⟩; obtain ⟨A9, c9, rfl⟩ := own_slice hrow; have HEL := Az.mk hel; have HLN := Az.mk hlen; have HRW := Az.mk hrow; have HB9 := Az.mk hb9; clear hel hlen hsz9 hrow hb9))
   obtain ⟨NL, hNL⟩ : ∃ NL, NL = asc K := ⟨_, rfl⟩
   have hperm := HEL.1.asc
   rw [<- hNL] at hperm
   have hnl : ss.length = NL.length := by rw [<- hperm]; exact (List.mergeSort_perm ss leB).length_eq.symm
   have hrw := HRW.1
   rw [hperm] at hrw
   have HNR := Az.mk (names_row hnl hrw)
   have hmem : ∀ x ∈ NL, x ∈ l.map nm := fun x hx => by
    rw [<- hperm] at hx
    have h2 := (HEL.1.mem x).1 ((List.mergeSort_perm ss leB).mem_iff.1 hx)
    rw [HK.1] at h2
    exact List.contains_iff_mem.1 h2
   have hpair : NL.Pairwise (fun a b => a <= b) := by rw [<- hperm]; exact leB_pair ss
   have hn100 : NL.length <= 100 := by rw [<- hnl]; exact HLN.1
   have HMEM := Az.mk hmem
   have HPA := Az.mk hpair
   have HN100 := Az.mk hn100
   have HNL := Az.mk hNL
   have hbp := (MapKept.heap_alloc w9 (Obj.cells #[Value.slice A9 ss.length c9, Value.slice none 0 0] 51)).1
   have hBp := below_alloc (Below.refl w9.heap.size w9) (Obj.cells #[Value.slice A9 ss.length c9, Value.slice none 0 0] 51)
   have HSZ9 : Az ((w9.alloc (Obj.cells #[Value.slice A9 ss.length c9, Value.slice none 0 0] 51)).heap.size = w9.heap.size + 1) := ⟨by simp⟩
   rw [hnl] at *
   have HBP := Az.mk hbp
   have HBW := Az.mk hBp
   have d0 : (w9.alloc (Obj.cells #[Value.slice A9 NL.length c9, Value.slice none 0 0] 51)).cell? ⟨w9.heap.size, 0, none⟩ = some (Value.slice A9 NL.length c9) := blk_cell hbp 0
   clear hperm hnl hrw hmem hpair hn100 hNL hbp hBp HEL HLN HRW
   generalize w9.alloc (Obj.cells #[Value.slice A9 NL.length c9, Value.slice none 0 0] 51) = w9p at *
   generalize hpb : w9.heap.size = pb at *
   have HPB := Az.mk hpb
   clear hpb
   go_wp2
   clear d0
   go_loopg [85] NL.length (fun kq v85 w' => ∃ (y : Int) (R2 : List (List Int)) (u : Value), v85 = .int .i64 y /\ Az (0 <= y /\ y.toNat + kq = NL.length) /\ Az (w'.heap[pb]? = some (Obj.cells #[Value.slice A9 NL.length c9, u] 51) /\ Kd.S (Kd.slice 3 (Kd.int .i64)) 55 w' (pb + 1) (fun _ => True) u R2 /\ R2 = (NL.take y.toNat).map (edgeOf l) /\ Below pb w9 w'))
   case atStart => exact ⟨0, [], _, rfl, ⟨by decide, by simp⟩, ⟨HBP.1, Kd.S_nil _ _ _ _ _, by simp, HBW.1⟩⟩
   case round =>
    obtain ⟨y, R2, u, rfl, hk, hI⟩ := hrel
    clear HBP HBW
    have hk0 := hk.1.1
    by_cases hy : y < (NL.length : Int)
    rotate_left
    · have q5 : decide (y < (NL.length : Int)) = false := decide_eq_false hy
      have hyl : NL.take y.toNat = NL := List.take_of_length_le (by have := hk.1; omega)
      have hI2 := hI.1
      rw [hyl] at hI2
      obtain ⟨Au, cu, rfl⟩ := Kd.S_slice hI2.2.1
      have HIE := Az.mk hI2
      have hz : RZ wr w.heap.size := HIF.1.1.rz.below (HB9.1.trans (hI2.2.2.2.mono (by have := HB9.1.size; have := HPB.1; omega)))
      have HZR := Az.mk hz
      have g0 := blk_cell hI2.1 0
      have g1 := blk_cell hI2.1 1
      have z0 := blk_cell hz.p 0
      have z1 := blk_cell hz.p 1
      have y0 := blk_cell hz.f 0
      have y1 := blk_cell hz.f 1
      have y2 := blk_cell hz.f 2
      have y3 := blk_cell hz.f 3
      have e0 := blk_frozen hz.p 0
      have e1 := blk_frozen hz.p 1
      have d0 := blk_frozen hz.f 0
      have d1 := blk_frozen hz.f 1
      have d2 := blk_frozen hz.f 2
      have d3 := blk_frozen hz.f 3
      clear hyl hI2 hz hy hk0
      go_wp2
      have hbR : Below w.heap.size w wr := HIF.1.1.bel.trans ((HB9.1.trans (HIE.1.2.2.2.mono (by have := HB9.1.size; have := HPB.1; omega))).mono HIF.1.1.bel.size)
      have hwp := blk_lt HIF.1.1.rz.f
      have hw9 := HB9.1.size
      have hp9 := HPB.1
      have en : namesOf l = NL.map bz := by unfold namesOf; rw [HNL.1, HK.1]
      have eE : edgesOf l = R2 := by unfold edgesOf; rw [HIE.1.2.2.1, HNL.1, HK.1]
      have hB9w : Below w9.heap.size w9 wr := by rw [HPB.1]; exact HIE.1.2.2.2
      refine bodyPost_ret (results_cc rfl _ _ w.heap.size (w.heap.size + 1) 51 28 #[.slice A9 NL.length c9, .slice Au R2.length cu] #[.int .i64 0, .string ⟨#[]⟩, .int .i64 0, .int .i64 0] (0, 0) (0, 0) _ _ rfl (stored_p HZR.1 _ _) Try.underlying51 rfl hi51 rfl (stored_f HZR.1 _ _) Try.underlying28 rfl hi28) rfl ?_
      refine .inr (.inr ⟨HTN.1, HMN.1, _, _, rfl, ?_, ?_, stored_below hbR _ _⟩)
      · rw [en]
        exact Kd.R_lower (Kd.R_mono (Kd.R_move (Kd.R_bound (Kd.R_below HNR.1 hB9w)) (fun k hk => stored_heap wr w.heap.size _ _ k (by have := hk.2.1; omega))) (fun _ _ => trivial)) (by omega)
      · rw [eE]
        exact Kd.S_lower (Kd.S_mono (Kd.S_move (Kd.S_bound HIE.1.2.1) (fun k hk => stored_heap wr w.heap.size _ _ k (by have := hk.2.1; omega))) (fun _ _ => trivial)) (by omega)
    have q5 : decide (y < (NL.length : Int)) = true := decide_eq_true hy
    have HY := Az.mk hy
    obtain ⟨g2k, rfl⟩ : ∃ g, g = gk := ⟨_, rfl⟩
    have hBn : Below w9.heap.size w9 wr := by rw [HPB.1]; exact hI.1.2.2.2
    have hNR := Kd.R_below HNR.1 hBn
    obtain ⟨hlA, hcA, hCA⟩ := Kd.R_reads' hNR
    obtain ⟨gA, cA2, eA, hgr⟩ := Kd.R_form hNR (by have := hk.1; omega)
    injection eA with eA1 eA2 eA3
    subst eA1
    subst eA3
    obtain ⟨ad, ea, hcy⟩ := Kd.at_string hCA y hk0 (by rw [List.length_map]; exact hy)
    injection ea with ea
    subst ea
    obtain ⟨hyl, hrd⟩ := rd_bz NL y hk0 hy
    rw [hrd, add_plain] at hcy
    have hymem : NL[y.toNat] ∈ NL := List.getElem_mem hyl
    have htk : NL.take (y.toNat + 1) = NL.take y.toNat ++ [NL[y.toNat]] := by rw [List.take_add_one, List.getElem?_eq_getElem hyl]; rfl
    have HCA := Az.mk hCA
    generalize NL[y.toNat] = nY at *
    have hK2 := HMEM.1 _ hymem
    have HTK := Az.mk htk
    obtain ⟨e, he, hge, hes⟩ := gof_imps HIF.1.2.1 hK2
    have hnsz : (bz nY).size <= maxLen := by
     obtain ⟨m, hm, hmn⟩ := List.mem_map.1 hK2
     have : bz nY = m.f0 := by rw [<- hmn]; rfl
     rw [this]; exact (HSZ.1 m hm).1
    have HE := Az.mk (And.intro he hes)
    have HIW := Az.mk (HIF.1.1.below HB9.1)
    have HIR : Az (Imp w wr bi K x.toNat E E) := ⟨HIW.1.below hBn⟩
    have hlk := HIR.1.im.look (bz nY) hnsz
    rw [bz_list, hge] at hlk
    have HSR := Az.mk (HIR.1.sets e he)
    have p5 := eq_true hk0
    have p6 : (y < (NL.length : Int)) = True := eq_true hy
    clear eA2 hgr hNR hCA hcA hlA hyl hrd hymem htk hK2 he hge hes hnsz hBn hy hk0
    go_upto_region 30 with (first | (go_at_call 46; (refine (sorted_calls _ HSR.1 (by omega)).mono ?_); rintro e w10 ⟨v10, ss2, rfl, hel, hlen, hsz9, hrow, hb9⟩; obtain ⟨A10, c10, rfl⟩ := own_slice hrow; have HEL2 := Az.mk hel; have HLN2 := Az.mk hlen; have HRW2 := Az.mk hrow; have HB10 := Az.mk hb9; clear hel hlen hsz9 hrow hb9))
    obtain ⟨ML, hML⟩ : ∃ ML, ML = asc (impsL l nY) := ⟨_, rfl⟩
    have hel2 := HEL2.1
    rw [HE.1.2] at hel2
    have hperm2 := hel2.asc
    rw [<- hML] at hperm2
    have hml : ss2.length = ML.length := by rw [<- hperm2]; exact (List.mergeSort_perm ss2 leB).length_eq.symm
    have hrw2 := HRW2.1
    rw [hperm2] at hrw2
    have HMR := Az.mk (names_row hml hrw2)
    have HLM : Az (ML.length <= 100000) := ⟨by rw [<- hml]; exact HLN2.1⟩
    rw [hml] at *
    have HML := Az.mk hML
    clear hel2 hperm2 hml hrw2 hML hcy hlk HEL2 HRW2 HIR HSR
    obtain ⟨wq, rfl⟩ : ∃ wq, wq = wr := ⟨_, rfl⟩
    go_loopg [15, 94] ML.length (fun kq v15 v94 w' => ∃ (z : Int) (T : List Int), v94 = .int .i64 z /\ Az (0 <= z /\ z.toNat + kq = ML.length) /\ Az (Kd.R (Kd.int .i64) 3 w' w10.heap.size (fun k => w10.heap.size <= k) v15 T /\ T = (ML.take z.toNat).map (fun x => (rank NL x : Int)) /\ Below w10.heap.size w10 w'))
    case atStart => exact ⟨0, [], rfl, ⟨by decide, by simp⟩, ⟨Kd.R_nil _ _ _ _ _, by simp, Below.refl _ _⟩⟩
    case round =>
     obtain ⟨z, T, rfl, hk2, hJ⟩ := hrel
     have hk20 := hk2.1.1
     by_cases hz : z < (ML.length : Int)
     · have q6 : decide (z < (ML.length : Int)) = true := decide_eq_true hz
       have HZ6 := Az.mk hz
       have hMR := Kd.R_below HMR.1 hJ.1.2.2
       obtain ⟨hlB, hcB, hCB⟩ := Kd.R_reads' hMR
       obtain ⟨gB, cB2, eB, hgr⟩ := Kd.R_form hMR (by have := hk2.1; simp only [List.length_map]; omega)
       injection eB with eB1 eB2 eB3
       subst eB1
       subst eB3
       obtain ⟨ad, ea, hcz⟩ := Kd.at_string hCB z hk20 (by rw [List.length_map]; exact hz)
       injection ea with ea
       subst ea
       obtain ⟨hzl, hrd⟩ := rd_bz ML z hk20 hz
       rw [hrd, add_plain] at hcz
       have htk : ML.take (z.toNat + 1) = ML.take z.toNat ++ [ML[z.toNat]] := by rw [List.take_add_one, List.getElem?_eq_getElem hzl]; rfl
       generalize ML[z.toNat] = nZ at *
       have HTK2 := Az.mk htk
       have HCN := Az.mk (Kd.C_below (Kd.C_below HCA.1 HB10.1) hJ.1.2.2)
       have hbp : wr.heap[pb]? = some (Obj.cells #[Value.slice (some ⟨gA, 0, none⟩) NL.length c9, u] 51) := blk_below (blk_below hI.1.1 HB10.1) hJ.1.2.2
       have d0 : wr.cell? ⟨pb, 0, none⟩ = some (Value.slice (some ⟨gA, 0, none⟩) NL.length c9) := blk_cell hbp 0
       have p7 := eq_true hk20
       have p8 : (z < (ML.length : Int)) = True := eq_true hz
       clear eB2 hgr hMR hCB hcB hlB hzl hrd htk hz hk20 hbp
       go_upto_region 33 with (first | (go_at_call 42; (refine (search_calls _ gA c9 NL (bz nZ) (by have h := HCN.1; rwa [List.length_map] at h) HPA.1 HN100.1).mono ?_); rintro e w11 ⟨bf, he, hd⟩; rw [bz_list] at he; subst he; have HD := Az.mk hd; clear hd))
       have hd := HD.1.below
       have hbJ := hJ.1.2.2
       have hs10 := hbJ.size
       have hs11 := hd.size
       have X3 := Az.mk (Kd.R_below hJ.1.1 hd)
       have hTl : T.length <= 100000 := by rw [hJ.1.2.1]; simp only [List.length_map, List.length_take]; have := HLM.1; omega
       have HB11 := Az.mk (hbJ.trans (hd.mono hs10))
       clear d0 hbJ hcz
       have hw1 : ∀ k, w11.heap.size <= k -> w10.heap.size <= k := fun k hk => by omega
       go_wp2_with ((with_reducible refine gate_builtin (b := .append) (xs := #[.tmp 105, .tmp 107]) rfl ?_); at_builtin; refine Kd.R_append (Kd.int .i64) (w0 := w11) w10.heap.size rfl (.tmp 105) (.tmp 107) 55 3 (.int .i64 0) 8 rfl Try.underlying55 info3 rfl (by decide) (by omega) u15 T (rank NL nZ : Nat) [.int .i64 (rank NL nZ : Nat)] (fun k => w10.heap.size <= k) (fun _ => False) rfl rfl rfl (fun _ hk => hk.elim) hw1 X3.1 (Below.refl _ _) ?hs ?hl ?_)
       (case hs => omega)
       (case hl => omega)
       intro v1 w12 ho hb hg hat
       have HO12 := Az.mk ho
       have HB12 := Az.mk (HB11.1.trans hb)
       clear ho hb hg hat hd hs10 hs11 X3 hTl hw1
       go_wp2
       go_roundg (gk - 1)
       case measure => have := hk2.1; have := HZ6.1; omega
       case rel =>
        have h1 := hk2.1
        have h2 := HZ6.1
        have h3 := HLM.1
        have et : (z + 1).toNat = z.toNat + 1 := by omega
        refine ⟨z + 1, T ++ [((rank NL nZ : Nat) : Int)], by rw [show wrap64 (z + 1) = z + 1 from by unfold wrap64; omega], ⟨by omega, by omega⟩, ⟨HO12.1, ?_, HB12.1⟩⟩
        rw [et, HTK2.1, List.map_append, <- hJ.1.2.1]
        rfl
     have q6 : decide (z < (ML.length : Int)) = false := decide_eq_false hz
     have hzl : ML.take z.toNat = ML := List.take_of_length_le (by have := hk2.1; omega)
     have hJ2 := hJ.1
     rw [hzl] at hJ2
     have HJE := Az.mk hJ2
     clear hzl hJ2 hz hk20
     go_upto_region 35 with fail
     have hbp : wr.heap[pb]? = some (Obj.cells #[Value.slice (some ⟨gA, 0, none⟩) NL.length c9, u] 51) := blk_below (blk_below hI.1.1 HB10.1) HJE.1.2.2
     obtain ⟨Au, cu, rfl⟩ := Kd.S_slice hI.1.2.1
     obtain ⟨At, ct, rfl⟩ := Kd.R_slice HJE.1.1
     have d1 : wr.cell? ⟨pb, 1, none⟩ = some (Value.slice Au R2.length cu) := blk_cell hbp 1
     have hsq := HB10.1.size
     have hsw := HJE.1.2.2.size
     have hs9 := hI.1.2.2.2.size
     have hpq := blk_lt hI.1.1
     have hSU := hI.1.2.1
     have hlt := Kd.S_lt hSU
     have HS3 := Az.mk (Kd.S_mono (ok' := fun k => True /\ ¬ w10.heap.size <= k) (Kd.S_below (Kd.S_below (Kd.S_bound hSU) HB10.1) HJE.1.2.2) (fun k hk => ⟨trivial, by have := hk.2.2.1; omega⟩))
     have HM3 : Az ((Kd.slice 3 (Kd.int .i64)).M wr (pb + 1) (fun k => w10.heap.size <= k) T [Value.slice At T.length ct]) := ⟨⟨_, rfl, Kd.R_lower HJE.1.1 (by omega)⟩⟩
     have hokp : ∀ k, w10.heap.size <= k -> True /\ some k ≠ (Value.slice Au R2.length cu).ownBlock := fun k hk => ⟨trivial, fun he => by have := hlt k he.symm; omega⟩
     have HR2 : Az (R2.length <= 100) := ⟨by rw [hI.1.2.2.1]; simp only [List.length_map, List.length_take]; have := HN100.1; omega⟩
     have hbs : pb + 1 <= wr.heap.size := by omega
     have HBP3 := Az.mk hbp
     clear hsq hsw hs9 hpq hSU hlt hbp
     go_wp2_with ((with_reducible refine gate_builtin (b := .append) (xs := #[.tmp 112, .tmp 114]) rfl ?_); at_builtin; refine Kd.S_append (Kd.slice 3 (Kd.int .i64)) (w0 := wr) (pb + 1) rfl (.tmp 112) (.tmp 114) 47 55 (.slice none 0 0) 24 rfl Try.underlying47 info55m rfl Nat.zero_lt_one (by omega) (.slice Au R2.length cu) R2 T [.slice At T.length ct] (fun _ => True) (fun k => w10.heap.size <= k) rfl rfl HM3.1 hokp (fun _ _ => trivial) HS3.1 (Below.refl _ _) hbs ?hl ?_)
     (case hl => have := HR2.1; omega)
     intro v1 w12 ho hb hg hat
     obtain ⟨A12, c12, rfl⟩ := Kd.S_slice ho
     have hbp12 : w12.heap[pb]? = some (Obj.cells #[Value.slice (some ⟨gA, 0, none⟩) NL.length c9, Value.slice Au R2.length cu] 51) := (hb.block pb (Nat.lt_succ_self pb)).trans HBP3.1
     have HO12 := Az.mk ho
     have HB12 := Az.mk hb
     have HBP12 := Az.mk hbp12
     have e1 := blk_frozen hbp12 1
     have d2 : w12.cell? ⟨pb, 1, none⟩ = some (Value.slice Au R2.length cu) := blk_cell hbp12 1
     clear ho hb hg hat d1 hokp HM3 HS3 hbs hbp12
     go_wp2
     go_roundg (g2k - 1)
     case measure => have := hk.1; have := HY.1; omega
     case rel =>
      have h1 := hk.1
      have h2 := HY.1
      have h3 := HN100.1
      have et : (y + 1).toNat = y.toNat + 1 := by omega
      have hs9 := hI.1.2.2.2.size
      have hsq := HB10.1.size
      have hsj := HJE.1.2.2.size
      have hpq := blk_lt hI.1.1
      have hp9 := HPB.1
      have b1 : Below pb w9 w12 := ((hI.1.2.2.2.trans (HB10.1.mono (by omega))).trans (HJE.1.2.2.mono (by omega))).trans (HB12.1.mono (by omega))
      refine ⟨y + 1, R2 ++ [T], .slice A12 (R2 ++ [T]).length c12, by rw [show wrap64 (y + 1) = y + 1 from by unfold wrap64; omega], ⟨by omega, by omega⟩, ⟨?_, ?_, ?_, ?_⟩⟩
      · first
         | exact blk_put HBP12.1 1 _ rfl
         | (rw [List.length_append]; exact blk_put HBP12.1 1 _ rfl)
      · exact Kd.S_mono (Kd.S_far (p := ⟨pb, 1, none⟩) (Kd.S_bound HO12.1) (fun k hk => by have := hk.2.1; show k ≠ pb; omega) _) (fun _ _ => trivial)
      · rw [et, HTK.1, List.map_append, <- hI.1.2.2.1, HJE.1.2.1, HML.1, HNL.1, HK.1]
        rfl
      · exact b1.setCell (Nat.le_refl _) _
theorem made_big (w : World) (A0 : Option Addr) (c0 : Nat) (l : List S42) (hl : (l.length : Int) > 32) :
 Calls Try.prog 34 #[.slice A0 l.length c0] w fun e w' => MadePost w [] [] 3 ⟨#[]⟩ e w' := by
 have q1 : decide (32 < (l.length : Int)) = true := decide_eq_true hl
 have q2 : decide (32 < l.length) = true := decide_eq_true (by omega)
 clear hl
 go_enter Try.func34, Try.ntmps34
 go_wp2
 have hz := rz_new w
 have hp3 : ((w.alloc (Obj.cells #[Value.slice none 0 0, Value.slice none 0 0] 51)).alloc (Obj.cells #[Value.int .i64 3, Value.string ⟨#[]⟩, Value.int .i64 0, Value.int .i64 0] 28)).heap[w.heap.size]? = some (.cells #[.slice none 0 0, .slice none 0 0] 51 (0, 0)) := blk_alloc (MapKept.heap_alloc w (Obj.cells #[Value.slice none 0 0, Value.slice none 0 0] 51)).1 _
 have hf3 : ((w.alloc (Obj.cells #[Value.slice none 0 0, Value.slice none 0 0] 51)).alloc (Obj.cells #[Value.int .i64 3, Value.string ⟨#[]⟩, Value.int .i64 0, Value.int .i64 0] 28)).heap[w.heap.size + 1]? = some (.cells #[.int .i64 3, .string ⟨#[]⟩, .int .i64 0, .int .i64 0] 28 (0, 0)) := by
  have h2 := (MapKept.heap_alloc (w.alloc (Obj.cells #[Value.slice none 0 0, Value.slice none 0 0] 51)) (Obj.cells #[Value.int .i64 3, Value.string ⟨#[]⟩, Value.int .i64 0, Value.int .i64 0] 28)).1
  have e : (w.alloc (Obj.cells #[Value.slice none 0 0, Value.slice none 0 0] 51)).heap.size = w.heap.size + 1 := by simp
  rw [e] at h2
  exact h2
 have hb := below_alloc (below_alloc (Below.refl w.heap.size w) (Obj.cells #[Value.slice none 0 0, Value.slice none 0 0] 51)) (Obj.cells #[Value.int .i64 3, Value.string ⟨#[]⟩, Value.int .i64 0, Value.int .i64 0] 28)
 refine bodyPost_ret (results_cc rfl _ _ w.heap.size (w.heap.size + 1) 51 28 #[.slice none 0 0, .slice none 0 0] #[.int .i64 3, .string ⟨#[]⟩, .int .i64 0, .int .i64 0] (0, 0) (0, 0) _ _ rfl hp3 Try.underlying51 rfl hi51 rfl hf3 Try.underlying28 rfl hi28) rfl ?_
 exact post_fault w _ 3 ⟨#[]⟩ hb
def okSizes (l : List S42) : Prop := ∀ m ∈ l, m.f0.size <= maxLen /\ m.f3.length <= 100000 /\ ∀ i ∈ m.f3, i.f0.size <= maxLen
end Mg
namespace P
open Mg
open Classical in
noncomputable def m_made.f (l : List S42) : Option (List ByteArray × List (List Int) × Int × ByteArray × Int × Int) :=
 if (l.length : Int) > 32 then some ([], [], 3, ⟨#[]⟩, 0, 0) else if okSizes l then
  match twice l [] with
  | some x => some ([], [], 13, x, 0, 0)
  | none => match miss (l.map nm) l with
   | some x => some ([], [], 16, x, 0, 0)
   | none => some (namesOf l, edgesOf l, 0, ⟨#[]⟩, 0, 0)
 else none
theorem m_made.calls (A0 : Option Addr) (c0 : Nat) (l0 : List S42) (r1 : List ByteArray) (r2 : List (List Int)) (r3 : Int) (r4 : ByteArray) (r5 r6 : Int) (w : World) (hr0 : Kd.C k42 w A0 l0.length l0) (hc0 : l0.length <= c0) (h : m_made.f l0 = some (r1, r2, r3, r4, r5, r6)) :
 Calls Try.prog 34 #[.slice A0 l0.length c0] w fun e w' => ∃ v0_ v1_ : Value, e = .returned (.tuple #[.agg #[v0_, v1_], .agg #[.int .i64 r3, .string r4, .int .i64 r5, .int .i64 r6]]) /\ Kd.R Kd.string 9 w' w.heap.size (fun _ => True) v0_ r1 /\ Kd.S (Kd.slice 3 (Kd.int .i64)) 55 w' w.heap.size (fun _ => True) v1_ r2 /\ Below w.heap.size w w' := by
 unfold m_made.f at h
 by_cases hl : (l0.length : Int) > 32
 · rw [if_pos hl] at h
   simp only [Option.some.injEq, Prod.mk.injEq] at h
   obtain ⟨rfl, rfl, rfl, rfl, rfl, rfl⟩ := h
   exact made_big w A0 c0 l0 hl
 rw [if_neg hl] at h
 by_cases hs : okSizes l0
 rotate_left
 · rw [if_neg hs] at h
   cases h
 rw [if_pos hs] at h
 refine (made_walk w A0 c0 l0 hr0 hc0 hs hl).mono fun e w' h2 => ?_
 rcases h2 with ⟨x, hx, hp⟩ | ⟨hx, x, hy, hp⟩ | ⟨hx, hy, hp⟩
 · rw [hx] at h
   simp only [Option.some.injEq, Prod.mk.injEq] at h
   obtain ⟨rfl, rfl, rfl, rfl, rfl, rfl⟩ := h
   exact hp
 · rw [hx] at h
   simp only [hy, Option.some.injEq, Prod.mk.injEq] at h
   obtain ⟨rfl, rfl, rfl, rfl, rfl, rfl⟩ := h
   exact hp
 · rw [hx] at h
   simp only [hy, Option.some.injEq, Prod.mk.injEq] at h
   obtain ⟨rfl, rfl, rfl, rfl, rfl, rfl⟩ := h
   exact hp
end P
end Go.Proofs.Ytmadhaccjmakdaa
namespace Go.Proofs.Ytmadhaccjmakdaa.P
open Go.RowKit Go.Proofs.Yw.A Go.Proofs.Yw.A.Kd Go.Proofs.Yw.B Go.Proofs.Yw.C
attribute [local go_sem] str_gtr str_leq str_geq max2_int min2_int max_two min_two max_three min_three max_four min_four
noncomputable def m_acyclic.f (k : Nat) (l0 : List (S42)) : Option (List ByteArray × (List (List Int)) × Int × ByteArray × Int × Int) := (m_made.f l0).bind fun bt146 => (if bt146.2.2.1 = 0 then ((p_cycle.f k bt146.1 bt146.2.1).bind fun t158 => (if (t158.length : Int) > 0 then (if 0 < (t158.length : Int) then (if 0 <= (rd t158 0) then (if (rd t158 0) < (bt146.1.length : Int) then (some (([] : List ByteArray), ([] : List (List Int)), 18, rdOf ByteArray.empty bt146.1 (rd t158 0), 0, 0)) else (none)) else (none)) else (none)) else (some (bt146.1, bt146.2.1, 0, (⟨#[]⟩ : ByteArray), 0, 0)))) else (some (([] : List ByteArray), ([] : List (List Int)), bt146.2.2.1, bt146.2.2.2.1, bt146.2.2.2.2.1, bt146.2.2.2.2.2)))
noncomputable def m_acyclic.T6 : Bool × List (List Nat × List Nat) := (true, [([], []), ([], []), ([1], [1]), ([], []), ([3], [3]), ([4], [4]), ([2, 5], [2, 5]), ([6], [6]), ([7], [7]), ([0, 0], [0]), ([8, 9, 0, 1, 2, 3, 4, 5, 6, 7, 8, 9], [8])])
noncomputable def m_acyclic.B6 : List Nat := [0, 0, 2, 0, 8, 24, 62, 126, 254, 1, 1023]
theorem m_acyclic.tab6 : rtab .any (opsOf Try.f24 6) = m_acyclic.T6 := by kernel_rfl
theorem m_acyclic.bits6 : waitsOk m_acyclic.T6.2 m_acyclic.B6 = true := by kernel_rfl
theorem m_acyclic.calls (k : Nat) (A0 : Option Addr) (c0 : Nat) (l0 : List (S42)) (r1 : List ByteArray) (r2 : List (List Int)) (r3 : Int) (r4 : ByteArray) (r5 : Int) (r6 : Int) (w : World) (hr0 : Kd.C k42 w A0 l0.length l0) (hc0 : l0.length <= c0) (h : m_acyclic.f k l0 = some (r1, r2, r3, r4, r5, r6)) :
 Calls Try.prog 24 #[.slice A0 l0.length c0] w fun e w' => ∃ v0_ v1_ : Value, e = .returned (.tuple #[.agg #[v0_, v1_], .agg #[.int .i64 r3, .string r4, .int .i64 r5, .int .i64 r6]]) /\ Kd.R Kd.string 9 w' w.heap.size (fun _ => True) v0_ r1 /\ Kd.S (Kd.slice 3 (Kd.int .i64)) 55 w' w.heap.size (fun _ => True) v1_ r2 /\ Below w.heap.size w w' := by
 have hu51 := Try.underlying51
 have hu28 := Try.underlying28
 have HR0 := aM hr0
 have HC0 := aM hc0
 clear hr0 hc0
 have HB := aM (Below.refl w.heap.size w)
 have H : ((m_made.f l0).bind fun bt146 => (if bt146.2.2.1 = 0 then ((p_cycle.f k bt146.1 bt146.2.1).bind fun t158 => (if (t158.length : Int) > 0 then (if 0 < (t158.length : Int) then (if 0 <= (rd t158 0) then (if (rd t158 0) < (bt146.1.length : Int) then (some (([] : List ByteArray), ([] : List (List Int)), 18, rdOf ByteArray.empty bt146.1 (rd t158 0), 0, 0)) else (none)) else (none)) else (none)) else (some (bt146.1, bt146.2.1, 0, (⟨#[]⟩ : ByteArray), 0, 0)))) else (some (([] : List ByteArray), ([] : List (List Int)), bt146.2.2.1, bt146.2.2.2.1, bt146.2.2.2.2.1, bt146.2.2.2.2.2)))) = some (r1, r2, r3, r4, r5, r6) := h
 clear h
 replace H := Option.bind_eq_some_iff.mp H
 obtain ⟨⟨t146, t149, t152, t153, t154, t155⟩, A20, H⟩ := H
 replace H : (if t152 = 0 then ((p_cycle.f k t146 t149).bind fun t158 => (if (t158.length : Int) > 0 then (if 0 < (t158.length : Int) then (if 0 <= (rd t158 0) then (if (rd t158 0) < (t146.length : Int) then (some (([] : List ByteArray), ([] : List (List Int)), 18, rdOf ByteArray.empty t146 (rd t158 0), 0, 0)) else (none)) else (none)) else (none)) else (some (t146, t149, 0, (⟨#[]⟩ : ByteArray), 0, 0)))) else (some (([] : List ByteArray), ([] : List (List Int)), t152, t153, t154, t155))) = some (r1, r2, r3, r4, r5, r6) := H
 have A2 := aM A20
 clear A20
 by_cases c3 : t152 = 0
 rotate_left
 · rw [if_neg c3] at H
   have c3b0 : (t152 == 0) = false := beq_eq_false_iff_ne.mpr c3
   have c3b1 : (t152 != 0) = true := bne_iff_ne.mpr c3
   simp only [Option.some.injEq, Prod.mk.injEq] at H
   obtain ⟨rfl, rfl, rfl, rfl, rfl, rfl⟩ := H
   go_enter Try.func24, Try.ntmps24
   try go_wp2_with (first | ((with_reducible refine gate_dst (N := 2) rfl ?_); refine be 2 rfl rfl #[.slice none 0 0, .slice none 0 0] 51 ?_; intro gb144 hg w52 hbox hb; have BK144 := aM hbox; have GE144 := gs hg HB; replace HB := bs HB hb; clear hb hbox hg) | ((with_reducible refine gate_dst (N := 3) rfl ?_); refine be 3 rfl rfl #[.int .i64 0, .string (⟨#[]⟩ : ByteArray), .int .i64 0, .int .i64 0] 28 ?_; intro gb145 hg w53 hbox hb; have BK145 := aM hbox; have GE145 := gs hg HB; have NB144_145 := nl hg BK144; have NB145_144 := nr hg BK144; replace BK144 := kb BK144 hb; replace HB := bs HB hb; clear hb hbox hg) | ((with_reducible refine gate_callee (f := 34) rfl ?_); refine gL (some 9) rfl rfl Try.func34 (by kernel_rfl) rfl #[.slice A0 l0.length c0] rfl ?_; (with_reducible refine (m_made.calls _ _ l0 t146 t149 t152 t153 t154 t155 _ ?side1 ?side2 A2.1).mono ?_); (case side1 => exact cb HR0 HB); (case side2 => exact HC0.1); rintro e w54 ⟨v147, v150, rfl, ho0, ho1, hb⟩; refine ⟨_, rfl, ?_⟩; have HO148 := aM (R_lower ho0 (below_size (hh HB))); have HO151 := aM (S_lower ho1 (below_size (hh HB))); replace BK144 := kb BK144 hb; replace BK145 := kb BK145 hb; replace HB := bs HB hb; clear hb ho0 ho1) | ((with_reducible refine gate_dst (N := 4) rfl ?_); refine be 4 rfl rfl #[.slice none 0 0, .slice none 0 0] 51 ?_; intro gb156 hg w55 hbox hb; have BK156 := aM hbox; have GE156 := gs hg HB; have NB144_156 := nl hg BK144; have NB156_144 := nr hg BK144; have NB145_156 := nl hg BK145; have NB156_145 := nr hg BK145; replace HO148 := rb HO148 hb; replace HO151 := sb HO151 hb; replace BK144 := kb BK144 hb; replace BK145 := kb BK145 hb; replace HB := bs HB hb; clear hb hbox hg) | ((with_reducible refine gate_dst (N := 5) rfl ?_); refine be 5 rfl rfl #[.int .i64 0, .string (⟨#[]⟩ : ByteArray), .int .i64 0, .int .i64 0] 28 ?_; intro gb157 hg w56 hbox hb; have BK157 := aM hbox; have GE157 := gs hg HB; have NB144_157 := nl hg BK144; have NB157_144 := nr hg BK144; have NB145_157 := nl hg BK145; have NB157_145 := nr hg BK145; have NB156_157 := nl hg BK156; have NB157_156 := nr hg BK156; replace HO148 := rb HO148 hb; replace HO151 := sb HO151 hb; replace BK144 := kb BK144 hb; replace BK145 := kb BK145 hb; replace BK156 := kb BK156 hb; replace HB := bs HB hb; clear hb hbox hg; obtain ⟨Ao57, co57, eo57⟩ := R_slice HO148.1; subst eo57; have hnb58 := NB156_144.1; have hnc58 := NB144_156.1; have hnb59 := NB156_145.1; have hnc59 := NB145_156.1; have hnb60 := NB156_157.1; have hnc60 := NB157_156.1; obtain ⟨hcz61_0, hcz61_1⟩ := cz2 BK156; obtain ⟨hfz61_0, hfz61_1⟩ := fz2 BK156; obtain ⟨Ao62, co62, eo62⟩ := S_slice HO151.1; subst eo62; have hnb63 := NB157_144.1; have hnc63 := NB144_157.1; have hnb64 := NB157_145.1; have hnc64 := NB145_157.1; obtain ⟨hcz65_0, hcz65_1, hcz65_2, hcz65_3⟩ := cz BK157; obtain ⟨hfz65_0, hfz65_1, hfz65_2, hfz65_3⟩ := fz BK157))
   have n0_ : Az (Kd.R Kd.string 9 ((((((w56.setCell ⟨gb156, 0, none⟩ (.slice Ao57 t146.length co57)).setCell ⟨gb156, 1, none⟩ (.slice Ao62 t149.length co62)).setCell ⟨gb157, 0, none⟩ (.int .i64 t152)).setCell ⟨gb157, 1, none⟩ (.string t153)).setCell ⟨gb157, 2, none⟩ (.int .i64 t154)).setCell ⟨gb157, 3, none⟩ (.int .i64 t155)) w.heap.size (fun _ => True) (.slice Ao57 t146.length co57) t146) := ⟨rz (R_mono (R_far (p := ⟨gb157, 3, none⟩) (R_far (p := ⟨gb157, 2, none⟩) (R_far (p := ⟨gb157, 1, none⟩) (R_far (p := ⟨gb157, 0, none⟩) (R_far (p := ⟨gb156, 1, none⟩) (R_far (p := ⟨gb156, 0, none⟩) (R_types (R_types HO148.1 BK156.1 (by decide)) BK157.1 (by decide)) (fun _ hk => hk.1.2) (.slice Ao57 t146.length co57)) (fun _ hk => hk.1.2) (.slice Ao62 t149.length co62)) (fun _ hk => hk.2) (.int .i64 t152)) (fun _ hk => hk.2) (.string t153)) (fun _ hk => hk.2) (.int .i64 t154)) (fun _ hk => hk.2) (.int .i64 t155)) (fun _ hk => trivial))⟩
   have n1_ : Az (Kd.S (Kd.slice 3 (Kd.int .i64)) 55 ((((((w56.setCell ⟨gb156, 0, none⟩ (.slice Ao57 t146.length co57)).setCell ⟨gb156, 1, none⟩ (.slice Ao62 t149.length co62)).setCell ⟨gb157, 0, none⟩ (.int .i64 t152)).setCell ⟨gb157, 1, none⟩ (.string t153)).setCell ⟨gb157, 2, none⟩ (.int .i64 t154)).setCell ⟨gb157, 3, none⟩ (.int .i64 t155)) w.heap.size (fun _ => True) (.slice Ao62 t149.length co62) t149) := ⟨sz (S_mono (S_far (p := ⟨gb157, 3, none⟩) (S_far (p := ⟨gb157, 2, none⟩) (S_far (p := ⟨gb157, 1, none⟩) (S_far (p := ⟨gb157, 0, none⟩) (S_far (p := ⟨gb156, 1, none⟩) (S_far (p := ⟨gb156, 0, none⟩) (S_types (S_types HO151.1 BK156.1 (by decide)) BK157.1 (by decide)) (fun _ hk => hk.1.2) (.slice Ao57 t146.length co57)) (fun _ hk => hk.1.2) (.slice Ao62 t149.length co62)) (fun _ hk => hk.2) (.int .i64 t152)) (fun _ hk => hk.2) (.string t153)) (fun _ hk => hk.2) (.int .i64 t154)) (fun _ hk => hk.2) (.int .i64 t155)) (fun _ hk => trivial))⟩
   have n2_ : Az (((((((w56.setCell ⟨gb156, 0, none⟩ (.slice Ao57 t146.length co57)).setCell ⟨gb156, 1, none⟩ (.slice Ao62 t149.length co62)).setCell ⟨gb157, 0, none⟩ (.int .i64 t152)).setCell ⟨gb157, 1, none⟩ (.string t153)).setCell ⟨gb157, 2, none⟩ (.int .i64 t154)).setCell ⟨gb157, 3, none⟩ (.int .i64 t155)).heap[gb144]? = some (.cells #[.slice none 0 0, .slice none 0 0] 51 (0, 0))) := ⟨kf BK144⟩
   have n3_ : Az (((((((w56.setCell ⟨gb156, 0, none⟩ (.slice Ao57 t146.length co57)).setCell ⟨gb156, 1, none⟩ (.slice Ao62 t149.length co62)).setCell ⟨gb157, 0, none⟩ (.int .i64 t152)).setCell ⟨gb157, 1, none⟩ (.string t153)).setCell ⟨gb157, 2, none⟩ (.int .i64 t154)).setCell ⟨gb157, 3, none⟩ (.int .i64 t155)).heap[gb145]? = some (.cells #[.int .i64 0, .string (⟨#[]⟩ : ByteArray), .int .i64 0, .int .i64 0] 28 (0, 0))) := ⟨kf BK145⟩
   have n4_ : Az (((((((w56.setCell ⟨gb156, 0, none⟩ (.slice Ao57 t146.length co57)).setCell ⟨gb156, 1, none⟩ (.slice Ao62 t149.length co62)).setCell ⟨gb157, 0, none⟩ (.int .i64 t152)).setCell ⟨gb157, 1, none⟩ (.string t153)).setCell ⟨gb157, 2, none⟩ (.int .i64 t154)).setCell ⟨gb157, 3, none⟩ (.int .i64 t155)).heap[gb156]? = some (.cells #[.slice Ao57 t146.length co57, .slice Ao62 t149.length co62] 51 (0, 0))) := ⟨kf BK156⟩
   have n5_ : Az (((((((w56.setCell ⟨gb156, 0, none⟩ (.slice Ao57 t146.length co57)).setCell ⟨gb156, 1, none⟩ (.slice Ao62 t149.length co62)).setCell ⟨gb157, 0, none⟩ (.int .i64 t152)).setCell ⟨gb157, 1, none⟩ (.string t153)).setCell ⟨gb157, 2, none⟩ (.int .i64 t154)).setCell ⟨gb157, 3, none⟩ (.int .i64 t155)).heap[gb157]? = some (.cells #[.int .i64 t152, .string t153, .int .i64 t154, .int .i64 t155] 28 (0, 0))) := ⟨kf BK157⟩
   have n6_ : Az (Below w.heap.size w ((((((w56.setCell ⟨gb156, 0, none⟩ (.slice Ao57 t146.length co57)).setCell ⟨gb156, 1, none⟩ (.slice Ao62 t149.length co62)).setCell ⟨gb157, 0, none⟩ (.int .i64 t152)).setCell ⟨gb157, 1, none⟩ (.string t153)).setCell ⟨gb157, 2, none⟩ (.int .i64 t154)).setCell ⟨gb157, 3, none⟩ (.int .i64 t155))) := ⟨hh HB⟩
   (clear HO148)
   (clear HO151)
   (clear BK144)
   (clear BK145)
   (clear BK156)
   (clear BK157)
   (clear HB)
   generalize ((((((w56.setCell ⟨gb156, 0, none⟩ (.slice Ao57 t146.length co57)).setCell ⟨gb156, 1, none⟩ (.slice Ao62 t149.length co62)).setCell ⟨gb157, 0, none⟩ (.int .i64 t152)).setCell ⟨gb157, 1, none⟩ (.string t153)).setCell ⟨gb157, 2, none⟩ (.int .i64 t154)).setCell ⟨gb157, 3, none⟩ (.int .i64 t155)) = w66 at n0_ n1_ n2_ n3_ n4_ n5_ n6_ ⊢
   have HO148 := n0_
   have HO151 := n1_
   have BK144 := n2_
   have BK145 := n3_
   have BK156 := n4_
   have BK157 := n5_
   have HB := n6_
   clear n0_ n1_ n2_ n3_ n4_ n5_ n6_
   replace HO148 := aM (R_drew HO148.1)
   replace HO151 := aM (S_drew HO151.1)
   replace BK144 := aM (blk_drew BK144.1)
   replace BK145 := aM (blk_drew BK145.1)
   replace BK156 := aM (blk_drew BK156.1)
   replace BK157 := aM (blk_drew BK157.1)
   replace HB := aM (below_drew1 HB.1)
   refine start_ (n := 4) (S := fun w' => w'.cell? ⟨gb157, 0, none⟩ = some (.int .i64 t152) /\ w'.cell? ⟨gb157, 1, none⟩ = some (.string t153) /\ w'.cell? ⟨gb157, 2, none⟩ = some (.int .i64 t154) /\ w'.cell? ⟨gb157, 3, none⟩ = some (.int .i64 t155)) (ds := []) #[F_, F_, F_, F_] (by kernel_rfl) rfl rfl ⟨(blk_cell BK157.1 0).trans rfl, (blk_cell BK157.1 1).trans rfl, (blk_cell BK157.1 2).trans rfl, (blk_cell BK157.1 3).trans rfl⟩ (fun hHeld => ?_)
   generalize w66.drew = w67 at HO148 HO151 BK144 BK145 BK156 BK157 HB hHeld ⊢
   refine pure_ (i := 0) (N := some 15) (v := ?_) (a' := ?_) #[T_, F_, F_, F_] rfl rfl (by kernel_rfl) (fun _ _ _ h => h) (Or.inl ⟨by rfl, ?_⟩) ?_ ?_
   rotate_left
   · intro w'
     go_simp
     with_reducible rfl
   rotate_left
   · simp only [Act.put, sA, sZ, sS, i64_w, i32_w]
     rfl
   refine take_ (i := 1) (N := some 16) (v := ?_) (a' := ?_) #[T_, T_, F_, F_] rfl rfl (by kernel_rfl) (fun _ _ _ h => h) (Or.inl ⟨by rfl, ?_⟩) hHeld ?_ ?_
   rotate_left
   · rintro w' ⟨s0, s1, s2, s3⟩
     go_simp
     with_reducible rfl
   rotate_left
   · simp only [Act.put, sA, sZ, sS, i64_w, i32_w]
     rfl
   refine one_ (i := 2) (N := none) #[T_, T_, T_, F_] rfl rfl (by kernel_rfl) (by decide) (fun K hK => ?_)
   have hs68 : w67.cell? ⟨gb144, 0, none⟩ = some (.slice none 0 0) := (blk_cell BK144.1 0).trans rfl
   have hfs68 := blk_frozen BK144.1 0
   have hns68_1 := NB145_144.1
   have hns68_2 := NB156_144.1
   have hns68_3 := NB157_144.1
   have hms68_1 := NB144_145.1
   have hms68_2 := NB144_156.1
   have hms68_3 := NB144_157.1
   have hs69 : w67.cell? ⟨gb144, 1, none⟩ = some (.slice none 0 0) := (blk_cell BK144.1 1).trans rfl
   have hfs69 := blk_frozen BK144.1 1
   have hns69_1 := NB145_144.1
   have hns69_2 := NB156_144.1
   have hns69_3 := NB157_144.1
   have hms69_1 := NB144_145.1
   have hms69_2 := NB144_156.1
   have hms69_3 := NB144_157.1
   refine skip_ (w1 := ?_) (by rfl) rfl ?_ ?_
   rotate_left
   · go_simp
     rfl
   refine hK.out _ _ ⟨((cell_far (p := ⟨gb144, _, none⟩) NB157_144.1 _).trans (((cell_far (p := ⟨gb144, _, none⟩) NB157_144.1 _).trans (hHeld.1)))), ((cell_far (p := ⟨gb144, _, none⟩) NB157_144.1 _).trans (((cell_far (p := ⟨gb144, _, none⟩) NB157_144.1 _).trans (hHeld.2.1)))), ((cell_far (p := ⟨gb144, _, none⟩) NB157_144.1 _).trans (((cell_far (p := ⟨gb144, _, none⟩) NB157_144.1 _).trans (hHeld.2.2.1)))), ((cell_far (p := ⟨gb144, _, none⟩) NB157_144.1 _).trans (((cell_far (p := ⟨gb144, _, none⟩) NB157_144.1 _).trans (hHeld.2.2.2))))⟩ (fun hHeld => ?_)
   clear hK K
   refine one_ (i := 3) (N := none) #[T_, T_, T_, T_] rfl rfl (by kernel_rfl) (by decide) (fun K hK => ?_)
   have hs70 : w67.cell? ⟨gb145, 0, none⟩ = some (.int .i64 0) := (blk_cell BK145.1 0).trans rfl
   have hfs70 := blk_frozen BK145.1 0
   have hns70_0 := NB144_145.1
   have hns70_2 := NB156_145.1
   have hns70_3 := NB157_145.1
   have hms70_0 := NB145_144.1
   have hms70_2 := NB145_156.1
   have hms70_3 := NB145_157.1
   have hs71 : w67.cell? ⟨gb145, 1, none⟩ = some (.string (⟨#[]⟩ : ByteArray)) := (blk_cell BK145.1 1).trans rfl
   have hfs71 := blk_frozen BK145.1 1
   have hns71_0 := NB144_145.1
   have hns71_2 := NB156_145.1
   have hns71_3 := NB157_145.1
   have hms71_0 := NB145_144.1
   have hms71_2 := NB145_156.1
   have hms71_3 := NB145_157.1
   have hs72 : w67.cell? ⟨gb145, 2, none⟩ = some (.int .i64 0) := (blk_cell BK145.1 2).trans rfl
   have hfs72 := blk_frozen BK145.1 2
   have hns72_0 := NB144_145.1
   have hns72_2 := NB156_145.1
   have hns72_3 := NB157_145.1
   have hms72_0 := NB145_144.1
   have hms72_2 := NB145_156.1
   have hms72_3 := NB145_157.1
   have hs73 : w67.cell? ⟨gb145, 3, none⟩ = some (.int .i64 0) := (blk_cell BK145.1 3).trans rfl
   have hfs73 := blk_frozen BK145.1 3
   have hns73_0 := NB144_145.1
   have hns73_2 := NB156_145.1
   have hns73_3 := NB157_145.1
   have hms73_0 := NB145_144.1
   have hms73_2 := NB145_156.1
   have hms73_3 := NB145_157.1
   refine skip_ (w1 := ?_) (by rfl) rfl ?_ ?_
   rotate_left
   · go_simp
     rfl
   refine hK.out _ _ ⟨((cell_far (p := ⟨gb145, _, none⟩) NB157_145.1 _).trans (((cell_far (p := ⟨gb145, _, none⟩) NB157_145.1 _).trans (((cell_far (p := ⟨gb145, _, none⟩) NB157_145.1 _).trans (((cell_far (p := ⟨gb145, _, none⟩) NB157_145.1 _).trans (hHeld.1)))))))), ((cell_far (p := ⟨gb145, _, none⟩) NB157_145.1 _).trans (((cell_far (p := ⟨gb145, _, none⟩) NB157_145.1 _).trans (((cell_far (p := ⟨gb145, _, none⟩) NB157_145.1 _).trans (((cell_far (p := ⟨gb145, _, none⟩) NB157_145.1 _).trans (hHeld.2.1)))))))), ((cell_far (p := ⟨gb145, _, none⟩) NB157_145.1 _).trans (((cell_far (p := ⟨gb145, _, none⟩) NB157_145.1 _).trans (((cell_far (p := ⟨gb145, _, none⟩) NB157_145.1 _).trans (((cell_far (p := ⟨gb145, _, none⟩) NB157_145.1 _).trans (hHeld.2.2.1)))))))), ((cell_far (p := ⟨gb145, _, none⟩) NB157_145.1 _).trans (((cell_far (p := ⟨gb145, _, none⟩) NB157_145.1 _).trans (((cell_far (p := ⟨gb145, _, none⟩) NB157_145.1 _).trans (((cell_far (p := ⟨gb145, _, none⟩) NB157_145.1 _).trans (hHeld.2.2.2))))))))⟩ (fun hHeld => ?_)
   clear hK K
   refine done_ (by kernel_rfl) ?_
   try go_wp2
   refine bodyPost_ret (results_cc rfl _ _ gb144 gb145 51 28 #[.slice none 0 0, .slice none 0 0] #[.int .i64 t152, .string t153, .int .i64 t154, .int .i64 t155] (0, 0) (0, 0) _ _ rfl (kf BK144) Try.underlying51 rfl (by kernel_rfl) rfl (kf BK145) Try.underlying28 rfl (by kernel_rfl)) rfl ?_
   exact ⟨_, _, by first | rfl | (simp [errW_none, errW_some] <;> rfl) | (simp [*, errW_none, errW_some] <;> rfl), by first | exact R_nil _ _ _ _ _ | exact N_nil _ _ _ _ _ | exact V_nil _ _ _ _ _ | exact Q_nil _ _ _ _ _ | exact S_nil _ _ _ _ _, by first | exact S_nil _ _ _ _ _ | exact N_nil _ _ _ _ _ | exact V_nil _ _ _ _ _ | exact Q_nil _ _ _ _ _ | exact R_nil _ _ _ _ _, hh HB⟩
 rw [if_pos c3] at H
 have c3b0 : (t152 == 0) = true := beq_iff_eq.mpr c3
 have c3b1 : (t152 != 0) = false := bne_eq_false_iff_eq.mpr c3
 clear c3
 replace H := Option.bind_eq_some_iff.mp H
 obtain ⟨t158, A40, H⟩ := H
 replace H : (if (t158.length : Int) > 0 then (if 0 < (t158.length : Int) then (if 0 <= (rd t158 0) then (if (rd t158 0) < (t146.length : Int) then (some (([] : List ByteArray), ([] : List (List Int)), 18, rdOf ByteArray.empty t146 (rd t158 0), 0, 0)) else (none)) else (none)) else (none)) else (some (t146, t149, 0, (⟨#[]⟩ : ByteArray), 0, 0))) = some (r1, r2, r3, r4, r5, r6) := H
 have A4 := aM A40
 clear A40
 by_cases c5 : (t158.length : Int) > 0
 rotate_left
 · rw [if_neg c5] at H
   have c5b0 : decide (0 < (t158.length : Int)) = false := decide_eq_false c5
   have c5b1 : decide (0 < t158.length) = false := decide_eq_false (by omega)
   clear c5
   simp only [Option.some.injEq, Prod.mk.injEq] at H
   obtain ⟨rfl, rfl, rfl, rfl, rfl, rfl⟩ := H
   go_enter Try.func24, Try.ntmps24
   go_wp2_with (first | ((with_reducible refine gate_dst (N := 2) rfl ?_); refine be 2 rfl rfl #[.slice none 0 0, .slice none 0 0] 51 ?_; intro gb144 hg w32 hbox hb; have BK144 := aM hbox; have GE144 := gs hg HB; replace HB := bs HB hb; clear hb hbox hg) | ((with_reducible refine gate_dst (N := 3) rfl ?_); refine be 3 rfl rfl #[.int .i64 0, .string (⟨#[]⟩ : ByteArray), .int .i64 0, .int .i64 0] 28 ?_; intro gb145 hg w33 hbox hb; have BK145 := aM hbox; have GE145 := gs hg HB; have NB144_145 := nl hg BK144; have NB145_144 := nr hg BK144; replace BK144 := kb BK144 hb; replace HB := bs HB hb; clear hb hbox hg) | ((with_reducible refine gate_callee (f := 34) rfl ?_); refine gL (some 9) rfl rfl Try.func34 (by kernel_rfl) rfl #[.slice A0 l0.length c0] rfl ?_; (with_reducible refine (m_made.calls _ _ l0 t146 t149 t152 t153 t154 t155 _ ?side1 ?side2 A2.1).mono ?_); (case side1 => exact cb HR0 HB); (case side2 => exact HC0.1); rintro e w34 ⟨v147, v150, rfl, ho0, ho1, hb⟩; refine ⟨_, rfl, ?_⟩; have HO148 := aM (R_lower ho0 (below_size (hh HB))); have HO151 := aM (S_lower ho1 (below_size (hh HB))); replace BK144 := kb BK144 hb; replace BK145 := kb BK145 hb; replace HB := bs HB hb; clear hb ho0 ho1) | ((with_reducible refine gate_dst (N := 4) rfl ?_); refine be 4 rfl rfl #[.slice none 0 0, .slice none 0 0] 51 ?_; intro gb156 hg w35 hbox hb; have BK156 := aM hbox; have GE156 := gs hg HB; have NB144_156 := nl hg BK144; have NB156_144 := nr hg BK144; have NB145_156 := nl hg BK145; have NB156_145 := nr hg BK145; replace HO148 := rb HO148 hb; replace HO151 := sb HO151 hb; replace BK144 := kb BK144 hb; replace BK145 := kb BK145 hb; replace HB := bs HB hb; clear hb hbox hg) | ((with_reducible refine gate_dst (N := 5) rfl ?_); refine be 5 rfl rfl #[.int .i64 0, .string (⟨#[]⟩ : ByteArray), .int .i64 0, .int .i64 0] 28 ?_; intro gb157 hg w36 hbox hb; have BK157 := aM hbox; have GE157 := gs hg HB; have NB144_157 := nl hg BK144; have NB157_144 := nr hg BK144; have NB145_157 := nl hg BK145; have NB157_145 := nr hg BK145; have NB156_157 := nl hg BK156; have NB157_156 := nr hg BK156; replace HO148 := rb HO148 hb; replace HO151 := sb HO151 hb; replace BK144 := kb BK144 hb; replace BK145 := kb BK145 hb; replace BK156 := kb BK156 hb; replace HB := bs HB hb; clear hb hbox hg; obtain ⟨Ao37, co37, eo37⟩ := R_slice HO148.1; subst eo37; have hnb38 := NB156_144.1; have hnc38 := NB144_156.1; have hnb39 := NB156_145.1; have hnc39 := NB145_156.1; have hnb40 := NB156_157.1; have hnc40 := NB157_156.1; obtain ⟨hcz41_0, hcz41_1⟩ := cz2 BK156; obtain ⟨hfz41_0, hfz41_1⟩ := fz2 BK156; obtain ⟨Ao42, co42, eo42⟩ := S_slice HO151.1; subst eo42; have hnb43 := NB157_144.1; have hnc43 := NB144_157.1; have hnb44 := NB157_145.1; have hnc44 := NB145_157.1; obtain ⟨hcz45_0, hcz45_1, hcz45_2, hcz45_3⟩ := cz BK157; obtain ⟨hfz45_0, hfz45_1, hfz45_2, hfz45_3⟩ := fz BK157) | ((with_reducible refine gate_callee (f := 35) rfl ?_); refine gL (some 18) rfl rfl Try.func35 (by kernel_rfl) rfl #[.agg #[.slice Ao37 t146.length co37, .slice Ao42 t149.length co42]] rfl ?_; (with_reducible refine (p_cycle.calls k _ _ t146 _ _ t149 t158 _ ?side1 ?side2 ?side3 ?side4 A4.1).mono ?_); (case side1 => exact c2 (rf24 HO148 BK156 (by decide) BK157 (by decide))); (case side2 => exact (R_reads' HO148.1).2.1); (case side3 => exact c3 (sf24 HO151 BK156 (by decide) BK157 (by decide))); (case side4 => exact (S_reads' HO151.1).2.1); rintro e w46 ⟨v159, rfl, ho0, hb⟩; refine ⟨_, rfl, ?_⟩; have HO160 := aM (R_lower ho0 (below_size (hh HB))); replace HO148 := aM (R_below (rz (rf24 HO148 BK156 (by decide) BK157 (by decide))) hb); replace HO151 := aM (S_elder' (sz (sf24 HO151 BK156 (by decide) BK157 (by decide))) (R_base ho0) hb); replace BK144 := kg (o' := .cells #[.slice none 0 0, .slice none 0 0] 51 (0, 0)) BK144 hb; replace BK145 := kg (o' := .cells #[.int .i64 0, .string (⟨#[]⟩ : ByteArray), .int .i64 0, .int .i64 0] 28 (0, 0)) BK145 hb; replace BK156 := kg (o' := .cells #[.slice Ao37 t146.length co37, .slice Ao42 t149.length co42] 51 (0, 0)) BK156 hb; replace BK157 := kg (o' := .cells #[.int .i64 t152, .string t153, .int .i64 t154, .int .i64 t155] 28 (0, 0)) BK157 hb; replace HB := bs HB hb; clear hb ho0; obtain ⟨Ao47, co47, eo47⟩ := R_slice HO160.1; subst eo47; obtain ⟨hcz48_0, hcz48_1⟩ := cz2 BK156; obtain ⟨hfz48_0, hfz48_1⟩ := fz2 BK156; have hnb49 := NB144_145.1; have hnc49 := NB145_144.1; obtain ⟨hcz50_0, hcz50_1⟩ := cz2 BK144; obtain ⟨hfz50_0, hfz50_1⟩ := fz2 BK144; obtain ⟨hcz51_0, hcz51_1, hcz51_2, hcz51_3⟩ := cz BK145; obtain ⟨hfz51_0, hfz51_1, hfz51_2, hfz51_3⟩ := fz BK145))
   refine bodyPost_ret (results_cc rfl _ _ gb144 gb145 51 28 #[.slice Ao37 t146.length co37, .slice Ao42 t149.length co42] #[.int .i64 0, .string (⟨#[]⟩ : ByteArray), .int .i64 0, .int .i64 0] (0, 0) (0, 0) _ _ rfl (kf BK144) Try.underlying51 rfl (by kernel_rfl) rfl (kf BK145) Try.underlying28 rfl (by kernel_rfl)) rfl ?_
   exact ⟨_, _, by first | rfl | (simp [errW_none, errW_some] <;> rfl) | (simp [*, errW_none, errW_some] <;> rfl), rz (R_mono (R_far (p := ⟨gb145, 3, none⟩) (R_far (p := ⟨gb145, 2, none⟩) (R_far (p := ⟨gb145, 1, none⟩) (R_far (p := ⟨gb145, 0, none⟩) (R_far (p := ⟨gb144, 1, none⟩) (R_far (p := ⟨gb144, 0, none⟩) (R_types (R_types HO148.1 BK144.1 (by decide)) BK145.1 (by decide)) (fun _ hk => hk.1.2) (.slice Ao37 t146.length co37)) (fun _ hk => hk.1.2) (.slice Ao42 t149.length co42)) (fun _ hk => hk.2) (.int .i64 0)) (fun _ hk => hk.2) (.string (⟨#[]⟩ : ByteArray))) (fun _ hk => hk.2) (.int .i64 0)) (fun _ hk => hk.2) (.int .i64 0)) (fun _ hk => trivial)), sz (S_mono (S_far (p := ⟨gb145, 3, none⟩) (S_far (p := ⟨gb145, 2, none⟩) (S_far (p := ⟨gb145, 1, none⟩) (S_far (p := ⟨gb145, 0, none⟩) (S_far (p := ⟨gb144, 1, none⟩) (S_far (p := ⟨gb144, 0, none⟩) (S_types (S_types HO151.1 BK144.1 (by decide)) BK145.1 (by decide)) (fun _ hk => hk.1.2) (.slice Ao37 t146.length co37)) (fun _ hk => hk.1.2) (.slice Ao42 t149.length co42)) (fun _ hk => hk.2) (.int .i64 0)) (fun _ hk => hk.2) (.string (⟨#[]⟩ : ByteArray))) (fun _ hk => hk.2) (.int .i64 0)) (fun _ hk => hk.2) (.int .i64 0)) (fun _ hk => trivial)), hh HB⟩
 rw [if_pos c5] at H
 have c5b0 : decide (0 < (t158.length : Int)) = true := decide_eq_true c5
 have c5b1 : decide (0 < t158.length) = true := decide_eq_true (by omega)
 clear c5
 by_cases c6 : 0 < (t158.length : Int)
 rotate_left
 · rw [if_neg c6] at H
   exact absurd H (by simp)
 rw [if_pos c6] at H
 have c6b0 : decide (0 < (t158.length : Int)) = true := decide_eq_true c6
 have c6b1 : decide (0 < t158.length) = true := decide_eq_true (by omega)
 clear c6
 by_cases c7 : 0 <= (rd t158 0)
 rotate_left
 · rw [if_neg c7] at H
   exact absurd H (by simp)
 rw [if_pos c7] at H
 have c7b0 : decide (0 <= (rd t158 0)) = true := decide_eq_true c7
 clear c7
 by_cases c8 : (rd t158 0) < (t146.length : Int)
 rotate_left
 · rw [if_neg c8] at H
   exact absurd H (by simp)
 rw [if_pos c8] at H
 have c8b0 : decide ((rd t158 0) < (t146.length : Int)) = true := decide_eq_true c8
 clear c8
 simp only [Option.some.injEq, Prod.mk.injEq] at H
 obtain ⟨rfl, rfl, rfl, rfl, rfl, rfl⟩ := H
 go_enter Try.func24, Try.ntmps24
 try go_wp2_with (first | ((with_reducible refine gate_dst (N := 2) rfl ?_); refine be 2 rfl rfl #[.slice none 0 0, .slice none 0 0] 51 ?_; intro gb144 hg w9 hbox hb; have BK144 := aM hbox; have GE144 := gs hg HB; replace HB := bs HB hb; clear hb hbox hg) | ((with_reducible refine gate_dst (N := 3) rfl ?_); refine be 3 rfl rfl #[.int .i64 0, .string (⟨#[]⟩ : ByteArray), .int .i64 0, .int .i64 0] 28 ?_; intro gb145 hg w10 hbox hb; have BK145 := aM hbox; have GE145 := gs hg HB; have NB144_145 := nl hg BK144; have NB145_144 := nr hg BK144; replace BK144 := kb BK144 hb; replace HB := bs HB hb; clear hb hbox hg) | ((with_reducible refine gate_callee (f := 34) rfl ?_); refine gL (some 9) rfl rfl Try.func34 (by kernel_rfl) rfl #[.slice A0 l0.length c0] rfl ?_; (with_reducible refine (m_made.calls _ _ l0 t146 t149 t152 t153 t154 t155 _ ?side1 ?side2 A2.1).mono ?_); (case side1 => exact cb HR0 HB); (case side2 => exact HC0.1); rintro e w11 ⟨v147, v150, rfl, ho0, ho1, hb⟩; refine ⟨_, rfl, ?_⟩; have HO148 := aM (R_lower ho0 (below_size (hh HB))); have HO151 := aM (S_lower ho1 (below_size (hh HB))); replace BK144 := kb BK144 hb; replace BK145 := kb BK145 hb; replace HB := bs HB hb; clear hb ho0 ho1) | ((with_reducible refine gate_dst (N := 4) rfl ?_); refine be 4 rfl rfl #[.slice none 0 0, .slice none 0 0] 51 ?_; intro gb156 hg w12 hbox hb; have BK156 := aM hbox; have GE156 := gs hg HB; have NB144_156 := nl hg BK144; have NB156_144 := nr hg BK144; have NB145_156 := nl hg BK145; have NB156_145 := nr hg BK145; replace HO148 := rb HO148 hb; replace HO151 := sb HO151 hb; replace BK144 := kb BK144 hb; replace BK145 := kb BK145 hb; replace HB := bs HB hb; clear hb hbox hg) | ((with_reducible refine gate_dst (N := 5) rfl ?_); refine be 5 rfl rfl #[.int .i64 0, .string (⟨#[]⟩ : ByteArray), .int .i64 0, .int .i64 0] 28 ?_; intro gb157 hg w13 hbox hb; have BK157 := aM hbox; have GE157 := gs hg HB; have NB144_157 := nl hg BK144; have NB157_144 := nr hg BK144; have NB145_157 := nl hg BK145; have NB157_145 := nr hg BK145; have NB156_157 := nl hg BK156; have NB157_156 := nr hg BK156; replace HO148 := rb HO148 hb; replace HO151 := sb HO151 hb; replace BK144 := kb BK144 hb; replace BK145 := kb BK145 hb; replace BK156 := kb BK156 hb; replace HB := bs HB hb; clear hb hbox hg; obtain ⟨Ao14, co14, eo14⟩ := R_slice HO148.1; subst eo14; have hnb15 := NB156_144.1; have hnc15 := NB144_156.1; have hnb16 := NB156_145.1; have hnc16 := NB145_156.1; have hnb17 := NB156_157.1; have hnc17 := NB157_156.1; obtain ⟨hcz18_0, hcz18_1⟩ := cz2 BK156; obtain ⟨hfz18_0, hfz18_1⟩ := fz2 BK156; obtain ⟨Ao19, co19, eo19⟩ := S_slice HO151.1; subst eo19; have hnb20 := NB157_144.1; have hnc20 := NB144_157.1; have hnb21 := NB157_145.1; have hnc21 := NB145_157.1; obtain ⟨hcz22_0, hcz22_1, hcz22_2, hcz22_3⟩ := cz BK157; obtain ⟨hfz22_0, hfz22_1, hfz22_2, hfz22_3⟩ := fz BK157) | ((with_reducible refine gate_callee (f := 35) rfl ?_); refine gL (some 18) rfl rfl Try.func35 (by kernel_rfl) rfl #[.agg #[.slice Ao14 t146.length co14, .slice Ao19 t149.length co19]] rfl ?_; (with_reducible refine (p_cycle.calls k _ _ t146 _ _ t149 t158 _ ?side1 ?side2 ?side3 ?side4 A4.1).mono ?_); (case side1 => exact c2 (rf24 HO148 BK156 (by decide) BK157 (by decide))); (case side2 => exact (R_reads' HO148.1).2.1); (case side3 => exact c3 (sf24 HO151 BK156 (by decide) BK157 (by decide))); (case side4 => exact (S_reads' HO151.1).2.1); rintro e w23 ⟨v159, rfl, ho0, hb⟩; refine ⟨_, rfl, ?_⟩; have HO160 := aM (R_lower ho0 (below_size (hh HB))); replace HO148 := aM (R_below (rz (rf24 HO148 BK156 (by decide) BK157 (by decide))) hb); replace HO151 := aM (S_elder' (sz (sf24 HO151 BK156 (by decide) BK157 (by decide))) (R_base ho0) hb); replace BK144 := kg (o' := .cells #[.slice none 0 0, .slice none 0 0] 51 (0, 0)) BK144 hb; replace BK145 := kg (o' := .cells #[.int .i64 0, .string (⟨#[]⟩ : ByteArray), .int .i64 0, .int .i64 0] 28 (0, 0)) BK145 hb; replace BK156 := kg (o' := .cells #[.slice Ao14 t146.length co14, .slice Ao19 t149.length co19] 51 (0, 0)) BK156 hb; replace BK157 := kg (o' := .cells #[.int .i64 t152, .string t153, .int .i64 t154, .int .i64 t155] 28 (0, 0)) BK157 hb; replace HB := bs HB hb; clear hb ho0; obtain ⟨Ao24, co24, eo24⟩ := R_slice HO160.1; subst eo24))
 replace HO148 := aM (R_drew HO148.1)
 replace HO151 := aM (S_drew HO151.1)
 replace HO160 := aM (R_drew HO160.1)
 replace BK144 := aM (blk_drew BK144.1)
 replace BK145 := aM (blk_drew BK145.1)
 replace BK156 := aM (blk_drew BK156.1)
 replace BK157 := aM (blk_drew BK157.1)
 replace HB := aM (below_drew1 HB.1)
 have p161 : 0 <= (0 : Int) := (by omega)
 have q161 : 0 < (t158.length : Int) := dt
 obtain ⟨ad161, e161, hx161_0⟩ := Kd.at_int (R_reads' HO160.1).2.2 0 p161 q161
 cases e161
 have qi161 : (0 < t158.length) = True := eq_true (by omega)
 (try rw [show ((0 : Int)).toNat = 0 from rfl] at hx161_0)
 (try rw [Addr.add_zero'] at hx161_0)
 replace p161 := eq_true p161
 replace q161 := eq_true q161
 have p162 : 0 <= ((rd t158 0) : Int) := dt
 have q162 : (rd t158 0) < (t146.length : Int) := dt
 obtain ⟨ad162, e162, hx162_0⟩ := Kd.at_string (R_reads' HO148.1).2.2 (rd t158 0) p162 q162
 cases e162
 replace p162 := eq_true p162
 replace q162 := eq_true q162
 refine start_ (n := 11) (S := fun w' => w'.cell? ⟨gb156, 0, none⟩ = some (.slice (some ad162) t146.length co14) /\ w'.cell? ⟨gb156, 1, none⟩ = some (.slice Ao19 t149.length co19) /\ w'.cell? ad161 = some (.int .i64 (rd t158 0)) /\ w'.cell? (ad162.add ((rd t158 0)).toNat) = some (.string (rdOf ByteArray.empty t146 (rd t158 0)))) (ds := []) #[F_, F_, F_, F_, F_, F_, F_, F_, F_, F_, F_] (by kernel_rfl) rfl rfl ⟨(blk_cell BK156.1 0).trans rfl, (blk_cell BK156.1 1).trans rfl, hx161_0, hx162_0⟩ (fun hHeld => ?_); refine with_tabW m_acyclic.tab6 m_acyclic.bits6 (fun HT_ HW_ => ?_)
 generalize w23.drew = w25 at HO148 HO151 HO160 BK144 BK145 BK156 BK157 HB hx161_0 hx162_0 hHeld ⊢
 refine pure_ (i := 0) (N := some 22) (v := ?_) (a' := ?_) #[T_, F_, F_, F_, F_, F_, F_, F_, F_, F_, F_] rfl rfl (any_of HT_.1 (by kernel_rfl)) (fun _ _ _ h => h) (Or.inl ⟨by rfl, ?_⟩) ?_ ?_
 rotate_left
 · intro w'
   go_simp
   with_reducible rfl
 rotate_left
 · simp only [Act.put, sA, sZ, sS, i64_w, i32_w]
   rfl
 refine pure_ (i := 1) (N := some 23) (v := ?_) (a' := ?_) #[T_, T_, F_, F_, F_, F_, F_, F_, F_, F_, F_] rfl rfl (any_of HT_.1 (by kernel_rfl)) (fun _ _ _ h => h) (Or.inl ⟨by rfl, ?_⟩) ?_ ?_
 rotate_left
 · intro w'
   go_simp
   with_reducible rfl
 rotate_left
 · simp only [Act.put, sA, sZ, sS, i64_w, i32_w]
   rfl
 refine pure_ (i := 3) (N := some 25) (v := ?_) (a' := ?_) #[T_, T_, F_, T_, F_, F_, F_, F_, F_, F_, F_] rfl rfl (any_of HT_.1 (by kernel_rfl)) (fun _ _ _ h => h) (Or.inl ⟨by rfl, ?_⟩) ?_ ?_
 rotate_left
 · intro w'
   go_simp
   with_reducible rfl
 rotate_left
 · simp only [Act.put, sA, sZ, sS, i64_w, i32_w]
   rfl
 refine pure_ (i := 4) (N := some 26) (v := ?_) (a' := ?_) #[T_, T_, F_, T_, T_, F_, F_, F_, F_, F_, F_] rfl rfl (any_of HT_.1 (by kernel_rfl)) (fun _ _ _ h => h) (Or.inl ⟨by rfl, ?_⟩) ?_ ?_
 rotate_left
 · intro w'
   go_simp
   with_reducible rfl
 rotate_left
 · simp only [Act.put, sA, sZ, sS, i64_w, i32_w]
   rfl
 refine take_ (i := 2) (N := some 24) (v := ?_) (a' := ?_) #[T_, T_, T_, T_, T_, F_, F_, F_, F_, F_, F_] rfl rfl (take_ofW HT_.1 HW_.1 (by kernel_rfl)) (fun _ _ _ h => h) (Or.inl ⟨by rfl, ?_⟩) hHeld ?_ ?_
 rotate_left
 · rintro w' ⟨s0, s1, s2, s3⟩
   go_simp
   with_reducible rfl
 rotate_left
 · simp only [Act.put, sA, sZ, sS, i64_w, i32_w]
   rfl
 refine take_ (i := 5) (N := some 27) (v := ?_) (a' := ?_) #[T_, T_, T_, T_, T_, T_, F_, F_, F_, F_, F_] rfl rfl (take_ofW HT_.1 HW_.1 (by kernel_rfl)) (fun _ _ _ h => h) (Or.inl ⟨by rfl, ?_⟩) hHeld ?_ ?_
 rotate_left
 · rintro w' ⟨s0, s1, s2, s3⟩
   go_simp
   with_reducible rfl
 rotate_left
 · simp only [Act.put, sA, sZ, sS, i64_w, i32_w]
   rfl
 refine pure_ (i := 6) (N := some 28) (v := ?_) (a' := ?_) #[T_, T_, T_, T_, T_, T_, T_, F_, F_, F_, F_] rfl rfl (any_of HT_.1 (by kernel_rfl)) (fun _ _ _ h => h) (Or.inl ⟨by rfl, ?_⟩) ?_ ?_
 rotate_left
 · intro w'
   go_simp
   with_reducible rfl
 rotate_left
 · simp only [Act.put, sA, sZ, sS, i64_w, i32_w]
   rfl
 refine take_ (i := 7) (N := some 29) (v := ?_) (a' := ?_) #[T_, T_, T_, T_, T_, T_, T_, T_, F_, F_, F_] rfl rfl (take_ofW HT_.1 HW_.1 (by kernel_rfl)) (fun _ _ _ h => h) (Or.inl ⟨by rfl, ?_⟩) hHeld ?_ ?_
 rotate_left
 · rintro w' ⟨s0, s1, s2, s3⟩
   go_simp
   with_reducible rfl
 rotate_left
 · simp only [Act.put, sA, sZ, sS, i64_w, i32_w]
   rfl
 refine pure_ (i := 8) (N := some 30) (v := ?_) (a' := ?_) #[T_, T_, T_, T_, T_, T_, T_, T_, T_, F_, F_] rfl rfl (any_of HT_.1 (by kernel_rfl)) (fun _ _ _ h => h) (Or.inl ⟨by rfl, ?_⟩) ?_ ?_
 rotate_left
 · intro w'
   go_simp
   with_reducible rfl
 rotate_left
 · simp only [Act.put, sA, sZ, sS, i64_w, i32_w]
   rfl
 refine one_ (i := 9) (N := none) #[T_, T_, T_, T_, T_, T_, T_, T_, T_, T_, F_] rfl rfl (one_of HT_.1 (by kernel_rfl)) (by decide) (fun K hK => ?_)
 have hs26 : w25.cell? ⟨gb144, 0, none⟩ = some (.slice none 0 0) := (blk_cell BK144.1 0).trans rfl
 have hfs26 := blk_frozen BK144.1 0
 have hns26_1 := NB145_144.1
 have hns26_2 := NB156_144.1
 have hns26_3 := NB157_144.1
 have hms26_1 := NB144_145.1
 have hms26_2 := NB144_156.1
 have hms26_3 := NB144_157.1
 have hs27 : w25.cell? ⟨gb144, 1, none⟩ = some (.slice none 0 0) := (blk_cell BK144.1 1).trans rfl
 have hfs27 := blk_frozen BK144.1 1
 have hns27_1 := NB145_144.1
 have hns27_2 := NB156_144.1
 have hns27_3 := NB157_144.1
 have hms27_1 := NB144_145.1
 have hms27_2 := NB144_156.1
 have hms27_3 := NB144_157.1
 refine skip_ (w1 := ?_) (by rfl) rfl ?_ ?_
 rotate_left
 · go_simp
   rfl
 refine hK.out _ _ ⟨((cell_far (p := ⟨gb144, _, none⟩) NB156_144.1 _).trans (((cell_far (p := ⟨gb144, _, none⟩) NB156_144.1 _).trans (hHeld.1)))), ((cell_far (p := ⟨gb144, _, none⟩) NB156_144.1 _).trans (((cell_far (p := ⟨gb144, _, none⟩) NB156_144.1 _).trans (hHeld.2.1)))), ((cell_far (p := ⟨gb144, _, none⟩) (by first | exact Kd.own_blk (R_ne HO160.1 BK144.1 (by decide)) | (rw [add_block]; exact Kd.own_blk (R_ne HO160.1 BK144.1 (by decide))) | (show (Addr.add _ _).block ≠ _; rw [add_block]; exact Kd.own_blk (R_ne HO160.1 BK144.1 (by decide))) | (dsimp only; exact Kd.own_blk (R_ne HO160.1 BK144.1 (by decide)))) _).trans (((cell_far (p := ⟨gb144, _, none⟩) (by first | exact Kd.own_blk (R_ne HO160.1 BK144.1 (by decide)) | (rw [add_block]; exact Kd.own_blk (R_ne HO160.1 BK144.1 (by decide))) | (show (Addr.add _ _).block ≠ _; rw [add_block]; exact Kd.own_blk (R_ne HO160.1 BK144.1 (by decide))) | (dsimp only; exact Kd.own_blk (R_ne HO160.1 BK144.1 (by decide)))) _).trans (hHeld.2.2.1)))), ((cell_far (p := ⟨gb144, _, none⟩) (by first | exact Kd.own_blk (R_ne HO148.1 BK144.1 (by decide)) | (rw [add_block]; exact Kd.own_blk (R_ne HO148.1 BK144.1 (by decide))) | (show (Addr.add _ _).block ≠ _; rw [add_block]; exact Kd.own_blk (R_ne HO148.1 BK144.1 (by decide))) | (dsimp only; exact Kd.own_blk (R_ne HO148.1 BK144.1 (by decide)))) _).trans (((cell_far (p := ⟨gb144, _, none⟩) (by first | exact Kd.own_blk (R_ne HO148.1 BK144.1 (by decide)) | (rw [add_block]; exact Kd.own_blk (R_ne HO148.1 BK144.1 (by decide))) | (show (Addr.add _ _).block ≠ _; rw [add_block]; exact Kd.own_blk (R_ne HO148.1 BK144.1 (by decide))) | (dsimp only; exact Kd.own_blk (R_ne HO148.1 BK144.1 (by decide)))) _).trans (hHeld.2.2.2))))⟩ (fun hHeld => ?_)
 clear hK K
 refine one_ (i := 10) (N := none) #[T_, T_, T_, T_, T_, T_, T_, T_, T_, T_, T_] rfl rfl (one_of HT_.1 (by kernel_rfl)) (by decide) (fun K hK => ?_)
 have hs28 : w25.cell? ⟨gb145, 0, none⟩ = some (.int .i64 0) := (blk_cell BK145.1 0).trans rfl
 have hfs28 := blk_frozen BK145.1 0
 have hns28_0 := NB144_145.1
 have hns28_2 := NB156_145.1
 have hns28_3 := NB157_145.1
 have hms28_0 := NB145_144.1
 have hms28_2 := NB145_156.1
 have hms28_3 := NB145_157.1
 have hs29 : w25.cell? ⟨gb145, 1, none⟩ = some (.string (⟨#[]⟩ : ByteArray)) := (blk_cell BK145.1 1).trans rfl
 have hfs29 := blk_frozen BK145.1 1
 have hns29_0 := NB144_145.1
 have hns29_2 := NB156_145.1
 have hns29_3 := NB157_145.1
 have hms29_0 := NB145_144.1
 have hms29_2 := NB145_156.1
 have hms29_3 := NB145_157.1
 have hs30 : w25.cell? ⟨gb145, 2, none⟩ = some (.int .i64 0) := (blk_cell BK145.1 2).trans rfl
 have hfs30 := blk_frozen BK145.1 2
 have hns30_0 := NB144_145.1
 have hns30_2 := NB156_145.1
 have hns30_3 := NB157_145.1
 have hms30_0 := NB145_144.1
 have hms30_2 := NB145_156.1
 have hms30_3 := NB145_157.1
 have hs31 : w25.cell? ⟨gb145, 3, none⟩ = some (.int .i64 0) := (blk_cell BK145.1 3).trans rfl
 have hfs31 := blk_frozen BK145.1 3
 have hns31_0 := NB144_145.1
 have hns31_2 := NB156_145.1
 have hns31_3 := NB157_145.1
 have hms31_0 := NB145_144.1
 have hms31_2 := NB145_156.1
 have hms31_3 := NB145_157.1
 refine skip_ (w1 := ?_) (by rfl) rfl ?_ ?_
 rotate_left
 · go_simp
   rfl
 refine hK.out _ _ ⟨((cell_far (p := ⟨gb145, _, none⟩) NB156_145.1 _).trans (((cell_far (p := ⟨gb145, _, none⟩) NB156_145.1 _).trans (((cell_far (p := ⟨gb145, _, none⟩) NB156_145.1 _).trans (((cell_far (p := ⟨gb145, _, none⟩) NB156_145.1 _).trans (hHeld.1)))))))), ((cell_far (p := ⟨gb145, _, none⟩) NB156_145.1 _).trans (((cell_far (p := ⟨gb145, _, none⟩) NB156_145.1 _).trans (((cell_far (p := ⟨gb145, _, none⟩) NB156_145.1 _).trans (((cell_far (p := ⟨gb145, _, none⟩) NB156_145.1 _).trans (hHeld.2.1)))))))), ((cell_far (p := ⟨gb145, _, none⟩) (by first | exact Kd.own_blk (R_ne HO160.1 BK145.1 (by decide)) | (rw [add_block]; exact Kd.own_blk (R_ne HO160.1 BK145.1 (by decide))) | (show (Addr.add _ _).block ≠ _; rw [add_block]; exact Kd.own_blk (R_ne HO160.1 BK145.1 (by decide))) | (dsimp only; exact Kd.own_blk (R_ne HO160.1 BK145.1 (by decide)))) _).trans (((cell_far (p := ⟨gb145, _, none⟩) (by first | exact Kd.own_blk (R_ne HO160.1 BK145.1 (by decide)) | (rw [add_block]; exact Kd.own_blk (R_ne HO160.1 BK145.1 (by decide))) | (show (Addr.add _ _).block ≠ _; rw [add_block]; exact Kd.own_blk (R_ne HO160.1 BK145.1 (by decide))) | (dsimp only; exact Kd.own_blk (R_ne HO160.1 BK145.1 (by decide)))) _).trans (((cell_far (p := ⟨gb145, _, none⟩) (by first | exact Kd.own_blk (R_ne HO160.1 BK145.1 (by decide)) | (rw [add_block]; exact Kd.own_blk (R_ne HO160.1 BK145.1 (by decide))) | (show (Addr.add _ _).block ≠ _; rw [add_block]; exact Kd.own_blk (R_ne HO160.1 BK145.1 (by decide))) | (dsimp only; exact Kd.own_blk (R_ne HO160.1 BK145.1 (by decide)))) _).trans (((cell_far (p := ⟨gb145, _, none⟩) (by first | exact Kd.own_blk (R_ne HO160.1 BK145.1 (by decide)) | (rw [add_block]; exact Kd.own_blk (R_ne HO160.1 BK145.1 (by decide))) | (show (Addr.add _ _).block ≠ _; rw [add_block]; exact Kd.own_blk (R_ne HO160.1 BK145.1 (by decide))) | (dsimp only; exact Kd.own_blk (R_ne HO160.1 BK145.1 (by decide)))) _).trans (hHeld.2.2.1)))))))), ((cell_far (p := ⟨gb145, _, none⟩) (by first | exact Kd.own_blk (R_ne HO148.1 BK145.1 (by decide)) | (rw [add_block]; exact Kd.own_blk (R_ne HO148.1 BK145.1 (by decide))) | (show (Addr.add _ _).block ≠ _; rw [add_block]; exact Kd.own_blk (R_ne HO148.1 BK145.1 (by decide))) | (dsimp only; exact Kd.own_blk (R_ne HO148.1 BK145.1 (by decide)))) _).trans (((cell_far (p := ⟨gb145, _, none⟩) (by first | exact Kd.own_blk (R_ne HO148.1 BK145.1 (by decide)) | (rw [add_block]; exact Kd.own_blk (R_ne HO148.1 BK145.1 (by decide))) | (show (Addr.add _ _).block ≠ _; rw [add_block]; exact Kd.own_blk (R_ne HO148.1 BK145.1 (by decide))) | (dsimp only; exact Kd.own_blk (R_ne HO148.1 BK145.1 (by decide)))) _).trans (((cell_far (p := ⟨gb145, _, none⟩) (by first | exact Kd.own_blk (R_ne HO148.1 BK145.1 (by decide)) | (rw [add_block]; exact Kd.own_blk (R_ne HO148.1 BK145.1 (by decide))) | (show (Addr.add _ _).block ≠ _; rw [add_block]; exact Kd.own_blk (R_ne HO148.1 BK145.1 (by decide))) | (dsimp only; exact Kd.own_blk (R_ne HO148.1 BK145.1 (by decide)))) _).trans (((cell_far (p := ⟨gb145, _, none⟩) (by first | exact Kd.own_blk (R_ne HO148.1 BK145.1 (by decide)) | (rw [add_block]; exact Kd.own_blk (R_ne HO148.1 BK145.1 (by decide))) | (show (Addr.add _ _).block ≠ _; rw [add_block]; exact Kd.own_blk (R_ne HO148.1 BK145.1 (by decide))) | (dsimp only; exact Kd.own_blk (R_ne HO148.1 BK145.1 (by decide)))) _).trans (hHeld.2.2.2))))))))⟩ (fun hHeld => ?_)
 clear hK K
 refine done_ (done_of HT_.1 (by kernel_rfl)) ?_
 try go_wp2
 refine bodyPost_ret (results_cc rfl _ _ gb144 gb145 51 28 #[.slice none 0 0, .slice none 0 0] #[.int .i64 18, .string (rdOf ByteArray.empty t146 (rd t158 0)), .int .i64 0, .int .i64 0] (0, 0) (0, 0) _ _ rfl (kf BK144) Try.underlying51 rfl (by kernel_rfl) rfl (kf BK145) Try.underlying28 rfl (by kernel_rfl)) rfl ?_
 exact ⟨_, _, by first | rfl | (simp [errW_none, errW_some] <;> rfl) | (simp [*, errW_none, errW_some] <;> rfl), by first | exact R_nil _ _ _ _ _ | exact N_nil _ _ _ _ _ | exact V_nil _ _ _ _ _ | exact Q_nil _ _ _ _ _ | exact S_nil _ _ _ _ _, by first | exact S_nil _ _ _ _ _ | exact N_nil _ _ _ _ _ | exact V_nil _ _ _ _ _ | exact Q_nil _ _ _ _ _ | exact R_nil _ _ _ _ _, hh HB⟩
mutual
noncomputable def g_valid.l0 : Nat -> List (List Int) -> Int -> Int -> List (List Int) -> Option (Bool)
 | 0, _, _, _, _ => none
 | k + 1, x8, x9, x10, x164000 => if x10 < x9 then (if 0 <= x10 then (if x10 < (x8.length : Int) then (g_valid.l1 k x8 x9 x10 (rd_L11 x8 x10) ((rd_L11 x8 x10).length : Int) 0 x164000) else (none)) else (none)) else (some true)
noncomputable def g_valid.l1 : Nat -> List (List Int) -> Int -> Int -> List Int -> Int -> Int -> List (List Int) -> Option (Bool)
 | 0, _, _, _, _, _, _, _ => none
 | k + 1, x8, x9, x10, x14, x15, x16, x164000 => if x16 < x15 then (if 0 <= x16 then (if x16 < (x14.length : Int) then (if (rd x14 x16) < 0 then (some false) else (if (rd x14 x16) >= (x164000.length : Int) then (some false) else (g_valid.l1 k x8 x9 x10 x14 x15 (wrap64 (x16 + 1)) x164000))) else (none)) else (none)) else (g_valid.l0 k x8 x9 (wrap64 (x10 + 1)) x164000)
end
noncomputable def g_valid.f (k : Nat) (l0_0 : List (List Int)) : Option (Bool) := g_valid.l0 k l0_0 (l0_0.length : Int) 0 l0_0
theorem g_valid.calls (k : Nat) (A0_0 : Option Addr) (c0_0 : Nat) (l0_0 : List (List Int)) (r : Bool) (w : World) (hr0_0 : Kd.C (Kd.slice 3 (Kd.int .i64)) w A0_0 l0_0.length l0_0) (hc0_0 : l0_0.length <= c0_0) (h : g_valid.f k l0_0 = some r) :
 Calls Try.prog 39 #[.agg #[.slice A0_0 l0_0.length c0_0]] w fun e w' => e = .returned (.bool r) /\ Below w.heap.size w w' := by
 have hu49 := Try.underlying49
 have HR0_0 := aM hr0_0
 have HC0_0 := aM hc0_0
 clear hr0_0 hc0_0
 have HB := aM (Below.refl w.heap.size w)
 have H : (g_valid.l0 k l0_0 (l0_0.length : Int) 0 l0_0) = some r := h
 clear h
 have H' := aM H
 clear H
 go_enter Try.func39, Try.ntmps39
 go_wp2_with (first | ((with_reducible refine gate_dst (N := 1) rfl ?_); (try (refine gate_guard (by rfl) ?_; dsimp only)); refine be 1 rfl rfl #[.slice A0_0 l0_0.length c0_0] 49 ?_; intro gb163 hg w2 hbox hb; have BK163 := aM hbox; have GE163 := gs hg HB; replace HB := bs HB hb; clear hb hbox hg; have hcz3_0 : w2.cell? ⟨gb163, 0, none⟩ = some (.slice A0_0 l0_0.length c0_0) := (blk_cell BK163.1 0).trans rfl; have hfz3_0 := blk_frozen BK163.1 0))
 go_loopg [10] k (fun kq v10 w' => ∃ (x10_1 : Int), v10 = .int .i64 x10_1 /\ Az (g_valid.l0 kq l0_0 (l0_0.length : Int) x10_1 l0_0 = some r) /\ Az (kq <= k) /\ Az (w'.heap[gb163]? = some (.cells #[(.slice A0_0 l0_0.length c0_0)] 49 (0, 0))) /\ Az (Below w.heap.size w w'))
 case atStart => exact ⟨(0), rr, H', ⟨Nat.le_refl _⟩, ⟨kk BK163⟩, ⟨hh HB⟩⟩
 case round =>
  clear H'
  clear hcz3_0 hfz3_0
  obtain ⟨x10_1, rfl, HA, HK1, BK163, HB⟩ := hrel
  cases gk with
  | zero => exact absurd HA.1 (by simp [g_valid.l0])
  | succ k1 =>
   have H := HA.1
   clear HA
   simp only [g_valid.l0] at H
   by_cases c4 : x10_1 < (l0_0.length : Int)
   rotate_left
   · rw [if_neg c4] at H
     have c4b0 : decide (x10_1 < (l0_0.length : Int)) = false := decide_eq_false c4
     clear c4
     obtain rfl := Option.some.inj H
     go_wp2
     go_ret
     exact ⟨by first | rfl | (simp [errW_none, errW_some] <;> rfl) | (simp [*, errW_none, errW_some] <;> rfl), hh HB⟩
   rw [if_pos c4] at H
   have c4b0 : decide (x10_1 < (l0_0.length : Int)) = true := decide_eq_true c4
   clear c4
   by_cases c5 : 0 <= x10_1
   rotate_left
   · rw [if_neg c5] at H
     exact absurd H (by simp)
   rw [if_pos c5] at H
   have c5b0 : decide (0 <= x10_1) = true := decide_eq_true c5
   clear c5
   by_cases c6 : x10_1 < (l0_0.length : Int)
   rotate_left
   · rw [if_neg c6] at H
     exact absurd H (by simp)
   rw [if_pos c6] at H
   have c6b0 : decide (x10_1 < (l0_0.length : Int)) = true := decide_eq_true c6
   clear c6
   have H' := aM H
   clear H
   have p164 : 0 <= (x10_1 : Int) := dt
   have q164 : x10_1 < (l0_0.length : Int) := dt
   obtain ⟨ad164, A164_0, c164_0, e164, hx164_0, hl164_0, hi164_0⟩ := at_L11 HR0_0.1 x10_1 p164 q164
   cases e164
   replace hx164_0 := hx HB hx164_0
   have HR164_0 := aM hi164_0
   have HC164_0 := aM hl164_0
   clear hi164_0 hl164_0
   replace p164 := eq_true p164
   replace q164 := eq_true q164
   go_wp2
   go_loopg [16] k1 (fun kq v16 w' => ∃ (x16_2 : Int), v16 = .int .i64 x16_2 /\ Az (g_valid.l1 kq l0_0 (l0_0.length : Int) x10_1 (rd_L11 l0_0 x10_1) ((rd_L11 l0_0 x10_1).length : Int) x16_2 l0_0 = some r) /\ Az (kq <= k1) /\ Az (w'.heap[gb163]? = some (.cells #[(.slice (some ad164) l0_0.length c0_0)] 49 (0, 0))) /\ Az (Below w.heap.size w w'))
   case atStart => exact ⟨(0), rr, H', ⟨Nat.le_refl _⟩, ⟨kk BK163⟩, ⟨hh HB⟩⟩
   case round =>
    clear H'
    clear c4b0 c5b0 c6b0 hx164_0 p164 q164
    obtain ⟨x16_2, rfl, HA, HK2, BK163, HB⟩ := hrel
    cases gk with
    | zero => exact absurd HA.1 (by simp [g_valid.l1])
    | succ k2 =>
     have H := HA.1
     clear HA
     simp only [g_valid.l1] at H
     by_cases c7 : x16_2 < ((rd_L11 l0_0 x10_1).length : Int)
     rotate_left
     · rw [if_neg c7] at H
       have c7b0 : decide (x16_2 < ((rd_L11 l0_0 x10_1).length : Int)) = false := decide_eq_false c7
       clear c7
       have H' := aM H
       clear H
       go_wp2
       go_roundg k2
       case measure => have := HK1.1; have := HK2.1; omega
       case rel => exact ⟨(wrap64 (x10_1 + 1)), rr, H', ⟨by have := HK1.1; have := HK2.1; omega⟩, ⟨kk BK163⟩, ⟨hh HB⟩⟩
     rw [if_pos c7] at H
     have c7b0 : decide (x16_2 < ((rd_L11 l0_0 x10_1).length : Int)) = true := decide_eq_true c7
     clear c7
     by_cases c8 : 0 <= x16_2
     rotate_left
     · rw [if_neg c8] at H
       exact absurd H (by simp)
     rw [if_pos c8] at H
     have c8b0 : decide (0 <= x16_2) = true := decide_eq_true c8
     clear c8
     by_cases c9 : x16_2 < ((rd_L11 l0_0 x10_1).length : Int)
     rotate_left
     · rw [if_neg c9] at H
       exact absurd H (by simp)
     rw [if_pos c9] at H
     have c9b0 : decide (x16_2 < ((rd_L11 l0_0 x10_1).length : Int)) = true := decide_eq_true c9
     clear c9
     by_cases c10 : (rd (rd_L11 l0_0 x10_1) x16_2) < 0
     · rw [if_pos c10] at H
       have c10b0 : decide ((rd (rd_L11 l0_0 x10_1) x16_2) < 0) = true := decide_eq_true c10
       clear c10
       obtain rfl := Option.some.inj H
       have p165 : 0 <= (x16_2 : Int) := dt
       have q165 : x16_2 < ((rd_L11 l0_0 x10_1).length : Int) := dt
       obtain ⟨ad165, e165, hx165_0⟩ := Kd.at_int HR164_0.1 x16_2 p165 q165
       cases e165
       replace hx165_0 := hx HB hx165_0
       replace p165 := eq_true p165
       replace q165 := eq_true q165
       go_wp2
       go_ret
       exact ⟨by first | rfl | (simp [errW_none, errW_some] <;> rfl) | (simp [*, errW_none, errW_some] <;> rfl), hh HB⟩
     rw [if_neg c10] at H
     have c10b0 : decide ((rd (rd_L11 l0_0 x10_1) x16_2) < 0) = false := decide_eq_false c10
     clear c10
     by_cases c11 : (rd (rd_L11 l0_0 x10_1) x16_2) >= (l0_0.length : Int)
     · rw [if_pos c11] at H
       have c11b0 : decide ((l0_0.length : Int) <= (rd (rd_L11 l0_0 x10_1) x16_2)) = true := decide_eq_true c11
       clear c11
       obtain rfl := Option.some.inj H
       have p165 : 0 <= (x16_2 : Int) := dt
       have q165 : x16_2 < ((rd_L11 l0_0 x10_1).length : Int) := dt
       obtain ⟨ad165, e165, hx165_0⟩ := Kd.at_int HR164_0.1 x16_2 p165 q165
       cases e165
       replace hx165_0 := hx HB hx165_0
       replace p165 := eq_true p165
       replace q165 := eq_true q165
       have hcz12_0 : wr.cell? ⟨gb163, 0, none⟩ = some (.slice (some ad164) l0_0.length c0_0) := (blk_cell BK163.1 0).trans rfl
       have hfz12_0 := blk_frozen BK163.1 0
       go_wp2
       go_ret
       exact ⟨by first | rfl | (simp [errW_none, errW_some] <;> rfl) | (simp [*, errW_none, errW_some] <;> rfl), hh HB⟩
     rw [if_neg c11] at H
     have c11b0 : decide ((l0_0.length : Int) <= (rd (rd_L11 l0_0 x10_1) x16_2)) = false := decide_eq_false c11
     clear c11
     have H' := aM H
     clear H
     have p165 : 0 <= (x16_2 : Int) := dt
     have q165 : x16_2 < ((rd_L11 l0_0 x10_1).length : Int) := dt
     obtain ⟨ad165, e165, hx165_0⟩ := Kd.at_int HR164_0.1 x16_2 p165 q165
     cases e165
     replace hx165_0 := hx HB hx165_0
     replace p165 := eq_true p165
     replace q165 := eq_true q165
     have hcz13_0 : wr.cell? ⟨gb163, 0, none⟩ = some (.slice (some ad164) l0_0.length c0_0) := (blk_cell BK163.1 0).trans rfl
     have hfz13_0 := blk_frozen BK163.1 0
     go_wp2
     go_roundg k2
     case measure => have := HK1.1; have := HK2.1; omega
     case rel => exact ⟨(wrap64 (x16_2 + 1)), rr, H', ⟨by have := HK1.1; have := HK2.1; omega⟩, ⟨kk BK163⟩, ⟨hh HB⟩⟩
end Go.Proofs.Ytmadhaccjmakdaa.P
namespace Go.Proofs.Ytmadhaccjmakdaa
open Go.RowKit Go.Proofs.Yw.A Go.Proofs.Yw.B Go.Proofs.Yw.C
namespace Tj
structure TS where
 count : Int
 index : List Int
 low : List Int
 stack : List Int
 comp : List Int
 comps : Int
def row (es : List (List Int)) (v : Int) : List Int := es.getD v.toNat []
def pop : Nat -> Int -> TS -> Option TS
 | 0, _, _ => none
 | k + 1, v, st =>
  if 0 < st.stack.length then
   let x := rd st.stack ((st.stack.length : Int) - 1)
   if 0 <= x /\ x < st.comp.length then
    let st1 : TS := { st with stack := st.stack.take (st.stack.length - 1), comp := st.comp.set x.toNat st.comps }
    if x = v then some { st1 with comps := wrap64 (st.comps + 1) } else pop k v st1
   else none
  else none
def enter (v : Int) (st : TS) : TS :=
 { st with count := wrap64 (st.count + 1), index := st.index.set v.toNat (wrap64 (st.count + 1)), low := st.low.set v.toNat (wrap64 (st.count + 1)), stack := st.stack ++ [v] }
def lower (v x : Int) (st : TS) : TS := { st with low := st.low.set v.toNat (mn (rd st.low v) x) }
mutual
def visit : Nat -> List (List Int) -> Int -> TS -> Option TS
 | 0, _, _, _ => none
 | k + 1, es, v, st =>
  if 0 <= v /\ v < es.length /\ st.stack.length < 17592186044415 then each k es v (row es v) 0 (enter v st) else none
def each : Nat -> List (List Int) -> Int -> List Int -> Int -> TS -> Option TS
 | 0, _, _, _, _, _ => none
 | k + 1, es, v, l, i, st =>
  if i < l.length then
   if 0 <= rd l i /\ rd l i < es.length then
    if rd st.index (rd l i) = 0 then (visit k es (rd l i) st).bind fun st1 => each k es v l (i + 1) (lower v (rd st1.low (rd l i)) st1)
    else if rd st.comp (rd l i) < 0 then each k es v l (i + 1) (lower v (rd st.index (rd l i)) st)
    else each k es v l (i + 1) st
   else none
  else if rd st.low v = rd st.index v then pop k v st
  else some st
end
def outer : Nat -> List (List Int) -> Int -> TS -> Option TS
 | 0, _, _, _ => none
 | k + 1, es, v, st =>
  if v < es.length then
   if rd st.index v = 0 then (visit k es v st).bind fun st1 => outer k es (v + 1) st1 else outer k es (v + 1) st
  else some st
def init (n : Nat) : TS := { count := 0, index := List.replicate n 0, low := List.replicate n 0, stack := [], comp := List.replicate n (-1), comps := 0 }
def strongF (k : Nat) (es : List (List Int)) : Option (List Int × Int) :=
 if es.length < 17592186044416 then (outer k es 0 (init es.length)).map fun st => (st.comp, st.comps) else none
end Tj
namespace P
theorem info55 : (Try.prog.info? 55).map (fun i => (i.zero, i.size, i.bytes)) = some (some (.slice none 0 0), 1, 24) := by kernel_rfl
end P
end Go.Proofs.Ytmadhaccjmakdaa
namespace Go.Proofs.Ytmadhaccjmakdaa
open Go.RowKit Go.Proofs.Yw.A Go.Proofs.Yw.B Go.Proofs.Yw.C
namespace Tj
structure Cx where
 (bc bi bl bs be bv bp bm ai al ap : Nat)
 A : Option Addr
 c : Nat
 w0 : World
 es : List (List Int)
def Cx.ok (X : Cx) (k : Nat) : Prop := k ≠ X.bc /\ k ≠ X.bm /\ k ≠ X.ai /\ k ≠ X.al /\ k ≠ X.ap
structure Cx.Ok (X : Cx) : Prop where
 t1 : X.bc ≠ X.bm /\ X.bc ≠ X.ai /\ X.bc ≠ X.al /\ X.bc ≠ X.ap /\ X.bm ≠ X.ai /\ X.bm ≠ X.al /\ X.bm ≠ X.ap /\ X.ai ≠ X.al /\ X.ai ≠ X.ap /\ X.al ≠ X.ap
 t2 : X.bs ≠ X.bi /\ X.bs ≠ X.bl /\ X.bs ≠ X.bp
 b : X.w0.heap.size <= X.bc /\ X.w0.heap.size <= X.bs /\ X.w0.heap.size <= X.bm /\ X.w0.heap.size <= X.ai /\ X.w0.heap.size <= X.al /\ X.w0.heap.size <= X.ap
abbrev P1 (b : Nat) : Value := .pointer (some ⟨b, 0, none⟩)
abbrev Cx.clo (X : Cx) : Value := .func (.func 61) #[] #[P1 X.bc, P1 X.bi, P1 X.bl, P1 X.bs, P1 X.be, P1 X.bv, P1 X.bp, P1 X.bm]
def arr (xs : List Int) : Obj := .cells (nums .i64 xs).toArray 3 (0, 0)
structure Inv (X : Cx) (st : TS) (w : World) : Prop where
 hB : Below X.w0.heap.size X.w0 w
 hE : Kd.C (Kd.slice 3 (Kd.int .i64)) X.w0 X.A X.es.length X.es
 kc : w.heap[X.bc]? = some (.cells #[.int .i64 st.count] 3 (0, 0))
 ki : w.heap[X.bi]? = some (.cells #[.slice (some ⟨X.ai, 0, none⟩) X.es.length X.es.length] 55 (0, 0))
 kl : w.heap[X.bl]? = some (.cells #[.slice (some ⟨X.al, 0, none⟩) X.es.length X.es.length] 55 (0, 0))
 ks : ∃ v, w.heap[X.bs]? = some (.cells #[v] 55 (0, 0)) /\ Kd.R (Kd.int .i64) 3 w X.w0.heap.size X.ok v st.stack
 ke : w.heap[X.be]? = some (.cells #[.slice X.A X.es.length X.c] 47 (0, 0))
 kv : w.heap[X.bv]? = some (.cells #[X.clo] 88 (0, 0))
 kp : w.heap[X.bp]? = some (.cells #[.slice (some ⟨X.ap, 0, none⟩) X.es.length X.es.length] 55 (0, 0))
 km : w.heap[X.bm]? = some (.cells #[.int .i64 st.comps] 3 (0, 0))
 ai : w.heap[X.ai]? = some (arr st.index)
 al : w.heap[X.al]? = some (arr st.low)
 ap : w.heap[X.ap]? = some (arr st.comp)
 li : st.index.length = X.es.length
 ll : st.low.length = X.es.length
 lp : st.comp.length = X.es.length
theorem nums_set (k : IntKind) (xs : List Int) (j : Nat) (x : Int) : (nums k xs).toArray.setIfInBounds j (.int k x) = (nums k (xs.set j x)).toArray := by
 simp [nums, List.map_set]
theorem Inv.drew {X : Cx} {st : TS} {w : World} (h : Inv X st w) : Inv X st w.drew where
 hB := below_drew h.hB
 hE := h.hE
 kc := h.kc
 ki := h.ki
 kl := h.kl
 ks := by obtain ⟨v, h1, h2⟩ := h.ks; exact ⟨v, h1, Kd.R_drew h2⟩
 ke := h.ke
 kv := h.kv
 kp := h.kp
 km := h.km
 ai := h.ai
 al := h.al
 ap := h.ap
 li := h.li
 ll := h.ll
 lp := h.lp
theorem Inv.setCount {X : Cx} {st : TS} {w : World} (h : Inv X st w) (o : X.Ok) (x : Int) : Inv X { st with count := x } (w.setCell ⟨X.bc, 0, none⟩ (.int .i64 x)) where
 hB := h.hB.setCell o.b.1 _
 hE := h.hE
 kc := one_setCell h.kc
 ki := blk_far h.ki (blk_ne h.ki h.kc (by decide)) _
 kl := blk_far h.kl (blk_ne h.kl h.kc (by decide)) _
 ks := by
  obtain ⟨v, h1, h2⟩ := h.ks
  exact ⟨v, blk_far h1 (blk_ne h1 h.kc (by decide)) _, Kd.R_far (p := ⟨X.bc, 0, none⟩) h2 (fun k hk => hk.1) _⟩
 ke := blk_far h.ke (blk_ne h.ke h.kc (by decide)) _
 kv := blk_far h.kv (blk_ne h.kv h.kc (by decide)) _
 kp := blk_far h.kp (blk_ne h.kp h.kc (by decide)) _
 km := blk_far h.km o.t1.1.symm _
 ai := blk_far h.ai o.t1.2.1.symm _
 al := blk_far h.al o.t1.2.2.1.symm _
 ap := blk_far h.ap o.t1.2.2.2.1.symm _
 li := h.li
 ll := h.ll
 lp := h.lp
theorem Inv.setComps {X : Cx} {st : TS} {w : World} (h : Inv X st w) (o : X.Ok) (x : Int) : Inv X { st with comps := x } (w.setCell ⟨X.bm, 0, none⟩ (.int .i64 x)) where
 hB := h.hB.setCell o.b.2.2.1 _
 hE := h.hE
 km := one_setCell h.km
 ki := blk_far h.ki (blk_ne h.ki h.km (by decide)) _
 kl := blk_far h.kl (blk_ne h.kl h.km (by decide)) _
 ks := by
  obtain ⟨v, h1, h2⟩ := h.ks
  exact ⟨v, blk_far h1 (blk_ne h1 h.km (by decide)) _, Kd.R_far (p := ⟨X.bm, 0, none⟩) h2 (fun k hk => hk.2.1) _⟩
 ke := blk_far h.ke (blk_ne h.ke h.km (by decide)) _
 kv := blk_far h.kv (blk_ne h.kv h.km (by decide)) _
 kp := blk_far h.kp (blk_ne h.kp h.km (by decide)) _
 kc := blk_far h.kc o.t1.1 _
 ai := blk_far h.ai o.t1.2.2.2.2.1.symm _
 al := blk_far h.al o.t1.2.2.2.2.2.1.symm _
 ap := blk_far h.ap o.t1.2.2.2.2.2.2.1.symm _
 li := h.li
 ll := h.ll
 lp := h.lp
theorem Inv.setIndex {X : Cx} {st : TS} {w : World} (h : Inv X st w) (o : X.Ok) (j : Nat) (x : Int) : Inv X { st with index := st.index.set j x } (w.setCell ⟨X.ai, j, none⟩ (.int .i64 x)) where
 hB := h.hB.setCell o.b.2.2.2.1 _
 hE := h.hE
 ai := by unfold arr; rw [<- nums_set]; exact blk_set h.ai j _
 ki := blk_far h.ki (blk_ne h.ki h.ai (by decide)) _
 kl := blk_far h.kl (blk_ne h.kl h.ai (by decide)) _
 ks := by
  obtain ⟨v, h1, h2⟩ := h.ks
  exact ⟨v, blk_far h1 (blk_ne h1 h.ai (by decide)) _, Kd.R_far (p := ⟨X.ai, j, none⟩) h2 (fun k hk => hk.2.2.1) _⟩
 ke := blk_far h.ke (blk_ne h.ke h.ai (by decide)) _
 kv := blk_far h.kv (blk_ne h.kv h.ai (by decide)) _
 kp := blk_far h.kp (blk_ne h.kp h.ai (by decide)) _
 kc := blk_far h.kc o.t1.2.1 _
 km := blk_far h.km o.t1.2.2.2.2.1 _
 al := blk_far h.al o.t1.2.2.2.2.2.2.2.1.symm _
 ap := blk_far h.ap o.t1.2.2.2.2.2.2.2.2.1.symm _
 li := by simpa using h.li
 ll := h.ll
 lp := h.lp
theorem Inv.setLow {X : Cx} {st : TS} {w : World} (h : Inv X st w) (o : X.Ok) (j : Nat) (x : Int) : Inv X { st with low := st.low.set j x } (w.setCell ⟨X.al, j, none⟩ (.int .i64 x)) where
 hB := h.hB.setCell o.b.2.2.2.2.1 _
 hE := h.hE
 al := by unfold arr; rw [<- nums_set]; exact blk_set h.al j _
 ki := blk_far h.ki (blk_ne h.ki h.al (by decide)) _
 kl := blk_far h.kl (blk_ne h.kl h.al (by decide)) _
 ks := by
  obtain ⟨v, h1, h2⟩ := h.ks
  exact ⟨v, blk_far h1 (blk_ne h1 h.al (by decide)) _, Kd.R_far (p := ⟨X.al, j, none⟩) h2 (fun k hk => hk.2.2.2.1) _⟩
 ke := blk_far h.ke (blk_ne h.ke h.al (by decide)) _
 kv := blk_far h.kv (blk_ne h.kv h.al (by decide)) _
 kp := blk_far h.kp (blk_ne h.kp h.al (by decide)) _
 kc := blk_far h.kc o.t1.2.2.1 _
 km := blk_far h.km o.t1.2.2.2.2.2.1 _
 ai := blk_far h.ai o.t1.2.2.2.2.2.2.2.1 _
 ap := blk_far h.ap o.t1.2.2.2.2.2.2.2.2.2.symm _
 li := h.li
 ll := by simpa using h.ll
 lp := h.lp
theorem Inv.setComp {X : Cx} {st : TS} {w : World} (h : Inv X st w) (o : X.Ok) (j : Nat) (x : Int) : Inv X { st with comp := st.comp.set j x } (w.setCell ⟨X.ap, j, none⟩ (.int .i64 x)) where
 hB := h.hB.setCell o.b.2.2.2.2.2 _
 hE := h.hE
 ap := by unfold arr; rw [<- nums_set]; exact blk_set h.ap j _
 ki := blk_far h.ki (blk_ne h.ki h.ap (by decide)) _
 kl := blk_far h.kl (blk_ne h.kl h.ap (by decide)) _
 ks := by
  obtain ⟨v, h1, h2⟩ := h.ks
  exact ⟨v, blk_far h1 (blk_ne h1 h.ap (by decide)) _, Kd.R_far (p := ⟨X.ap, j, none⟩) h2 (fun k hk => hk.2.2.2.2) _⟩
 ke := blk_far h.ke (blk_ne h.ke h.ap (by decide)) _
 kv := blk_far h.kv (blk_ne h.kv h.ap (by decide)) _
 kp := blk_far h.kp (blk_ne h.kp h.ap (by decide)) _
 kc := blk_far h.kc o.t1.2.2.2.1 _
 km := blk_far h.km o.t1.2.2.2.2.2.2.1 _
 ai := blk_far h.ai o.t1.2.2.2.2.2.2.2.2.1 _
 al := blk_far h.al o.t1.2.2.2.2.2.2.2.2.2 _
 li := h.li
 ll := h.ll
 lp := by simpa using h.lp
theorem Inv.setStack {X : Cx} {st : TS} {w w1 : World} (h : Inv X st w) (o : X.Ok) {v : Value} {row : Option Nat} (hg : w.grownBy w1 row) (hb : Below X.w0.heap.size X.w0 w1)
 (hr : ∀ g, row = some g -> X.ok g /\ ∃ cs, w.heap[g]? = some (.cells cs 3 (0, 0))) {xs : List Int} (ho : Kd.R (Kd.int .i64) 3 w1 X.w0.heap.size X.ok v xs) :
 Inv X { st with stack := xs } (w1.setCell ⟨X.bs, 0, none⟩ v) := by
 have k3 : ∀ {g : Nat} {o1 : Obj}, w.heap[g]? = some o1 -> (∀ cs, o1 ≠ .cells cs 3 (0, 0)) -> w1.heap[g]? = some o1 := fun {g o1} hh hn => blk_grown hh hg (fun e => by
  obtain ⟨_, cs, hc⟩ := hr g e.symm
  rw [hh] at hc
  exact hn cs (Option.some.inj hc))
 have k1 : ∀ {g : Nat} {o1 : Obj}, w.heap[g]? = some o1 -> ¬ X.ok g -> w1.heap[g]? = some o1 := fun {g o1} hh hn => blk_grown hh hg (fun e => hn (hr g e.symm).1)
 obtain ⟨v0, s1, s2⟩ := h.ks
 have nx : ∀ {t : TypeId} {cs : Array Value}, Obj.cells cs t (0, 0) ≠ .cells cs t (0, 0) -> False := fun hh => hh rfl
 have g1 := k3 s1 (by intro cs hh; injection hh with _ hh; exact absurd hh (by decide))
 have gi := k3 h.ki (by intro cs hh; injection hh with _ hh; exact absurd hh (by decide))
 have gl := k3 h.kl (by intro cs hh; injection hh with _ hh; exact absurd hh (by decide))
 have ge := k3 h.ke (by intro cs hh; injection hh with _ hh; exact absurd hh (by decide))
 have gv := k3 h.kv (by intro cs hh; injection hh with _ hh; exact absurd hh (by decide))
 have gp := k3 h.kp (by intro cs hh; injection hh with _ hh; exact absurd hh (by decide))
 have gc := k1 h.kc (fun hh => hh.1 rfl)
 have gm := k1 h.km (fun hh => hh.2.1 rfl)
 have ga := k1 h.ai (fun hh => hh.2.2.1 rfl)
 have gb := k1 h.al (fun hh => hh.2.2.2.1 rfl)
 have gd := k1 h.ap (fun hh => hh.2.2.2.2 rfl)
 exact {
  hB := hb.setCell o.b.2.1 _
  hE := h.hE
  kc := blk_far gc (blk_ne gc g1 (by decide)) _
  ki := blk_far gi o.t2.1.symm _
  kl := blk_far gl o.t2.2.1.symm _
  ks := ⟨v, one_setCell g1, Kd.R_set ho g1 (by intro q hq; simp [Kd.int, Kd.scalar] at hq; subst hq; decide) 0 _⟩
  ke := blk_far ge (blk_ne ge g1 (by decide)) _
  kv := blk_far gv (blk_ne gv g1 (by decide)) _
  kp := blk_far gp o.t2.2.2.symm _
  km := blk_far gm (blk_ne gm g1 (by decide)) _
  ai := blk_far ga (blk_ne ga g1 (by decide)) _
  al := blk_far gb (blk_ne gb g1 (by decide)) _
  ap := blk_far gd (blk_ne gd g1 (by decide)) _
  li := h.li
  ll := h.ll
  lp := h.lp }
theorem arr_cell {w : World} {g : Nat} {xs : List Int} (h : w.heap[g]? = some (arr xs)) (i : Int) (h0 : 0 <= i) (h1 : i < xs.length) : w.cell? ⟨g, i.toNat, none⟩ = some (.int .i64 (rd xs i)) := by
 rw [blk_cell h]
 have hl : i.toNat < xs.length := by omega
 simp [nums, rd, List.getElem?_eq_getElem hl]
theorem arr_free {w : World} {g : Nat} {xs : List Int} (h : w.heap[g]? = some (arr xs)) (i : Nat) : w.frozen? ⟨g, i, none⟩ = false := blk_frozen h i
end Tj
end Go.Proofs.Ytmadhaccjmakdaa
namespace Go.Proofs.Ytmadhaccjmakdaa
open Go.RowKit Go.Proofs.Yw.A Go.Proofs.Yw.B Go.Proofs.Yw.C Go.Proofs.Ytmadhaccjmakdaa.P
namespace Rw
def RowAt (w : World) (base : Nat) (v : Value) (xs : List Int) : Prop :=
 (v = .slice none 0 0 /\ xs = []) \/ ∃ g off cap cur, v = .slice (some ⟨g, off, none⟩) xs.length cap /\ base <= g /\ w.heap[g]? = some (.cells cur 3 (0, 0)) /\ xs.length <= cap /\ off + cap <= cur.size /\ cap <= maxLen /\
  ∀ (j : Nat) (x : Int), xs[j]? = some x -> cur[off + j]? = some (.int .i64 x)
theorem heap_setCells (g : Nat) (t : TypeId) : ∀ (vs : List Value) (o : Nat) (w : World) (cur : Array Value), w.heap[g]? = some (.cells cur t (0, 0)) ->
 ∃ cur' : Array Value, (w.setCells g o vs).heap[g]? = some (.cells cur' t (0, 0)) /\ cur'.size = cur.size /\ (∀ j, j < vs.length -> o + j < cur.size -> cur'[o + j]? = vs[j]?) /\ (∀ j, j < o \/ o + vs.length <= j -> cur'[j]? = cur[j]?)
 | [], o, w, cur, h => ⟨cur, h, rfl, fun j hj => by simp at hj, fun _ _ => rfl⟩
 | v :: r, o, w, cur, h => by
  obtain ⟨c1, h1, h2, h3, h4⟩ := heap_setCells g t r (o + 1) (w.setCell ⟨g, o, none⟩ v) _ (blk_set h o v)
  rw [Array.size_setIfInBounds] at h2
  refine ⟨c1, h1, h2, fun j hj ho => ?_, fun j hj => ?_⟩
  · cases j with
    | zero =>
     rw [h4 (o + 0) (by omega), Nat.add_zero, Array.getElem?_setIfInBounds_self_of_lt (by omega)]
     rfl
    | succ j =>
     have := h3 j (by simpa using hj) (by rw [Array.size_setIfInBounds]; omega)
     rw [show o + (j + 1) = o + 1 + j by omega, this]
     rfl
  · have hl : (v :: r).length = r.length + 1 := rfl
    rw [h4 j (by omega)]
    exact Array.getElem?_setIfInBounds_ne (by omega)
theorem grown_setCells (g : Nat) : ∀ (vs : List Value) (o : Nat) (w : World), w.grownBy (w.setCells g o vs) (some g)
 | [], _, _ => World.grownBy.refl _ _
 | v :: r, o, w => World.grownBy.trans (b := w.setCell ⟨g, o, none⟩ v) ⟨rfl, rfl, rfl, by simp, fun i hi hne => Below.heap_setCell w ⟨g, o, none⟩ v i (fun e => hne (by rw [e]))⟩ (grown_setCells g r (o + 1) _)
theorem below_cells {B b : Nat} {a : World} (hb : B <= b) : ∀ (vs : List Value) (o : Nat) (w : World), Below B a w -> Below B a (w.setCells b o vs)
 | [], _, _, h => h
 | v :: r, o, w, h => below_cells hb r (o + 1) _ (h.setCell hb v)
theorem RowAt.kept {w w1 : World} {base : Nat} {v : Value} {xs : List Int} (h : RowAt w base v xs) (hk : ∀ k, v.ownBlock = some k -> w1.heap[k]? = w.heap[k]?) : RowAt w1 base v xs := by
 rcases h with h | ⟨g, off, cap, cur, rfl, hb, hh, r⟩
 · exact .inl h
 · exact .inr ⟨g, off, cap, cur, rfl, hb, by rw [hk g (by simp [Value.ownBlock])]; exact hh, r⟩
theorem RowAt.lt {w : World} {base : Nat} {v : Value} {xs : List Int} (h : RowAt w base v xs) : ∀ k, v.ownBlock = some k -> base <= k /\ k < w.heap.size /\ ∃ cur, w.heap[k]? = some (.cells cur 3 (0, 0)) := by
 intro k hk
 rcases h with ⟨rfl, _⟩ | ⟨g, off, cap, cur, rfl, hb, hh, r⟩
 · simp [Value.ownBlock] at hk
 · obtain rfl : g = k := by simpa [Value.ownBlock] using hk
   exact ⟨hb, blk_lt hh, cur, hh⟩
theorem RowAt.slice {w : World} {base : Nat} {v : Value} {xs : List Int} (h : RowAt w base v xs) : ∃ A c, v = .slice A xs.length c /\ xs.length <= c /\ c <= maxLen := by
 rcases h with ⟨rfl, rfl⟩ | ⟨g, off, cap, cur, rfl, hb, hh, hl, _, hm, _⟩
 · exact ⟨none, 0, rfl, Nat.le_refl _, Nat.zero_le _⟩
 · exact ⟨_, cap, rfl, hl, hm⟩
def ins (xs : List Int) (i : Nat) (x : Int) : List Int := xs.take i ++ x :: xs.drop i
theorem ins_length (xs : List Int) (i : Nat) (x : Int) (hi : i <= xs.length) : (ins xs i x).length = xs.length + 1 := by
 simp [ins]
 omega
theorem ins_at (xs : List Int) (i : Nat) (x : Int) (hi : i <= xs.length) (j : Nat) : (ins xs i x)[j]? = if j < i then xs[j]? else if j = i then some x else xs[j - 1]? := by
 unfold ins
 have hl : (xs.take i).length = i := by simp; omega
 by_cases h1 : j < i
 · rw [if_pos h1, List.getElem?_append_left (by omega), List.getElem?_take_of_lt h1]
 rw [if_neg h1, List.getElem?_append_right (by omega), hl]
 by_cases h2 : j = i
 · subst h2
   rw [if_pos rfl, Nat.sub_self]
   rfl
 rw [if_neg h2]
 obtain ⟨m, rfl⟩ : ∃ m, j = i + 1 + m := ⟨j - i - 1, by omega⟩
 rw [show i + 1 + m - i = m + 1 by omega, List.getElem?_cons_succ, List.getElem?_drop]
 congr 1
 omega
theorem zero_size (n : Nat) : (Builtin.zeroCells (Value.int .i64 0).cells n).size = n := by simp [Builtin.zeroCells, Value.cells]
theorem new_row {w1 : World} {base g G : Nat} {cur : Array Value} {ys : List Int} (hh : w1.heap[g]? = some (.cells cur 3 (0, 0))) (hb : base <= g) (hs : cur.size = G) (hG : G <= maxLen) (hl : ys.length <= G) (hc : ∀ (j : Nat) (y : Int), ys[j]? = some y -> cur[j]? = some (.int .i64 y)) :
 RowAt w1 base (.slice (some ⟨g, 0, none⟩) ys.length G) ys :=
 .inr ⟨g, 0, G, cur, rfl, hb, hh, hl, by omega, hG, fun j y hj => by rw [Nat.zero_add]; exact hc j y hj⟩
theorem insert_calls (w : World) (base : Nat) (v : Value) (xs : List Int) (i : Nat) (x : Int) (vb : Nat) (h : RowAt w base v xs) (hi : i <= xs.length) (hbig : (xs.length + 1) * 8 <= 140737488355328)
 (hv : w.heap[vb]? = some (.cells #[.int .i64 x] 3 (0, 0))) (hne : v.ownBlock ≠ some vb) (hbase : base <= w.heap.size) :
 Calls Try.prog 54 #[v, .int .i64 i, .slice (some ⟨vb, 0, none⟩) 1 1] w fun e w' => ∃ v', e = .returned v' /\ RowAt w' base v' (ins xs i x) /\ w.grownBy w' v.ownBlock /\ (v'.ownBlock = v.ownBlock \/ ∃ b, v'.ownBlock = some b /\ w.heap.size <= b) := by
 have hvs : ∀ j u, [Value.int .i64 x][j]? = some u -> w.cell? ⟨vb, 0 + j, none⟩ = some u := by
  intro j u hu
  rw [Nat.zero_add, blk_cell hv]
  simpa using hu
 have h1v : ∀ u ∈ [Value.int .i64 x], u.oneCell' = true := by intro u hu; rw [List.mem_singleton.1 hu]; rfl
 have h1c : ∀ u ∈ xs.map (Value.int .i64), u.oneCell' = true := by
  intro u hu
  obtain ⟨y, _, rfl⟩ := List.mem_map.1 hu
  rfl
 have hlen := ins_length xs i x hi
 have T3 : Try.lays21_ren.t 3 = 3 := rfl
 have fin : ∀ (c : Nat) (w1 : World) (cur : Array Value), w1.heap[w.heap.size]? = some (.cells cur 3 (0, 0)) -> cur.size = grownCap w (xs.length + 1) c 3 -> (∀ (j : Nat) (y : Int), (ins xs i x)[j]? = some y -> cur[j]? = some (.int .i64 y)) -> w.grownBy w1 v.ownBlock ->
  ∃ v', (Ending.returned (.slice (some ⟨w.heap.size, 0, none⟩) (xs.length + 1) (grownCap w (xs.length + 1) c 3))) = .returned v' /\ RowAt w1 base v' (ins xs i x) /\ w.grownBy w1 v.ownBlock /\ (v'.ownBlock = v.ownBlock \/ ∃ b, v'.ownBlock = some b /\ w.heap.size <= b) := by
  intro c w1 cur hh hs hc hg
  refine ⟨_, rfl, ?_, hg, .inr ⟨w.heap.size, by simp [Value.ownBlock], Nat.le_refl _⟩⟩
  rw [<- hlen]
  refine new_row hh hbase (by rw [hs, hlen]) (by rw [hlen]; exact grownCap_le_maxLen _ _ _ _ (by unfold maxLen; omega)) (by rw [hlen]; exact grownCap_ge _ _ _ _) hc
 have grownAlloc : ∀ (o : Obj), w.grownBy (w.drew.alloc o) v.ownBlock := fun o => grown_of_below (below_alloc (below_drew (Below.refl _ _)) o) _
 rcases h with ⟨rfl, rfl⟩ | ⟨g, off, cap, cur, rfl, hb, hh, hl, hsz, hm, hc⟩
 · obtain rfl : i = 0 := by simpa using hi
   refine (Any2.slices_Insert_int_end_grow Try.lays21 none 0 0 vb 0 1 1 [] [.int .i64 x] w (by decide) (by decide) (by decide) (by decide) rfl rfl (fun _ => rfl) (fun a ha => by cases ha) hvs h1v).mono ?_
   rintro e w1 ⟨he, hw⟩
   rw [T3] at he hw
   subst he hw
   refine fin 0 _ _ (blk_new _ _) ?_ ?_ (grownAlloc _)
   · rw [Array.size_append, zero_size]
     have := grownCap_ge w (0 + 1) 0 3
     show 1 + (grownCap w (0 + 1) 0 3 - (0 + 1)) = grownCap w (0 + 1) 0 3
     omega
   · intro j y hj
     have hj0 : j = 0 := by
      have := (List.getElem?_eq_some_iff.1 hj).1
      rw [hlen] at this
      simpa using this
     subst hj0
     rw [Array.getElem?_append_left (by simp)]
     simp [ins] at hj ⊢
     exact hj
 · have hcs : ∀ j u, (xs.map (Value.int .i64))[j]? = some u -> w.cell? ⟨g, off + j, none⟩ = some u := by
    intro j u hu
    rw [List.getElem?_map] at hu
    obtain ⟨y, hy, rfl⟩ := Option.map_eq_some_iff.1 hu
    rw [blk_cell hh]
    exact hc j y hy
   have hsp : ∀ j, j < cap -> (w.cell? ⟨g, off + j, none⟩).isSome = true := by
    intro j hj
    rw [blk_cell hh]
    simp
    omega
   have hfz : ∀ j, w.frozen? ⟨g, j, none⟩ = false := fun j => blk_frozen hh j
   have hvg : vb ≠ g := fun e => hne (by rw [e]; simp [Value.ownBlock])
   have hown : (Value.slice (some ⟨g, off, none⟩) xs.length cap).ownBlock = some g := by simp [Value.ownBlock]
   by_cases hroom : xs.length + 1 <= cap
   · by_cases hin : i < xs.length
     · have hsa : w.shape? vb = some (3, 1) := by simp [World.shape?, hv]
       have hsb : w.shape? g = some (3, cur.size) := by simp [World.shape?, hh]
       refine (Any2.slices_Insert_int_shift Try.lays21 g off xs.length cap i vb 0 1 1 (xs.map (Value.int .i64)) [.int .i64 x] w hin (by decide) hroom (by unfold maxLen at hm; omega) hvg (by simp) rfl hcs (fun j hj => hsp j (by omega)) (fun j _ => hfz _) hvs h1c h1v 3 3 1 cur.size hsa hsb (by omega) (blk_frozen hv _) (blk_frozen hv _)).mono ?_
       rintro e w1 ⟨rfl, rfl⟩
       obtain ⟨c1, k1, k2, k3, k4⟩ := heap_setCells g 3 ((xs.map (Value.int .i64)).drop i) (off + (i + 1)) w.drew cur hh
       obtain ⟨c2, m1, m2, m3, m4⟩ := heap_setCells g 3 [.int .i64 x] (off + i) _ c1 k1
       refine ⟨_, rfl, ?_, (World.grownBy.trans (grown_of_below (below_drew (Below.refl _ _)) _) (World.grownBy.trans (grown_setCells g _ _ _) (grown_setCells g _ _ _))), .inl (by simp [Value.ownBlock])⟩
       rw [<- hlen]
       refine .inr ⟨g, off, cap, c2, rfl, hb, m1, by omega, by omega, hm, fun j y hj => ?_⟩
       have hjl := (List.getElem?_eq_some_iff.1 hj).1
       rw [hlen] at hjl
       rw [ins_at _ _ _ hi] at hj
       by_cases h1 : j < i
       · rw [if_pos h1] at hj
         rw [m4 (off + j) (by omega), k4 (off + j) (by omega)]
         exact hc j y hj
       rw [if_neg h1] at hj
       by_cases h2 : j = i
       · subst h2
         rw [if_pos rfl] at hj
         have := m3 0 (by simp) (by omega)
         rw [Nat.add_zero] at this
         rw [this]
         simpa using hj
       rw [if_neg h2] at hj
       have hd : (xs.map (Value.int .i64)).drop i = ((xs.drop i).map (Value.int .i64)) := List.map_drop.symm
       have := k3 (j - (i + 1)) (by rw [hd, List.length_map, List.length_drop]; omega) (by omega)
       rw [m4 (off + j) (by simp; omega), show off + j = off + (i + 1) + (j - (i + 1)) by omega, this, hd, List.getElem?_map, List.getElem?_drop, show i + (j - (i + 1)) = j - 1 by omega, hj]
       rfl
     · obtain rfl : i = xs.length := by omega
       refine (Any2.slices_Insert_int_end_room Try.lays21 g off xs.length cap vb 0 1 1 [.int .i64 x] w (by decide) hroom (by unfold maxLen at hm; omega) rfl (fun j hj => by rw [Nat.add_assoc]; exact hsp _ (by omega)) (fun j _ => by rw [Nat.add_assoc]; exact hfz _) hvs h1v).mono ?_
       rintro e w1 ⟨rfl, rfl⟩
       obtain ⟨c2, m1, m2, m3, m4⟩ := heap_setCells g 3 [.int .i64 x] (off + xs.length) w cur hh
       refine ⟨_, rfl, ?_, grown_setCells g _ _ _, .inl (by simp [Value.ownBlock])⟩
       rw [<- hlen]
       refine .inr ⟨g, off, cap, c2, rfl, hb, m1, by omega, by omega, hm, fun j y hj => ?_⟩
       have hjl := (List.getElem?_eq_some_iff.1 hj).1
       rw [hlen] at hjl
       rw [ins_at _ _ _ hi] at hj
       by_cases h1 : j < xs.length
       · rw [if_pos h1] at hj
         rw [m4 (off + j) (by omega)]
         exact hc j y hj
       obtain rfl : j = xs.length := by omega
       rw [if_neg h1, if_pos rfl] at hj
       have := m3 0 (by simp) (by omega)
       rw [Nat.add_zero] at this
       rw [this]
       simpa using hj
   by_cases hin : i < xs.length
   rotate_left
   · obtain rfl : i = xs.length := by omega
     refine (Any2.slices_Insert_int_end_grow Try.lays21 (some ⟨g, off, none⟩) xs.length cap vb 0 1 1 (xs.map (Value.int .i64)) [.int .i64 x] w (by decide) hl (by omega) hbig (by simp) rfl (fun h => by cases h) (fun a ha j u hu => by cases ha; rw [Addr.add_lit]; exact hcs j u hu) hvs h1v).mono ?_
     rintro e w1 ⟨he, hw⟩
     rw [T3] at he hw
     subst he hw
     have hG := grownCap_ge w (xs.length + 1) cap 3
     refine fin cap _ _ (blk_new _ _) ?_ ?_ (grownAlloc _)
     · rw [Array.size_append, zero_size]
       simp
       omega
     · intro j y hj
       have hjl := (List.getElem?_eq_some_iff.1 hj).1
       rw [hlen] at hjl
       rw [Array.getElem?_append_left (by simp; omega)]
       rw [ins_at _ _ _ hi] at hj
       by_cases h1 : j < xs.length
       rotate_left
       · obtain rfl : j = xs.length := by omega
         rw [if_neg h1, if_pos rfl] at hj
         simp at hj ⊢
         exact hj
       rw [if_pos h1] at hj
       have hj' := (List.getElem?_eq_some_iff.1 hj).2
       simp [List.getElem?_append_left, h1, hj']
   refine (Any2.slices_Insert_int_grow Try.lays21 g off xs.length cap i vb 0 1 1 (xs.map (Value.int .i64)) [.int .i64 x] w hin (by decide) hl (by omega) hbig (by simp) rfl hcs hvs h1c h1v).mono ?_
   rintro e w1 ⟨he, hw⟩
   rw [T3] at he hw
   subst he hw
   have hG := grownCap_ge w (xs.length + 1) cap 3
   obtain ⟨c1, k1, k2, k3, k4⟩ := heap_setCells w.heap.size 3 [.int .i64 x] i (w.alloc (.cells (((xs.map (Value.int .i64)).take i).toArray ++ Builtin.zeroCells (Value.int .i64 0).cells (xs.length + 1 - i) ++ Builtin.zeroCells (Value.int .i64 0).cells (grownCap w (xs.length + 1) cap 3 - (xs.length + 1))) 3)).drew _ (blk_new w _)
   obtain ⟨c2, m1, m2, m3, m4⟩ := heap_setCells w.heap.size 3 ((xs.map (Value.int .i64)).drop i) (i + 1) _ c1 (blk_drew k1)
   have hsz1 : c1.size = grownCap w (xs.length + 1) cap 3 := by
    rw [k2, Array.size_append, Array.size_append, zero_size, zero_size]
    simp
    omega
   refine fin cap _ c2 m1 (by rw [m2, hsz1]) (fun j y hj => ?_) ?_
   · have hjl := (List.getElem?_eq_some_iff.1 hj).1
     rw [hlen] at hjl
     rw [ins_at _ _ _ hi] at hj
     by_cases h1 : j < i
     · rw [if_pos h1] at hj
       rw [m4 j (by omega), k4 j (by omega), Array.append_assoc, Array.getElem?_append_left (by simp; omega)]
       simp [h1, hj]
     rw [if_neg h1] at hj
     by_cases h2 : j = i
     · subst h2
       rw [if_pos rfl] at hj
       have := k3 0 (by simp) (by rw [<- k2, hsz1]; omega)
       rw [Nat.add_zero] at this
       rw [m4 j (by omega), this]
       simpa using hj
     rw [if_neg h2] at hj
     have hd : (xs.map (Value.int .i64)).drop i = ((xs.drop i).map (Value.int .i64)) := List.map_drop.symm
     have := m3 (j - (i + 1)) (by rw [hd, List.length_map, List.length_drop]; omega) (by rw [hsz1]; omega)
     rw [show j = i + 1 + (j - (i + 1)) by omega, this, hd, List.getElem?_map, List.getElem?_drop, show i + (j - (i + 1)) = j - 1 by omega, hj]
     rfl
   · exact grown_of_below (below_cells (Nat.le_refl _) _ _ _ (below_drew (below_cells (Nat.le_refl _) _ _ _ (below_drew (below_alloc (Below.refl _ _) _))))) _
end Rw
end Go.Proofs.Ytmadhaccjmakdaa
namespace Go.Proofs.Ytmadhaccjmakdaa
open Go.RowKit Go.Proofs.Yw.A Go.Proofs.Yw.B Go.Proofs.Yw.C Go.Proofs.Ytmadhaccjmakdaa.P
namespace Od
open Tj Rw
def first (ms : List (List Int)) (d : Int) : Int := rd (row ms d) 0
abbrev Fine (ms : List (List Int)) (d : Int) : Prop := 0 <= d /\ d < ms.length /\ 0 < (row ms d).length /\ 0 <= first ms d /\ first ms d < 4611686018427387904
structure MsAt (W1 : World) (bm : Nat) (ms : List (List Int)) : Prop where
 cell : ∃ A c, W1.heap[bm]? = some (.cells #[.slice A ms.length c] 47 (0, 0)) /\ Kd.C (Kd.slice 3 (Kd.int .i64)) W1 A ms.length ms
theorem cmp_calls (W1 w : World) (bm : Nat) (ms : List (List Int)) (d t : Int) (M : MsAt W1 bm ms) (hb : Below W1.heap.size W1 w) (hd : Fine ms d) (ht0 : 0 <= t) (ht1 : t < 4611686018427387904) :
 Calls Try.prog 53 #[.int .i64 d, .int .i64 t, P1 bm] w fun e w' => e = .returned (.int .i64 (first ms d - t)) /\ w = w' := by
 obtain ⟨h0, h1, h2, h3, h4⟩ := hd
 obtain ⟨A, c, k1, k2⟩ := M.cell
 clear M
 have c1 := cell_of_one (blk_below k1 hb)
 obtain ⟨ad, A0, c0, rfl, hx, hl0, hi0⟩ := at_L11 k2 d h0 h1
 have hx1 := (hb.cell (World.block_lt_of_cell? _ _ hx)).trans hx
 have el : rd_L11 ms d = row ms d := rfl
 rw [el] at hx1 hi0
 obtain ⟨ad2, rfl, hy⟩ := Kd.at_int hi0 0 (by omega) (by omega)
 have hy1 := (hb.cell (World.block_lt_of_cell? _ _ hy)).trans hy
 rw [show ((0 : Int)).toNat = 0 from rfl] at hy1
 have hz : (0 < (row ms d).length) = True := eq_true h2
 have q1 := eq_true h0
 have q2 := eq_true h1
 clear k1 k2 hx hy hl0 hi0 el hb
 have ef : rd (row ms d) 0 = first ms d := rfl
 rw [ef] at hy1
 clear ef h0 h1
 rw [Addr.add_zero'] at hy1
 go_enter Try.func53, Try.ntmps53
 go_wp2
 go_ret
 exact ⟨rfl, rfl⟩
def pos (ms : List (List Int)) (t : Int) (xs : List Int) : Nat := xs.countP fun d => decide (first ms d < t)
theorem pos_of {ms : List (List Int)} {t : Int} {xs : List Int} {i : Nat} (hi : i <= xs.length) (h1 : ∀ j x, xs[j]? = some x -> j < i -> first ms x < t) (h2 : ∀ j x, xs[j]? = some x -> i <= j -> ¬ first ms x < t) : pos ms t xs = i := by
 unfold pos
 have e : xs = xs.take i ++ xs.drop i := (List.take_append_drop i xs).symm
 rw [e, List.countP_append]
 have a1 : (xs.take i).countP (fun d => decide (first ms d < t)) = (xs.take i).length := by
  rw [List.countP_eq_length]
  intro x hx
  obtain ⟨j, hj, hjx⟩ := List.mem_iff_getElem.1 hx
  have hjl : j < i := by simp at hj; omega
  refine decide_eq_true (h1 j x ?_ hjl)
  rw [<- List.getElem?_take_of_lt hjl, List.getElem?_eq_getElem hj, hjx]
 have a2 : (xs.drop i).countP (fun d => decide (first ms d < t)) = 0 := by
  rw [List.countP_eq_zero]
  intro x hx
  obtain ⟨j, hj, hjx⟩ := List.mem_iff_getElem.1 hx
  have := h2 (i + j) x (by rw [<- List.getElem?_drop, List.getElem?_eq_getElem hj, hjx]) (by omega)
  simpa using this
 rw [a1, a2]
 simp
 omega
def fnd (ms : List (List Int)) (t : Int) (xs : List Int) : Bool := match xs[pos ms t xs]? with | some x => first ms x - t == 0 | none => false
theorem fnd_some {ms : List (List Int)} {t : Int} {xs : List Int} {i : Nat} {x : Int} (h : pos ms t xs = i) (hx : xs[i]? = some x) : fnd ms t xs = (first ms x - t == 0) := by
 unfold fnd
 rw [h, hx]
theorem fnd_none {ms : List (List Int)} {t : Int} {xs : List Int} {i : Nat} (h : pos ms t xs = i) (hx : xs.length <= i) : fnd ms t xs = false := by
 unfold fnd
 rw [h, List.getElem?_eq_none hx]
theorem ret_two {n m : Int} {b c : Bool} (h : n = m) (hb : b = c) : Ending.returned (.tuple #[.int .i64 n, .bool b]) = .returned (.tuple #[.int .i64 m, .bool c]) := by rw [h, hb]
abbrev FoundAt (n : Nat) (b : Bool) (w : World) (e : Ending) (w' : World) : Prop := e = .returned (.tuple #[.int .i64 (n : Int), .bool b]) /\ w' = w
theorem bsf_calls (W1 w : World) (bm : Nat) (ms : List (List Int)) (t : Int) (base : Nat) (v : Value) (xs : List Int) (M : MsAt W1 bm ms) (hb : Below W1.heap.size W1 w) (hR : RowAt w base v xs) (hd : ∀ d ∈ xs, Fine ms d) (ht0 : 0 <= t) (ht1 : t < 4611686018427387904)
 (hs : xs.Pairwise (fun a b => first ms a <= first ms b)) (hlen : xs.length < 17592186044416) :
 Calls Try.prog 52 #[v, .int .i64 t, .func (.func 53) #[] #[P1 bm]] w (FoundAt (pos ms t xs) (fnd ms t xs) w) := by
 have HM := Az.mk M
 have HB := Az.mk hb
 have HR := Az.mk hR
 have HD := Az.mk hd
 have HS := Az.mk hs
 obtain ⟨A, c, rfl, hlc, hcm⟩ := hR.slice
 have CMP := Az.mk (fun (d : Int) (hd : d ∈ xs) => cmp_calls W1 w bm ms d t M hb (HD.1 d hd) ht0 ht1)
 have CELL := Az.mk (show ∀ (j : Nat) (d : Int), xs[j]? = some d -> ∃ g off, A = some ⟨g, off, none⟩ /\ w.cell? ⟨g, off + j, none⟩ = some (.int .i64 d) from by
  intro j d hj
  rcases HR.1 with ⟨h1, h2⟩ | ⟨g, off, cap, cur, h1, -, hh, -, -, -, hc⟩
  · subst h2; simp at hj
  · injection h1 with h1
    exact ⟨g, off, h1, by rw [blk_cell hh]; exact hc j d hj⟩)
 clear M hb hR hd hs
 go_enter Try.func52, Try.ntmps52
 go_wp2_with fail
 go_loopg [9, 10] xs.length (fun kq v9 v10 w' => ∃ (i j : Nat), v9 = .int .i64 i /\ v10 = .int .i64 j /\ Az (i <= j /\ j <= xs.length /\ j - i <= kq) /\ Az (w' = w) /\ Az (∀ m x, xs[m]? = some x -> m < i -> first ms x < t) /\ Az (∀ m x, xs[m]? = some x -> j <= m -> ¬ first ms x < t))
 case atStart => exact ⟨0, xs.length, rfl, rfl, ⟨Nat.zero_le _, Nat.le_refl _, by omega⟩, ⟨rfl⟩, ⟨fun m x _ h => by omega⟩, ⟨fun m x h1 h2 => by have := (List.getElem?_eq_some_iff.1 h1).1; omega⟩⟩
 case round => as_aux_lemma =>
  obtain ⟨i, j, rfl, rfl, HI, HW, H1, H2⟩ := hrel
  obtain ⟨b1, b2, b3⟩ := HI.1
  have hw := HW.1
  subst hw
  by_cases hij : i < j
  rotate_left
  · as_aux_lemma =>
    obtain rfl : i = j := by omega
    have HP := Az.mk (pos_of b2 H1.1 H2.1)
    by_cases hin : i < xs.length
    rotate_left
    · as_aux_lemma =>
      have t3 : decide (i < xs.length) = false := decide_eq_false hin
      go_wp2_with fail
      go_ret2
      exact ⟨ret_two (by rw [HP.1]) (by rw [fnd_none HP.1 (by omega)]), rfl⟩
    as_aux_lemma =>
    obtain ⟨x, hx⟩ : ∃ x, xs[i]? = some x := ⟨xs[i]'hin, List.getElem?_eq_getElem _⟩
    have hmem := Az.mk (List.mem_of_getElem? hx)
    obtain ⟨g, off, rfl, hcell⟩ := CELL.1 i x hx
    have HF := Az.mk (fnd_some HP.1 hx)
    clear hx
    have t3 : decide (i < xs.length) = true := decide_eq_true hin
    go_wp2_with (go_at_call 53; refine (CMP.1 x hmem.1).mono ?_; rintro e w' ⟨rfl, rfl⟩)
    go_ret2
    exact ⟨ret_two (by rw [HP.1]) (by rw [HF.1]), rfl⟩
  as_aux_lemma =>
  obtain ⟨k1, rfl⟩ : ∃ m, gk = m + 1 := ⟨gk - 1, by omega⟩
  obtain ⟨h, hh⟩ : ∃ h : Nat, h = (i + j) / 2 := ⟨_, rfl⟩
  have hi1 : i <= h := by omega
  have hj1 : h < j := by omega
  have HH := Az.mk hh
  clear hh
  go_upto_region 5 with fail
  have hq : ((i : Int) + (j : Int)) / 2 = (h : Int) := by have := HH.1; omega
  rw [hq]
  clear hq
  obtain ⟨x, hx⟩ : ∃ x, xs[h]? = some x := ⟨xs[h]'(by omega), List.getElem?_eq_getElem _⟩
  have HX := Az.mk hx
  have hmem := Az.mk (List.mem_of_getElem? hx)
  obtain ⟨g, off, rfl, hcell⟩ := CELL.1 h x hx
  clear hx
  have hsort : ∀ (a b : Nat) (x y : Int), a < b -> xs[a]? = some x -> xs[b]? = some y -> first ms x <= first ms y := by
   intro a b x y hab ha hb
   obtain ⟨ha1, ha2⟩ := List.getElem?_eq_some_iff.1 ha
   obtain ⟨hb1, hb2⟩ := List.getElem?_eq_some_iff.1 hb
   have := List.pairwise_iff_getElem.1 HS.1 a b ha1 hb1 hab
   rw [ha2, hb2] at this
   exact this
  have HSO := Az.mk hsort
  clear hsort
  have hlh : h < xs.length := by omega
  by_cases hlt : first ms x < t
  rotate_left
  · as_aux_lemma =>
    have t1 : decide (first ms x - t < 0) = false := decide_eq_false (by omega)
    have t2 : decide (first ms x < t) = false := decide_eq_false hlt
    have HLT := Az.mk hlt
    clear hlt
    go_wp2_with (go_at_call 53; refine (CMP.1 x hmem.1).mono ?_; rintro e w' ⟨rfl, rfl⟩)
    go_roundg k1
    case measure => omega
    case rel =>
     refine ⟨i, h, rfl, rfl, ⟨by omega, by omega, by have := HH.1; omega⟩, ⟨rfl⟩, H1, ⟨fun m y hy hm => ?_⟩⟩
     have := HLT.1
     rcases Nat.lt_or_ge h m with h1 | h1
     · have := HSO.1 h m x y h1 HX.1 hy
       omega
     · obtain rfl : m = h := by omega
       rw [HX.1] at hy
       cases hy
       exact this
  as_aux_lemma =>
  have t1 : decide (first ms x - t < 0) = true := decide_eq_true (by omega)
  have t2 : decide (first ms x < t) = true := decide_eq_true hlt
  have HLT := Az.mk hlt
  clear hlt
  go_wp2_with (go_at_call 53; refine (CMP.1 x hmem.1).mono ?_; rintro e w' ⟨rfl, rfl⟩)
  go_roundg k1
  case measure => omega
  case rel =>
   refine ⟨h + 1, j, by go_num, rfl, ⟨by omega, b2, by have := HH.1; omega⟩, ⟨rfl⟩, ⟨fun m y hy hm => ?_⟩, H2⟩
   have := HLT.1
   rcases Nat.lt_or_ge m h with h1 | h1
   · have := HSO.1 m h y x h1 hy HX.1
     omega
   · obtain rfl : m = h := by omega
     rw [HX.1] at hy
     cases hy
     exact this
def enterF (ms : List (List Int)) (c : Int) (ready : List Int) : Option (List Int) :=
 if Fine ms c /\ (∀ d ∈ ready, Fine ms d) /\ ready.Pairwise (fun a b => first ms a <= first ms b) /\ ready.length < 17592186044415 then some (ins ready (pos ms (first ms c) ready) c) else none
def Entered (W1 : World) (base br : Nat) (vr : Value) (ready' : List Int) (w : World) (e : Ending) (w' : World) : Prop :=
 e = .returned (.tuple #[]) /\ Below W1.heap.size W1 w' /\ w.heap.size <= w'.heap.size /\ (∃ vr', w'.heap[br]? = some (.cells #[vr'] 55 (0, 0)) /\ RowAt w' base vr' ready') /\
  ∀ k, k < w.heap.size -> k ≠ br -> vr.ownBlock ≠ some k -> w'.heap[k]? = w.heap[k]?
theorem enter_calls (W1 w : World) (bm br : Nat) (ms : List (List Int)) (c : Int) (base : Nat) (vr : Value) (ready ready' : List Int) (M : MsAt W1 bm ms) (hb : Below W1.heap.size W1 w) (hbr : W1.heap.size <= br) (hbase : W1.heap.size <= base) (hbw : base <= w.heap.size)
 (hv : w.heap[br]? = some (.cells #[vr] 55 (0, 0))) (hR : RowAt w base vr ready) (h : enterF ms c ready = some ready') :
 Calls Try.prog 51 #[.int .i64 c, P1 br, P1 bm] w (Entered W1 base br vr ready' w) := by
 unfold enterF at h
 by_cases hc : Fine ms c /\ (∀ d ∈ ready, Fine ms d) /\ ready.Pairwise (fun a b => first ms a <= first ms b) /\ ready.length < 17592186044415
 case neg => rw [if_neg hc] at h; cases h
 rw [if_pos hc] at h
 obtain rfl := Option.some.inj h
 clear h
 obtain ⟨⟨h0, h1, h2, h3, h4⟩, hF, hS, hL⟩ := hc
 obtain ⟨A, cc, k1, k2⟩ := M.cell
 have BS := Az.mk (fun n => bsf_calls W1 (w.drewN n) bm ms (first ms c) base vr ready M (pw_below_drewN hb n) (hR.kept (fun _ _ => rfl)) hF h3 h4 hS (by omega))
 have HR := Az.mk hR
 have HB := Az.mk hb
 have HV := Az.mk hv
 clear hR hF hS M
 obtain ⟨A2, c2, rfl, hlc, hcm⟩ := HR.1.slice
 have c0 := cell_of_one hv
 have c1 := cell_of_one (blk_below k1 hb)
 obtain ⟨ad, A0, c0, rfl, hx, hl0, hi0⟩ := at_L11 k2 c h0 h1
 have hx1 := (hb.cell (World.block_lt_of_cell? _ _ hx)).trans hx
 have el : rd_L11 ms c = row ms c := rfl
 rw [el] at hx1 hi0
 obtain ⟨ad2, rfl, hy⟩ := Kd.at_int hi0 0 (by omega) (by omega)
 have hy1 := (hb.cell (World.block_lt_of_cell? _ _ hy)).trans hy
 rw [show ((0 : Int)).toNat = 0 from rfl] at hy1
 have hz : (0 < (row ms c).length) = True := eq_true h2
 have q1 := eq_true h0
 have q2 := eq_true h1
 clear k1 k2 hx hy hl0 hi0 el hb hv
 have ef : rd (row ms c) 0 = first ms c := rfl
 rw [ef, Addr.add_zero'] at hy1
 clear ef h0 h1
 go_enter Try.func51, Try.ntmps51
 go_wp2_with fail
 go_quiet ((go_at_call 52; exact Calls.quiet_of_same (BS.1 _)))
 clear hx1 hy1 c1 BS
 go_wp2_with fail
 have W0 := HB.1
 have hs5 : ((w.drewN nq).alloc (.cells #[.int .i64 c] 3)).heap.size = w.heap.size + 1 := by simp
 have hlt := blk_lt HV.1
 have R1 : RowAt ((w.drewN nq).alloc (.cells #[.int .i64 c] 3)) base (.slice A2 ready.length c2) ready := HR.1.kept (fun k hk => by
  have := (HR.1.lt k hk).2.1
  exact Below.heap_alloc (w.drewN nq) _ k this)
 have hpos : pos ms (first ms c) ready <= ready.length := List.countP_le_length
 have hown : ∀ k, (Value.slice A2 ready.length c2).ownBlock = some k -> k ≠ br /\ k < w.heap.size := by
  intro k hk
  obtain ⟨a1, a2, cur, a3⟩ := HR.1.lt k hk
  exact ⟨by rintro rfl; rw [HV.1] at a3; injection a3 with a3; injection a3 with _ a3; exact absurd a3 (by decide), a2⟩
 refine (insert_calls ((w.drewN nq).alloc (.cells #[.int .i64 c] 3)) base _ ready _ c w.heap.size R1 hpos (by omega) (blk_new (w.drewN nq) _) (fun e => by have := (hown _ e).2; omega) (by rw [hs5]; omega)).mono ?_
 rintro e w2 ⟨v', rfl, hr', hg, hat⟩
 have G1 : ∀ k, k < w.heap.size -> (Value.slice A2 ready.length c2).ownBlock ≠ some k -> w2.heap[k]? = w.heap[k]? := by
  intro k hk hne
  rw [hg.block k (by simp; omega) (fun e => hne e.symm)]
  exact Below.heap_alloc (w.drewN nq) _ k hk
 have hbr2 : w2.heap[br]? = some (.cells #[.slice A2 ready.length c2] 55 (0, 0)) := (G1 br hlt (fun e => (hown _ e).1 rfl)).trans HV.1
 have hsz : w.heap.size + 1 <= w2.heap.size := by have := hg.size; simpa using this
 have HB2 : Below W1.heap.size W1 w2 := by
  have b1 : Below W1.heap.size W1 ((w.drewN nq).alloc (.cells #[.int .i64 c] 3)) := below_alloc (pw_below_drewN W0 nq) _
  refine b1.grown hg (by rw [hs5]; omega) (fun k hk => ?_)
  have := (HR.1.lt k hk).1
  omega
 obtain ⟨A3, c3, rfl, -, -⟩ := hr'.slice
 have hr2 := Az.mk hr'
 have G2 := Az.mk G1
 have B2 := Az.mk HB2
 have V2 := Az.mk hbr2
 have O2 := Az.mk hown
 have T2 := Az.mk hat
 have S2 := Az.mk hsz
 have c4 := cell_of_one hbr2
 have f4 := free_of_one hbr2
 clear hr' G1 HB2 hbr2 hown hat hsz hg R1 W0 hpos hs5
 go_wp2_with fail
 go_end0
 have hne2 : ∀ k, (Value.slice A3 (ins ready (pos ms (first ms c) ready) c).length c3).ownBlock = some k -> k ≠ br := by
  intro k hk
  obtain ⟨_, _, cur, a3⟩ := hr2.1.lt k hk
  rintro rfl
  rw [V2.1] at a3
  injection a3 with a3
  injection a3 with _ a3
  exact absurd a3 (by decide)
 refine ⟨rfl, B2.1.setCell hbr _, ?_, ⟨_, one_setCell V2.1, hr2.1.kept (fun k hk => Below.heap_setCell _ _ _ _ (hne2 k hk))⟩, fun k hk hkb hko => ?_⟩
 · have := S2.1
   simp
   omega
 · rw [Below.heap_setCell _ _ _ _ (show k ≠ br from hkb)]
   exact G2.1 k hk hko
def SeenAt (w : World) (b : Nat) (S : List Int) : Prop := ∃ (n : Nat) (D : DataW Unit), w.ownsMap Try.prog 3 (plainElem Try.prog 4) b n D /\ n <= S.length /\ Maps.IsMap D /\
 ∀ x : Int, (Lit.int .i64 x).wf = true -> D.atKey (.int .i64 x) (.lit (.bool false)) = .lit (.bool (S.contains x))
theorem keys3 : Maps.Keyed Try.prog 3 := Maps.int_keyed Try.underlying3
theorem zero4 (w : World) : (zeroValue 4).run Try.prog w = .ok (.bool false) w := by kernel_rfl
theorem SeenAt.made (w : World) : SeenAt (w.alloc (.map #[] 0)) w.heap.size [] :=
 ⟨0, .map [], World.ownsMap_made _ _ _ _, Nat.le_refl _, Maps.isMap_empty, fun x _ => by simp [DataW.atKey]⟩
theorem SeenAt.kept {w w' : World} {b : Nat} {S : List Int} {row : Option Nat} (h : SeenAt w b S) (hg : w.grownBy w' row) (hne : some b ≠ row) : SeenAt w' b S := by
 obtain ⟨n, D, h1, h2⟩ := h
 exact ⟨n, D, h1.kept hg hne, h2⟩
theorem SeenAt.lt {w : World} {b : Nat} {S : List Int} (h : SeenAt w b S) : b < w.heap.size := by
 obtain ⟨n, D, h1, h2⟩ := h
 exact h1.lt
theorem SeenAt.obj {w : World} {b : Nat} {S : List Int} (h : SeenAt w b S) : ∃ es c, w.heap[b]? = some (.map es c) := by
 obtain ⟨n, D, ⟨es, c, h1, _⟩, _⟩ := h
 exact ⟨es, c, h1⟩
theorem SeenAt.look {w : World} {b : Nat} {S : List Int} (h : SeenAt w b S) (x : Int) (hx : (Lit.int .i64 x).wf = true) : (Instr.lookup 84 (.map (some b)) (.int .i64 x) false).run Try.prog w = .ok (.bool (S.contains x)) w := by
 obtain ⟨n, D, h1, h2, _, h3⟩ := h
 obtain ⟨v, ps, hrun, hv⟩ := h1.lookup keys3 Try.underlying84 (zero4 w) (plainElem_bool Try.underlying4 false) (Maps.keyOf_int_mk Try.underlying3 hx)
 rw [h3 x hx] at hv
 rw [hrun]
 unfold plainElem at hv
 rw [Try.underlying4] at hv
 cases v <;> simp at hv
 obtain ⟨rfl, _⟩ := hv
 simp
theorem SeenAt.put {w : World} {b : Nat} {S : List Int} (h : SeenAt w b S) (hn : S.length < maxLen) (x : Int) (hx : (Lit.int .i64 x).wf = true) :
 ∃ w', (Instr.mapUpdate 84 (.map (some b)) (.int .i64 x) (.bool true)).run Try.prog w = .ok () w' /\ SeenAt w' b (S ++ [x]) /\ w.grownBy w' (some b) := by
 obtain ⟨n, D, h1, h2, hm, h3⟩ := h
 obtain ⟨w', hrun, h4, hg⟩ := h1.update keys3 Try.underlying84 (by omega) (Maps.keyOf_int_mk Try.underlying3 hx) (plainElem_bool Try.underlying4 true)
 refine ⟨w', hrun, ⟨n + 1, _, h4, by simp; omega, hm.put _ _, fun y hy => ?_⟩, hg⟩
 by_cases hyx : y = x
 · subst hyx
   rw [Maps.atKey_put_same hm (by simp [WideAt.IsKeyLit])]
   simp
 rw [Maps.atKey_put_other (by intro e; injection e with _ e; exact hyx e), h3 y hy]
 simp [hyx]
def app (ms : List (List Int)) (c x : Int) : List (List Int) := ms.set c.toNat (row ms c ++ [x])
def grp : Nat -> List Int -> Int -> List (List Int) -> Option (List (List Int))
 | 0, _, _, _ => none
 | k + 1, comp, v, ms =>
  if v < comp.length then
   if 0 <= rd comp v /\ rd comp v < ms.length /\ (row ms (rd comp v)).length < 17592186044415 then grp k comp (v + 1) (app ms (rd comp v) v) else none
  else some ms
structure US where
 opn : List Int
 users : List (List Int)
 seen : List Int
def link (c d : Int) (u : US) : US := { opn := u.opn.set c.toNat (wrap64 (rd u.opn c + 1)), users := app u.users d c, seen := u.seen ++ [d] }
def ed3 : Nat -> List Int -> Int -> List Int -> Int -> US -> Option US
 | 0, _, _, _, _, _ => none
 | k + 1, comp, c, l, i, u =>
  if i < l.length then
   if 0 <= rd l i /\ rd l i < comp.length /\ (Lit.int .i64 (rd comp (rd l i))).wf = true then
    if u.seen.contains (rd comp (rd l i)) = true then ed3 k comp c l (i + 1) u
    else if 0 <= c /\ c < u.opn.length /\ 0 <= rd comp (rd l i) /\ rd comp (rd l i) < u.users.length /\ (row u.users (rd comp (rd l i))).length < 17592186044415 /\ u.seen.length < 17592186044415 then
     ed3 k comp c l (i + 1) (link c (rd comp (rd l i)) u)
    else none
   else none
  else some u
def ed2 : Nat -> List (List Int) -> List Int -> Int -> List Int -> Int -> US -> Option US
 | 0, _, _, _, _, _, _ => none
 | k + 1, es, comp, c, l, i, u =>
  if i < l.length then
   if 0 <= rd l i /\ rd l i < es.length then (ed3 k comp c (row es (rd l i)) 0 u).bind fun u1 => ed2 k es comp c l (i + 1) u1 else none
  else some u
def ed1 : Nat -> List (List Int) -> List Int -> List (List Int) -> Int -> US -> Option US
 | 0, _, _, _, _, _ => none
 | k + 1, es, comp, ms, c, u =>
  if c < ms.length then
   if (Lit.int .i64 c).wf = true then (ed2 k es comp c (row ms c) 0 { u with seen := [c] }).bind fun u1 => ed1 k es comp ms (c + 1) u1 else none
  else some u
def starts : Nat -> List (List Int) -> Int -> Int -> List Int -> List Int -> Option (List Int)
 | 0, _, _, _, _, _ => none
 | k + 1, ms, n, c, opn, ready =>
  if c < n then
   if 0 <= c /\ c < opn.length then
    if rd opn c = 0 then (enterF ms c ready).bind fun r => starts k ms n (c + 1) opn r else starts k ms n (c + 1) opn ready
   else none
  else some ready
def dec : Nat -> List (List Int) -> List Int -> Int -> List Int -> List Int -> Option (List Int × List Int)
 | 0, _, _, _, _, _ => none
 | k + 1, ms, l, i, opn, ready =>
  if i < l.length then
   if 0 <= rd l i /\ rd l i < opn.length then
    if rd (opn.set (rd l i).toNat (wrap64 (rd opn (rd l i) - 1))) (rd l i) = 0 then
     (enterF ms (rd l i) ready).bind fun r => dec k ms l (i + 1) (opn.set (rd l i).toNat (wrap64 (rd opn (rd l i) - 1))) r
    else dec k ms l (i + 1) (opn.set (rd l i).toNat (wrap64 (rd opn (rd l i) - 1))) ready
   else none
  else some (opn, ready)
def drain : Nat -> List (List Int) -> List (List Int) -> List Int -> List Int -> List (List Int) -> Option (List (List Int))
 | 0, _, _, _, _, _ => none
 | k + 1, ms, users, opn, ready, out =>
  if 0 < ready.length then
   if 0 <= rd ready 0 /\ rd ready 0 < ms.length /\ rd ready 0 < users.length /\ out.length < 5864062014805 then
    (dec k ms (row users (rd ready 0)) 0 opn (ready.drop 1)).bind fun p => drain k ms users p.1 p.2 (out ++ [row ms (rd ready 0)])
   else none
  else some out
def orderedF (k : Nat) (es : List (List Int)) : Option (List (List Int)) :=
 (strongF k es).bind fun p =>
  if 0 <= p.2 /\ p.2 < 5864062014805 then
   (grp k p.1 0 (List.replicate p.2.toNat [])).bind fun ms =>
    (ed1 k es p.1 ms 0 { opn := List.replicate p.2.toNat 0, users := List.replicate p.2.toNat [], seen := [] }).bind fun u =>
     (starts k ms p.2 0 u.opn []).bind fun ready => drain k ms u.users u.opn ready []
  else none
end Od
end Go.Proofs.Ytmadhaccjmakdaa
