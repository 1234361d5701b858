/- Part 2 of 5 of one proof: A field of a fault that is no variable -/
import Derived.Ground.Names2Prog
import Derived.Ground.SlgfProg
import Derived.Ground.SlsfProg
import Derived.Maps.OwnOps
import Derived.Maps.OwnSet
import Derived.Maps.RangeWalk
import Derived.Maps.Views
import Derived.Shelf.SlSortCmp.NoneTotal
import Derived.Shelf.Slices.Clone
import Derived.Shelf.SlicesE.DeleteFunc
import Derived.Shelf.Spec.SearchS
import Derived.Shelf.Spec.SlicesInsert
import Derived.Shelf.Spec.SlicesInsertGrow
import Derived.Sort.KeysCollected
import Derived.Sort.OwnSorted
import Derived.Sort.Walk0
import Derived.StringKeys
import Derived.Test.YtmadhaccjmakdaaProg
import Derived.Test.YtmadhaccjmakdaaMCycle1
set_option linter.unusedVariables false
set_option linter.unusedSimpArgs false
set_option maxHeartbeats 8000000
set_option maxRecDepth 100000
namespace Go.Proofs.Ytmadhaccjmakdaa.P
open Go.RowKit Go.Proofs.Yw.A Go.Proofs.Yw.A.Kd Go.Proofs.Yw.B Go.Proofs.Yw.C
attribute [local go_sem] str_gtr str_leq str_geq max2_int min2_int max_two min_two max_three min_three max_four min_four
mutual
noncomputable def p_distances.l0 : Nat -> Int -> List Int -> Int -> Int -> List ByteArray -> List (List Int) -> Option (List Int)
 | 0, _, _, _, _, _, _ => none
 | k + 1, x1, x5, x17, x18, x104000, x104001 => if x18 < x17 then (if 0 <= x18 then (if x18 < (x5.length : Int) then (p_distances.l0 k x1 (x5.set (x18 : Int).toNat (-1)) x17 (wrap64 (x18 + 1)) x104000 x104001) else (none)) else (none)) else (if 0 <= x1 then (if x1 < (x5.length : Int) then (p_distances.l1 k (x5.set (x1 : Int).toNat 0) true x104000 x104001) else (none)) else (none))
noncomputable def p_distances.l1 : Nat -> List Int -> Bool -> List ByteArray -> List (List Int) -> Option (List Int)
 | 0, _, _, _, _ => none
 | k + 1, x5, x7, x104000, x104001 => if x7 = true then (p_distances.l2 k x5 false x104001 (x104001.length : Int) 0 x104000 x104001) else (some x5)
noncomputable def p_distances.l2 : Nat -> List Int -> Bool -> List (List Int) -> Int -> Int -> List ByteArray -> List (List Int) -> Option (List Int)
 | 0, _, _, _, _, _, _, _ => none
 | k + 1, x5, x7, x31, x32, x33, x104000, x104001 => if x33 < x32 then (if 0 <= x33 then (if x33 < (x31.length : Int) then (p_distances.l3 k x5 x7 x33 x31 x32 x33 (rd_L11 x31 x33) ((rd_L11 x31 x33).length : Int) 0 x104000 x104001) else (none)) else (none)) else (p_distances.l1 k x5 x7 x104000 x104001)
noncomputable def p_distances.l3 : Nat -> List Int -> Bool -> Int -> List (List Int) -> Int -> Int -> List Int -> Int -> Int -> List ByteArray -> List (List Int) -> Option (List Int)
 | 0, _, _, _, _, _, _, _, _, _, _, _ => none
 | k + 1, x5, x7, x8, x31, x32, x33, x38, x39, x40, x104000, x104001 => if x40 < x39 then (if 0 <= x40 then (if x40 < (x38.length : Int) then (if 0 <= (rd x38 x40) then (if (rd x38 x40) < (x5.length : Int) then (if (rd x5 (rd x38 x40)) >= 0 then (if 0 <= x8 then (if x8 < (x5.length : Int) then (if (rd x5 x8) < 0 then (p_distances.l3 k (x5.set (x8 : Int).toNat (wrap64 ((rd x5 (rd x38 x40)) + 1))) true x8 x31 x32 x33 x38 x39 (wrap64 (x40 + 1)) x104000 x104001) else (if (rd x5 x8) > (wrap64 ((rd x5 (rd x38 x40)) + 1)) then (p_distances.l3 k (x5.set (x8 : Int).toNat (wrap64 ((rd x5 (rd x38 x40)) + 1))) true x8 x31 x32 x33 x38 x39 (wrap64 (x40 + 1)) x104000 x104001) else (p_distances.l3 k x5 x7 x8 x31 x32 x33 x38 x39 (wrap64 (x40 + 1)) x104000 x104001))) else (none)) else (none)) else (p_distances.l3 k x5 x7 x8 x31 x32 x33 x38 x39 (wrap64 (x40 + 1)) x104000 x104001)) else (none)) else (none)) else (none)) else (none)) else (p_distances.l2 k x5 x7 x31 x32 (wrap64 (x33 + 1)) x104000 x104001)
end
noncomputable def p_distances.f (k : Nat) (l0_0 : List ByteArray) (l0_1 : List (List Int)) (a1 : Int) : Option (List Int) := if 0 <= (l0_0.length : Int) then (if ((l0_0.length : Int) : Int).toNat <= 35184372088832 then ((some (List.replicate ((l0_0.length : Int) : Int).toNat 0 : List Int)).bind fun y104 => (p_distances.l0 k a1 y104 (y104.length : Int) 0 l0_0 l0_1)) else (none)) else (none)
theorem p_distances.calls (k : Nat) (A0_0 : Option Addr) (c0_0 : Nat) (l0_0 : List ByteArray) (A0_1 : Option Addr) (c0_1 : Nat) (l0_1 : List (List Int)) (a1 : Int) (r : List Int) (w : World) (hr0_0 : Kd.C Kd.string w A0_0 l0_0.length l0_0) (hc0_0 : l0_0.length <= c0_0) (hr0_1 : Kd.C (Kd.slice 3 (Kd.int .i64)) w A0_1 l0_1.length l0_1) (hc0_1 : l0_1.length <= c0_1) (h : p_distances.f k l0_0 l0_1 a1 = some r) :
 Calls Try.prog 48 #[.agg #[.slice A0_0 l0_0.length c0_0, .slice A0_1 l0_1.length c0_1], .int .i64 a1] w fun e w' => ∃ v0_ : Value, e = .returned (v0_) /\ Kd.R (Kd.int .i64) 3 w' w.heap.size (fun _ => True) v0_ r /\ Below w.heap.size w w' := by
 have hu51 := Try.underlying51
 have HR0_0 := aM hr0_0
 have HC0_0 := aM hc0_0
 clear hr0_0 hc0_0
 have HR0_1 := aM hr0_1
 have HC0_1 := aM hc0_1
 clear hr0_1 hc0_1
 have HB := aM (Below.refl w.heap.size w)
 have H : (if 0 <= (l0_0.length : Int) then (if ((l0_0.length : Int) : Int).toNat <= 35184372088832 then ((some (List.replicate ((l0_0.length : Int) : Int).toNat 0 : List Int)).bind fun y104 => (p_distances.l0 k a1 y104 (y104.length : Int) 0 l0_0 l0_1)) else (none)) else (none)) = some r := h
 clear h
 by_cases c3 : 0 <= (l0_0.length : Int)
 rotate_left
 · rw [if_neg c3] at H
   exact absurd H (by simp)
 rw [if_pos c3] at H
 have c3b0 := eq_true c3
 have c3b1 : decide (0 <= (l0_0.length : Int)) = true := decide_eq_true c3
 clear c3
 by_cases c4 : ((l0_0.length : Int) : Int).toNat <= 35184372088832
 rotate_left
 · rw [if_neg c4] at H
   exact absurd H (by simp)
 rw [if_pos c4] at H
 have c4b0 := eq_true c4
 have c4b1 : decide (((l0_0.length : Int) : Int).toNat <= 35184372088832) = true := decide_eq_true c4
 clear c4
 obtain ⟨y104, hy104⟩ : ∃ y_ : List Int, y_ = (List.replicate ((l0_0.length : Int) : Int).toNat 0) := ⟨_, rfl⟩
 replace H : (p_distances.l0 k a1 y104 (y104.length : Int) 0 l0_0 l0_1) = some r := by first | (rw [hy104]; with_reducible exact H) | (have H2_ := (Option.bind_some _ _).symm.trans H; rw [hy104]; with_reducible exact H2_) | (have H2_ := (Option.bind_some _ _).symm.trans H; with_reducible exact H2_) | with_reducible exact H | (rw [hy104]; exact H) | exact H
 have Ny104 := aM hy104
 clear hy104
 have H' := aM H
 clear H
 go_enter Try.func48, Try.ntmps48
 go_wp2_with (first | ((with_reducible refine gate_dst (N := 2) rfl ?_); refine be 2 rfl rfl #[.slice A0_0 l0_0.length c0_0, .slice A0_1 l0_1.length c0_1] 51 ?_; intro gb103 hg w5 hbox hb; have BK103 := aM hbox; have GE103 := gs hg HB; replace HB := bs HB hb; clear hb hbox hg; obtain ⟨hcz6_0, hcz6_1⟩ := cz2 BK103; obtain ⟨hfz6_0, hfz6_1⟩ := fz2 BK103) | ((with_reducible refine gate_dst (N := 15) rfl ?_); refine R_make (Kd.int .i64) _ 3 rfl (N := 15) rfl 55 _ _ rfl (l0_0.length : Int) rfl rfl Try.underlying55 (.int .i64 0) 8 info3 rfl (by decide) (by omega) 0 (ok := fun _ => True) (okp := fun _ => True) rfl (fun _ hk => hk) trivial (dt) (Nat.le_trans (Nat.mul_le_mul_right _ (dt : (l0_0.length : Int).toNat <= 35184372088832)) (by omega)) (Below.refl _ _) (Nat.le_refl _) ?_; intro v105 w7 ho8 hb hg_ hnew_; clear hg_ hnew_; (first | rw [<- Ny104.1] at ho8 | (simp only [Int.reduceToNat] at ho8; rw [<- Ny104.1] at ho8)); have HO106 := aM (R_lower ho8 (below_size (hh HB))); replace BK103 := kb BK103 hb; replace HB := bs HB hb; clear hb ho8; obtain ⟨Ao9, co9, eo9⟩ := R_slice HO106.1; subst eo9))
 repeat (go_quiet (first | ((with_reducible refine gate_dst (N := 2) rfl ?_); refine be 2 rfl rfl #[.slice A0_0 l0_0.length c0_0, .slice A0_1 l0_1.length c0_1] 51 ?_; intro gb103 hg w5 hbox hb; have BK103 := aM hbox; have GE103 := gs hg HB; replace HB := bs HB hb; clear hb hbox hg; obtain ⟨hcz6_0, hcz6_1⟩ := cz2 BK103; obtain ⟨hfz6_0, hfz6_1⟩ := fz2 BK103) | ((with_reducible refine gate_dst (N := 15) rfl ?_); refine R_make (Kd.int .i64) _ 3 rfl (N := 15) rfl 55 _ _ rfl (l0_0.length : Int) rfl rfl Try.underlying55 (.int .i64 0) 8 info3 rfl (by decide) (by omega) 0 (ok := fun _ => True) (okp := fun _ => True) rfl (fun _ hk => hk) trivial (dt) (Nat.le_trans (Nat.mul_le_mul_right _ (dt : (l0_0.length : Int).toNat <= 35184372088832)) (by omega)) (Below.refl _ _) (Nat.le_refl _) ?_; intro v105 w7 ho8 hb hg_ hnew_; clear hg_ hnew_; (first | rw [<- Ny104.1] at ho8 | (simp only [Int.reduceToNat] at ho8; rw [<- Ny104.1] at ho8)); have HO106 := aM (R_lower ho8 (below_size (hh HB))); replace BK103 := kb BK103 hb; replace HB := bs HB hb; clear hb ho8; obtain ⟨Ao9, co9, eo9⟩ := R_slice HO106.1; subst eo9)); try go_wp2_with (first | ((with_reducible refine gate_dst (N := 2) rfl ?_); refine be 2 rfl rfl #[.slice A0_0 l0_0.length c0_0, .slice A0_1 l0_1.length c0_1] 51 ?_; intro gb103 hg w5 hbox hb; have BK103 := aM hbox; have GE103 := gs hg HB; replace HB := bs HB hb; clear hb hbox hg; obtain ⟨hcz6_0, hcz6_1⟩ := cz2 BK103; obtain ⟨hfz6_0, hfz6_1⟩ := fz2 BK103) | ((with_reducible refine gate_dst (N := 15) rfl ?_); refine R_make (Kd.int .i64) _ 3 rfl (N := 15) rfl 55 _ _ rfl (l0_0.length : Int) rfl rfl Try.underlying55 (.int .i64 0) 8 info3 rfl (by decide) (by omega) 0 (ok := fun _ => True) (okp := fun _ => True) rfl (fun _ hk => hk) trivial (dt) (Nat.le_trans (Nat.mul_le_mul_right _ (dt : (l0_0.length : Int).toNat <= 35184372088832)) (by omega)) (Below.refl _ _) (Nat.le_refl _) ?_; intro v105 w7 ho8 hb hg_ hnew_; clear hg_ hnew_; (first | rw [<- Ny104.1] at ho8 | (simp only [Int.reduceToNat] at ho8; rw [<- Ny104.1] at ho8)); have HO106 := aM (R_lower ho8 (below_size (hh HB))); replace BK103 := kb BK103 hb; replace HB := bs HB hb; clear hb ho8; obtain ⟨Ao9, co9, eo9⟩ := R_slice HO106.1; subst eo9)))
 go_loopg [18] k (fun kq v18 w' => ∃ (x5_1 : List Int) (x18_1 : Int), v18 = .int .i64 x18_1 /\ Az (p_distances.l0 kq a1 x5_1 (y104.length : Int) x18_1 l0_0 l0_1 = some r) /\ Az (kq <= k) /\ Az (Kd.R (Kd.int .i64) 3 w' w.heap.size (fun _ => True) (.slice Ao9 y104.length co9) x5_1) /\ Az (w'.heap[gb103]? = some (.cells #[(.slice A0_0 l0_0.length c0_0), (.slice A0_1 l0_1.length c0_1)] 51 (0, 0))) /\ Az (Below w.heap.size w w'))
 case atStart => exact ⟨(y104), (0), rr, H', ⟨Nat.le_refl _⟩, ⟨rk HO106⟩, ⟨kk BK103⟩, ⟨hh HB⟩⟩
 case round =>
  clear H'
  clear c3b0 c3b1 c4b0 c4b1 hcz6_0 hcz6_1 hfz6_0 hfz6_1
  obtain ⟨x5_1, x18_1, rfl, HA, HK1, HO_5, BK103, HB⟩ := hrel
  have hl5_1 := (R_reads' HO_5.1).1
  rw [hl5_1] at HO_5
  (try simp only [hl5_1])
  (try simp only [hl5_1] at BK103)
  cases gk with
  | zero => exact absurd HA.1 (by simp [p_distances.l0])
  | succ k1 =>
   have H := HA.1
   clear HA
   simp only [p_distances.l0] at H
   by_cases c10 : x18_1 < (y104.length : Int)
   · rw [if_pos c10] at H
     have c10b0 : decide (x18_1 < (y104.length : Int)) = true := decide_eq_true c10
     try (have c10b9 := c10b0; rw [hl5_1] at c10b9)
     clear c10
     by_cases c11 : 0 <= x18_1
     rotate_left
     · rw [if_neg c11] at H
       exact absurd H (by simp)
     rw [if_pos c11] at H
     have c11b0 : decide (0 <= x18_1) = true := decide_eq_true c11
     clear c11
     by_cases c12 : x18_1 < (x5_1.length : Int)
     rotate_left
     · rw [if_neg c12] at H
       exact absurd H (by simp)
     rw [if_pos c12] at H
     have c12b0 : decide (x18_1 < (x5_1.length : Int)) = true := decide_eq_true c12
     clear c12
     obtain ⟨y107, hy107⟩ : ∃ y_ : List Int, y_ = (x5_1.set (x18_1 : Int).toNat (-1)) := ⟨_, rfl⟩
     replace H : (p_distances.l0 k1 a1 y107 (y104.length : Int) (wrap64 (x18_1 + 1)) l0_0 l0_1) = some r := by first | (rw [hy107]; with_reducible exact H) | (have H2_ := (Option.bind_some _ _).symm.trans H; rw [hy107]; with_reducible exact H2_) | (have H2_ := (Option.bind_some _ _).symm.trans H; with_reducible exact H2_) | with_reducible exact H | (rw [hy107]; exact H) | exact H
     have Ny107 := aM hy107
     clear hy107
     have H' := aM H
     clear H
     have p13 : 0 <= (x18_1 : Int) := dt
     have q13 : (x18_1 : Int) < ((x5_1.length : Int) : Int) := dt
     obtain ⟨go13, co13, eo13, gb13, gl13, cl13, HG13⟩ := R_form HO_5.1 (by omega)
     (first | cases eo13 | (injection eo13 with ea_ en_ ec_; (first | subst ea_ | (injection ea_ with ea_; subst ea_)); subst ec_; clear en_))
     have GB13 := aM gb13
     have GG13 := aM HG13
     clear gb13 gl13 HG13
     obtain ⟨hx13_0, hf13_0⟩ := R_celln 0 HO_5.1 (x18_1 : Int) p13 q13
     replace p13 := eq_true p13
     replace q13 := eq_true q13
     have HP14 := R_putg HO_5.1 (x18_1 : Int) (-1)
     go_wp2_with (first | ((with_reducible refine gate_store (t := 3) (p := 23) rfl ?_); (try (rw [drewN_self wr]; generalize hq_ : World.drewN wr _ = wr; have n0_ := aM (R_at hq_ HO_5.1); have n1_ := aM (blk_at hq_ BK103.1); have n2_ := aM (below_at hq_ HB.1); clear hq_ HO_5 BK103 HB; have HO_5 := n0_; have BK103 := n1_; have HB := n2_; clear n0_ n1_ n2_; (try (obtain ⟨hx13_0, hf13_0⟩ := R_celln 0 HO_5.1 (x18_1 : Int) (of_eq_true p13) (of_eq_true q13))); (try (have HP14 := R_putg HO_5.1 (x18_1 : Int) (-1))))); refine store_event (t := 3) (p := 23) (v := ?vo_w15) (w1 := (wr.setCell ⟨go13, (x18_1 : Int).toNat, none⟩ (.int .i64 (-1)))) ?hg ?ho ?hn ?hr ?_; (case ho => rfl); (case hg => rfl); (case hn => rfl); (case hr => first | (go_simp; done) | (go_simp; rfl)); intro w15 hw; have hg : wr.grownBy w15 (some go13) := (by rw [hw]; exact HP14.2); have hp_ : Kd.R (Kd.int .i64) 3 w15 w.heap.size (fun _ => True) (.slice (some ⟨go13, 0, none⟩) x5_1.length co9) y107 := (by rw [hw, Ny107.1]; exact HP14.1); clear HP14; replace BK103 := aM (blk_grown (g := gb103) (o := .cells #[.slice A0_0 l0_0.length c0_0, .slice A0_1 l0_1.length c0_1] 51 (0, 0)) (kk BK103) hg (R_ne HO_5.1 BK103.1 (by decide))); replace HO_5 := aM (hp_); replace HB := aM ((by rw [hw]; exact below_set (HB.1) GB13.1 : Below w.heap.size w w15)); clear hg hw hp_))
     repeat (go_quiet (first | ((with_reducible refine gate_store (t := 3) (p := 23) rfl ?_); (try (rw [drewN_self wr]; generalize hq_ : World.drewN wr _ = wr; have n0_ := aM (R_at hq_ HO_5.1); have n1_ := aM (blk_at hq_ BK103.1); have n2_ := aM (below_at hq_ HB.1); clear hq_ HO_5 BK103 HB; have HO_5 := n0_; have BK103 := n1_; have HB := n2_; clear n0_ n1_ n2_; (try (obtain ⟨hx13_0, hf13_0⟩ := R_celln 0 HO_5.1 (x18_1 : Int) (of_eq_true p13) (of_eq_true q13))); (try (have HP14 := R_putg HO_5.1 (x18_1 : Int) (-1))))); refine store_event (t := 3) (p := 23) (v := ?vo_w15) (w1 := (wr.setCell ⟨go13, (x18_1 : Int).toNat, none⟩ (.int .i64 (-1)))) ?hg ?ho ?hn ?hr ?_; (case ho => rfl); (case hg => rfl); (case hn => rfl); (case hr => first | (go_simp; done) | (go_simp; rfl)); intro w15 hw; have hg : wr.grownBy w15 (some go13) := (by rw [hw]; exact HP14.2); have hp_ : Kd.R (Kd.int .i64) 3 w15 w.heap.size (fun _ => True) (.slice (some ⟨go13, 0, none⟩) x5_1.length co9) y107 := (by rw [hw, Ny107.1]; exact HP14.1); clear HP14; replace BK103 := aM (blk_grown (g := gb103) (o := .cells #[.slice A0_0 l0_0.length c0_0, .slice A0_1 l0_1.length c0_1] 51 (0, 0)) (kk BK103) hg (R_ne HO_5.1 BK103.1 (by decide))); replace HO_5 := aM (hp_); replace HB := aM ((by rw [hw]; exact below_set (HB.1) GB13.1 : Below w.heap.size w w15)); clear hg hw hp_)); try go_wp2_with (first | ((with_reducible refine gate_store (t := 3) (p := 23) rfl ?_); (try (rw [drewN_self wr]; generalize hq_ : World.drewN wr _ = wr; have n0_ := aM (R_at hq_ HO_5.1); have n1_ := aM (blk_at hq_ BK103.1); have n2_ := aM (below_at hq_ HB.1); clear hq_ HO_5 BK103 HB; have HO_5 := n0_; have BK103 := n1_; have HB := n2_; clear n0_ n1_ n2_; (try (obtain ⟨hx13_0, hf13_0⟩ := R_celln 0 HO_5.1 (x18_1 : Int) (of_eq_true p13) (of_eq_true q13))); (try (have HP14 := R_putg HO_5.1 (x18_1 : Int) (-1))))); refine store_event (t := 3) (p := 23) (v := ?vo_w15) (w1 := (wr.setCell ⟨go13, (x18_1 : Int).toNat, none⟩ (.int .i64 (-1)))) ?hg ?ho ?hn ?hr ?_; (case ho => rfl); (case hg => rfl); (case hn => rfl); (case hr => first | (go_simp; done) | (go_simp; rfl)); intro w15 hw; have hg : wr.grownBy w15 (some go13) := (by rw [hw]; exact HP14.2); have hp_ : Kd.R (Kd.int .i64) 3 w15 w.heap.size (fun _ => True) (.slice (some ⟨go13, 0, none⟩) x5_1.length co9) y107 := (by rw [hw, Ny107.1]; exact HP14.1); clear HP14; replace BK103 := aM (blk_grown (g := gb103) (o := .cells #[.slice A0_0 l0_0.length c0_0, .slice A0_1 l0_1.length c0_1] 51 (0, 0)) (kk BK103) hg (R_ne HO_5.1 BK103.1 (by decide))); replace HO_5 := aM (hp_); replace HB := aM ((by rw [hw]; exact below_set (HB.1) GB13.1 : Below w.heap.size w w15)); clear hg hw hp_)))
     (try simp only [<- hl5_1])
     go_roundg k1
     case measure => have := HK1.1; omega
     case rel => exact ⟨(y107), (wrap64 (x18_1 + 1)), rr, H', ⟨by have := HK1.1; omega⟩, ⟨by (try simp only [hl5_1]); (with_reducible repeat (first | apply R_alloc | apply R_drewN | apply R_drew)); exact HO_5.1⟩, ⟨by (try simp only [hl5_1]); (with_reducible repeat (first | refine kN ?_ _ | refine kD ?_ | refine kA ?_ _)); exact BK103.1⟩, ⟨hh HB⟩⟩
   rw [if_neg c10] at H
   have c10b0 : decide (x18_1 < (y104.length : Int)) = false := decide_eq_false c10
   try (have c10b9 := c10b0; rw [hl5_1] at c10b9)
   clear c10
   by_cases c16 : 0 <= a1
   rotate_left
   · rw [if_neg c16] at H
     exact absurd H (by simp)
   rw [if_pos c16] at H
   have c16b0 : decide (0 <= a1) = true := decide_eq_true c16
   clear c16
   by_cases c17 : a1 < (x5_1.length : Int)
   rotate_left
   · rw [if_neg c17] at H
     exact absurd H (by simp)
   rw [if_pos c17] at H
   have c17b0 : decide (a1 < (x5_1.length : Int)) = true := decide_eq_true c17
   clear c17
   obtain ⟨y108, hy108⟩ : ∃ y_ : List Int, y_ = (x5_1.set (a1 : Int).toNat 0) := ⟨_, rfl⟩
   replace H : (p_distances.l1 k1 y108 true l0_0 l0_1) = some r := by first | (rw [hy108]; with_reducible exact H) | (have H2_ := (Option.bind_some _ _).symm.trans H; rw [hy108]; with_reducible exact H2_) | (have H2_ := (Option.bind_some _ _).symm.trans H; with_reducible exact H2_) | with_reducible exact H | (rw [hy108]; exact H) | exact H
   have Ny108 := aM hy108
   clear hy108
   have H' := aM H
   clear H
   have p18 : 0 <= (a1 : Int) := dt
   have q18 : (a1 : Int) < ((x5_1.length : Int) : Int) := dt
   obtain ⟨go18, co18, eo18, gb18, gl18, cl18, HG18⟩ := R_form HO_5.1 (by omega)
   (first | cases eo18 | (injection eo18 with ea_ en_ ec_; (first | subst ea_ | (injection ea_ with ea_; subst ea_)); subst ec_; clear en_))
   have GB18 := aM gb18
   have GG18 := aM HG18
   clear gb18 gl18 HG18
   obtain ⟨hx18_0, hf18_0⟩ := R_celln 0 HO_5.1 (a1 : Int) p18 q18
   replace p18 := eq_true p18
   replace q18 := eq_true q18
   have HP19 := R_putg HO_5.1 (a1 : Int) 0
   go_wp2_with (first | ((with_reducible refine gate_store (t := 3) (p := 27) rfl ?_); (try (rw [drewN_self wr]; generalize hq_ : World.drewN wr _ = wr; have n0_ := aM (R_at hq_ HO_5.1); have n1_ := aM (blk_at hq_ BK103.1); have n2_ := aM (below_at hq_ HB.1); clear hq_ HO_5 BK103 HB; have HO_5 := n0_; have BK103 := n1_; have HB := n2_; clear n0_ n1_ n2_; (try (obtain ⟨hx18_0, hf18_0⟩ := R_celln 0 HO_5.1 (a1 : Int) (of_eq_true p18) (of_eq_true q18))); (try (have HP19 := R_putg HO_5.1 (a1 : Int) 0)))); refine store_event (t := 3) (p := 27) (v := ?vo_w20) (w1 := (wr.setCell ⟨go18, (a1 : Int).toNat, none⟩ (.int .i64 0))) ?hg ?ho ?hn ?hr ?_; (case ho => rfl); (case hg => rfl); (case hn => rfl); (case hr => first | (go_simp; done) | (go_simp; rfl)); intro w20 hw; have hg : wr.grownBy w20 (some go18) := (by rw [hw]; exact HP19.2); have hp_ : Kd.R (Kd.int .i64) 3 w20 w.heap.size (fun _ => True) (.slice (some ⟨go18, 0, none⟩) x5_1.length co9) y108 := (by rw [hw, Ny108.1]; exact HP19.1); clear HP19; replace BK103 := aM (blk_grown (g := gb103) (o := .cells #[.slice A0_0 l0_0.length c0_0, .slice A0_1 l0_1.length c0_1] 51 (0, 0)) (kk BK103) hg (R_ne HO_5.1 BK103.1 (by decide))); replace HO_5 := aM (hp_); replace HB := aM ((by rw [hw]; exact below_set (HB.1) GB18.1 : Below w.heap.size w w20)); clear hg hw hp_))
   repeat (go_quiet (first | ((with_reducible refine gate_store (t := 3) (p := 27) rfl ?_); (try (rw [drewN_self wr]; generalize hq_ : World.drewN wr _ = wr; have n0_ := aM (R_at hq_ HO_5.1); have n1_ := aM (blk_at hq_ BK103.1); have n2_ := aM (below_at hq_ HB.1); clear hq_ HO_5 BK103 HB; have HO_5 := n0_; have BK103 := n1_; have HB := n2_; clear n0_ n1_ n2_; (try (obtain ⟨hx18_0, hf18_0⟩ := R_celln 0 HO_5.1 (a1 : Int) (of_eq_true p18) (of_eq_true q18))); (try (have HP19 := R_putg HO_5.1 (a1 : Int) 0)))); refine store_event (t := 3) (p := 27) (v := ?vo_w20) (w1 := (wr.setCell ⟨go18, (a1 : Int).toNat, none⟩ (.int .i64 0))) ?hg ?ho ?hn ?hr ?_; (case ho => rfl); (case hg => rfl); (case hn => rfl); (case hr => first | (go_simp; done) | (go_simp; rfl)); intro w20 hw; have hg : wr.grownBy w20 (some go18) := (by rw [hw]; exact HP19.2); have hp_ : Kd.R (Kd.int .i64) 3 w20 w.heap.size (fun _ => True) (.slice (some ⟨go18, 0, none⟩) x5_1.length co9) y108 := (by rw [hw, Ny108.1]; exact HP19.1); clear HP19; replace BK103 := aM (blk_grown (g := gb103) (o := .cells #[.slice A0_0 l0_0.length c0_0, .slice A0_1 l0_1.length c0_1] 51 (0, 0)) (kk BK103) hg (R_ne HO_5.1 BK103.1 (by decide))); replace HO_5 := aM (hp_); replace HB := aM ((by rw [hw]; exact below_set (HB.1) GB18.1 : Below w.heap.size w w20)); clear hg hw hp_)); try go_wp2_with (first | ((with_reducible refine gate_store (t := 3) (p := 27) rfl ?_); (try (rw [drewN_self wr]; generalize hq_ : World.drewN wr _ = wr; have n0_ := aM (R_at hq_ HO_5.1); have n1_ := aM (blk_at hq_ BK103.1); have n2_ := aM (below_at hq_ HB.1); clear hq_ HO_5 BK103 HB; have HO_5 := n0_; have BK103 := n1_; have HB := n2_; clear n0_ n1_ n2_; (try (obtain ⟨hx18_0, hf18_0⟩ := R_celln 0 HO_5.1 (a1 : Int) (of_eq_true p18) (of_eq_true q18))); (try (have HP19 := R_putg HO_5.1 (a1 : Int) 0)))); refine store_event (t := 3) (p := 27) (v := ?vo_w20) (w1 := (wr.setCell ⟨go18, (a1 : Int).toNat, none⟩ (.int .i64 0))) ?hg ?ho ?hn ?hr ?_; (case ho => rfl); (case hg => rfl); (case hn => rfl); (case hr => first | (go_simp; done) | (go_simp; rfl)); intro w20 hw; have hg : wr.grownBy w20 (some go18) := (by rw [hw]; exact HP19.2); have hp_ : Kd.R (Kd.int .i64) 3 w20 w.heap.size (fun _ => True) (.slice (some ⟨go18, 0, none⟩) x5_1.length co9) y108 := (by rw [hw, Ny108.1]; exact HP19.1); clear HP19; replace BK103 := aM (blk_grown (g := gb103) (o := .cells #[.slice A0_0 l0_0.length c0_0, .slice A0_1 l0_1.length c0_1] 51 (0, 0)) (kk BK103) hg (R_ne HO_5.1 BK103.1 (by decide))); replace HO_5 := aM (hp_); replace HB := aM ((by rw [hw]; exact below_set (HB.1) GB18.1 : Below w.heap.size w w20)); clear hg hw hp_)))
   go_loopg [7] k1 (fun kq v7 w' => ∃ (x5_2 : List Int) (x7_2 : Bool), v7 = .bool x7_2 /\ Az (p_distances.l1 kq x5_2 x7_2 l0_0 l0_1 = some r) /\ Az (kq <= k1) /\ Az (Kd.R (Kd.int .i64) 3 w' w.heap.size (fun _ => True) (.slice (some ⟨go18, 0, none⟩) x5_1.length co9) x5_2) /\ Az (w'.heap[gb103]? = some (.cells #[(.slice A0_0 l0_0.length c0_0), (.slice A0_1 l0_1.length c0_1)] 51 (0, 0))) /\ Az (Below w.heap.size w w'))
   case atStart => exact ⟨(y108), (true), rr, H', ⟨Nat.le_refl _⟩, ⟨by (try simp only [hl5_1]); (with_reducible repeat (first | apply R_alloc | apply R_drewN | apply R_drew)); exact HO_5.1⟩, ⟨by (try simp only [hl5_1]); (with_reducible repeat (first | refine kN ?_ _ | refine kD ?_ | refine kA ?_ _)); exact BK103.1⟩, ⟨hh HB⟩⟩
   case round =>
    clear H'
    clear c10b0 c16b0 c17b0 p18 q18 hx18_0
    obtain ⟨x5_2, x7_2, rfl, HA, HK2, HO_5, BK103, HB⟩ := hrel
    have hl5_2 := (R_reads' HO_5.1).1
    rw [hl5_2] at HO_5
    (try simp only [hl5_2])
    (try simp only [hl5_2] at BK103)
    cases gk with
    | zero => exact absurd HA.1 (by simp [p_distances.l1])
    | succ k2 =>
     have H := HA.1
     clear HA
     simp only [p_distances.l1] at H
     by_cases c21 : x7_2 = true
     rotate_left
     · replace c21 := Bool.eq_false_iff.mpr c21
       subst c21
       rw [if_neg (show ¬ (false = true) by decide)] at H
       obtain rfl := Option.some.inj H
       go_wp2
       repeat (go_quiet (fail); try go_wp2)
       go_ret
       exact ⟨_, by first | rfl | (simp [errW_none, errW_some] <;> rfl) | (simp [*, errW_none, errW_some] <;> rfl), rk HO_5, hh HB⟩
     subst c21
     rw [if_pos rfl] at H
     have H' := aM H
     clear H
     obtain ⟨hcz22_0, hcz22_1⟩ := cz2 BK103
     obtain ⟨hfz22_0, hfz22_1⟩ := fz2 BK103
     go_wp2
     repeat (go_quiet (fail); try go_wp2)
     go_loopg [7, 33] k2 (fun kq v7 v33 w' => ∃ (x5_3 : List Int) (x7_3 : Bool) (x33_3 : Int), v7 = .bool x7_3 /\ v33 = .int .i64 x33_3 /\ Az (p_distances.l2 kq x5_3 x7_3 l0_1 (l0_1.length : Int) x33_3 l0_0 l0_1 = some r) /\ Az (kq <= k2) /\ Az (Kd.R (Kd.int .i64) 3 w' w.heap.size (fun _ => True) (.slice (some ⟨go18, 0, none⟩) x5_2.length co9) x5_3) /\ Az (w'.heap[gb103]? = some (.cells #[(.slice A0_0 l0_0.length c0_0), (.slice A0_1 l0_1.length c0_1)] 51 (0, 0))) /\ Az (Below w.heap.size w w'))
     case atStart => exact ⟨(x5_2), (false), (0), rr, rr, H', ⟨Nat.le_refl _⟩, ⟨by (try simp only [hl5_1]); (try simp only [hl5_2]); (with_reducible repeat (first | apply R_alloc | apply R_drewN | apply R_drew)); exact HO_5.1⟩, ⟨by (try simp only [hl5_1]); (try simp only [hl5_2]); (with_reducible repeat (first | refine kN ?_ _ | refine kD ?_ | refine kA ?_ _)); exact BK103.1⟩, ⟨hh HB⟩⟩
     case round =>
      clear H'
      clear hcz22_0 hcz22_1 hfz22_0 hfz22_1
      obtain ⟨x5_3, x7_3, x33_3, rfl, rfl, HA, HK3, HO_5, BK103, HB⟩ := hrel
      have hl5_3 := (R_reads' HO_5.1).1
      rw [hl5_3] at HO_5
      (try simp only [hl5_3])
      (try simp only [hl5_3] at BK103)
      cases gk with
      | zero => exact absurd HA.1 (by simp [p_distances.l2])
      | succ k3 =>
       have H := HA.1
       clear HA
       simp only [p_distances.l2] at H
       by_cases c23 : x33_3 < (l0_1.length : Int)
       rotate_left
       · rw [if_neg c23] at H
         have c23b0 : decide (x33_3 < (l0_1.length : Int)) = false := decide_eq_false c23
         clear c23
         have H' := aM H
         clear H
         go_wp2
         repeat (go_quiet (fail); try go_wp2)
         (try simp only [<- hl5_2, <- hl5_3])
         go_roundg k3
         case measure => have := HK1.1; have := HK2.1; have := HK3.1; omega
         case rel => exact ⟨(x5_3), (x7_3), rr, H', ⟨by have := HK1.1; have := HK2.1; have := HK3.1; omega⟩, ⟨by (try simp only [hl5_1]); (try simp only [hl5_2]); (try simp only [hl5_3]); (with_reducible repeat (first | apply R_alloc | apply R_drewN | apply R_drew)); exact HO_5.1⟩, ⟨by (try simp only [hl5_1]); (try simp only [hl5_2]); (try simp only [hl5_3]); (with_reducible repeat (first | refine kN ?_ _ | refine kD ?_ | refine kA ?_ _)); exact BK103.1⟩, ⟨hh HB⟩⟩
       rw [if_pos c23] at H
       have c23b0 : decide (x33_3 < (l0_1.length : Int)) = true := decide_eq_true c23
       clear c23
       by_cases c24 : 0 <= x33_3
       rotate_left
       · rw [if_neg c24] at H
         exact absurd H (by simp)
       rw [if_pos c24] at H
       have c24b0 : decide (0 <= x33_3) = true := decide_eq_true c24
       clear c24
       by_cases c25 : x33_3 < (l0_1.length : Int)
       rotate_left
       · rw [if_neg c25] at H
         exact absurd H (by simp)
       rw [if_pos c25] at H
       have c25b0 : decide (x33_3 < (l0_1.length : Int)) = true := decide_eq_true c25
       clear c25
       have H' := aM H
       clear H
       have p109 : 0 <= (x33_3 : Int) := dt
       have q109 : x33_3 < (l0_1.length : Int) := dt
       obtain ⟨ad109, A109_0, c109_0, e109, hx109_0, hl109_0, hi109_0⟩ := at_L11 HR0_1.1 x33_3 p109 q109
       cases e109
       replace hx109_0 := hx HB hx109_0
       have HR109_0 := aM hi109_0
       have HC109_0 := aM hl109_0
       clear hi109_0 hl109_0
       replace p109 := eq_true p109
       replace q109 := eq_true q109
       go_wp2
       repeat (go_quiet (fail); try go_wp2)
       go_loopg [7, 40] k3 (fun kq v7 v40 w' => ∃ (x5_4 : List Int) (x7_4 : Bool) (x40_4 : Int), v7 = .bool x7_4 /\ v40 = .int .i64 x40_4 /\ Az (p_distances.l3 kq x5_4 x7_4 x33_3 l0_1 (l0_1.length : Int) x33_3 (rd_L11 l0_1 x33_3) ((rd_L11 l0_1 x33_3).length : Int) x40_4 l0_0 l0_1 = some r) /\ Az (kq <= k3) /\ Az (Kd.R (Kd.int .i64) 3 w' w.heap.size (fun _ => True) (.slice (some ⟨go18, 0, none⟩) x5_3.length co9) x5_4) /\ Az (w'.heap[gb103]? = some (.cells #[(.slice A0_0 l0_0.length c0_0), (.slice (some ad109) l0_1.length c0_1)] 51 (0, 0))) /\ Az (Below w.heap.size w w'))
       case atStart => exact ⟨(x5_3), (x7_3), (0), rr, rr, H', ⟨Nat.le_refl _⟩, ⟨by (try simp only [hl5_1]); (try simp only [hl5_2]); (try simp only [hl5_3]); (with_reducible repeat (first | apply R_alloc | apply R_drewN | apply R_drew)); exact HO_5.1⟩, ⟨by (try simp only [hl5_1]); (try simp only [hl5_2]); (try simp only [hl5_3]); (with_reducible repeat (first | refine kN ?_ _ | refine kD ?_ | refine kA ?_ _)); exact BK103.1⟩, ⟨hh HB⟩⟩
       case round =>
        clear H'
        clear c23b0 c24b0 c25b0 hx109_0 p109 q109
        obtain ⟨x5_4, x7_4, x40_4, rfl, rfl, HA, HK4, HO_5, BK103, HB⟩ := hrel
        have hl5_4 := (R_reads' HO_5.1).1
        rw [hl5_4] at HO_5
        (try simp only [hl5_4])
        (try simp only [hl5_4] at BK103)
        cases gk with
        | zero => exact absurd HA.1 (by simp [p_distances.l3])
        | succ k4 =>
         have H := HA.1
         clear HA
         simp only [p_distances.l3] at H
         by_cases c26 : x40_4 < ((rd_L11 l0_1 x33_3).length : Int)
         rotate_left
         · rw [if_neg c26] at H
           have c26b0 : decide (x40_4 < ((rd_L11 l0_1 x33_3).length : Int)) = false := decide_eq_false c26
           clear c26
           have H' := aM H
           clear H
           go_wp2
           repeat (go_quiet (fail); try go_wp2)
           (try simp only [<- hl5_3, <- hl5_4])
           go_roundg k4
           case measure => have := HK1.1; have := HK2.1; have := HK3.1; have := HK4.1; omega
           case rel => exact ⟨(x5_4), (x7_4), (wrap64 (x33_3 + 1)), rr, rr, H', ⟨by have := HK1.1; have := HK2.1; have := HK3.1; have := HK4.1; omega⟩, ⟨by (try simp only [hl5_1]); (try simp only [hl5_2]); (try simp only [hl5_3]); (try simp only [hl5_4]); (with_reducible repeat (first | apply R_alloc | apply R_drewN | apply R_drew)); exact HO_5.1⟩, ⟨by (try simp only [hl5_1]); (try simp only [hl5_2]); (try simp only [hl5_3]); (try simp only [hl5_4]); (with_reducible repeat (first | refine kN ?_ _ | refine kD ?_ | refine kA ?_ _)); exact BK103.1⟩, ⟨hh HB⟩⟩
         rw [if_pos c26] at H
         have c26b0 : decide (x40_4 < ((rd_L11 l0_1 x33_3).length : Int)) = true := decide_eq_true c26
         clear c26
         by_cases c27 : 0 <= x40_4
         rotate_left
         · rw [if_neg c27] at H
           exact absurd H (by simp)
         rw [if_pos c27] at H
         have c27b0 : decide (0 <= x40_4) = true := decide_eq_true c27
         clear c27
         by_cases c28 : x40_4 < ((rd_L11 l0_1 x33_3).length : Int)
         rotate_left
         · rw [if_neg c28] at H
           exact absurd H (by simp)
         rw [if_pos c28] at H
         have c28b0 : decide (x40_4 < ((rd_L11 l0_1 x33_3).length : Int)) = true := decide_eq_true c28
         clear c28
         by_cases c29 : 0 <= (rd (rd_L11 l0_1 x33_3) x40_4)
         rotate_left
         · rw [if_neg c29] at H
           exact absurd H (by simp)
         rw [if_pos c29] at H
         have c29b0 : decide (0 <= (rd (rd_L11 l0_1 x33_3) x40_4)) = true := decide_eq_true c29
         clear c29
         by_cases c30 : (rd (rd_L11 l0_1 x33_3) x40_4) < (x5_4.length : Int)
         rotate_left
         · rw [if_neg c30] at H
           exact absurd H (by simp)
         rw [if_pos c30] at H
         have c30b0 : decide ((rd (rd_L11 l0_1 x33_3) x40_4) < (x5_4.length : Int)) = true := decide_eq_true c30
         clear c30
         by_cases c31 : (rd x5_4 (rd (rd_L11 l0_1 x33_3) x40_4)) >= 0
         rotate_left
         · rw [if_neg c31] at H
           have c31b0 : decide (0 <= (rd x5_4 (rd (rd_L11 l0_1 x33_3) x40_4))) = false := decide_eq_false c31
           clear c31
           have H' := aM H
           clear H
           have p110 : 0 <= (x40_4 : Int) := dt
           have q110 : x40_4 < ((rd_L11 l0_1 x33_3).length : Int) := dt
           obtain ⟨ad110, e110, hx110_0⟩ := Kd.at_int HR109_0.1 x40_4 p110 q110
           cases e110
           replace hx110_0 := hx HB hx110_0
           replace p110 := eq_true p110
           replace q110 := eq_true q110
           have p111 : 0 <= ((rd (rd_L11 l0_1 x33_3) x40_4) : Int) := dt
           have q111 : (rd (rd_L11 l0_1 x33_3) x40_4) < (x5_4.length : Int) := dt
           obtain ⟨ad111, e111, hx111_0⟩ := Kd.at_int (R_reads' HO_5.1).2.2 (rd (rd_L11 l0_1 x33_3) x40_4) p111 q111
           obtain rfl : (⟨go18, 0, none⟩ : Addr) = ad111 := (by injection e111)
           (first | simp only [add_plain] at hx111_0 | simp only [add_at] at hx111_0 | simp only [Addr.add, Nat.zero_add] at hx111_0 | skip)
           replace p111 := eq_true p111
           replace q111 := eq_true q111
           go_wp2
           repeat (go_quiet (fail); try go_wp2)
           (try simp only [<- hl5_4])
           go_roundg k4
           case measure => have := HK1.1; have := HK2.1; have := HK3.1; have := HK4.1; omega
           case rel => exact ⟨(x5_4), (x7_4), (wrap64 (x40_4 + 1)), rr, rr, H', ⟨by have := HK1.1; have := HK2.1; have := HK3.1; have := HK4.1; omega⟩, ⟨by (try simp only [hl5_1]); (try simp only [hl5_2]); (try simp only [hl5_3]); (try simp only [hl5_4]); (with_reducible repeat (first | apply R_alloc | apply R_drewN | apply R_drew)); exact HO_5.1⟩, ⟨by (try simp only [hl5_1]); (try simp only [hl5_2]); (try simp only [hl5_3]); (try simp only [hl5_4]); (with_reducible repeat (first | refine kN ?_ _ | refine kD ?_ | refine kA ?_ _)); exact BK103.1⟩, ⟨hh HB⟩⟩
         rw [if_pos c31] at H
         have c31b0 : decide (0 <= (rd x5_4 (rd (rd_L11 l0_1 x33_3) x40_4))) = true := decide_eq_true c31
         clear c31
         by_cases c32 : 0 <= x33_3
         rotate_left
         · rw [if_neg c32] at H
           exact absurd H (by simp)
         rw [if_pos c32] at H
         have c32b0 : decide (0 <= x33_3) = true := decide_eq_true c32
         clear c32
         by_cases c33 : x33_3 < (x5_4.length : Int)
         rotate_left
         · rw [if_neg c33] at H
           exact absurd H (by simp)
         rw [if_pos c33] at H
         have c33b0 : decide (x33_3 < (x5_4.length : Int)) = true := decide_eq_true c33
         clear c33
         by_cases c34 : (rd x5_4 x33_3) < 0
         · rw [if_pos c34] at H
           have c34b0 : decide ((rd x5_4 x33_3) < 0) = true := decide_eq_true c34
           clear c34
           obtain ⟨y114, hy114⟩ : ∃ y_ : List Int, y_ = (x5_4.set (x33_3 : Int).toNat (wrap64 ((rd x5_4 (rd (rd_L11 l0_1 x33_3) x40_4)) + 1))) := ⟨_, rfl⟩
           replace H : (p_distances.l3 k4 y114 true x33_3 l0_1 (l0_1.length : Int) x33_3 (rd_L11 l0_1 x33_3) ((rd_L11 l0_1 x33_3).length : Int) (wrap64 (x40_4 + 1)) l0_0 l0_1) = some r := by first | (rw [hy114]; with_reducible exact H) | (have H2_ := (Option.bind_some _ _).symm.trans H; rw [hy114]; with_reducible exact H2_) | (have H2_ := (Option.bind_some _ _).symm.trans H; with_reducible exact H2_) | with_reducible exact H | (rw [hy114]; exact H) | exact H
           have Ny114 := aM hy114
           clear hy114
           have H' := aM H
           clear H
           have p110 : 0 <= (x40_4 : Int) := dt
           have q110 : x40_4 < ((rd_L11 l0_1 x33_3).length : Int) := dt
           obtain ⟨ad110, e110, hx110_0⟩ := Kd.at_int HR109_0.1 x40_4 p110 q110
           cases e110
           replace hx110_0 := hx HB hx110_0
           replace p110 := eq_true p110
           replace q110 := eq_true q110
           have p111 : 0 <= ((rd (rd_L11 l0_1 x33_3) x40_4) : Int) := dt
           have q111 : (rd (rd_L11 l0_1 x33_3) x40_4) < (x5_4.length : Int) := dt
           obtain ⟨ad111, e111, hx111_0⟩ := Kd.at_int (R_reads' HO_5.1).2.2 (rd (rd_L11 l0_1 x33_3) x40_4) p111 q111
           obtain rfl : (⟨go18, 0, none⟩ : Addr) = ad111 := (by injection e111)
           (first | simp only [add_plain] at hx111_0 | simp only [add_at] at hx111_0 | simp only [Addr.add, Nat.zero_add] at hx111_0 | skip)
           replace p111 := eq_true p111
           replace q111 := eq_true q111
           have p112 : 0 <= (x33_3 : Int) := dt
           have q112 : x33_3 < (x5_4.length : Int) := dt
           obtain ⟨ad112, e112, hx112_0⟩ := Kd.at_int (R_reads' HO_5.1).2.2 x33_3 p112 q112
           obtain rfl : (⟨go18, 0, none⟩ : Addr) = ad112 := (by injection e112)
           (first | simp only [add_plain] at hx112_0 | simp only [add_at] at hx112_0 | simp only [Addr.add, Nat.zero_add] at hx112_0 | skip)
           replace p112 := eq_true p112
           replace q112 := eq_true q112
           have p113 : 0 <= ((rd (rd_L11 l0_1 x33_3) x40_4) : Int) := dt
           have q113 : (rd (rd_L11 l0_1 x33_3) x40_4) < (x5_4.length : Int) := dt
           obtain ⟨ad113, e113, hx113_0⟩ := Kd.at_int (R_reads' HO_5.1).2.2 (rd (rd_L11 l0_1 x33_3) x40_4) p113 q113
           obtain rfl : (⟨go18, 0, none⟩ : Addr) = ad113 := (by injection e113)
           (first | simp only [add_plain] at hx113_0 | simp only [add_at] at hx113_0 | simp only [Addr.add, Nat.zero_add] at hx113_0 | skip)
           replace p113 := eq_true p113
           replace q113 := eq_true q113
           have p35 : 0 <= (x33_3 : Int) := dt
           have q35 : (x33_3 : Int) < ((x5_4.length : Int) : Int) := dt
           obtain ⟨hx35_0, hf35_0⟩ := R_celln 0 HO_5.1 (x33_3 : Int) p35 q35
           replace p35 := eq_true p35
           replace q35 := eq_true q35
           have HP36 := R_putg HO_5.1 (x33_3 : Int) (wrap64 ((rd x5_4 (rd (rd_L11 l0_1 x33_3) x40_4)) + 1))
           go_wp2_with (first | ((with_reducible refine gate_store (t := 3) (p := 75) rfl ?_); (try (rw [drewN_self wr]; generalize hq_ : World.drewN wr _ = wr; have n0_ := aM (R_at hq_ HO_5.1); have n1_ := aM (blk_at hq_ BK103.1); have n2_ := aM (below_at hq_ HB.1); clear hq_ HO_5 BK103 HB; have HO_5 := n0_; have BK103 := n1_; have HB := n2_; clear n0_ n1_ n2_; (try (obtain ⟨hx35_0, hf35_0⟩ := R_celln 0 HO_5.1 (x33_3 : Int) (of_eq_true p35) (of_eq_true q35))); (try (have HP36 := R_putg HO_5.1 (x33_3 : Int) (wrap64 ((rd x5_4 (rd (rd_L11 l0_1 x33_3) x40_4)) + 1)))))); refine store_event (t := 3) (p := 75) (v := ?vo_w37) (w1 := (wr.setCell ⟨go18, (x33_3 : Int).toNat, none⟩ (.int .i64 (wrap64 ((rd x5_4 (rd (rd_L11 l0_1 x33_3) x40_4)) + 1))))) ?hg ?ho ?hn ?hr ?_; (case ho => rfl); (case hg => rfl); (case hn => rfl); (case hr => first | (go_simp; done) | (go_simp; rfl)); intro w37 hw; have hg : wr.grownBy w37 (some go18) := (by rw [hw]; exact HP36.2); have hp_ : Kd.R (Kd.int .i64) 3 w37 w.heap.size (fun _ => True) (.slice (some ⟨go18, 0, none⟩) x5_4.length co9) y114 := (by rw [hw, Ny114.1]; exact HP36.1); clear HP36; replace BK103 := aM (blk_grown (g := gb103) (o := .cells #[.slice A0_0 l0_0.length c0_0, .slice (some ad109) l0_1.length c0_1] 51 (0, 0)) (kk BK103) hg (R_ne HO_5.1 BK103.1 (by decide))); replace HO_5 := aM (hp_); replace HB := aM ((by rw [hw]; exact below_set (HB.1) GB18.1 : Below w.heap.size w w37)); clear hg hw hp_))
           repeat (go_quiet (first | ((with_reducible refine gate_store (t := 3) (p := 75) rfl ?_); (try (rw [drewN_self wr]; generalize hq_ : World.drewN wr _ = wr; have n0_ := aM (R_at hq_ HO_5.1); have n1_ := aM (blk_at hq_ BK103.1); have n2_ := aM (below_at hq_ HB.1); clear hq_ HO_5 BK103 HB; have HO_5 := n0_; have BK103 := n1_; have HB := n2_; clear n0_ n1_ n2_; (try (obtain ⟨hx35_0, hf35_0⟩ := R_celln 0 HO_5.1 (x33_3 : Int) (of_eq_true p35) (of_eq_true q35))); (try (have HP36 := R_putg HO_5.1 (x33_3 : Int) (wrap64 ((rd x5_4 (rd (rd_L11 l0_1 x33_3) x40_4)) + 1)))))); refine store_event (t := 3) (p := 75) (v := ?vo_w37) (w1 := (wr.setCell ⟨go18, (x33_3 : Int).toNat, none⟩ (.int .i64 (wrap64 ((rd x5_4 (rd (rd_L11 l0_1 x33_3) x40_4)) + 1))))) ?hg ?ho ?hn ?hr ?_; (case ho => rfl); (case hg => rfl); (case hn => rfl); (case hr => first | (go_simp; done) | (go_simp; rfl)); intro w37 hw; have hg : wr.grownBy w37 (some go18) := (by rw [hw]; exact HP36.2); have hp_ : Kd.R (Kd.int .i64) 3 w37 w.heap.size (fun _ => True) (.slice (some ⟨go18, 0, none⟩) x5_4.length co9) y114 := (by rw [hw, Ny114.1]; exact HP36.1); clear HP36; replace BK103 := aM (blk_grown (g := gb103) (o := .cells #[.slice A0_0 l0_0.length c0_0, .slice (some ad109) l0_1.length c0_1] 51 (0, 0)) (kk BK103) hg (R_ne HO_5.1 BK103.1 (by decide))); replace HO_5 := aM (hp_); replace HB := aM ((by rw [hw]; exact below_set (HB.1) GB18.1 : Below w.heap.size w w37)); clear hg hw hp_)); try go_wp2_with (first | ((with_reducible refine gate_store (t := 3) (p := 75) rfl ?_); (try (rw [drewN_self wr]; generalize hq_ : World.drewN wr _ = wr; have n0_ := aM (R_at hq_ HO_5.1); have n1_ := aM (blk_at hq_ BK103.1); have n2_ := aM (below_at hq_ HB.1); clear hq_ HO_5 BK103 HB; have HO_5 := n0_; have BK103 := n1_; have HB := n2_; clear n0_ n1_ n2_; (try (obtain ⟨hx35_0, hf35_0⟩ := R_celln 0 HO_5.1 (x33_3 : Int) (of_eq_true p35) (of_eq_true q35))); (try (have HP36 := R_putg HO_5.1 (x33_3 : Int) (wrap64 ((rd x5_4 (rd (rd_L11 l0_1 x33_3) x40_4)) + 1)))))); refine store_event (t := 3) (p := 75) (v := ?vo_w37) (w1 := (wr.setCell ⟨go18, (x33_3 : Int).toNat, none⟩ (.int .i64 (wrap64 ((rd x5_4 (rd (rd_L11 l0_1 x33_3) x40_4)) + 1))))) ?hg ?ho ?hn ?hr ?_; (case ho => rfl); (case hg => rfl); (case hn => rfl); (case hr => first | (go_simp; done) | (go_simp; rfl)); intro w37 hw; have hg : wr.grownBy w37 (some go18) := (by rw [hw]; exact HP36.2); have hp_ : Kd.R (Kd.int .i64) 3 w37 w.heap.size (fun _ => True) (.slice (some ⟨go18, 0, none⟩) x5_4.length co9) y114 := (by rw [hw, Ny114.1]; exact HP36.1); clear HP36; replace BK103 := aM (blk_grown (g := gb103) (o := .cells #[.slice A0_0 l0_0.length c0_0, .slice (some ad109) l0_1.length c0_1] 51 (0, 0)) (kk BK103) hg (R_ne HO_5.1 BK103.1 (by decide))); replace HO_5 := aM (hp_); replace HB := aM ((by rw [hw]; exact below_set (HB.1) GB18.1 : Below w.heap.size w w37)); clear hg hw hp_)))
           (try simp only [<- hl5_4])
           go_roundg k4
           case measure => have := HK1.1; have := HK2.1; have := HK3.1; have := HK4.1; omega
           case rel => exact ⟨(y114), (true), (wrap64 (x40_4 + 1)), rr, rr, H', ⟨by have := HK1.1; have := HK2.1; have := HK3.1; have := HK4.1; omega⟩, ⟨by (try simp only [hl5_1]); (try simp only [hl5_2]); (try simp only [hl5_3]); (try simp only [hl5_4]); (with_reducible repeat (first | apply R_alloc | apply R_drewN | apply R_drew)); exact HO_5.1⟩, ⟨by (try simp only [hl5_1]); (try simp only [hl5_2]); (try simp only [hl5_3]); (try simp only [hl5_4]); (with_reducible repeat (first | refine kN ?_ _ | refine kD ?_ | refine kA ?_ _)); exact BK103.1⟩, ⟨hh HB⟩⟩
         rw [if_neg c34] at H
         have c34b0 : decide ((rd x5_4 x33_3) < 0) = false := decide_eq_false c34
         clear c34
         by_cases c38 : (rd x5_4 x33_3) > (wrap64 ((rd x5_4 (rd (rd_L11 l0_1 x33_3) x40_4)) + 1))
         rotate_left
         · rw [if_neg c38] at H
           have c38b0 : decide ((wrap64 ((rd x5_4 (rd (rd_L11 l0_1 x33_3) x40_4)) + 1)) < (rd x5_4 x33_3)) = false := decide_eq_false c38
           clear c38
           have H' := aM H
           clear H
           have p110 : 0 <= (x40_4 : Int) := dt
           have q110 : x40_4 < ((rd_L11 l0_1 x33_3).length : Int) := dt
           obtain ⟨ad110, e110, hx110_0⟩ := Kd.at_int HR109_0.1 x40_4 p110 q110
           cases e110
           replace hx110_0 := hx HB hx110_0
           replace p110 := eq_true p110
           replace q110 := eq_true q110
           have p111 : 0 <= ((rd (rd_L11 l0_1 x33_3) x40_4) : Int) := dt
           have q111 : (rd (rd_L11 l0_1 x33_3) x40_4) < (x5_4.length : Int) := dt
           obtain ⟨ad111, e111, hx111_0⟩ := Kd.at_int (R_reads' HO_5.1).2.2 (rd (rd_L11 l0_1 x33_3) x40_4) p111 q111
           obtain rfl : (⟨go18, 0, none⟩ : Addr) = ad111 := (by injection e111)
           (first | simp only [add_plain] at hx111_0 | simp only [add_at] at hx111_0 | simp only [Addr.add, Nat.zero_add] at hx111_0 | skip)
           replace p111 := eq_true p111
           replace q111 := eq_true q111
           have p112 : 0 <= (x33_3 : Int) := dt
           have q112 : x33_3 < (x5_4.length : Int) := dt
           obtain ⟨ad112, e112, hx112_0⟩ := Kd.at_int (R_reads' HO_5.1).2.2 x33_3 p112 q112
           obtain rfl : (⟨go18, 0, none⟩ : Addr) = ad112 := (by injection e112)
           (first | simp only [add_plain] at hx112_0 | simp only [add_at] at hx112_0 | simp only [Addr.add, Nat.zero_add] at hx112_0 | skip)
           replace p112 := eq_true p112
           replace q112 := eq_true q112
           have p115 : 0 <= (x33_3 : Int) := dt
           have q115 : x33_3 < (x5_4.length : Int) := dt
           obtain ⟨ad115, e115, hx115_0⟩ := Kd.at_int (R_reads' HO_5.1).2.2 x33_3 p115 q115
           obtain rfl : (⟨go18, 0, none⟩ : Addr) = ad115 := (by injection e115)
           (first | simp only [add_plain] at hx115_0 | simp only [add_at] at hx115_0 | simp only [Addr.add, Nat.zero_add] at hx115_0 | skip)
           replace p115 := eq_true p115
           replace q115 := eq_true q115
           have p116 : 0 <= ((rd (rd_L11 l0_1 x33_3) x40_4) : Int) := dt
           have q116 : (rd (rd_L11 l0_1 x33_3) x40_4) < (x5_4.length : Int) := dt
           obtain ⟨ad116, e116, hx116_0⟩ := Kd.at_int (R_reads' HO_5.1).2.2 (rd (rd_L11 l0_1 x33_3) x40_4) p116 q116
           obtain rfl : (⟨go18, 0, none⟩ : Addr) = ad116 := (by injection e116)
           (first | simp only [add_plain] at hx116_0 | simp only [add_at] at hx116_0 | simp only [Addr.add, Nat.zero_add] at hx116_0 | skip)
           replace p116 := eq_true p116
           replace q116 := eq_true q116
           go_wp2
           repeat (go_quiet (fail); try go_wp2)
           (try simp only [<- hl5_4])
           go_roundg k4
           case measure => have := HK1.1; have := HK2.1; have := HK3.1; have := HK4.1; omega
           case rel => exact ⟨(x5_4), (x7_4), (wrap64 (x40_4 + 1)), rr, rr, H', ⟨by have := HK1.1; have := HK2.1; have := HK3.1; have := HK4.1; omega⟩, ⟨by (try simp only [hl5_1]); (try simp only [hl5_2]); (try simp only [hl5_3]); (try simp only [hl5_4]); (with_reducible repeat (first | apply R_alloc | apply R_drewN | apply R_drew)); exact HO_5.1⟩, ⟨by (try simp only [hl5_1]); (try simp only [hl5_2]); (try simp only [hl5_3]); (try simp only [hl5_4]); (with_reducible repeat (first | refine kN ?_ _ | refine kD ?_ | refine kA ?_ _)); exact BK103.1⟩, ⟨hh HB⟩⟩
         rw [if_pos c38] at H
         have c38b0 : decide ((wrap64 ((rd x5_4 (rd (rd_L11 l0_1 x33_3) x40_4)) + 1)) < (rd x5_4 x33_3)) = true := decide_eq_true c38
         clear c38
         obtain ⟨y118, hy118⟩ : ∃ y_ : List Int, y_ = (x5_4.set (x33_3 : Int).toNat (wrap64 ((rd x5_4 (rd (rd_L11 l0_1 x33_3) x40_4)) + 1))) := ⟨_, rfl⟩
         replace H : (p_distances.l3 k4 y118 true x33_3 l0_1 (l0_1.length : Int) x33_3 (rd_L11 l0_1 x33_3) ((rd_L11 l0_1 x33_3).length : Int) (wrap64 (x40_4 + 1)) l0_0 l0_1) = some r := by first | (rw [hy118]; with_reducible exact H) | (have H2_ := (Option.bind_some _ _).symm.trans H; rw [hy118]; with_reducible exact H2_) | (have H2_ := (Option.bind_some _ _).symm.trans H; with_reducible exact H2_) | with_reducible exact H | (rw [hy118]; exact H) | exact H
         have Ny118 := aM hy118
         clear hy118
         have H' := aM H
         clear H
         have p110 : 0 <= (x40_4 : Int) := dt
         have q110 : x40_4 < ((rd_L11 l0_1 x33_3).length : Int) := dt
         obtain ⟨ad110, e110, hx110_0⟩ := Kd.at_int HR109_0.1 x40_4 p110 q110
         cases e110
         replace hx110_0 := hx HB hx110_0
         replace p110 := eq_true p110
         replace q110 := eq_true q110
         have p111 : 0 <= ((rd (rd_L11 l0_1 x33_3) x40_4) : Int) := dt
         have q111 : (rd (rd_L11 l0_1 x33_3) x40_4) < (x5_4.length : Int) := dt
         obtain ⟨ad111, e111, hx111_0⟩ := Kd.at_int (R_reads' HO_5.1).2.2 (rd (rd_L11 l0_1 x33_3) x40_4) p111 q111
         obtain rfl : (⟨go18, 0, none⟩ : Addr) = ad111 := (by injection e111)
         (first | simp only [add_plain] at hx111_0 | simp only [add_at] at hx111_0 | simp only [Addr.add, Nat.zero_add] at hx111_0 | skip)
         replace p111 := eq_true p111
         replace q111 := eq_true q111
         have p112 : 0 <= (x33_3 : Int) := dt
         have q112 : x33_3 < (x5_4.length : Int) := dt
         obtain ⟨ad112, e112, hx112_0⟩ := Kd.at_int (R_reads' HO_5.1).2.2 x33_3 p112 q112
         obtain rfl : (⟨go18, 0, none⟩ : Addr) = ad112 := (by injection e112)
         (first | simp only [add_plain] at hx112_0 | simp only [add_at] at hx112_0 | simp only [Addr.add, Nat.zero_add] at hx112_0 | skip)
         replace p112 := eq_true p112
         replace q112 := eq_true q112
         have p115 : 0 <= (x33_3 : Int) := dt
         have q115 : x33_3 < (x5_4.length : Int) := dt
         obtain ⟨ad115, e115, hx115_0⟩ := Kd.at_int (R_reads' HO_5.1).2.2 x33_3 p115 q115
         obtain rfl : (⟨go18, 0, none⟩ : Addr) = ad115 := (by injection e115)
         (first | simp only [add_plain] at hx115_0 | simp only [add_at] at hx115_0 | simp only [Addr.add, Nat.zero_add] at hx115_0 | skip)
         replace p115 := eq_true p115
         replace q115 := eq_true q115
         have p116 : 0 <= ((rd (rd_L11 l0_1 x33_3) x40_4) : Int) := dt
         have q116 : (rd (rd_L11 l0_1 x33_3) x40_4) < (x5_4.length : Int) := dt
         obtain ⟨ad116, e116, hx116_0⟩ := Kd.at_int (R_reads' HO_5.1).2.2 (rd (rd_L11 l0_1 x33_3) x40_4) p116 q116
         obtain rfl : (⟨go18, 0, none⟩ : Addr) = ad116 := (by injection e116)
         (first | simp only [add_plain] at hx116_0 | simp only [add_at] at hx116_0 | simp only [Addr.add, Nat.zero_add] at hx116_0 | skip)
         replace p116 := eq_true p116
         replace q116 := eq_true q116
         have p117 : 0 <= ((rd (rd_L11 l0_1 x33_3) x40_4) : Int) := dt
         have q117 : (rd (rd_L11 l0_1 x33_3) x40_4) < (x5_4.length : Int) := dt
         obtain ⟨ad117, e117, hx117_0⟩ := Kd.at_int (R_reads' HO_5.1).2.2 (rd (rd_L11 l0_1 x33_3) x40_4) p117 q117
         obtain rfl : (⟨go18, 0, none⟩ : Addr) = ad117 := (by injection e117)
         (first | simp only [add_plain] at hx117_0 | simp only [add_at] at hx117_0 | simp only [Addr.add, Nat.zero_add] at hx117_0 | skip)
         replace p117 := eq_true p117
         replace q117 := eq_true q117
         have p39 : 0 <= (x33_3 : Int) := dt
         have q39 : (x33_3 : Int) < ((x5_4.length : Int) : Int) := dt
         obtain ⟨hx39_0, hf39_0⟩ := R_celln 0 HO_5.1 (x33_3 : Int) p39 q39
         replace p39 := eq_true p39
         replace q39 := eq_true q39
         have HP40 := R_putg HO_5.1 (x33_3 : Int) (wrap64 ((rd x5_4 (rd (rd_L11 l0_1 x33_3) x40_4)) + 1))
         go_wp2_with (first | ((with_reducible refine gate_store (t := 3) (p := 75) rfl ?_); (try (rw [drewN_self wr]; generalize hq_ : World.drewN wr _ = wr; have n0_ := aM (R_at hq_ HO_5.1); have n1_ := aM (blk_at hq_ BK103.1); have n2_ := aM (below_at hq_ HB.1); clear hq_ HO_5 BK103 HB; have HO_5 := n0_; have BK103 := n1_; have HB := n2_; clear n0_ n1_ n2_; (try (obtain ⟨hx39_0, hf39_0⟩ := R_celln 0 HO_5.1 (x33_3 : Int) (of_eq_true p39) (of_eq_true q39))); (try (have HP40 := R_putg HO_5.1 (x33_3 : Int) (wrap64 ((rd x5_4 (rd (rd_L11 l0_1 x33_3) x40_4)) + 1)))))); refine store_event (t := 3) (p := 75) (v := ?vo_w41) (w1 := (wr.setCell ⟨go18, (x33_3 : Int).toNat, none⟩ (.int .i64 (wrap64 ((rd x5_4 (rd (rd_L11 l0_1 x33_3) x40_4)) + 1))))) ?hg ?ho ?hn ?hr ?_; (case ho => rfl); (case hg => rfl); (case hn => rfl); (case hr => first | (go_simp; done) | (go_simp; rfl)); intro w41 hw; have hg : wr.grownBy w41 (some go18) := (by rw [hw]; exact HP40.2); have hp_ : Kd.R (Kd.int .i64) 3 w41 w.heap.size (fun _ => True) (.slice (some ⟨go18, 0, none⟩) x5_4.length co9) y118 := (by rw [hw, Ny118.1]; exact HP40.1); clear HP40; replace BK103 := aM (blk_grown (g := gb103) (o := .cells #[.slice A0_0 l0_0.length c0_0, .slice (some ad109) l0_1.length c0_1] 51 (0, 0)) (kk BK103) hg (R_ne HO_5.1 BK103.1 (by decide))); replace HO_5 := aM (hp_); replace HB := aM ((by rw [hw]; exact below_set (HB.1) GB18.1 : Below w.heap.size w w41)); clear hg hw hp_))
         repeat (go_quiet (first | ((with_reducible refine gate_store (t := 3) (p := 75) rfl ?_); (try (rw [drewN_self wr]; generalize hq_ : World.drewN wr _ = wr; have n0_ := aM (R_at hq_ HO_5.1); have n1_ := aM (blk_at hq_ BK103.1); have n2_ := aM (below_at hq_ HB.1); clear hq_ HO_5 BK103 HB; have HO_5 := n0_; have BK103 := n1_; have HB := n2_; clear n0_ n1_ n2_; (try (obtain ⟨hx39_0, hf39_0⟩ := R_celln 0 HO_5.1 (x33_3 : Int) (of_eq_true p39) (of_eq_true q39))); (try (have HP40 := R_putg HO_5.1 (x33_3 : Int) (wrap64 ((rd x5_4 (rd (rd_L11 l0_1 x33_3) x40_4)) + 1)))))); refine store_event (t := 3) (p := 75) (v := ?vo_w41) (w1 := (wr.setCell ⟨go18, (x33_3 : Int).toNat, none⟩ (.int .i64 (wrap64 ((rd x5_4 (rd (rd_L11 l0_1 x33_3) x40_4)) + 1))))) ?hg ?ho ?hn ?hr ?_; (case ho => rfl); (case hg => rfl); (case hn => rfl); (case hr => first | (go_simp; done) | (go_simp; rfl)); intro w41 hw; have hg : wr.grownBy w41 (some go18) := (by rw [hw]; exact HP40.2); have hp_ : Kd.R (Kd.int .i64) 3 w41 w.heap.size (fun _ => True) (.slice (some ⟨go18, 0, none⟩) x5_4.length co9) y118 := (by rw [hw, Ny118.1]; exact HP40.1); clear HP40; replace BK103 := aM (blk_grown (g := gb103) (o := .cells #[.slice A0_0 l0_0.length c0_0, .slice (some ad109) l0_1.length c0_1] 51 (0, 0)) (kk BK103) hg (R_ne HO_5.1 BK103.1 (by decide))); replace HO_5 := aM (hp_); replace HB := aM ((by rw [hw]; exact below_set (HB.1) GB18.1 : Below w.heap.size w w41)); clear hg hw hp_)); try go_wp2_with (first | ((with_reducible refine gate_store (t := 3) (p := 75) rfl ?_); (try (rw [drewN_self wr]; generalize hq_ : World.drewN wr _ = wr; have n0_ := aM (R_at hq_ HO_5.1); have n1_ := aM (blk_at hq_ BK103.1); have n2_ := aM (below_at hq_ HB.1); clear hq_ HO_5 BK103 HB; have HO_5 := n0_; have BK103 := n1_; have HB := n2_; clear n0_ n1_ n2_; (try (obtain ⟨hx39_0, hf39_0⟩ := R_celln 0 HO_5.1 (x33_3 : Int) (of_eq_true p39) (of_eq_true q39))); (try (have HP40 := R_putg HO_5.1 (x33_3 : Int) (wrap64 ((rd x5_4 (rd (rd_L11 l0_1 x33_3) x40_4)) + 1)))))); refine store_event (t := 3) (p := 75) (v := ?vo_w41) (w1 := (wr.setCell ⟨go18, (x33_3 : Int).toNat, none⟩ (.int .i64 (wrap64 ((rd x5_4 (rd (rd_L11 l0_1 x33_3) x40_4)) + 1))))) ?hg ?ho ?hn ?hr ?_; (case ho => rfl); (case hg => rfl); (case hn => rfl); (case hr => first | (go_simp; done) | (go_simp; rfl)); intro w41 hw; have hg : wr.grownBy w41 (some go18) := (by rw [hw]; exact HP40.2); have hp_ : Kd.R (Kd.int .i64) 3 w41 w.heap.size (fun _ => True) (.slice (some ⟨go18, 0, none⟩) x5_4.length co9) y118 := (by rw [hw, Ny118.1]; exact HP40.1); clear HP40; replace BK103 := aM (blk_grown (g := gb103) (o := .cells #[.slice A0_0 l0_0.length c0_0, .slice (some ad109) l0_1.length c0_1] 51 (0, 0)) (kk BK103) hg (R_ne HO_5.1 BK103.1 (by decide))); replace HO_5 := aM (hp_); replace HB := aM ((by rw [hw]; exact below_set (HB.1) GB18.1 : Below w.heap.size w w41)); clear hg hw hp_)))
         (try simp only [<- hl5_4])
         go_roundg k4
         case measure => have := HK1.1; have := HK2.1; have := HK3.1; have := HK4.1; omega
         case rel => exact ⟨(y118), (true), (wrap64 (x40_4 + 1)), rr, rr, H', ⟨by have := HK1.1; have := HK2.1; have := HK3.1; have := HK4.1; omega⟩, ⟨by (try simp only [hl5_1]); (try simp only [hl5_2]); (try simp only [hl5_3]); (try simp only [hl5_4]); (with_reducible repeat (first | apply R_alloc | apply R_drewN | apply R_drew)); exact HO_5.1⟩, ⟨by (try simp only [hl5_1]); (try simp only [hl5_2]); (try simp only [hl5_3]); (try simp only [hl5_4]); (with_reducible repeat (first | refine kN ?_ _ | refine kD ?_ | refine kA ?_ _)); exact BK103.1⟩, ⟨hh HB⟩⟩
mutual
noncomputable def p_cycle.l0 : Nat -> Int -> Int -> Int -> Int -> List ByteArray -> List (List Int) -> Option (List Int)
 | 0, _, _, _, _, _, _ => none
 | k + 1, x3, x4, x17, x18, x120000, x120001 => if x18 < x17 then ((p_distances.f k x120000 x120001 x18).bind fun t120 => (if 0 <= x18 then (if x18 < (x120001.length : Int) then (p_cycle.l1 k x3 x4 x18 t120 x17 x18 (rd_L11 x120001 x18) ((rd_L11 x120001 x18).length : Int) 0 x120000 x120001) else (none)) else (none))) else (if x4 < 0 then (some ([] : List Int)) else ((p_distances.f k x120000 x120001 x4).bind fun t129 => (p_cycle.l2 k t129 (([x4] : List Int)) x4 (wrap64 (x3 - 1)) x120000 x120001)))
noncomputable def p_cycle.l1 : Nat -> Int -> Int -> Int -> List Int -> Int -> Int -> List Int -> Int -> Int -> List ByteArray -> List (List Int) -> Option (List Int)
 | 0, _, _, _, _, _, _, _, _, _, _, _ => none
 | k + 1, x3, x4, x5, x6, x17, x18, x29, x30, x31, x120000, x120001 => if x31 < x30 then (if 0 <= x31 then (if x31 < (x29.length : Int) then (if 0 <= (rd x29 x31) then (if (rd x29 x31) < (x6.length : Int) then (if (rd x6 (rd x29 x31)) >= 0 then (if x4 < 0 then (p_cycle.l1 k (wrap64 ((rd x6 (rd x29 x31)) + 1)) x5 x5 x6 x17 x18 x29 x30 (wrap64 (x31 + 1)) x120000 x120001) else (if (wrap64 ((rd x6 (rd x29 x31)) + 1)) < x3 then (p_cycle.l1 k (wrap64 ((rd x6 (rd x29 x31)) + 1)) x5 x5 x6 x17 x18 x29 x30 (wrap64 (x31 + 1)) x120000 x120001) else (p_cycle.l1 k x3 x4 x5 x6 x17 x18 x29 x30 (wrap64 (x31 + 1)) x120000 x120001))) else (p_cycle.l1 k x3 x4 x5 x6 x17 x18 x29 x30 (wrap64 (x31 + 1)) x120000 x120001)) else (none)) else (none)) else (none)) else (none)) else (p_cycle.l0 k x3 x4 x17 (wrap64 (x18 + 1)) x120000 x120001)
noncomputable def p_cycle.l2 : Nat -> List Int -> List Int -> Int -> Int -> List ByteArray -> List (List Int) -> Option (List Int)
 | 0, _, _, _, _, _, _ => none
 | k + 1, x9, x10, x11, x12, x120000, x120001 => if x12 > 0 then (if 0 <= x11 then (if x11 < (x120001.length : Int) then (p_cycle.l3 k x9 x10 x11 x12 (rd_L11 x120001 x11) ((rd_L11 x120001 x11).length : Int) 0 x120000 x120001) else (none)) else (none)) else (some x10)
noncomputable def p_cycle.l3 : Nat -> List Int -> List Int -> Int -> Int -> List Int -> Int -> Int -> List ByteArray -> List (List Int) -> Option (List Int)
 | 0, _, _, _, _, _, _, _, _, _ => none
 | k + 1, x9, x10, x11, x12, x80, x81, x82, x120000, x120001 => if x82 < x81 then (if 0 <= x82 then (if x82 < (x80.length : Int) then (if 0 <= (rd x80 x82) then (if (rd x80 x82) < (x9.length : Int) then (if (rd x9 (rd x80 x82)) = x12 then (if x10.length < 17592186044416 then (p_cycle.l2 k x9 (x10 ++ [rd x80 x82]) (rd x80 x82) (wrap64 (x12 - 1)) x120000 x120001) else (none)) else (p_cycle.l3 k x9 x10 x11 x12 x80 x81 (wrap64 (x82 + 1)) x120000 x120001)) else (none)) else (none)) else (none)) else (none)) else (if x10.length < 17592186044416 then (p_cycle.l2 k x9 (x10 ++ [x11]) x11 (wrap64 (x12 - 1)) x120000 x120001) else (none))
end
noncomputable def p_cycle.f (k : Nat) (l0_0 : List ByteArray) (l0_1 : List (List Int)) : Option (List Int) := p_cycle.l0 k 0 (-1) (l0_0.length : Int) 0 l0_0 l0_1
theorem p_cycle.calls (k : Nat) (A0_0 : Option Addr) (c0_0 : Nat) (l0_0 : List ByteArray) (A0_1 : Option Addr) (c0_1 : Nat) (l0_1 : List (List Int)) (r : List Int) (w : World) (hr0_0 : Kd.C Kd.string w A0_0 l0_0.length l0_0) (hc0_0 : l0_0.length <= c0_0) (hr0_1 : Kd.C (Kd.slice 3 (Kd.int .i64)) w A0_1 l0_1.length l0_1) (hc0_1 : l0_1.length <= c0_1) (h : p_cycle.f k l0_0 l0_1 = some r) :
 Calls Try.prog 35 #[.agg #[.slice A0_0 l0_0.length c0_0, .slice A0_1 l0_1.length c0_1]] w fun e w' => ∃ v0_ : Value, e = .returned (v0_) /\ Kd.R (Kd.int .i64) 3 w' w.heap.size (fun _ => True) v0_ r /\ Below w.heap.size w w' := by
 have hu51 := Try.underlying51
 have HR0_0 := aM hr0_0
 have HC0_0 := aM hc0_0
 clear hr0_0 hc0_0
 have HR0_1 := aM hr0_1
 have HC0_1 := aM hc0_1
 clear hr0_1 hc0_1
 have HB := aM (Below.refl w.heap.size w)
 have H : (p_cycle.l0 k 0 (-1) (l0_0.length : Int) 0 l0_0 l0_1) = some r := h
 clear h
 have H' := aM H
 clear H
 go_enter Try.func35, Try.ntmps35
 go_wp2_with (first | ((with_reducible refine gate_dst (N := 1) rfl ?_); refine be 1 rfl rfl #[.slice A0_0 l0_0.length c0_0, .slice A0_1 l0_1.length c0_1] 51 ?_; intro gb119 hg w2 hbox hb; have BK119 := aM hbox; have GE119 := gs hg HB; replace HB := bs HB hb; clear hb hbox hg; obtain ⟨hcz3_0, hcz3_1⟩ := cz2 BK119; obtain ⟨hfz3_0, hfz3_1⟩ := fz2 BK119))
 go_loopg [3, 4, 18] k (fun kq v3 v4 v18 w' => ∃ (x3_1 : Int) (x4_1 : Int) (x18_1 : Int), v3 = .int .i64 x3_1 /\ v4 = .int .i64 x4_1 /\ v18 = .int .i64 x18_1 /\ Az (p_cycle.l0 kq x3_1 x4_1 (l0_0.length : Int) x18_1 l0_0 l0_1 = some r) /\ Az (kq <= k) /\ Az (w'.heap[gb119]? = some (.cells #[(.slice A0_0 l0_0.length c0_0), (.slice A0_1 l0_1.length c0_1)] 51 (0, 0))) /\ Az (Below w.heap.size w w'))
 case atStart => exact ⟨(0), ((-1)), (0), rr, rr, rr, H', ⟨Nat.le_refl _⟩, ⟨kk BK119⟩, ⟨hh HB⟩⟩
 case round =>
  clear H'
  clear hcz3_0 hcz3_1 hfz3_0 hfz3_1
  obtain ⟨x3_1, x4_1, x18_1, rfl, rfl, rfl, HA, HK1, BK119, HB⟩ := hrel
  cases gk with
  | zero => exact absurd HA.1 (by simp [p_cycle.l0])
  | succ k1 =>
   have H := HA.1
   clear HA
   simp only [p_cycle.l0] at H
   by_cases c4 : x18_1 < (l0_0.length : Int)
   · rw [if_pos c4] at H
     have c4b0 : decide (x18_1 < (l0_0.length : Int)) = true := decide_eq_true c4
     clear c4
     replace H := Option.bind_eq_some_iff.mp H
     obtain ⟨t120, A50, H⟩ := H
     try dsimp only at H
     have A5 := aM A50
     clear A50
     by_cases c6 : 0 <= x18_1
     rotate_left
     · rw [if_neg c6] at H
       exact absurd H (by simp)
     rw [if_pos c6] at H
     have c6b0 : decide (0 <= x18_1) = true := decide_eq_true c6
     clear c6
     by_cases c7 : x18_1 < (l0_1.length : Int)
     rotate_left
     · rw [if_neg c7] at H
       exact absurd H (by simp)
     rw [if_pos c7] at H
     have c7b0 : decide (x18_1 < (l0_1.length : Int)) = true := decide_eq_true c7
     clear c7
     have H' := aM H
     clear H
     obtain ⟨hcz8_0, hcz8_1⟩ := cz2 BK119
     obtain ⟨hfz8_0, hfz8_1⟩ := fz2 BK119
     go_wp2_with (first | ((with_reducible refine gate_callee (f := 48) rfl ?_); refine gL (some 23) rfl rfl Try.func48 (by kernel_rfl) rfl #[.agg #[.slice A0_0 l0_0.length c0_0, .slice A0_1 l0_1.length c0_1], .int .i64 x18_1] rfl ?_; (with_reducible refine (p_distances.calls k1 _ _ l0_0 _ _ l0_1 x18_1 t120 _ ?side1 ?side2 ?side3 ?side4 A5.1).mono ?_); (case side1 => exact cb HR0_0 HB); (case side2 => exact HC0_0.1); (case side3 => exact cb HR0_1 HB); (case side4 => exact HC0_1.1); rintro e w9 ⟨v121, rfl, ho0, hb⟩; refine ⟨_, rfl, ?_⟩; have HO122 := aM (R_lower ho0 (below_size (hh HB))); replace BK119 := kb BK119 hb; replace HB := bs HB hb; clear hb ho0; obtain ⟨hcz10_0, hcz10_1⟩ := cz2 BK119; obtain ⟨hfz10_0, hfz10_1⟩ := fz2 BK119; have p123 : 0 <= (x18_1 : Int) := dt; have q123 : x18_1 < (l0_1.length : Int) := dt; obtain ⟨ad123, A123_0, c123_0, e123, hx123_0, hl123_0, hi123_0⟩ := at_L11 HR0_1.1 x18_1 p123 q123; cases e123; replace hx123_0 := hx HB hx123_0; have HR123_0 := aM hi123_0; have HC123_0 := aM hl123_0; clear hi123_0 hl123_0; replace p123 := eq_true p123; replace q123 := eq_true q123))
     go_loopg [3, 4, 31] k1 (fun kq v3 v4 v31 w' => ∃ (x3_2 : Int) (x4_2 : Int) (x31_2 : Int), v3 = .int .i64 x3_2 /\ v4 = .int .i64 x4_2 /\ v31 = .int .i64 x31_2 /\ Az (p_cycle.l1 kq x3_2 x4_2 x18_1 t120 (l0_0.length : Int) x18_1 (rd_L11 l0_1 x18_1) ((rd_L11 l0_1 x18_1).length : Int) x31_2 l0_0 l0_1 = some r) /\ Az (kq <= k1) /\ Az (Kd.R (Kd.int .i64) 3 w' w.heap.size (fun _ => True) v121 t120) /\ Az (w'.heap[gb119]? = some (.cells #[(.slice A0_0 l0_0.length c0_0), (.slice (some ad123) l0_1.length c0_1)] 51 (0, 0))) /\ Az (Below w.heap.size w w'))
     case atStart => exact ⟨(x3_1), (x4_1), (0), rr, rr, rr, H', ⟨Nat.le_refl _⟩, ⟨rk HO122⟩, ⟨kk BK119⟩, ⟨hh HB⟩⟩
     case round =>
      clear H'
      clear c4b0 c6b0 c7b0 hcz10_0 hcz10_1 hcz8_0 hcz8_1 hfz10_0 hfz10_1 hfz8_0 hfz8_1 hx123_0 p123 q123
      obtain ⟨x3_2, x4_2, x31_2, rfl, rfl, rfl, HA, HK2, HO_6, BK119, HB⟩ := hrel
      cases gk with
      | zero => exact absurd HA.1 (by simp [p_cycle.l1])
      | succ k2 =>
       have H := HA.1
       clear HA
       simp only [p_cycle.l1] at H
       by_cases c11 : x31_2 < ((rd_L11 l0_1 x18_1).length : Int)
       rotate_left
       · rw [if_neg c11] at H
         have c11b0 : decide (x31_2 < ((rd_L11 l0_1 x18_1).length : Int)) = false := decide_eq_false c11
         clear c11
         have H' := aM H
         clear H
         go_wp2
         go_roundg k2
         case measure => have := HK1.1; have := HK2.1; omega
         case rel => exact ⟨(x3_2), (x4_2), (wrap64 (x18_1 + 1)), rr, rr, rr, H', ⟨by have := HK1.1; have := HK2.1; omega⟩, ⟨kk BK119⟩, ⟨hh HB⟩⟩
       rw [if_pos c11] at H
       have c11b0 : decide (x31_2 < ((rd_L11 l0_1 x18_1).length : Int)) = true := decide_eq_true c11
       clear c11
       by_cases c12 : 0 <= x31_2
       rotate_left
       · rw [if_neg c12] at H
         exact absurd H (by simp)
       rw [if_pos c12] at H
       have c12b0 : decide (0 <= x31_2) = true := decide_eq_true c12
       clear c12
       by_cases c13 : x31_2 < ((rd_L11 l0_1 x18_1).length : Int)
       rotate_left
       · rw [if_neg c13] at H
         exact absurd H (by simp)
       rw [if_pos c13] at H
       have c13b0 : decide (x31_2 < ((rd_L11 l0_1 x18_1).length : Int)) = true := decide_eq_true c13
       clear c13
       by_cases c14 : 0 <= (rd (rd_L11 l0_1 x18_1) x31_2)
       rotate_left
       · rw [if_neg c14] at H
         exact absurd H (by simp)
       rw [if_pos c14] at H
       have c14b0 : decide (0 <= (rd (rd_L11 l0_1 x18_1) x31_2)) = true := decide_eq_true c14
       clear c14
       by_cases c15 : (rd (rd_L11 l0_1 x18_1) x31_2) < (t120.length : Int)
       rotate_left
       · rw [if_neg c15] at H
         exact absurd H (by simp)
       rw [if_pos c15] at H
       have c15b0 : decide ((rd (rd_L11 l0_1 x18_1) x31_2) < (t120.length : Int)) = true := decide_eq_true c15
       clear c15
       by_cases c16 : (rd t120 (rd (rd_L11 l0_1 x18_1) x31_2)) >= 0
       rotate_left
       · rw [if_neg c16] at H
         have c16b0 : decide (0 <= (rd t120 (rd (rd_L11 l0_1 x18_1) x31_2))) = false := decide_eq_false c16
         clear c16
         have H' := aM H
         clear H
         have p124 : 0 <= (x31_2 : Int) := dt
         have q124 : x31_2 < ((rd_L11 l0_1 x18_1).length : Int) := dt
         obtain ⟨ad124, e124, hx124_0⟩ := Kd.at_int HR123_0.1 x31_2 p124 q124
         cases e124
         replace hx124_0 := hx HB hx124_0
         replace p124 := eq_true p124
         replace q124 := eq_true q124
         obtain ⟨Ao22, co22, eo22⟩ := R_slice HO_6.1
         subst eo22
         have p125 : 0 <= ((rd (rd_L11 l0_1 x18_1) x31_2) : Int) := dt
         have q125 : (rd (rd_L11 l0_1 x18_1) x31_2) < (t120.length : Int) := dt
         obtain ⟨ad125, e125, hx125_0⟩ := Kd.at_int (R_reads' HO_6.1).2.2 (rd (rd_L11 l0_1 x18_1) x31_2) p125 q125
         cases e125
         replace p125 := eq_true p125
         replace q125 := eq_true q125
         go_wp2
         go_roundg k2
         case measure => have := HK1.1; have := HK2.1; omega
         case rel => exact ⟨(x3_2), (x4_2), (wrap64 (x31_2 + 1)), rr, rr, rr, H', ⟨by have := HK1.1; have := HK2.1; omega⟩, ⟨rk HO_6⟩, ⟨kk BK119⟩, ⟨hh HB⟩⟩
       rw [if_pos c16] at H
       have c16b0 : decide (0 <= (rd t120 (rd (rd_L11 l0_1 x18_1) x31_2))) = true := decide_eq_true c16
       clear c16
       by_cases c17 : x4_2 < 0
       · rw [if_pos c17] at H
         have c17b0 : decide (x4_2 < 0) = true := decide_eq_true c17
         clear c17
         have H' := aM H
         clear H
         have p124 : 0 <= (x31_2 : Int) := dt
         have q124 : x31_2 < ((rd_L11 l0_1 x18_1).length : Int) := dt
         obtain ⟨ad124, e124, hx124_0⟩ := Kd.at_int HR123_0.1 x31_2 p124 q124
         cases e124
         replace hx124_0 := hx HB hx124_0
         replace p124 := eq_true p124
         replace q124 := eq_true q124
         obtain ⟨Ao18, co18, eo18⟩ := R_slice HO_6.1
         subst eo18
         have p125 : 0 <= ((rd (rd_L11 l0_1 x18_1) x31_2) : Int) := dt
         have q125 : (rd (rd_L11 l0_1 x18_1) x31_2) < (t120.length : Int) := dt
         obtain ⟨ad125, e125, hx125_0⟩ := Kd.at_int (R_reads' HO_6.1).2.2 (rd (rd_L11 l0_1 x18_1) x31_2) p125 q125
         cases e125
         replace p125 := eq_true p125
         replace q125 := eq_true q125
         have p126 : 0 <= ((rd (rd_L11 l0_1 x18_1) x31_2) : Int) := dt
         have q126 : (rd (rd_L11 l0_1 x18_1) x31_2) < (t120.length : Int) := dt
         obtain ⟨ad126, e126, hx126_0⟩ := Kd.at_int (R_reads' HO_6.1).2.2 (rd (rd_L11 l0_1 x18_1) x31_2) p126 q126
         obtain rfl : ad125 = ad126 := (by injection e126)
         replace p126 := eq_true p126
         replace q126 := eq_true q126
         go_wp2
         go_roundg k2
         case measure => have := HK1.1; have := HK2.1; omega
         case rel => exact ⟨(wrap64 ((rd t120 (rd (rd_L11 l0_1 x18_1) x31_2)) + 1)), (x18_1), (wrap64 (x31_2 + 1)), rr, rr, rr, H', ⟨by have := HK1.1; have := HK2.1; omega⟩, ⟨rk HO_6⟩, ⟨kk BK119⟩, ⟨hh HB⟩⟩
       rw [if_neg c17] at H
       have c17b0 : decide (x4_2 < 0) = false := decide_eq_false c17
       clear c17
       by_cases c19 : (wrap64 ((rd t120 (rd (rd_L11 l0_1 x18_1) x31_2)) + 1)) < x3_2
       rotate_left
       · rw [if_neg c19] at H
         have c19b0 : decide ((wrap64 ((rd t120 (rd (rd_L11 l0_1 x18_1) x31_2)) + 1)) < x3_2) = false := decide_eq_false c19
         clear c19
         have H' := aM H
         clear H
         have p124 : 0 <= (x31_2 : Int) := dt
         have q124 : x31_2 < ((rd_L11 l0_1 x18_1).length : Int) := dt
         obtain ⟨ad124, e124, hx124_0⟩ := Kd.at_int HR123_0.1 x31_2 p124 q124
         cases e124
         replace hx124_0 := hx HB hx124_0
         replace p124 := eq_true p124
         replace q124 := eq_true q124
         obtain ⟨Ao21, co21, eo21⟩ := R_slice HO_6.1
         subst eo21
         have p125 : 0 <= ((rd (rd_L11 l0_1 x18_1) x31_2) : Int) := dt
         have q125 : (rd (rd_L11 l0_1 x18_1) x31_2) < (t120.length : Int) := dt
         obtain ⟨ad125, e125, hx125_0⟩ := Kd.at_int (R_reads' HO_6.1).2.2 (rd (rd_L11 l0_1 x18_1) x31_2) p125 q125
         cases e125
         replace p125 := eq_true p125
         replace q125 := eq_true q125
         have p127 : 0 <= ((rd (rd_L11 l0_1 x18_1) x31_2) : Int) := dt
         have q127 : (rd (rd_L11 l0_1 x18_1) x31_2) < (t120.length : Int) := dt
         obtain ⟨ad127, e127, hx127_0⟩ := Kd.at_int (R_reads' HO_6.1).2.2 (rd (rd_L11 l0_1 x18_1) x31_2) p127 q127
         obtain rfl : ad125 = ad127 := (by injection e127)
         replace p127 := eq_true p127
         replace q127 := eq_true q127
         go_wp2
         go_roundg k2
         case measure => have := HK1.1; have := HK2.1; omega
         case rel => exact ⟨(x3_2), (x4_2), (wrap64 (x31_2 + 1)), rr, rr, rr, H', ⟨by have := HK1.1; have := HK2.1; omega⟩, ⟨rk HO_6⟩, ⟨kk BK119⟩, ⟨hh HB⟩⟩
       rw [if_pos c19] at H
       have c19b0 : decide ((wrap64 ((rd t120 (rd (rd_L11 l0_1 x18_1) x31_2)) + 1)) < x3_2) = true := decide_eq_true c19
       clear c19
       have H' := aM H
       clear H
       have p124 : 0 <= (x31_2 : Int) := dt
       have q124 : x31_2 < ((rd_L11 l0_1 x18_1).length : Int) := dt
       obtain ⟨ad124, e124, hx124_0⟩ := Kd.at_int HR123_0.1 x31_2 p124 q124
       cases e124
       replace hx124_0 := hx HB hx124_0
       replace p124 := eq_true p124
       replace q124 := eq_true q124
       obtain ⟨Ao20, co20, eo20⟩ := R_slice HO_6.1
       subst eo20
       have p125 : 0 <= ((rd (rd_L11 l0_1 x18_1) x31_2) : Int) := dt
       have q125 : (rd (rd_L11 l0_1 x18_1) x31_2) < (t120.length : Int) := dt
       obtain ⟨ad125, e125, hx125_0⟩ := Kd.at_int (R_reads' HO_6.1).2.2 (rd (rd_L11 l0_1 x18_1) x31_2) p125 q125
       cases e125
       replace p125 := eq_true p125
       replace q125 := eq_true q125
       have p127 : 0 <= ((rd (rd_L11 l0_1 x18_1) x31_2) : Int) := dt
       have q127 : (rd (rd_L11 l0_1 x18_1) x31_2) < (t120.length : Int) := dt
       obtain ⟨ad127, e127, hx127_0⟩ := Kd.at_int (R_reads' HO_6.1).2.2 (rd (rd_L11 l0_1 x18_1) x31_2) p127 q127
       obtain rfl : ad125 = ad127 := (by injection e127)
       replace p127 := eq_true p127
       replace q127 := eq_true q127
       have p128 : 0 <= ((rd (rd_L11 l0_1 x18_1) x31_2) : Int) := dt
       have q128 : (rd (rd_L11 l0_1 x18_1) x31_2) < (t120.length : Int) := dt
       obtain ⟨ad128, e128, hx128_0⟩ := Kd.at_int (R_reads' HO_6.1).2.2 (rd (rd_L11 l0_1 x18_1) x31_2) p128 q128
       obtain rfl : ad125 = ad128 := (by injection e128)
       replace p128 := eq_true p128
       replace q128 := eq_true q128
       go_wp2
       go_roundg k2
       case measure => have := HK1.1; have := HK2.1; omega
       case rel => exact ⟨(wrap64 ((rd t120 (rd (rd_L11 l0_1 x18_1) x31_2)) + 1)), (x18_1), (wrap64 (x31_2 + 1)), rr, rr, rr, H', ⟨by have := HK1.1; have := HK2.1; omega⟩, ⟨rk HO_6⟩, ⟨kk BK119⟩, ⟨hh HB⟩⟩
   rw [if_neg c4] at H
   have c4b0 : decide (x18_1 < (l0_0.length : Int)) = false := decide_eq_false c4
   clear c4
   by_cases c23 : x4_1 < 0
   · rw [if_pos c23] at H
     have c23b0 : decide (x4_1 < 0) = true := decide_eq_true c23
     clear c23
     obtain rfl := Option.some.inj H
     go_wp2
     go_ret
     exact ⟨_, by first | rfl | (simp [errW_none, errW_some] <;> rfl) | (simp [*, errW_none, errW_some] <;> rfl), by first | exact R_nil _ _ _ _ _ | exact N_nil _ _ _ _ _ | exact V_nil _ _ _ _ _ | exact Q_nil _ _ _ _ _ | exact S_nil _ _ _ _ _, hh HB⟩
   rw [if_neg c23] at H
   have c23b0 : decide (x4_1 < 0) = false := decide_eq_false c23
   clear c23
   replace H := Option.bind_eq_some_iff.mp H
   obtain ⟨t129, A240, H⟩ := H
   try dsimp only at H
   have A24 := aM A240
   clear A240
   obtain ⟨y132, hy132⟩ : ∃ y_ : List Int, y_ = (([x4_1] : List Int)) := ⟨_, rfl⟩
   replace H : (p_cycle.l2 k1 t129 y132 x4_1 (wrap64 (x3_1 - 1)) l0_0 l0_1) = some r := by first | (rw [hy132]; with_reducible exact H) | (have H2_ := (Option.bind_some _ _).symm.trans H; rw [hy132]; with_reducible exact H2_) | (have H2_ := (Option.bind_some _ _).symm.trans H; with_reducible exact H2_) | with_reducible exact H | (rw [hy132]; exact H) | exact H
   have Ny132 := aM hy132
   clear hy132
   have H' := aM H
   clear H
   obtain ⟨hcz25_0, hcz25_1⟩ := cz2 BK119
   obtain ⟨hfz25_0, hfz25_1⟩ := fz2 BK119
   go_wp2_with (first | ((with_reducible refine gate_callee (f := 48) rfl ?_); refine gL (some 65) rfl rfl Try.func48 (by kernel_rfl) rfl #[.agg #[.slice A0_0 l0_0.length c0_0, .slice A0_1 l0_1.length c0_1], .int .i64 x4_1] rfl ?_; (with_reducible refine (p_distances.calls k1 _ _ l0_0 _ _ l0_1 x4_1 t129 _ ?side1 ?side2 ?side3 ?side4 A24.1).mono ?_); (case side1 => exact cb HR0_0 HB); (case side2 => exact HC0_0.1); (case side3 => exact cb HR0_1 HB); (case side4 => exact HC0_1.1); rintro e w26 ⟨v130, rfl, ho0, hb⟩; refine ⟨_, rfl, ?_⟩; have HO131 := aM (R_lower ho0 (below_size (hh HB))); replace BK119 := kb BK119 hb; replace HB := bs HB hb; clear hb ho0) | ((with_reducible refine gate_dst (N := 67) rfl ?_); refine R_lit (Kd.int .i64) _ 3 ?hg (N := 67) ?hd (xs := ([x4_1] : List Int)) (inner := [.int .i64 x4_1]) (ok := fun _ => True) (okp := fun _ => True) ?hr ?hp (fun _ hk => hk) trivial (Below.refl _ _) (Nat.le_refl _) (by simp) ?_; (case hd => rfl); (case hg => rfl); (case hr => first | (go_simp; done) | (go_simp; rfl)); (case hp => exact (Reps.one (show Kd.M (Kd.int .i64) _ _ _ x4_1 [.int .i64 x4_1] from rfl) (Reps.none _ _))); intro v133 w27 ho28 hb hg_ hnew_; clear hg_ hnew_; (first | rw [<- Ny132.1] at ho28 | (simp only [Int.reduceToNat] at ho28; rw [<- Ny132.1] at ho28)); have HO134 := aM (R_lower (R_new' ho28 (R_lt (rk HO131))) (below_size (hh HB))); replace HO131 := aM (R_elder' (rk HO131) (R_base ho28) hb); replace BK119 := kb BK119 hb; replace HB := bs HB hb; clear hb ho28))
   go_loopg [10, 11, 12] k1 (fun kq v10 v11 v12 w' => ∃ (x10_2 : List Int) (x11_2 : Int) (x12_2 : Int), v11 = .int .i64 x11_2 /\ v12 = .int .i64 x12_2 /\ Az (p_cycle.l2 kq t129 x10_2 x11_2 x12_2 l0_0 l0_1 = some r) /\ Az (kq <= k1) /\ Az (Kd.R (Kd.int .i64) 3 w' w.heap.size (fun k_ => some k_ ≠ (v10 : Value).ownBlock) v130 t129) /\ Az (Kd.R (Kd.int .i64) 3 w' w.heap.size (fun k_ => some k_ ≠ (v130 : Value).ownBlock) v10 x10_2) /\ Az (w'.heap[gb119]? = some (.cells #[(.slice A0_0 l0_0.length c0_0), (.slice A0_1 l0_1.length c0_1)] 51 (0, 0))) /\ Az (Below w.heap.size w w'))
   case atStart => exact ⟨(y132), (x4_1), (wrap64 (x3_1 - 1)), rr, rr, H', ⟨Nat.le_refl _⟩, ⟨rz (R_mono HO131.1 (fun _ hk => hk.2))⟩, ⟨rz (R_mono HO134.1 (fun _ hk => hk.2))⟩, ⟨kk BK119⟩, ⟨hh HB⟩⟩
   case round =>
    clear H'
    clear c4b0 c23b0 hcz25_0 hcz25_1 hfz25_0 hfz25_1
    obtain ⟨x10_2, x11_2, x12_2, rfl, rfl, HA, HK2, HO_9, HO_10, BK119, HB⟩ := hrel
    cases gk with
    | zero => exact absurd HA.1 (by simp [p_cycle.l2])
    | succ k2 =>
     have H := HA.1
     clear HA
     simp only [p_cycle.l2] at H
     by_cases c29 : x12_2 > 0
     rotate_left
     · rw [if_neg c29] at H
       have c29b0 : decide (0 < x12_2) = false := decide_eq_false c29
       clear c29
       obtain rfl := Option.some.inj H
       go_wp2
       go_ret
       exact ⟨_, by first | rfl | (simp [errW_none, errW_some] <;> rfl) | (simp [*, errW_none, errW_some] <;> rfl), rz (R_mono HO_10.1 (fun _ hk => trivial)), hh HB⟩
     rw [if_pos c29] at H
     have c29b0 : decide (0 < x12_2) = true := decide_eq_true c29
     clear c29
     by_cases c30 : 0 <= x11_2
     rotate_left
     · rw [if_neg c30] at H
       exact absurd H (by simp)
     rw [if_pos c30] at H
     have c30b0 : decide (0 <= x11_2) = true := decide_eq_true c30
     clear c30
     by_cases c31 : x11_2 < (l0_1.length : Int)
     rotate_left
     · rw [if_neg c31] at H
       exact absurd H (by simp)
     rw [if_pos c31] at H
     have c31b0 : decide (x11_2 < (l0_1.length : Int)) = true := decide_eq_true c31
     clear c31
     have H' := aM H
     clear H
     obtain ⟨hcz32_0, hcz32_1⟩ := cz2 BK119
     obtain ⟨hfz32_0, hfz32_1⟩ := fz2 BK119
     have p135 : 0 <= (x11_2 : Int) := dt
     have q135 : x11_2 < (l0_1.length : Int) := dt
     obtain ⟨ad135, A135_0, c135_0, e135, hx135_0, hl135_0, hi135_0⟩ := at_L11 HR0_1.1 x11_2 p135 q135
     cases e135
     replace hx135_0 := hx HB hx135_0
     have HR135_0 := aM hi135_0
     have HC135_0 := aM hl135_0
     clear hi135_0 hl135_0
     replace p135 := eq_true p135
     replace q135 := eq_true q135
     go_wp2
     go_loopg [11, 82] k2 (fun kq v11 v82 w' => ∃ (x11_3 : Int) (x82_3 : Int), v11 = .int .i64 x11_3 /\ v82 = .int .i64 x82_3 /\ Az (p_cycle.l3 kq t129 x10_2 x11_3 x12_2 (rd_L11 l0_1 x11_2) ((rd_L11 l0_1 x11_2).length : Int) x82_3 l0_0 l0_1 = some r) /\ Az (kq <= k2) /\ Az (Kd.R (Kd.int .i64) 3 w' w.heap.size (fun k_ => some k_ ≠ (u10 : Value).ownBlock) v130 t129) /\ Az (Kd.R (Kd.int .i64) 3 w' w.heap.size (fun k_ => some k_ ≠ (v130 : Value).ownBlock) u10 x10_2) /\ Az (w'.heap[gb119]? = some (.cells #[(.slice A0_0 l0_0.length c0_0), (.slice (some ad135) l0_1.length c0_1)] 51 (0, 0))) /\ Az (Below w.heap.size w w'))
     case atStart => exact ⟨(x11_2), (0), rr, rr, H', ⟨Nat.le_refl _⟩, ⟨rk HO_9⟩, ⟨rk HO_10⟩, ⟨kk BK119⟩, ⟨hh HB⟩⟩
     case round =>
      clear H'
      clear c29b0 c30b0 c31b0 hcz32_0 hcz32_1 hfz32_0 hfz32_1 hx135_0 p135 q135
      obtain ⟨x11_3, x82_3, rfl, rfl, HA, HK3, HO_9, HO_10, BK119, HB⟩ := hrel
      cases gk with
      | zero => exact absurd HA.1 (by simp [p_cycle.l3])
      | succ k3 =>
       have H := HA.1
       clear HA
       simp only [p_cycle.l3] at H
       by_cases c33 : x82_3 < ((rd_L11 l0_1 x11_2).length : Int)
       rotate_left
       · rw [if_neg c33] at H
         have c33b0 : decide (x82_3 < ((rd_L11 l0_1 x11_2).length : Int)) = false := decide_eq_false c33
         clear c33
         by_cases c43 : x10_2.length < 17592186044416
         rotate_left
         · rw [if_neg c43] at H
           exact absurd H (by simp)
         rw [if_pos c43] at H
         have LMc43 := aM c43
         clear c43
         obtain ⟨y141, hy141⟩ : ∃ y_ : List Int, y_ = (x10_2 ++ [x11_3]) := ⟨_, rfl⟩
         replace H : (p_cycle.l2 k3 t129 y141 x11_3 (wrap64 (x12_2 - 1)) l0_0 l0_1) = some r := by first | (rw [hy141]; with_reducible exact H) | (have H2_ := (Option.bind_some _ _).symm.trans H; rw [hy141]; with_reducible exact H2_) | (have H2_ := (Option.bind_some _ _).symm.trans H; with_reducible exact H2_) | with_reducible exact H | (rw [hy141]; exact H) | exact H
         have Ny141 := aM hy141
         clear hy141
         have H' := aM H
         clear H
         go_wp2_with (first | ((with_reducible refine gate_builtin (b := .append) (xs := #[.tmp 94, .tmp 96]) rfl ?_); at_builtin; refine R_append (Kd.int .i64) (w0 := w) w.heap.size rfl (.tmp 94) (.tmp 96) 55 3 (.int .i64 0) 8 rfl Try.underlying55 info3 rfl (by decide) (by omega) u10 x10_2 x11_3 [.int .i64 x11_3] (fun k_ => some k_ ≠ (v130 : Value).ownBlock) (fun _ => False) rfl rfl ?aP (fun _ hk => hk.elim) ?aF ?aO ?aB ?aS ?aL ?_; (case aP => exact rfl); (case aB => exact (hh HB)); (case aF => exact (fun k_ hk => Kd.fresh' (R_lt (rk HO_9)) k_ hk)); (case aO => exact (rk HO_10)); (case aS => exact (below_size (hh HB))); (case aL => have := LMc43.1; omega); intro v142 w44 ho hb hg hat; rw [<- Ny141.1] at ho; have HO143 := aM (ho); replace HO_9 := aM (R_after (ok := (fun _ => True)) (rz (R_mono HO_9.1 (fun _ hk => ⟨trivial, hk⟩))) hg hat); replace BK119 := aM (blk_grown (g := gb119) (o := .cells #[.slice A0_0 l0_0.length c0_0, .slice (some ad135) l0_1.length c0_1] 51 (0, 0)) (kk BK119) hg (R_ne HO_10.1 BK119.1 (by decide))); replace HB := aM (hb); clear HO_10; clear ho hb hg hat))
         go_roundg k3
         case measure => have := HK1.1; have := HK2.1; have := HK3.1; omega
         case rel => exact ⟨(y141), (x11_3), (wrap64 (x12_2 - 1)), rr, rr, H', ⟨by have := HK1.1; have := HK2.1; have := HK3.1; omega⟩, ⟨rz (R_mono HO_9.1 (fun _ hk => hk.2))⟩, ⟨rk HO143⟩, ⟨kk BK119⟩, ⟨hh HB⟩⟩
       rw [if_pos c33] at H
       have c33b0 : decide (x82_3 < ((rd_L11 l0_1 x11_2).length : Int)) = true := decide_eq_true c33
       clear c33
       by_cases c34 : 0 <= x82_3
       rotate_left
       · rw [if_neg c34] at H
         exact absurd H (by simp)
       rw [if_pos c34] at H
       have c34b0 : decide (0 <= x82_3) = true := decide_eq_true c34
       clear c34
       by_cases c35 : x82_3 < ((rd_L11 l0_1 x11_2).length : Int)
       rotate_left
       · rw [if_neg c35] at H
         exact absurd H (by simp)
       rw [if_pos c35] at H
       have c35b0 : decide (x82_3 < ((rd_L11 l0_1 x11_2).length : Int)) = true := decide_eq_true c35
       clear c35
       by_cases c36 : 0 <= (rd (rd_L11 l0_1 x11_2) x82_3)
       rotate_left
       · rw [if_neg c36] at H
         exact absurd H (by simp)
       rw [if_pos c36] at H
       have c36b0 : decide (0 <= (rd (rd_L11 l0_1 x11_2) x82_3)) = true := decide_eq_true c36
       clear c36
       by_cases c37 : (rd (rd_L11 l0_1 x11_2) x82_3) < (t129.length : Int)
       rotate_left
       · rw [if_neg c37] at H
         exact absurd H (by simp)
       rw [if_pos c37] at H
       have c37b0 : decide ((rd (rd_L11 l0_1 x11_2) x82_3) < (t129.length : Int)) = true := decide_eq_true c37
       clear c37
       by_cases c38 : (rd t129 (rd (rd_L11 l0_1 x11_2) x82_3)) = x12_2
       rotate_left
       · rw [if_neg c38] at H
         have c38b0 : ((rd t129 (rd (rd_L11 l0_1 x11_2) x82_3)) == x12_2) = false := beq_eq_false_iff_ne.mpr c38
         have c38b1 : ((rd t129 (rd (rd_L11 l0_1 x11_2) x82_3)) != x12_2) = true := bne_iff_ne.mpr c38
         have H' := aM H
         clear H
         have p136 : 0 <= (x82_3 : Int) := dt
         have q136 : x82_3 < ((rd_L11 l0_1 x11_2).length : Int) := dt
         obtain ⟨ad136, e136, hx136_0⟩ := Kd.at_int HR135_0.1 x82_3 p136 q136
         cases e136
         replace hx136_0 := hx HB hx136_0
         replace p136 := eq_true p136
         replace q136 := eq_true q136
         obtain ⟨Ao42, co42, eo42⟩ := R_slice HO_9.1
         subst eo42
         have p137 : 0 <= ((rd (rd_L11 l0_1 x11_2) x82_3) : Int) := dt
         have q137 : (rd (rd_L11 l0_1 x11_2) x82_3) < (t129.length : Int) := dt
         obtain ⟨ad137, e137, hx137_0⟩ := Kd.at_int (R_reads' HO_9.1).2.2 (rd (rd_L11 l0_1 x11_2) x82_3) p137 q137
         cases e137
         replace p137 := eq_true p137
         replace q137 := eq_true q137
         go_wp2
         go_roundg k3
         case measure => have := HK1.1; have := HK2.1; have := HK3.1; omega
         case rel => exact ⟨(x11_3), (wrap64 (x82_3 + 1)), rr, rr, H', ⟨by have := HK1.1; have := HK2.1; have := HK3.1; omega⟩, ⟨rk HO_9⟩, ⟨rk HO_10⟩, ⟨kk BK119⟩, ⟨hh HB⟩⟩
       rw [if_pos c38] at H
       have c38b0 : ((rd t129 (rd (rd_L11 l0_1 x11_2) x82_3)) == x12_2) = true := beq_iff_eq.mpr c38
       have c38b1 : ((rd t129 (rd (rd_L11 l0_1 x11_2) x82_3)) != x12_2) = false := bne_eq_false_iff_eq.mpr c38
       clear c38
       by_cases c39 : x10_2.length < 17592186044416
       rotate_left
       · rw [if_neg c39] at H
         exact absurd H (by simp)
       rw [if_pos c39] at H
       have LMc39 := aM c39
       clear c39
       obtain ⟨y138, hy138⟩ : ∃ y_ : List Int, y_ = (x10_2 ++ [rd (rd_L11 l0_1 x11_2) x82_3]) := ⟨_, rfl⟩
       replace H : (p_cycle.l2 k3 t129 y138 (rd (rd_L11 l0_1 x11_2) x82_3) (wrap64 (x12_2 - 1)) l0_0 l0_1) = some r := by first | (rw [hy138]; with_reducible exact H) | (have H2_ := (Option.bind_some _ _).symm.trans H; rw [hy138]; with_reducible exact H2_) | (have H2_ := (Option.bind_some _ _).symm.trans H; with_reducible exact H2_) | with_reducible exact H | (rw [hy138]; exact H) | exact H
       have Ny138 := aM hy138
       clear hy138
       have H' := aM H
       clear H
       have p136 : 0 <= (x82_3 : Int) := dt
       have q136 : x82_3 < ((rd_L11 l0_1 x11_2).length : Int) := dt
       obtain ⟨ad136, e136, hx136_0⟩ := Kd.at_int HR135_0.1 x82_3 p136 q136
       cases e136
       replace hx136_0 := hx HB hx136_0
       replace p136 := eq_true p136
       replace q136 := eq_true q136
       obtain ⟨Ao40, co40, eo40⟩ := R_slice HO_9.1
       subst eo40
       have p137 : 0 <= ((rd (rd_L11 l0_1 x11_2) x82_3) : Int) := dt
       have q137 : (rd (rd_L11 l0_1 x11_2) x82_3) < (t129.length : Int) := dt
       obtain ⟨ad137, e137, hx137_0⟩ := Kd.at_int (R_reads' HO_9.1).2.2 (rd (rd_L11 l0_1 x11_2) x82_3) p137 q137
       cases e137
       replace p137 := eq_true p137
       replace q137 := eq_true q137
       go_wp2_with (first | ((with_reducible refine gate_builtin (b := .append) (xs := #[.tmp 94, .tmp 96]) rfl ?_); at_builtin; refine R_append (Kd.int .i64) (w0 := w) w.heap.size rfl (.tmp 94) (.tmp 96) 55 3 (.int .i64 0) 8 rfl Try.underlying55 info3 rfl (by decide) (by omega) u10 x10_2 (rd (rd_L11 l0_1 x11_2) x82_3) [.int .i64 (rd (rd_L11 l0_1 x11_2) x82_3)] (fun k_ => some k_ ≠ (.slice (some ad137) t129.length co40 : Value).ownBlock) (fun _ => False) rfl rfl ?aP (fun _ hk => hk.elim) ?aF ?aO ?aB ?aS ?aL ?_; (case aP => exact rfl); (case aB => exact (hh HB)); (case aF => exact (fun k_ hk => Kd.fresh' (R_lt (rk HO_9)) k_ hk)); (case aO => exact (rk HO_10)); (case aS => exact (below_size (hh HB))); (case aL => have := LMc39.1; omega); intro v139 w41 ho hb hg hat; rw [<- Ny138.1] at ho; have HO140 := aM (ho); replace HO_9 := aM (R_after (ok := (fun _ => True)) (rz (R_mono HO_9.1 (fun _ hk => ⟨trivial, hk⟩))) hg hat); replace BK119 := aM (blk_grown (g := gb119) (o := .cells #[.slice A0_0 l0_0.length c0_0, .slice (some ad135) l0_1.length c0_1] 51 (0, 0)) (kk BK119) hg (R_ne HO_10.1 BK119.1 (by decide))); replace HB := aM (hb); clear HO_10; clear ho hb hg hat))
       go_roundg k3
       case measure => have := HK1.1; have := HK2.1; have := HK3.1; omega
       case rel => exact ⟨(y138), (rd (rd_L11 l0_1 x11_2) x82_3), (wrap64 (x12_2 - 1)), rr, rr, H', ⟨by have := HK1.1; have := HK2.1; have := HK3.1; omega⟩, ⟨rz (R_mono HO_9.1 (fun _ hk => hk.2))⟩, ⟨rk HO140⟩, ⟨kk BK119⟩, ⟨hh HB⟩⟩
noncomputable def p_named.l0 : Nat -> List ByteArray -> List Int -> Int -> Int -> List ByteArray -> List (List Int) -> Option (List ByteArray)
 | 0, _, _, _, _, _, _ => none
 | k + 1, x5, x8, x9, x10, x172000, x172001 => if x10 < x9 then (if 0 <= x10 then (if x10 < (x8.length : Int) then (if 0 <= (rd x8 x10) then (if (rd x8 x10) < (x172000.length : Int) then (if x5.length < 8796093022208 then (p_named.l0 k (x5 ++ [rdOf ByteArray.empty x172000 (rd x8 x10)]) x8 x9 (wrap64 (x10 + 1)) x172000 x172001) else (none)) else (none)) else (none)) else (none)) else (none)) else (some x5)
noncomputable def p_named.f (k : Nat) (l0_0 : List ByteArray) (l0_1 : List (List Int)) (l1 : List Int) : Option (List ByteArray) := p_named.l0 k ([] : List ByteArray) l1 (l1.length : Int) 0 l0_0 l0_1
theorem p_named.calls (k : Nat) (A0_0 : Option Addr) (c0_0 : Nat) (l0_0 : List ByteArray) (A0_1 : Option Addr) (c0_1 : Nat) (l0_1 : List (List Int)) (A1 : Option Addr) (c1 : Nat) (l1 : List Int) (r : List ByteArray) (w : World) (hr0_0 : Kd.C Kd.string w A0_0 l0_0.length l0_0) (hc0_0 : l0_0.length <= c0_0) (hr0_1 : Kd.C (Kd.slice 3 (Kd.int .i64)) w A0_1 l0_1.length l0_1) (hc0_1 : l0_1.length <= c0_1) (hr1 : Kd.C (Kd.int .i64) w A1 l1.length l1) (hc1 : l1.length <= c1) (h : p_named.f k l0_0 l0_1 l1 = some r) :
 Calls Try.prog 26 #[.agg #[.slice A0_0 l0_0.length c0_0, .slice A0_1 l0_1.length c0_1], .slice A1 l1.length c1] w fun e w' => ∃ v0_ : Value, e = .returned (v0_) /\ Kd.R Kd.string 9 w' w.heap.size (fun _ => True) v0_ r /\ Below w.heap.size w w' := by
 have hu51 := Try.underlying51
 have HR0_0 := aM hr0_0
 have HC0_0 := aM hc0_0
 clear hr0_0 hc0_0
 have HR0_1 := aM hr0_1
 have HC0_1 := aM hc0_1
 clear hr0_1 hc0_1
 have HR1 := aM hr1
 have HC1 := aM hc1
 clear hr1 hc1
 have HB := aM (Below.refl w.heap.size w)
 have H : (p_named.l0 k ([] : List ByteArray) l1 (l1.length : Int) 0 l0_0 l0_1) = some r := h
 clear h
 have H' := aM H
 clear H
 go_enter Try.func26, Try.ntmps26
 go_wp2_with (first | ((with_reducible refine gate_dst (N := 2) rfl ?_); refine be 2 rfl rfl #[.slice A0_0 l0_0.length c0_0, .slice A0_1 l0_1.length c0_1] 51 ?_; intro gb171 hg w3 hbox hb; have BK171 := aM hbox; have GE171 := gs hg HB; replace HB := bs HB hb; clear hb hbox hg))
 go_loopg [5, 10] k (fun kq v5 v10 w' => ∃ (x5_1 : List ByteArray) (x10_1 : Int), v10 = .int .i64 x10_1 /\ Az (p_named.l0 kq x5_1 l1 (l1.length : Int) x10_1 l0_0 l0_1 = some r) /\ Az (kq <= k) /\ Az (Kd.R Kd.string 9 w' w.heap.size (fun _ => True) v5 x5_1) /\ Az (w'.heap[gb171]? = some (.cells #[(.slice A0_0 l0_0.length c0_0), (.slice A0_1 l0_1.length c0_1)] 51 (0, 0))) /\ Az (Below w.heap.size w w'))
 case atStart => exact ⟨(([] : List ByteArray)), (0), rr, H', ⟨Nat.le_refl _⟩, ⟨by first | exact R_nil _ _ _ _ _ | exact N_nil _ _ _ _ _ | exact V_nil _ _ _ _ _ | exact Q_nil _ _ _ _ _ | exact S_nil _ _ _ _ _⟩, ⟨kk BK171⟩, ⟨hh HB⟩⟩
 case round =>
  clear H'
  obtain ⟨x5_1, x10_1, rfl, HA, HK1, HO_5, BK171, HB⟩ := hrel
  cases gk with
  | zero => exact absurd HA.1 (by simp [p_named.l0])
  | succ k1 =>
   have H := HA.1
   clear HA
   simp only [p_named.l0] at H
   by_cases c4 : x10_1 < (l1.length : Int)
   rotate_left
   · rw [if_neg c4] at H
     have c4b0 : decide (x10_1 < (l1.length : Int)) = false := decide_eq_false c4
     clear c4
     obtain rfl := Option.some.inj H
     go_wp2
     go_ret
     exact ⟨_, by first | rfl | (simp [errW_none, errW_some] <;> rfl) | (simp [*, errW_none, errW_some] <;> rfl), rk HO_5, hh HB⟩
   rw [if_pos c4] at H
   have c4b0 : decide (x10_1 < (l1.length : Int)) = true := decide_eq_true c4
   clear c4
   by_cases c5 : 0 <= x10_1
   rotate_left
   · rw [if_neg c5] at H
     exact absurd H (by simp)
   rw [if_pos c5] at H
   have c5b0 : decide (0 <= x10_1) = true := decide_eq_true c5
   clear c5
   by_cases c6 : x10_1 < (l1.length : Int)
   rotate_left
   · rw [if_neg c6] at H
     exact absurd H (by simp)
   rw [if_pos c6] at H
   have c6b0 : decide (x10_1 < (l1.length : Int)) = true := decide_eq_true c6
   clear c6
   by_cases c7 : 0 <= (rd l1 x10_1)
   rotate_left
   · rw [if_neg c7] at H
     exact absurd H (by simp)
   rw [if_pos c7] at H
   have c7b0 : decide (0 <= (rd l1 x10_1)) = true := decide_eq_true c7
   clear c7
   by_cases c8 : (rd l1 x10_1) < (l0_0.length : Int)
   rotate_left
   · rw [if_neg c8] at H
     exact absurd H (by simp)
   rw [if_pos c8] at H
   have c8b0 : decide ((rd l1 x10_1) < (l0_0.length : Int)) = true := decide_eq_true c8
   clear c8
   by_cases c9 : x5_1.length < 8796093022208
   rotate_left
   · rw [if_neg c9] at H
     exact absurd H (by simp)
   rw [if_pos c9] at H
   have LMc9 := aM c9
   clear c9
   obtain ⟨y174, hy174⟩ : ∃ y_ : List ByteArray, y_ = (x5_1 ++ [rdOf ByteArray.empty l0_0 (rd l1 x10_1)]) := ⟨_, rfl⟩
   replace H : (p_named.l0 k1 y174 l1 (l1.length : Int) (wrap64 (x10_1 + 1)) l0_0 l0_1) = some r := by first | (rw [hy174]; with_reducible exact H) | (have H2_ := (Option.bind_some _ _).symm.trans H; rw [hy174]; with_reducible exact H2_) | (have H2_ := (Option.bind_some _ _).symm.trans H; with_reducible exact H2_) | with_reducible exact H | (rw [hy174]; exact H) | exact H
   have Ny174 := aM hy174
   clear hy174
   have H' := aM H
   clear H
   have p172 : 0 <= (x10_1 : Int) := dt
   have q172 : x10_1 < (l1.length : Int) := dt
   obtain ⟨ad172, e172, hx172_0⟩ := Kd.at_int HR1.1 x10_1 p172 q172
   cases e172
   replace hx172_0 := hx HB hx172_0
   replace p172 := eq_true p172
   replace q172 := eq_true q172
   obtain ⟨hcz10_0, hcz10_1⟩ := cz2 BK171
   obtain ⟨hfz10_0, hfz10_1⟩ := fz2 BK171
   have p173 : 0 <= ((rd l1 x10_1) : Int) := dt
   have q173 : (rd l1 x10_1) < (l0_0.length : Int) := dt
   obtain ⟨ad173, e173, hx173_0⟩ := Kd.at_string HR0_0.1 (rd l1 x10_1) p173 q173
   cases e173
   replace hx173_0 := hx HB hx173_0
   replace p173 := eq_true p173
   replace q173 := eq_true q173
   go_wp2_with (first | ((with_reducible refine gate_builtin (b := .append) (xs := #[.tmp 14, .tmp 20]) rfl ?_); at_builtin; refine R_append Kd.string (w0 := w) w.heap.size rfl (.tmp 14) (.tmp 20) 25 9 (.string ⟨#[]⟩) 16 rfl Try.underlying25 info9 rfl (by decide) (by omega) u5 x5_1 (rdOf ByteArray.empty l0_0 (rd l1 x10_1)) [.string (rdOf ByteArray.empty l0_0 (rd l1 x10_1))] (fun _ => True) (fun _ => False) rfl rfl ?aP (fun _ hk => hk.elim) ?aF ?aO ?aB ?aS ?aL ?_; (case aP => exact rfl); (case aB => exact (hh HB)); (case aF => exact (fun _ _ => trivial)); (case aO => exact (rk HO_5)); (case aS => exact (below_size (hh HB))); (case aL => have := LMc9.1; omega); intro v175 w11 ho hb hg hat; rw [<- Ny174.1] at ho; have HO176 := aM (ho); replace BK171 := aM (blk_grown (g := gb171) (o := .cells #[.slice (some ad173) l0_0.length c0_0, .slice A0_1 l0_1.length c0_1] 51 (0, 0)) (kk BK171) hg (R_ne HO_5.1 BK171.1 (by decide))); replace HB := aM (hb); clear HO_5; clear ho hb hg hat))
   go_roundg k1
   case measure => have := HK1.1; omega
   case rel => exact ⟨(y174), (wrap64 (x10_1 + 1)), rr, H', ⟨by have := HK1.1; omega⟩, ⟨rk HO176⟩, ⟨kk BK171⟩, ⟨hh HB⟩⟩
end Go.Proofs.Ytmadhaccjmakdaa.P
namespace Go.Proofs
open Go.Shelf
def Try.sortS_ren : Go.Shelf.Ren := ⟨fun | 6 => 60 | 15 => 67 | 14 => 66 | 28 => 77 | 29 => 78 | 20 => 69 | 21 => 70 | 22 => 71 | 23 => 72 | 24 => 73 | 25 => 74 | 26 => 75 | 27 => 76 | 46 => 80 | 47 => 81 | 48 => 82 | 49 => 83 | 50 => 84 | 57 => 85 | n => n, fun | 22 => 25 | 24 => 9 | 25 => 79 | 3 => 3 | 39 => 90 | 0 => 0 | 53 => 109 | 55 => 111 | 4 => 4 | 46 => 103 | 45 => 102 | 50 => 70 | 5 => 5 | 9 => 9 | 66 => 113 | 70 => 117 | 76 => 119 | 77 => 120 | n => n, fun | n => n⟩
theorem Try.sortS : Go.Proofs.SlLaysF.n6 Try.prog Try.sortS_ren := {
 mixed := by kernel_rfl
 f6 := ⟨Try.f60.name, by decide, Try.func60.trans (congrArg some (by kernel_rfl))⟩
 f14 := ⟨Try.f66.name, by decide, Try.func66.trans (congrArg some (by kernel_rfl))⟩
 f15 := Try.func67.trans (congrArg some (by kernel_rfl))
 f20 := ⟨Try.f69.name, by decide, Try.func69.trans (congrArg some (by kernel_rfl))⟩
 f21 := ⟨Try.f70.name, by decide, Try.func70.trans (congrArg some (by kernel_rfl))⟩
 f22 := ⟨Try.f71.name, by decide, Try.func71.trans (congrArg some (by kernel_rfl))⟩
 f23 := ⟨Try.f72.name, by decide, Try.func72.trans (congrArg some (by kernel_rfl))⟩
 f24 := ⟨Try.f73.name, by decide, Try.func73.trans (congrArg some (by kernel_rfl))⟩
 f25 := ⟨Try.f74.name, by decide, Try.func74.trans (congrArg some (by kernel_rfl))⟩
 f26 := ⟨Try.f75.name, by decide, Try.func75.trans (congrArg some (by kernel_rfl))⟩
 f27 := ⟨Try.f76.name, by decide, Try.func76.trans (congrArg some (by kernel_rfl))⟩
 f28 := Try.func77.trans (congrArg some (by kernel_rfl))
 f29 := Try.func78.trans (congrArg some (by kernel_rfl))
 f46 := ⟨Try.f80.name, by decide, Try.func80.trans (congrArg some (by kernel_rfl))⟩
 f47 := Try.func81.trans (congrArg some (by kernel_rfl))
 f48 := Try.func82.trans (congrArg some (by kernel_rfl))
 f49 := ⟨Try.f83.name, by decide, Try.func83.trans (congrArg some (by kernel_rfl))⟩
 f50 := ⟨Try.f84.name, by decide, Try.func84.trans (congrArg some (by kernel_rfl))⟩
 f57 := ⟨Try.f85.name, by decide, Try.func85.trans (congrArg some (by kernel_rfl))⟩
 t0 := Try.underlying0
 a0 := Try.isAgg0
 z0 := Try.sizeOf0
 v0 := Try.zeroValue0
 t3 := Try.underlying3
 a3 := Try.isAgg3
 z3 := Try.sizeOf3
 v3 := Try.zeroValue3
 t4 := Try.underlying4
 a4 := Try.isAgg4
 z4 := Try.sizeOf4
 v4 := Try.zeroValue4
 t5 := Try.underlying5
 a5 := Try.isAgg5
 z5 := Try.sizeOf5
 v5 := Try.zeroValue5
 t9 := Try.underlying9
 a9 := Try.isAgg9
 z9 := Try.sizeOf9
 v9 := Try.zeroValue9
 t22 := Try.underlying25
 a22 := Try.isAgg25
 z22 := Try.sizeOf25
 v22 := Try.zeroValue25
 a24 := Try.isAgg9
 z24 := Try.sizeOf9
 t25 := Try.underlying79
 a25 := Try.isAgg79
 z25 := Try.sizeOf79
 v25 := Try.zeroValue79
 t39 := Try.underlying90
 a39 := Try.isAgg90
 z39 := Try.sizeOf90
 v39 := Try.zeroValue90
 t45 := Try.underlying102
 a45 := Try.isAgg102
 z45 := Try.sizeOf102
 v45 := Try.zeroValue102
 t46 := Try.underlying103
 a46 := Try.isAgg103
 z46 := Try.sizeOf103
 v46 := Try.zeroValue103
 t50 := Try.underlying70
 a50 := Try.isAgg70
 z50 := Try.sizeOf70
 v50 := Try.zeroValue70
 t53 := Try.underlying109
 a53 := Try.isAgg109
 z53 := Try.sizeOf109
 v53 := Try.zeroValue109
 t55 := Try.underlying111
 a55 := Try.isAgg111
 z55 := Try.sizeOf111
 v55 := Try.zeroValue111
 t66 := Try.underlying113
 a66 := Try.isAgg113
 z66 := Try.sizeOf113
 v66 := Try.zeroValue113
 t70 := Try.underlying117
 a70 := Try.isAgg117
 z70 := Try.sizeOf117
 v70 := Try.zeroValue117
 t76 := Try.underlying119
 a76 := Try.isAgg119
 z76 := Try.sizeOf119
 v76 := Try.zeroValue119
 t77 := Try.underlying120
 a77 := Try.isAgg120
 z77 := Try.sizeOf120
 v77 := Try.zeroValue120 }
end Go.Proofs
namespace Go.Proofs.Ytmadhaccjmakdaa
open Go.RowKit Go.Maps Go.Sort Go.Proofs.Yw.A Go.Proofs.Yw.B Go.Proofs.Yw.C
attribute [local go_sem] max2_int min2_int max_two min_two max_three min_three max_four min_four
open P
namespace Mg
theorem keys9 : Maps.Keyed Try.prog 9 := Maps.string_keyed Try.underlying9
theorem zero4 (w : World) : (zeroValue 4).run Try.prog w = .ok (.bool false) w := by kernel_rfl
theorem key9 {x : ByteArray} (hx : x.size <= maxLen) : keyOf Try.prog 9 (.string x) = some (.string x.data.toList) := WideMaps.keyOf_string_mk Try.underlying9 hx
def SetAt (w : World) (b c : Nat) (S : List (List UInt8)) : Prop := ∃ (n : Nat) (D : DataW Unit), w.ownsMap Try.prog 9 (plainElem Try.prog 4) b n D /\ n <= c /\ Maps.IsMap D /\
 (∀ x : ByteArray, x.size <= maxLen -> D.atKey (.string x.data.toList) (.lit (.bool false)) = .lit (.bool (S.contains x.data.toList))) /\
 (∀ x : List UInt8, Maps.has D (.string x) = S.contains x) /\ Maps.size D <= c
theorem SetAt.made (w : World) : SetAt (w.alloc (.map #[] 0)) w.heap.size 0 [] :=
 ⟨0, .map [], World.ownsMap_made _ _ _ _, Nat.le_refl _, Maps.isMap_empty, fun x _ => by simp [DataW.atKey], fun x => by simp [Maps.has], by simp [Maps.size]⟩
theorem SetAt.kept {w w' : World} {b c : Nat} {S : List (List UInt8)} {row : Option Nat} (h : SetAt w b c S) (hg : w.grownBy w' row) (hne : some b ≠ row) : SetAt w' b c S := by
 obtain ⟨n, D, h1, h2⟩ := h
 exact ⟨n, D, h1.kept hg hne, h2⟩
theorem SetAt.below {w w' : World} {b c : Nat} {S : List (List UInt8)} (h : SetAt w b c S) (hb : Below w.heap.size w w') : SetAt w' b c S :=
 h.kept (grown_of_below hb none) (by simp)
theorem SetAt.lt {w : World} {b c : Nat} {S : List (List UInt8)} (h : SetAt w b c S) : b < w.heap.size := by
 obtain ⟨n, D, h1, h2⟩ := h
 exact h1.lt
theorem SetAt.look {w : World} {b c : Nat} {S : List (List UInt8)} (h : SetAt w b c S) (x : ByteArray) (hx : x.size <= maxLen) : (Instr.lookup 76 (.map (some b)) (.string x) false).run Try.prog w = .ok (.bool (S.contains x.data.toList)) w := by
 obtain ⟨n, D, h1, h2, _, h3, _⟩ := h
 obtain ⟨v, ps, hrun, hv⟩ := h1.lookup keys9 Try.underlying76 (zero4 w) (plainElem_bool Try.underlying4 false) (key9 hx)
 rw [h3 x hx] at hv
 rw [hrun]
 unfold plainElem at hv
 rw [Try.underlying4] at hv
 cases v <;> simp at hv
 obtain ⟨rfl, _⟩ := hv
 simp
theorem SetAt.put {w : World} {b c : Nat} {S : List (List UInt8)} (h : SetAt w b c S) (hn : c < maxLen) (x : ByteArray) (hx : x.size <= maxLen) :
 ∃ w', (Instr.mapUpdate 76 (.map (some b)) (.string x) (.bool true)).run Try.prog w = .ok () w' /\ SetAt w' b (c + 1) (S ++ [x.data.toList]) /\ w.grownBy w' (some b) := by
 obtain ⟨n, D, h1, h2, hm, h3, h4, h5⟩ := h
 obtain ⟨w', hrun, h6, hg⟩ := h1.update keys9 Try.underlying76 (Nat.lt_of_le_of_lt h2 hn) (key9 hx) (plainElem_bool Try.underlying4 true)
 refine ⟨w', hrun, ⟨n + 1, _, h6, Nat.succ_le_succ h2, hm.put _ _, fun y hy => ?_, fun y => ?_, ?_⟩, hg⟩
 · by_cases hyx : y.data.toList = x.data.toList
   · rw [hyx, Maps.atKey_put_same hm (by simp [WideAt.IsKeyLit])]
     simp
   · rw [Maps.atKey_put_other (by intro e; injection e with e; exact hyx e), h3 y hy]
     simp [hyx]
 · by_cases hyx : y = x.data.toList
   · rw [hyx, Maps.has_put_same hm (by simp [WideAt.IsKeyLit])]
     simp
   · rw [Maps.has_put_other (by intro e; injection e with e; exact hyx e), h4 y]
     simp [hyx]
 · rw [Maps.size_put (h1.tidy keys9)]
   split <;> omega
def cfN (x y : List UInt8) : Int := if x < y then -1 else if y < x then 1 else 0
theorem ltN (x y : List UInt8) : ltOf cfN x y = decide (x < y) := by
 unfold ltOf cfN
 by_cases h : x < y
 · simp [h]
 by_cases h2 : y < x <;> simp [h, h2]
theorem swoN : SWO (ltOf cfN) where
 irrefl x := by rw [ltN]; simp
 trans x y z h1 h2 := by rw [ltN] at *; simp at *; exact List.lt_trans h1 h2
 ntrans x y z h1 h2 := by
  rw [ltN] at *
  simp at *
  exact List.le_trans h2 h1
theorem totN (x y : List UInt8) (h1 : ltOf cfN x y = false) (h2 : ltOf cfN y x = false) : x = y := by
 rw [ltN] at *
 simp at *
 exact List.le_antisymm h2 h1
theorem geN : (fun x y : List UInt8 => !ltOf cfN y x) = leB := by
 funext x y
 rw [ltN]
 unfold leB
 by_cases h : y < x
 rotate_left
 · have h' : x <= y := List.not_lt.1 h
   simp [h, h']
 have h' : ¬ x <= y := fun e => List.not_lt.2 e h
 simp [h, h']
theorem toL (s : ByteArray) : s.toList = s.data.toList := ByteArray.toList_eq s
theorem closure47 (x y : List UInt8) (W : World) : Calls Try.prog 47 #[encStr x, encStr y] W fun e w' => e = .returned (.int .i64 (cfN x y)) /\ ∃ q, w' = W.drewN q := by
 refine (m_byName.calls ⟨x.toArray⟩ ⟨y.toArray⟩ (cfN x y) W ?_).mono fun e w' ⟨he, hd⟩ => ⟨he, hd.1⟩
 unfold m_byName.f cfN
 rw [toL, toL, bytesLess_eq, bytesLess_eq]
 simp only [List.toList_toArray, decide_eq_true_eq]
 split
 · rfl
 · split <;> rfl
theorem cmp47 (blk off size : Nat) (w : World) : CmpReads Try.prog 47 #[] encStr cfN blk off size w := fun _ _ _ _ x y => closure47 x y _
structure Bx where
 b : Bool
theorem boolElem_inv {v : Value} {y : DataW Unit × List MemPlace} (h : plainElem Try.prog 4 v = some y) : ∃ c : Bx, v = .bool c.b := by
 unfold plainElem at h
 rw [Try.underlying4] at h
 cases v <;> simp at h
 exact ⟨⟨_⟩, rfl⟩
theorem sort_calls (w : World) (g cap : Nat) (ss : List (List UInt8)) (hH : Holds encStr w g 0 ss.toArray) (hg : g < w.heap.size) (hl : ss.length < 4611686018427387904) :
 Calls Try.prog 60 #[.slice (some ⟨g, 0, none⟩) ss.length cap, .func (.func 47) #[] #[]] w fun e w' => e = .returned (.tuple #[]) /\ ∃ n os, w' = grow (putRow encStr (Sort.ahead w n) g 0 (ss.mergeSort leB).toArray) os := by
 have eg : ∀ args w, (callFunc 47 args).run Try.prog w = .ok (.enter 47 args) w := enters_of Try.func47 (by kernel_rfl) rfl
 have hS := Any.slices_SortFunc_total Try.sortS encStr (fun _ => rfl) cfN swoN 47 #[] g 0 cap ss.toArray w eg (cmp47 g 0 ss.toArray.size w).lays hH hg (by simpa using hl) totN
 rw [geN] at hS
 simp only [List.size_toArray] at hS
 exact hS
theorem sort_none (w : World) (p : Option Addr) (cap : Nat) : Calls Try.prog 60 #[.slice p 0 cap, .func (.func 47) #[] #[]] w fun e w' => e = .returned (.tuple #[]) /\ w' = w :=
 AnyF.slices_SortFunc_none (P := Try.prog) (ρ := Try.sortS_ren) { Try.sortS with } p cap (.func (.func 47) #[] #[]) w
structure Elems (S ss : List (List UInt8)) : Prop where
 nodup : ss.Nodup
 mem : ∀ x, x ∈ ss ↔ S.contains x = true
theorem sorted_calls (w : World) {b c : Nat} {S : List (List UInt8)} (h : SetAt w b c S) (hc : c <= 100000000) :
 Calls Try.prog 46 #[.map (some b), .func (.func 47) #[] #[]] w fun e w' => ∃ v ss, e = .returned v /\ Elems S ss /\ ss.length <= c /\ (∀ x ∈ ss, x.length <= maxLen) /\
  w'.ownsRow w.heap.size 9 1 v ss.length ((ss.mergeSort leB).map encStr) /\ Below w.heap.size w w' := by
 obtain ⟨n, D0, hown, h2, hm, h3, h4, h5⟩ := h
 obtain ⟨i0, hi, hz0, hz1, hz2⟩ := info_parts info9
 have hbl := hown.lt
 have hkl := strKeys_le hown Try.underlying9
 clear h3 hm h2
 go_enter Try.func46, Try.ntmps46
 go_wp2_with (first
  | (at_range; refine wpList_range_own _ rfl _ 76 rfl 9 4 keys9 Try.underlying76 _ b n _ rfl hown ?_; intro w0 hrg0 hg0 hs0)
  | go_in)
 go_frame
 go_loopw [5] (fun v wr => ∃ (left : Lit -> Bool) (cnt : Nat) (ss : List (List UInt8)), wr.ranges Try.prog 9 (plainElem Try.prog 4) b w.heap.size n D0 left cnt /\ ss.length + cnt <= Maps.size D0 /\
  wr.ownsRow w.heap.size 9 1 v ss.length (ss.map encStr) /\ Collected D0 left ss /\ Below w.heap.size w wr)
  (fun _ wr => wr.rangeLeft b w.heap.size)
 case atStart => exact ⟨_, _, [], hrg0, by simp, own_nil _ _ _ _, Collected.start D0, (Below.refl _ _).grown hg0 (Nat.le_refl _) (fun j hj => by cases hj)⟩
 case round =>
  obtain ⟨left, cnt, ss, hrg, hcs, hrow, hC, hnx⟩ := hrel
  go_wp2_with (first
   | (at_next; refine wpList_next_ranges _ rfl _ rfl 9 keys9 (plainElem Try.prog 4) encStr (fun x : Bx => Value.bool x.b) (fun key kl hk => by obtain ⟨x, hx, _⟩ := Maps.keyOf_str Try.underlying9 hk; exact ⟨x, hx⟩) (fun v y hv => boolElem_inv hv) b w.heap.size n _ _ _ rfl hrg ?_ ?_)
   | go_in)
  · intro hc0 hl0
    have hE : Elems S ss := ⟨hC.1, fun x => by rw [hC.2 x, hl0, h4]; simp⟩
    have hpm := hC.perm hown keys9 Try.underlying9 hl0
    have hle : ∀ x ∈ ss, x.length <= maxLen := fun x hx => hkl x (hpm.mem_iff.1 hx)
    have hsc : ss.length <= c := by omega
    have HE := Az.mk hE
    have HLE := Az.mk hle
    have HSC := Az.mk hsc
    have HNX := Az.mk hnx
    rcases hrow.2 with ⟨rfl, hn0⟩ | ⟨g, cap, cur, rfl, hbase, hb, h1, h6, h7, h8⟩
    · have hss : ss = [] := List.eq_nil_of_length_eq_zero hn0
      subst hss
      clear hrow hC hE hpm hle hsc hnx hcs hrg
      go_wp2_with (first | (go_at_call 60; refine (sort_none _ none 0).mono ?_; rintro e w' ⟨rfl, rfl⟩))
      go_ret
      exact ⟨.slice none 0 0, [], rfl, HE.1, HSC.1, HLE.1, by simpa using own_nil _ _ _ _, HNX.1⟩
    · have hH : Holds encStr wr g 0 ss.toArray := holds_of_block hb (by simpa using h8)
      have hgl : g < wr.heap.size := (Array.getElem?_eq_some_iff.1 hb).1
      have hcall := sort_calls wr g cap ss hH hgl (by omega)
      have HB := Az.mk hb
      have H1 := Az.mk (And.intro hbase (And.intro h1 (And.intro h6 h7)))
      clear hrow hC hE hpm hle hsc hnx hcs hrg hH hgl hb hbase h1 h6 h7 h8
      go_wp2_with (first | (go_at_call 60; refine hcall.mono ?_; rintro e w' ⟨rfl, nn, os, rfl⟩))
      go_ret
      exact ⟨_, ss, rfl, HE.1, HSC.1, HLE.1, ownsRow_sorted (by simp) H1.1.1 HB.1 H1.1.2.1 H1.1.2.2.1 H1.1.2.2.2, HNX.1.grown (grownBy_sorted _) HNX.1.size (fun j hj => by cases hj; exact H1.1.1)⟩
  · intro x c kl yd yp w2 cnt2 hkey hlk hv hat hrg2 hlt hg2 hs2 hen
    obtain ⟨x', ex, rfl, _⟩ := Maps.keyOf_str Try.underlying9 hkey
    obtain rfl : x = x' := encStr_inj ex
    have hrow2 := hrow.kept hg2 (Or.inr (row_ne_iter hrow hrg).symm)
    clear hs2
    go_wp2_with (first
     | (at_builtin; refine wpList_append_own _ rfl _ _ 25 rfl w.heap.size 9 i0 (.string ⟨#[]⟩) 1 16 Try.underlying25 hi hz0 hz1 hz2 rfl (by decide) _ _ _ rfl (hrow2.alloc _) ⟨w2.heap.size, 0, none⟩ 1 1 [encStr x] rfl rfl (cell_one_new _ _ _) (by simp [Value.oneCell', encStr]) (by unfold maxLen at *; omega) (by omega) (by have := hnx.size; have := hg2.size; simp; omega) ?_; intro v' w3 hown' hg3 hnil3; go_frame)
     | go_in)
    have hrg3 := (hrg2.alloc _).kept hg3 (row_ne_low hrow2 hbl) (row_ne_iter hrow2 hrg2)
    go_roundw
    case rel =>
     refine ⟨_, cnt2, ss ++ [x], hrg3, by simp; omega, by simpa using hown', hC.step hlk hat, ?_⟩
     exact ((hnx.grown hg2 hnx.size (fun j hj => by cases hj; exact Nat.le_refl _)).alloc (by have := hnx.size; have := hg2.size; omega) _).grown hg3 (by have := hnx.size; have := hg2.size; simp; omega) (fun j hj => (hrow2.lt j hj).1)
    case measure => rw [hrg3.left_eq, hrg.left_eq]; exact hlt
end Mg
end Go.Proofs.Ytmadhaccjmakdaa
namespace Go.Proofs
open Go.Shelf
def Try.lays21_ren : Go.Shelf.Ren := ⟨fun | 21 => 54 | 27 => 62 | 28 => 63 | 35 => 68 | 39 => 79 | n => n, fun | 22 => 55 | 3 => 3 | 4 => 4 | 0 => 0 | n => n, fun | n => n⟩
theorem Try.lays21 : Go.Proofs.Lays2.n21 Try.prog Try.lays21_ren := {
 mixed := by kernel_rfl
 f21 := Try.func54.trans (congrArg some (by kernel_rfl))
 f27 := Try.func62.trans (congrArg some (by kernel_rfl))
 f28 := Try.func63.trans (congrArg some (by kernel_rfl))
 f35 := Try.func68.trans (congrArg some (by kernel_rfl))
 f39 := Try.func79.trans (congrArg some (by kernel_rfl))
 t0 := Try.underlying0
 a0 := Try.isAgg0
 z0 := Try.sizeOf0
 v0 := Try.zeroValue0
 t3 := Try.underlying3
 a3 := Try.isAgg3
 z3 := Try.sizeOf3
 v3 := Try.zeroValue3
 t4 := Try.underlying4
 a4 := Try.isAgg4
 z4 := Try.sizeOf4
 v4 := Try.zeroValue4
 t22 := Try.underlying55
 a22 := Try.isAgg55
 z22 := Try.sizeOf55
 v22 := Try.zeroValue55
 i3 := by kernel_rfl }
def Try.lays26_ren : Go.Shelf.Ren := ⟨fun | 26 => 42 | 33 => 56 | 34 => 57 | 38 => 64 | n => n, fun | 24 => 25 | 9 => 9 | 3 => 3 | 4 => 4 | 40 => 90 | 0 => 0 | n => n, fun | n => n⟩
theorem Try.lays26 : Go.Proofs.Lays2.n26 Try.prog Try.lays26_ren := {
 mixed := by kernel_rfl
 f26 := Try.func42.trans (congrArg some (by kernel_rfl))
 f33 := Try.func56.trans (congrArg some (by kernel_rfl))
 f34 := Try.func57.trans (congrArg some (by kernel_rfl))
 f38 := Try.func64.trans (congrArg some (by kernel_rfl))
 t0 := Try.underlying0
 a0 := Try.isAgg0
 z0 := Try.sizeOf0
 v0 := Try.zeroValue0
 t3 := Try.underlying3
 a3 := Try.isAgg3
 z3 := Try.sizeOf3
 v3 := Try.zeroValue3
 t4 := Try.underlying4
 a4 := Try.isAgg4
 z4 := Try.sizeOf4
 v4 := Try.zeroValue4
 t9 := Try.underlying9
 a9 := Try.isAgg9
 z9 := Try.sizeOf9
 v9 := Try.zeroValue9
 t24 := Try.underlying25
 a24 := Try.isAgg25
 z24 := Try.sizeOf25
 v24 := Try.zeroValue25
 t40 := Try.underlying90
 a40 := Try.isAgg90
 z40 := Try.sizeOf90
 v40 := Try.zeroValue90 }
def Try.delS_ren : Go.Shelf.Ren := ⟨fun | 10 => 44 | 6 => 59 | n => n, fun | 22 => 25 | 23 => 9 | 25 => 74 | 3 => 3 | 4 => 4 | 0 => 0 | n => n, fun | n => n⟩
theorem Try.delS : Go.Proofs.SlLaysH.n10 Try.prog Try.delS_ren := {
 mixed := by kernel_rfl
 f6 := ⟨Try.f59.name, by decide, Try.func59.trans (congrArg some (by kernel_rfl))⟩
 f10 := ⟨Try.f44.name, by decide, Try.func44.trans (congrArg some (by kernel_rfl))⟩
 t0 := Try.underlying0
 a0 := Try.isAgg0
 z0 := Try.sizeOf0
 v0 := Try.zeroValue0
 t3 := Try.underlying3
 a3 := Try.isAgg3
 z3 := Try.sizeOf3
 v3 := Try.zeroValue3
 t4 := Try.underlying4
 a4 := Try.isAgg4
 z4 := Try.sizeOf4
 v4 := Try.zeroValue4
 t22 := Try.underlying25
 a22 := Try.isAgg25
 z22 := Try.sizeOf25
 v22 := Try.zeroValue25
 a23 := Try.isAgg9
 z23 := Try.sizeOf9
 t25 := Try.underlying74
 a25 := Try.isAgg74
 z25 := Try.sizeOf74
 v25 := Try.zeroValue74 }
end Go.Proofs
namespace Go.Proofs.Ytmadhaccjmakdaa
open Go.RowKit Go.Maps Go.Sort Go.Proofs.Yw.A Go.Proofs.Yw.B Go.Proofs.Yw.C
attribute [local go_sem] max2_int min2_int max_two min_two max_three min_three max_four min_four
open P
namespace Mg
abbrev nm (m : S42) : List UInt8 := m.f0.data.toList
abbrev im (i : S66) : List UInt8 := i.f0.data.toList
def twice : List S42 -> List (List UInt8) -> Option ByteArray
 | [], _ => none
 | m :: l, seen => if seen.contains (nm m) then some m.f0 else twice l (seen ++ [nm m])
def missI (K : List (List UInt8)) : List S66 -> Option ByteArray
 | [] => none
 | i :: l => if K.contains (im i) then missI K l else some i.f0
def miss (K : List (List UInt8)) : List S42 -> Option ByteArray
 | [] => none
 | m :: l => match missI K m.f3 with
  | some x => some x
  | none => miss K l
theorem drop_rd (l : List S42) (x : Int) (h0 : 0 <= x) (h1 : x < l.length) : l.drop x.toNat = rd_T42 l x :: l.drop (x.toNat + 1) := by
 have hi : x.toNat < l.length := by omega
 rw [List.drop_eq_getElem_cons hi]
 simp [rd_T42, List.getD_eq_getElem?_getD, List.getElem?_eq_getElem hi]
theorem take_rd (l : List S42) (x : Int) (h0 : 0 <= x) (h1 : x < l.length) : l.take (x.toNat + 1) = l.take x.toNat ++ [rd_T42 l x] := by
 have hi : x.toNat < l.length := by omega
 rw [List.take_add_one, List.getElem?_eq_getElem hi]
 simp [rd_T42, List.getD_eq_getElem?_getD, List.getElem?_eq_getElem hi]
theorem twice_none : ∀ (l : List S42) (seen : List (List UInt8)), seen.Nodup -> twice l seen = none -> (seen ++ l.map nm).Nodup := by
 intro l
 induction l with
 | nil => intro seen hs _; simpa using hs
 | cons m l ih =>
  intro seen hs h
  unfold twice at h
  by_cases hc : seen.contains (nm m) = true
  · rw [if_pos hc] at h; cases h
  rw [if_neg hc] at h
  have hm : nm m ∉ seen := fun e => hc (List.contains_iff_mem.2 e)
  have h2 := ih (seen ++ [nm m]) (by
   rw [List.nodup_append]
   exact ⟨hs, by simp, fun a ha b hb => by
    rw [List.mem_singleton.1 hb]
    exact fun e => hm (e ▸ ha)⟩) h
  simpa using h2
theorem drop_rdI (l : List S66) (x : Int) (h0 : 0 <= x) (h1 : x < l.length) : l.drop x.toNat = rd_T66 l x :: l.drop (x.toNat + 1) := by
 have hi : x.toNat < l.length := by omega
 rw [List.drop_eq_getElem_cons hi]
 simp [rd_T66, List.getD_eq_getElem?_getD, List.getElem?_eq_getElem hi]
theorem take_rdI (l : List S66) (x : Int) (h0 : 0 <= x) (h1 : x < l.length) : l.take (x.toNat + 1) = l.take x.toNat ++ [rd_T66 l x] := by
 have hi : x.toNat < l.length := by omega
 rw [List.take_add_one, List.getElem?_eq_getElem hi]
 simp [rd_T66, List.getD_eq_getElem?_getD, List.getElem?_eq_getElem hi]
theorem mem_rd (l : List S42) (x : Int) (h0 : 0 <= x) (h1 : x < l.length) : rd_T42 l x ∈ l := by
 have hi : x.toNat < l.length := by omega
 have : rd_T42 l x = l[x.toNat] := by simp [rd_T42, List.getD_eq_getElem?_getD, List.getElem?_eq_getElem hi]
 rw [this]; exact List.getElem_mem hi
theorem mem_rdI (l : List S66) (x : Int) (h0 : 0 <= x) (h1 : x < l.length) : rd_T66 l x ∈ l := by
 have hi : x.toNat < l.length := by omega
 have : rd_T66 l x = l[x.toNat] := by simp [rd_T66, List.getD_eq_getElem?_getD, List.getElem?_eq_getElem hi]
 rw [this]; exact List.getElem_mem hi
theorem name_new (l : List S42) (x : Int) (h0 : 0 <= x) (h1 : x < l.length) (h : twice l [] = none) : nm (rd_T42 l x) ∉ (l.take x.toNat).map nm := by
 have hn := twice_none l [] List.nodup_nil h
 have e : l.map nm = (l.take x.toNat).map nm ++ (nm (rd_T42 l x) :: (l.drop (x.toNat + 1)).map nm) := by
  rw [<- List.map_cons, <- drop_rd l x h0 h1, <- List.map_append, List.take_append_drop]
 rw [List.nil_append, e, List.nodup_append] at hn
 exact fun hm => hn.2.2 _ hm _ List.mem_cons_self rfl
def dd : List (List UInt8) -> List (List UInt8)
 | [] => []
 | a :: l => if (dd l).contains a then dd l else a :: dd l
theorem dd_elems : ∀ S : List (List UInt8), Elems S (dd S) := by
 intro S
 induction S with
 | nil => exact ⟨List.nodup_nil, fun x => by simp [dd]⟩
 | cons a l ih =>
  unfold dd
  by_cases h : (dd l).contains a = true
  rotate_left
  · rw [if_neg h]
    refine ⟨List.nodup_cons.2 ⟨fun e => h (List.contains_iff_mem.2 e), ih.nodup⟩, fun x => ?_⟩
    have := ih.mem x
    simp only [List.contains_iff_mem, List.mem_cons] at this ⊢
    rw [this]
  rw [if_pos h]
  refine ⟨ih.nodup, fun x => ?_⟩
  rw [ih.mem x]
  have ha := (ih.mem a).1 (List.contains_iff_mem.1 h)
  simp only [List.contains_iff_mem, List.mem_cons] at ha ⊢
  exact ⟨.inr, fun e => e.elim (fun e => e ▸ ha) id⟩
def asc (S : List (List UInt8)) : List (List UInt8) := (dd S).mergeSort leB
theorem Elems.asc {S ss : List (List UInt8)} (h : Elems S ss) : ss.mergeSort leB = asc S :=
 mergeSort_of_perm ((List.perm_ext_iff_of_nodup h.nodup (dd_elems S).nodup).2 (fun x => by rw [h.mem, (dd_elems S).mem]))
def bz (x : List UInt8) : ByteArray := ⟨x.toArray⟩
def rank (L : List (List UInt8)) (y : List UInt8) : Nat := (L.takeWhile (fun s => decide (s < y))).length
def impsL (l : List S42) (n : List UInt8) : List (List UInt8) := ((l.find? (fun m => nm m == n)).map (fun m => m.f3.map im)).getD []
def edgeOf (l : List S42) (n : List UInt8) : List Int := (asc (impsL l n)).map (fun y => (rank (asc (l.map nm)) y : Int))
def namesOf (l : List S42) : List ByteArray := (asc (l.map nm)).map bz
def edgesOf (l : List S42) : List (List Int) := (asc (l.map nm)).map (edgeOf l)
def MadePost (w : World) (r1 : List ByteArray) (r2 : List (List Int)) (r3 : Int) (r4 : ByteArray) (e : Ending) (w' : World) : Prop :=
 ∃ v0_ v1_ : Value, e = .returned (.tuple #[.agg #[v0_, v1_], .agg #[.int .i64 r3, .string r4, .int .i64 0, .int .i64 0]]) /\ Kd.R Kd.string 9 w' w.heap.size (fun _ => True) v0_ r1 /\ Kd.S (Kd.slice 3 (Kd.int .i64)) 55 w' w.heap.size (fun _ => True) v1_ r2 /\ Below w.heap.size w w'
theorem post_fault (w w' : World) (c : Int) (x : ByteArray) (hb : Below w.heap.size w w') : MadePost w [] [] c x (.returned (.tuple #[.agg #[.slice none 0 0, .slice none 0 0], .agg #[.int .i64 c, .string x, .int .i64 0, .int .i64 0]])) w' :=
 ⟨_, _, rfl, Kd.R_nil _ _ _ _ _, Kd.S_nil _ _ _ _ _, hb⟩
structure RZ (w : World) (B : Nat) : Prop where
 p : w.heap[B]? = some (.cells #[.slice none 0 0, .slice none 0 0] 51 (0, 0))
 f : w.heap[B + 1]? = some (.cells #[.int .i64 0, .string ⟨#[]⟩, .int .i64 0, .int .i64 0] 28 (0, 0))
theorem RZ.below {w w' : World} {B : Nat} (h : RZ w B) (hb : Below w.heap.size w w') : RZ w' B := ⟨blk_below h.p hb, blk_below h.f hb⟩
theorem make76 (w : World) : Sem.run Try.prog (Instr.makeMap 76 none) w = .ok (.map (some w.heap.size)) (w.alloc (.map #[] 0)) := rfl
theorem make77 (w : World) : Sem.run Try.prog (Instr.makeMap 77 none) w = .ok (.map (some w.heap.size)) (w.alloc (.map #[] 0)) := rfl
theorem hi51 : (Try.prog.info? 51).map (·.size) = some 2 := by kernel_rfl
theorem hi28 : (Try.prog.info? 28).map (·.size) = some 4 := by kernel_rfl
theorem rz_new (w : World) : RZ ((w.alloc (Obj.cells #[Value.slice none 0 0, Value.slice none 0 0] 51)).alloc (Obj.cells #[Value.int .i64 0, Value.string ⟨#[]⟩, Value.int .i64 0, Value.int .i64 0] 28)) w.heap.size := by
 have h1 := (MapKept.heap_alloc w (Obj.cells #[Value.slice none 0 0, Value.slice none 0 0] 51)).1
 have h2 := (MapKept.heap_alloc (w.alloc (Obj.cells #[Value.slice none 0 0, Value.slice none 0 0] 51)) (Obj.cells #[Value.int .i64 0, Value.string ⟨#[]⟩, Value.int .i64 0, Value.int .i64 0] 28)).1
 have e : (w.alloc (Obj.cells #[Value.slice none 0 0, Value.slice none 0 0] 51)).heap.size = w.heap.size + 1 := by simp
 rw [e] at h2
 exact ⟨blk_alloc h1 _, h2⟩
def R77 : Value -> Option (DataW Unit × List MemPlace)
 | .map none => some (.lit (.bool false), [])
 | .map (some b) => some (.lit (.int .i64 b), [])
 | _ => none
abbrev Ent := List UInt8 × Nat × List (List UInt8)
def gof (E : List Ent) (y : List UInt8) : Option Nat := (E.find? (fun e => e.1 == y)).map (·.2.1)
def ImAt (w : World) (b c : Nat) (E : List Ent) : Prop := ∃ (n : Nat) (D : DataW Unit), w.ownsMap Try.prog 9 R77 b n D /\ n <= c /\ Maps.IsMap D /\
 ∀ x : ByteArray, x.size <= maxLen -> D.atKey (.string x.data.toList) (.lit (.bool false)) = match gof E x.data.toList with | none => .lit (.bool false) | some k => .lit (.int .i64 k)
theorem zero76 (w : World) : (zeroValue 76).run Try.prog w = .ok (.map none) w := by kernel_rfl
theorem ImAt.made (w : World) : ImAt (w.alloc (.map #[] 0)) w.heap.size 0 [] :=
 ⟨0, .map [], World.ownsMap_made _ _ _ _, Nat.le_refl _, Maps.isMap_empty, fun x _ => by simp [DataW.atKey, gof]⟩
theorem ImAt.kept {w w' : World} {b c : Nat} {E : List Ent} {row : Option Nat} (h : ImAt w b c E) (hg : w.grownBy w' row) (hne : some b ≠ row) : ImAt w' b c E := by
 obtain ⟨n, D, h1, h2⟩ := h
 exact ⟨n, D, h1.kept hg hne, h2⟩
theorem ImAt.below {w w' : World} {b c : Nat} {E : List Ent} (h : ImAt w b c E) (hb : Below w.heap.size w w') : ImAt w' b c E :=
 h.kept (grown_of_below hb none) (by simp)
theorem ImAt.lt {w : World} {b c : Nat} {E : List Ent} (h : ImAt w b c E) : b < w.heap.size := by
 obtain ⟨n, D, h1, h2⟩ := h
 exact h1.lt
theorem ImAt.look {w : World} {b c : Nat} {E : List Ent} (h : ImAt w b c E) (x : ByteArray) (hx : x.size <= maxLen) : (Instr.lookup 77 (.map (some b)) (.string x) false).run Try.prog w = .ok (.map (gof E x.data.toList)) w := by
 obtain ⟨n, D, h1, h2, _, h3⟩ := h
 obtain ⟨v, ps, hrun, hv⟩ := h1.lookup keys9 Try.underlying77 (zero76 w) (show R77 (.map none) = some (.lit (.bool false), []) from rfl) (key9 hx)
 rw [h3 x hx] at hv
 rw [hrun]
 cases hg : gof E x.data.toList with
 | none =>
  rw [hg] at hv
  unfold R77 at hv
  split at hv
  · rfl
  · simp at hv
  · cases hv
 | some k =>
  rw [hg] at hv
  unfold R77 at hv
  split at hv
  · simp at hv
  · rename_i b'
    have : b' = k := by
     have h := hv
     simp at h
     omega
    subst this
    rfl
  · cases hv
theorem gof_snoc (E : List Ent) (e : Ent) (y : List UInt8) (h : gof E e.1 = none) : gof (E ++ [e]) y = if y = e.1 then some e.2.1 else gof E y := by
 unfold gof at *
 rw [List.find?_append]
 by_cases hy : y = e.1
 · subst hy
   have : E.find? (fun e' => e'.1 == e.1) = none := by simpa using h
   rw [this]
   simp
 have hy2 : (e.1 == y) = false := by simpa using fun h => hy h.symm
 rw [if_neg hy]
 cases hf : E.find? (fun e' => e'.1 == y) with
 | none => simp [List.find?, hy2]
 | some z => simp
theorem ImAt.put {w : World} {b c : Nat} {E : List Ent} (h : ImAt w b c E) (hn : c < maxLen) (x : ByteArray) (hx : x.size <= maxLen) (k : Nat) (S : List (List UInt8)) (hnew : gof E x.data.toList = none) :
 ∃ w', (Instr.mapUpdate 77 (.map (some b)) (.string x) (.map (some k))).run Try.prog w = .ok () w' /\ ImAt w' b (c + 1) (E ++ [(x.data.toList, k, S)]) /\ w.grownBy w' (some b) := by
 obtain ⟨n, D, h1, h2, hm, h3⟩ := h
 obtain ⟨w', hrun, h6, hg⟩ := h1.update keys9 Try.underlying77 (Nat.lt_of_le_of_lt h2 hn) (key9 hx) (show R77 (.map (some k)) = some (.lit (.int .i64 k), []) from rfl)
 refine ⟨w', hrun, ⟨n + 1, _, h6, Nat.succ_le_succ h2, hm.put _ _, fun y hy => ?_⟩, hg⟩
 rw [gof_snoc E _ _ hnew]
 by_cases hyx : y.data.toList = x.data.toList
 · rw [hyx, Maps.atKey_put_same hm (by simp [WideAt.IsKeyLit]), if_pos rfl]
 rw [Maps.atKey_put_other (by intro e; injection e with e; exact hyx e), h3 y hy, if_neg hyx]
theorem ImAt.retell {w : World} {b c : Nat} {E E' : List Ent} (h : ImAt w b c E) (he : ∀ y, gof E' y = gof E y) : ImAt w b c E' := by
 obtain ⟨n, D, h1, h2, hm, h3⟩ := h
 exact ⟨n, D, h1, h2, hm, fun x hx => by rw [he]; exact h3 x hx⟩
theorem gof_none {E : List Ent} {y : List UInt8} (h : y ∉ E.map (·.1)) : gof E y = none := by
 unfold gof
 have : E.find? (fun e => e.1 == y) = none := by
  rw [List.find?_eq_none]
  intro e he hc
  exact h (List.mem_map.2 ⟨e, he, by simpa using hc⟩)
 rw [this]; rfl
theorem gof_imps {E : List Ent} {l : List S42} (h : E.map (fun e => (e.1, e.2.2)) = l.map (fun m => (nm m, m.f3.map im))) {n : List UInt8} (hn : n ∈ l.map nm) : ∃ e ∈ E, gof E n = some e.2.1 /\ e.2.2 = impsL l n := by
 induction l generalizing E with
 | nil => simp at hn
 | cons m l ih =>
  cases E with
  | nil => simp at h
  | cons e E =>
   simp only [List.map_cons, List.cons.injEq, Prod.mk.injEq] at h
   obtain ⟨⟨h1, h2⟩, h3⟩ := h
   by_cases hm : nm m = n
   · refine ⟨e, List.mem_cons_self, ?_, ?_⟩
     · unfold gof
       rw [List.find?_cons_of_pos (by rw [h1, hm]; simp)]
       rfl
     · unfold impsL
       rw [List.find?_cons_of_pos (by simpa using hm), h2]
       rfl
   have hn2 : n ∈ l.map nm := by
    rcases List.mem_cons.1 (by simpa using hn : n ∈ nm m :: l.map nm) with e | e
    · exact absurd e.symm hm
    · exact e
   obtain ⟨e2, a, b, c⟩ := ih h3 hn2
   refine ⟨e2, List.mem_cons_of_mem _ a, ?_, ?_⟩
   · unfold gof at b ⊢
     rw [List.find?_cons_of_neg (by rw [h1]; simpa using hm)]
     exact b
   · unfold impsL at c ⊢
     rw [List.find?_cons_of_neg (by simpa using hm)]
     exact c
theorem gof_last_self (E : List Ent) (n : List UInt8) (k : Nat) (S : List (List UInt8)) (h : gof E n = none) : gof (E ++ [(n, k, S)]) n = some k := by
 rw [gof_snoc E _ _ h, if_pos rfl]
theorem gof_last (E : List Ent) (n : List UInt8) (k : Nat) (S S' : List (List UInt8)) (y : List UInt8) : gof (E ++ [(n, k, S)]) y = gof (E ++ [(n, k, S')]) y := by
 unfold gof
 rw [List.find?_append, List.find?_append]
 cases E.find? (fun e => e.1 == y) with
 | none => by_cases hy : (n == y) = true <;> simp [List.find?, hy]
 | some z => rfl
theorem SetAt.more {w : World} {b c c' : Nat} {S : List (List UInt8)} (h : SetAt w b c S) (hc : c <= c') : SetAt w b c' S := by
 obtain ⟨n, D, h1, h2, h3, h4, h5, h6⟩ := h
 exact ⟨n, D, h1, by omega, h3, h4, h5, by omega⟩
def Sets (w : World) (E : List Ent) : Prop := ∀ e ∈ E, SetAt w e.2.1 100000 e.2.2
theorem Sets.kept {w w' : World} {E : List Ent} {row : Option Nat} (h : Sets w E) (hg : w.grownBy w' row) (hne : ∀ e ∈ E, some e.2.1 ≠ row) : Sets w' E := fun e he => (h e he).kept hg (hne e he)
theorem Sets.below {w w' : World} {E : List Ent} (h : Sets w E) (hb : Below w.heap.size w w') : Sets w' E := fun e he => (h e he).below hb
structure Imp (w0 w : World) (bi : Nat) (K : List (List UInt8)) (c : Nat) (E E' : List Ent) : Prop where
 known : SetAt w (w0.heap.size + 1 + 1) 100 K
 rz : RZ w w0.heap.size
 im : ImAt w bi c E'
 sets : Sets w E
 ne : ∀ e ∈ E, bi < e.2.1
 lo : w0.heap.size + 1 + 1 < bi
 bel : Below w0.heap.size w0 w
theorem Imp.below {w0 w w' : World} {bi : Nat} {K : List (List UInt8)} {c : Nat} {E E' : List Ent} (h : Imp w0 w bi K c E E') (hb : Below w.heap.size w w') : Imp w0 w' bi K c E E' :=
 ⟨h.known.below hb, h.rz.below hb, h.im.below hb, h.sets.below hb, h.ne, h.lo, h.bel.trans (hb.mono h.bel.size)⟩
theorem Imp.grown {w0 w w' : World} {bi k : Nat} {K : List (List UInt8)} {c c' : Nat} {E E' E2 : List Ent} (h : Imp w0 w bi K c E E') (hg : w.grownBy w' (some k)) (hk : bi <= k) (hs : ∀ e ∈ E, e.2.1 ≠ k) (him : ImAt w' bi c' E2) : Imp w0 w' bi K c' E E2 := by
 have hlo := h.lo
 exact ⟨h.known.kept hg (by intro e; injection e with e; omega), ⟨blk_grown h.rz.p hg (by intro e; injection e with e; omega), blk_grown h.rz.f hg (by intro e; injection e with e; omega)⟩, him, h.sets.kept hg (fun e he hc => by injection hc with hc; exact hs e he hc), h.ne, hlo, h.bel.grown hg h.bel.size (fun j hj => by injection hj with hj; omega)⟩
def faulted (w : World) (B : Nat) (c : Int) (x : ByteArray) : World :=
 ((((((w.setCell ⟨B, 0, none⟩ (.slice none 0 0)).setCell ⟨B, 1, none⟩ (.slice none 0 0)).setCell ⟨B + 1, 0, none⟩ (.int .i64 c)).setCell ⟨B + 1, 1, none⟩ (.string x)).setCell ⟨B + 1, 2, none⟩ (.int .i64 0)).setCell ⟨B + 1, 3, none⟩ (.int .i64 0))
theorem faulted_p {w : World} {B : Nat} (h : RZ w B) (c : Int) (x : ByteArray) : (faulted w B c x).heap[B]? = some (.cells #[.slice none 0 0, .slice none 0 0] 51 (0, 0)) := by
 have hf : ∀ j, B ≠ (⟨B + 1, j, none⟩ : Addr).block := fun j => by show B ≠ B + 1; omega
 exact blk_far (blk_far (blk_far (blk_far (blk_put (blk_put h.p 0 _ rfl) 1 _ rfl) (hf 0) _) (hf 1) _) (hf 2) _) (hf 3) _
theorem faulted_f {w : World} {B : Nat} (h : RZ w B) (c : Int) (x : ByteArray) : (faulted w B c x).heap[B + 1]? = some (.cells #[.int .i64 c, .string x, .int .i64 0, .int .i64 0] 28 (0, 0)) := by
 have hf : ∀ j, B + 1 ≠ (⟨B, j, none⟩ : Addr).block := fun j => by show B + 1 ≠ B; omega
 exact blk_put (blk_put (blk_put (blk_put (blk_far (blk_far h.f (hf 0) _) (hf 1) _) 0 _ rfl) 1 _ rfl) 2 _ rfl) 3 _ rfl
theorem faulted_below {w W : World} {B : Nat} (h : Below B w W) (c : Int) (x : ByteArray) : Below B w (faulted W B c x) := by
 unfold faulted
 exact (((((h.setCell (Nat.le_refl _) _).setCell (Nat.le_refl _) _).setCell (Nat.le_succ _) _).setCell (Nat.le_succ _) _).setCell (Nat.le_succ _) _).setCell (Nat.le_succ _) _
theorem leB_pair (L : List (List UInt8)) : (L.mergeSort leB).Pairwise (fun a b => a <= b) := by
 have h := List.pairwise_mergeSort (le := leB) (fun a b c h1 h2 => by unfold leB at *; simp at *; exact List.le_trans h1 h2) (fun a b => by unfold leB; simp; exact List.le_total a b) L
 exact h.imp (fun hab => by unfold leB at hab; simpa using hab)
theorem rank_cons (a : List UInt8) (L : List (List UInt8)) (y : List UInt8) : rank (a :: L) y = if a < y then rank L y + 1 else 0 := by
 unfold rank
 by_cases ha : a < y
 rotate_left
 · rw [List.takeWhile_cons_of_neg (by simpa using ha), if_neg ha]; rfl
 rw [List.takeWhile_cons_of_pos (by simpa using ha), if_pos ha]; rfl
theorem rank_lt : ∀ (L : List (List UInt8)) (y : List UInt8) (t : Nat), t < rank L y -> ∃ ht : t < L.length, L[t] < y := by
 intro L y
 induction L with
 | nil => intro t h; simp [rank] at h
 | cons a L ih =>
  intro t h
  rw [rank_cons] at h
  by_cases ha : a < y
  rotate_left
  · rw [if_neg ha] at h; omega
  rw [if_pos ha] at h
  cases t with
  | zero => exact ⟨by simp, ha⟩
  | succ t =>
   obtain ⟨h1, h2⟩ := ih t (by omega)
   exact ⟨by simpa using h1, by simpa using h2⟩
theorem rank_ge : ∀ (L : List (List UInt8)) (y : List UInt8), L.Pairwise (fun a b => a <= b) -> ∀ t (ht : t < L.length), rank L y <= t -> ¬ L[t] < y := by
 intro L y
 induction L with
 | nil => intro _ t ht; simp at ht
 | cons a L ih =>
  intro hp t ht hr
  have hp2 := List.pairwise_cons.1 hp
  by_cases ha : a < y
  · have e : rank (a :: L) y = rank L y + 1 := by rw [rank_cons, if_pos ha]
    cases t with
    | zero => omega
    | succ t => exact ih hp2.2 t (by simpa using ht) (by omega)
  cases t with
  | zero => exact ha
  | succ t =>
   have hm : L[t]'(by simpa using ht) ∈ L := List.getElem_mem _
   have hle := hp2.1 _ hm
   intro hlt
   exact ha (List.lt_of_le_of_lt hle hlt)
theorem rank_le (L : List (List UInt8)) (y : List UInt8) : rank L y <= L.length := (List.takeWhile_sublist _).length_le
theorem rd_bz (L : List (List UInt8)) (y : Int) (h0 : 0 <= y) (h1 : y < L.length) : ∃ h : y.toNat < L.length, rdOf ByteArray.empty (L.map bz) y = bz L[y.toNat] := by
 have hi : y.toNat < L.length := by omega
 exact ⟨hi, by simp [rdOf, List.getD_eq_getElem?_getD, List.getElem?_eq_getElem hi]⟩
theorem bz_list (x : List UInt8) : (bz x).data.toList = x := by simp [bz]
theorem names_row {w : World} {base n : Nat} {v : Value} {L : List (List UInt8)} (hn : n = L.length) (h : w.ownsRow base 9 1 v n (L.map encStr)) : Kd.string.R 9 w base (fun _ => True) v (L.map bz) := by
 refine Kd.R_of_own ?_ (fun _ _ => trivial)
 rw [List.length_map, <- hn]
 have e : encs Value.string (L.map bz) = L.map encStr := by unfold encs; rw [List.map_map]; rfl
 rw [e]
 exact h
theorem search_calls (w : World) (g c : Nat) (L : List (List UInt8)) (s : ByteArray) (hC : Kd.C Kd.string w (some ⟨g, 0, none⟩) L.length (L.map bz)) (hp : L.Pairwise (fun a b => a <= b)) (hl : L.length <= 100) :
 Calls Try.prog 42 #[.slice (some ⟨g, 0, none⟩) L.length c, .string s] w fun e w' => ∃ b, e = .returned (.tuple #[.int .i64 (rank L s.data.toList : Nat), .bool b]) /\ Drawn0 w w' := by
 have hcell : ∀ j, j < L.length -> w.cell? ⟨g, 0 + j, none⟩ = some (.string ((L.map bz).getD j s)) := by
  intro j hj
  obtain ⟨ad, he, hc⟩ := Kd.at_string hC (j : Int) (by omega) (by omega)
  injection he with he
  subst he
  have e : (L.map bz).getD j s = rdOf ByteArray.empty (L.map bz) (j : Int) := by
   simp [rdOf, List.getD_eq_getElem?_getD, List.getElem?_eq_getElem hj]
  rw [e, Nat.zero_add]
  have := hc
  rw [add_plain] at this
  simpa using this
 have h := Any2.slices_BinarySearch_string Try.lays26 g 0 L.length c (fun j => (L.map bz).getD j s) s w (by omega) hcell
 have hk : Lib.bsGo (fun t => Op.bytesLess ((L.map bz).getD t s).toList s.toList) L.length 0 L.length = rank L s.data.toList := by
  refine Lib.bsGo_spec _ (rank L s.data.toList) (fun t ht => ?_) (fun t ht => ?_) L.length 0 L.length (by omega) (Nat.zero_le _) (rank_le _ _)
  · obtain ⟨h1, h2⟩ := rank_lt L s.data.toList t ht
    rw [toL, toL, bytesLess_eq]
    have e : ((L.map bz).getD t s).data.toList = L[t] := by simp [List.getD_eq_getElem?_getD, List.getElem?_eq_getElem h1, bz]
    rw [e]
    simpa using h2
  · rw [toL, toL, bytesLess_eq]
    by_cases h1 : t < L.length
    rotate_left
    · have e : (L.map bz).getD t s = s := by simp [List.getD_eq_getElem?_getD, List.getElem?_eq_none (show L.length <= t by omega)]
      rw [e]
      simp [List.lt_irrefl]
    have e : ((L.map bz).getD t s).data.toList = L[t] := by simp [List.getD_eq_getElem?_getD, List.getElem?_eq_getElem h1, bz]
    rw [e]
    simpa using rank_ge L s.data.toList hp t h1 ht
 refine h.mono fun e w' ⟨he, hd⟩ => ?_
 rw [hk] at he
 exact ⟨_, he, ⟨hd⟩⟩
def stored (w : World) (B : Nat) (v u : Value) : World :=
 ((((((w.setCell ⟨B, 0, none⟩ v).setCell ⟨B, 1, none⟩ u).setCell ⟨B + 1, 0, none⟩ (.int .i64 0)).setCell ⟨B + 1, 1, none⟩ (.string ⟨#[]⟩)).setCell ⟨B + 1, 2, none⟩ (.int .i64 0)).setCell ⟨B + 1, 3, none⟩ (.int .i64 0))
theorem stored_p {w : World} {B : Nat} (h : RZ w B) (v u : Value) : (stored w B v u).heap[B]? = some (.cells #[v, u] 51 (0, 0)) := by
 have hf : ∀ j, B ≠ (⟨B + 1, j, none⟩ : Addr).block := fun j => by show B ≠ B + 1; omega
 exact blk_far (blk_far (blk_far (blk_far (blk_put (blk_put h.p 0 _ rfl) 1 _ rfl) (hf 0) _) (hf 1) _) (hf 2) _) (hf 3) _
theorem stored_f {w : World} {B : Nat} (h : RZ w B) (v u : Value) : (stored w B v u).heap[B + 1]? = some (.cells #[.int .i64 0, .string ⟨#[]⟩, .int .i64 0, .int .i64 0] 28 (0, 0)) := by
 have hf : ∀ j, B + 1 ≠ (⟨B, j, none⟩ : Addr).block := fun j => by show B + 1 ≠ B; omega
 exact blk_put (blk_put (blk_put (blk_put (blk_far (blk_far h.f (hf 0) _) (hf 1) _) 0 _ rfl) 1 _ rfl) 2 _ rfl) 3 _ rfl
theorem stored_below {w W : World} {B : Nat} (h : Below B w W) (v u : Value) : Below B w (stored W B v u) := by
 unfold stored
 exact (((((h.setCell (Nat.le_refl _) _).setCell (Nat.le_refl _) _).setCell (Nat.le_succ _) _).setCell (Nat.le_succ _) _).setCell (Nat.le_succ _) _).setCell (Nat.le_succ _) _
theorem stored_heap (w : World) (B : Nat) (v u : Value) (k : Nat) (h : B + 1 < k) : (stored w B v u).heap[k]? = w.heap[k]? := by
 unfold stored
 rw [Below.heap_setCell _ _ _ k (by show k ≠ B + 1; omega), Below.heap_setCell _ _ _ k (by show k ≠ B + 1; omega), Below.heap_setCell _ _ _ k (by show k ≠ B + 1; omega), Below.heap_setCell _ _ _ k (by show k ≠ B + 1; omega), Below.heap_setCell _ _ _ k (by show k ≠ B; omega), Below.heap_setCell _ _ _ k (by show k ≠ B; omega)]
theorem info55m : (Try.prog.info? 55).map (fun i => (i.zero, i.size, i.bytes)) = some (some (.slice none 0 0), 1, 24) := by kernel_rfl
theorem made_walk (w : World) (A0 : Option Addr) (c0 : Nat) (l : List S42) (hr0 : Kd.C k42 w A0 l.length l) (hc0 : l.length <= c0) (hsz : ∀ m ∈ l, m.f0.size <= maxLen /\ m.f3.length <= 100000 /\ ∀ i ∈ m.f3, i.f0.size <= maxLen) (hl : ¬ (l.length : Int) > 32) :
 Calls Try.prog 34 #[.slice A0 l.length c0] w fun e w' => (∃ x, twice l [] = some x /\ MadePost w [] [] 13 x e w') \/ (twice l [] = none /\ ∃ x, miss (l.map nm) l = some x /\ MadePost w [] [] 16 x e w') \/ (twice l [] = none /\ miss (l.map nm) l = none /\ MadePost w (namesOf l) (edgesOf l) 0 ⟨#[]⟩ e w') := by
 have HR0 := Az.mk hr0
 have HC0 := Az.mk hc0
 have HSZ := Az.mk hsz
 have q1 : decide (32 < (l.length : Int)) = false := decide_eq_false hl
 have q2 : decide (32 < l.length) = false := decide_eq_false (by omega)
 have HL := Az.mk hl
 clear hr0 hc0 hsz hl
 go_enter Try.func34, Try.ntmps34
 have hm1 := fun w => make76 w
 go_wp2
 clear hm1 q1 q2
 have HZ := Az.mk (rz_new w)
 have hB0 := below_alloc (below_alloc (Below.refl w.heap.size w) (Obj.cells #[Value.slice none 0 0, Value.slice none 0 0] 51)) (Obj.cells #[Value.int .i64 0, Value.string ⟨#[]⟩, Value.int .i64 0, Value.int .i64 0] 28)
 have hz0 : ((w.alloc (Obj.cells #[Value.slice none 0 0, Value.slice none 0 0] 51)).alloc (Obj.cells #[Value.int .i64 0, Value.string ⟨#[]⟩, Value.int .i64 0, Value.int .i64 0] 28)).heap.size = w.heap.size + 1 + 1 := by simp
 have hs0 := SetAt.made ((w.alloc (Obj.cells #[Value.slice none 0 0, Value.slice none 0 0] 51)).alloc (Obj.cells #[Value.int .i64 0, Value.string ⟨#[]⟩, Value.int .i64 0, Value.int .i64 0] 28))
 rw [hz0] at hs0
 have HS0 := Az.mk hs0
 have HZ1 := Az.mk (HZ.1.below (below_alloc (Below.refl _ _) (Obj.map #[] 0)))
 have HB1 := Az.mk (below_alloc hB0 (Obj.map #[] 0))
 clear hs0 HZ hB0 hz0
 generalize ((w.alloc (Obj.cells #[Value.slice none 0 0, Value.slice none 0 0] 51)).alloc (Obj.cells #[Value.int .i64 0, Value.string ⟨#[]⟩, Value.int .i64 0, Value.int .i64 0] 28)).alloc (Obj.map #[] 0) = w1 at *
 go_loopg [28] l.length (fun kq v28 w' => ∃ x : Int, v28 = .int .i64 x /\ Az (0 <= x /\ x.toNat + kq = l.length) /\ Az (SetAt w' (w.heap.size + 1 + 1) x.toNat ((l.take x.toNat).map nm) /\ twice (l.drop x.toNat) ((l.take x.toNat).map nm) = twice l [] /\ RZ w' w.heap.size /\ Below w.heap.size w w'))
 case atStart => exact ⟨0, rfl, ⟨by decide, by simp⟩, ⟨by simpa using HS0.1, by simp, HZ1.1, HB1.1⟩⟩
 case round =>
  obtain ⟨x, rfl, hk, hI⟩ := hrel
  clear HS0 HZ1 HB1
  have hk0 := hk.1.1
  by_cases hx : x < (l.length : Int)
  · have q1 : decide (x < (l.length : Int)) = true := decide_eq_true hx
    have HX := Az.mk hx
    obtain ⟨ad, A2, c2, A3, c3, rfl, g0, g1, g2, g3, g4, g5⟩ := at_T42 (Kd.C_below HR0.1 hI.1.2.2.2) x hk0 hx
    have hmem : rd_T42 l x ∈ l := by
     have hi : x.toNat < l.length := by omega
     have : rd_T42 l x = l[x.toNat] := by simp [rd_T42, List.getD_eq_getElem?_getD, List.getElem?_eq_getElem hi]
     rw [this]; exact List.getElem_mem hi
    have hnl := (HSZ.1 _ hmem).1
    have hdr := drop_rd l x hk0 hx
    have htk := take_rd l x hk0 hx
    generalize rd_T42 l x = m at *
    have p1 := eq_true hk0
    have p2 := eq_true hx
    have hI1 : (if ((l.take x.toNat).map nm).contains (nm m) = true then some m.f0 else twice (l.drop (x.toNat + 1)) ((l.take x.toNat).map nm ++ [nm m])) = twice l [] := by
     have h := hI.1.2.1
     rw [hdr] at h
     exact h
    have HTW := Az.mk hI1
    have HDR := Az.mk hdr
    have HTK := Az.mk htk
    clear g5 hmem hdr htk hI1 hx hk0
    go_upto_region 7 with fail
    have hB2 := below_alloc (Below.refl wr.heap.size wr) (Obj.cells #[Value.string m.f0, Value.bool m.f1, Value.slice A2 m.f2.length c2, Value.slice A3 m.f3.length c3, Value.slice m.f4.a m.f4.n m.f4.c] 42)
    have hb6 := (MapKept.heap_alloc wr (Obj.cells #[Value.string m.f0, Value.bool m.f1, Value.slice A2 m.f2.length c2, Value.slice A3 m.f3.length c3, Value.slice m.f4.a m.f4.n m.f4.c] 42)).1
    have hS2 := SetAt.below hI.1.1 hB2
    have HS2 := Az.mk hS2
    have HZ2 := Az.mk (hI.1.2.2.1.below hB2)
    have HB2 := Az.mk (below_step hI.1.2.2.2 hB2)
    clear hB2 g0 g1 g2 g3 g4
    generalize wr.alloc (Obj.cells #[Value.string m.f0, Value.bool m.f1, Value.slice A2 m.f2.length c2, Value.slice A3 m.f3.length c3, Value.slice m.f4.a m.f4.n m.f4.c] 42) = w2 at *
    have c6 : w2.cell? ⟨wr.heap.size, 0, none⟩ = some (.string m.f0) := blk_cell hb6 0
    have hlk := hS2.look m.f0 hnl
    by_cases hcn : ((l.take x.toNat).map nm).contains m.f0.data.toList = true
    rotate_left
    · have hcf : ((l.take x.toNat).map nm).contains m.f0.data.toList = false := by simpa using hcn
      have htw := HTW.1
      rw [if_neg hcn] at htw
      have HT := Az.mk htw
      rw [hcf] at hlk
      obtain ⟨w3, hrun, hset, hg⟩ := hS2.put (by have := hk.1; have := HL.1; unfold maxLen; omega) m.f0 hnl
      have HS3 := Az.mk hset
      have HG3 := Az.mk hg
      clear hcn hcf htw hS2 hb6 hnl hset hg
      go_wp2
      go_roundg (gk - 1)
      case measure => have := hk.1; have := HX.1; omega
      case rel =>
       have h1 := hk.1
       have h2 := HX.1
       have h3 := HL.1
       have et : (x + 1).toNat = x.toNat + 1 := by omega
       have e3 : ((l.take (x + 1).toNat).map nm) = (l.take x.toNat).map nm ++ [nm m] := by rw [et, HTK.1, List.map_append]; rfl
       have hne : ∀ k, some (w.heap.size + 1 + 1) = some k -> w.heap.size <= k := fun k hk => by injection hk with hk; omega
       exact ⟨x + 1, by rw [show wrap64 (x + 1) = x + 1 from by unfold wrap64; omega], ⟨by omega, by omega⟩, ⟨by rw [e3, et]; exact HS3.1, by rw [e3, et]; exact HT.1, ⟨blk_grown HZ2.1.p HG3.1 (by intro e; injection e with e; omega), blk_grown HZ2.1.f HG3.1 (by intro e; injection e with e; omega)⟩, HB2.1.grown HG3.1 HB2.1.size hne⟩⟩
    have htw := HTW.1
    rw [if_pos hcn] at htw
    have HT := Az.mk htw
    rw [hcn] at hlk
    have z0 := blk_cell HZ2.1.p 0
    have z1 := blk_cell HZ2.1.p 1
    have y0 := blk_cell HZ2.1.f 0
    have y1 := blk_cell HZ2.1.f 1
    have y2 := blk_cell HZ2.1.f 2
    have y3 := blk_cell HZ2.1.f 3
    have e0 := blk_frozen HZ2.1.p 0
    have e1 := blk_frozen HZ2.1.p 1
    have d0 := blk_frozen HZ2.1.f 0
    have d1 := blk_frozen HZ2.1.f 1
    have d2 := blk_frozen HZ2.1.f 2
    have d3 := blk_frozen HZ2.1.f 3
    have hne : w.heap.size ≠ wr.heap.size := by have := blk_lt hI.1.2.2.1.p; omega
    have c6a : (w2.setCell ⟨w.heap.size, 0, none⟩ (.slice none 0 0)).cell? ⟨wr.heap.size, 0, none⟩ = some (.string m.f0) := (World.cell?_of_block (Below.heap_setCell w2 ⟨w.heap.size, 0, none⟩ _ wr.heap.size (fun e => hne e.symm))).trans c6
    have c6b : ((w2.setCell ⟨w.heap.size, 0, none⟩ (.slice none 0 0)).setCell ⟨w.heap.size, 1, none⟩ (.slice none 0 0)).cell? ⟨wr.heap.size, 0, none⟩ = some (.string m.f0) := (World.cell?_of_block (Below.heap_setCell _ ⟨w.heap.size, 1, none⟩ _ wr.heap.size (fun e => hne e.symm))).trans c6a
    have HNE := Az.mk hne
    clear hcn htw hS2 hb6 hnl hne
    go_upto_region 8 with fail
    go_region
    all_goals go_wp2
    all_goals refine bodyPost_ret (results_cc rfl _ _ w.heap.size (w.heap.size + 1) 51 28 #[.slice none 0 0, .slice none 0 0] #[.int .i64 13, .string m.f0, .int .i64 0, .int .i64 0] (0, 0) (0, 0) _ _ rfl (by first | exact blk_drew (faulted_p HZ2.1 13 m.f0) | exact faulted_p HZ2.1 13 m.f0) Try.underlying51 rfl hi51 rfl (by first | exact blk_drew (faulted_f HZ2.1 13 m.f0) | exact faulted_f HZ2.1 13 m.f0) Try.underlying28 rfl hi28) rfl ?_
    all_goals exact .inl ⟨m.f0, HT.1.symm, post_fault w _ 13 m.f0 (by first | exact below_drew (faulted_below HB2.1 13 m.f0) | exact faulted_below HB2.1 13 m.f0)⟩
  have q1 : decide (x < (l.length : Int)) = false := decide_eq_false hx
  have hxl : l.take x.toNat = l := List.take_of_length_le (by have := hk.1; omega)
  have hdl : l.drop x.toNat = [] := List.drop_of_length_le (by have := hk.1; omega)
  have hI2 := hI.1
  rw [hxl, hdl] at hI2
  have hxle : x.toNat = l.length := by have := hk.1; omega
  rw [hxle] at hI2
  have HI := Az.mk hI2
  clear hxl hdl hI2 hI hk hk0 hxle hx
  have hm2 := fun w => make77 w
  go_wp2
  clear hm2
  have hB3 := below_alloc (Below.refl wr.heap.size wr) (Obj.map #[] 0)
  have hi0 : Imp w (wr.alloc (Obj.map #[] 0)) wr.heap.size (l.map nm) 0 [] [] :=
   ⟨(HI.1.1.below hB3).more (by have := HL.1; omega), HI.1.2.2.1.below hB3, ImAt.made wr, fun _ he => (by cases he), fun _ he => (by cases he), HI.1.1.lt, below_step HI.1.2.2.2 hB3⟩
  have HTN : Az (twice l [] = none) := ⟨HI.1.2.1.symm⟩
  have HI0 := Az.mk hi0
  clear hi0 hB3 HI
  generalize wr.heap.size = bi at HI0 ⊢
  generalize wr.alloc (Obj.map #[] 0) = w2 at *
  obtain ⟨K, hK⟩ : ∃ K, K = l.map nm := ⟨_, rfl⟩
  rw [<- hK] at HI0
  have HK := Az.mk hK
  clear hK
  go_loopg [47] l.length (fun kq v47 w' => ∃ (x : Int) (E : List Ent), v47 = .int .i64 x /\ Az (0 <= x /\ x.toNat + kq = l.length) /\ Az (Imp w w' bi K x.toNat E E /\ E.map (fun e => (e.1, e.2.2)) = (l.take x.toNat).map (fun m => (nm m, m.f3.map im)) /\ miss K (l.drop x.toNat) = miss K l))
  case atStart => exact ⟨0, [], rfl, ⟨by decide, by simp⟩, ⟨by simpa using HI0.1, by simp, by simp⟩⟩
  case round =>
   obtain ⟨x, E, rfl, hk, hI⟩ := hrel
   clear HI0
   obtain ⟨g2k, rfl⟩ : ∃ g, g = gk := ⟨_, rfl⟩
   have hk0 := hk.1.1
   by_cases hx : x < (l.length : Int)
   · have q3 : decide (x < (l.length : Int)) = true := decide_eq_true hx
     have HX := Az.mk hx
     obtain ⟨ad, A2, c2, A3, c3, rfl, g0, g1, g2, g3, g4, g5, g6, g7, g8⟩ := at_T42 HR0.1 x hk0 hx
     replace g0 := pw_cell_below hI.1.1.bel g0
     replace g1 := pw_cell_below hI.1.1.bel g1
     replace g2 := pw_cell_below hI.1.1.bel g2
     replace g3 := pw_cell_below hI.1.1.bel g3
     replace g4 := pw_cell_below hI.1.1.bel g4
     have hnew := name_new l x hk0 hx HTN.1
     have hmem := mem_rd l x hk0 hx
     have hsz := HSZ.1 _ hmem
     have hdr := drop_rd l x hk0 hx
     have htk := take_rd l x hk0 hx
     generalize rd_T42 l x = m at *
     have p1 := eq_true hk0
     have p2 := eq_true hx
     have HMS : Az ((match missI K m.f3 with | some y => some y | none => miss K (l.drop (x.toNat + 1))) = miss K l) := ⟨by
      have h := hI.1.2.2
      rw [hdr] at h
      exact h⟩
     have HGN : Az (gof E (nm m) = none) := ⟨gof_none (by
      have h := congrArg (List.map Prod.fst) hI.1.2.1
      rw [List.map_map, List.map_map] at h
      have h2 : E.map (·.1) = (l.take x.toNat).map nm := h
      rw [h2]; exact hnew)⟩
     have HTK := Az.mk htk
     have HSM := Az.mk hsz
     have H8 := Az.mk g8
     clear g5 g6 g7 g8 hmem hdr htk hnew hx hk0 hsz
     go_upto_region 15 with fail
     have hB3 := below_alloc (Below.refl wr.heap.size wr) (Obj.cells #[Value.string m.f0, Value.bool m.f1, Value.slice A2 m.f2.length c2, Value.slice A3 m.f3.length c3, Value.slice m.f4.a m.f4.n m.f4.c] 42)
     have hb6 := (MapKept.heap_alloc wr (Obj.cells #[Value.string m.f0, Value.bool m.f1, Value.slice A2 m.f2.length c2, Value.slice A3 m.f3.length c3, Value.slice m.f4.a m.f4.n m.f4.c] 42)).1
     have hz3 : (wr.alloc (Obj.cells #[Value.string m.f0, Value.bool m.f1, Value.slice A2 m.f2.length c2, Value.slice A3 m.f3.length c3, Value.slice m.f4.a m.f4.n m.f4.c] 42)).heap.size = wr.heap.size + 1 := by simp
     have HI3 := Az.mk (hI.1.1.below hB3)
     have HB3 := Az.mk hB3
     have HZ3 := Az.mk hz3
     clear hB3 hz3 g0 g1 g2 g3 g4
     generalize wr.alloc (Obj.cells #[Value.string m.f0, Value.bool m.f1, Value.slice A2 m.f2.length c2, Value.slice A3 m.f3.length c3, Value.slice m.f4.a m.f4.n m.f4.c] 42) = w3 at *
     have c6 : w3.cell? ⟨wr.heap.size, 0, none⟩ = some (.string m.f0) := blk_cell hb6 0
     have hm3 := make76 w3
     have hB4 := below_alloc (Below.refl w3.heap.size w3) (Obj.map #[] 0)
     have hI4 := HI3.1.below hB4
     have hs4 := SetAt.made w3
     have hb64 := blk_below hb6 hB4
     obtain ⟨w5, hrun, him, hg⟩ := hI4.im.put (by have := hk.1; have := HL.1; unfold maxLen; omega) m.f0 HSM.1.1 w3.heap.size [] HGN.1
     have hbi : bi < wr.heap.size := hI.1.1.im.lt
     have HS5 := Az.mk (hs4.kept hg (by intro e; injection e with e; have := HZ3.1; omega))
     have HI5 := Az.mk (hI4.grown hg (Nat.le_refl _) (fun e he => by have := hI.1.1.ne e he; omega) him)
     have hb65 := blk_grown hb64 hg (by intro e; injection e with e; omega)
     have HG5 := Az.mk hg
     have HBI := Az.mk hbi
     have HB5 := Az.mk hB4
     have c63 : w5.cell? ⟨wr.heap.size, 3, none⟩ = some (.slice A3 m.f3.length c3) := blk_cell hb65 3
     have HB65 := Az.mk hb65
     clear hB4 hI4 hs4 hb64 him hg hbi hb6 hb65
     obtain ⟨wo, rfl⟩ : ∃ wo, wo = wr := ⟨_, rfl⟩
     go_wp2
     clear hrun c6 c63 hm3
     have hkb : wo.heap.size < w3.heap.size := by have := HZ3.1; omega
     have HKB := Az.mk hkb
     clear hkb
     generalize hkbq : w3.heap.size = kb at *
     have HKE := Az.mk hkbq
     clear hkbq
     go_loopg [58] m.f3.length (fun kq v58 w' => ∃ z : Int, v58 = .int .i64 z /\ Az (0 <= z /\ z.toNat + kq = m.f3.length) /\ Az (Imp w w' bi K (x.toNat + 1) E (E ++ [(nm m, kb, [])]) /\ SetAt w' kb z.toNat ((m.f3.take z.toNat).map im) /\ w'.heap[wo.heap.size]? = some (Obj.cells #[Value.string m.f0, Value.bool m.f1, Value.slice A2 m.f2.length c2, Value.slice A3 m.f3.length c3, Value.slice m.f4.a m.f4.n m.f4.c] 42) /\ missI K (m.f3.drop z.toNat) = missI K m.f3))
     case atStart => exact ⟨0, rfl, ⟨by decide, by simp⟩, ⟨HI5.1, by simpa using HS5.1, HB65.1, by simp⟩⟩
     case round =>
      obtain ⟨z, rfl, hk2, hJ⟩ := hrel
      clear HI5 HS5 HB65
      have hk20 := hk2.1.1
      by_cases hz : z < (m.f3.length : Int)
      rotate_left
      · have q4 : decide (z < (m.f3.length : Int)) = false := decide_eq_false hz
        have hzl : m.f3.take z.toNat = m.f3 := List.take_of_length_le (by have := hk2.1; omega)
        have hzd : m.f3.drop z.toNat = [] := List.drop_of_length_le (by have := hk2.1; omega)
        have hJ2 := hJ.1
        rw [hzl, hzd] at hJ2
        have hzn : z.toNat <= 100000 := by have := hk2.1; have := HSM.1.2.1; omega
        have HJE := Az.mk hJ2
        have HZN := Az.mk hzn
        clear hzl hzd hJ2 hzn hz hk20
        go_wp2
        go_roundg (g2k - 1)
        case measure => have := hk.1; have := HX.1; omega
        case rel =>
         have h1 := hk.1
         have h2 := HX.1
         have h4 := HKB.1
         have h5 := HBI.1
         have et : (x + 1).toNat = x.toNat + 1 := by omega
         have hj := HJE.1.1
         have hmn := HJE.1.2.2.2
         have hms := HMS.1
         rw [<- hmn] at hms
         refine ⟨x + 1, E ++ [(nm m, kb, m.f3.map im)], by rw [show wrap64 (x + 1) = x + 1 from by unfold wrap64; have := HL.1; omega], ⟨by omega, by omega⟩, ⟨⟨hj.known, hj.rz, by rw [et]; exact hj.im.retell (fun y => gof_last E (nm m) kb (m.f3.map im) [] y), fun e he => ?_, fun e he => ?_, hj.lo, hj.bel⟩, ?_, by rw [et]; exact hms⟩⟩
         · rcases List.mem_append.1 he with he | he
           · exact hj.sets e he
           · obtain rfl := List.mem_singleton.1 he
             exact HJE.1.2.1.more HZN.1
         · rcases List.mem_append.1 he with he | he
           · exact hj.ne e he
           · obtain rfl := List.mem_singleton.1 he
             show bi < kb
             omega
         · rw [et, HTK.1, List.map_append, List.map_append, hI.1.2.1]
           rfl
      have q4 : decide (z < (m.f3.length : Int)) = true := decide_eq_true hz
      have HZX := Az.mk hz
      obtain ⟨ad3, A5, c5, rfl, r0, r1, r2, r3, r4, r5, r6⟩ := at_T66 (Kd.C_below H8.1 hJ.1.1.bel) z hk20 hz
      have hmi := mem_rdI m.f3 z hk20 hz
      have hisz := HSM.1.2.2 _ hmi
      have hdi := drop_rdI m.f3 z hk20 hz
      have hti := take_rdI m.f3 z hk20 hz
      generalize rd_T66 m.f3 z = i at *
      have p3 := eq_true hk20
      have p4 := eq_true hz
      have HMI : Az ((if K.contains (im i) = true then missI K (m.f3.drop (z.toNat + 1)) else some i.f0) = missI K m.f3) := ⟨by
       have h := hJ.1.2.2.2
       rw [hdi] at h
       exact h⟩
      have HTI := Az.mk hti
      have HIS := Az.mk hisz
      clear r6 hmi hdi hti hz hk20 hisz
      go_upto_region 19 with fail
      have hB6 := below_alloc (Below.refl wr.heap.size wr) (Obj.cells #[Value.string i.f0, Value.bool i.f1, Value.string i.f2, Value.bool i.f3, Value.bool i.f4, Value.slice A5 i.f5.length c5] 66)
      have hb7 := (MapKept.heap_alloc wr (Obj.cells #[Value.string i.f0, Value.bool i.f1, Value.string i.f2, Value.bool i.f3, Value.bool i.f4, Value.slice A5 i.f5.length c5] 66)).1
      have HJ6 := Az.mk (hJ.1.1.below hB6)
      have HC6 := Az.mk (hJ.1.2.1.below hB6)
      have HM6 := Az.mk (blk_below hJ.1.2.2.1 hB6)
      have hlt7 : wo.heap.size < wr.heap.size := blk_lt hJ.1.2.2.1
      have HLT7 := Az.mk hlt7
      have HB6 := Az.mk hB6
      clear hB6 r0 r1 r2 r3 r4 r5 hlt7
      generalize wr.alloc (Obj.cells #[Value.string i.f0, Value.bool i.f1, Value.string i.f2, Value.bool i.f3, Value.bool i.f4, Value.slice A5 i.f5.length c5] 66) = w7 at *
      have c7 : w7.cell? ⟨wr.heap.size, 0, none⟩ = some (.string i.f0) := blk_cell hb7 0
      have hlk := HJ6.1.known.look i.f0 HIS.1
      by_cases hcn : K.contains i.f0.data.toList = true
      · rw [hcn] at hlk
        have hmi2 := HMI.1
        rw [if_pos hcn] at hmi2
        have HMJ := Az.mk hmi2
        have hli := HJ6.1.im.look m.f0 HSM.1.1
        have hgl : gof (E ++ [(nm m, kb, [])]) m.f0.data.toList = some kb := gof_last_self E (nm m) kb [] HGN.1
        rw [hgl] at hli
        have c76 : w7.cell? ⟨wo.heap.size, 0, none⟩ = some (.string m.f0) := blk_cell HM6.1 0
        obtain ⟨w8, hrun8, hset8, hg8⟩ := HC6.1.put (by have := hk2.1; have := HSM.1.2.1; unfold maxLen; omega) i.f0 HIS.1
        have HS8 := Az.mk hset8
        have HG8 := Az.mk hg8
        clear hcn hmi2 hgl hset8 hg8 hb7
        go_wp2
        go_roundg (gk - 1)
        case measure => have := hk2.1; have := HZX.1; omega
        case rel =>
         have h1 := hk2.1
         have h2 := HZX.1
         have h3 := HSM.1.2.1
         have h4 := HKB.1
         have h5 := HBI.1
         have h6 := HKE.1
         have et : (z + 1).toNat = z.toNat + 1 := by omega
         have e3 : ((m.f3.take (z + 1).toNat).map im) = (m.f3.take z.toNat).map im ++ [im i] := by rw [et, HTI.1, List.map_append]; rfl
         have hE : ∀ e ∈ E, e.2.1 ≠ kb := fun e he => by have := (hI.1.1.sets e he).lt; omega
         exact ⟨z + 1, by rw [show wrap64 (z + 1) = z + 1 from by unfold wrap64; omega], ⟨by omega, by omega⟩, ⟨HJ6.1.grown HG8.1 (by omega) hE (HJ6.1.im.kept HG8.1 (by intro e; injection e with e; omega)), by rw [e3, et]; exact HS8.1, blk_grown HM6.1 HG8.1 (by intro e; injection e with e; omega), by rw [et]; exact HMJ.1⟩⟩
      have hcf : K.contains i.f0.data.toList = false := by simpa using hcn
      have hmi2 := HMI.1
      rw [if_neg hcn] at hmi2
      have hms := HMS.1
      rw [<- hmi2] at hms
      have HMJ : Az (miss (l.map nm) l = some i.f0) := ⟨by rw [<- HK.1]; exact hms.symm⟩
      rw [hcf] at hlk
      have z0 := blk_cell HJ6.1.rz.p 0
      have z1 := blk_cell HJ6.1.rz.p 1
      have y0 := blk_cell HJ6.1.rz.f 0
      have y1 := blk_cell HJ6.1.rz.f 1
      have y2 := blk_cell HJ6.1.rz.f 2
      have y3 := blk_cell HJ6.1.rz.f 3
      have e0 := blk_frozen HJ6.1.rz.p 0
      have e1 := blk_frozen HJ6.1.rz.p 1
      have d0 := blk_frozen HJ6.1.rz.f 0
      have d1 := blk_frozen HJ6.1.rz.f 1
      have d2 := blk_frozen HJ6.1.rz.f 2
      have d3 := blk_frozen HJ6.1.rz.f 3
      have hne : w.heap.size ≠ wr.heap.size := by have := blk_lt hJ.1.1.rz.p; omega
      have c7a : (w7.setCell ⟨w.heap.size, 0, none⟩ (.slice none 0 0)).cell? ⟨wr.heap.size, 0, none⟩ = some (.string i.f0) := (World.cell?_of_block (Below.heap_setCell w7 ⟨w.heap.size, 0, none⟩ _ wr.heap.size (fun e => hne e.symm))).trans c7
      have c7b : ((w7.setCell ⟨w.heap.size, 0, none⟩ (.slice none 0 0)).setCell ⟨w.heap.size, 1, none⟩ (.slice none 0 0)).cell? ⟨wr.heap.size, 0, none⟩ = some (.string i.f0) := (World.cell?_of_block (Below.heap_setCell _ ⟨w.heap.size, 1, none⟩ _ wr.heap.size (fun e => hne e.symm))).trans c7a
      clear hcn hcf hmi2 hms hb7 hne
      go_upto_region 20 with fail
      go_region
      all_goals go_wp2
      all_goals refine bodyPost_ret (results_cc rfl _ _ w.heap.size (w.heap.size + 1) 51 28 #[.slice none 0 0, .slice none 0 0] #[.int .i64 16, .string i.f0, .int .i64 0, .int .i64 0] (0, 0) (0, 0) _ _ rfl (by first | exact blk_drew (faulted_p HJ6.1.rz 16 i.f0) | exact faulted_p HJ6.1.rz 16 i.f0) Try.underlying51 rfl hi51 rfl (by first | exact blk_drew (faulted_f HJ6.1.rz 16 i.f0) | exact faulted_f HJ6.1.rz 16 i.f0) Try.underlying28 rfl hi28) rfl ?_
      all_goals exact .inr (.inl ⟨HTN.1, i.f0, HMJ.1, post_fault w _ 16 i.f0 (by first | exact below_drew (faulted_below HJ6.1.bel 16 i.f0) | exact faulted_below HJ6.1.bel 16 i.f0)⟩)
   have q3 : decide (x < (l.length : Int)) = false := decide_eq_false hx
   have hxl : l.take x.toNat = l := List.take_of_length_le (by have := hk.1; omega)
   have hdl : l.drop x.toNat = [] := List.drop_of_length_le (by have := hk.1; omega)
   have hI2 := hI.1
   rw [hxl, hdl] at hI2
   have HIF := Az.mk hI2
   have HMN : Az (miss (l.map nm) l = none) := ⟨by rw [<- HK.1]; exact hI2.2.2.symm⟩
   clear hxl hdl hI2 hI hk hk0 hx
   obtain ⟨wp, rfl⟩ : ∃ wp, wp = wr := ⟨_, rfl⟩
   go_upto_region 25 with (first | (go_at_call 46; (refine (sorted_calls _ HIF.1.1.known (by omega)).mono ?_); rintro e w9 ⟨v9, ss, rfl, hel, hlen, hsz9, hrow, hb9⟩; obtain ⟨A9, c9, rfl⟩ := own_slice hrow; have HEL := Az.mk hel; have HLN := Az.mk hlen; have HRW := Az.mk hrow; have HB9 := Az.mk hb9; clear hel hlen hsz9 hrow hb9))
   obtain ⟨NL, hNL⟩ : ∃ NL, NL = asc K := ⟨_, rfl⟩
   have hperm := HEL.1.asc
   rw [<- hNL] at hperm
   have hnl : ss.length = NL.length := by rw [<- hperm]; exact (List.mergeSort_perm ss leB).length_eq.symm
   have hrw := HRW.1
   rw [hperm] at hrw
   have HNR := Az.mk (names_row hnl hrw)
   have hmem : ∀ x ∈ NL, x ∈ l.map nm := fun x hx => by
    rw [<- hperm] at hx
    have h2 := (HEL.1.mem x).1 ((List.mergeSort_perm ss leB).mem_iff.1 hx)
    rw [HK.1] at h2
    exact List.contains_iff_mem.1 h2
   have hpair : NL.Pairwise (fun a b => a <= b) := by rw [<- hperm]; exact leB_pair ss
   have hn100 : NL.length <= 100 := by rw [<- hnl]; exact HLN.1
   have HMEM := Az.mk hmem
   have HPA := Az.mk hpair
   have HN100 := Az.mk hn100
   have HNL := Az.mk hNL
   have hbp := (MapKept.heap_alloc w9 (Obj.cells #[Value.slice A9 ss.length c9, Value.slice none 0 0] 51)).1
   have hBp := below_alloc (Below.refl w9.heap.size w9) (Obj.cells #[Value.slice A9 ss.length c9, Value.slice none 0 0] 51)
   have HSZ9 : Az ((w9.alloc (Obj.cells #[Value.slice A9 ss.length c9, Value.slice none 0 0] 51)).heap.size = w9.heap.size + 1) := ⟨by simp⟩
   rw [hnl] at *
   have HBP := Az.mk hbp
   have HBW := Az.mk hBp
   have d0 : (w9.alloc (Obj.cells #[Value.slice A9 NL.length c9, Value.slice none 0 0] 51)).cell? ⟨w9.heap.size, 0, none⟩ = some (Value.slice A9 NL.length c9) := blk_cell hbp 0
   clear hperm hnl hrw hmem hpair hn100 hNL hbp hBp HEL HLN HRW
   generalize w9.alloc (Obj.cells #[Value.slice A9 NL.length c9, Value.slice none 0 0] 51) = w9p at *
   generalize hpb : w9.heap.size = pb at *
   have HPB := Az.mk hpb
   clear hpb
   go_wp2
   clear d0
   go_loopg [85] NL.length (fun kq v85 w' => ∃ (y : Int) (R2 : List (List Int)) (u : Value), v85 = .int .i64 y /\ Az (0 <= y /\ y.toNat + kq = NL.length) /\ Az (w'.heap[pb]? = some (Obj.cells #[Value.slice A9 NL.length c9, u] 51) /\ Kd.S (Kd.slice 3 (Kd.int .i64)) 55 w' (pb + 1) (fun _ => True) u R2 /\ R2 = (NL.take y.toNat).map (edgeOf l) /\ Below pb w9 w'))
   case atStart => exact ⟨0, [], _, rfl, ⟨by decide, by simp⟩, ⟨HBP.1, Kd.S_nil _ _ _ _ _, by simp, HBW.1⟩⟩
   case round =>
    obtain ⟨y, R2, u, rfl, hk, hI⟩ := hrel
    clear HBP HBW
    have hk0 := hk.1.1
    by_cases hy : y < (NL.length : Int)
    rotate_left
    · have q5 : decide (y < (NL.length : Int)) = false := decide_eq_false hy
      have hyl : NL.take y.toNat = NL := List.take_of_length_le (by have := hk.1; omega)
      have hI2 := hI.1
      rw [hyl] at hI2
      obtain ⟨Au, cu, rfl⟩ := Kd.S_slice hI2.2.1
      have HIE := Az.mk hI2
      have hz : RZ wr w.heap.size := HIF.1.1.rz.below (HB9.1.trans (hI2.2.2.2.mono (by have := HB9.1.size; have := HPB.1; omega)))
      have HZR := Az.mk hz
      have g0 := blk_cell hI2.1 0
      have g1 := blk_cell hI2.1 1
      have z0 := blk_cell hz.p 0
      have z1 := blk_cell hz.p 1
      have y0 := blk_cell hz.f 0
      have y1 := blk_cell hz.f 1
      have y2 := blk_cell hz.f 2
      have y3 := blk_cell hz.f 3
      have e0 := blk_frozen hz.p 0
      have e1 := blk_frozen hz.p 1
      have d0 := blk_frozen hz.f 0
      have d1 := blk_frozen hz.f 1
      have d2 := blk_frozen hz.f 2
      have d3 := blk_frozen hz.f 3
      clear hyl hI2 hz hy hk0
      go_wp2
      have hbR : Below w.heap.size w wr := HIF.1.1.bel.trans ((HB9.1.trans (HIE.1.2.2.2.mono (by have := HB9.1.size; have := HPB.1; omega))).mono HIF.1.1.bel.size)
      have hwp := blk_lt HIF.1.1.rz.f
      have hw9 := HB9.1.size
      have hp9 := HPB.1
      have en : namesOf l = NL.map bz := by unfold namesOf; rw [HNL.1, HK.1]
      have eE : edgesOf l = R2 := by unfold edgesOf; rw [HIE.1.2.2.1, HNL.1, HK.1]
      have hB9w : Below w9.heap.size w9 wr := by rw [HPB.1]; exact HIE.1.2.2.2
      refine bodyPost_ret (results_cc rfl _ _ w.heap.size (w.heap.size + 1) 51 28 #[.slice A9 NL.length c9, .slice Au R2.length cu] #[.int .i64 0, .string ⟨#[]⟩, .int .i64 0, .int .i64 0] (0, 0) (0, 0) _ _ rfl (stored_p HZR.1 _ _) Try.underlying51 rfl hi51 rfl (stored_f HZR.1 _ _) Try.underlying28 rfl hi28) rfl ?_
      refine .inr (.inr ⟨HTN.1, HMN.1, _, _, rfl, ?_, ?_, stored_below hbR _ _⟩)
      · rw [en]
        exact Kd.R_lower (Kd.R_mono (Kd.R_move (Kd.R_bound (Kd.R_below HNR.1 hB9w)) (fun k hk => stored_heap wr w.heap.size _ _ k (by have := hk.2.1; omega))) (fun _ _ => trivial)) (by omega)
      · rw [eE]
        exact Kd.S_lower (Kd.S_mono (Kd.S_move (Kd.S_bound HIE.1.2.1) (fun k hk => stored_heap wr w.heap.size _ _ k (by have := hk.2.1; omega))) (fun _ _ => trivial)) (by omega)
    have q5 : decide (y < (NL.length : Int)) = true := decide_eq_true hy
    have HY := Az.mk hy
    obtain ⟨g2k, rfl⟩ : ∃ g, g = gk := ⟨_, rfl⟩
    have hBn : Below w9.heap.size w9 wr := by rw [HPB.1]; exact hI.1.2.2.2
    have hNR := Kd.R_below HNR.1 hBn
    obtain ⟨hlA, hcA, hCA⟩ := Kd.R_reads' hNR
    obtain ⟨gA, cA2, eA, hgr⟩ := Kd.R_form hNR (by have := hk.1; omega)
    injection eA with eA1 eA2 eA3
    subst eA1
    subst eA3
    obtain ⟨ad, ea, hcy⟩ := Kd.at_string hCA y hk0 (by rw [List.length_map]; exact hy)
    injection ea with ea
    subst ea
    obtain ⟨hyl, hrd⟩ := rd_bz NL y hk0 hy
    rw [hrd, add_plain] at hcy
    have hymem : NL[y.toNat] ∈ NL := List.getElem_mem hyl
    have htk : NL.take (y.toNat + 1) = NL.take y.toNat ++ [NL[y.toNat]] := by rw [List.take_add_one, List.getElem?_eq_getElem hyl]; rfl
    have HCA := Az.mk hCA
    generalize NL[y.toNat] = nY at *
    have hK2 := HMEM.1 _ hymem
    have HTK := Az.mk htk
    obtain ⟨e, he, hge, hes⟩ := gof_imps HIF.1.2.1 hK2
    have hnsz : (bz nY).size <= maxLen := by
     obtain ⟨m, hm, hmn⟩ := List.mem_map.1 hK2
     have : bz nY = m.f0 := by rw [<- hmn]; rfl
     rw [this]; exact (HSZ.1 m hm).1
    have HE := Az.mk (And.intro he hes)
    have HIW := Az.mk (HIF.1.1.below HB9.1)
    have HIR : Az (Imp w wr bi K x.toNat E E) := ⟨HIW.1.below hBn⟩
    have hlk := HIR.1.im.look (bz nY) hnsz
    rw [bz_list, hge] at hlk
    have HSR := Az.mk (HIR.1.sets e he)
    have p5 := eq_true hk0
    have p6 : (y < (NL.length : Int)) = True := eq_true hy
    clear eA2 hgr hNR hCA hcA hlA hyl hrd hymem htk hK2 he hge hes hnsz hBn hy hk0
    go_upto_region 30 with (first | (go_at_call 46; (refine (sorted_calls _ HSR.1 (by omega)).mono ?_); rintro e w10 ⟨v10, ss2, rfl, hel, hlen, hsz9, hrow, hb9⟩; obtain ⟨A10, c10, rfl⟩ := own_slice hrow; have HEL2 := Az.mk hel; have HLN2 := Az.mk hlen; have HRW2 := Az.mk hrow; have HB10 := Az.mk hb9; clear hel hlen hsz9 hrow hb9))
    obtain ⟨ML, hML⟩ : ∃ ML, ML = asc (impsL l nY) := ⟨_, rfl⟩
    have hel2 := HEL2.1
    rw [HE.1.2] at hel2
    have hperm2 := hel2.asc
    rw [<- hML] at hperm2
    have hml : ss2.length = ML.length := by rw [<- hperm2]; exact (List.mergeSort_perm ss2 leB).length_eq.symm
    have hrw2 := HRW2.1
    rw [hperm2] at hrw2
    have HMR := Az.mk (names_row hml hrw2)
    have HLM : Az (ML.length <= 100000) := ⟨by rw [<- hml]; exact HLN2.1⟩
    rw [hml] at *
    have HML := Az.mk hML
    clear hel2 hperm2 hml hrw2 hML hcy hlk HEL2 HRW2 HIR HSR
    obtain ⟨wq, rfl⟩ : ∃ wq, wq = wr := ⟨_, rfl⟩
    go_loopg [15, 94] ML.length (fun kq v15 v94 w' => ∃ (z : Int) (T : List Int), v94 = .int .i64 z /\ Az (0 <= z /\ z.toNat + kq = ML.length) /\ Az (Kd.R (Kd.int .i64) 3 w' w10.heap.size (fun k => w10.heap.size <= k) v15 T /\ T = (ML.take z.toNat).map (fun x => (rank NL x : Int)) /\ Below w10.heap.size w10 w'))
    case atStart => exact ⟨0, [], rfl, ⟨by decide, by simp⟩, ⟨Kd.R_nil _ _ _ _ _, by simp, Below.refl _ _⟩⟩
    case round =>
     obtain ⟨z, T, rfl, hk2, hJ⟩ := hrel
     have hk20 := hk2.1.1
     by_cases hz : z < (ML.length : Int)
     · have q6 : decide (z < (ML.length : Int)) = true := decide_eq_true hz
       have HZ6 := Az.mk hz
       have hMR := Kd.R_below HMR.1 hJ.1.2.2
       obtain ⟨hlB, hcB, hCB⟩ := Kd.R_reads' hMR
       obtain ⟨gB, cB2, eB, hgr⟩ := Kd.R_form hMR (by have := hk2.1; simp only [List.length_map]; omega)
       injection eB with eB1 eB2 eB3
       subst eB1
       subst eB3
       obtain ⟨ad, ea, hcz⟩ := Kd.at_string hCB z hk20 (by rw [List.length_map]; exact hz)
       injection ea with ea
       subst ea
       obtain ⟨hzl, hrd⟩ := rd_bz ML z hk20 hz
       rw [hrd, add_plain] at hcz
       have htk : ML.take (z.toNat + 1) = ML.take z.toNat ++ [ML[z.toNat]] := by rw [List.take_add_one, List.getElem?_eq_getElem hzl]; rfl
       generalize ML[z.toNat] = nZ at *
       have HTK2 := Az.mk htk
       have HCN := Az.mk (Kd.C_below (Kd.C_below HCA.1 HB10.1) hJ.1.2.2)
       have hbp : wr.heap[pb]? = some (Obj.cells #[Value.slice (some ⟨gA, 0, none⟩) NL.length c9, u] 51) := blk_below (blk_below hI.1.1 HB10.1) hJ.1.2.2
       have d0 : wr.cell? ⟨pb, 0, none⟩ = some (Value.slice (some ⟨gA, 0, none⟩) NL.length c9) := blk_cell hbp 0
       have p7 := eq_true hk20
       have p8 : (z < (ML.length : Int)) = True := eq_true hz
       clear eB2 hgr hMR hCB hcB hlB hzl hrd htk hz hk20 hbp
       go_upto_region 33 with (first | (go_at_call 42; (refine (search_calls _ gA c9 NL (bz nZ) (by have h := HCN.1; rwa [List.length_map] at h) HPA.1 HN100.1).mono ?_); rintro e w11 ⟨bf, he, hd⟩; rw [bz_list] at he; subst he; have HD := Az.mk hd; clear hd))
       have hd := HD.1.below
       have hbJ := hJ.1.2.2
       have hs10 := hbJ.size
       have hs11 := hd.size
       have X3 := Az.mk (Kd.R_below hJ.1.1 hd)
       have hTl : T.length <= 100000 := by rw [hJ.1.2.1]; simp only [List.length_map, List.length_take]; have := HLM.1; omega
       have HB11 := Az.mk (hbJ.trans (hd.mono hs10))
       clear d0 hbJ hcz
       have hw1 : ∀ k, w11.heap.size <= k -> w10.heap.size <= k := fun k hk => by omega
       go_wp2_with ((with_reducible refine gate_builtin (b := .append) (xs := #[.tmp 105, .tmp 107]) rfl ?_); at_builtin; refine Kd.R_append (Kd.int .i64) (w0 := w11) w10.heap.size rfl (.tmp 105) (.tmp 107) 55 3 (.int .i64 0) 8 rfl Try.underlying55 info3 rfl (by decide) (by omega) u15 T (rank NL nZ : Nat) [.int .i64 (rank NL nZ : Nat)] (fun k => w10.heap.size <= k) (fun _ => False) rfl rfl rfl (fun _ hk => hk.elim) hw1 X3.1 (Below.refl _ _) ?hs ?hl ?_)
       (case hs => omega)
       (case hl => omega)
       intro v1 w12 ho hb hg hat
       have HO12 := Az.mk ho
       have HB12 := Az.mk (HB11.1.trans hb)
       clear ho hb hg hat hd hs10 hs11 X3 hTl hw1
       go_wp2
       go_roundg (gk - 1)
       case measure => have := hk2.1; have := HZ6.1; omega
       case rel =>
        have h1 := hk2.1
        have h2 := HZ6.1
        have h3 := HLM.1
        have et : (z + 1).toNat = z.toNat + 1 := by omega
        refine ⟨z + 1, T ++ [((rank NL nZ : Nat) : Int)], by rw [show wrap64 (z + 1) = z + 1 from by unfold wrap64; omega], ⟨by omega, by omega⟩, ⟨HO12.1, ?_, HB12.1⟩⟩
        rw [et, HTK2.1, List.map_append, <- hJ.1.2.1]
        rfl
     have q6 : decide (z < (ML.length : Int)) = false := decide_eq_false hz
     have hzl : ML.take z.toNat = ML := List.take_of_length_le (by have := hk2.1; omega)
     have hJ2 := hJ.1
     rw [hzl] at hJ2
     have HJE := Az.mk hJ2
     clear hzl hJ2 hz hk20
     go_upto_region 35 with fail
     have hbp : wr.heap[pb]? = some (Obj.cells #[Value.slice (some ⟨gA, 0, none⟩) NL.length c9, u] 51) := blk_below (blk_below hI.1.1 HB10.1) HJE.1.2.2
     obtain ⟨Au, cu, rfl⟩ := Kd.S_slice hI.1.2.1
     obtain ⟨At, ct, rfl⟩ := Kd.R_slice HJE.1.1
     have d1 : wr.cell? ⟨pb, 1, none⟩ = some (Value.slice Au R2.length cu) := blk_cell hbp 1
     have hsq := HB10.1.size
     have hsw := HJE.1.2.2.size
     have hs9 := hI.1.2.2.2.size
     have hpq := blk_lt hI.1.1
     have hSU := hI.1.2.1
     have hlt := Kd.S_lt hSU
     have HS3 := Az.mk (Kd.S_mono (ok' := fun k => True /\ ¬ w10.heap.size <= k) (Kd.S_below (Kd.S_below (Kd.S_bound hSU) HB10.1) HJE.1.2.2) (fun k hk => ⟨trivial, by have := hk.2.2.1; omega⟩))
     have HM3 : Az ((Kd.slice 3 (Kd.int .i64)).M wr (pb + 1) (fun k => w10.heap.size <= k) T [Value.slice At T.length ct]) := ⟨⟨_, rfl, Kd.R_lower HJE.1.1 (by omega)⟩⟩
     have hokp : ∀ k, w10.heap.size <= k -> True /\ some k ≠ (Value.slice Au R2.length cu).ownBlock := fun k hk => ⟨trivial, fun he => by have := hlt k he.symm; omega⟩
     have HR2 : Az (R2.length <= 100) := ⟨by rw [hI.1.2.2.1]; simp only [List.length_map, List.length_take]; have := HN100.1; omega⟩
     have hbs : pb + 1 <= wr.heap.size := by omega
     have HBP3 := Az.mk hbp
     clear hsq hsw hs9 hpq hSU hlt hbp
     go_wp2_with ((with_reducible refine gate_builtin (b := .append) (xs := #[.tmp 112, .tmp 114]) rfl ?_); at_builtin; refine Kd.S_append (Kd.slice 3 (Kd.int .i64)) (w0 := wr) (pb + 1) rfl (.tmp 112) (.tmp 114) 47 55 (.slice none 0 0) 24 rfl Try.underlying47 info55m rfl Nat.zero_lt_one (by omega) (.slice Au R2.length cu) R2 T [.slice At T.length ct] (fun _ => True) (fun k => w10.heap.size <= k) rfl rfl HM3.1 hokp (fun _ _ => trivial) HS3.1 (Below.refl _ _) hbs ?hl ?_)
     (case hl => have := HR2.1; omega)
     intro v1 w12 ho hb hg hat
     obtain ⟨A12, c12, rfl⟩ := Kd.S_slice ho
     have hbp12 : w12.heap[pb]? = some (Obj.cells #[Value.slice (some ⟨gA, 0, none⟩) NL.length c9, Value.slice Au R2.length cu] 51) := (hb.block pb (Nat.lt_succ_self pb)).trans HBP3.1
     have HO12 := Az.mk ho
     have HB12 := Az.mk hb
     have HBP12 := Az.mk hbp12
     have e1 := blk_frozen hbp12 1
     have d2 : w12.cell? ⟨pb, 1, none⟩ = some (Value.slice Au R2.length cu) := blk_cell hbp12 1
     clear ho hb hg hat d1 hokp HM3 HS3 hbs hbp12
     go_wp2
     go_roundg (g2k - 1)
     case measure => have := hk.1; have := HY.1; omega
     case rel =>
      have h1 := hk.1
      have h2 := HY.1
      have h3 := HN100.1
      have et : (y + 1).toNat = y.toNat + 1 := by omega
      have hs9 := hI.1.2.2.2.size
      have hsq := HB10.1.size
      have hsj := HJE.1.2.2.size
      have hpq := blk_lt hI.1.1
      have hp9 := HPB.1
      have b1 : Below pb w9 w12 := ((hI.1.2.2.2.trans (HB10.1.mono (by omega))).trans (HJE.1.2.2.mono (by omega))).trans (HB12.1.mono (by omega))
      refine ⟨y + 1, R2 ++ [T], .slice A12 (R2 ++ [T]).length c12, by rw [show wrap64 (y + 1) = y + 1 from by unfold wrap64; omega], ⟨by omega, by omega⟩, ⟨?_, ?_, ?_, ?_⟩⟩
      · first
         | exact blk_put HBP12.1 1 _ rfl
         | (rw [List.length_append]; exact blk_put HBP12.1 1 _ rfl)
      · exact Kd.S_mono (Kd.S_far (p := ⟨pb, 1, none⟩) (Kd.S_bound HO12.1) (fun k hk => by have := hk.2.1; show k ≠ pb; omega) _) (fun _ _ => trivial)
      · rw [et, HTK.1, List.map_append, <- hI.1.2.2.1, HJE.1.2.1, HML.1, HNL.1, HK.1]
        rfl
      · exact b1.setCell (Nat.le_refl _) _
theorem made_big (w : World) (A0 : Option Addr) (c0 : Nat) (l : List S42) (hl : (l.length : Int) > 32) :
 Calls Try.prog 34 #[.slice A0 l.length c0] w fun e w' => MadePost w [] [] 3 ⟨#[]⟩ e w' := by
 have q1 : decide (32 < (l.length : Int)) = true := decide_eq_true hl
 have q2 : decide (32 < l.length) = true := decide_eq_true (by omega)
 clear hl
 go_enter Try.func34, Try.ntmps34
 go_wp2
 have hz := rz_new w
 have hp3 : ((w.alloc (Obj.cells #[Value.slice none 0 0, Value.slice none 0 0] 51)).alloc (Obj.cells #[Value.int .i64 3, Value.string ⟨#[]⟩, Value.int .i64 0, Value.int .i64 0] 28)).heap[w.heap.size]? = some (.cells #[.slice none 0 0, .slice none 0 0] 51 (0, 0)) := blk_alloc (MapKept.heap_alloc w (Obj.cells #[Value.slice none 0 0, Value.slice none 0 0] 51)).1 _
 have hf3 : ((w.alloc (Obj.cells #[Value.slice none 0 0, Value.slice none 0 0] 51)).alloc (Obj.cells #[Value.int .i64 3, Value.string ⟨#[]⟩, Value.int .i64 0, Value.int .i64 0] 28)).heap[w.heap.size + 1]? = some (.cells #[.int .i64 3, .string ⟨#[]⟩, .int .i64 0, .int .i64 0] 28 (0, 0)) := by
  have h2 := (MapKept.heap_alloc (w.alloc (Obj.cells #[Value.slice none 0 0, Value.slice none 0 0] 51)) (Obj.cells #[Value.int .i64 3, Value.string ⟨#[]⟩, Value.int .i64 0, Value.int .i64 0] 28)).1
  have e : (w.alloc (Obj.cells #[Value.slice none 0 0, Value.slice none 0 0] 51)).heap.size = w.heap.size + 1 := by simp
  rw [e] at h2
  exact h2
 have hb := below_alloc (below_alloc (Below.refl w.heap.size w) (Obj.cells #[Value.slice none 0 0, Value.slice none 0 0] 51)) (Obj.cells #[Value.int .i64 3, Value.string ⟨#[]⟩, Value.int .i64 0, Value.int .i64 0] 28)
 refine bodyPost_ret (results_cc rfl _ _ w.heap.size (w.heap.size + 1) 51 28 #[.slice none 0 0, .slice none 0 0] #[.int .i64 3, .string ⟨#[]⟩, .int .i64 0, .int .i64 0] (0, 0) (0, 0) _ _ rfl hp3 Try.underlying51 rfl hi51 rfl hf3 Try.underlying28 rfl hi28) rfl ?_
 exact post_fault w _ 3 ⟨#[]⟩ hb
def okSizes (l : List S42) : Prop := ∀ m ∈ l, m.f0.size <= maxLen /\ m.f3.length <= 100000 /\ ∀ i ∈ m.f3, i.f0.size <= maxLen
end Mg
namespace P
open Mg
open Classical in
noncomputable def m_made.f (l : List S42) : Option (List ByteArray × List (List Int) × Int × ByteArray × Int × Int) :=
 if (l.length : Int) > 32 then some ([], [], 3, ⟨#[]⟩, 0, 0) else if okSizes l then
  match twice l [] with
  | some x => some ([], [], 13, x, 0, 0)
  | none => match miss (l.map nm) l with
   | some x => some ([], [], 16, x, 0, 0)
   | none => some (namesOf l, edgesOf l, 0, ⟨#[]⟩, 0, 0)
 else none
theorem m_made.calls (A0 : Option Addr) (c0 : Nat) (l0 : List S42) (r1 : List ByteArray) (r2 : List (List Int)) (r3 : Int) (r4 : ByteArray) (r5 r6 : Int) (w : World) (hr0 : Kd.C k42 w A0 l0.length l0) (hc0 : l0.length <= c0) (h : m_made.f l0 = some (r1, r2, r3, r4, r5, r6)) :
 Calls Try.prog 34 #[.slice A0 l0.length c0] w fun e w' => ∃ v0_ v1_ : Value, e = .returned (.tuple #[.agg #[v0_, v1_], .agg #[.int .i64 r3, .string r4, .int .i64 r5, .int .i64 r6]]) /\ Kd.R Kd.string 9 w' w.heap.size (fun _ => True) v0_ r1 /\ Kd.S (Kd.slice 3 (Kd.int .i64)) 55 w' w.heap.size (fun _ => True) v1_ r2 /\ Below w.heap.size w w' := by
 unfold m_made.f at h
 by_cases hl : (l0.length : Int) > 32
 · rw [if_pos hl] at h
   simp only [Option.some.injEq, Prod.mk.injEq] at h
   obtain ⟨rfl, rfl, rfl, rfl, rfl, rfl⟩ := h
   exact made_big w A0 c0 l0 hl
 rw [if_neg hl] at h
 by_cases hs : okSizes l0
 rotate_left
 · rw [if_neg hs] at h
   cases h
 rw [if_pos hs] at h
 refine (made_walk w A0 c0 l0 hr0 hc0 hs hl).mono fun e w' h2 => ?_
 rcases h2 with ⟨x, hx, hp⟩ | ⟨hx, x, hy, hp⟩ | ⟨hx, hy, hp⟩
 · rw [hx] at h
   simp only [Option.some.injEq, Prod.mk.injEq] at h
   obtain ⟨rfl, rfl, rfl, rfl, rfl, rfl⟩ := h
   exact hp
 · rw [hx] at h
   simp only [hy, Option.some.injEq, Prod.mk.injEq] at h
   obtain ⟨rfl, rfl, rfl, rfl, rfl, rfl⟩ := h
   exact hp
 · rw [hx] at h
   simp only [hy, Option.some.injEq, Prod.mk.injEq] at h
   obtain ⟨rfl, rfl, rfl, rfl, rfl, rfl⟩ := h
   exact hp
end P
end Go.Proofs.Ytmadhaccjmakdaa
namespace Go.Proofs.Ytmadhaccjmakdaa.P
open Go.RowKit Go.Proofs.Yw.A Go.Proofs.Yw.A.Kd Go.Proofs.Yw.B Go.Proofs.Yw.C
attribute [local go_sem] str_gtr str_leq str_geq max2_int min2_int max_two min_two max_three min_three max_four min_four
noncomputable def m_Cycle.f (k : Nat) (l0 : List (S42)) : Option (List ByteArray) := (m_made.f l0).bind fun bt276 => (if bt276.2.2.1 = 0 then ((p_cycle.f k bt276.1 bt276.2.1).bind fun t288 => ((p_named.f k bt276.1 bt276.2.1 t288).bind fun t291 => (some t291))) else (some ([] : List ByteArray)))
theorem m_Cycle.calls (k : Nat) (A0 : Option Addr) (c0 : Nat) (l0 : List (S42)) (r : List ByteArray) (w : World) (hr0 : Kd.C k42 w A0 l0.length l0) (hc0 : l0.length <= c0) (h : m_Cycle.f k l0 = some r) :
 Calls Try.prog 19 #[.slice A0 l0.length c0] w fun e w' => ∃ v0_ : Value, e = .returned (v0_) /\ Kd.R Kd.string 9 w' w.heap.size (fun _ => True) v0_ r /\ Below w.heap.size w w' := by
 have hu51 := Try.underlying51
 have hu28 := Try.underlying28
 have HR0 := aM hr0
 have HC0 := aM hc0
 clear hr0 hc0
 have HB := aM (Below.refl w.heap.size w)
 have H : ((m_made.f l0).bind fun bt276 => (if bt276.2.2.1 = 0 then ((p_cycle.f k bt276.1 bt276.2.1).bind fun t288 => ((p_named.f k bt276.1 bt276.2.1 t288).bind fun t291 => (some t291))) else (some ([] : List ByteArray)))) = some r := h
 clear h
 replace H := Option.bind_eq_some_iff.mp H
 obtain ⟨⟨t276, t279, t282, t283, t284, t285⟩, A20, H⟩ := H
 try dsimp only at H
 have A2 := aM A20
 clear A20
 by_cases c3 : t282 = 0
 rotate_left
 · rw [if_neg c3] at H
   have c3b0 : (t282 == 0) = false := beq_eq_false_iff_ne.mpr c3
   have c3b1 : (t282 != 0) = true := bne_iff_ne.mpr c3
   obtain rfl := Option.some.inj H
   go_enter Try.func19, Try.ntmps19
   go_wp2_with (first | ((with_reducible refine gate_callee (f := 34) rfl ?_); refine gL (some 7) rfl rfl Try.func34 (by kernel_rfl) rfl #[.slice A0 l0.length c0] rfl ?_; (with_reducible refine (m_made.calls _ _ l0 t276 t279 t282 t283 t284 t285 _ ?side1 ?side2 A2.1).mono ?_); (case side1 => exact ck HR0); (case side2 => exact HC0.1); rintro e w19 ⟨v277, v280, rfl, ho0, ho1, hb⟩; refine ⟨_, rfl, ?_⟩; have HO278 := aM (R_lower ho0 (below_size (hh HB))); have HO281 := aM (S_lower ho1 (below_size (hh HB))); replace HB := bs HB hb; clear hb ho0 ho1) | ((with_reducible refine gate_dst (N := 3) rfl ?_); refine be 3 rfl rfl #[.slice none 0 0, .slice none 0 0] 51 ?_; intro gb286 hg w20 hbox hb; have BK286 := aM hbox; have GE286 := gs hg HB; replace HO278 := rb HO278 hb; replace HO281 := sb HO281 hb; replace HB := bs HB hb; clear hb hbox hg) | ((with_reducible refine gate_dst (N := 4) rfl ?_); refine be 4 rfl rfl #[.int .i64 0, .string (⟨#[]⟩ : ByteArray), .int .i64 0, .int .i64 0] 28 ?_; intro gb287 hg w21 hbox hb; have BK287 := aM hbox; have GE287 := gs hg HB; have NB286_287 := nl hg BK286; have NB287_286 := nr hg BK286; replace HO278 := rb HO278 hb; replace HO281 := sb HO281 hb; replace BK286 := kb BK286 hb; replace HB := bs HB hb; clear hb hbox hg; obtain ⟨Ao22, co22, eo22⟩ := R_slice HO278.1; subst eo22; have hnb23 := NB286_287.1; have hnc23 := NB287_286.1; obtain ⟨hcz24_0, hcz24_1⟩ := cz2 BK286; obtain ⟨hfz24_0, hfz24_1⟩ := fz2 BK286; obtain ⟨Ao25, co25, eo25⟩ := S_slice HO281.1; subst eo25; obtain ⟨hcz26_0, hcz26_1, hcz26_2, hcz26_3⟩ := cz BK287; obtain ⟨hfz26_0, hfz26_1, hfz26_2, hfz26_3⟩ := fz BK287))
   go_ret
   exact ⟨_, by first | rfl | (simp [errW_none, errW_some] <;> rfl) | (simp [*, errW_none, errW_some] <;> rfl), by first | exact R_nil _ _ _ _ _ | exact N_nil _ _ _ _ _ | exact V_nil _ _ _ _ _ | exact Q_nil _ _ _ _ _ | exact S_nil _ _ _ _ _, hh HB⟩
 rw [if_pos c3] at H
 have c3b0 : (t282 == 0) = true := beq_iff_eq.mpr c3
 have c3b1 : (t282 != 0) = false := bne_eq_false_iff_eq.mpr c3
 clear c3
 replace H := Option.bind_eq_some_iff.mp H
 obtain ⟨t288, A40, H⟩ := H
 try dsimp only at H
 have A4 := aM A40
 clear A40
 replace H := Option.bind_eq_some_iff.mp H
 obtain ⟨t291, A50, H⟩ := H
 try dsimp only at H
 have A5 := aM A50
 clear A50
 obtain rfl := Option.some.inj H
 go_enter Try.func19, Try.ntmps19
 try go_wp2_with (first | ((with_reducible refine gate_callee (f := 34) rfl ?_); refine gL (some 7) rfl rfl Try.func34 (by kernel_rfl) rfl #[.slice A0 l0.length c0] rfl ?_; (with_reducible refine (m_made.calls _ _ l0 t276 t279 t282 t283 t284 t285 _ ?side1 ?side2 A2.1).mono ?_); (case side1 => exact ck HR0); (case side2 => exact HC0.1); rintro e w6 ⟨v277, v280, rfl, ho0, ho1, hb⟩; refine ⟨_, rfl, ?_⟩; have HO278 := aM (R_lower ho0 (below_size (hh HB))); have HO281 := aM (S_lower ho1 (below_size (hh HB))); replace HB := bs HB hb; clear hb ho0 ho1) | ((with_reducible refine gate_dst (N := 3) rfl ?_); refine be 3 rfl rfl #[.slice none 0 0, .slice none 0 0] 51 ?_; intro gb286 hg w7 hbox hb; have BK286 := aM hbox; have GE286 := gs hg HB; replace HO278 := rb HO278 hb; replace HO281 := sb HO281 hb; replace HB := bs HB hb; clear hb hbox hg) | ((with_reducible refine gate_dst (N := 4) rfl ?_); refine be 4 rfl rfl #[.int .i64 0, .string (⟨#[]⟩ : ByteArray), .int .i64 0, .int .i64 0] 28 ?_; intro gb287 hg w8 hbox hb; have BK287 := aM hbox; have GE287 := gs hg HB; have NB286_287 := nl hg BK286; have NB287_286 := nr hg BK286; replace HO278 := rb HO278 hb; replace HO281 := sb HO281 hb; replace BK286 := kb BK286 hb; replace HB := bs HB hb; clear hb hbox hg; obtain ⟨Ao9, co9, eo9⟩ := R_slice HO278.1; subst eo9; have hnb10 := NB286_287.1; have hnc10 := NB287_286.1; obtain ⟨hcz11_0, hcz11_1⟩ := cz2 BK286; obtain ⟨hfz11_0, hfz11_1⟩ := fz2 BK286; obtain ⟨Ao12, co12, eo12⟩ := S_slice HO281.1; subst eo12; obtain ⟨hcz13_0, hcz13_1, hcz13_2, hcz13_3⟩ := cz BK287; obtain ⟨hfz13_0, hfz13_1, hfz13_2, hfz13_3⟩ := fz BK287))
 have n0_ : Az (Kd.R Kd.string 9 ((((((w8.setCell ⟨gb286, 0, none⟩ (.slice Ao9 t276.length co9)).setCell ⟨gb286, 1, none⟩ (.slice Ao12 t279.length co12)).setCell ⟨gb287, 0, none⟩ (.int .i64 t282)).setCell ⟨gb287, 1, none⟩ (.string t283)).setCell ⟨gb287, 2, none⟩ (.int .i64 t284)).setCell ⟨gb287, 3, none⟩ (.int .i64 t285)) w.heap.size (fun _ => True) (.slice Ao9 t276.length co9) t276) := ⟨rz (R_mono (R_far (p := ⟨gb287, 3, none⟩) (R_far (p := ⟨gb287, 2, none⟩) (R_far (p := ⟨gb287, 1, none⟩) (R_far (p := ⟨gb287, 0, none⟩) (R_far (p := ⟨gb286, 1, none⟩) (R_far (p := ⟨gb286, 0, none⟩) (R_types (R_types HO278.1 BK286.1 (by decide)) BK287.1 (by decide)) (fun _ hk => hk.1.2) (.slice Ao9 t276.length co9)) (fun _ hk => hk.1.2) (.slice Ao12 t279.length co12)) (fun _ hk => hk.2) (.int .i64 t282)) (fun _ hk => hk.2) (.string t283)) (fun _ hk => hk.2) (.int .i64 t284)) (fun _ hk => hk.2) (.int .i64 t285)) (fun _ hk => trivial))⟩
 have n1_ : Az (Kd.S (Kd.slice 3 (Kd.int .i64)) 55 ((((((w8.setCell ⟨gb286, 0, none⟩ (.slice Ao9 t276.length co9)).setCell ⟨gb286, 1, none⟩ (.slice Ao12 t279.length co12)).setCell ⟨gb287, 0, none⟩ (.int .i64 t282)).setCell ⟨gb287, 1, none⟩ (.string t283)).setCell ⟨gb287, 2, none⟩ (.int .i64 t284)).setCell ⟨gb287, 3, none⟩ (.int .i64 t285)) w.heap.size (fun _ => True) (.slice Ao12 t279.length co12) t279) := ⟨sz (S_mono (S_far (p := ⟨gb287, 3, none⟩) (S_far (p := ⟨gb287, 2, none⟩) (S_far (p := ⟨gb287, 1, none⟩) (S_far (p := ⟨gb287, 0, none⟩) (S_far (p := ⟨gb286, 1, none⟩) (S_far (p := ⟨gb286, 0, none⟩) (S_types (S_types HO281.1 BK286.1 (by decide)) BK287.1 (by decide)) (fun _ hk => hk.1.2) (.slice Ao9 t276.length co9)) (fun _ hk => hk.1.2) (.slice Ao12 t279.length co12)) (fun _ hk => hk.2) (.int .i64 t282)) (fun _ hk => hk.2) (.string t283)) (fun _ hk => hk.2) (.int .i64 t284)) (fun _ hk => hk.2) (.int .i64 t285)) (fun _ hk => trivial))⟩
 have n2_ : Az (((((((w8.setCell ⟨gb286, 0, none⟩ (.slice Ao9 t276.length co9)).setCell ⟨gb286, 1, none⟩ (.slice Ao12 t279.length co12)).setCell ⟨gb287, 0, none⟩ (.int .i64 t282)).setCell ⟨gb287, 1, none⟩ (.string t283)).setCell ⟨gb287, 2, none⟩ (.int .i64 t284)).setCell ⟨gb287, 3, none⟩ (.int .i64 t285)).heap[gb286]? = some (.cells #[.slice Ao9 t276.length co9, .slice Ao12 t279.length co12] 51 (0, 0))) := ⟨kf BK286⟩
 have n3_ : Az (((((((w8.setCell ⟨gb286, 0, none⟩ (.slice Ao9 t276.length co9)).setCell ⟨gb286, 1, none⟩ (.slice Ao12 t279.length co12)).setCell ⟨gb287, 0, none⟩ (.int .i64 t282)).setCell ⟨gb287, 1, none⟩ (.string t283)).setCell ⟨gb287, 2, none⟩ (.int .i64 t284)).setCell ⟨gb287, 3, none⟩ (.int .i64 t285)).heap[gb287]? = some (.cells #[.int .i64 t282, .string t283, .int .i64 t284, .int .i64 t285] 28 (0, 0))) := ⟨kf BK287⟩
 have n4_ : Az (Below w.heap.size w ((((((w8.setCell ⟨gb286, 0, none⟩ (.slice Ao9 t276.length co9)).setCell ⟨gb286, 1, none⟩ (.slice Ao12 t279.length co12)).setCell ⟨gb287, 0, none⟩ (.int .i64 t282)).setCell ⟨gb287, 1, none⟩ (.string t283)).setCell ⟨gb287, 2, none⟩ (.int .i64 t284)).setCell ⟨gb287, 3, none⟩ (.int .i64 t285))) := ⟨hh HB⟩
 (clear HO278)
 (clear HO281)
 (clear BK286)
 (clear BK287)
 (clear HB)
 generalize ((((((w8.setCell ⟨gb286, 0, none⟩ (.slice Ao9 t276.length co9)).setCell ⟨gb286, 1, none⟩ (.slice Ao12 t279.length co12)).setCell ⟨gb287, 0, none⟩ (.int .i64 t282)).setCell ⟨gb287, 1, none⟩ (.string t283)).setCell ⟨gb287, 2, none⟩ (.int .i64 t284)).setCell ⟨gb287, 3, none⟩ (.int .i64 t285)) = w14 at n0_ n1_ n2_ n3_ n4_ ⊢
 have HO278 := n0_
 have HO281 := n1_
 have BK286 := n2_
 have BK287 := n3_
 have HB := n4_
 clear n0_ n1_ n2_ n3_ n4_
 replace HO278 := aM (R_drew HO278.1)
 replace HO281 := aM (S_drew HO281.1)
 replace BK286 := aM (blk_drew BK286.1)
 replace BK287 := aM (blk_drew BK287.1)
 replace HB := aM (below_drew1 HB.1)
 refine start_ (n := 5) (S := fun w' => w'.cell? ⟨gb286, 0, none⟩ = some (.slice Ao9 t276.length co9) /\ w'.cell? ⟨gb286, 1, none⟩ = some (.slice Ao12 t279.length co12)) (ds := []) #[F_, F_, F_, F_, F_] (by kernel_rfl) rfl rfl ⟨(blk_cell BK286.1 0).trans rfl, (blk_cell BK286.1 1).trans rfl⟩ (fun hHeld => ?_)
 generalize w14.drew = w15 at HO278 HO281 BK286 BK287 HB hHeld ⊢
 refine take_ (i := 0) (N := some 13) (v := ?_) (a' := ?_) #[T_, F_, F_, F_, F_] rfl rfl (by kernel_rfl) (fun _ _ _ h => h) (Or.inl ⟨by rfl, ?_⟩) hHeld ?_ ?_
 rotate_left
 · rintro w' ⟨s0, s1⟩
   go_simp
   with_reducible rfl
 rotate_left
 · simp only [Act.put, sA, sZ, sS, i64_w, i32_w]
   rfl
 refine take_ (i := 1) (N := some 14) (v := ?_) (a' := ?_) #[T_, T_, F_, F_, F_] rfl rfl (by kernel_rfl) (fun _ _ _ h => h) (Or.inl ⟨by rfl, ?_⟩) hHeld ?_ ?_
 rotate_left
 · rintro w' ⟨s0, s1⟩
   go_simp
   with_reducible rfl
 rotate_left
 · simp only [Act.put, sA, sZ, sS, i64_w, i32_w]
   rfl
 refine one_ (i := 2) (N := some 15) #[T_, T_, T_, F_, F_] rfl rfl (by kernel_rfl) (by decide) (fun K hK => ?_)
 refine goes_ Try.func35 (by kernel_rfl) rfl #[.agg #[.slice Ao9 t276.length co9, .slice Ao12 t279.length co12]] (by rfl) rfl rfl (by (try simp only [List.map_toArray, List.map_cons, List.map_nil]); first | done | rfl | (simp only [List.length_drop, List.length_take]; rfl)) ?_
 with_reducible refine (p_cycle.calls k _ _ t276 _ _ t279 t288 _ ?side1 ?side2 ?side3 ?side4 A4.1).mono ?_
 (case side1 => exact cr HO278)
 (case side2 => exact (R_reads' HO278.1).2.1)
 (case side3 => repeat (first | exact (S_reads' HO281.1).2.2 | (with_reducible refine C_alloc ?_ _) | (with_reducible refine C_drewN ?_ _) | (with_reducible refine C_drew ?_)))
 (case side4 => exact (S_reads' HO281.1).2.1)
 rintro e w16 ⟨v289, rfl, ho0, hb⟩
 refine ⟨_, rfl, ?_⟩
 have HO290 := aM (R_lower ho0 (below_size (hh HB)))
 replace HO278 := rb HO278 hb
 replace HO281 := aM (S_elder' (sk HO281) (R_base ho0) hb)
 replace BK286 := kb BK286 hb
 replace BK287 := kb BK287 hb
 replace HB := bs HB hb
 (clear hb)
 skip
 skip
 skip
 (clear ho0)
 obtain ⟨Ao17, co17, eo17⟩ := R_slice HO290.1
 (first | subst eo17 | (injection eo17 with f1_ f2_ f3_; have f4_ := f1_.symm; have f5_ := f3_.symm; clear f1_ f2_ f3_; subst f4_; subst f5_))
 refine hK.out _ _ ⟨(blk_cell BK286.1 0).trans rfl, (blk_cell BK286.1 1).trans rfl⟩ (fun hHeld => ?_)
 clear hK K
 refine norm_ (a' := ?_) ?_ ?_
 rotate_left
 · show Act.put _ (some 15) _ = _
   simp only [Act.put, sA, sZ, sS, i64_w, i32_w]
   rfl
 refine one_ (i := 3) (N := some 16) #[T_, T_, T_, T_, F_] rfl rfl (by kernel_rfl) (by decide) (fun K hK => ?_)
 refine goes_ Try.func26 (by kernel_rfl) rfl #[.agg #[.slice Ao9 t276.length co9, .slice Ao12 t279.length co12], .slice Ao17 t288.length co17] (by rfl) rfl rfl (by (try simp only [List.map_toArray, List.map_cons, List.map_nil]); first | done | rfl | (simp only [List.length_drop, List.length_take]; rfl)) ?_
 with_reducible refine (p_named.calls k _ _ t276 _ _ t279 _ _ t288 t291 _ ?side1 ?side2 ?side3 ?side4 ?side5 ?side6 A5.1).mono ?_
 (case side1 => exact cr HO278)
 (case side2 => exact (R_reads' HO278.1).2.1)
 (case side3 => repeat (first | exact (S_reads' HO281.1).2.2 | (with_reducible refine C_alloc ?_ _) | (with_reducible refine C_drewN ?_ _) | (with_reducible refine C_drew ?_)))
 (case side4 => exact (S_reads' HO281.1).2.1)
 (case side5 => exact cr HO290)
 (case side6 => exact (R_reads' HO290.1).2.1)
 rintro e w18 ⟨v292, rfl, ho0, hb⟩
 refine ⟨_, rfl, ?_⟩
 have HO293 := aM (R_lower (R_new' ho0 (R_lt (rk HO278))) (below_size (hh HB)))
 replace HO278 := aM (R_elder' (rk HO278) (R_base ho0) hb)
 replace HO281 := sb HO281 hb
 replace HO290 := rb HO290 hb
 replace BK286 := kb BK286 hb
 replace BK287 := kb BK287 hb
 replace HB := bs HB hb
 (clear hb)
 skip
 skip
 skip
 (clear ho0)
 refine hK.out _ _ ⟨(blk_cell BK286.1 0).trans rfl, (blk_cell BK286.1 1).trans rfl⟩ (fun hHeld => ?_)
 clear hK K
 refine norm_ (a' := ?_) ?_ ?_
 rotate_left
 · show Act.put _ (some 16) _ = _
   simp only [Act.put, sA, sZ, sS, i64_w, i32_w]
   rfl
 refine pure_ (i := 4) (N := some 2) (v := ?_) (a' := ?_) #[T_, T_, T_, T_, T_] rfl rfl (by kernel_rfl) (fun _ _ _ h => h) (Or.inl ⟨by rfl, ?_⟩) ?_ ?_
 rotate_left
 · intro w'
   go_simp
   with_reducible rfl
 rotate_left
 · simp only [Act.put, sA, sZ, sS, i64_w, i32_w]
   rfl
 refine done_ (by kernel_rfl) ?_
 try go_wp2
 go_ret
 exact ⟨_, by first | rfl | (simp [errW_none, errW_some] <;> rfl) | (simp [*, errW_none, errW_some] <;> rfl), rz (R_mono HO293.1 (fun _ hk => trivial)), hh HB⟩
end Go.Proofs.Ytmadhaccjmakdaa.P
namespace Go.Proofs.Ytmadhaccjmakdaa
open Go.RowKit Go.Proofs.Yw.A Go.Proofs.Yw.B Go.Proofs.Yw.C
@[go_sem] theorem field28_0 (a c d : Int) (b : ByteArray) (w : World) : Sem.run Try.prog (Instr.field 28 (.agg #[.int .i64 a, .string b, .int .i64 c, .int .i64 d]) 0) w = .ok (.int .i64 a) w := by
  have h := Try.underlying28
  simp [Instr.field, asAgg, go_sem, h]
@[go_sem] theorem field28_1 (a c d : Int) (b : ByteArray) (w : World) : Sem.run Try.prog (Instr.field 28 (.agg #[.int .i64 a, .string b, .int .i64 c, .int .i64 d]) 1) w = .ok (.string b) w := by
  have h := Try.underlying28
  simp [Instr.field, asAgg, go_sem, h]
@[go_sem] theorem field28_2 (a c d : Int) (b : ByteArray) (w : World) : Sem.run Try.prog (Instr.field 28 (.agg #[.int .i64 a, .string b, .int .i64 c, .int .i64 d]) 2) w = .ok (.int .i64 c) w := by
  have h := Try.underlying28
  simp [Instr.field, asAgg, go_sem, h]
@[go_sem] theorem field28_3 (a c d : Int) (b : ByteArray) (w : World) : Sem.run Try.prog (Instr.field 28 (.agg #[.int .i64 a, .string b, .int .i64 c, .int .i64 d]) 3) w = .ok (.int .i64 d) w := by
  have h := Try.underlying28
  simp [Instr.field, asAgg, go_sem, h]
end Go.Proofs.Ytmadhaccjmakdaa
namespace Go.Proofs.Ytmadhaccjmakdaa.P
open Go.RowKit Go.Proofs.Yw.A Go.Proofs.Yw.A.Kd Go.Proofs.Yw.B Go.Proofs.Yw.C
attribute [local go_sem] str_gtr str_leq str_geq max2_int min2_int max_two min_two max_three min_three max_four min_four
noncomputable def w_module.l0 : Nat -> List ByteArray -> Int -> ByteArray -> Bool -> List (S66) -> RawS -> Option (ByteArray × Bool × (List (S138)) × (List (S66)) × RawS)
 | 0, _, _, _, _, _, _ => none
 | k + 1, x1, x6, x296000, x296001, x296003, x296004 => if x6 < (x1.length : Int) then (if 0 <= x6 then (if x296003.length < 1954687338268 then (w_module.l0 k x1 (wrap64 (x6 + 1)) x296000 x296001 (x296003 ++ [(⟨rdOf ByteArray.empty x1 x6, false, (⟨#[]⟩ : ByteArray), false, false, ([] : List (S138))⟩ : S66)]) x296004) else (none)) else (none)) else (some (x296000, x296001, ([] : List (S138)), x296003, x296004))
noncomputable def w_module.f (k : Nat) (a0 : ByteArray) (l1 : List ByteArray) : Option (ByteArray × Bool × (List (S138)) × (List (S66)) × RawS) := w_module.l0 k l1 0 a0 false ([] : List (S66)) RawS.nil
noncomputable def w_module.T5 : Bool × List (List Nat × List Nat) := (true, [([], []), ([0], [0]), ([], []), ([], []), ([2, 3], [2, 3]), ([4], [4]), ([5], [5]), ([6], [6]), ([1, 7], [1, 7]), ([0, 1, 2, 3, 4, 5, 6, 7, 8], []), ([9, 8, 8, 0, 1, 2, 3, 4, 5, 6, 7, 8], [8, 9])])
noncomputable def w_module.B5 : List Nat := [0, 1, 0, 0, 12, 28, 60, 124, 255, 511, 1023]
theorem w_module.tab5 : rtab .any (opsOf Try.f23 5) = w_module.T5 := by kernel_rfl
theorem w_module.bits5 : waitsOk w_module.T5.2 w_module.B5 = true := by kernel_rfl
theorem w_module.calls (k : Nat) (a0 : ByteArray) (A1 : Option Addr) (c1 : Nat) (l1 : List ByteArray) (r1 : ByteArray) (r2 : Bool) (r3 : List (S138)) (r4 : List (S66)) (r5 : RawS) (w : World) (hr1 : Kd.C Kd.string w A1 l1.length l1) (hc1 : l1.length <= c1) (h : w_module.f k a0 l1 = some (r1, r2, r3, r4, r5)) :
 Calls Try.prog 23 #[.string a0, .slice A1 l1.length c1] w fun e w' => ∃ v2_ v3_ : Value, e = .returned (.agg #[.string r1, .bool r2, v2_, v3_, .slice r5.a r5.n r5.c]) /\ Kd.S k138 138 w' w.heap.size (fun _ => True) v2_ r3 /\ Kd.R k66 66 w' w.heap.size (fun k_ => some k_ ≠ (v2_ : Value).ownBlock) v3_ r4 /\ Below w.heap.size w w' := by
 have hu42 := Try.underlying42
 have hu66 := Try.underlying66
 have HR1 := aM hr1
 have HC1 := aM hc1
 clear hr1 hc1
 have HB := aM (Below.refl w.heap.size w)
 have H : (w_module.l0 k l1 0 a0 false ([] : List (S66)) RawS.nil) = some (r1, r2, r3, r4, r5) := h
 clear h
 have H' := aM H
 clear H
 go_enter Try.func23, Try.ntmps23
 go_wp2_with (first | ((with_reducible refine gate_dst (N := 4) rfl ?_); refine be 4 rfl rfl #[.string (⟨#[]⟩ : ByteArray), .bool false, .slice none 0 0, .slice none 0 0, .slice RawS.nil.a RawS.nil.n RawS.nil.c] 42 ?_; intro gb294 hg w3 hbox hb; have BK294 := aM hbox; have GE294 := gs hg HB; replace HB := bs HB hb; clear hb hbox hg) | ((with_reducible refine gate_dst (N := 5) rfl ?_); refine be 5 rfl rfl #[.string (⟨#[]⟩ : ByteArray), .bool false, .slice none 0 0, .slice none 0 0, .slice RawS.nil.a RawS.nil.n RawS.nil.c] 42 ?_; intro gb295 hg w4 hbox hb; have BK295 := aM hbox; have GE295 := gs hg HB; have NB294_295 := nl hg BK294; have NB295_294 := nr hg BK294; replace BK294 := kb BK294 hb; replace HB := bs HB hb; clear hb hbox hg; have hnb5 := NB295_294.1; have hnc5 := NB294_295.1; have hcz6_0 : w4.cell? ⟨gb295, 0, none⟩ = some (.string (⟨#[]⟩ : ByteArray)) := (blk_cell BK295.1 0).trans rfl; have hcz6_1 : w4.cell? ⟨gb295, 1, none⟩ = some (.bool false) := (blk_cell BK295.1 1).trans rfl; have hcz6_2 : w4.cell? ⟨gb295, 2, none⟩ = some (.slice none 0 0) := (blk_cell BK295.1 2).trans rfl; have hcz6_3 : w4.cell? ⟨gb295, 3, none⟩ = some (.slice none 0 0) := (blk_cell BK295.1 3).trans rfl; have hcz6_4 : w4.cell? ⟨gb295, 4, none⟩ = some (.slice RawS.nil.a RawS.nil.n RawS.nil.c) := (blk_cell BK295.1 4).trans rfl; have hfz6_0 := blk_frozen BK295.1 0; have hfz6_1 := blk_frozen BK295.1 1; have hfz6_2 := blk_frozen BK295.1 2; have hfz6_3 := blk_frozen BK295.1 3; have hfz6_4 := blk_frozen BK295.1 4))
 go_loopg [6] k (fun kq v6 w' => ∃ (x6_1 : Int) (x296003_1 : List (S66)) (u296003 : Value), v6 = .int .i64 x6_1 /\ Az (w_module.l0 kq l1 x6_1 a0 false x296003_1 RawS.nil = some (r1, r2, r3, r4, r5)) /\ Az (kq <= k) /\ Az (Kd.R k66 66 w' w.heap.size (fun _ => True) u296003 x296003_1) /\ Az (w'.heap[gb294]? = some (.cells #[.string (⟨#[]⟩ : ByteArray), .bool false, (.slice none 0 0), (.slice none 0 0), .slice RawS.nil.a RawS.nil.n RawS.nil.c] 42 (0, 0))) /\ Az (w'.heap[gb295]? = some (.cells #[.string a0, .bool false, (.slice none 0 0), u296003, .slice RawS.nil.a RawS.nil.n RawS.nil.c] 42 (0, 0))) /\ Az (Below w.heap.size w w'))
 case atStart => exact ⟨(0), (([] : List (S66))), (.slice none 0 0), rr, H', ⟨Nat.le_refl _⟩, ⟨by first | exact R_nil _ _ _ _ _ | exact N_nil _ _ _ _ _ | exact V_nil _ _ _ _ _ | exact Q_nil _ _ _ _ _ | exact S_nil _ _ _ _ _⟩, ⟨kf BK294⟩, ⟨by (with_reducible repeat (first | refine kN ?_ _ | refine kD ?_ | refine kA ?_ _)); refine blk_put (cs := #[.string a0, .bool false, .slice none 0 0, .slice none 0 0, .slice RawS.nil.a RawS.nil.n RawS.nil.c]) ?_ 4 _ rfl; (with_reducible repeat (first | refine kN ?_ _ | refine kD ?_ | refine kA ?_ _)); refine blk_put (cs := #[.string a0, .bool false, .slice none 0 0, .slice none 0 0, .slice RawS.nil.a RawS.nil.n RawS.nil.c]) ?_ 3 _ rfl; (with_reducible repeat (first | refine kN ?_ _ | refine kD ?_ | refine kA ?_ _)); refine blk_put (cs := #[.string a0, .bool false, .slice none 0 0, .slice none 0 0, .slice RawS.nil.a RawS.nil.n RawS.nil.c]) ?_ 2 _ rfl; (with_reducible repeat (first | refine kN ?_ _ | refine kD ?_ | refine kA ?_ _)); refine blk_put (cs := #[.string a0, .bool false, .slice none 0 0, .slice none 0 0, .slice RawS.nil.a RawS.nil.n RawS.nil.c]) ?_ 1 _ rfl; (with_reducible repeat (first | refine kN ?_ _ | refine kD ?_ | refine kA ?_ _)); refine blk_put (cs := #[.string (⟨#[]⟩ : ByteArray), .bool false, .slice none 0 0, .slice none 0 0, .slice RawS.nil.a RawS.nil.n RawS.nil.c]) ?_ 0 _ rfl; (with_reducible repeat (first | refine kN ?_ _ | refine kD ?_ | refine kA ?_ _)); exact BK295.1⟩, ⟨hh HB⟩⟩
 case round =>
  clear H'
  clear hcz6_0 hcz6_1 hcz6_2 hcz6_3 hcz6_4 hfz6_0 hfz6_1 hfz6_2 hfz6_3 hfz6_4
  obtain ⟨x6_1, x296003_1, u296003, rfl, HA, HK1, HO_296003, BK294, BK295, HB⟩ := hrel
  cases gk with
  | zero => exact absurd HA.1 (by simp [w_module.l0])
  | succ k1 =>
   have H := HA.1
   clear HA
   simp only [w_module.l0] at H
   by_cases c7 : x6_1 < (l1.length : Int)
   rotate_left
   · rw [if_neg c7] at H
     have c7b0 : decide (x6_1 < (l1.length : Int)) = false := decide_eq_false c7
     clear c7
     simp only [Option.some.injEq, Prod.mk.injEq] at H
     obtain ⟨rfl, rfl, rfl, rfl, rfl⟩ := H
     have hnb14 := NB295_294.1
     have hnc14 := NB294_295.1
     obtain ⟨hcz15_0, hcz15_1, hcz15_2, hcz15_3⟩ := cz BK295
     have hcz15_4 : wr.cell? ⟨gb295, 4, none⟩ = some (.slice RawS.nil.a RawS.nil.n RawS.nil.c) := (blk_cell BK295.1 4).trans rfl
     obtain ⟨hfz15_0, hfz15_1, hfz15_2, hfz15_3⟩ := fz BK295
     have hfz15_4 := blk_frozen BK295.1 4
     obtain ⟨hcz16_0, hcz16_1, hcz16_2, hcz16_3⟩ := cz BK294
     have hcz16_4 : wr.cell? ⟨gb294, 4, none⟩ = some (.slice RawS.nil.a RawS.nil.n RawS.nil.c) := (blk_cell BK294.1 4).trans rfl
     obtain ⟨hfz16_0, hfz16_1, hfz16_2, hfz16_3⟩ := fz BK294
     have hfz16_4 := blk_frozen BK294.1 4
     obtain ⟨Ao17, co17, eo17⟩ := R_slice HO_296003.1
     subst eo17
     go_wp2
     refine bodyPost_ret (results_cell_row rfl _ _ gb294 42 #[.string a0, .bool false, .slice none 0 0, .slice Ao17 x296003_1.length co17, .slice RawS.nil.a RawS.nil.n RawS.nil.c] (0, 0) _ rfl (by (with_reducible repeat (first | refine kN ?_ _ | refine kD ?_ | refine kA ?_ _)); refine blk_put (cs := #[.string a0, .bool false, .slice none 0 0, .slice Ao17 x296003_1.length co17, .slice RawS.nil.a RawS.nil.n RawS.nil.c]) ?_ 4 _ rfl; (with_reducible repeat (first | refine kN ?_ _ | refine kD ?_ | refine kA ?_ _)); refine blk_put (cs := #[.string a0, .bool false, .slice none 0 0, .slice none 0 0, .slice RawS.nil.a RawS.nil.n RawS.nil.c]) ?_ 3 _ rfl; (with_reducible repeat (first | refine kN ?_ _ | refine kD ?_ | refine kA ?_ _)); refine blk_put (cs := #[.string a0, .bool false, .slice none 0 0, .slice none 0 0, .slice RawS.nil.a RawS.nil.n RawS.nil.c]) ?_ 2 _ rfl; (with_reducible repeat (first | refine kN ?_ _ | refine kD ?_ | refine kA ?_ _)); refine blk_put (cs := #[.string a0, .bool false, .slice none 0 0, .slice none 0 0, .slice RawS.nil.a RawS.nil.n RawS.nil.c]) ?_ 1 _ rfl; (with_reducible repeat (first | refine kN ?_ _ | refine kD ?_ | refine kA ?_ _)); refine blk_put (cs := #[.string (⟨#[]⟩ : ByteArray), .bool false, .slice none 0 0, .slice none 0 0, .slice RawS.nil.a RawS.nil.n RawS.nil.c]) ?_ 0 _ rfl; (with_reducible repeat (first | refine kN ?_ _ | refine kD ?_ | refine kA ?_ _)); exact BK294.1) Try.underlying42 rfl (by kernel_rfl)) rfl ?_
     exact ⟨_, _, by first | rfl | (simp [errW_none, errW_some] <;> rfl) | (simp [*, errW_none, errW_some] <;> rfl), by first | exact S_nil _ _ _ _ _ | exact N_nil _ _ _ _ _ | exact V_nil _ _ _ _ _ | exact Q_nil _ _ _ _ _ | exact R_nil _ _ _ _ _, rz (R_mono (R_far (p := ⟨gb294, 4, none⟩) (R_far (p := ⟨gb294, 3, none⟩) (R_far (p := ⟨gb294, 2, none⟩) (R_far (p := ⟨gb294, 1, none⟩) (R_far (p := ⟨gb294, 0, none⟩) (R_types HO_296003.1 BK294.1 (by decide)) (fun _ hk => hk.2) (.string a0)) (fun _ hk => hk.2) (.bool false)) (fun _ hk => hk.2) (.slice none 0 0)) (fun _ hk => hk.2) (.slice Ao17 x296003_1.length co17)) (fun _ hk => hk.2) (.slice RawS.nil.a RawS.nil.n RawS.nil.c)) (fun _ hk => (by simp [Value.ownBlock]))), hh HB⟩
   rw [if_pos c7] at H
   have c7b0 : decide (x6_1 < (l1.length : Int)) = true := decide_eq_true c7
   clear c7
   by_cases c8 : 0 <= x6_1
   rotate_left
   · rw [if_neg c8] at H
     exact absurd H (by simp)
   rw [if_pos c8] at H
   have c8b0 : decide (0 <= x6_1) = true := decide_eq_true c8
   clear c8
   by_cases c9 : x296003_1.length < 1954687338268
   rotate_left
   · rw [if_neg c9] at H
     exact absurd H (by simp)
   rw [if_pos c9] at H
   have LMc9 := aM c9
   clear c9
   obtain ⟨y297, hy297⟩ : ∃ y_ : List (S66), y_ = (x296003_1 ++ [(⟨rdOf ByteArray.empty l1 x6_1, false, (⟨#[]⟩ : ByteArray), false, false, ([] : List (S138))⟩ : S66)]) := ⟨_, rfl⟩
   replace H : (w_module.l0 k1 l1 (wrap64 (x6_1 + 1)) a0 false y297 RawS.nil) = some (r1, r2, r3, r4, r5) := by first | (rw [hy297]; with_reducible exact H) | (have H2_ := (Option.bind_some _ _).symm.trans H; rw [hy297]; with_reducible exact H2_) | (have H2_ := (Option.bind_some _ _).symm.trans H; with_reducible exact H2_) | with_reducible exact H | (rw [hy297]; exact H) | exact H
   have Ny297 := aM hy297
   clear hy297
   have H' := aM H
   clear H
   try go_wp2
   replace HO_296003 := aM (R_drew HO_296003.1)
   replace BK294 := aM (blk_drew BK294.1)
   replace BK295 := aM (blk_drew BK295.1)
   replace HB := aM (below_drew1 HB.1)
   have p296 : 0 <= (x6_1 : Int) := dt
   have q296 : x6_1 < (l1.length : Int) := dt
   obtain ⟨ad296, e296, hx296_0⟩ := Kd.at_string HR1.1 x6_1 p296 q296
   have hw296_0 := hx296_0
   cases e296
   replace hx296_0 := hx HB hx296_0
   replace p296 := eq_true p296
   replace q296 := eq_true q296
   refine start_ (n := 11) (S := fun w' => w'.cell? ⟨gb295, 0, none⟩ = some (.string a0) /\ w'.cell? ⟨gb295, 1, none⟩ = some (.bool false) /\ w'.cell? ⟨gb295, 2, none⟩ = some (.slice none 0 0) /\ w'.cell? ⟨gb295, 3, none⟩ = some (u296003) /\ w'.cell? ⟨gb295, 4, none⟩ = some (.slice RawS.nil.a RawS.nil.n RawS.nil.c) /\ w'.cell? (ad296.add (x6_1).toNat) = some (.string (rdOf ByteArray.empty l1 x6_1))) (ds := [10]) #[F_, F_, F_, F_, F_, F_, F_, F_, F_, F_, F_] (by kernel_rfl) rfl rfl ⟨(blk_cell BK295.1 0).trans rfl, (blk_cell BK295.1 1).trans rfl, (blk_cell BK295.1 2).trans rfl, (blk_cell BK295.1 3).trans rfl, (blk_cell BK295.1 4).trans rfl, (hx HB hw296_0)⟩ (fun hHeld => ?_); refine with_tabW w_module.tab5 w_module.bits5 (fun HT_ HW_ => ?_)
   generalize wr.drew = w10 at HO_296003 BK294 BK295 HB hx296_0 hHeld ⊢
   refine pure_ (i := 0) (N := some 15) (v := ?_) (a' := ?_) #[T_, F_, F_, F_, F_, F_, F_, F_, F_, F_, F_] rfl rfl (any_of HT_.1 (by kernel_rfl)) (fun _ _ _ h => h) (Or.inl ⟨by rfl, ?_⟩) ?_ ?_
   rotate_left
   · intro w'
     go_simp
     with_reducible rfl
   rotate_left
   · simp only [Act.put, sA, sZ, sS, i64_w, i32_w]
     rfl
   refine pure_ (i := 2) (N := some 17) (v := ?_) (a' := ?_) #[T_, F_, T_, F_, F_, F_, F_, F_, F_, F_, F_] rfl rfl (any_of HT_.1 (by kernel_rfl)) (fun _ _ _ h => h) (Or.inl ⟨by rfl, ?_⟩) ?_ ?_
   rotate_left
   · intro w'
     go_simp
     with_reducible rfl
   rotate_left
   · simp only [Act.put, sA, sZ, sS, i64_w, i32_w]
     rfl
   refine pure_ (i := 3) (N := some 18) (v := ?_) (a' := ?_) #[T_, F_, T_, T_, F_, F_, F_, F_, F_, F_, F_] rfl rfl (any_of HT_.1 (by kernel_rfl)) (fun _ _ _ h => h) (Or.inl ⟨by rfl, ?_⟩) ?_ ?_
   rotate_left
   · intro w'
     go_simp
     with_reducible rfl
   rotate_left
   · simp only [Act.put, sA, sZ, sS, i64_w, i32_w]
     rfl
   refine pure_ (i := 4) (N := some 19) (v := ?_) (a' := ?_) #[T_, F_, T_, T_, T_, F_, F_, F_, F_, F_, F_] rfl rfl (any_of HT_.1 (by kernel_rfl)) (fun _ _ _ h => h) (Or.inl ⟨by rfl, ?_⟩) ?_ ?_
   rotate_left
   · intro w'
     go_simp
     with_reducible rfl
   rotate_left
   · simp only [Act.put, sA, sZ, sS, i64_w, i32_w]
     rfl
   refine take_ (i := 1) (N := some 16) (v := ?_) (a' := ?_) #[T_, T_, T_, T_, T_, F_, F_, F_, F_, F_, F_] rfl rfl (take_ofW HT_.1 HW_.1 (by kernel_rfl)) (fun _ _ _ h => h) (Or.inl ⟨by rfl, ?_⟩) hHeld ?_ ?_
   rotate_left
   · rintro w' ⟨s0, s1, s2, s3, s4, s5⟩
     go_simp
     with_reducible rfl
   rotate_left
   · simp only [Act.put, sA, sZ, sS, i64_w, i32_w]
     rfl
   refine take_ (i := 5) (N := some 20) (v := ?_) (a' := ?_) #[T_, T_, T_, T_, T_, T_, F_, F_, F_, F_, F_] rfl rfl (take_ofW HT_.1 HW_.1 (by kernel_rfl)) (fun _ _ _ h => h) (Or.inl ⟨by rfl, ?_⟩) hHeld ?_ ?_
   rotate_left
   · rintro w' ⟨s0, s1, s2, s3, s4, s5⟩
     go_simp
     with_reducible rfl
   rotate_left
   · simp only [Act.put, sA, sZ, sS, i64_w, i32_w]
     rfl
   refine pure_ (i := 6) (N := some 21) (v := ?_) (a' := ?_) #[T_, T_, T_, T_, T_, T_, T_, F_, F_, F_, F_] rfl rfl (any_of HT_.1 (by kernel_rfl)) (fun _ _ _ h => h) (Or.inl ⟨by rfl, ?_⟩) ?_ ?_
   rotate_left
   · intro w'
     go_simp
     with_reducible rfl
   rotate_left
   · simp only [Act.put, sA, sZ, sS, i64_w, i32_w]
     rfl
   refine one_ (i := 7) (N := some 22) #[T_, T_, T_, T_, T_, T_, T_, T_, F_, F_, F_] rfl rfl (one_of HT_.1 (by kernel_rfl)) (by decide) (fun K hK => ?_)
   refine value_ (w1 := ?_) (v := ?_) (by rfl) rfl ?_ ?_
   rotate_left 2
   · go_simp
     constructor
     · rfl
     · rfl
   refine hK.out _ _ ⟨(blk_cell (blk_alloc BK295.1 _) 0).trans rfl, (blk_cell (blk_alloc BK295.1 _) 1).trans rfl, (blk_cell (blk_alloc BK295.1 _) 2).trans rfl, (blk_cell (blk_alloc BK295.1 _) 3).trans rfl, (blk_cell (blk_alloc BK295.1 _) 4).trans rfl, (World.cell?_alloc_lt _ _ _ (World.block_lt_of_cell? _ _ ((hx HB hw296_0)))).trans ((hx HB hw296_0))⟩ (fun hHeld => ?_)
   clear hK K
   refine norm_ (a' := ?_) ?_ ?_
   rotate_left
   · show Act.put _ (some 22) _ = _
     simp only [Act.put, sA, sZ, sS, i64_w, i32_w]
     rfl
   refine one_ (i := 8) (N := some 23) #[T_, T_, T_, T_, T_, T_, T_, T_, T_, F_, F_] rfl rfl (one_of HT_.1 (by kernel_rfl)) (by decide) (fun K hK => ?_)
   refine R_append_step k66 (w0 := w) w.heap.size (by rfl) (.tmp 16) (.tmp 22) 39 66 (.agg #[(.string ⟨#[]⟩), (.bool false), (.string ⟨#[]⟩), (.bool false), (.bool false), (.slice none 0 0)]) 72 rfl Try.underlying39 info66 rfl (by decide) (by omega) u296003 x296003_1 (⟨rdOf ByteArray.empty l1 x6_1, false, (⟨#[]⟩ : ByteArray), false, false, ([] : List (S138))⟩ : S66) [.string (rdOf ByteArray.empty l1 x6_1), .bool false, .string (⟨#[]⟩ : ByteArray), .bool false, .bool false, .slice none 0 0] (fun _ => True) (fun k_ => ((fun _ => True)) k_ /\ some k_ ≠ (u296003 : Value).ownBlock) rfl rfl ?aP (fun _ hk => hk) ?aF ?aO ?aB ?aS ?aL ?_
   (case aP => exact k66_mkM _ _ _ (⟨rdOf ByteArray.empty l1 x6_1, false, (⟨#[]⟩ : ByteArray), false, false, ([] : List (S138))⟩ : S66) (R_nil _ _ _ _ _))
   (case aB => exact (hh HB))
   (case aF => exact (fun _ _ => trivial))
   (case aO => exact (rk HO_296003))
   (case aS => exact (below_size (hh HB)))
   (case aL => have := LMc9.1; omega)
   intro v298 w11 ho hb hg hat
   rw [<- Ny297.1] at ho
   have HO299 := aM (ho)
   replace BK294 := aM (blk_grown (g := gb294) (o := .cells #[.string (⟨#[]⟩ : ByteArray), .bool false, .slice none 0 0, .slice none 0 0, .slice RawS.nil.a RawS.nil.n RawS.nil.c] 42 (0, 0)) (kk BK294) hg (R_ne HO_296003.1 BK294.1 (by decide)))
   replace BK295 := aM (blk_grown (g := gb295) (o := .cells #[.string a0, .bool false, .slice none 0 0, u296003, .slice RawS.nil.a RawS.nil.n RawS.nil.c] 42 (0, 0)) (kk BK295) hg (R_ne HO_296003.1 BK295.1 (by decide)))
   replace HB := aM (hb)
   clear HO_296003
   clear ho hb hg hat
   obtain ⟨Ao12, co12, eo12⟩ := R_slice HO299.1
   (first | subst eo12 | (injection eo12 with f1_ f2_ f3_; have f4_ := f1_.symm; have f5_ := f3_.symm; clear f1_ f2_ f3_; subst f4_; subst f5_))
   refine hK.out _ _ ⟨(blk_cell BK295.1 0).trans rfl, (blk_cell BK295.1 1).trans rfl, (blk_cell BK295.1 2).trans rfl, (blk_cell BK295.1 3).trans rfl, (blk_cell BK295.1 4).trans rfl, (hx HB hw296_0)⟩ (fun hHeld => ?_)
   clear hK K
   refine norm_ (a' := ?_) ?_ ?_
   rotate_left
   · show Act.put _ (some 23) _ = _
     simp only [Act.put, sA, sZ, sS, i64_w, i32_w]
     rfl
   refine pure_ (i := 9) (N := some 24) (v := ?_) (a' := ?_) #[T_, T_, T_, T_, T_, T_, T_, T_, T_, T_, F_] rfl rfl (any_of HT_.1 (by kernel_rfl)) (fun _ _ _ h => h) (Or.inl ⟨by rfl, ?_⟩) ?_ ?_
   rotate_left
   · intro w'
     go_simp
     with_reducible rfl
   rotate_left
   · simp only [Act.put, sA, sZ, sS, i64_w, i32_w]
     rfl
   refine last_ (i := 10) (N := none) #[T_, T_, T_, T_, T_, T_, T_, T_, T_, T_, T_] rfl rfl (one_of HT_.1 (by kernel_rfl)) (by decide) (fun K hK => ?_)
   have hs13 : w11.cell? ⟨gb295, 3, none⟩ = some (u296003) := (blk_cell BK295.1 3).trans rfl
   have hfs13 := blk_frozen BK295.1 3
   have hns13_0 := NB294_295.1
   have hms13_0 := NB295_294.1
   refine skip_ (w1 := ?_) (by rfl) rfl ?_ ?_
   rotate_left
   · go_simp
     rfl
   refine hK.out _ _ ?_
   clear hK K
   refine done_ (done_of HT_.1 (by kernel_rfl)) ?_
   try go_wp2
   go_roundg k1
   case measure => have := HK1.1; omega
   case rel => exact ⟨(wrap64 (x6_1 + 1)), (y297), (.slice Ao12 y297.length co12), rr, H', ⟨by have := HK1.1; omega⟩, ⟨rz (R_mono (R_far (p := ⟨gb295, 3, none⟩) (R_types HO299.1 BK295.1 (by decide)) (fun _ hk => hk.2) (.slice Ao12 y297.length co12)) (fun _ hk => trivial))⟩, ⟨kf BK294⟩, ⟨by (with_reducible repeat (first | refine kN ?_ _ | refine kD ?_ | refine kA ?_ _)); refine blk_put (cs := #[.string a0, .bool false, .slice none 0 0, u296003, .slice RawS.nil.a RawS.nil.n RawS.nil.c]) ?_ 3 _ rfl; (with_reducible repeat (first | refine kN ?_ _ | refine kD ?_ | refine kA ?_ _)); exact BK295.1⟩, ⟨hh HB⟩⟩
noncomputable def q_Has.l0 : Nat -> List ByteArray -> ByteArray -> Int -> Option (Bool)
 | 0, _, _, _ => none
 | k + 1, x0, x1, x5 => if x5 < (x0.length : Int) then (if 0 <= x5 then (if (rdOf ByteArray.empty x0 x5).toList = x1.toList then (some true) else (q_Has.l0 k x0 x1 (wrap64 (x5 + 1)))) else (none)) else (some false)
noncomputable def q_Has.f (k : Nat) (l0 : List ByteArray) (a1 : ByteArray) : Option (Bool) := q_Has.l0 k l0 a1 0
theorem q_Has.calls (k : Nat) (A0 : Option Addr) (c0 : Nat) (l0 : List ByteArray) (a1 : ByteArray) (r : Bool) (w : World) (hr0 : Kd.C Kd.string w A0 l0.length l0) (hc0 : l0.length <= c0) (h : q_Has.f k l0 a1 = some r) :
 Calls Try.prog 21 #[.slice A0 l0.length c0, .string a1] w fun e w' => e = .returned (.bool r) /\ Drawn0 w w' := by
 have HR0 := aM hr0
 have HC0 := aM hc0
 clear hr0 hc0
 have H : (q_Has.l0 k l0 a1 0) = some r := h
 clear h
 have H' := aM H
 clear H
 go_enter Try.func21, Try.ntmps21
 go_wp2
 go_loopg [5] k (fun kq v5 w' => ∃ (x5_1 : Int), v5 = .int .i64 x5_1 /\ Az (q_Has.l0 kq l0 a1 x5_1 = some r) /\ Az (kq <= k) /\ Drawn0 w w')
 case atStart => exact ⟨(0), rr, H', ⟨Nat.le_refl _⟩, by repeat (first | exact Drawn0.refl _ | apply Drawn0.step)⟩
 case round =>
  clear H'
  obtain ⟨x5_1, rfl, HA, HK1, ⟨m1, rfl⟩⟩ := hrel
  cases gk with
  | zero => exact absurd HA.1 (by simp [q_Has.l0])
  | succ k1 =>
   have H := HA.1
   clear HA
   simp only [q_Has.l0] at H
   by_cases c3 : x5_1 < (l0.length : Int)
   rotate_left
   · rw [if_neg c3] at H
     have c3b0 : decide (x5_1 < (l0.length : Int)) = false := decide_eq_false c3
     clear c3
     obtain rfl := Option.some.inj H
     go_wp2
     go_ret
     exact ⟨by first | rfl | (simp; done) | (simp [*]; done), by repeat (first | exact Drawn0.refl _ | apply Drawn0.step)⟩
   rw [if_pos c3] at H
   have c3b0 : decide (x5_1 < (l0.length : Int)) = true := decide_eq_true c3
   clear c3
   by_cases c4 : 0 <= x5_1
   rotate_left
   · rw [if_neg c4] at H
     exact absurd H (by simp)
   rw [if_pos c4] at H
   have c4b0 : decide (0 <= x5_1) = true := decide_eq_true c4
   clear c4
   by_cases c5 : (rdOf ByteArray.empty l0 x5_1).toList = a1.toList
   · rw [if_pos c5] at H
     have c5b0 : ((rdOf ByteArray.empty l0 x5_1).toList == a1.toList) = true := beq_iff_eq.mpr c5
     have c5b1 : ((rdOf ByteArray.empty l0 x5_1).toList != a1.toList) = false := bne_eq_false_iff_eq.mpr c5
     clear c5
     obtain rfl := Option.some.inj H
     have p300 : 0 <= (x5_1 : Int) := dt
     have q300 : x5_1 < (l0.length : Int) := dt
     obtain ⟨ad300, e300, hx300_0⟩ := Kd.at_string HR0.1 x5_1 p300 q300
     cases e300
     replace p300 := eq_true p300
     replace q300 := eq_true q300
     go_wp2
     go_ret
     exact ⟨by first | rfl | (simp; done) | (simp [*]; done), by repeat (first | exact Drawn0.refl _ | apply Drawn0.step)⟩
   rw [if_neg c5] at H
   have c5b0 : ((rdOf ByteArray.empty l0 x5_1).toList == a1.toList) = false := beq_eq_false_iff_ne.mpr c5
   have c5b1 : ((rdOf ByteArray.empty l0 x5_1).toList != a1.toList) = true := bne_iff_ne.mpr c5
   have H' := aM H
   clear H
   have p300 : 0 <= (x5_1 : Int) := dt
   have q300 : x5_1 < (l0.length : Int) := dt
   obtain ⟨ad300, e300, hx300_0⟩ := Kd.at_string HR0.1 x5_1 p300 q300
   cases e300
   replace p300 := eq_true p300
   replace q300 := eq_true q300
   go_wp2
   go_roundg k1
   case measure => have := HK1.1; omega
   case rel => exact ⟨(wrap64 (x5_1 + 1)), rr, H', ⟨by have := HK1.1; omega⟩, by repeat (first | exact Drawn0.refl _ | apply Drawn0.step)⟩
mutual
noncomputable def r_Insert.l0 : Nat -> List ByteArray -> ByteArray -> List ByteArray -> Bool -> Int -> Option (List ByteArray)
 | 0, _, _, _, _, _ => none
 | k + 1, x0, x1, x5, x6, x7 => if x7 < (x0.length : Int) then (if x6 = true then (r_Insert.j1 k x0 x1 x5 x6 x7 false) else (if 0 <= x7 then (r_Insert.j1 k x0 x1 x5 x6 x7 (!(Op.bytesLess ((rdOf ByteArray.empty x0 x7).toList) x1.toList))) else (none))) else (if x6 = true then (some x5) else (if x5.length < 8796093022208 then (some (x5 ++ [x1])) else (none)))
noncomputable def r_Insert.j1 : Nat -> List ByteArray -> ByteArray -> List ByteArray -> Bool -> Int -> Bool -> Option (List ByteArray)
 | 0, _, _, _, _, _, _ => none
 | k + 1, x0, x1, x5, x6, x7, x23 => if x23 = true then (if 0 <= x7 then (if x7 < (x0.length : Int) then (if (Op.bytesLess x1.toList ((rdOf ByteArray.empty x0 x7).toList)) = true then (if x5.length < 8796093022208 then ((some (x5 ++ [x1] : List ByteArray)).bind fun y306 => (if y306.length < 8796093022208 then (r_Insert.l0 k x0 x1 (y306 ++ [rdOf ByteArray.empty x0 x7]) true (wrap64 (x7 + 1))) else (none))) else (none)) else (if x5.length < 8796093022208 then (r_Insert.l0 k x0 x1 (x5 ++ [rdOf ByteArray.empty x0 x7]) true (wrap64 (x7 + 1))) else (none))) else (none)) else (none)) else (if 0 <= x7 then (if x7 < (x0.length : Int) then (if x5.length < 8796093022208 then (r_Insert.l0 k x0 x1 (x5 ++ [rdOf ByteArray.empty x0 x7]) x6 (wrap64 (x7 + 1))) else (none)) else (none)) else (none))
end
noncomputable def r_Insert.f (k : Nat) (l0 : List ByteArray) (a1 : ByteArray) : Option (List ByteArray) := r_Insert.l0 k l0 a1 ([] : List ByteArray) false 0
theorem r_Insert.calls (k : Nat) (A0 : Option Addr) (c0 : Nat) (l0 : List ByteArray) (a1 : ByteArray) (r : List ByteArray) (w : World) (hr0 : Kd.C Kd.string w A0 l0.length l0) (hc0 : l0.length <= c0) (h : r_Insert.f k l0 a1 = some r) :
 Calls Try.prog 38 #[.slice A0 l0.length c0, .string a1] w fun e w' => ∃ v0_ : Value, e = .returned (v0_) /\ Kd.R Kd.string 9 w' w.heap.size (fun _ => True) v0_ r /\ Below w.heap.size w w' := by
 have HR0 := aM hr0
 have HC0 := aM hc0
 clear hr0 hc0
 have HB := aM (Below.refl w.heap.size w)
 have H : (r_Insert.l0 k l0 a1 ([] : List ByteArray) false 0) = some r := h
 clear h
 have H' := aM H
 clear H
 go_enter Try.func38, Try.ntmps38
 go_wp2
 go_loopg [5, 6, 7] k (fun kq v5 v6 v7 w' => ∃ (x5_1 : List ByteArray) (x6_1 : Bool) (x7_1 : Int), v6 = .bool x6_1 /\ v7 = .int .i64 x7_1 /\ Az (r_Insert.l0 kq l0 a1 x5_1 x6_1 x7_1 = some r) /\ Az (kq <= k) /\ Az (Kd.R Kd.string 9 w' w.heap.size (fun _ => True) v5 x5_1) /\ Az (Below w.heap.size w w'))
 case atStart => exact ⟨(([] : List ByteArray)), (false), (0), rr, rr, H', ⟨Nat.le_refl _⟩, ⟨by first | exact R_nil _ _ _ _ _ | exact N_nil _ _ _ _ _ | exact V_nil _ _ _ _ _ | exact Q_nil _ _ _ _ _ | exact S_nil _ _ _ _ _⟩, ⟨hh HB⟩⟩
 case round =>
  clear H'
  obtain ⟨x5_1, x6_1, x7_1, rfl, rfl, HA, HK1, HO_5, HB⟩ := hrel
  cases gk with
  | zero => exact absurd HA.1 (by simp [r_Insert.l0])
  | succ k1 =>
   have H := HA.1
   clear HA
   simp only [r_Insert.l0] at H
   by_cases c3 : x7_1 < (l0.length : Int)
   rotate_left
   · rw [if_neg c3] at H
     have c3b0 : decide (x7_1 < (l0.length : Int)) = false := decide_eq_false c3
     clear c3
     by_cases c21 : x6_1 = true
     · subst c21
       rw [if_pos rfl] at H
       obtain rfl := Option.some.inj H
       go_wp2
       go_ret
       exact ⟨_, by first | rfl | (simp [errW_none, errW_some] <;> rfl) | (simp [*, errW_none, errW_some] <;> rfl), rk HO_5, hh HB⟩
     replace c21 := Bool.eq_false_iff.mpr c21
     subst c21
     rw [if_neg (show ¬ (false = true) by decide)] at H
     by_cases c22 : x5_1.length < 8796093022208
     rotate_left
     · rw [if_neg c22] at H
       exact absurd H (by simp)
     rw [if_pos c22] at H
     have LMc22 := aM c22
     clear c22
     obtain ⟨y301, hy301⟩ : ∃ y_ : List ByteArray, y_ = (x5_1 ++ [a1]) := ⟨_, rfl⟩
     replace H : (some y301) = some r := by first | (rw [hy301]; with_reducible exact H) | (have H2_ := (Option.bind_some _ _).symm.trans H; rw [hy301]; with_reducible exact H2_) | (have H2_ := (Option.bind_some _ _).symm.trans H; with_reducible exact H2_) | with_reducible exact H | (rw [hy301]; exact H) | exact H
     have Ny301 := aM hy301
     clear hy301
     obtain rfl := Option.some.inj H
     go_wp2_with (first | ((with_reducible refine gate_builtin (b := .append) (xs := #[.tmp 43, .tmp 45]) rfl ?_); at_builtin; refine R_append Kd.string (w0 := w) w.heap.size rfl (.tmp 43) (.tmp 45) 25 9 (.string ⟨#[]⟩) 16 rfl Try.underlying25 info9 rfl (by decide) (by omega) u5 x5_1 a1 [.string a1] (fun _ => True) (fun _ => False) rfl rfl ?aP (fun _ hk => hk.elim) ?aF ?aO ?aB ?aS ?aL ?_; (case aP => exact rfl); (case aB => exact (hh HB)); (case aF => exact (fun _ _ => trivial)); (case aO => exact (rk HO_5)); (case aS => exact (below_size (hh HB))); (case aL => have := LMc22.1; omega); intro v302 w23 ho hb hg hat; rw [<- Ny301.1] at ho; have HO303 := aM (ho); replace HB := aM (hb); clear HO_5; clear ho hb hg hat))
     go_ret
     exact ⟨_, by first | rfl | (simp [errW_none, errW_some] <;> rfl) | (simp [*, errW_none, errW_some] <;> rfl), rk HO303, hh HB⟩
   rw [if_pos c3] at H
   have c3b0 : decide (x7_1 < (l0.length : Int)) = true := decide_eq_true c3
   clear c3
   have HC4 := aM H
   clear H
   go_upto_region 6 with (fail)
   go_cut [23] (fun v23 wc => ∃ (kq : Nat) (x23_3 : Bool), v23 = .bool x23_3 /\ Az (r_Insert.j1 kq l0 a1 x5_1 x6_1 x7_1 x23_3 = some r) /\ Az (kq <= k1) /\ Az (Kd.R Kd.string 9 wc w.heap.size (fun _ => True) u5 x5_1) /\ Az (Below w.heap.size w wc))
   case first =>
    have H := HC4.1
    clear HC4
    by_cases c5 : x6_1 = true
    · subst c5
      rw [if_pos rfl] at H
      have H' := aM H
      clear H
      go_wp2
      go_meet
      case rel => exact ⟨_, (false), rr, H', (ol HK1), ⟨rk HO_5⟩, ⟨hh HB⟩⟩
    replace c5 := Bool.eq_false_iff.mpr c5
    subst c5
    rw [if_neg (show ¬ (false = true) by decide)] at H
    by_cases c6 : 0 <= x7_1
    rotate_left
    · rw [if_neg c6] at H
      exact absurd H (by simp)
    rw [if_pos c6] at H
    have c6b0 : decide (0 <= x7_1) = true := decide_eq_true c6
    clear c6
    (first | rw [c6b0] | (simp only [i64_w, i32_w]; rw [c6b0]) | skip)
    have H' := aM H
    clear H
    have p304 : 0 <= (x7_1 : Int) := dt
    have q304 : x7_1 < (l0.length : Int) := dt
    obtain ⟨ad304, e304, hx304_0⟩ := Kd.at_string HR0.1 x7_1 p304 q304
    cases e304
    replace hx304_0 := hx HB hx304_0
    replace p304 := eq_true p304
    replace q304 := eq_true q304
    go_wp2
    go_meet
    case rel => exact ⟨_, (!(Op.bytesLess ((rdOf ByteArray.empty l0 x7_1).toList) a1.toList)), rr, H', (ol HK1), ⟨rk HO_5⟩, ⟨hh HB⟩⟩
   case rest =>
    clear HC4
    clear c3b0
    obtain ⟨kq, x23_3, rfl, HA, HJ3, HO_5, HB⟩ := hcut
    cases kq with
    | zero => exact absurd HA.1 (by simp [r_Insert.j1])
    | succ kj3 =>
     have H := HA.1
     clear HA
     simp only [r_Insert.j1] at H
     by_cases c7 : x23_3 = true
     rotate_left
     · replace c7 := Bool.eq_false_iff.mpr c7
       subst c7
       rw [if_neg (show ¬ (false = true) by decide)] at H
       by_cases c17 : 0 <= x7_1
       rotate_left
       · rw [if_neg c17] at H
         exact absurd H (by simp)
       rw [if_pos c17] at H
       have c17b0 : decide (0 <= x7_1) = true := decide_eq_true c17
       clear c17
       by_cases c18 : x7_1 < (l0.length : Int)
       rotate_left
       · rw [if_neg c18] at H
         exact absurd H (by simp)
       rw [if_pos c18] at H
       have c18b0 : decide (x7_1 < (l0.length : Int)) = true := decide_eq_true c18
       clear c18
       by_cases c19 : x5_1.length < 8796093022208
       rotate_left
       · rw [if_neg c19] at H
         exact absurd H (by simp)
       rw [if_pos c19] at H
       have LMc19 := aM c19
       clear c19
       obtain ⟨y318, hy318⟩ : ∃ y_ : List ByteArray, y_ = (x5_1 ++ [rdOf ByteArray.empty l0 x7_1]) := ⟨_, rfl⟩
       replace H : (r_Insert.l0 kj3 l0 a1 y318 x6_1 (wrap64 (x7_1 + 1))) = some r := by first | (rw [hy318]; with_reducible exact H) | (have H2_ := (Option.bind_some _ _).symm.trans H; rw [hy318]; with_reducible exact H2_) | (have H2_ := (Option.bind_some _ _).symm.trans H; with_reducible exact H2_) | with_reducible exact H | (rw [hy318]; exact H) | exact H
       have Ny318 := aM hy318
       clear hy318
       have H' := aM H
       clear H
       have p317 : 0 <= (x7_1 : Int) := dt
       have q317 : x7_1 < (l0.length : Int) := dt
       obtain ⟨ad317, e317, hx317_0⟩ := Kd.at_string HR0.1 x7_1 p317 q317
       cases e317
       replace hx317_0 := hx HB hx317_0
       replace p317 := eq_true p317
       replace q317 := eq_true q317
       go_wp2_with (first | ((with_reducible refine gate_builtin (b := .append) (xs := #[.tmp 34, .tmp 39]) rfl ?_); at_builtin; refine R_append Kd.string (w0 := w) w.heap.size rfl (.tmp 34) (.tmp 39) 25 9 (.string ⟨#[]⟩) 16 rfl Try.underlying25 info9 rfl (by decide) (by omega) u5 x5_1 (rdOf ByteArray.empty l0 x7_1) [.string (rdOf ByteArray.empty l0 x7_1)] (fun _ => True) (fun _ => False) rfl rfl ?aP (fun _ hk => hk.elim) ?aF ?aO ?aB ?aS ?aL ?_; (case aP => exact rfl); (case aB => exact (hh HB)); (case aF => exact (fun _ _ => trivial)); (case aO => exact (rk HO_5)); (case aS => exact (below_size (hh HB))); (case aL => have := LMc19.1; omega); intro v319 w20 ho hb hg hat; rw [<- Ny318.1] at ho; have HO320 := aM (ho); replace HB := aM (hb); clear HO_5; clear ho hb hg hat))
       go_roundg kj3
       case measure => have := HK1.1; have := HJ3.1; omega
       case rel => exact ⟨(y318), (x6_1), (wrap64 (x7_1 + 1)), rr, rr, H', ⟨by have := HK1.1; have := HJ3.1; omega⟩, ⟨rk HO320⟩, ⟨hh HB⟩⟩
     subst c7
     rw [if_pos rfl] at H
     by_cases c8 : 0 <= x7_1
     rotate_left
     · rw [if_neg c8] at H
       exact absurd H (by simp)
     rw [if_pos c8] at H
     have c8b0 : decide (0 <= x7_1) = true := decide_eq_true c8
     clear c8
     by_cases c9 : x7_1 < (l0.length : Int)
     rotate_left
     · rw [if_neg c9] at H
       exact absurd H (by simp)
     rw [if_pos c9] at H
     have c9b0 : decide (x7_1 < (l0.length : Int)) = true := decide_eq_true c9
     clear c9
     by_cases c10 : (Op.bytesLess a1.toList ((rdOf ByteArray.empty l0 x7_1).toList)) = true
     rotate_left
     · rw [if_neg c10] at H
       have c10b0 : (Op.bytesLess a1.toList ((rdOf ByteArray.empty l0 x7_1).toList)) = false := by simpa using c10
       clear c10
       by_cases c15 : x5_1.length < 8796093022208
       rotate_left
       · rw [if_neg c15] at H
         exact absurd H (by simp)
       rw [if_pos c15] at H
       have LMc15 := aM c15
       clear c15
       obtain ⟨y314, hy314⟩ : ∃ y_ : List ByteArray, y_ = (x5_1 ++ [rdOf ByteArray.empty l0 x7_1]) := ⟨_, rfl⟩
       replace H : (r_Insert.l0 kj3 l0 a1 y314 true (wrap64 (x7_1 + 1))) = some r := by first | (rw [hy314]; with_reducible exact H) | (have H2_ := (Option.bind_some _ _).symm.trans H; rw [hy314]; with_reducible exact H2_) | (have H2_ := (Option.bind_some _ _).symm.trans H; with_reducible exact H2_) | with_reducible exact H | (rw [hy314]; exact H) | exact H
       have Ny314 := aM hy314
       clear hy314
       have H' := aM H
       clear H
       have p305 : 0 <= (x7_1 : Int) := dt
       have q305 : x7_1 < (l0.length : Int) := dt
       obtain ⟨ad305, e305, hx305_0⟩ := Kd.at_string HR0.1 x7_1 p305 q305
       cases e305
       replace hx305_0 := hx HB hx305_0
       replace p305 := eq_true p305
       replace q305 := eq_true q305
       have p313 : 0 <= (x7_1 : Int) := dt
       have q313 : x7_1 < (l0.length : Int) := dt
       obtain ⟨ad313, e313, hx313_0⟩ := Kd.at_string HR0.1 x7_1 p313 q313
       obtain rfl : ad305 = ad313 := (by injection e313)
       replace hx313_0 := hx HB hx313_0
       replace p313 := eq_true p313
       replace q313 := eq_true q313
       go_wp2_with (first | ((with_reducible refine gate_builtin (b := .append) (xs := #[.tmp 34, .tmp 39]) rfl ?_); at_builtin; refine R_append Kd.string (w0 := w) w.heap.size rfl (.tmp 34) (.tmp 39) 25 9 (.string ⟨#[]⟩) 16 rfl Try.underlying25 info9 rfl (by decide) (by omega) u5 x5_1 (rdOf ByteArray.empty l0 x7_1) [.string (rdOf ByteArray.empty l0 x7_1)] (fun _ => True) (fun _ => False) rfl rfl ?aP (fun _ hk => hk.elim) ?aF ?aO ?aB ?aS ?aL ?_; (case aP => exact rfl); (case aB => exact (hh HB)); (case aF => exact (fun _ _ => trivial)); (case aO => exact (rk HO_5)); (case aS => exact (below_size (hh HB))); (case aL => have := LMc15.1; omega); intro v315 w16 ho hb hg hat; rw [<- Ny314.1] at ho; have HO316 := aM (ho); replace HB := aM (hb); clear HO_5; clear ho hb hg hat))
       go_roundg kj3
       case measure => have := HK1.1; have := HJ3.1; omega
       case rel => exact ⟨(y314), (true), (wrap64 (x7_1 + 1)), rr, rr, H', ⟨by have := HK1.1; have := HJ3.1; omega⟩, ⟨rk HO316⟩, ⟨hh HB⟩⟩
     rw [if_pos c10] at H
     have c10b0 : (Op.bytesLess a1.toList ((rdOf ByteArray.empty l0 x7_1).toList)) = true := c10
     clear c10
     by_cases c11 : x5_1.length < 8796093022208
     rotate_left
     · rw [if_neg c11] at H
       exact absurd H (by simp)
     rw [if_pos c11] at H
     have LMc11 := aM c11
     clear c11
     obtain ⟨y306, hy306⟩ : ∃ y_ : List ByteArray, y_ = (x5_1 ++ [a1]) := ⟨_, rfl⟩
     replace H : (if y306.length < 8796093022208 then (r_Insert.l0 kj3 l0 a1 (y306 ++ [rdOf ByteArray.empty l0 x7_1]) true (wrap64 (x7_1 + 1))) else (none)) = some r := by first | (rw [hy306]; with_reducible exact H) | (have H2_ := (Option.bind_some _ _).symm.trans H; rw [hy306]; with_reducible exact H2_) | (have H2_ := (Option.bind_some _ _).symm.trans H; with_reducible exact H2_) | with_reducible exact H | (rw [hy306]; exact H) | exact H
     have Ny306 := aM hy306
     clear hy306
     by_cases c12 : y306.length < 8796093022208
     rotate_left
     · rw [if_neg c12] at H
       exact absurd H (by simp)
     rw [if_pos c12] at H
     have LMc12 := aM c12
     clear c12
     obtain ⟨y310, hy310⟩ : ∃ y_ : List ByteArray, y_ = (y306 ++ [rdOf ByteArray.empty l0 x7_1]) := ⟨_, rfl⟩
     replace H : (r_Insert.l0 kj3 l0 a1 y310 true (wrap64 (x7_1 + 1))) = some r := by first | (rw [hy310]; with_reducible exact H) | (have H2_ := (Option.bind_some _ _).symm.trans H; rw [hy310]; with_reducible exact H2_) | (have H2_ := (Option.bind_some _ _).symm.trans H; with_reducible exact H2_) | with_reducible exact H | (rw [hy310]; exact H) | exact H
     have Ny310 := aM hy310
     clear hy310
     have H' := aM H
     clear H
     have p305 : 0 <= (x7_1 : Int) := dt
     have q305 : x7_1 < (l0.length : Int) := dt
     obtain ⟨ad305, e305, hx305_0⟩ := Kd.at_string HR0.1 x7_1 p305 q305
     cases e305
     replace hx305_0 := hx HB hx305_0
     replace p305 := eq_true p305
     replace q305 := eq_true q305
     go_wp2_with (first | ((with_reducible refine gate_builtin (b := .append) (xs := #[.tmp 30, .tmp 32]) rfl ?_); at_builtin; refine R_append Kd.string (w0 := w) w.heap.size rfl (.tmp 30) (.tmp 32) 25 9 (.string ⟨#[]⟩) 16 rfl Try.underlying25 info9 rfl (by decide) (by omega) u5 x5_1 a1 [.string a1] (fun _ => True) (fun _ => False) rfl rfl ?aP (fun _ hk => hk.elim) ?aF ?aO ?aB ?aS ?aL ?_; (case aP => exact rfl); (case aB => exact (hh HB)); (case aF => exact (fun _ _ => trivial)); (case aO => exact (rk HO_5)); (case aS => exact (below_size (hh HB))); (case aL => have := LMc11.1; omega); intro v307 w13 ho hb hg hat; rw [<- Ny306.1] at ho; have HO308 := aM (ho); replace HB := aM (hb); clear HO_5; clear ho hb hg hat; have p309 : 0 <= (x7_1 : Int) := dt; have q309 : x7_1 < (l0.length : Int) := dt; obtain ⟨ad309, e309, hx309_0⟩ := Kd.at_string HR0.1 x7_1 p309 q309; obtain rfl : ad305 = ad309 := (by injection e309); replace hx309_0 := hx HB hx309_0; replace p309 := eq_true p309; replace q309 := eq_true q309) | ((with_reducible refine gate_builtin (b := .append) (xs := #[.tmp 34, .tmp 39]) rfl ?_); at_builtin; refine R_append Kd.string (w0 := w) w.heap.size rfl (.tmp 34) (.tmp 39) 25 9 (.string ⟨#[]⟩) 16 rfl Try.underlying25 info9 rfl (by decide) (by omega) v307 y306 (rdOf ByteArray.empty l0 x7_1) [.string (rdOf ByteArray.empty l0 x7_1)] (fun _ => True) (fun _ => False) rfl rfl ?aP (fun _ hk => hk.elim) ?aF ?aO ?aB ?aS ?aL ?_; (case aP => exact rfl); (case aB => exact (hh HB)); (case aF => exact (fun _ _ => trivial)); (case aO => exact (rk HO308)); (case aS => exact (below_size (hh HB))); (case aL => have := LMc12.1; omega); intro v311 w14 ho hb hg hat; rw [<- Ny310.1] at ho; have HO312 := aM (ho); replace HB := aM (hb); clear HO308; clear ho hb hg hat))
     go_roundg kj3
     case measure => have := HK1.1; have := HJ3.1; omega
     case rel => exact ⟨(y310), (true), (wrap64 (x7_1 + 1)), rr, rr, H', ⟨by have := HK1.1; have := HJ3.1; omega⟩, ⟨rk HO312⟩, ⟨hh HB⟩⟩
mutual
noncomputable def r_Imports.l0 : Nat -> List (S42) -> ByteArray -> List ByteArray -> Int -> Option (List ByteArray)
 | 0, _, _, _, _ => none
 | k + 1, x0, x1, x5, x6 => if x6 < (x0.length : Int) then (r_Imports.l1 k x0 x1 x5 x6 0) else (some x5)
noncomputable def r_Imports.l1 : Nat -> List (S42) -> ByteArray -> List ByteArray -> Int -> Int -> Option (List ByteArray)
 | 0, _, _, _, _, _ => none
 | k + 1, x0, x1, x5, x6, x7 => if 0 <= x6 then (if x6 < (x0.length : Int) then (if x7 < (((rd_T42 x0 x6).f3).length : Int) then (if ((rd_T42 x0 x6).f0).toList = x1.toList then (if 0 <= x7 then ((r_Insert.f k x5 ((rd_T66 ((rd_T42 x0 x6).f3) x7).f0)).bind fun t325 => (r_Imports.l1 k x0 x1 t325 x6 (wrap64 (x7 + 1)))) else (none)) else (r_Imports.l0 k x0 x1 x5 (wrap64 (x6 + 1)))) else (r_Imports.l0 k x0 x1 x5 (wrap64 (x6 + 1)))) else (none)) else (none)
end
noncomputable def r_Imports.f (k : Nat) (l0 : List (S42)) (a1 : ByteArray) : Option (List ByteArray) := r_Imports.l0 k l0 a1 ([] : List ByteArray) 0
theorem r_Imports.calls (k : Nat) (A0 : Option Addr) (c0 : Nat) (l0 : List (S42)) (a1 : ByteArray) (r : List ByteArray) (w : World) (hr0 : Kd.C k42 w A0 l0.length l0) (hc0 : l0.length <= c0) (h : r_Imports.f k l0 a1 = some r) :
 Calls Try.prog 22 #[.slice A0 l0.length c0, .string a1] w fun e w' => ∃ v0_ : Value, e = .returned (v0_) /\ Kd.R Kd.string 9 w' w.heap.size (fun _ => True) v0_ r /\ Below w.heap.size w w' := by
 have HR0 := aM hr0
 have HC0 := aM hc0
 clear hr0 hc0
 have HB := aM (Below.refl w.heap.size w)
 have H : (r_Imports.l0 k l0 a1 ([] : List ByteArray) 0) = some r := h
 clear h
 have H' := aM H
 clear H
 go_enter Try.func22, Try.ntmps22
 go_wp2
 go_loopg [5, 6] k (fun kq v5 v6 w' => ∃ (x5_1 : List ByteArray) (x6_1 : Int), v6 = .int .i64 x6_1 /\ Az (r_Imports.l0 kq l0 a1 x5_1 x6_1 = some r) /\ Az (kq <= k) /\ Az (Kd.R Kd.string 9 w' w.heap.size (fun _ => True) v5 x5_1) /\ Az (Below w.heap.size w w'))
 case atStart => exact ⟨(([] : List ByteArray)), (0), rr, H', ⟨Nat.le_refl _⟩, ⟨by first | exact R_nil _ _ _ _ _ | exact N_nil _ _ _ _ _ | exact V_nil _ _ _ _ _ | exact Q_nil _ _ _ _ _ | exact S_nil _ _ _ _ _⟩, ⟨hh HB⟩⟩
 case round =>
  clear H'
  obtain ⟨x5_1, x6_1, rfl, HA, HK1, HO_5, HB⟩ := hrel
  cases gk with
  | zero => exact absurd HA.1 (by simp [r_Imports.l0])
  | succ k1 =>
   have H := HA.1
   clear HA
   simp only [r_Imports.l0] at H
   by_cases c3 : x6_1 < (l0.length : Int)
   rotate_left
   · rw [if_neg c3] at H
     have c3b0 : decide (x6_1 < (l0.length : Int)) = false := decide_eq_false c3
     clear c3
     obtain rfl := Option.some.inj H
     go_wp2
     go_ret
     exact ⟨_, by first | rfl | (simp [errW_none, errW_some] <;> rfl) | (simp [*, errW_none, errW_some] <;> rfl), rk HO_5, hh HB⟩
   rw [if_pos c3] at H
   have c3b0 : decide (x6_1 < (l0.length : Int)) = true := decide_eq_true c3
   clear c3
   have H' := aM H
   clear H
   go_wp2
   go_loopg [5, 7] k1 (fun kq v5 v7 w' => ∃ (x5_2 : List ByteArray) (x7_2 : Int), v7 = .int .i64 x7_2 /\ Az (r_Imports.l1 kq l0 a1 x5_2 x6_1 x7_2 = some r) /\ Az (kq <= k1) /\ Az (Kd.R Kd.string 9 w' w.heap.size (fun _ => True) v5 x5_2) /\ Az (Below w.heap.size w w'))
   case atStart => exact ⟨(x5_1), (0), rr, H', ⟨Nat.le_refl _⟩, ⟨rk HO_5⟩, ⟨hh HB⟩⟩
   case round =>
    clear H'
    clear c3b0
    obtain ⟨x5_2, x7_2, rfl, HA, HK2, HO_5, HB⟩ := hrel
    cases gk with
    | zero => exact absurd HA.1 (by simp [r_Imports.l1])
    | succ k2 =>
     have H := HA.1
     clear HA
     simp only [r_Imports.l1] at H
     by_cases c4 : 0 <= x6_1
     rotate_left
     · rw [if_neg c4] at H
       exact absurd H (by simp)
     rw [if_pos c4] at H
     have c4b0 : decide (0 <= x6_1) = true := decide_eq_true c4
     clear c4
     by_cases c5 : x6_1 < (l0.length : Int)
     rotate_left
     · rw [if_neg c5] at H
       exact absurd H (by simp)
     rw [if_pos c5] at H
     have c5b0 : decide (x6_1 < (l0.length : Int)) = true := decide_eq_true c5
     clear c5
     by_cases c6 : x7_2 < (((rd_T42 l0 x6_1).f3).length : Int)
     rotate_left
     · rw [if_neg c6] at H
       have c6b0 : decide (x7_2 < (((rd_T42 l0 x6_1).f3).length : Int)) = false := decide_eq_false c6
       clear c6
       have H' := aM H
       clear H
       have p321 : 0 <= (x6_1 : Int) := dt
       have q321 : x6_1 < (l0.length : Int) := dt
       obtain ⟨ad321, A321_2, c321_2, A321_3, c321_3, e321, hx321_0, hx321_1, hx321_2, hx321_3, hx321_4, hl321_2, hi321_2, hl321_3, hi321_3⟩ := at_T42 HR0.1 x6_1 p321 q321
       cases e321
       replace hx321_0 := hx HB hx321_0
       replace hx321_1 := hx HB hx321_1
       have hw_ea321_2 := aM hx321_2; replace hx321_2 := hx HB hx321_2
       have hw_ea321_3 := aM hx321_3; replace hx321_3 := hx HB hx321_3
       replace hx321_4 := hx HB hx321_4
       have HR321_2 := aM hi321_2
       have HC321_2 := aM hl321_2
       clear hi321_2 hl321_2
       have HR321_3 := aM hi321_3
       have HC321_3 := aM hl321_3
       clear hi321_3 hl321_3
       replace p321 := eq_true p321
       replace q321 := eq_true q321
       go_wp2
       go_roundg k2
       case measure => have := HK1.1; have := HK2.1; omega
       case rel => exact ⟨(x5_2), (wrap64 (x6_1 + 1)), rr, H', ⟨by have := HK1.1; have := HK2.1; omega⟩, ⟨rk HO_5⟩, ⟨hh HB⟩⟩
     rw [if_pos c6] at H
     have c6b0 : decide (x7_2 < (((rd_T42 l0 x6_1).f3).length : Int)) = true := decide_eq_true c6
     clear c6
     by_cases c7 : ((rd_T42 l0 x6_1).f0).toList = a1.toList
     rotate_left
     · rw [if_neg c7] at H
       have c7b0 : (((rd_T42 l0 x6_1).f0).toList == a1.toList) = false := beq_eq_false_iff_ne.mpr c7
       have c7b1 : (((rd_T42 l0 x6_1).f0).toList != a1.toList) = true := bne_iff_ne.mpr c7
       have H' := aM H
       clear H
       have p321 : 0 <= (x6_1 : Int) := dt
       have q321 : x6_1 < (l0.length : Int) := dt
       obtain ⟨ad321, A321_2, c321_2, A321_3, c321_3, e321, hx321_0, hx321_1, hx321_2, hx321_3, hx321_4, hl321_2, hi321_2, hl321_3, hi321_3⟩ := at_T42 HR0.1 x6_1 p321 q321
       cases e321
       replace hx321_0 := hx HB hx321_0
       replace hx321_1 := hx HB hx321_1
       have hw_ea321_2 := aM hx321_2; replace hx321_2 := hx HB hx321_2
       have hw_ea321_3 := aM hx321_3; replace hx321_3 := hx HB hx321_3
       replace hx321_4 := hx HB hx321_4
       have HR321_2 := aM hi321_2
       have HC321_2 := aM hl321_2
       clear hi321_2 hl321_2
       have HR321_3 := aM hi321_3
       have HC321_3 := aM hl321_3
       clear hi321_3 hl321_3
       replace p321 := eq_true p321
       replace q321 := eq_true q321
       have p322 : 0 <= (x6_1 : Int) := dt
       have q322 : x6_1 < (l0.length : Int) := dt
       obtain ⟨ad322, A322_2, c322_2, A322_3, c322_3, e322, hx322_0, hx322_1, hx322_2, hx322_3, hx322_4, hl322_2, hi322_2, hl322_3, hi322_3⟩ := at_T42 HR0.1 x6_1 p322 q322
       obtain rfl : ad321 = ad322 := (by injection e322)
       replace hx322_0 := hx HB hx322_0
       replace hx322_1 := hx HB hx322_1
       have hw_ea322_2 := aM hx322_2; replace hx322_2 := hx HB hx322_2
       have hw_ea322_3 := aM hx322_3; replace hx322_3 := hx HB hx322_3
       replace hx322_4 := hx HB hx322_4
       have HR322_2 := aM hi322_2
       have HC322_2 := aM hl322_2
       clear hi322_2 hl322_2
       have HR322_3 := aM hi322_3
       have HC322_3 := aM hl322_3
       clear hi322_3 hl322_3
       replace p322 := eq_true p322
       replace q322 := eq_true q322
       have ea_ := Option.some.inj (by first | exact hx321_2.symm.trans hx322_2 | exact hw_ea321_2.1.symm.trans hw_ea322_2.1)
       injection ea_ with ea_ en_ ec_
       subst ea_
       subst ec_
       clear en_
       have ea_ := Option.some.inj (by first | exact hx321_3.symm.trans hx322_3 | exact hw_ea321_3.1.symm.trans hw_ea322_3.1)
       injection ea_ with ea_ en_ ec_
       subst ea_
       subst ec_
       clear en_
       go_wp2
       go_roundg k2
       case measure => have := HK1.1; have := HK2.1; omega
       case rel => exact ⟨(x5_2), (wrap64 (x6_1 + 1)), rr, H', ⟨by have := HK1.1; have := HK2.1; omega⟩, ⟨rk HO_5⟩, ⟨hh HB⟩⟩
     rw [if_pos c7] at H
     have c7b0 : (((rd_T42 l0 x6_1).f0).toList == a1.toList) = true := beq_iff_eq.mpr c7
     have c7b1 : (((rd_T42 l0 x6_1).f0).toList != a1.toList) = false := bne_eq_false_iff_eq.mpr c7
     clear c7
     by_cases c8 : 0 <= x7_2
     rotate_left
     · rw [if_neg c8] at H
       exact absurd H (by simp)
     rw [if_pos c8] at H
     have c8b0 : decide (0 <= x7_2) = true := decide_eq_true c8
     clear c8
     replace H := Option.bind_eq_some_iff.mp H
     obtain ⟨t325, A90, H⟩ := H
     try dsimp only at H
     have A9 := aM A90
     clear A90
     have H' := aM H
     clear H
     have p321 : 0 <= (x6_1 : Int) := dt
     have q321 : x6_1 < (l0.length : Int) := dt
     obtain ⟨ad321, A321_2, c321_2, A321_3, c321_3, e321, hx321_0, hx321_1, hx321_2, hx321_3, hx321_4, hl321_2, hi321_2, hl321_3, hi321_3⟩ := at_T42 HR0.1 x6_1 p321 q321
     cases e321
     replace hx321_0 := hx HB hx321_0
     replace hx321_1 := hx HB hx321_1
     have hw_ea321_2 := aM hx321_2; replace hx321_2 := hx HB hx321_2
     have hw_ea321_3 := aM hx321_3; replace hx321_3 := hx HB hx321_3
     replace hx321_4 := hx HB hx321_4
     have HR321_2 := aM hi321_2
     have HC321_2 := aM hl321_2
     clear hi321_2 hl321_2
     have HR321_3 := aM hi321_3
     have HC321_3 := aM hl321_3
     clear hi321_3 hl321_3
     replace p321 := eq_true p321
     replace q321 := eq_true q321
     have p322 : 0 <= (x6_1 : Int) := dt
     have q322 : x6_1 < (l0.length : Int) := dt
     obtain ⟨ad322, A322_2, c322_2, A322_3, c322_3, e322, hx322_0, hx322_1, hx322_2, hx322_3, hx322_4, hl322_2, hi322_2, hl322_3, hi322_3⟩ := at_T42 HR0.1 x6_1 p322 q322
     obtain rfl : ad321 = ad322 := (by injection e322)
     replace hx322_0 := hx HB hx322_0
     replace hx322_1 := hx HB hx322_1
     have hw_ea322_2 := aM hx322_2; replace hx322_2 := hx HB hx322_2
     have hw_ea322_3 := aM hx322_3; replace hx322_3 := hx HB hx322_3
     replace hx322_4 := hx HB hx322_4
     have HR322_2 := aM hi322_2
     have HC322_2 := aM hl322_2
     clear hi322_2 hl322_2
     have HR322_3 := aM hi322_3
     have HC322_3 := aM hl322_3
     clear hi322_3 hl322_3
     replace p322 := eq_true p322
     replace q322 := eq_true q322
     have ea_ := Option.some.inj (by first | exact hx321_2.symm.trans hx322_2 | exact hw_ea321_2.1.symm.trans hw_ea322_2.1)
     injection ea_ with ea_ en_ ec_
     subst ea_
     subst ec_
     clear en_
     have ea_ := Option.some.inj (by first | exact hx321_3.symm.trans hx322_3 | exact hw_ea321_3.1.symm.trans hw_ea322_3.1)
     injection ea_ with ea_ en_ ec_
     subst ea_
     subst ec_
     clear en_
     have p323 : 0 <= (x6_1 : Int) := dt
     have q323 : x6_1 < (l0.length : Int) := dt
     obtain ⟨ad323, A323_2, c323_2, A323_3, c323_3, e323, hx323_0, hx323_1, hx323_2, hx323_3, hx323_4, hl323_2, hi323_2, hl323_3, hi323_3⟩ := at_T42 HR0.1 x6_1 p323 q323
     obtain rfl : ad321 = ad323 := (by injection e323)
     replace hx323_0 := hx HB hx323_0
     replace hx323_1 := hx HB hx323_1
     have hw_ea323_2 := aM hx323_2; replace hx323_2 := hx HB hx323_2
     have hw_ea323_3 := aM hx323_3; replace hx323_3 := hx HB hx323_3
     replace hx323_4 := hx HB hx323_4
     have HR323_2 := aM hi323_2
     have HC323_2 := aM hl323_2
     clear hi323_2 hl323_2
     have HR323_3 := aM hi323_3
     have HC323_3 := aM hl323_3
     clear hi323_3 hl323_3
     replace p323 := eq_true p323
     replace q323 := eq_true q323
     have ea_ := Option.some.inj (by first | exact hx321_2.symm.trans hx323_2 | exact hw_ea321_2.1.symm.trans hw_ea323_2.1)
     injection ea_ with ea_ en_ ec_
     subst ea_
     subst ec_
     clear en_
     have ea_ := Option.some.inj (by first | exact hx321_3.symm.trans hx323_3 | exact hw_ea321_3.1.symm.trans hw_ea323_3.1)
     injection ea_ with ea_ en_ ec_
     subst ea_
     subst ec_
     clear en_
     have p324 : 0 <= (x7_2 : Int) := dt
     have q324 : x7_2 < (((rd_T42 l0 x6_1).f3).length : Int) := dt
     obtain ⟨ad324, A324_5, c324_5, e324, hx324_0, hx324_1, hx324_2, hx324_3, hx324_4, hx324_5, hl324_5, hi324_5⟩ := at_T66 HR323_3.1 x7_2 p324 q324
     cases e324
     replace hx324_0 := hx HB hx324_0
     replace hx324_1 := hx HB hx324_1
     replace hx324_2 := hx HB hx324_2
     replace hx324_3 := hx HB hx324_3
     replace hx324_4 := hx HB hx324_4
     replace hx324_5 := hx HB hx324_5
     have HR324_5 := aM hi324_5
     have HC324_5 := aM hl324_5
     clear hi324_5 hl324_5
     replace p324 := eq_true p324
     replace q324 := eq_true q324
     obtain ⟨Ao10, co10, eo10⟩ := R_slice HO_5.1
     subst eo10
     go_wp2_with (first | ((with_reducible refine gate_callee (f := 38) rfl ?_); refine gL (some 43) rfl rfl Try.func38 (by kernel_rfl) rfl #[.slice Ao10 x5_2.length co10, .string ((rd_T66 ((rd_T42 l0 x6_1).f3) x7_2).f0)] rfl ?_; (with_reducible refine (r_Insert.calls k2 _ _ x5_2 ((rd_T66 ((rd_T42 l0 x6_1).f3) x7_2).f0) t325 _ ?side1 ?side2 A9.1).mono ?_); (case side1 => exact cr HO_5); (case side2 => exact (R_reads' HO_5.1).2.1); rintro e w11 ⟨v326, rfl, ho0, hb⟩; refine ⟨_, rfl, ?_⟩; have HO327 := aM (R_lower (R_new' ho0 (R_lt (rk HO_5))) (below_size (hh HB))); replace HO_5 := aM (R_elder' (rk HO_5) (R_base ho0) hb); replace HB := bs HB hb; clear hb ho0))
     go_roundg k2
     case measure => have := HK1.1; have := HK2.1; omega
     case rel => exact ⟨(t325), (wrap64 (x7_2 + 1)), rr, H', ⟨by have := HK1.1; have := HK2.1; omega⟩, ⟨rz (R_mono HO327.1 (fun _ hk => trivial))⟩, ⟨hh HB⟩⟩
noncomputable def r_Names.l0 : Nat -> List (S42) -> List ByteArray -> Int -> Option (List ByteArray)
 | 0, _, _, _ => none
 | k + 1, x0, x3, x4 => if x4 < (x0.length : Int) then (if 0 <= x4 then ((r_Insert.f k x3 ((rd_T42 x0 x4).f0)).bind fun t329 => (r_Names.l0 k x0 t329 (wrap64 (x4 + 1)))) else (none)) else (some x3)
noncomputable def r_Names.f (k : Nat) (l0 : List (S42)) : Option (List ByteArray) := r_Names.l0 k l0 ([] : List ByteArray) 0
theorem r_Names.calls (k : Nat) (A0 : Option Addr) (c0 : Nat) (l0 : List (S42)) (r : List ByteArray) (w : World) (hr0 : Kd.C k42 w A0 l0.length l0) (hc0 : l0.length <= c0) (h : r_Names.f k l0 = some r) :
 Calls Try.prog 28 #[.slice A0 l0.length c0] w fun e w' => ∃ v0_ : Value, e = .returned (v0_) /\ Kd.R Kd.string 9 w' w.heap.size (fun _ => True) v0_ r /\ Below w.heap.size w w' := by
 have HR0 := aM hr0
 have HC0 := aM hc0
 clear hr0 hc0
 have HB := aM (Below.refl w.heap.size w)
 have H : (r_Names.l0 k l0 ([] : List ByteArray) 0) = some r := h
 clear h
 have H' := aM H
 clear H
 go_enter Try.func28, Try.ntmps28
 go_wp2
 go_loopg [3, 4] k (fun kq v3 v4 w' => ∃ (x3_1 : List ByteArray) (x4_1 : Int), v4 = .int .i64 x4_1 /\ Az (r_Names.l0 kq l0 x3_1 x4_1 = some r) /\ Az (kq <= k) /\ Az (Kd.R Kd.string 9 w' w.heap.size (fun _ => True) v3 x3_1) /\ Az (Below w.heap.size w w'))
 case atStart => exact ⟨(([] : List ByteArray)), (0), rr, H', ⟨Nat.le_refl _⟩, ⟨by first | exact R_nil _ _ _ _ _ | exact N_nil _ _ _ _ _ | exact V_nil _ _ _ _ _ | exact Q_nil _ _ _ _ _ | exact S_nil _ _ _ _ _⟩, ⟨hh HB⟩⟩
 case round =>
  clear H'
  obtain ⟨x3_1, x4_1, rfl, HA, HK1, HO_3, HB⟩ := hrel
  cases gk with
  | zero => exact absurd HA.1 (by simp [r_Names.l0])
  | succ k1 =>
   have H := HA.1
   clear HA
   simp only [r_Names.l0] at H
   by_cases c2 : x4_1 < (l0.length : Int)
   rotate_left
   · rw [if_neg c2] at H
     have c2b0 : decide (x4_1 < (l0.length : Int)) = false := decide_eq_false c2
     clear c2
     obtain rfl := Option.some.inj H
     go_wp2
     go_ret
     exact ⟨_, by first | rfl | (simp [errW_none, errW_some] <;> rfl) | (simp [*, errW_none, errW_some] <;> rfl), rk HO_3, hh HB⟩
   rw [if_pos c2] at H
   have c2b0 : decide (x4_1 < (l0.length : Int)) = true := decide_eq_true c2
   clear c2
   by_cases c3 : 0 <= x4_1
   rotate_left
   · rw [if_neg c3] at H
     exact absurd H (by simp)
   rw [if_pos c3] at H
   have c3b0 : decide (0 <= x4_1) = true := decide_eq_true c3
   clear c3
   replace H := Option.bind_eq_some_iff.mp H
   obtain ⟨t329, A40, H⟩ := H
   try dsimp only at H
   have A4 := aM A40
   clear A40
   have H' := aM H
   clear H
   have p328 : 0 <= (x4_1 : Int) := dt
   have q328 : x4_1 < (l0.length : Int) := dt
   obtain ⟨ad328, A328_2, c328_2, A328_3, c328_3, e328, hx328_0, hx328_1, hx328_2, hx328_3, hx328_4, hl328_2, hi328_2, hl328_3, hi328_3⟩ := at_T42 HR0.1 x4_1 p328 q328
   cases e328
   replace hx328_0 := hx HB hx328_0
   replace hx328_1 := hx HB hx328_1
   replace hx328_2 := hx HB hx328_2
   replace hx328_3 := hx HB hx328_3
   replace hx328_4 := hx HB hx328_4
   have HR328_2 := aM hi328_2
   have HC328_2 := aM hl328_2
   clear hi328_2 hl328_2
   have HR328_3 := aM hi328_3
   have HC328_3 := aM hl328_3
   clear hi328_3 hl328_3
   replace p328 := eq_true p328
   replace q328 := eq_true q328
   obtain ⟨Ao5, co5, eo5⟩ := R_slice HO_3.1
   subst eo5
   go_wp2_with (first | ((with_reducible refine gate_callee (f := 38) rfl ?_); refine gL (some 17) rfl rfl Try.func38 (by kernel_rfl) rfl #[.slice Ao5 x3_1.length co5, .string ((rd_T42 l0 x4_1).f0)] rfl ?_; (with_reducible refine (r_Insert.calls k1 _ _ x3_1 ((rd_T42 l0 x4_1).f0) t329 _ ?side1 ?side2 A4.1).mono ?_); (case side1 => exact cr HO_3); (case side2 => exact (R_reads' HO_3.1).2.1); rintro e w6 ⟨v330, rfl, ho0, hb⟩; refine ⟨_, rfl, ?_⟩; have HO331 := aM (R_lower (R_new' ho0 (R_lt (rk HO_3))) (below_size (hh HB))); replace HO_3 := aM (R_elder' (rk HO_3) (R_base ho0) hb); replace HB := bs HB hb; clear hb ho0))
   go_roundg k1
   case measure => have := HK1.1; omega
   case rel => exact ⟨(t329), (wrap64 (x4_1 + 1)), rr, H', ⟨by have := HK1.1; omega⟩, ⟨rz (R_mono HO331.1 (fun _ hk => trivial))⟩, ⟨hh HB⟩⟩
end Go.Proofs.Ytmadhaccjmakdaa.P
