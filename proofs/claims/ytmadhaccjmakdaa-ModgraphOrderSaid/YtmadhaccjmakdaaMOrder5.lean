/- Part 5 of 6 of one proof: The list of components that graph.ordered hands back is the only one in which each component is the ready one with the smallest node: for every valid graph with less than 1000000 nodes -/
import Derived.Test.YtmadhaccjmakdaaMOrder1
import Derived.Test.YtmadhaccjmakdaaMOrder2
import Derived.Test.YtmadhaccjmakdaaMOrder3
import Derived.Test.YtmadhaccjmakdaaMOrder4
set_option linter.unusedVariables false
set_option linter.unusedSimpArgs false
set_option maxHeartbeats 8000000
set_option maxRecDepth 100000
namespace Go.Proofs.Ytmadhaccjmakdaa.P
open Go.RowKit Go.Proofs.Yw.A Go.Proofs.Yw.A.Kd Go.Proofs.Yw.B Go.Proofs.Yw.C
attribute [local go_sem] str_gtr str_leq str_geq max2_int min2_int max_two min_two max_three min_three max_four min_four
mutual
noncomputable def g_Reach.j0 : Nat -> Int -> Bool -> List (List Int) -> Option (List Int)
 | 0, _, _, _ => none
 | k + 1, x1, x21, x245000 => if x21 = true then (some ([] : List Int)) else ((g_reached.f k x245000 (([x1] : List Int))).bind fun t249 => (g_Reach.l0 k ([] : List Int) t249 (t249.length : Int) 0))
noncomputable def g_Reach.l0 : Nat -> List Int -> List Bool -> Int -> Int -> Option (List Int)
 | 0, _, _, _, _ => none
 | k + 1, x5, x26, x27, x28 => if x28 < x27 then (if 0 <= x28 then (if x28 < (x26.length : Int) then (if rdOf false x26 x28 = true then (if x5.length < 17592186044416 then (g_Reach.l0 k (x5 ++ [x28]) x26 x27 (wrap64 (x28 + 1))) else (none)) else (g_Reach.l0 k x5 x26 x27 (wrap64 (x28 + 1)))) else (none)) else (none)) else (some x5)
end
noncomputable def g_Reach.f (k : Nat) (l0_0 : List (List Int)) (a1 : Int) : Option (List Int) := (g_valid.f k l0_0).bind fun t245 => (if t245 = true then (if a1 < 0 then (g_Reach.j0 k a1 true l0_0) else (g_Reach.j0 k a1 (decide (a1 >= (l0_0.length : Int))) l0_0)) else (g_Reach.j0 k a1 true l0_0))
theorem g_Reach.calls (k : Nat) (A0_0 : Option Addr) (c0_0 : Nat) (l0_0 : List (List Int)) (a1 : Int) (r : List Int) (w : World) (hr0_0 : Kd.C (Kd.slice 3 (Kd.int .i64)) w A0_0 l0_0.length l0_0) (hc0_0 : l0_0.length <= c0_0) (h : g_Reach.f k l0_0 a1 = some r) :
 Calls Try.prog 43 #[.agg #[.slice A0_0 l0_0.length c0_0], .int .i64 a1] w fun e w' => ∃ v0_ : Value, e = .returned (v0_) /\ Kd.R (Kd.int .i64) 3 w' w.heap.size (fun _ => True) v0_ r /\ Below w.heap.size w w' := by
 have hu49 := Try.underlying49
 have HR0_0 := aM hr0_0
 have HC0_0 := aM hc0_0
 clear hr0_0 hc0_0
 have HB := aM (Below.refl w.heap.size w)
 have H : ((g_valid.f k l0_0).bind fun t245 => (if t245 = true then (if a1 < 0 then (g_Reach.j0 k a1 true l0_0) else (g_Reach.j0 k a1 (decide (a1 >= (l0_0.length : Int))) l0_0)) else (g_Reach.j0 k a1 true l0_0))) = some r := h
 clear h
 have HC3 := aM H
 clear H
 go_enter Try.func43, Try.ntmps43
 go_upto_region 1 with (first | ((with_reducible refine gate_dst (N := 2) rfl ?_); (try (refine gate_guard (by rfl) ?_; dsimp only)); refine be 2 rfl rfl #[.slice A0_0 l0_0.length c0_0] 49 ?_; intro gb244 hg w4 hbox hb; have BK244 := aM hbox; have GE244 := gs hg HB; replace HB := bs HB hb; clear hb hbox hg))
 (try simp only [Act.put, sA, sZ, sS])
 go_cut [21] (fun v21 wc => ∃ (kq : Nat) (x21_2 : Bool), v21 = .bool x21_2 /\ Az (g_Reach.j0 kq a1 x21_2 l0_0 = some r) /\ Az (kq <= k) /\ Az (wc.heap[gb244]? = some (.cells #[(.slice A0_0 l0_0.length c0_0)] 49 (0, 0))) /\ Az (Below w.heap.size w wc))
 case first =>
  have H := HC3.1
  clear HC3
  replace H := Option.bind_eq_some_iff.mp H
  obtain ⟨t245, A50, H⟩ := H
  try dsimp only at H
  have A5 := aM A50
  clear A50
  by_cases c6 : t245 = true
  rotate_left
  · replace c6 := Bool.eq_false_iff.mpr c6
    subst c6
    rw [if_neg (show ¬ (false = true) by decide)] at H
    have H' := aM H
    clear H
    have hcz13_0 : w4.cell? ⟨gb244, 0, none⟩ = some (.slice A0_0 l0_0.length c0_0) := (blk_cell BK244.1 0).trans rfl
    have hfz13_0 := blk_frozen BK244.1 0
    go_wp2_with (first | ((with_reducible refine gate_callee (f := 39) rfl ?_); refine gL (some 9) rfl rfl Try.func39 (by kernel_rfl) rfl #[.agg #[.slice A0_0 l0_0.length c0_0]] rfl ?_; (with_reducible refine (g_valid.calls k _ _ l0_0 false _ ?side1 ?side2 A5.1).mono ?_); (case side1 => exact cb HR0_0 HB); (case side2 => exact HC0_0.1); rintro e w14 ⟨rfl, hb⟩; refine ⟨_, rfl, ?_⟩; replace BK244 := kb BK244 hb; replace HB := bs HB hb; clear hb))
    go_meet
    case rel => exact ⟨_, (true), rr, H', ⟨by first | omega | exact Nat.le_refl _⟩, ⟨kk BK244⟩, ⟨hh HB⟩⟩
  subst c6
  rw [if_pos rfl] at H
  by_cases c7 : a1 < 0
  · rw [if_pos c7] at H
    have c7b0 : decide (a1 < 0) = true := decide_eq_true c7
    clear c7
    (first | rw [c7b0] | (simp only [i64_w, i32_w]; rw [c7b0]) | skip)
    have H' := aM H
    clear H
    have hcz8_0 : w4.cell? ⟨gb244, 0, none⟩ = some (.slice A0_0 l0_0.length c0_0) := (blk_cell BK244.1 0).trans rfl
    have hfz8_0 := blk_frozen BK244.1 0
    go_wp2_with (first | ((with_reducible refine gate_callee (f := 39) rfl ?_); refine gL (some 9) rfl rfl Try.func39 (by kernel_rfl) rfl #[.agg #[.slice A0_0 l0_0.length c0_0]] rfl ?_; (with_reducible refine (g_valid.calls k _ _ l0_0 true _ ?side1 ?side2 A5.1).mono ?_); (case side1 => exact cb HR0_0 HB); (case side2 => exact HC0_0.1); rintro e w9 ⟨rfl, hb⟩; refine ⟨_, rfl, ?_⟩; replace BK244 := kb BK244 hb; replace HB := bs HB hb; clear hb))
    go_meet
    case rel => exact ⟨_, (true), rr, H', ⟨by first | omega | exact Nat.le_refl _⟩, ⟨kk BK244⟩, ⟨hh HB⟩⟩
  rw [if_neg c7] at H
  have c7b0 : decide (a1 < 0) = false := decide_eq_false c7
  clear c7
  (first | rw [c7b0] | (simp only [i64_w, i32_w]; rw [c7b0]) | skip)
  have H' := aM H
  clear H
  have hcz10_0 : w4.cell? ⟨gb244, 0, none⟩ = some (.slice A0_0 l0_0.length c0_0) := (blk_cell BK244.1 0).trans rfl
  have hfz10_0 := blk_frozen BK244.1 0
  go_wp2_with (first | ((with_reducible refine gate_callee (f := 39) rfl ?_); refine gL (some 9) rfl rfl Try.func39 (by kernel_rfl) rfl #[.agg #[.slice A0_0 l0_0.length c0_0]] rfl ?_; (with_reducible refine (g_valid.calls k _ _ l0_0 true _ ?side1 ?side2 A5.1).mono ?_); (case side1 => exact cb HR0_0 HB); (case side2 => exact HC0_0.1); rintro e w11 ⟨rfl, hb⟩; refine ⟨_, rfl, ?_⟩; replace BK244 := kb BK244 hb; replace HB := bs HB hb; clear hb; have hcz12_0 : w11.cell? ⟨gb244, 0, none⟩ = some (.slice A0_0 l0_0.length c0_0) := (blk_cell BK244.1 0).trans rfl; have hfz12_0 := blk_frozen BK244.1 0))
  go_meet
  case rel => exact ⟨_, (decide (a1 >= (l0_0.length : Int))), rr, H', ⟨by first | omega | exact Nat.le_refl _⟩, ⟨kk BK244⟩, ⟨hh HB⟩⟩
 case rest =>
  clear HC3
  obtain ⟨kq, x21_2, rfl, HA, HJ2, BK244, HB⟩ := hcut
  cases kq with
  | zero => exact absurd HA.1 (by simp [g_Reach.j0])
  | succ kj2 =>
   have H := HA.1
   clear HA
   simp only [g_Reach.j0] at H
   by_cases c15 : x21_2 = true
   · subst c15
     rw [if_pos rfl] at H
     obtain rfl := Option.some.inj H
     go_wp2
     go_ret
     exact ⟨_, by first | rfl | (simp [errW_none, errW_some] <;> rfl) | (simp [*, errW_none, errW_some] <;> rfl), by first | exact R_nil _ _ _ _ _ | exact N_nil _ _ _ _ _ | exact V_nil _ _ _ _ _ | exact Q_nil _ _ _ _ _ | exact S_nil _ _ _ _ _, hh HB⟩
   replace c15 := Bool.eq_false_iff.mpr c15
   subst c15
   rw [if_neg (show ¬ (false = true) by decide)] at H
   obtain ⟨y246, hy246⟩ : ∃ y_ : List Int, y_ = (([a1] : List Int)) := ⟨_, rfl⟩
   replace H : ((g_reached.f kj2 l0_0 y246).bind fun t249 => (g_Reach.l0 kj2 ([] : List Int) t249 (t249.length : Int) 0)) = some r := by first | (rw [hy246]; with_reducible exact H) | (have H2_ := (Option.bind_some _ _).symm.trans H; rw [hy246]; with_reducible exact H2_) | (have H2_ := (Option.bind_some _ _).symm.trans H; with_reducible exact H2_) | with_reducible exact H | (rw [hy246]; exact H) | exact H
   have Ny246 := aM hy246
   clear hy246
   replace H := Option.bind_eq_some_iff.mp H
   obtain ⟨t249, A160, H⟩ := H
   try dsimp only at H
   have A16 := aM A160
   clear A160
   have H' := aM H
   clear H
   have hcz17_0 : wc.cell? ⟨gb244, 0, none⟩ = some (.slice A0_0 l0_0.length c0_0) := (blk_cell BK244.1 0).trans rfl
   have hfz17_0 := blk_frozen BK244.1 0
   go_wp2_with (first | ((with_reducible refine gate_dst (N := 25) rfl ?_); (try (refine gate_guard (by rfl) ?_; dsimp only)); refine R_lit (Kd.int .i64) _ 3 ?hg (N := 25) ?hd (xs := ([a1] : List Int)) (inner := [.int .i64 a1]) (ok := fun _ => True) (okp := fun _ => True) ?hr ?hp (fun _ hk => hk) trivial (Below.refl _ _) (Nat.le_refl _) (by simp) ?_; (case hd => rfl); (case hg => rfl); (case hr => first | (go_simp; done) | (go_simp; rfl)); (case hp => exact (Reps.one (show Kd.M (Kd.int .i64) _ _ _ a1 [.int .i64 a1] from rfl) (Reps.none _ _))); intro v247 w18 ho19 hb hg_ hnew_; clear hg_ hnew_; (first | rw [<- Ny246.1] at ho19 | (simp only [Int.reduceToNat] at ho19; rw [<- Ny246.1] at ho19)); have HO248 := aM (R_lower ho19 (below_size (hh HB))); replace BK244 := kb BK244 hb; replace HB := bs HB hb; clear hb ho19; obtain ⟨Ao20, co20, eo20⟩ := R_slice HO248.1; subst eo20) | ((with_reducible refine gate_callee (f := 58) rfl ?_); refine gL (some 26) rfl rfl Try.func58 (by kernel_rfl) rfl #[.slice A0_0 l0_0.length c0_0, .slice Ao20 y246.length co20] rfl ?_; (with_reducible refine (g_reached.calls kj2 _ _ l0_0 _ _ y246 t249 _ ?side1 ?side2 ?side3 ?side4 A16.1).mono ?_); (case side1 => exact cb HR0_0 HB); (case side2 => exact HC0_0.1); (case side3 => exact cr HO248); (case side4 => exact (R_reads' HO248.1).2.1); rintro e w21 ⟨v250, rfl, ho0, hb⟩; refine ⟨_, rfl, ?_⟩; have HO251 := aM (R_lower ho0 (below_size (hh HB))); replace HO248 := rb HO248 hb; replace BK244 := kb BK244 hb; replace HB := bs HB hb; clear hb ho0; obtain ⟨Ao22, co22, eo22⟩ := R_slice HO251.1; subst eo22))
   go_loopg [5, 28] kj2 (fun kq v5 v28 w' => ∃ (x5_2 : List Int) (x28_2 : Int), v28 = .int .i64 x28_2 /\ Az (g_Reach.l0 kq x5_2 t249 (t249.length : Int) x28_2 = some r) /\ Az (kq <= kj2) /\ Az (Kd.R (Kd.int .i64) 3 w' w.heap.size (fun _ => True) v5 x5_2) /\ Az (Kd.R Kd.bool 4 w' w.heap.size (fun _ => True) (.slice Ao22 t249.length co22) t249) /\ Az (w'.heap[gb244]? = some (.cells #[(.slice A0_0 l0_0.length c0_0)] 49 (0, 0))) /\ Az (Below w.heap.size w w'))
   case atStart => exact ⟨(([] : List Int)), (0), rr, H', ⟨Nat.le_refl _⟩, ⟨by first | exact R_nil _ _ _ _ _ | exact N_nil _ _ _ _ _ | exact V_nil _ _ _ _ _ | exact Q_nil _ _ _ _ _ | exact S_nil _ _ _ _ _⟩, ⟨rk HO251⟩, ⟨kk BK244⟩, ⟨hh HB⟩⟩
   case round =>
    clear H'
    clear hcz17_0 hfz17_0
    obtain ⟨x5_2, x28_2, rfl, HA, HK2, HO_5, HO_26, BK244, HB⟩ := hrel
    cases gk with
    | zero => exact absurd HA.1 (by simp [g_Reach.l0])
    | succ k2 =>
     have H := HA.1
     clear HA
     simp only [g_Reach.l0] at H
     by_cases c23 : x28_2 < (t249.length : Int)
     rotate_left
     · rw [if_neg c23] at H
       have c23b0 : decide (x28_2 < (t249.length : Int)) = false := decide_eq_false c23
       clear c23
       obtain rfl := Option.some.inj H
       go_wp2
       go_ret
       exact ⟨_, by first | rfl | (simp [errW_none, errW_some] <;> rfl) | (simp [*, errW_none, errW_some] <;> rfl), rk HO_5, hh HB⟩
     rw [if_pos c23] at H
     have c23b0 : decide (x28_2 < (t249.length : Int)) = true := decide_eq_true c23
     clear c23
     by_cases c24 : 0 <= x28_2
     rotate_left
     · rw [if_neg c24] at H
       exact absurd H (by simp)
     rw [if_pos c24] at H
     have c24b0 : decide (0 <= x28_2) = true := decide_eq_true c24
     clear c24
     by_cases c25 : x28_2 < (t249.length : Int)
     rotate_left
     · rw [if_neg c25] at H
       exact absurd H (by simp)
     rw [if_pos c25] at H
     have c25b0 : decide (x28_2 < (t249.length : Int)) = true := decide_eq_true c25
     clear c25
     obtain ⟨bq26, hbq26⟩ : ∃ b_ : Bool, b_ = (rdOf false t249 x28_2) := ⟨_, rfl⟩
     replace H : (if bq26 = true then (if x5_2.length < 17592186044416 then (g_Reach.l0 k2 (x5_2 ++ [x28_2]) t249 (t249.length : Int) (wrap64 (x28_2 + 1))) else (none)) else (g_Reach.l0 k2 x5_2 t249 (t249.length : Int) (wrap64 (x28_2 + 1)))) = some r := by rw [<- hbq26] at H; exact H
     have Nbq26 := aM hbq26
     clear hbq26
     by_cases c27 : bq26 = true
     rotate_left
     · replace c27 := Bool.eq_false_iff.mpr c27
       subst c27
       rw [if_neg (show ¬ (false = true) by decide)] at H
       have H' := aM H
       clear H
       have p252 : 0 <= (x28_2 : Int) := dt
       have q252 : x28_2 < (t249.length : Int) := dt
       obtain ⟨ad252, e252, hx252_0⟩ := Kd.at_bool (R_reads' HO_26.1).2.2 x28_2 p252 q252
       (try rw [<- Nbq26.1] at hx252_0)
       cases e252
       replace p252 := eq_true p252
       replace q252 := eq_true q252
       go_wp2
       go_roundg k2
       case measure => have := HJ2.1; have := HK2.1; omega
       case rel => exact ⟨(x5_2), (wrap64 (x28_2 + 1)), rr, H', ⟨by have := HJ2.1; have := HK2.1; omega⟩, ⟨rk HO_5⟩, ⟨rk HO_26⟩, ⟨kk BK244⟩, ⟨hh HB⟩⟩
     subst c27
     rw [if_pos rfl] at H
     by_cases c28 : x5_2.length < 17592186044416
     rotate_left
     · rw [if_neg c28] at H
       exact absurd H (by simp)
     rw [if_pos c28] at H
     have LMc28 := aM c28
     clear c28
     obtain ⟨y253, hy253⟩ : ∃ y_ : List Int, y_ = (x5_2 ++ [x28_2]) := ⟨_, rfl⟩
     replace H : (g_Reach.l0 k2 y253 t249 (t249.length : Int) (wrap64 (x28_2 + 1))) = some r := by first | (rw [hy253]; with_reducible exact H) | (have H2_ := (Option.bind_some _ _).symm.trans H; rw [hy253]; with_reducible exact H2_) | (have H2_ := (Option.bind_some _ _).symm.trans H; with_reducible exact H2_) | with_reducible exact H | (rw [hy253]; exact H) | exact H
     have Ny253 := aM hy253
     clear hy253
     have H' := aM H
     clear H
     have p252 : 0 <= (x28_2 : Int) := dt
     have q252 : x28_2 < (t249.length : Int) := dt
     obtain ⟨ad252, e252, hx252_0⟩ := Kd.at_bool (R_reads' HO_26.1).2.2 x28_2 p252 q252
     (try rw [<- Nbq26.1] at hx252_0)
     cases e252
     replace p252 := eq_true p252
     replace q252 := eq_true q252
     go_wp2_with (first | ((with_reducible refine gate_builtin (b := .append) (xs := #[.tmp 34, .tmp 36]) rfl ?_); (try (refine gate_guard (by rfl) ?_; dsimp only)); at_builtin; refine R_append (Kd.int .i64) (w0 := w) w.heap.size rfl (.tmp 34) (.tmp 36) 55 3 (.int .i64 0) 8 rfl Try.underlying55 info3 rfl (by decide) (by omega) u5 x5_2 x28_2 [.int .i64 x28_2] (fun _ => True) (fun _ => False) rfl rfl ?aP (fun _ hk => hk.elim) ?aF ?aO ?aB ?aS ?aL ?_; (case aP => exact rfl); (case aB => exact (hh HB)); (case aF => exact (fun _ _ => trivial)); (case aO => exact (rk HO_5)); (case aS => exact (below_size (hh HB))); (case aL => have := LMc28.1; omega); intro v254 w29 ho hb hg hat; rw [<- Ny253.1] at ho; have HO255 := aM (ho); replace HO_26 := aM (R_over' (rk HO_26) (R_typed (rk HO_5)) (by decide) hg); replace BK244 := aM (blk_grown (g := gb244) (o := .cells #[.slice A0_0 l0_0.length c0_0] 49 (0, 0)) (kk BK244) hg (R_ne HO_5.1 BK244.1 (by decide))); replace HB := aM (hb); clear HO_5; clear ho hb hg hat))
     go_roundg k2
     case measure => have := HJ2.1; have := HK2.1; omega
     case rel => exact ⟨(y253), (wrap64 (x28_2 + 1)), rr, H', ⟨by have := HJ2.1; have := HK2.1; omega⟩, ⟨rk HO255⟩, ⟨rk HO_26⟩, ⟨kk BK244⟩, ⟨hh HB⟩⟩
end Go.Proofs.Ytmadhaccjmakdaa.P
namespace Go.Proofs.Ytmadhaccjmakdaa
open Go.Shelf Go.Lib Go.RowKit Go.Maps Go.Sort Go.Proofs.Yw.A Go.Proofs.Yw.B Go.Proofs.Yw.C
attribute [local go_sem] max2_int min2_int max_two min_two max_three min_three max_four min_four
open P Mg
namespace P
open Classical in
noncomputable def m_reached.f (l0 : List ByteArray) (l1 l2 : List (List Int)) (s : ByteArray) : Option (List ByteArray × Int × ByteArray × Int × Int) :=
 if (l0.map dat).Pairwise (fun a b => a <= b) /\ l0.length <= 100 then
  if dat s ∈ l0.map dat then
   (Od.lim fun k => (g_Reach.f k l2 (rank (l0.map dat) (dat s) : Nat)).bind fun t => p_named.f k l0 l1 t).bind fun out => some (out.filter (fun x => !but s x), 0, ⟨#[]⟩, 0, 0)
  else some ([], 16, s, 0, 0)
 else none
end P
namespace Mg
def ReachPost (w : World) (r1 : List ByteArray) (r2 : Int) (r3 : ByteArray) (e : Ending) (w' : World) : Prop :=
 ∃ v0_ : Value, e = .returned (.tuple #[v0_, .agg #[.int .i64 r2, .string r3, .int .i64 0, .int .i64 0]]) /\ Kd.R Kd.string 9 w' w.heap.size (fun _ => True) v0_ r1 /\ Below w.heap.size w w'
def ReachAll (w : World) (l0 out : List ByteArray) (s : ByteArray) (e : Ending) (w' : World) : Prop := if dat s ∈ l0.map dat then ReachPost w (out.filter (fun x => !but s x)) 0 ⟨#[]⟩ e w' else ReachPost w [] 16 s e w'
def fst28 (w : World) (g : Nat) (c : Int) (x : ByteArray) : World := (((w.setCell ⟨g, 0, none⟩ (.int .i64 c)).setCell ⟨g, 1, none⟩ (.string x)).setCell ⟨g, 2, none⟩ (.int .i64 0)).setCell ⟨g, 3, none⟩ (.int .i64 0)
theorem fst28_f {w : World} {g : Nat} (h : w.heap[g]? = some (Obj.cells #[Value.int .i64 0, Value.string ⟨#[]⟩, Value.int .i64 0, Value.int .i64 0] 28 (0, 0))) (c : Int) (x : ByteArray) : (fst28 w g c x).heap[g]? = some (Obj.cells #[.int .i64 c, .string x, .int .i64 0, .int .i64 0] 28 (0, 0)) :=
 blk_put (blk_put (blk_put (blk_put h 0 _ rfl) 1 _ rfl) 2 _ rfl) 3 _ rfl
theorem fst28_below {w W : World} {B g : Nat} (h : Below B w W) (hg : B <= g) (c : Int) (x : ByteArray) : Below B w (fst28 W g c x) := by
 unfold fst28
 exact (((h.setCell hg _).setCell hg _).setCell hg _).setCell hg _
theorem fst28_heap (w : World) (g : Nat) (c : Int) (x : ByteArray) (k : Nat) (h : k ≠ g) : (fst28 w g c x).heap[k]? = w.heap[k]? := by
 unfold fst28
 rw [Below.heap_setCell _ _ _ k h, Below.heap_setCell _ _ _ k h, Below.heap_setCell _ _ _ k h, Below.heap_setCell _ _ _ k h]
theorem reached_walk (k : Nat) (A0 : Option Addr) (c0 : Nat) (l0 : List ByteArray) (A1 : Option Addr) (c1 : Nat) (l1 : List (List Int)) (A2 : Option Addr) (c2 : Nat) (l2 : List (List Int)) (s : ByteArray) (w : World)
 (hr0 : Kd.C Kd.string w A0 l0.length l0) (hA0 : PlainA A0) (hc0 : l0.length <= c0) (hr1 : Kd.C (Kd.slice 3 (Kd.int .i64)) w A1 l1.length l1) (hc1 : l1.length <= c1) (hr2 : Kd.C (Kd.slice 3 (Kd.int .i64)) w A2 l2.length l2) (hc2 : l2.length <= c2)
 (hp : (l0.map dat).Pairwise (fun a b => a <= b)) (hl : l0.length <= 100) (t : List Int) (out : List ByteArray)
 (h : dat s ∈ l0.map dat -> g_Reach.f k l2 (rank (l0.map dat) (dat s) : Nat) = some t /\ p_named.f k l0 l1 t = some out) :
 Calls Try.prog 31 #[.agg #[.slice A0 l0.length c0, .slice A1 l1.length c1], .agg #[.slice A2 l2.length c2], .string s] w (ReachAll w l0 out s) := by
 have hu51 := Try.underlying51
 have hu49 := Try.underlying49
 have hu28 := Try.underlying28
 have HR0 := Az.mk hr0
 have HA0 := Az.mk hA0
 have HC0 := Az.mk hc0
 have HR1 := Az.mk hr1
 have HC1 := Az.mk hc1
 have HR2 := Az.mk hr2
 have HC2 := Az.mk hc2
 have HP := Az.mk hp
 have HL := Az.mk hl
 have H := Az.mk h
 clear hr0 hA0 hc0 hr1 hc1 hr2 hc2 hp hl h
 go_enter Try.func31, Try.ntmps31
 go_upto_region 1 with fail
 obtain ⟨o1, ho1⟩ : ∃ o, o = Obj.cells #[Value.slice A0 l0.length c0, Value.slice A1 l1.length c1] 51 (0, 0) := ⟨_, rfl⟩
 obtain ⟨o2, ho2⟩ : ∃ o, o = Obj.cells #[Value.slice A2 l2.length c2] 49 (0, 0) := ⟨_, rfl⟩
 obtain ⟨o3, ho3⟩ : ∃ o, o = Obj.cells #[Value.string s] 9 (0, 0) := ⟨_, rfl⟩
 obtain ⟨o4, ho4⟩ : ∃ o, o = Obj.cells #[Value.int .i64 0, Value.string ⟨#[]⟩, Value.int .i64 0, Value.int .i64 0] 28 (0, 0) := ⟨_, rfl⟩
 have b1 := (MapKept.heap_alloc w o1).1
 have z1 : (w.alloc o1).heap.size = w.heap.size + 1 := by simp
 have b2 := (MapKept.heap_alloc (w.alloc o1) o2).1
 have z2 : ((w.alloc o1).alloc o2).heap.size = w.heap.size + 1 + 1 := by simp
 have b3 := (MapKept.heap_alloc ((w.alloc o1).alloc o2) o3).1
 have z3 : (((w.alloc o1).alloc o2).alloc o3).heap.size = w.heap.size + 1 + 1 + 1 := by simp
 have b4 := (MapKept.heap_alloc (((w.alloc o1).alloc o2).alloc o3) o4).1
 have z4 : ((((w.alloc o1).alloc o2).alloc o3).alloc o4).heap.size = w.heap.size + 1 + 1 + 1 + 1 := by simp
 have f1 := blk_alloc (blk_alloc (blk_alloc b1 o2) o3) o4
 rw [z1] at b2
 have f2 := blk_alloc (blk_alloc b2 o3) o4
 rw [z2] at b3
 have f3 := blk_alloc b3 o4
 rw [z3] at b4
 have hb := below_alloc (below_alloc (below_alloc (below_alloc (Below.refl w.heap.size w) o1) o2) o3) o4
 rw [<- ho1, <- ho2, <- ho3, <- ho4]
 clear b1 b2 b3 z1 z2 z3
 generalize (((w.alloc o1).alloc o2).alloc o3).alloc o4 = w4 at *
 rw [ho1] at f1
 rw [ho2] at f2
 rw [ho3] at f3
 rw [ho4] at b4
 have F1 := Az.mk f1
 have F2 := Az.mk f2
 have F3 := Az.mk f3
 have F4 := Az.mk b4
 have HB := Az.mk hb
 have Z4 := Az.mk z4
 clear f1 f2 f3 b4 z4 hb ho1 ho2 ho3 ho4 o1 o2 o3 o4
 have HN4 := Az.mk (Kd.C_below HR0.1 HB.1)
 have c1a := blk_cell F1.1 0
 have c3a := blk_cell F3.1 0
 by_cases hm : dat s ∈ l0.map dat
 rotate_left
 · have hdm := decide_eq_false hm
   have HM := Az.mk hm
   generalize hrk : rank (l0.map dat) (dat s) = n at *
   clear hm
   go_upto_region 3 with (go_at_call 42; (refine (search2 _ _ _ l0 s HN4.1 HA0.1 HP.1 HL.1).mono ?_); rintro e w5 ⟨he, hd⟩; rw [hdm, hrk] at he; subst he; have HD := Az.mk hd; clear hd)
   clear hrk hdm c1a c3a
   have hd5 := HD.1.below
   have hb5 : Below w.heap.size w w5 := HB.1.trans (hd5.mono HB.1.size)
   have HB5 := Az.mk hb5
   have G3 := blk_below F3.1 hd5
   have G4 := blk_below F4.1 hd5
   have HF8 := Az.mk G4
   have c3a := blk_cell G3 0
   have y0 := blk_cell G4 0
   have y1 := blk_cell G4 1
   have y2 := blk_cell G4 2
   have y3 := blk_cell G4 3
   have e0 := blk_frozen G4 0
   have e1 := blk_frozen G4 1
   have e2 := blk_frozen G4 2
   have e3 := blk_frozen G4 3
   clear hd5 hb5 G3 G4
   go_region
   all_goals go_wp2
   all_goals
    refine bodyPost_ret (results_tc rfl _ _ (w.heap.size + 1 + 1 + 1) 28 #[.int .i64 16, .string s, .int .i64 0, .int .i64 0] (0, 0) _ rfl (by first | exact fst28_f HF8.1 16 s | exact blk_drew (fst28_f HF8.1 16 s) | exact fst28_f (blk_drew HF8.1) 16 s) Try.underlying28 rfl hi28) rfl ?_
    show ReachAll _ _ _ _ _ _
    unfold ReachAll
    rw [if_neg HM.1]
    exact ⟨_, rfl, Kd.R_nil _ _ _ _ _, by first | exact fst28_below HB5.1 (by omega) 16 s | exact below_drew (fst28_below HB5.1 (by omega) 16 s) | exact fst28_below (below_drew HB5.1) (by omega) 16 s⟩
 have HT := Az.mk (H.1 hm)
 have HM := Az.mk hm
 have hdm := decide_eq_true hm
 generalize hrk : rank (l0.map dat) (dat s) = n at *
 clear hm
 go_upto_region 4 with (go_at_call 42; (refine (search2 _ _ _ l0 s HN4.1 HA0.1 HP.1 HL.1).mono ?_); rintro e w5 ⟨he, hd⟩; rw [hdm, hrk] at he; subst he; have HD := Az.mk hd; clear hd)
 clear hrk hdm c1a c3a
 have hd5 := HD.1.below
 have hb5 : Below w.heap.size w w5 := HB.1.trans (hd5.mono HB.1.size)
 have G1 := Az.mk (blk_below F1.1 hd5)
 have G2 := Az.mk (blk_below F2.1 hd5)
 have G3 := Az.mk (blk_below F3.1 hd5)
 have G4 := Az.mk (blk_below F4.1 hd5)
 have HB5 := Az.mk hb5
 have HR05 := Az.mk (Kd.C_below HR0.1 hb5)
 have HR15 := Az.mk (Kd.C_below HR1.1 hb5)
 have HR25 := Az.mk (Kd.C_below HR2.1 hb5)
 have c1a := blk_cell G1.1 0
 have c1b := blk_cell G1.1 1
 have c2a := blk_cell G2.1 0
 clear hd5 hb5
 go_region_with (first | (go_at_call 43; (refine (g_Reach.calls k _ _ l2 n t _ ?s1 HC2.1 HT.1.1).mono ?_); (case s1 => repeat (first | exact HR25.1 | (with_reducible refine Kd.C_alloc ?_ _) | (with_reducible refine Kd.C_drewN ?_ _) | (with_reducible refine Kd.C_drew ?_))); rintro e w6 ⟨v6, rfl, hr6, hb6⟩; obtain ⟨A6, c6, rfl⟩ := Kd.R_slice hr6; have HB6 : Az (Below w5.heap.size w5 w6) := ⟨by first | exact hb6 | exact below_step (below_drew (Below.refl _ _)) hb6 | exact below_step (pw_below_drewN (Below.refl _ _) _) hb6 | exact below_step (below_drew (below_drew (Below.refl _ _))) hb6⟩; have HR6 := Az.mk hr6; have c1a6 := blk_cell (blk_below G1.1 HB6.1) 0; have c1b6 := blk_cell (blk_below G1.1 HB6.1) 1; clear hr6 hb6 c1a c1b c2a) | (go_at_call 26; (refine (p_named.calls k _ _ l0 _ _ l1 _ _ t out _ ?s1 HC0.1 ?s2 HC1.1 ?s3 (Kd.R_reads' HR6.1).2.1 HT.1.2).mono ?_); (case s1 => repeat (first | exact (Kd.C_below HR05.1 HB6.1) | (with_reducible refine Kd.C_alloc ?_ _) | (with_reducible refine Kd.C_drewN ?_ _) | (with_reducible refine Kd.C_drew ?_))); (case s2 => repeat (first | exact (Kd.C_below HR15.1 HB6.1) | (with_reducible refine Kd.C_alloc ?_ _) | (with_reducible refine Kd.C_drewN ?_ _) | (with_reducible refine Kd.C_drew ?_))); (case s3 => repeat (first | exact (Kd.R_reads' HR6.1).2.2 | (with_reducible refine Kd.C_alloc ?_ _) | (with_reducible refine Kd.C_drewN ?_ _) | (with_reducible refine Kd.C_drew ?_))); rintro e w7 ⟨v7, rfl, hr7, hb7⟩; obtain ⟨A7, c7, rfl⟩ := Kd.R_slice hr7; have HR7 := Az.mk hr7; have HB7 : Az (Below w6.heap.size w6 w7) := ⟨by first | exact hb7 | exact below_step (below_drew (Below.refl _ _)) hb7 | exact below_step (pw_below_drewN (Below.refl _ _) _) hb7 | exact below_step (below_drew (below_drew (Below.refl _ _))) hb7⟩; clear hr7 hb7))
 all_goals
  have hb6 := HB6.1
  have hb7 := HB7.1
  have hs6 := hb6.size
  have hs7 := hb7.size
  have hs5 := HD.1.below.size
  have hz4 := Z4.1
  have hlt : w.heap.size + 1 + 1 < w6.heap.size := by omega
  have hle : w6.heap.size <= w7.heap.size := hs7
  have c3 : w7.cell? ⟨w.heap.size + 1 + 1, 0, none⟩ = some (.string s) := blk_cell (blk_below (blk_below G3.1 hb6) hb7) 0
  have hf7 := blk_below (blk_below G4.1 hb6) hb7
  have HF7 := Az.mk hf7
  have hbw : Below w.heap.size w w7 := (HB5.1.trans (hb6.mono HB5.1.size)).trans (hb7.mono (by have := HB5.1.size; omega))
  have HBW := Az.mk hbw
  have HLT := Az.mk (show w.heap.size + 1 + 1 + 1 < w6.heap.size by omega)
  clear hb6 hb7 hs6 hs7 hs5 hz4 hf7 hbw c1a6 c1b6
 all_goals go_wp2_with (first | (go_at_call 44; (refine (del_any _ w6.heap.size (w.heap.size + 1 + 1) out s _ ?s1 hlt ?s3 ?s4).mono ?_); (case s1 => repeat (first | exact HR7.1 | (with_reducible refine Kd.R_alloc ?_ _) | (with_reducible refine Kd.R_drewN ?_ _) | (with_reducible refine Kd.R_drew ?_))); (case s3 => first | exact hle | (simp; exact hle)); (case s4 => first | exact c3 | (simp; exact c3)); rintro e w8 ⟨v8, rfl, hr8, hb8⟩; have HR8 := Az.mk hr8; have HB8 : Az (Below w6.heap.size w7 w8) := ⟨by first | exact hb8 | exact (below_drew (Below.refl _ _)).trans hb8⟩; have hf8 := (HB8.1.block _ HLT.1).trans HF7.1; have HF8 := Az.mk hf8; have y0 := blk_cell hf8 0; have y1 := blk_cell hf8 1; have y2 := blk_cell hf8 2; have y3 := blk_cell hf8 3; have e0 := blk_frozen hf8 0; have e1 := blk_frozen hf8 1; have e2 := blk_frozen hf8 2; have e3 := blk_frozen hf8 3; clear hr8 hb8 hf8 hlt hle c3))
 all_goals
  refine bodyPost_ret (results_tc rfl _ _ (w.heap.size + 1 + 1 + 1) 28 #[.int .i64 0, .string ⟨#[]⟩, .int .i64 0, .int .i64 0] (0, 0) _ rfl (by first | exact fst28_f HF8.1 0 ⟨#[]⟩ | exact blk_drew (fst28_f HF8.1 0 ⟨#[]⟩) | exact fst28_f (blk_drew HF8.1) 0 ⟨#[]⟩) Try.underlying28 rfl hi28) rfl ?_
  show ReachAll _ _ _ _ _ _
  unfold ReachAll
  rw [if_pos HM.1]
  have hw6 : w.heap.size <= w6.heap.size := by have := HLT.1; omega
  have hlt3 := HLT.1
  refine ⟨_, rfl, ?_, by first | exact fst28_below (HBW.1.trans (HB8.1.mono hw6)) (by omega) 0 ⟨#[]⟩ | exact below_drew (fst28_below (HBW.1.trans (HB8.1.mono hw6)) (by omega) 0 ⟨#[]⟩)⟩
  refine Kd.R_lower ?_ hw6
  first
   | exact Kd.R_mono (Kd.R_move (Kd.R_bound HR8.1) (fun k hk => fst28_heap w8 _ 0 ⟨#[]⟩ k (by have := hk.2.1; omega))) (fun _ _ => trivial)
   | exact Kd.R_drew (Kd.R_mono (Kd.R_move (Kd.R_bound HR8.1) (fun k hk => fst28_heap w8 _ 0 ⟨#[]⟩ k (by have := hk.2.1; omega))) (fun _ _ => trivial))
end Mg
namespace P
theorem m_reached.calls (A0_0 : Option Addr) (c0_0 : Nat) (l0_0 : List ByteArray) (A0_1 : Option Addr) (c0_1 : Nat) (l0_1 : List (List Int)) (A1_0 : Option Addr) (c1_0 : Nat) (l1_0 : List (List Int)) (a2 : ByteArray) (r1 : List ByteArray) (r2 : Int) (r3 : ByteArray) (r4 r5 : Int) (w : World)
 (hr0_0 : Kd.C Kd.string w A0_0 l0_0.length l0_0 /\ PlainA A0_0) (hc0_0 : l0_0.length <= c0_0) (hr0_1 : Kd.C (Kd.slice 3 (Kd.int .i64)) w A0_1 l0_1.length l0_1) (hc0_1 : l0_1.length <= c0_1) (hr1_0 : Kd.C (Kd.slice 3 (Kd.int .i64)) w A1_0 l1_0.length l1_0) (hc1_0 : l1_0.length <= c1_0) (h : m_reached.f l0_0 l0_1 l1_0 a2 = some (r1, r2, r3, r4, r5)) :
 Calls Try.prog 31 #[.agg #[.slice A0_0 l0_0.length c0_0, .slice A0_1 l0_1.length c0_1], .agg #[.slice A1_0 l1_0.length c1_0], .string a2] w fun e w' => ∃ v0_ : Value, e = .returned (.tuple #[v0_, .agg #[.int .i64 r2, .string r3, .int .i64 r4, .int .i64 r5]]) /\ Kd.R Kd.string 9 w' w.heap.size (fun _ => True) v0_ r1 /\ Below w.heap.size w w' := by
 unfold m_reached.f at h
 by_cases hg : (l0_0.map dat).Pairwise (fun a b => a <= b) /\ l0_0.length <= 100
 rotate_left
 · rw [if_neg hg] at h
   cases h
 rw [if_pos hg] at h
 by_cases hm : dat a2 ∈ l0_0.map dat
 rotate_left
 · rw [if_neg hm] at h
   simp only [Option.some.injEq, Prod.mk.injEq] at h
   obtain ⟨rfl, rfl, rfl, rfl, rfl⟩ := h
   refine (reached_walk 0 A0_0 c0_0 l0_0 A0_1 c0_1 l0_1 A1_0 c1_0 l1_0 a2 w hr0_0.1 hr0_0.2 hc0_0 hr0_1 hc0_1 hr1_0 hc1_0 hg.1 hg.2 [] [] (fun hx => absurd hx hm)).mono fun e w' hw => ?_
   unfold ReachAll at hw
   rw [if_neg hm] at hw
   exact hw
 rw [if_pos hm] at h
 obtain ⟨out, hout, h⟩ := Option.bind_eq_some_iff.mp h
 simp only [Option.some.injEq, Prod.mk.injEq] at h
 obtain ⟨rfl, rfl, rfl, rfl, rfl⟩ := h
 obtain ⟨k0, hk0⟩ := Od.lim_some hout
 obtain ⟨t, ht1, ht2⟩ := Option.bind_eq_some_iff.mp (hk0 k0 (Nat.le_refl _))
 refine (reached_walk k0 A0_0 c0_0 l0_0 A0_1 c0_1 l0_1 A1_0 c1_0 l1_0 a2 w hr0_0.1 hr0_0.2 hc0_0 hr0_1 hc0_1 hr1_0 hc1_0 hg.1 hg.2 t out (fun _ => ⟨ht1, ht2⟩)).mono fun e w' hw => ?_
 unfold ReachAll at hw
 rw [if_pos hm] at hw
 exact hw
end P
end Go.Proofs.Ytmadhaccjmakdaa
namespace Go.Proofs.Ytmadhaccjmakdaa.P
open Go.RowKit Go.Proofs.Yw.A Go.Proofs.Yw.A.Kd Go.Proofs.Yw.B Go.Proofs.Yw.C
attribute [local go_sem] str_gtr str_leq str_geq max2_int min2_int max_two min_two max_three min_three max_four min_four
noncomputable def m_Needs.f (k : Nat) (l0 : List (S42)) (a1 : ByteArray) : Option (List ByteArray × Int × ByteArray × Int × Int) := (m_acyclic.f k l0).bind fun bt257 => (if bt257.2.2.1 = 0 then ((m_reached.f bt257.1 bt257.2.1 bt257.2.1 a1).bind fun bt269 => (some (bt269.1, bt269.2.1, bt269.2.2.1, bt269.2.2.2.1, bt269.2.2.2.2))) else (some (([] : List ByteArray), bt257.2.2.1, bt257.2.2.2.1, bt257.2.2.2.2.1, bt257.2.2.2.2.2)))
theorem m_Needs.calls (k : Nat) (A0 : Option Addr) (c0 : Nat) (l0 : List (S42)) (a1 : ByteArray) (r1 : List ByteArray) (r2 : Int) (r3 : ByteArray) (r4 : Int) (r5 : Int) (w : World) (hr0 : Kd.C k42 w A0 l0.length l0) (hc0 : l0.length <= c0) (h : m_Needs.f k l0 a1 = some (r1, r2, r3, r4, r5)) :
 Calls Try.prog 15 #[.slice A0 l0.length c0, .string a1] w fun e w' => ∃ v0_ : Value, e = .returned (.tuple #[v0_, .agg #[.int .i64 r2, .string r3, .int .i64 r4, .int .i64 r5]]) /\ Kd.R Kd.string 9 w' w.heap.size (fun _ => True) v0_ r1 /\ Below w.heap.size w w' := by
 have hu28 := Try.underlying28
 have hu51 := Try.underlying51
 have hu49 := Try.underlying49
 have HR0 := aM hr0
 have HC0 := aM hc0
 clear hr0 hc0
 have HB := aM (Below.refl w.heap.size w)
 have H : ((m_acyclic.f k l0).bind fun bt257 => (if bt257.2.2.1 = 0 then ((m_reached.f bt257.1 bt257.2.1 bt257.2.1 a1).bind fun bt269 => (some (bt269.1, bt269.2.1, bt269.2.2.1, bt269.2.2.2.1, bt269.2.2.2.2))) else (some (([] : List ByteArray), bt257.2.2.1, bt257.2.2.2.1, bt257.2.2.2.2.1, bt257.2.2.2.2.2)))) = some (r1, r2, r3, r4, r5) := h
 clear h
 replace H := Option.bind_eq_some_iff.mp H
 obtain ⟨⟨t257, t260, t263, t264, t265, t266⟩, A30, H⟩ := H
 replace H : (if t263 = 0 then ((m_reached.f t257 t260 t260 a1).bind fun bt269 => (some (bt269.1, bt269.2.1, bt269.2.2.1, bt269.2.2.2.1, bt269.2.2.2.2))) else (some (([] : List ByteArray), t263, t264, t265, t266))) = some (r1, r2, r3, r4, r5) := H
 have A3 := aM A30
 clear A30
 by_cases c4 : t263 = 0
 · rw [if_pos c4] at H
   have c4b0 : (t263 == 0) = true := beq_iff_eq.mpr c4
   have c4b1 : (t263 != 0) = false := bne_eq_false_iff_eq.mpr c4
   clear c4
   replace H := Option.bind_eq_some_iff.mp H
   obtain ⟨⟨t269, t272, t273, t274, t275⟩, A50, H⟩ := H
   replace H : (some (t269, t272, t273, t274, t275)) = some (r1, r2, r3, r4, r5) := H
   have A5 := aM A50
   clear A50
   simp only [Option.some.injEq, Prod.mk.injEq] at H
   obtain ⟨rfl, rfl, rfl, rfl, rfl⟩ := H
   go_enter Try.func15, Try.ntmps15
   go_wp2_with (first | ((with_reducible refine gate_dst (N := 5) rfl ?_); refine be 5 rfl rfl #[.int .i64 0, .string (⟨#[]⟩ : ByteArray), .int .i64 0, .int .i64 0] 28 ?_; intro gb256 hg w6 hbox hb; have BK256 := aM hbox; have GE256 := gs hg HB; replace HB := bs HB hb; clear hb hbox hg) | ((with_reducible refine gate_callee (f := 24) rfl ?_); refine gL (some 10) rfl rfl Try.func24 (by kernel_rfl) rfl #[.slice A0 l0.length c0] rfl ?_; (with_reducible refine (m_acyclic.calls k _ _ l0 t257 t260 t263 t264 t265 t266 _ ?side1 ?side2 A3.1).mono ?_); (case side1 => exact cb HR0 HB); (case side2 => exact HC0.1); rintro e w7 ⟨v258, v261, rfl, ho0, ho1, hb⟩; refine ⟨_, rfl, ?_⟩; have HO259 := aM (R_lower ho0 (below_size (hh HB))); have HO262 := aM (S_lower ho1 (below_size (hh HB))); replace BK256 := kb BK256 hb; replace HB := bs HB hb; clear hb ho0 ho1) | ((with_reducible refine gate_dst (N := 6) rfl ?_); refine be 6 rfl rfl #[.slice none 0 0, .slice none 0 0] 51 ?_; intro gb267 hg w8 hbox hb; have BK267 := aM hbox; have GE267 := gs hg HB; have NB256_267 := nl hg BK256; have NB267_256 := nr hg BK256; replace HO259 := rb HO259 hb; replace HO262 := sb HO262 hb; replace BK256 := kb BK256 hb; replace HB := bs HB hb; clear hb hbox hg) | ((with_reducible refine gate_dst (N := 7) rfl ?_); refine be 7 rfl rfl #[.int .i64 0, .string (⟨#[]⟩ : ByteArray), .int .i64 0, .int .i64 0] 28 ?_; intro gb268 hg w9 hbox hb; have BK268 := aM hbox; have GE268 := gs hg HB; have NB256_268 := nl hg BK256; have NB268_256 := nr hg BK256; have NB267_268 := nl hg BK267; have NB268_267 := nr hg BK267; replace HO259 := rb HO259 hb; replace HO262 := sb HO262 hb; replace BK256 := kb BK256 hb; replace BK267 := kb BK267 hb; replace HB := bs HB hb; clear hb hbox hg; obtain ⟨Ao10, co10, eo10⟩ := R_slice HO259.1; subst eo10; have hnb11 := NB267_256.1; have hnc11 := NB256_267.1; have hnb12 := NB267_268.1; have hnc12 := NB268_267.1; obtain ⟨hcz13_0, hcz13_1⟩ := cz2 BK267; obtain ⟨hfz13_0, hfz13_1⟩ := fz2 BK267; obtain ⟨Ao14, co14, eo14⟩ := S_slice HO262.1; subst eo14; have hnb15 := NB268_256.1; have hnc15 := NB256_268.1; obtain ⟨hcz16_0, hcz16_1, hcz16_2, hcz16_3⟩ := cz BK268; obtain ⟨hfz16_0, hfz16_1, hfz16_2, hfz16_3⟩ := fz BK268) | ((with_reducible refine gate_callee (f := 31) rfl ?_); refine gL (some 21) rfl rfl Try.func31 (by kernel_rfl) rfl #[.agg #[.slice Ao10 t257.length co10, .slice Ao14 t260.length co14], .agg #[.slice Ao14 t260.length co14], .string a1] rfl ?_; (with_reducible refine (m_reached.calls _ _ t257 _ _ t260 _ _ t260 a1 t269 t272 t273 t274 t275 _ ?side1 ?side2 ?side3 ?side4 ?side5 ?side6 A5.1).mono ?_); (case side1 => refine (Mg.plainR (e := 9) (base := w.heap.size) (ok := fun k_ => True) (n := t257.length) (c := co10) ?_).2.2; exact (rz (rf24 HO259 BK267 (by decide) BK268 (by decide)))); (case side2 => exact (R_reads' HO259.1).2.1); (case side3 => exact c3 (sf24 HO262 BK267 (by decide) BK268 (by decide))); (case side4 => exact (S_reads' HO262.1).2.1); (case side5 => exact c3 (sf24 HO262 BK267 (by decide) BK268 (by decide))); (case side6 => exact (S_reads' HO262.1).2.1); rintro e w17 ⟨v270, rfl, ho0, hb⟩; refine ⟨_, rfl, ?_⟩; have HO271 := aM (R_lower (R_new' ho0 (R_lt (rz (rf24 HO259 BK267 (by decide) BK268 (by decide))))) (below_size (hh HB))); replace HO259 := aM (R_elder' (rz (rf24 HO259 BK267 (by decide) BK268 (by decide))) (R_base ho0) hb); replace HO262 := aM (S_below (sz (sf24 HO262 BK267 (by decide) BK268 (by decide))) hb); replace BK256 := kg (o' := .cells #[.int .i64 0, .string (⟨#[]⟩ : ByteArray), .int .i64 0, .int .i64 0] 28 (0, 0)) BK256 hb; replace BK267 := kg (o' := .cells #[.slice Ao10 t257.length co10, .slice Ao14 t260.length co14] 51 (0, 0)) BK267 hb; replace BK268 := kg (o' := .cells #[.int .i64 t263, .string t264, .int .i64 t265, .int .i64 t266] 28 (0, 0)) BK268 hb; replace HB := bs HB hb; clear hb ho0; obtain ⟨hcz18_0, hcz18_1, hcz18_2, hcz18_3⟩ := cz BK256; obtain ⟨hfz18_0, hfz18_1, hfz18_2, hfz18_3⟩ := fz BK256))
   refine bodyPost_ret (results_tc rfl _ _ gb256 28 #[.int .i64 t272, .string t273, .int .i64 t274, .int .i64 t275] (0, 0) _ rfl (kf BK256) Try.underlying28 rfl (by kernel_rfl)) rfl ?_
   exact ⟨_, by first | rfl | (simp [errW_none, errW_some] <;> rfl) | (simp [*, errW_none, errW_some] <;> rfl), rz (R_mono (R_far (p := ⟨gb256, 3, none⟩) (R_far (p := ⟨gb256, 2, none⟩) (R_far (p := ⟨gb256, 1, none⟩) (R_far (p := ⟨gb256, 0, none⟩) (R_types HO271.1 BK256.1 (by decide)) (fun _ hk => hk.2) (.int .i64 t272)) (fun _ hk => hk.2) (.string t273)) (fun _ hk => hk.2) (.int .i64 t274)) (fun _ hk => hk.2) (.int .i64 t275)) (fun _ hk => trivial)), hh HB⟩
 rw [if_neg c4] at H
 have c4b0 : (t263 == 0) = false := beq_eq_false_iff_ne.mpr c4
 have c4b1 : (t263 != 0) = true := bne_iff_ne.mpr c4
 simp only [Option.some.injEq, Prod.mk.injEq] at H
 obtain ⟨rfl, rfl, rfl, rfl, rfl⟩ := H
 go_enter Try.func15, Try.ntmps15
 try go_wp2_with (first | ((with_reducible refine gate_dst (N := 5) rfl ?_); refine be 5 rfl rfl #[.int .i64 0, .string (⟨#[]⟩ : ByteArray), .int .i64 0, .int .i64 0] 28 ?_; intro gb256 hg w19 hbox hb; have BK256 := aM hbox; have GE256 := gs hg HB; replace HB := bs HB hb; clear hb hbox hg) | ((with_reducible refine gate_callee (f := 24) rfl ?_); refine gL (some 10) rfl rfl Try.func24 (by kernel_rfl) rfl #[.slice A0 l0.length c0] rfl ?_; (with_reducible refine (m_acyclic.calls k _ _ l0 t257 t260 t263 t264 t265 t266 _ ?side1 ?side2 A3.1).mono ?_); (case side1 => exact cb HR0 HB); (case side2 => exact HC0.1); rintro e w20 ⟨v258, v261, rfl, ho0, ho1, hb⟩; refine ⟨_, rfl, ?_⟩; have HO259 := aM (R_lower ho0 (below_size (hh HB))); have HO262 := aM (S_lower ho1 (below_size (hh HB))); replace BK256 := kb BK256 hb; replace HB := bs HB hb; clear hb ho0 ho1) | ((with_reducible refine gate_dst (N := 6) rfl ?_); refine be 6 rfl rfl #[.slice none 0 0, .slice none 0 0] 51 ?_; intro gb267 hg w21 hbox hb; have BK267 := aM hbox; have GE267 := gs hg HB; have NB256_267 := nl hg BK256; have NB267_256 := nr hg BK256; replace HO259 := rb HO259 hb; replace HO262 := sb HO262 hb; replace BK256 := kb BK256 hb; replace HB := bs HB hb; clear hb hbox hg) | ((with_reducible refine gate_dst (N := 7) rfl ?_); refine be 7 rfl rfl #[.int .i64 0, .string (⟨#[]⟩ : ByteArray), .int .i64 0, .int .i64 0] 28 ?_; intro gb268 hg w22 hbox hb; have BK268 := aM hbox; have GE268 := gs hg HB; have NB256_268 := nl hg BK256; have NB268_256 := nr hg BK256; have NB267_268 := nl hg BK267; have NB268_267 := nr hg BK267; replace HO259 := rb HO259 hb; replace HO262 := sb HO262 hb; replace BK256 := kb BK256 hb; replace BK267 := kb BK267 hb; replace HB := bs HB hb; clear hb hbox hg; obtain ⟨Ao23, co23, eo23⟩ := R_slice HO259.1; subst eo23; have hnb24 := NB267_256.1; have hnc24 := NB256_267.1; have hnb25 := NB267_268.1; have hnc25 := NB268_267.1; obtain ⟨hcz26_0, hcz26_1⟩ := cz2 BK267; obtain ⟨hfz26_0, hfz26_1⟩ := fz2 BK267; obtain ⟨Ao27, co27, eo27⟩ := S_slice HO262.1; subst eo27; have hnb28 := NB268_256.1; have hnc28 := NB256_268.1; obtain ⟨hcz29_0, hcz29_1, hcz29_2, hcz29_3⟩ := cz BK268; obtain ⟨hfz29_0, hfz29_1, hfz29_2, hfz29_3⟩ := fz BK268))
 have n0_ : Az (Kd.R Kd.string 9 ((((((w22.setCell ⟨gb267, 0, none⟩ (.slice Ao23 t257.length co23)).setCell ⟨gb267, 1, none⟩ (.slice Ao27 t260.length co27)).setCell ⟨gb268, 0, none⟩ (.int .i64 t263)).setCell ⟨gb268, 1, none⟩ (.string t264)).setCell ⟨gb268, 2, none⟩ (.int .i64 t265)).setCell ⟨gb268, 3, none⟩ (.int .i64 t266)) w.heap.size (fun _ => True) (.slice Ao23 t257.length co23) t257) := ⟨rz (R_mono (R_far (p := ⟨gb268, 3, none⟩) (R_far (p := ⟨gb268, 2, none⟩) (R_far (p := ⟨gb268, 1, none⟩) (R_far (p := ⟨gb268, 0, none⟩) (R_far (p := ⟨gb267, 1, none⟩) (R_far (p := ⟨gb267, 0, none⟩) (R_types (R_types HO259.1 BK267.1 (by decide)) BK268.1 (by decide)) (fun _ hk => hk.1.2) (.slice Ao23 t257.length co23)) (fun _ hk => hk.1.2) (.slice Ao27 t260.length co27)) (fun _ hk => hk.2) (.int .i64 t263)) (fun _ hk => hk.2) (.string t264)) (fun _ hk => hk.2) (.int .i64 t265)) (fun _ hk => hk.2) (.int .i64 t266)) (fun _ hk => trivial))⟩
 have n1_ : Az (Kd.S (Kd.slice 3 (Kd.int .i64)) 55 ((((((w22.setCell ⟨gb267, 0, none⟩ (.slice Ao23 t257.length co23)).setCell ⟨gb267, 1, none⟩ (.slice Ao27 t260.length co27)).setCell ⟨gb268, 0, none⟩ (.int .i64 t263)).setCell ⟨gb268, 1, none⟩ (.string t264)).setCell ⟨gb268, 2, none⟩ (.int .i64 t265)).setCell ⟨gb268, 3, none⟩ (.int .i64 t266)) w.heap.size (fun _ => True) (.slice Ao27 t260.length co27) t260) := ⟨sz (S_mono (S_far (p := ⟨gb268, 3, none⟩) (S_far (p := ⟨gb268, 2, none⟩) (S_far (p := ⟨gb268, 1, none⟩) (S_far (p := ⟨gb268, 0, none⟩) (S_far (p := ⟨gb267, 1, none⟩) (S_far (p := ⟨gb267, 0, none⟩) (S_types (S_types HO262.1 BK267.1 (by decide)) BK268.1 (by decide)) (fun _ hk => hk.1.2) (.slice Ao23 t257.length co23)) (fun _ hk => hk.1.2) (.slice Ao27 t260.length co27)) (fun _ hk => hk.2) (.int .i64 t263)) (fun _ hk => hk.2) (.string t264)) (fun _ hk => hk.2) (.int .i64 t265)) (fun _ hk => hk.2) (.int .i64 t266)) (fun _ hk => trivial))⟩
 have n2_ : Az (((((((w22.setCell ⟨gb267, 0, none⟩ (.slice Ao23 t257.length co23)).setCell ⟨gb267, 1, none⟩ (.slice Ao27 t260.length co27)).setCell ⟨gb268, 0, none⟩ (.int .i64 t263)).setCell ⟨gb268, 1, none⟩ (.string t264)).setCell ⟨gb268, 2, none⟩ (.int .i64 t265)).setCell ⟨gb268, 3, none⟩ (.int .i64 t266)).heap[gb256]? = some (.cells #[.int .i64 0, .string (⟨#[]⟩ : ByteArray), .int .i64 0, .int .i64 0] 28 (0, 0))) := ⟨kf BK256⟩
 have n3_ : Az (((((((w22.setCell ⟨gb267, 0, none⟩ (.slice Ao23 t257.length co23)).setCell ⟨gb267, 1, none⟩ (.slice Ao27 t260.length co27)).setCell ⟨gb268, 0, none⟩ (.int .i64 t263)).setCell ⟨gb268, 1, none⟩ (.string t264)).setCell ⟨gb268, 2, none⟩ (.int .i64 t265)).setCell ⟨gb268, 3, none⟩ (.int .i64 t266)).heap[gb267]? = some (.cells #[.slice Ao23 t257.length co23, .slice Ao27 t260.length co27] 51 (0, 0))) := ⟨kf BK267⟩
 have n4_ : Az (((((((w22.setCell ⟨gb267, 0, none⟩ (.slice Ao23 t257.length co23)).setCell ⟨gb267, 1, none⟩ (.slice Ao27 t260.length co27)).setCell ⟨gb268, 0, none⟩ (.int .i64 t263)).setCell ⟨gb268, 1, none⟩ (.string t264)).setCell ⟨gb268, 2, none⟩ (.int .i64 t265)).setCell ⟨gb268, 3, none⟩ (.int .i64 t266)).heap[gb268]? = some (.cells #[.int .i64 t263, .string t264, .int .i64 t265, .int .i64 t266] 28 (0, 0))) := ⟨kf BK268⟩
 have n5_ : Az (Below w.heap.size w ((((((w22.setCell ⟨gb267, 0, none⟩ (.slice Ao23 t257.length co23)).setCell ⟨gb267, 1, none⟩ (.slice Ao27 t260.length co27)).setCell ⟨gb268, 0, none⟩ (.int .i64 t263)).setCell ⟨gb268, 1, none⟩ (.string t264)).setCell ⟨gb268, 2, none⟩ (.int .i64 t265)).setCell ⟨gb268, 3, none⟩ (.int .i64 t266))) := ⟨hh HB⟩
 (clear HO259)
 (clear HO262)
 (clear BK256)
 (clear BK267)
 (clear BK268)
 (clear HB)
 generalize ((((((w22.setCell ⟨gb267, 0, none⟩ (.slice Ao23 t257.length co23)).setCell ⟨gb267, 1, none⟩ (.slice Ao27 t260.length co27)).setCell ⟨gb268, 0, none⟩ (.int .i64 t263)).setCell ⟨gb268, 1, none⟩ (.string t264)).setCell ⟨gb268, 2, none⟩ (.int .i64 t265)).setCell ⟨gb268, 3, none⟩ (.int .i64 t266)) = w30 at n0_ n1_ n2_ n3_ n4_ n5_ ⊢
 have HO259 := n0_
 have HO262 := n1_
 have BK256 := n2_
 have BK267 := n3_
 have BK268 := n4_
 have HB := n5_
 clear n0_ n1_ n2_ n3_ n4_ n5_
 replace HO259 := aM (R_drew HO259.1)
 replace HO262 := aM (S_drew HO262.1)
 replace BK256 := aM (blk_drew BK256.1)
 replace BK267 := aM (blk_drew BK267.1)
 replace BK268 := aM (blk_drew BK268.1)
 replace HB := aM (below_drew1 HB.1)
 refine start_ (n := 3) (S := fun w' => w'.cell? ⟨gb268, 0, none⟩ = some (.int .i64 t263) /\ w'.cell? ⟨gb268, 1, none⟩ = some (.string t264) /\ w'.cell? ⟨gb268, 2, none⟩ = some (.int .i64 t265) /\ w'.cell? ⟨gb268, 3, none⟩ = some (.int .i64 t266)) (ds := []) #[F_, F_, F_] (by kernel_rfl) rfl rfl ⟨(blk_cell BK268.1 0).trans rfl, (blk_cell BK268.1 1).trans rfl, (blk_cell BK268.1 2).trans rfl, (blk_cell BK268.1 3).trans rfl⟩ (fun hHeld => ?_)
 generalize w30.drew = w31 at HO259 HO262 BK256 BK267 BK268 HB hHeld ⊢
 refine pure_ (i := 1) (N := some 4) (v := ?_) (a' := ?_) #[F_, T_, F_] rfl rfl (by kernel_rfl) (fun _ _ _ h => h) (Or.inl ⟨by rfl, ?_⟩) ?_ ?_
 rotate_left
 · intro w'
   go_simp
   with_reducible rfl
 rotate_left
 · simp only [Act.put, sA, sZ, sS, i64_w, i32_w]
   rfl
 refine take_ (i := 0) (N := some 16) (v := ?_) (a' := ?_) #[T_, T_, F_] rfl rfl (by kernel_rfl) (fun _ _ _ h => h) (Or.inl ⟨by rfl, ?_⟩) hHeld ?_ ?_
 rotate_left
 · rintro w' ⟨s0, s1, s2, s3⟩
   go_simp
   with_reducible rfl
 rotate_left
 · simp only [Act.put, sA, sZ, sS, i64_w, i32_w]
   rfl
 refine one_ (i := 2) (N := none) #[T_, T_, T_] rfl rfl (by kernel_rfl) (by decide) (fun K hK => ?_)
 have hs32 : w31.cell? ⟨gb256, 0, none⟩ = some (.int .i64 0) := (blk_cell BK256.1 0).trans rfl
 have hfs32 := blk_frozen BK256.1 0
 have hns32_1 := NB267_256.1
 have hns32_2 := NB268_256.1
 have hms32_1 := NB256_267.1
 have hms32_2 := NB256_268.1
 have hs33 : w31.cell? ⟨gb256, 1, none⟩ = some (.string (⟨#[]⟩ : ByteArray)) := (blk_cell BK256.1 1).trans rfl
 have hfs33 := blk_frozen BK256.1 1
 have hns33_1 := NB267_256.1
 have hns33_2 := NB268_256.1
 have hms33_1 := NB256_267.1
 have hms33_2 := NB256_268.1
 have hs34 : w31.cell? ⟨gb256, 2, none⟩ = some (.int .i64 0) := (blk_cell BK256.1 2).trans rfl
 have hfs34 := blk_frozen BK256.1 2
 have hns34_1 := NB267_256.1
 have hns34_2 := NB268_256.1
 have hms34_1 := NB256_267.1
 have hms34_2 := NB256_268.1
 have hs35 : w31.cell? ⟨gb256, 3, none⟩ = some (.int .i64 0) := (blk_cell BK256.1 3).trans rfl
 have hfs35 := blk_frozen BK256.1 3
 have hns35_1 := NB267_256.1
 have hns35_2 := NB268_256.1
 have hms35_1 := NB256_267.1
 have hms35_2 := NB256_268.1
 refine skip_ (w1 := ?_) (by rfl) rfl ?_ ?_
 rotate_left
 · go_simp
   rfl
 refine hK.out _ _ ⟨((cell_far (p := ⟨gb256, _, none⟩) NB268_256.1 _).trans (((cell_far (p := ⟨gb256, _, none⟩) NB268_256.1 _).trans (((cell_far (p := ⟨gb256, _, none⟩) NB268_256.1 _).trans (((cell_far (p := ⟨gb256, _, none⟩) NB268_256.1 _).trans (hHeld.1)))))))), ((cell_far (p := ⟨gb256, _, none⟩) NB268_256.1 _).trans (((cell_far (p := ⟨gb256, _, none⟩) NB268_256.1 _).trans (((cell_far (p := ⟨gb256, _, none⟩) NB268_256.1 _).trans (((cell_far (p := ⟨gb256, _, none⟩) NB268_256.1 _).trans (hHeld.2.1)))))))), ((cell_far (p := ⟨gb256, _, none⟩) NB268_256.1 _).trans (((cell_far (p := ⟨gb256, _, none⟩) NB268_256.1 _).trans (((cell_far (p := ⟨gb256, _, none⟩) NB268_256.1 _).trans (((cell_far (p := ⟨gb256, _, none⟩) NB268_256.1 _).trans (hHeld.2.2.1)))))))), ((cell_far (p := ⟨gb256, _, none⟩) NB268_256.1 _).trans (((cell_far (p := ⟨gb256, _, none⟩) NB268_256.1 _).trans (((cell_far (p := ⟨gb256, _, none⟩) NB268_256.1 _).trans (((cell_far (p := ⟨gb256, _, none⟩) NB268_256.1 _).trans (hHeld.2.2.2))))))))⟩ (fun hHeld => ?_)
 clear hK K
 refine done_ (by kernel_rfl) ?_
 try go_wp2
 refine bodyPost_ret (results_tc rfl _ _ gb256 28 #[.int .i64 t263, .string t264, .int .i64 t265, .int .i64 t266] (0, 0) _ rfl (kf BK256) Try.underlying28 rfl (by kernel_rfl)) rfl ?_
 exact ⟨_, by first | rfl | (simp [errW_none, errW_some] <;> rfl) | (simp [*, errW_none, errW_some] <;> rfl), by first | exact R_nil _ _ _ _ _ | exact N_nil _ _ _ _ _ | exact V_nil _ _ _ _ _ | exact Q_nil _ _ _ _ _ | exact S_nil _ _ _ _ _, hh HB⟩
noncomputable def m_Cycle.f (k : Nat) (l0 : List (S42)) : Option (List ByteArray) := (m_made.f l0).bind fun bt276 => (if bt276.2.2.1 = 0 then ((p_cycle.f k bt276.1 bt276.2.1).bind fun t288 => ((p_named.f k bt276.1 bt276.2.1 t288).bind fun t291 => (some t291))) else (some ([] : List ByteArray)))
theorem m_Cycle.calls (k : Nat) (A0 : Option Addr) (c0 : Nat) (l0 : List (S42)) (r : List ByteArray) (w : World) (hr0 : Kd.C k42 w A0 l0.length l0) (hc0 : l0.length <= c0) (h : m_Cycle.f k l0 = some r) :
 Calls Try.prog 19 #[.slice A0 l0.length c0] w fun e w' => ∃ v0_ : Value, e = .returned (v0_) /\ Kd.R Kd.string 9 w' w.heap.size (fun _ => True) v0_ r /\ Below w.heap.size w w' := by
 have hu51 := Try.underlying51
 have hu28 := Try.underlying28
 have HR0 := aM hr0
 have HC0 := aM hc0
 clear hr0 hc0
 have HB := aM (Below.refl w.heap.size w)
 have H : ((m_made.f l0).bind fun bt276 => (if bt276.2.2.1 = 0 then ((p_cycle.f k bt276.1 bt276.2.1).bind fun t288 => ((p_named.f k bt276.1 bt276.2.1 t288).bind fun t291 => (some t291))) else (some ([] : List ByteArray)))) = some r := h
 clear h
 replace H := Option.bind_eq_some_iff.mp H
 obtain ⟨⟨t276, t279, t282, t283, t284, t285⟩, A20, H⟩ := H
 try dsimp only at H
 have A2 := aM A20
 clear A20
 by_cases c3 : t282 = 0
 rotate_left
 · rw [if_neg c3] at H
   have c3b0 : (t282 == 0) = false := beq_eq_false_iff_ne.mpr c3
   have c3b1 : (t282 != 0) = true := bne_iff_ne.mpr c3
   obtain rfl := Option.some.inj H
   go_enter Try.func19, Try.ntmps19
   go_wp2_with (first | ((with_reducible refine gate_callee (f := 34) rfl ?_); refine gL (some 7) rfl rfl Try.func34 (by kernel_rfl) rfl #[.slice A0 l0.length c0] rfl ?_; (with_reducible refine (m_made.calls _ _ l0 t276 t279 t282 t283 t284 t285 _ ?side1 ?side2 A2.1).mono ?_); (case side1 => exact ck HR0); (case side2 => exact HC0.1); rintro e w19 ⟨v277, v280, rfl, ho0, ho1, hb⟩; refine ⟨_, rfl, ?_⟩; have HO278 := aM (R_lower ho0 (below_size (hh HB))); have HO281 := aM (S_lower ho1 (below_size (hh HB))); replace HB := bs HB hb; clear hb ho0 ho1) | ((with_reducible refine gate_dst (N := 3) rfl ?_); refine be 3 rfl rfl #[.slice none 0 0, .slice none 0 0] 51 ?_; intro gb286 hg w20 hbox hb; have BK286 := aM hbox; have GE286 := gs hg HB; replace HO278 := rb HO278 hb; replace HO281 := sb HO281 hb; replace HB := bs HB hb; clear hb hbox hg) | ((with_reducible refine gate_dst (N := 4) rfl ?_); refine be 4 rfl rfl #[.int .i64 0, .string (⟨#[]⟩ : ByteArray), .int .i64 0, .int .i64 0] 28 ?_; intro gb287 hg w21 hbox hb; have BK287 := aM hbox; have GE287 := gs hg HB; have NB286_287 := nl hg BK286; have NB287_286 := nr hg BK286; replace HO278 := rb HO278 hb; replace HO281 := sb HO281 hb; replace BK286 := kb BK286 hb; replace HB := bs HB hb; clear hb hbox hg; obtain ⟨Ao22, co22, eo22⟩ := R_slice HO278.1; subst eo22; have hnb23 := NB286_287.1; have hnc23 := NB287_286.1; obtain ⟨hcz24_0, hcz24_1⟩ := cz2 BK286; obtain ⟨hfz24_0, hfz24_1⟩ := fz2 BK286; obtain ⟨Ao25, co25, eo25⟩ := S_slice HO281.1; subst eo25; obtain ⟨hcz26_0, hcz26_1, hcz26_2, hcz26_3⟩ := cz BK287; obtain ⟨hfz26_0, hfz26_1, hfz26_2, hfz26_3⟩ := fz BK287))
   go_ret
   exact ⟨_, by first | rfl | (simp [errW_none, errW_some] <;> rfl) | (simp [*, errW_none, errW_some] <;> rfl), by first | exact R_nil _ _ _ _ _ | exact N_nil _ _ _ _ _ | exact V_nil _ _ _ _ _ | exact Q_nil _ _ _ _ _ | exact S_nil _ _ _ _ _, hh HB⟩
 rw [if_pos c3] at H
 have c3b0 : (t282 == 0) = true := beq_iff_eq.mpr c3
 have c3b1 : (t282 != 0) = false := bne_eq_false_iff_eq.mpr c3
 clear c3
 replace H := Option.bind_eq_some_iff.mp H
 obtain ⟨t288, A40, H⟩ := H
 try dsimp only at H
 have A4 := aM A40
 clear A40
 replace H := Option.bind_eq_some_iff.mp H
 obtain ⟨t291, A50, H⟩ := H
 try dsimp only at H
 have A5 := aM A50
 clear A50
 obtain rfl := Option.some.inj H
 go_enter Try.func19, Try.ntmps19
 try go_wp2_with (first | ((with_reducible refine gate_callee (f := 34) rfl ?_); refine gL (some 7) rfl rfl Try.func34 (by kernel_rfl) rfl #[.slice A0 l0.length c0] rfl ?_; (with_reducible refine (m_made.calls _ _ l0 t276 t279 t282 t283 t284 t285 _ ?side1 ?side2 A2.1).mono ?_); (case side1 => exact ck HR0); (case side2 => exact HC0.1); rintro e w6 ⟨v277, v280, rfl, ho0, ho1, hb⟩; refine ⟨_, rfl, ?_⟩; have HO278 := aM (R_lower ho0 (below_size (hh HB))); have HO281 := aM (S_lower ho1 (below_size (hh HB))); replace HB := bs HB hb; clear hb ho0 ho1) | ((with_reducible refine gate_dst (N := 3) rfl ?_); refine be 3 rfl rfl #[.slice none 0 0, .slice none 0 0] 51 ?_; intro gb286 hg w7 hbox hb; have BK286 := aM hbox; have GE286 := gs hg HB; replace HO278 := rb HO278 hb; replace HO281 := sb HO281 hb; replace HB := bs HB hb; clear hb hbox hg) | ((with_reducible refine gate_dst (N := 4) rfl ?_); refine be 4 rfl rfl #[.int .i64 0, .string (⟨#[]⟩ : ByteArray), .int .i64 0, .int .i64 0] 28 ?_; intro gb287 hg w8 hbox hb; have BK287 := aM hbox; have GE287 := gs hg HB; have NB286_287 := nl hg BK286; have NB287_286 := nr hg BK286; replace HO278 := rb HO278 hb; replace HO281 := sb HO281 hb; replace BK286 := kb BK286 hb; replace HB := bs HB hb; clear hb hbox hg; obtain ⟨Ao9, co9, eo9⟩ := R_slice HO278.1; subst eo9; have hnb10 := NB286_287.1; have hnc10 := NB287_286.1; obtain ⟨hcz11_0, hcz11_1⟩ := cz2 BK286; obtain ⟨hfz11_0, hfz11_1⟩ := fz2 BK286; obtain ⟨Ao12, co12, eo12⟩ := S_slice HO281.1; subst eo12; obtain ⟨hcz13_0, hcz13_1, hcz13_2, hcz13_3⟩ := cz BK287; obtain ⟨hfz13_0, hfz13_1, hfz13_2, hfz13_3⟩ := fz BK287))
 have n0_ : Az (Kd.R Kd.string 9 ((((((w8.setCell ⟨gb286, 0, none⟩ (.slice Ao9 t276.length co9)).setCell ⟨gb286, 1, none⟩ (.slice Ao12 t279.length co12)).setCell ⟨gb287, 0, none⟩ (.int .i64 t282)).setCell ⟨gb287, 1, none⟩ (.string t283)).setCell ⟨gb287, 2, none⟩ (.int .i64 t284)).setCell ⟨gb287, 3, none⟩ (.int .i64 t285)) w.heap.size (fun _ => True) (.slice Ao9 t276.length co9) t276) := ⟨rz (R_mono (R_far (p := ⟨gb287, 3, none⟩) (R_far (p := ⟨gb287, 2, none⟩) (R_far (p := ⟨gb287, 1, none⟩) (R_far (p := ⟨gb287, 0, none⟩) (R_far (p := ⟨gb286, 1, none⟩) (R_far (p := ⟨gb286, 0, none⟩) (R_types (R_types HO278.1 BK286.1 (by decide)) BK287.1 (by decide)) (fun _ hk => hk.1.2) (.slice Ao9 t276.length co9)) (fun _ hk => hk.1.2) (.slice Ao12 t279.length co12)) (fun _ hk => hk.2) (.int .i64 t282)) (fun _ hk => hk.2) (.string t283)) (fun _ hk => hk.2) (.int .i64 t284)) (fun _ hk => hk.2) (.int .i64 t285)) (fun _ hk => trivial))⟩
 have n1_ : Az (Kd.S (Kd.slice 3 (Kd.int .i64)) 55 ((((((w8.setCell ⟨gb286, 0, none⟩ (.slice Ao9 t276.length co9)).setCell ⟨gb286, 1, none⟩ (.slice Ao12 t279.length co12)).setCell ⟨gb287, 0, none⟩ (.int .i64 t282)).setCell ⟨gb287, 1, none⟩ (.string t283)).setCell ⟨gb287, 2, none⟩ (.int .i64 t284)).setCell ⟨gb287, 3, none⟩ (.int .i64 t285)) w.heap.size (fun _ => True) (.slice Ao12 t279.length co12) t279) := ⟨sz (S_mono (S_far (p := ⟨gb287, 3, none⟩) (S_far (p := ⟨gb287, 2, none⟩) (S_far (p := ⟨gb287, 1, none⟩) (S_far (p := ⟨gb287, 0, none⟩) (S_far (p := ⟨gb286, 1, none⟩) (S_far (p := ⟨gb286, 0, none⟩) (S_types (S_types HO281.1 BK286.1 (by decide)) BK287.1 (by decide)) (fun _ hk => hk.1.2) (.slice Ao9 t276.length co9)) (fun _ hk => hk.1.2) (.slice Ao12 t279.length co12)) (fun _ hk => hk.2) (.int .i64 t282)) (fun _ hk => hk.2) (.string t283)) (fun _ hk => hk.2) (.int .i64 t284)) (fun _ hk => hk.2) (.int .i64 t285)) (fun _ hk => trivial))⟩
 have n2_ : Az (((((((w8.setCell ⟨gb286, 0, none⟩ (.slice Ao9 t276.length co9)).setCell ⟨gb286, 1, none⟩ (.slice Ao12 t279.length co12)).setCell ⟨gb287, 0, none⟩ (.int .i64 t282)).setCell ⟨gb287, 1, none⟩ (.string t283)).setCell ⟨gb287, 2, none⟩ (.int .i64 t284)).setCell ⟨gb287, 3, none⟩ (.int .i64 t285)).heap[gb286]? = some (.cells #[.slice Ao9 t276.length co9, .slice Ao12 t279.length co12] 51 (0, 0))) := ⟨kf BK286⟩
 have n3_ : Az (((((((w8.setCell ⟨gb286, 0, none⟩ (.slice Ao9 t276.length co9)).setCell ⟨gb286, 1, none⟩ (.slice Ao12 t279.length co12)).setCell ⟨gb287, 0, none⟩ (.int .i64 t282)).setCell ⟨gb287, 1, none⟩ (.string t283)).setCell ⟨gb287, 2, none⟩ (.int .i64 t284)).setCell ⟨gb287, 3, none⟩ (.int .i64 t285)).heap[gb287]? = some (.cells #[.int .i64 t282, .string t283, .int .i64 t284, .int .i64 t285] 28 (0, 0))) := ⟨kf BK287⟩
 have n4_ : Az (Below w.heap.size w ((((((w8.setCell ⟨gb286, 0, none⟩ (.slice Ao9 t276.length co9)).setCell ⟨gb286, 1, none⟩ (.slice Ao12 t279.length co12)).setCell ⟨gb287, 0, none⟩ (.int .i64 t282)).setCell ⟨gb287, 1, none⟩ (.string t283)).setCell ⟨gb287, 2, none⟩ (.int .i64 t284)).setCell ⟨gb287, 3, none⟩ (.int .i64 t285))) := ⟨hh HB⟩
 (clear HO278)
 (clear HO281)
 (clear BK286)
 (clear BK287)
 (clear HB)
 generalize ((((((w8.setCell ⟨gb286, 0, none⟩ (.slice Ao9 t276.length co9)).setCell ⟨gb286, 1, none⟩ (.slice Ao12 t279.length co12)).setCell ⟨gb287, 0, none⟩ (.int .i64 t282)).setCell ⟨gb287, 1, none⟩ (.string t283)).setCell ⟨gb287, 2, none⟩ (.int .i64 t284)).setCell ⟨gb287, 3, none⟩ (.int .i64 t285)) = w14 at n0_ n1_ n2_ n3_ n4_ ⊢
 have HO278 := n0_
 have HO281 := n1_
 have BK286 := n2_
 have BK287 := n3_
 have HB := n4_
 clear n0_ n1_ n2_ n3_ n4_
 replace HO278 := aM (R_drew HO278.1)
 replace HO281 := aM (S_drew HO281.1)
 replace BK286 := aM (blk_drew BK286.1)
 replace BK287 := aM (blk_drew BK287.1)
 replace HB := aM (below_drew1 HB.1)
 refine start_ (n := 5) (S := fun w' => w'.cell? ⟨gb286, 0, none⟩ = some (.slice Ao9 t276.length co9) /\ w'.cell? ⟨gb286, 1, none⟩ = some (.slice Ao12 t279.length co12)) (ds := []) #[F_, F_, F_, F_, F_] (by kernel_rfl) rfl rfl ⟨(blk_cell BK286.1 0).trans rfl, (blk_cell BK286.1 1).trans rfl⟩ (fun hHeld => ?_)
 generalize w14.drew = w15 at HO278 HO281 BK286 BK287 HB hHeld ⊢
 refine take_ (i := 0) (N := some 13) (v := ?_) (a' := ?_) #[T_, F_, F_, F_, F_] rfl rfl (by kernel_rfl) (fun _ _ _ h => h) (Or.inl ⟨by rfl, ?_⟩) hHeld ?_ ?_
 rotate_left
 · rintro w' ⟨s0, s1⟩
   go_simp
   with_reducible rfl
 rotate_left
 · simp only [Act.put, sA, sZ, sS, i64_w, i32_w]
   rfl
 refine take_ (i := 1) (N := some 14) (v := ?_) (a' := ?_) #[T_, T_, F_, F_, F_] rfl rfl (by kernel_rfl) (fun _ _ _ h => h) (Or.inl ⟨by rfl, ?_⟩) hHeld ?_ ?_
 rotate_left
 · rintro w' ⟨s0, s1⟩
   go_simp
   with_reducible rfl
 rotate_left
 · simp only [Act.put, sA, sZ, sS, i64_w, i32_w]
   rfl
 refine one_ (i := 2) (N := some 15) #[T_, T_, T_, F_, F_] rfl rfl (by kernel_rfl) (by decide) (fun K hK => ?_)
 refine goes_ Try.func35 (by kernel_rfl) rfl #[.agg #[.slice Ao9 t276.length co9, .slice Ao12 t279.length co12]] (by rfl) rfl rfl (by (try simp only [List.map_toArray, List.map_cons, List.map_nil]); first | done | rfl | (simp only [List.length_drop, List.length_take]; rfl)) ?_
 with_reducible refine (p_cycle.calls k _ _ t276 _ _ t279 t288 _ ?side1 ?side2 ?side3 ?side4 A4.1).mono ?_
 (case side1 => exact cr HO278)
 (case side2 => exact (R_reads' HO278.1).2.1)
 (case side3 => repeat (first | exact (S_reads' HO281.1).2.2 | (with_reducible refine C_alloc ?_ _) | (with_reducible refine C_drewN ?_ _) | (with_reducible refine C_drew ?_)))
 (case side4 => exact (S_reads' HO281.1).2.1)
 rintro e w16 ⟨v289, rfl, ho0, hb⟩
 refine ⟨_, rfl, ?_⟩
 have HO290 := aM (R_lower ho0 (below_size (hh HB)))
 replace HO278 := rb HO278 hb
 replace HO281 := aM (S_elder' (sk HO281) (R_base ho0) hb)
 replace BK286 := kb BK286 hb
 replace BK287 := kb BK287 hb
 replace HB := bs HB hb
 (clear hb)
 skip
 skip
 skip
 (clear ho0)
 obtain ⟨Ao17, co17, eo17⟩ := R_slice HO290.1
 (first | subst eo17 | (injection eo17 with f1_ f2_ f3_; have f4_ := f1_.symm; have f5_ := f3_.symm; clear f1_ f2_ f3_; subst f4_; subst f5_))
 refine hK.out _ _ ⟨(blk_cell BK286.1 0).trans rfl, (blk_cell BK286.1 1).trans rfl⟩ (fun hHeld => ?_)
 clear hK K
 refine norm_ (a' := ?_) ?_ ?_
 rotate_left
 · show Act.put _ (some 15) _ = _
   simp only [Act.put, sA, sZ, sS, i64_w, i32_w]
   rfl
 refine one_ (i := 3) (N := some 16) #[T_, T_, T_, T_, F_] rfl rfl (by kernel_rfl) (by decide) (fun K hK => ?_)
 refine goes_ Try.func26 (by kernel_rfl) rfl #[.agg #[.slice Ao9 t276.length co9, .slice Ao12 t279.length co12], .slice Ao17 t288.length co17] (by rfl) rfl rfl (by (try simp only [List.map_toArray, List.map_cons, List.map_nil]); first | done | rfl | (simp only [List.length_drop, List.length_take]; rfl)) ?_
 with_reducible refine (p_named.calls k _ _ t276 _ _ t279 _ _ t288 t291 _ ?side1 ?side2 ?side3 ?side4 ?side5 ?side6 A5.1).mono ?_
 (case side1 => exact cr HO278)
 (case side2 => exact (R_reads' HO278.1).2.1)
 (case side3 => repeat (first | exact (S_reads' HO281.1).2.2 | (with_reducible refine C_alloc ?_ _) | (with_reducible refine C_drewN ?_ _) | (with_reducible refine C_drew ?_)))
 (case side4 => exact (S_reads' HO281.1).2.1)
 (case side5 => exact cr HO290)
 (case side6 => exact (R_reads' HO290.1).2.1)
 rintro e w18 ⟨v292, rfl, ho0, hb⟩
 refine ⟨_, rfl, ?_⟩
 have HO293 := aM (R_lower (R_new' ho0 (R_lt (rk HO278))) (below_size (hh HB)))
 replace HO278 := aM (R_elder' (rk HO278) (R_base ho0) hb)
 replace HO281 := sb HO281 hb
 replace HO290 := rb HO290 hb
 replace BK286 := kb BK286 hb
 replace BK287 := kb BK287 hb
 replace HB := bs HB hb
 (clear hb)
 skip
 skip
 skip
 (clear ho0)
 refine hK.out _ _ ⟨(blk_cell BK286.1 0).trans rfl, (blk_cell BK286.1 1).trans rfl⟩ (fun hHeld => ?_)
 clear hK K
 refine norm_ (a' := ?_) ?_ ?_
 rotate_left
 · show Act.put _ (some 16) _ = _
   simp only [Act.put, sA, sZ, sS, i64_w, i32_w]
   rfl
 refine pure_ (i := 4) (N := some 2) (v := ?_) (a' := ?_) #[T_, T_, T_, T_, T_] rfl rfl (by kernel_rfl) (fun _ _ _ h => h) (Or.inl ⟨by rfl, ?_⟩) ?_ ?_
 rotate_left
 · intro w'
   go_simp
   with_reducible rfl
 rotate_left
 · simp only [Act.put, sA, sZ, sS, i64_w, i32_w]
   rfl
 refine done_ (by kernel_rfl) ?_
 try go_wp2
 go_ret
 exact ⟨_, by first | rfl | (simp [errW_none, errW_some] <;> rfl) | (simp [*, errW_none, errW_some] <;> rfl), rz (R_mono HO293.1 (fun _ hk => trivial)), hh HB⟩
end Go.Proofs.Ytmadhaccjmakdaa.P
namespace Go.Proofs.Ytmadhaccjmakdaa
open Go.Shelf Go.Lib Go.RowKit Go.Maps Go.Sort Go.Proofs.Yw.A Go.Proofs.Yw.B Go.Proofs.Yw.C
attribute [local go_sem] max2_int min2_int max_two min_two max_three min_three max_four min_four
open P Mg Od Tj
namespace Mg
def addAll (U : List (List Int)) (v : Int) : List Int -> List (List Int)
  | [] => U
  | x :: l => addAll (U.set x.toNat (U.getD x.toNat [] ++ [v])) v l
def backL (U : List (List Int)) (v : Int) : List (List Int) -> List (List Int)
  | [] => U
  | l :: ls => backL (addAll U v l) (v + 1) ls
def okB (n : Nat) (es : List (List Int)) : Prop := n <= 100 /\ es.length <= 100 /\ ∀ r ∈ es, r.length <= 1000 /\ ∀ x ∈ r, 0 <= x /\ x < (n : Int)
end Mg
namespace P
open Classical in
noncomputable def m_Users.f (l0 : List S42) (s : ByteArray) : Option (List ByteArray × Int × ByteArray × Int × Int) :=
  (Od.lim fun k => m_acyclic.f k l0).bind fun bt =>
    if bt.2.2.1 = 0 then (if okB bt.1.length bt.2.1 then m_reached.f bt.1 bt.2.1 (backL (List.replicate bt.1.length []) 0 bt.2.1) s else none)
    else some ([], bt.2.2.1, bt.2.2.2.1, bt.2.2.2.2.1, bt.2.2.2.2.2)
end P
namespace Mg
def fst4 (w : World) (g : Nat) (c : Int) (x : ByteArray) (a b : Int) : World := (((w.setCell ⟨g, 0, none⟩ (.int .i64 c)).setCell ⟨g, 1, none⟩ (.string x)).setCell ⟨g, 2, none⟩ (.int .i64 a)).setCell ⟨g, 3, none⟩ (.int .i64 b)
theorem info55m2 : (Try.prog.info? 55).map (fun i => (i.zero, i.size, i.bytes)) = some (some (.slice none 0 0), 1, 24) := by kernel_rfl
theorem fst4_f {w : World} {g : Nat} (h : w.heap[g]? = some (Obj.cells #[Value.int .i64 0, Value.string ⟨#[]⟩, Value.int .i64 0, Value.int .i64 0] 28 (0, 0))) (c : Int) (x : ByteArray) (a b : Int) : (fst4 w g c x a b).heap[g]? = some (Obj.cells #[.int .i64 c, .string x, .int .i64 a, .int .i64 b] 28 (0, 0)) :=
  blk_put (blk_put (blk_put (blk_put h 0 _ rfl) 1 _ rfl) 2 _ rfl) 3 _ rfl
theorem fst4_below {w W : World} {B g : Nat} (h : Below B w W) (hg : B <= g) (c : Int) (x : ByteArray) (a b : Int) : Below B w (fst4 W g c x a b) := by
  unfold fst4
  exact (((h.setCell hg _).setCell hg _).setCell hg _).setCell hg _
theorem fst4_heap (w : World) (g : Nat) (c : Int) (x : ByteArray) (a b : Int) (k : Nat) (h : k ≠ g) : (fst4 w g c x a b).heap[k]? = w.heap[k]? := by
  unfold fst4
  rw [Below.heap_setCell _ _ _ k h, Below.heap_setCell _ _ _ k h, Below.heap_setCell _ _ _ k h, Below.heap_setCell _ _ _ k h]
theorem Users_fault (k : Nat) (A0 : Option Addr) (c0 : Nat) (l0 : List S42) (s : ByteArray) (w : World) (hr0 : Kd.C k42 w A0 l0.length l0) (hc0 : l0.length <= c0)
    (t1 : List ByteArray) (t2 : List (List Int)) (t3 : Int) (t4 : ByteArray) (t5 t6 : Int) (hA : m_acyclic.f k l0 = some (t1, t2, t3, t4, t5, t6)) (h3 : t3 ≠ 0) :
    Calls Try.prog 17 #[.slice A0 l0.length c0, .string s] w fun e w' => ∃ v0_ : Value, e = .returned (.tuple #[v0_, .agg #[.int .i64 t3, .string t4, .int .i64 t5, .int .i64 t6]]) /\ Kd.R Kd.string 9 w' w.heap.size (fun _ => True) v0_ [] /\ Below w.heap.size w w' := by
  have hu51 := Try.underlying51
  have hu49 := Try.underlying49
  have hu28 := Try.underlying28
  have q1 : (t3 == 0) = false := beq_eq_false_iff_ne.mpr h3
  have q2 : (t3 != 0) = true := bne_iff_ne.mpr h3
  have HR0 := Az.mk hr0
  have HC0 := Az.mk hc0
  have HA := Az.mk hA
  clear hr0 hc0 hA h3
  go_enter Try.func17, Try.ntmps17
  go_upto_region 3 with (first | (go_at_call 24; (refine (m_acyclic.calls k _ _ l0 t1 t2 t3 t4 t5 t6 _ ?s1 HC0.1 HA.1).mono ?_); (case s1 => repeat (first | exact HR0.1 | (with_reducible refine Kd.C_alloc ?_ _) | (with_reducible refine Kd.C_drewN ?_ _) | (with_reducible refine Kd.C_drew ?_))); rintro e w5 ⟨v0, v1, rfl, hn, he, hb⟩; obtain ⟨An, cn, rfl⟩ := Kd.R_slice hn; obtain ⟨Ae, ce, rfl⟩ := Kd.S_slice he; have HN := Az.mk hn; have HE := Az.mk he; have HB := Az.mk hb; clear hn he hb))
  have b0 := (MapKept.heap_alloc w (Obj.cells #[Value.int .i64 0, Value.string ⟨#[]⟩, Value.int .i64 0, Value.int .i64 0] 28)).1
  have hb0 := below_alloc (Below.refl w.heap.size w) (Obj.cells #[Value.int .i64 0, Value.string ⟨#[]⟩, Value.int .i64 0, Value.int .i64 0] 28)
  have b5 := blk_below b0 HB.1
  have hb5 : Below w.heap.size w w5 := hb0.trans (HB.1.mono hb0.size)
  have f0 := blk_alloc (blk_alloc b5 (Obj.cells #[Value.slice An t1.length cn, Value.slice Ae t2.length ce] 51)) (Obj.cells #[Value.int .i64 t3, Value.string t4, Value.int .i64 t5, Value.int .i64 t6] 28)
  have f2 := (MapKept.heap_alloc (w5.alloc (Obj.cells #[Value.slice An t1.length cn, Value.slice Ae t2.length ce] 51)) (Obj.cells #[Value.int .i64 t3, Value.string t4, Value.int .i64 t5, Value.int .i64 t6] 28)).1
  have z1 : (w5.alloc (Obj.cells #[Value.slice An t1.length cn, Value.slice Ae t2.length ce] 51)).heap.size = w5.heap.size + 1 := by simp
  rw [z1] at f2
  have hb7 := below_alloc (below_alloc hb5 (Obj.cells #[Value.slice An t1.length cn, Value.slice Ae t2.length ce] 51)) (Obj.cells #[Value.int .i64 t3, Value.string t4, Value.int .i64 t5, Value.int .i64 t6] 28)
  generalize (w5.alloc (Obj.cells #[Value.slice An t1.length cn, Value.slice Ae t2.length ce] 51)).alloc (Obj.cells #[Value.int .i64 t3, Value.string t4, Value.int .i64 t5, Value.int .i64 t6] 28) = w7 at *
  have F0 := Az.mk f0
  have HB7 := Az.mk hb7
  have hlt := blk_lt b5
  have hne : w5.heap.size + 1 ≠ w.heap.size := by omega
  have x0 := blk_cell f2 0
  have x1 := blk_cell f2 1
  have x2 := blk_cell f2 2
  have x3 := blk_cell f2 3
  have y0 := blk_cell f0 0
  have y1 := blk_cell f0 1
  have y2 := blk_cell f0 2
  have y3 := blk_cell f0 3
  have e0 := blk_frozen f0 0
  have e1 := blk_frozen f0 1
  have e2 := blk_frozen f0 2
  have e3 := blk_frozen f0 3
  clear b0 hb0 b5 hb5 f0 f2 z1 hb7 hlt hne q1 q2
  go_region
  all_goals go_wp2
  all_goals
    refine bodyPost_ret (results_tc rfl _ _ w.heap.size 28 #[.int .i64 t3, .string t4, .int .i64 t5, .int .i64 t6] (0, 0) _ rfl (by first | exact fst4_f F0.1 t3 t4 t5 t6 | exact blk_drew (fst4_f F0.1 t3 t4 t5 t6) | exact fst4_f (blk_drew F0.1) t3 t4 t5 t6) Try.underlying28 rfl hi28) rfl ?_
    exact ⟨_, rfl, Kd.R_nil _ _ _ _ _, by first | exact fst4_below HB7.1 (Nat.le_refl _) t3 t4 t5 t6 | exact below_drew (fst4_below HB7.1 (Nat.le_refl _) t3 t4 t5 t6) | exact fst4_below (below_drew HB7.1) (Nat.le_refl _) t3 t4 t5 t6⟩
theorem Users_walk (k : Nat) (A0 : Option Addr) (c0 : Nat) (l0 : List S42) (s : ByteArray) (w : World) (hr0 : Kd.C k42 w A0 l0.length l0) (hc0 : l0.length <= c0)
    (t1 : List ByteArray) (t2 : List (List Int)) (t4 : ByteArray) (t5 t6 : Int) (hA : m_acyclic.f k l0 = some (t1, t2, 0, t4, t5, t6)) (hok : okB t1.length t2)
    (r1 : List ByteArray) (r2 : Int) (r3 : ByteArray) (r4 r5 : Int) (hRe : m_reached.f t1 t2 (backL (List.replicate t1.length []) 0 t2) s = some (r1, r2, r3, r4, r5)) :
    Calls Try.prog 17 #[.slice A0 l0.length c0, .string s] w fun e w' => ∃ v0_ : Value, e = .returned (.tuple #[v0_, .agg #[.int .i64 r2, .string r3, .int .i64 r4, .int .i64 r5]]) /\ Kd.R Kd.string 9 w' w.heap.size (fun _ => True) v0_ r1 /\ Below w.heap.size w w' := by
  have hu51 := Try.underlying51
  have hu49 := Try.underlying49
  have hu28 := Try.underlying28
  have HR0 := Az.mk hr0
  have HC0 := Az.mk hc0
  have HA := Az.mk hA
  have HOK := Az.mk hok
  have HRE := Az.mk hRe
  clear hr0 hc0 hA hok hRe
  go_enter Try.func17, Try.ntmps17
  go_upto_region 4 with (first | (go_at_call 24; (refine (m_acyclic.calls k _ _ l0 t1 t2 0 t4 t5 t6 _ ?s1 HC0.1 HA.1).mono ?_); (case s1 => repeat (first | exact HR0.1 | (with_reducible refine Kd.C_alloc ?_ _) | (with_reducible refine Kd.C_drewN ?_ _) | (with_reducible refine Kd.C_drew ?_))); rintro e w5 ⟨v0, v1, rfl, hn, he, hb⟩; obtain ⟨An, cn, rfl⟩ := Kd.R_slice hn; obtain ⟨Ae, ce, rfl⟩ := Kd.S_slice he; have HN := Az.mk hn; have HE := Az.mk he; have HB := Az.mk hb; clear hn he hb))
  have b0 := (MapKept.heap_alloc w (Obj.cells #[Value.int .i64 0, Value.string ⟨#[]⟩, Value.int .i64 0, Value.int .i64 0] 28)).1
  have hb0 := below_alloc (Below.refl w.heap.size w) (Obj.cells #[Value.int .i64 0, Value.string ⟨#[]⟩, Value.int .i64 0, Value.int .i64 0] 28)
  have hz0 : (w.alloc (Obj.cells #[Value.int .i64 0, Value.string ⟨#[]⟩, Value.int .i64 0, Value.int .i64 0] 28)).heap.size = w.heap.size + 1 := by simp
  have b5 := blk_below b0 HB.1
  have hb5 : Below w.heap.size w w5 := hb0.trans (HB.1.mono hb0.size)
  have hs5 := HB.1.size
  have f0 := blk_alloc (blk_alloc b5 (Obj.cells #[Value.slice An t1.length cn, Value.slice Ae t2.length ce] 51)) (Obj.cells #[Value.int .i64 0, Value.string t4, Value.int .i64 t5, Value.int .i64 t6] 28)
  have f1 := blk_alloc (MapKept.heap_alloc w5 (Obj.cells #[Value.slice An t1.length cn, Value.slice Ae t2.length ce] 51)).1 (Obj.cells #[Value.int .i64 0, Value.string t4, Value.int .i64 t5, Value.int .i64 t6] 28)
  have hb57 := below_alloc (below_alloc (Below.refl w5.heap.size w5) (Obj.cells #[Value.slice An t1.length cn, Value.slice Ae t2.length ce] 51)) (Obj.cells #[Value.int .i64 0, Value.string t4, Value.int .i64 t5, Value.int .i64 t6] 28)
  have hs7 : ((w5.alloc (Obj.cells #[Value.slice An t1.length cn, Value.slice Ae t2.length ce] 51)).alloc (Obj.cells #[Value.int .i64 0, Value.string t4, Value.int .i64 t5, Value.int .i64 t6] 28)).heap.size = w5.heap.size + 1 + 1 := by simp
  generalize (w5.alloc (Obj.cells #[Value.slice An t1.length cn, Value.slice Ae t2.length ce] 51)).alloc (Obj.cells #[Value.int .i64 0, Value.string t4, Value.int .i64 t5, Value.int .i64 t6] 28) = w7 at *
  have F0 := Az.mk f0
  have F1 := Az.mk f1
  have HB5 := Az.mk hb5
  have HB57 := Az.mk hb57
  have HS7 := Az.mk hs7
  have HS5 := Az.mk (show w.heap.size + 1 <= w5.heap.size by omega)
  have HN7 := Az.mk (Kd.R_below HN.1 hb57)
  have HE7 := Az.mk (Kd.S_below HE.1 hb57)
  have x0 := blk_cell f1 0
  clear b0 hb0 hz0 b5 hb5 hs5 f0 f1 hb57 hs7
  have hn100 : t1.length <= 100 := HOK.1.1
  obtain ⟨i0, e0, e1, e2, e3⟩ := info_parts info55m2
  have hmk := run_make w7 47 55 i0 _ Try.underlying47 e0 e1 .i64 .i64 t1.length t1.length (by omega) (by omega) (by rw [e3]; omega) (by omega)
  rw [e2, Nat.mul_one] at hmk
  have hz0 : (Value.slice none 0 0).cells = #[.slice none 0 0] := rfl
  rw [hz0] at hmk
  clear e0 e1 e2 e3 hz0
  go_upto_region 5 with fail
  have m1 := (MapKept.heap_alloc w7 (Obj.cells (madeCells #[Value.slice none 0 0] t1.length) 55)).1
  have hm1 := below_alloc (Below.refl w7.heap.size w7) (Obj.cells (madeCells #[Value.slice none 0 0] t1.length) 55)
  have hm2 := below_alloc hm1 (Obj.cells #[Value.slice (some ⟨w7.heap.size, 0, none⟩) t1.length t1.length] 49)
  have hS := S_made (base := w7.heap.size) (ok := fun k => w7.heap.size <= k /\ k ≠ w7.heap.size + 1) m1 (Nat.le_refl _) (by unfold maxLen; omega) ⟨Nat.le_refl _, by omega⟩
  have hS9 := Kd.S_alloc hS (Obj.cells #[Value.slice (some ⟨w7.heap.size, 0, none⟩) t1.length t1.length] 49)
  have m2 := (MapKept.heap_alloc (w7.alloc (Obj.cells (madeCells #[Value.slice none 0 0] t1.length) 55)) (Obj.cells #[Value.slice (some ⟨w7.heap.size, 0, none⟩) t1.length t1.length] 49)).1
  have hz8 : (w7.alloc (Obj.cells (madeCells #[Value.slice none 0 0] t1.length) 55)).heap.size = w7.heap.size + 1 := by simp
  have hz9 : ((w7.alloc (Obj.cells (madeCells #[Value.slice none 0 0] t1.length) 55)).alloc (Obj.cells #[Value.slice (some ⟨w7.heap.size, 0, none⟩) t1.length t1.length] 49)).heap.size = w7.heap.size + 1 + 1 := by simp
  rw [hz8] at m2
  generalize (w7.alloc (Obj.cells (madeCells #[Value.slice none 0 0] t1.length) 55)).alloc (Obj.cells #[Value.slice (some ⟨w7.heap.size, 0, none⟩) t1.length t1.length] 49) = w9 at *
  obtain ⟨go, hgo⟩ : ∃ go, go = w7.heap.size := ⟨_, rfl⟩
  rw [<- hgo] at hS9 m2 hm2 hz9 ⊢
  have HGO := Az.mk hgo
  have HS9 := Az.mk hS9
  have HM2 := Az.mk m2
  have HB9 := Az.mk hm2
  have HZ9 := Az.mk hz9
  have x1 := blk_cell (blk_below F1.1 (by rw [<- hgo]; exact hm2)) 1
  clear m1 hm1 hm2 hS hS9 m2 hz8 hz9 hgo hmk x0 hn100
  go_wp2
  clear x1
  obtain ⟨BK, hBK⟩ : ∃ BK, backL (List.replicate t1.length []) 0 t2 = BK := ⟨_, rfl⟩
  have HBK := Az.mk hBK
  clear hBK
  go_loopg [31] t2.length (fun kq v31 w' => ∃ (x : Int) (U : List (List Int)), v31 = .int .i64 x /\ Az (0 <= x /\ x.toNat + kq = t2.length) /\ Az (U.length = t1.length /\ backL U x (t2.drop x.toNat) = BK /\ (∀ r ∈ U, r.length <= x.toNat * 1000) /\ Kd.S KS 55 w' go (fun k => go <= k /\ k ≠ go + 1) (.slice (some ⟨go, 0, none⟩) t1.length t1.length) U /\ w'.heap[go + 1]? = some (Obj.cells #[Value.slice (some ⟨go, 0, none⟩) t1.length t1.length] 49) /\ Below go w7 w'))
  case atStart => exact ⟨0, _, rfl, ⟨by decide, by simp⟩, ⟨List.length_replicate .., by simpa using HBK.1, fun r hr => by rw [List.eq_of_mem_replicate hr]; simp, HS9.1, HM2.1, HB9.1⟩⟩
  case round =>
    obtain ⟨x, U, rfl, hk, hI⟩ := hrel
    clear HS9 HM2 HB9
    have hk0 := hk.1.1
    by_cases hx : x < (t2.length : Int)
    · have q3 : decide (x < (t2.length : Int)) = true := decide_eq_true hx
      have HX := Az.mk hx
      have hbw : Below w7.heap.size w7 wr := by rw [<- HGO.1]; exact hI.1.2.2.2.2.2
      obtain ⟨hl1, hc1, hC1⟩ := Kd.S_reads' HE7.1
      obtain ⟨ad, A3, c3, rfl, g0, g1, g2⟩ := at_L11 hC1 x hk0 hx
      replace g0 := (hbw.cell (World.block_lt_of_cell? _ _ g0)).trans g0
      have hrm : rd_L11 t2 x ∈ t2 := by
        have hi : x.toNat < t2.length := by omega
        have : rd_L11 t2 x = t2[x.toNat] := by simp [rd_L11, List.getD_eq_getElem?_getD, List.getElem?_eq_getElem hi]
        rw [this]; exact List.getElem_mem hi
      have hrb := HOK.1.2.2 _ hrm
      have hdr : t2.drop x.toNat = rd_L11 t2 x :: t2.drop (x.toNat + 1) := by
        have hi : x.toNat < t2.length := by omega
        rw [List.drop_eq_getElem_cons hi]
        simp [rd_L11, List.getD_eq_getElem?_getD, List.getElem?_eq_getElem hi]
      have hbk := hI.1.2.1
      rw [hdr] at hbk
      generalize rd_L11 t2 x = rw1 at *
      have p1 := eq_true hk0
      have p2 : (x < (t2.length : Int)) = True := eq_true hx
      have HRB := Az.mk hrb
      have HBK1 : Az (backL (addAll U x rw1) (x + 1) (t2.drop (x.toNat + 1)) = BK) := ⟨hbk⟩
      have H2 := Az.mk g2
      have hxr : wrap64 x = x := by unfold wrap64; have := HOK.1.2.1; omega
      obtain ⟨gk1, rfl⟩ : ∃ g, g = gk := ⟨_, rfl⟩
      clear hl1 hc1 hC1 hrm hrb hdr hbk g1 g2 hx hk0 hbw
      go_wp2
      clear g0
      obtain ⟨wo, rfl⟩ : ∃ wo, wo = wr := ⟨_, rfl⟩
      go_loopg [38] rw1.length (fun kq v38 w' => ∃ (z : Int) (V : List (List Int)), v38 = .int .i64 z /\ Az (0 <= z /\ z.toNat + kq = rw1.length) /\ Az (V.length = t1.length /\ addAll V x (rw1.drop z.toNat) = addAll U x rw1 /\ (∀ r ∈ V, r.length <= x.toNat * 1000 + z.toNat) /\ Kd.S KS 55 w' go (fun k => go <= k /\ k ≠ go + 1) (.slice (some ⟨go, 0, none⟩) t1.length t1.length) V /\ w'.heap[go + 1]? = some (Obj.cells #[Value.slice (some ⟨go, 0, none⟩) t1.length t1.length] 49) /\ Below go w7 w'))
      case atStart => exact ⟨0, U, rfl, ⟨by decide, by simp⟩, ⟨hI.1.1, by simp, fun r hr => hI.1.2.2.1 r hr, hI.1.2.2.2.1, hI.1.2.2.2.2.1, hI.1.2.2.2.2.2⟩⟩
      case round =>
        obtain ⟨z, V, rfl, hk2, hJ⟩ := hrel
        have hk20 := hk2.1.1
        by_cases hz : z < (rw1.length : Int)
        · have q4 : decide (z < (rw1.length : Int)) = true := decide_eq_true hz
          have HZ := Az.mk hz
          have hbw2 : Below w7.heap.size w7 wr := by rw [<- HGO.1]; exact hJ.1.2.2.2.2.2
          obtain ⟨ad2, rfl, y0⟩ := Kd.at_int (Kd.C_below H2.1 hbw2) z hk20 hz
          have hdm : Go.Proofs.Yw.A.rd rw1 z ∈ rw1 := by
            have hi : z.toNat < rw1.length := by omega
            have : Go.Proofs.Yw.A.rd rw1 z = rw1[z.toNat] := by simp [Go.Proofs.Yw.A.rd, rdOf, List.getD_eq_getElem?_getD, List.getElem?_eq_getElem hi]
            rw [this]; exact List.getElem_mem hi
          obtain ⟨hd0, hd1⟩ := HRB.1.2 _ hdm
          have hdr : rw1.drop z.toNat = Go.Proofs.Yw.A.rd rw1 z :: rw1.drop (z.toNat + 1) := by
            have hi : z.toNat < rw1.length := by omega
            rw [List.drop_eq_getElem_cons hi]
            simp [Go.Proofs.Yw.A.rd, rdOf, List.getD_eq_getElem?_getD, List.getElem?_eq_getElem hi]
          have hadd := hJ.1.2.1
          rw [hdr] at hadd
          generalize Go.Proofs.Yw.A.rd rw1 z = d at *
          have HADD : Az (addAll (V.set d.toNat (V.getD d.toNat [] ++ [x])) x (rw1.drop (z.toNat + 1)) = addAll U x rw1) := ⟨hadd⟩
          have p3 := eq_true hk20
          have p4 : (z < (rw1.length : Int)) = True := eq_true hz
          clear hdm hdr hadd hz hk20 hbw2
          go_upto_region 11 with fail
          clear y0
          have hsz := blk_lt hJ.1.2.2.2.2.1
          obtain ⟨v0, oki, u1, u2, u3, u4, u5⟩ := S_upd (Kd.S_drew hJ.1.2.2.2.1) (fun k hk => by have : wr.drew.heap.size = wr.heap.size := rfl; rw [this] at hk; omega) d hd0 hd1
          have U3 := Az.mk (Kd.R_mono (ok' := fun k => oki k \/ wr.heap.size <= k) u3 (fun k hk => .inl hk))
          have U4 := Az.mk u4
          have U5 := Az.mk (@u5)
          have U6 := Az.mk u3
          have hrl : (row V d).length <= 101000 := by
            have h1 := HOK.1.2.1
            have h2 := hk.1
            have h3 := hk2.1
            have h4 := HRB.1.1
            have h5 := HX.1
            by_cases hi : d.toNat < V.length
            · have : row V d ∈ V := by unfold row; rw [List.getD_eq_getElem?_getD, List.getElem?_eq_getElem hi]; exact List.getElem_mem hi
              have h6 := hJ.1.2.2.1 _ this
              have h7 : x.toNat <= 100 := by omega
              have h8 : z.toNat <= 1000 := by omega
              omega
            · unfold row
              rw [List.getD_eq_getElem?_getD, List.getElem?_eq_none (by omega)]
              simp
          have HRL := Az.mk (show ((row V d).length + 1) * 8 <= 140737488355328 by omega)
          have c8 : wr.cell? ⟨go + 1, 0, none⟩ = some (Value.slice (some ⟨go, 0, none⟩) t1.length t1.length) := blk_cell hJ.1.2.2.2.2.1 0
          have w1' : wr.cell? ⟨go, d.toNat, none⟩ = some v0 := u1
          have c8d : (wr.alloc (Obj.cells #[Value.int .i64 x] 3)).cell? ⟨go + 1, 0, none⟩ = some (Value.slice (some ⟨go, 0, none⟩) t1.length t1.length) := ((below_alloc (Below.refl wr.heap.size wr) _).cell (World.block_lt_of_cell? _ _ c8)).trans c8
          have c8e : (wr.drew.alloc (Obj.cells #[Value.int .i64 x] 3)).cell? ⟨go + 1, 0, none⟩ = some (Value.slice (some ⟨go, 0, none⟩) t1.length t1.length) := ((below_alloc (below_drew (Below.refl wr.heap.size wr)) _).cell (World.block_lt_of_cell? _ _ c8)).trans c8
          have w1d : (wr.alloc (Obj.cells #[Value.int .i64 x] 3)).cell? ⟨go, d.toNat, none⟩ = some v0 := ((below_alloc (Below.refl wr.heap.size wr) _).cell (World.block_lt_of_cell? _ _ w1')).trans w1'
          have w1e : (wr.drew.alloc (Obj.cells #[Value.int .i64 x] 3)).cell? ⟨go, d.toNat, none⟩ = some v0 := ((below_alloc (below_drew (Below.refl wr.heap.size wr)) _).cell (World.block_lt_of_cell? _ _ w1')).trans w1'
          have hgb : wr.drew.heap[go + 1]? = some (Obj.cells #[Value.slice (some ⟨go, 0, none⟩) t1.length t1.length] 49) := hJ.1.2.2.2.2.1
          have HGB := Az.mk hgb
          have hgl : go <= wr.drew.heap.size := by have : wr.drew.heap.size = wr.heap.size := rfl; omega
          have hfr : ∀ k, wr.drew.heap.size <= k -> oki k \/ wr.heap.size <= k := fun k hk => .inr hk
          have HFR := Az.mk hfr
          have HGL := Az.mk hgl
          have U2 := Az.mk u2
          have p5 := eq_true hd0
          have p6 : (d < (t1.length : Int)) = True := eq_true hd1
          have HD0 := Az.mk (And.intro hd0 hd1)
          clear u1 u2 u3 u4 u5 hrl hgb hgl hfr hsz hd0 hd1
          have HSTEP : Az (∀ (w3 : World) (A2 : Option Addr) (cr : Nat), wr.drew.grownBy w3 v0.ownBlock -> Kd.R (Kd.int .i64) 3 w3 go (fun k => oki k \/ wr.heap.size <= k) (.slice A2 (row V d ++ [x]).length cr) (row V d ++ [x]) -> w3.heap[go + 1]? = some (Obj.cells #[Value.slice (some ⟨go, 0, none⟩) t1.length t1.length] 49) ->
              (V.set d.toNat (row V d ++ [x])).length = t1.length /\ (∀ r ∈ V.set d.toNat (row V d ++ [x]), r.length <= x.toNat * 1000 + (z.toNat + 1)) /\ Kd.S KS 55 (w3.setCell ⟨go, d.toNat, none⟩ (.slice A2 ((row V d).length + 1) cr)) go (fun k => go <= k /\ k ≠ go + 1) (.slice (some ⟨go, 0, none⟩) t1.length t1.length) (V.set d.toNat (row V d ++ [x])) /\ (w3.setCell ⟨go, d.toNat, none⟩ (.slice A2 ((row V d).length + 1) cr)).heap[go + 1]? = some (Obj.cells #[Value.slice (some ⟨go, 0, none⟩) t1.length t1.length] 49) /\ Below go w7 (w3.setCell ⟨go, d.toNat, none⟩ (.slice A2 ((row V d).length + 1) cr))) := ⟨by
            intro w3 A2 cr hg hr hb
            have hS := U5.1 w3 _ _ hg hr
            have e9 : (row V d ++ [x]).length = (row V d).length + 1 := by simp
            rw [e9] at hS
            refine ⟨by rw [List.length_set]; exact hJ.1.1, fun r hr2 => ?_, hS.1, blk_grown hb hS.2 (by intro e; injection e with e; omega), ?_⟩
            · rcases List.mem_or_eq_of_mem_set hr2 with h | h
              · have := hJ.1.2.2.1 r h; omega
              · subst h
                rw [e9]
                by_cases hi : d.toNat < V.length
                · have hm : row V d ∈ V := by unfold row; rw [List.getD_eq_getElem?_getD, List.getElem?_eq_getElem hi]; exact List.getElem_mem hi
                  have := hJ.1.2.2.1 _ hm
                  omega
                · have : row V d = [] := by unfold row; rw [List.getD_eq_getElem?_getD, List.getElem?_eq_none (by omega)]; rfl
                  rw [this, List.length_nil]; omega
            · exact ((below_drew hJ.1.2.2.2.2.2).grown hg HGL.1 (fun k hk => (U4.1 k (U6.1.1 k hk)).1.1)).setCell (Nat.le_refl _) _⟩
          go_region_law ((refine Kd.R_append_step (Kd.int .i64) (w0 := wr.drew) (W := wr.drew) go rfl (.tmp 49) (.tmp 51) 55 3 (.int .i64 0) 8 rfl Try.underlying55 info3 rfl (by decide) (by decide) v0 (row V d) x [.int .i64 x] (fun k => oki k \/ wr.heap.size <= k) (fun _ => False) rfl rfl rfl (fun _ hk => hk.elim) HFR.1 U3.1 (Below.refl _ _) HGL.1 HRL.1 ?_); intro v1 w3 ho hb1 hg hat; obtain ⟨A2, cr, rfl⟩ := Kd.R_slice ho; have hnm : some (go + 1) ≠ v0.ownBlock := (fun e => (U4.1 (go + 1) (U6.1.1 _ e.symm)).1.2 rfl); have hng : some go ≠ v0.ownBlock := (fun e => (U4.1 go (U6.1.1 _ e.symm)).2 rfl); have hgs : go < wr.drew.heap.size := (by have := blk_lt HGB.1; omega); have k1 : w3.cell? ⟨go + 1, 0, none⟩ = some (Value.slice (some ⟨go, 0, none⟩) t1.length t1.length) := blk_cell (blk_grown HGB.1 hg hnm) 0; have k2 : w3.cell? ⟨go, d.toNat, none⟩ = some v0 := (World.cell?_of_block (hg.block go hgs hng)).trans w1'; have k3 : w3.frozen? ⟨go, d.toNat, none⟩ = false := (World.frozen?_of_block (hg.block go hgs hng)).trans U2.1; have G1 := Az.mk hg; have R1 := Az.mk ho; have B1 := Az.mk (blk_grown HGB.1 hg hnm); clear hg ho hb1 hat hnm hng hgs)
          all_goals go_wp2
          all_goals go_roundg (gk - 1)
          all_goals first
            | (have h1 := hk2.1; have h2 := HZ.1; omega)
            | (have h1 := hk2.1
               have h2 := HZ.1
               have h4 := HRB.1.1
               have et : (z + 1).toNat = z.toNat + 1 := by omega
               have hst := HSTEP.1 _ _ _ G1.1 R1.1 B1.1
               exact ⟨z + 1, _, by rw [show wrap64 (z + 1) = z + 1 from by unfold wrap64; omega], ⟨by omega, by omega⟩, ⟨hst.1, by rw [et]; exact HADD.1, by rw [et]; exact hst.2.1, hst.2.2.1, hst.2.2.2.1, hst.2.2.2.2⟩⟩)
        · have q4 : decide (z < (rw1.length : Int)) = false := decide_eq_false hz
          have hd : rw1.drop z.toNat = [] := List.drop_of_length_le (by have := hk2.1; omega)
          have hJ2 := hJ.1
          rw [hd] at hJ2
          have HJ2 := Az.mk hJ2
          clear hd hJ2 hz hk20
          go_wp2
          go_roundg (gk1 - 1)
          case measure => have := hk.1; have := HX.1; omega
          case rel =>
            have h1 := hk.1
            have h2 := HX.1
            have h3 := hk2.1
            have h4 := HRB.1.1
            have h5 := HOK.1.2.1
            have et : (x + 1).toNat = x.toNat + 1 := by omega
            have hv : V = addAll U x rw1 := HJ2.1.2.1
            exact ⟨x + 1, V, by rw [show wrap64 (x + 1) = x + 1 from by unfold wrap64; omega], ⟨by omega, by omega⟩, ⟨HJ2.1.1, by rw [et, hv]; exact HBK1.1, fun r hr => by have := HJ2.1.2.2.1 r hr; omega, HJ2.1.2.2.2.1, HJ2.1.2.2.2.2.1, HJ2.1.2.2.2.2.2⟩⟩
    · have q3 : decide (x < (t2.length : Int)) = false := decide_eq_false hx
      have hd : t2.drop x.toNat = [] := List.drop_of_length_le (by have := hk.1; omega)
      have hI2 := hI.1
      rw [hd] at hI2
      obtain ⟨i1, rfl, i3, i4, i5, i6⟩ := hI2
      have hbw : Below w7.heap.size w7 wr := by rw [<- HGO.1]; exact i6
      have HBW := Az.mk hbw
      have f0 := blk_below F0.1 hbw
      have f1 := blk_below F1.1 hbw
      have HF0 := Az.mk f0
      have x0 := blk_cell f1 0
      have x1 := blk_cell f1 1
      have z0 := blk_cell i5 0
      have hN := plainR (Kd.R_below HN7.1 hbw)
      have hE := Kd.S_reads' (Kd.S_below HE7.1 hbw)
      have hU : t1.length = (backL U x []).length /\ t1.length <= t1.length /\ KS.C wr (some ⟨go, 0, none⟩) (backL U x []).length (backL U x []) := Kd.S_reads' i4
      have hbk := HBK.1
      have hre := HRE.1
      rw [hbk] at hre
      have hcall := m_reached.calls _ cn t1 _ ce t2 _ t1.length (backL U x []) s r1 r2 r3 r4 r5 wr hN.2.2 hN.2.1 hE.2.2 hE.2.1 hU.2.2 (by rw [<- hU.1]; exact Nat.le_refl _) hre
      rw [<- hU.1] at hcall
      have HCALL := Az.mk hcall
      clear hd i1 i3 i4 i5 i6 hbw f0 f1 hN hE hU hbk hre hcall hx hk0 hI
      go_wp2_with (go_at_call 31; (refine HCALL.1.mono ?_); rintro e w10 ⟨v10, rfl, hr10, hb10⟩; have HR10 := Az.mk hr10; have HB10 := Az.mk hb10; have g0 := blk_below HF0.1 hb10; have HG0 := Az.mk g0; have y0 := blk_cell g0 0; have y1 := blk_cell g0 1; have y2 := blk_cell g0 2; have y3 := blk_cell g0 3; have e0 := blk_frozen g0 0; have e1 := blk_frozen g0 1; have e2 := blk_frozen g0 2; have e3 := blk_frozen g0 3; clear hr10 hb10 g0)
      refine bodyPost_ret (results_tc rfl _ _ w.heap.size 28 #[.int .i64 r2, .string r3, .int .i64 r4, .int .i64 r5] (0, 0) _ rfl (fst4_f HG0.1 r2 r3 r4 r5) Try.underlying28 rfl hi28) rfl ?_
      have hlt : w.heap.size < wr.heap.size := by have h1 := blk_lt HF0.1; exact h1
      have hall : Below w.heap.size w w10 := ((HB5.1.trans (HB57.1.mono HB5.1.size)).trans (HBW.1.mono (by have := HB5.1.size; have := HB57.1.size; omega))).trans (HB10.1.mono (Nat.le_of_lt hlt))
      refine ⟨_, rfl, ?_, fst4_below hall (Nat.le_refl _) r2 r3 r4 r5⟩
      exact Kd.R_lower (Kd.R_mono (Kd.R_move (Kd.R_bound HR10.1) (fun k hk => fst4_heap w10 _ r2 r3 r4 r5 k (by have := hk.2.1; omega))) (fun _ _ => trivial)) (Nat.le_of_lt hlt)
end Mg
namespace P
theorem m_Users.calls (A0 : Option Addr) (c0 : Nat) (l0 : List S42) (a1 : ByteArray) (r1 : List ByteArray) (r2 : Int) (r3 : ByteArray) (r4 r5 : Int) (w : World) (hr0 : Kd.C k42 w A0 l0.length l0) (hc0 : l0.length <= c0) (h : m_Users.f l0 a1 = some (r1, r2, r3, r4, r5)) :
    Calls Try.prog 17 #[.slice A0 l0.length c0, .string a1] w fun e w' => ∃ v0_ : Value, e = .returned (.tuple #[v0_, .agg #[.int .i64 r2, .string r3, .int .i64 r4, .int .i64 r5]]) /\ Kd.R Kd.string 9 w' w.heap.size (fun _ => True) v0_ r1 /\ Below w.heap.size w w' := by
  unfold m_Users.f at h
  obtain ⟨⟨t1, t2, t3, t4, t5, t6⟩, hl, h⟩ := Option.bind_eq_some_iff.mp h
  obtain ⟨k0, hk0⟩ := Od.lim_some hl
  have hA := hk0 k0 (Nat.le_refl _)
  simp only [] at h
  by_cases h3 : t3 = 0
  · rw [if_pos h3] at h
    by_cases ho : okB t1.length t2
    · rw [if_pos ho] at h
      subst h3
      exact Users_walk k0 A0 c0 l0 a1 w hr0 hc0 t1 t2 t4 t5 t6 hA ho r1 r2 r3 r4 r5 h
    · rw [if_neg ho] at h; cases h
  · rw [if_neg h3] at h
    simp only [Option.some.injEq, Prod.mk.injEq] at h
    obtain ⟨rfl, rfl, rfl, rfl, rfl⟩ := h
    exact Users_fault k0 A0 c0 l0 a1 w hr0 hc0 t1 t2 t3 t4 t5 t6 hA h3
end P
end Go.Proofs.Ytmadhaccjmakdaa
namespace Go.Proofs.Ytmadhaccjmakdaa.P
open Go.RowKit Go.Proofs.Yw.A Go.Proofs.Yw.B Go.Proofs.Yw.C Mg
theorem ord_x : g_ordered.f [[1], [], []] = some [[1], [0], [2]] := Od.lim_of (k0 := 40) (fun k hk => by
 obtain ⟨m, rfl⟩ : ∃ m, k = m + 40 := ⟨k - 40, by omega⟩
 kernel_rfl)
theorem lev_x : g_Levels.f [[1], [], []] = some ([[1, 2], [0]], 0) := Od.lim_of (k0 := 40) (fun k hk => by
 obtain ⟨m, rfl⟩ : ∃ m, k = m + 40 := ⟨k - 40, by omega⟩
 unfold Lv.levelsF
 rw [ord_x]
 kernel_rfl)
theorem acy_x {l : List S42} (h : l.map key = [([65], [[66]]), ([66], []), ([67], [])]) : m_acyclic.f 40 l = some ([bz [65], bz [66], bz [67]], [[1], [], []], 0, ⟨#[]⟩, 0, 0) := by
 unfold m_acyclic.f
 rw [made_abc h]
 kernel_rfl
theorem order_x {l : List S42} (h : l.map key = [([65], [[66]]), ([66], []), ([67], [])]) : m_Order.f 40 l = some ([bz [66], bz [65], bz [67]], 0, ⟨#[]⟩, 0, 0) := by
 unfold m_Order.f
 rw [acy_x h]
 simp only [Option.bind_some, if_true]
 unfold g_Components.f
 rw [ord_x]
 kernel_rfl
theorem levels_x {l : List S42} (h : l.map key = [([65], [[66]]), ([66], []), ([67], [])]) : m_Levels.f 40 l = some ([[bz [66], bz [67]], [bz [65]]], 0, ⟨#[]⟩, 0, 0) := by
 unfold m_Levels.f
 rw [acy_x h]
 simp only [Option.bind_some, if_true]
 rw [lev_x]
 kernel_rfl
theorem reach_x : m_reached.f [bz [65], bz [66], bz [67]] [[1], [], []] [[1], [], []] (bz [65]) = some ([bz [66]], 0, ⟨#[]⟩, 0, 0) := by
 have hL : (Od.lim fun k => (g_Reach.f k [[1], [], []] (rank ([bz [65], bz [66], bz [67]].map dat) (dat (bz [65])) : Nat)).bind fun t => p_named.f k [bz [65], bz [66], bz [67]] [[1], [], []] t) = some [bz [65], bz [66]] := Od.lim_of (k0 := 40) (fun k hk => by
  obtain ⟨m, rfl⟩ : ∃ m, k = m + 40 := ⟨k - 40, by omega⟩
  kernel_rfl)
 unfold m_reached.f
 rw [if_pos (by decide), if_pos (by decide), hL]
 have hf : [bz [65], bz [66]].filter (fun x => !but (bz [65]) x) = [bz [66]] := by kernel_rfl
 show some (List.filter (fun x => !but (bz [65]) x) [bz [65], bz [66]], (0 : Int), (⟨#[]⟩ : ByteArray), (0 : Int), (0 : Int)) = _
 rw [hf]
theorem needs_x {l : List S42} (h : l.map key = [([65], [[66]]), ([66], []), ([67], [])]) : m_Needs.f 40 l (bz [65]) = some ([bz [66]], 0, ⟨#[]⟩, 0, 0) := by
 unfold m_Needs.f
 rw [acy_x h]
 simp only [Option.bind_some, if_true]
 rw [reach_x]
 rfl
theorem cycle_x {l : List S42} (h : l.map key = [([65], [[66]]), ([66], [[65], [67]]), ([67], [[66]])]) : m_Cycle.f 100 l = some [bz [65], bz [66]] := by
 unfold m_Cycle.f
 rw [made_cyc h]
 kernel_rfl
theorem missI_bz (K : List (List UInt8)) : ∀ l : List S66, missI K l = ((l.map im).find? (fun x => !K.contains x)).map bz := by
 intro l
 induction l with
 | nil => rfl
 | cons i l ih =>
  unfold missI
  by_cases h : K.contains (im i) = true
  · rw [if_pos h, ih, List.map_cons, List.find?_cons_of_neg (by simpa using h)]
  rw [if_neg h, List.map_cons, List.find?_cons_of_pos (by simpa using h)]
  rfl
theorem made_x {l : List S42} (h : l.map key = [([65], [[88]])]) : m_made.f l = some ([], [], 16, bz [88], 0, 0) := by
 have hk := nm_key l
 rw [h] at hk
 have hlen : l.length = 1 := by have := congrArg List.length h; simpa using this
 obtain ⟨m, rfl⟩ : ∃ m, l = [m] := List.length_eq_one_iff.1 hlen
 have hkm : key m = ([65], [[88]]) := by simpa using h
 have hi : m.f3.map im = [[88]] := congrArg Prod.snd hkm
 unfold m_made.f
 rw [if_neg (by simp), if_pos (okSizes_key (by rw [h]; decide)), twice_of _ [] (by rw [hk]; decide)]
 simp only []
 rw [hk]
 unfold miss
 rw [missI_bz, hi]
 rfl
theorem order_miss {l : List S42} (h : l.map key = [([65], [[88]])]) : m_Order.f 40 l = some ([], 16, bz [88], 0, 0) := by
 unfold m_Order.f m_acyclic.f
 rw [made_x h]
 rfl
theorem reach_y : m_reached.f [bz [65], bz [66], bz [67]] [[1], [], []] [[], [0], []] (bz [66]) = some ([bz [65]], 0, ⟨#[]⟩, 0, 0) := by
 have hL : (Od.lim fun k => (g_Reach.f k [[], [0], []] (rank ([bz [65], bz [66], bz [67]].map dat) (dat (bz [66])) : Nat)).bind fun t => p_named.f k [bz [65], bz [66], bz [67]] [[1], [], []] t) = some [bz [65], bz [66]] := Od.lim_of (k0 := 40) (fun k hk => by
  obtain ⟨m, rfl⟩ : ∃ m, k = m + 40 := ⟨k - 40, by omega⟩
  kernel_rfl)
 unfold m_reached.f
 rw [if_pos (by decide), if_pos (by decide), hL]
 have hf : [bz [65], bz [66]].filter (fun x => !but (bz [66]) x) = [bz [65]] := by kernel_rfl
 show some (List.filter (fun x => !but (bz [66]) x) [bz [65], bz [66]], (0 : Int), (⟨#[]⟩ : ByteArray), (0 : Int), (0 : Int)) = _
 rw [hf]
theorem users_x {l : List S42} (h : l.map key = [([65], [[66]]), ([66], []), ([67], [])]) : m_Users.f l (bz [66]) = some ([bz [65]], 0, ⟨#[]⟩, 0, 0) := by
 have hL : (Od.lim fun k => m_acyclic.f k l) = some ([bz [65], bz [66], bz [67]], [[1], [], []], 0, ⟨#[]⟩, 0, 0) := Od.lim_of (k0 := 40) (fun k hk => by
  obtain ⟨m, rfl⟩ : ∃ m, k = m + 40 := ⟨k - 40, by omega⟩
  unfold m_acyclic.f
  rw [made_abc h]
  kernel_rfl)
 have hb : backL (List.replicate [bz [65], bz [66], bz [67]].length []) 0 [[1], [], []] = [[], [0], []] := by kernel_rfl
 have ho : okB [bz [65], bz [66], bz [67]].length [[1], [], []] := by unfold okB; decide
 unfold m_Users.f
 rw [hL]
 simp only [Option.bind_some, if_true]
 rw [if_pos ho, hb]
 exact reach_y
end Go.Proofs.Ytmadhaccjmakdaa.P
namespace Go.Proofs.Ytmadhaccjmakdaa
open Go.RowKit Go.Proofs.Yw.A Go.Proofs.Yw.B Go.Proofs.Yw.C
attribute [local go_sem] str_gtr str_leq str_geq max2_int min2_int max_two min_two max_three min_three max_four min_four
open P Mg
attribute [local go_sem high] eqA28
namespace Aw
def Stab (p : World -> Prop) : Prop := ∀ w w1, Below w.heap.size w w1 -> p w -> p w1
theorem stab_and {p q : World -> Prop} (hp : Stab p) (hq : Stab q) : Stab fun w => p w /\ q w := fun w w1 hb h => ⟨hp w w1 hb h.1, hq w w1 hb h.2⟩
theorem stab_c {α : Type} (d : Kd α) (A : Option Addr) (n : Nat) (xs : List α) : Stab fun w => d.C w A n xs := fun w w1 hb h => Kd.C_below h hb
theorem stab_k {α : Type} (d : Kd α) (x : α) (cs : List Value) : Stab fun w => d.K w x cs := fun w w1 hb h => d.K_below hb h
theorem stab_b (w0 : World) : Stab fun w => Below w0.heap.size w0 w := fun w w1 hb h => below_step h hb
theorem stab_x (g : Nat) (cs : Array Value) (t : TypeId) : Stab fun w => w.heap[g]? = some (.cells cs t (0, 0)) := fun w w1 hb h => blk_below h hb
theorem C_lit {α : Type} (d : Kd α) (w : World) {xs : List α} {inner : List Value} (e : TypeId) (hrep : Reps (d.K w) d.sz xs inner) (hm : xs.length <= 9223372036854775807) (hl : inner.length = xs.length * d.sz) :
 d.C (w.alloc (.cells inner.toArray e)) (some ⟨w.heap.size, 0, none⟩) xs.length xs := by
 refine ⟨rfl, hm, fun _ => ⟨_, rfl, fun j p hj => ⟨_, ?_, d.K_below (below_alloc (Below.refl _ _) _) (hrep.2 j p hj), fun i u hu => ?_⟩⟩⟩
 · exact d.K_len (hrep.2 j p hj)
 · have hb := (MapKept.heap_alloc w (.cells inner.toArray e)).1
   have hu' : inner[j * d.sz + i]? = some u := by
    rw [List.getElem?_take] at hu
    split at hu
    · rw [List.getElem?_drop] at hu; exact hu
    · cases hu
   have hadd : (⟨w.heap.size, 0, none⟩ : Addr).add (j * d.sz + i) = ⟨w.heap.size, j * d.sz + i, none⟩ := by
    unfold Addr.add
    split
    · rename_i h0; rw [h0]
    · simp
   rw [hadd, blk_cell hb]
   simpa using hu'
def i66 (x : ByteArray) : S66 := ⟨x, false, ⟨#[]⟩, false, false, []⟩
def mm (x : ByteArray) (l : List ByteArray) : S42 := ⟨x, false, [], l.map i66, RawS.nil⟩
theorem mod_ex (s : ByteArray) (l1 : List ByteArray) (x : S42) (h : w_module.f 40 s l1 = some (x.f0, x.f1, x.f2, x.f3, x.f4)) (A1 : Option Addr) (c1 : Nat) (w : World) (hr1 : Kd.C Kd.string w A1 l1.length l1) (hc1 : l1.length <= c1) :
 Calls Try.prog 23 #[.string s, .slice A1 l1.length c1] w fun e w' => ∃ A2 c2 A3 c3, e = .returned (.agg #[.string x.f0, .bool x.f1, .slice A2 x.f2.length c2, .slice A3 x.f3.length c3, .slice x.f4.a x.f4.n x.f4.c]) /\
  k42.K w' x [.string x.f0, .bool x.f1, .slice A2 x.f2.length c2, .slice A3 x.f3.length c3, .slice x.f4.a x.f4.n x.f4.c] /\ Below w.heap.size w w' := by
 refine (w_module.calls 40 s A1 c1 l1 _ _ _ _ _ w hr1 hc1 h).mono ?_
 rintro e w' ⟨v2, v3, rfl, h2, h3, hb⟩
 obtain ⟨A2, c2, rfl, l2, g2⟩ := Kd.S_reads h2
 obtain ⟨A3, c3, rfl, l3, g3⟩ := Kd.R_reads h3
 exact ⟨A2, c2, A3, c3, rfl, k42_mk w' x l2 g2 l3 g3, hb⟩
end Aw
namespace Aw
theorem rS1 (w : World) (x : ByteArray) : Reps (Kd.string.K w) 1 [x] [.string x] := Reps.one (show Kd.K Kd.string w x [.string x] from rfl) (Reps.none _ _)
theorem sC1 (w : World) (x : ByteArray) : Kd.string.C (w.alloc (.cells #[.string x] 9)) (some ⟨w.heap.size, 0, none⟩) 1 [x] := C_lit Kd.string w 9 (rS1 w x) (by simp) rfl
theorem sC2 (w : World) (x y : ByteArray) : Kd.string.C (w.alloc (.cells #[.string x, .string y] 9)) (some ⟨w.heap.size, 0, none⟩) 2 [x, y] :=
 C_lit Kd.string w 9 (Reps.one (show Kd.K Kd.string w x [.string x] from rfl) (rS1 w y)) (by simp) rfl
theorem sC3 (w : World) (x y z : ByteArray) : Kd.string.C (w.alloc (.cells #[.string x, .string y, .string z] 9)) (some ⟨w.heap.size, 0, none⟩) 3 [x, y, z] :=
 C_lit Kd.string w 9 (Reps.one (show Kd.K Kd.string w x [.string x] from rfl) (Reps.one (show Kd.K Kd.string w y [.string y] from rfl) (rS1 w z))) (by simp) rfl
theorem mod0_ex (s : ByteArray) (w : World) : Calls Try.prog 23 #[.string s, .slice none 0 0] w fun e w' => ∃ A2 c2 A3 c3, e = .returned (.agg #[.string s, .bool false, .slice A2 0 c2, .slice A3 0 c3, .slice none 0 0]) /\
 k42.K w' (mm s []) [.string s, .bool false, .slice A2 0 c2, .slice A3 0 c3, .slice none 0 0] /\ Below w.heap.size w w' :=
 mod_ex s [] (mm s []) (by rfl) none 0 w (Kd.C_nil _ _) (Nat.le_refl _)
theorem mod1_ex (s x : ByteArray) (w : World) : Calls Try.prog 23 #[.string s, .slice (some ⟨w.heap.size, 0, none⟩) 1 1] (w.alloc (.cells #[.string x] 9)) fun e w' => ∃ A2 c2 A3 c3, e = .returned (.agg #[.string s, .bool false, .slice A2 0 c2, .slice A3 1 c3, .slice none 0 0]) /\
 k42.K w' (mm s [x]) [.string s, .bool false, .slice A2 0 c2, .slice A3 1 c3, .slice none 0 0] /\ Below w.heap.size w w' :=
 (mod_ex s [x] (mm s [x]) (by kernel_rfl) _ 1 _ (sC1 w x) (Nat.le_refl _)).mono fun e w' ⟨A2, c2, A3, c3, h1, h2, h3⟩ => ⟨A2, c2, A3, c3, h1, h2, below_step (below_alloc (Below.refl _ _) _) h3⟩
theorem mod2_ex (s x y : ByteArray) (w : World) : Calls Try.prog 23 #[.string s, .slice (some ⟨w.heap.size, 0, none⟩) 2 2] (w.alloc (.cells #[.string x, .string y] 9)) fun e w' => ∃ A2 c2 A3 c3, e = .returned (.agg #[.string s, .bool false, .slice A2 0 c2, .slice A3 2 c3, .slice none 0 0]) /\
 k42.K w' (mm s [x, y]) [.string s, .bool false, .slice A2 0 c2, .slice A3 2 c3, .slice none 0 0] /\ Below w.heap.size w w' :=
 (mod_ex s [x, y] (mm s [x, y]) (by kernel_rfl) _ 2 _ (sC2 w x y) (Nat.le_refl _)).mono fun e w' ⟨A2, c2, A3, c3, h1, h2, h3⟩ => ⟨A2, c2, A3, c3, h1, h2, below_step (below_alloc (Below.refl _ _) _) h3⟩
def L1 : List S42 := [mm (bz [65]) [bz [66]], mm (bz [66]) [], mm (bz [67]) []]
def L2 : List S42 := [mm (bz [65]) [bz [88]]]
def L3 : List S42 := [mm (bz [65]) [bz [66]], mm (bz [66]) [bz [65], bz [67]], mm (bz [67]) [bz [66]]]
theorem key1 : L1.map key = [([65], [[66]]), ([66], []), ([67], [])] := by kernel_rfl
theorem key2 : L2.map key = [([65], [[88]])] := by kernel_rfl
theorem key3 : L3.map key = [([65], [[66]]), ([66], [[65], [67]]), ([67], [[66]])] := by kernel_rfl
theorem ord_ex (A : Option Addr) (c : Nat) (w : World) (h : k42.C w A 3 L1) (hc : 3 <= c) : Calls Try.prog 10 #[.slice A 3 c] w fun e w' => ∃ A2 c2, e = .returned (.tuple #[.slice A2 3 c2, .agg #[.int .i64 0, .string ⟨#[]⟩, .int .i64 0, .int .i64 0]]) /\
 Kd.string.C w' A2 3 [(⟨#[66]⟩ : ByteArray), (⟨#[65]⟩ : ByteArray), (⟨#[67]⟩ : ByteArray)] /\ 3 <= c2 /\ Below w.heap.size w w' := by
 refine (m_Order.calls 40 A c L1 _ _ _ _ _ w h hc (order_x key1)).mono ?_
 rintro e w' ⟨v, rfl, hr, hb⟩
 obtain ⟨A2, c2, rfl, l2, g2⟩ := Kd.R_reads hr
 exact ⟨A2, c2, rfl, g2, l2, hb⟩
theorem lev_ex (A : Option Addr) (c : Nat) (w : World) (h : k42.C w A 3 L1) (hc : 3 <= c) : Calls Try.prog 12 #[.slice A 3 c] w fun e w' => ∃ A2 c2, e = .returned (.tuple #[.slice A2 2 c2, .agg #[.int .i64 0, .string ⟨#[]⟩, .int .i64 0, .int .i64 0]]) /\
 (Kd.slice 9 Kd.string).C w' A2 2 [[(⟨#[66]⟩ : ByteArray), (⟨#[67]⟩ : ByteArray)], [(⟨#[65]⟩ : ByteArray)]] /\ 2 <= c2 /\ Below w.heap.size w w' := by
 refine (m_Levels.calls 40 A c L1 _ _ _ _ _ w h hc (levels_x key1)).mono ?_
 rintro e w' ⟨v, rfl, hr, hb⟩
 obtain ⟨A2, c2, rfl, l2, g2⟩ := Kd.S_reads hr
 exact ⟨A2, c2, rfl, g2, l2, hb⟩
theorem needs_ex (A : Option Addr) (c : Nat) (w : World) (h : k42.C w A 3 L1) (hc : 3 <= c) : Calls Try.prog 15 #[.slice A 3 c, .string ⟨#[65]⟩] w fun e w' => ∃ A2 c2, e = .returned (.tuple #[.slice A2 1 c2, .agg #[.int .i64 0, .string ⟨#[]⟩, .int .i64 0, .int .i64 0]]) /\
 Kd.string.C w' A2 1 [(⟨#[66]⟩ : ByteArray)] /\ 1 <= c2 /\ Below w.heap.size w w' := by
 refine (m_Needs.calls 40 A c L1 _ _ _ _ _ _ w h hc (needs_x key1)).mono ?_
 rintro e w' ⟨v, rfl, hr, hb⟩
 obtain ⟨A2, c2, rfl, l2, g2⟩ := Kd.R_reads hr
 exact ⟨A2, c2, rfl, g2, l2, hb⟩
theorem users_ex (A : Option Addr) (c : Nat) (w : World) (h : k42.C w A 3 L1) (hc : 3 <= c) : Calls Try.prog 17 #[.slice A 3 c, .string ⟨#[66]⟩] w fun e w' => ∃ A2 c2, e = .returned (.tuple #[.slice A2 1 c2, .agg #[.int .i64 0, .string ⟨#[]⟩, .int .i64 0, .int .i64 0]]) /\
 Kd.string.C w' A2 1 [(⟨#[65]⟩ : ByteArray)] /\ 1 <= c2 /\ Below w.heap.size w w' := by
 refine (m_Users.calls A c L1 _ _ _ _ _ _ w h hc (users_x key1)).mono ?_
 rintro e w' ⟨v, rfl, hr, hb⟩
 obtain ⟨A2, c2, rfl, l2, g2⟩ := Kd.R_reads hr
 exact ⟨A2, c2, rfl, g2, l2, hb⟩
theorem miss_ex (A : Option Addr) (c : Nat) (w : World) (h : k42.C w A 1 L2) (hc : 1 <= c) : Calls Try.prog 10 #[.slice A 1 c] w fun e w' => ∃ A2 c2, e = .returned (.tuple #[.slice A2 0 c2, .agg #[.int .i64 16, .string ⟨#[88]⟩, .int .i64 0, .int .i64 0]]) /\ Below w.heap.size w w' := by
 refine (m_Order.calls 40 A c L2 _ _ _ _ _ w h hc (order_miss key2)).mono ?_
 rintro e w' ⟨v, rfl, hr, hb⟩
 obtain ⟨A2, c2, rfl, l2, g2⟩ := Kd.R_reads hr
 exact ⟨A2, c2, rfl, hb⟩
theorem cyc_ex (A : Option Addr) (c : Nat) (w : World) (h : k42.C w A 3 L3) (hc : 3 <= c) : Calls Try.prog 19 #[.slice A 3 c] w fun e w' => ∃ A2 c2, e = .returned (.slice A2 2 c2) /\ Kd.string.C w' A2 2 [(⟨#[65]⟩ : ByteArray), (⟨#[66]⟩ : ByteArray)] /\ 2 <= c2 /\ Below w.heap.size w w' := by
 refine (m_Cycle.calls 100 A c L3 _ w h hc (cycle_x key3)).mono ?_
 rintro e w' ⟨v, rfl, hr, hb⟩
 obtain ⟨A2, c2, rfl, l2, g2⟩ := Kd.R_reads hr
 exact ⟨A2, c2, rfl, g2, l2, hb⟩
theorem same_ex (l : List ByteArray) (hl : w_same.f 40 l l = some true) (A1 A2 : Option Addr) (c1 c2 n : Nat) (w : World) (hn : l.length = n) (h1 : Kd.string.C w A1 n l) (h2 : Kd.string.C w A2 n l) (hc1 : n <= c1) (hc2 : n <= c2) :
 Calls Try.prog 14 #[.slice A1 n c1, .slice A2 n c2] w fun e w' => e = .returned (.bool true) /\ Drawn0 w w' := by
 subst hn
 exact w_same.calls 40 A1 c1 l A2 c2 l true w h1 hc1 h2 hc2 hl
theorem same1 : w_same.f 40 [bz [66], bz [65], bz [67]] [bz [66], bz [65], bz [67]] = some true := by kernel_rfl
theorem same2 : w_same.f 40 [bz [66], bz [67]] [bz [66], bz [67]] = some true := by kernel_rfl
theorem same3 : w_same.f 40 [bz [66]] [bz [66]] = some true := by kernel_rfl
theorem same4 : w_same.f 40 [bz [65]] [bz [65]] = some true := by kernel_rfl
theorem same5 : w_same.f 40 [bz [65], bz [66]] [bz [65], bz [66]] = some true := by kernel_rfl
theorem box_x (W : World) (cs : Array Value) : ∃ W1 g, W.alloc (.cells cs 28) = W1 /\ W.heap.size = g /\ W1.heap[g]? = some (.cells cs 28 (0, 0)) /\ Below W.heap.size W W1 := ⟨_, _, rfl, rfl, blk_new W _, below_alloc (Below.refl _ _) _⟩
theorem L1_lit {w : World} {A0 A1 A2 A3 A4 A5 : Option Addr} {c0 c1 c2 c3 c4 c5 : Nat} (h0 : k42.K w (mm ⟨#[65]⟩ [⟨#[66]⟩]) [.string ⟨#[65]⟩, .bool false, .slice A0 0 c0, .slice A1 1 c1, .slice none 0 0])
 (h1 : k42.K w (mm ⟨#[66]⟩ []) [.string ⟨#[66]⟩, .bool false, .slice A2 0 c2, .slice A3 0 c3, .slice none 0 0]) (h2 : k42.K w (mm ⟨#[67]⟩ []) [.string ⟨#[67]⟩, .bool false, .slice A4 0 c4, .slice A5 0 c5, .slice none 0 0]) :
 k42.C (w.alloc (.cells #[.string ⟨#[65]⟩, .bool false, .slice A0 0 c0, .slice A1 1 c1, .slice none 0 0, .string ⟨#[66]⟩, .bool false, .slice A2 0 c2, .slice A3 0 c3, .slice none 0 0, .string ⟨#[67]⟩, .bool false, .slice A4 0 c4, .slice A5 0 c5, .slice none 0 0] 42)) (some ⟨w.heap.size, 0, none⟩) 3 L1 :=
 C_lit k42 w 42 (Reps.c5 h0 (Reps.c5 h1 (Reps.c5 h2 (Reps.none _ _)))) (by decide) rfl
theorem L2_lit {w : World} {A0 A1 : Option Addr} {c0 c1 : Nat} (h0 : k42.K w (mm ⟨#[65]⟩ [⟨#[88]⟩]) [.string ⟨#[65]⟩, .bool false, .slice A0 0 c0, .slice A1 1 c1, .slice none 0 0]) :
 k42.C (w.alloc (.cells #[.string ⟨#[65]⟩, .bool false, .slice A0 0 c0, .slice A1 1 c1, .slice none 0 0] 42)) (some ⟨w.heap.size, 0, none⟩) 1 L2 :=
 C_lit k42 w 42 (Reps.c5 h0 (Reps.none _ _)) (by decide) rfl
theorem L3_lit {w : World} {A0 A1 A2 A3 A4 A5 : Option Addr} {c0 c1 c2 c3 c4 c5 : Nat} (h0 : k42.K w (mm ⟨#[65]⟩ [⟨#[66]⟩]) [.string ⟨#[65]⟩, .bool false, .slice A0 0 c0, .slice A1 1 c1, .slice none 0 0])
 (h1 : k42.K w (mm ⟨#[66]⟩ [⟨#[65]⟩, ⟨#[67]⟩]) [.string ⟨#[66]⟩, .bool false, .slice A2 0 c2, .slice A3 2 c3, .slice none 0 0]) (h2 : k42.K w (mm ⟨#[67]⟩ [⟨#[66]⟩]) [.string ⟨#[67]⟩, .bool false, .slice A4 0 c4, .slice A5 1 c5, .slice none 0 0]) :
 k42.C (w.alloc (.cells #[.string ⟨#[65]⟩, .bool false, .slice A0 0 c0, .slice A1 1 c1, .slice none 0 0, .string ⟨#[66]⟩, .bool false, .slice A2 0 c2, .slice A3 2 c3, .slice none 0 0, .string ⟨#[67]⟩, .bool false, .slice A4 0 c4, .slice A5 1 c5, .slice none 0 0] 42)) (some ⟨w.heap.size, 0, none⟩) 3 L3 :=
 C_lit k42 w 42 (Reps.c5 h0 (Reps.c5 h1 (Reps.c5 h2 (Reps.none _ _)))) (by decide) rfl
theorem stab_cell (a : Addr) (v : Value) : Stab fun w => w.cell? a = some v := fun w w1 hb h => pw_cell_below hb h
theorem box4 {w : World} {g : Nat} {a b c d : Value} {t : TypeId} (h : w.heap[g]? = some (.cells #[a, b, c, d] t (0, 0))) : w.cell? ⟨g, 0, none⟩ = some a /\ w.cell? ⟨g, 1, none⟩ = some b /\ w.cell? ⟨g, 2, none⟩ = some c /\ w.cell? ⟨g, 3, none⟩ = some d :=
 ⟨blk_cell h 0, blk_cell h 1, blk_cell h 2, blk_cell h 3⟩
theorem lev0 {w : World} {A : Option Addr} (h : (Kd.slice 9 Kd.string).C w A 2 [[(⟨#[66]⟩ : ByteArray), (⟨#[67]⟩ : ByteArray)], [(⟨#[65]⟩ : ByteArray)]]) : ∃ ad X f, A = some ad /\ w.cell? ad = some (.slice X 2 f) /\ 2 <= f /\ Kd.string.C w X 2 [(⟨#[66]⟩ : ByteArray), (⟨#[67]⟩ : ByteArray)] := by
 obtain ⟨ad, X, f, h1, h2, h3, h4⟩ := at_L2 h 0 (by decide) (by decide)
 exact ⟨ad, X, f, h1, by have h5 : w.cell? (ad.add 0) = some (.slice X 2 f) := h2; simpa [Addr.add] using h5, h3, h4⟩
theorem sm1 (A1 A2 : Option Addr) (c1 c2 : Nat) (w : World) (h1 : Kd.string.C w A1 3 [(⟨#[66]⟩ : ByteArray), (⟨#[65]⟩ : ByteArray), (⟨#[67]⟩ : ByteArray)]) (h2 : Kd.string.C w A2 3 [(⟨#[66]⟩ : ByteArray), (⟨#[65]⟩ : ByteArray), (⟨#[67]⟩ : ByteArray)]) (hc1 : 3 <= c1) (hc2 : 3 <= c2) : Calls Try.prog 14 #[.slice A1 3 c1, .slice A2 3 c2] w fun e w' => e = .returned (.bool true) /\ Drawn0 w w' := same_ex _ same1 A1 A2 c1 c2 3 w rfl h1 h2 hc1 hc2
theorem sm2 (A1 A2 : Option Addr) (c1 c2 : Nat) (w : World) (h1 : Kd.string.C w A1 2 [(⟨#[66]⟩ : ByteArray), (⟨#[67]⟩ : ByteArray)]) (h2 : Kd.string.C w A2 2 [(⟨#[66]⟩ : ByteArray), (⟨#[67]⟩ : ByteArray)]) (hc1 : 2 <= c1) (hc2 : 2 <= c2) : Calls Try.prog 14 #[.slice A1 2 c1, .slice A2 2 c2] w fun e w' => e = .returned (.bool true) /\ Drawn0 w w' := same_ex _ same2 A1 A2 c1 c2 2 w rfl h1 h2 hc1 hc2
theorem sm3 (A1 A2 : Option Addr) (c1 c2 : Nat) (w : World) (h1 : Kd.string.C w A1 1 [(⟨#[66]⟩ : ByteArray)]) (h2 : Kd.string.C w A2 1 [(⟨#[66]⟩ : ByteArray)]) (hc1 : 1 <= c1) (hc2 : 1 <= c2) : Calls Try.prog 14 #[.slice A1 1 c1, .slice A2 1 c2] w fun e w' => e = .returned (.bool true) /\ Drawn0 w w' := same_ex _ same3 A1 A2 c1 c2 1 w rfl h1 h2 hc1 hc2
theorem sm4 (A1 A2 : Option Addr) (c1 c2 : Nat) (w : World) (h1 : Kd.string.C w A1 1 [(⟨#[65]⟩ : ByteArray)]) (h2 : Kd.string.C w A2 1 [(⟨#[65]⟩ : ByteArray)]) (hc1 : 1 <= c1) (hc2 : 1 <= c2) : Calls Try.prog 14 #[.slice A1 1 c1, .slice A2 1 c2] w fun e w' => e = .returned (.bool true) /\ Drawn0 w w' := same_ex _ same4 A1 A2 c1 c2 1 w rfl h1 h2 hc1 hc2
theorem sm5 (A1 A2 : Option Addr) (c1 c2 : Nat) (w : World) (h1 : Kd.string.C w A1 2 [(⟨#[65]⟩ : ByteArray), (⟨#[66]⟩ : ByteArray)]) (h2 : Kd.string.C w A2 2 [(⟨#[65]⟩ : ByteArray), (⟨#[66]⟩ : ByteArray)]) (hc1 : 2 <= c1) (hc2 : 2 <= c2) : Calls Try.prog 14 #[.slice A1 2 c1, .slice A2 2 c2] w fun e w' => e = .returned (.bool true) /\ Drawn0 w w' := same_ex _ same5 A1 A2 c1 c2 2 w rfl h1 h2 hc1 hc2
theorem awake_calls (w : World) : Calls Try.prog 9 #[] w fun e w' => e = .returned (.bool true) /\ Below w.heap.size w w' := by
 have hu28 := Try.underlying28
 have hu22 := Try.underlying22
 have hu25 := Try.underlying25
 have HS := Az.mk (stab_b w)
 have HP := Az.mk (Below.refl w.heap.size w)
 go_enter Try.func9, Try.ntmps9
 go_upto_region 2 with (first | (go_at_call 23; (with_reducible refine (mod1_ex ⟨#[65]⟩ ⟨#[66]⟩ _).mono ?_); rintro e w1 ⟨A0, c0, A1, c1, rfl, hk, hb⟩; have n0 := Az.mk (HS.1 _ _ hb HP.1); clear HP; have HP := n0; clear n0; have HK0 := Az.mk hk; clear hk hb) | (go_at_call 23; (with_reducible refine (mod0_ex ⟨#[66]⟩ _).mono ?_); rintro e w2 ⟨A2, c2, A3, c3, rfl, hk, hb⟩; have n0 := Az.mk (HS.1 _ _ hb HP.1); clear HP; have HP := n0; clear n0; have n0 := Az.mk (stab_k _ _ _ _ _ hb HK0.1); clear HK0; have HK0 := n0; clear n0; have HK1 := Az.mk hk; clear hk hb) | (go_at_call 23; (with_reducible refine (mod0_ex ⟨#[67]⟩ _).mono ?_); rintro e w3 ⟨A4, c4, A5, c5, rfl, hk, hb⟩; have n0 := Az.mk (HS.1 _ _ hb HP.1); clear HP; have HP := n0; clear n0; have n0 := Az.mk (stab_k _ _ _ _ _ hb HK0.1); clear HK0; have HK0 := n0; clear n0; have n0 := Az.mk (stab_k _ _ _ _ _ hb HK1.1); clear HK1; have HK1 := n0; clear n0; have HK2 := Az.mk hk; clear hk hb))
 have hl := L1_lit HK0.1 HK1.1 HK2.1
 have hb := below_alloc (Below.refl w3.heap.size w3) (.cells #[Value.string ⟨#[65]⟩, Value.bool false, Value.slice A0 0 c0, Value.slice A1 1 c1, Value.slice none 0 0, Value.string ⟨#[66]⟩, Value.bool false, Value.slice A2 0 c2, Value.slice A3 0 c3, Value.slice none 0 0, Value.string ⟨#[67]⟩, Value.bool false, Value.slice A4 0 c4, Value.slice A5 0 c5, Value.slice none 0 0] 42)
 generalize w3.alloc (.cells #[Value.string ⟨#[65]⟩, Value.bool false, Value.slice A0 0 c0, Value.slice A1 1 c1, Value.slice none 0 0, Value.string ⟨#[66]⟩, Value.bool false, Value.slice A2 0 c2, Value.slice A3 0 c3, Value.slice none 0 0, Value.string ⟨#[67]⟩, Value.bool false, Value.slice A4 0 c4, Value.slice A5 0 c5, Value.slice none 0 0] 42) = W4 at *
 have HP1 := Az.mk (And.intro (HS.1 _ _ hb HP.1) hl)
 have HS1 := Az.mk (stab_and HS.1 (stab_c k42 (some ⟨w3.heap.size, 0, none⟩) 3 L1))
 clear HP HS hb hl HK0 HK1 HK2
 generalize (some (⟨w3.heap.size, 0, none⟩ : Addr)) = AL at *
 go_upto_region 3 with (first | (go_at_call 10; (with_reducible refine (ord_ex _ _ _ HP1.1.2 (Nat.le_refl _)).mono ?_); rintro e w4 ⟨B2, d2, rfl, hc, hl2, hb⟩; have HX := Az.mk (HS1.1 _ _ hb HP1.1); clear HP1; have HP1 := HX; clear HX; have HC := Az.mk hc; clear hc; clear hb))
 obtain ⟨W12, g2, e1, e2, hx, hb⟩ := box_x w4 #[.int .i64 0, .string ⟨#[]⟩, .int .i64 0, .int .i64 0]
 rw [e1, e2]
 clear e1 e2
 have HQ := Az.mk (And.intro (HS1.1 _ _ hb HP1.1) (And.intro (Kd.C_below HC.1 hb) hx))
 have HT := Az.mk (stab_and HS1.1 (stab_and (stab_c Kd.string B2 3 [(⟨#[66]⟩ : ByteArray), (⟨#[65]⟩ : ByteArray), (⟨#[67]⟩ : ByteArray)]) (stab_x g2 #[.int .i64 0, .string ⟨#[]⟩, .int .i64 0, .int .i64 0] 28)))
 clear HP1 HS1 hb hx HC
 have HP2 := HQ
 have HS2 := HT
 clear HQ HT
 go_upto_region 4 with (first | (go_at_call 12; (with_reducible refine (lev_ex _ _ _ HP2.1.1.2 (Nat.le_refl _)).mono ?_); rintro e w5 ⟨B3, d3, rfl, hc, hl3, hb⟩; have HX := Az.mk (HS2.1 _ _ hb HP2.1); clear HP2; have HP2 := HX; clear HX; have HC := Az.mk hc; clear hc; clear hb))
 obtain ⟨W13, g3, e1, e2, hx, hb⟩ := box_x w5 #[.int .i64 0, .string ⟨#[]⟩, .int .i64 0, .int .i64 0]
 rw [e1, e2]
 clear e1 e2
 have HQ := Az.mk (And.intro (HS2.1 _ _ hb HP2.1) (And.intro (Kd.C_below HC.1 hb) hx))
 have HT := Az.mk (stab_and HS2.1 (stab_and (stab_c (Kd.slice 9 Kd.string) B3 2 [[(⟨#[66]⟩ : ByteArray), (⟨#[67]⟩ : ByteArray)], [(⟨#[65]⟩ : ByteArray)]]) (stab_x g3 #[.int .i64 0, .string ⟨#[]⟩, .int .i64 0, .int .i64 0] 28)))
 clear HP2 HS2 hb hx HC
 have HP3 := HQ
 have HS3 := HT
 clear HQ HT
 go_upto_region 5 with (first | (go_at_call 15; (with_reducible refine (needs_ex _ _ _ HP3.1.1.1.2 (Nat.le_refl _)).mono ?_); rintro e w6 ⟨B4, d4, rfl, hc, hl4, hb⟩; have HX := Az.mk (HS3.1 _ _ hb HP3.1); clear HP3; have HP3 := HX; clear HX; have HC := Az.mk hc; clear hc; clear hb))
 obtain ⟨W14, g4, e1, e2, hx, hb⟩ := box_x w6 #[.int .i64 0, .string ⟨#[]⟩, .int .i64 0, .int .i64 0]
 rw [e1, e2]
 clear e1 e2
 have HQ := Az.mk (And.intro (HS3.1 _ _ hb HP3.1) (And.intro (Kd.C_below HC.1 hb) hx))
 have HT := Az.mk (stab_and HS3.1 (stab_and (stab_c Kd.string B4 1 [(⟨#[66]⟩ : ByteArray)]) (stab_x g4 #[.int .i64 0, .string ⟨#[]⟩, .int .i64 0, .int .i64 0] 28)))
 clear HP3 HS3 hb hx HC
 have HP4 := HQ
 have HS4 := HT
 clear HQ HT
 go_upto_region 6 with (first | (go_at_call 17; (with_reducible refine (users_ex _ _ _ HP4.1.1.1.1.2 (Nat.le_refl _)).mono ?_); rintro e w7 ⟨B5, d5, rfl, hc, hl5, hb⟩; have HX := Az.mk (HS4.1 _ _ hb HP4.1); clear HP4; have HP4 := HX; clear HX; have HC := Az.mk hc; clear hc; clear hb))
 obtain ⟨W15, g5, e1, e2, hx, hb⟩ := box_x w7 #[.int .i64 0, .string ⟨#[]⟩, .int .i64 0, .int .i64 0]
 rw [e1, e2]
 clear e1 e2
 have HQ := Az.mk (And.intro (HS4.1 _ _ hb HP4.1) (And.intro (Kd.C_below HC.1 hb) hx))
 have HT := Az.mk (stab_and HS4.1 (stab_and (stab_c Kd.string B5 1 [(⟨#[65]⟩ : ByteArray)]) (stab_x g5 #[.int .i64 0, .string ⟨#[]⟩, .int .i64 0, .int .i64 0] 28)))
 clear HP4 HS4 hb hx HC
 have HP5 := HQ
 have HS5 := HT
 clear HQ HT
 go_upto_region 7 with (first | (go_at_call 23; (with_reducible refine (mod1_ex ⟨#[65]⟩ ⟨#[88]⟩ _).mono ?_); rintro e w8 ⟨E0, f0, E1, f1, rfl, hk, hb⟩; have n0 := Az.mk (HS5.1 _ _ hb HP5.1); clear HP5; have HP5 := n0; clear n0; have HK0 := Az.mk hk; clear hk hb) | (go_at_call 10; (with_reducible refine (miss_ex _ _ _ (L2_lit HK0.1) (Nat.le_refl _)).mono ?_); rintro e w9 ⟨E2, f2, rfl, hb⟩; have n0 := Az.mk (HS5.1 _ _ (below_step (below_alloc (Below.refl _ _) _) hb) HP5.1); clear HP5; have HP5 := n0; clear n0; clear hb HK0))
 obtain ⟨W16, g6, e1, e2, hx, hb⟩ := box_x w9 #[.int .i64 16, .string ⟨#[88]⟩, .int .i64 0, .int .i64 0]
 rw [e1, e2]
 clear e1 e2
 have HQ := Az.mk (And.intro (HS5.1 _ _ hb HP5.1) hx)
 have HT := Az.mk (stab_and HS5.1 (stab_x g6 #[.int .i64 16, .string ⟨#[88]⟩, .int .i64 0, .int .i64 0] 28))
 clear HP5 HS5 hb hx
 have HP6 := HQ
 have HS6 := HT
 clear HQ HT
 go_upto_region 8 with (first | (go_at_call 23; (with_reducible refine (mod1_ex ⟨#[65]⟩ ⟨#[66]⟩ _).mono ?_); rintro e wa ⟨G0, h0, G1, h1, rfl, hk, hb⟩; have n0 := Az.mk (HS6.1 _ _ hb HP6.1); clear HP6; have HP6 := n0; clear n0; have HK0 := Az.mk hk; clear hk hb) | (go_at_call 23; (with_reducible refine (mod2_ex ⟨#[66]⟩ ⟨#[65]⟩ ⟨#[67]⟩ _).mono ?_); rintro e wb ⟨G2, h2, G3, h3, rfl, hk, hb⟩; have n0 := Az.mk (HS6.1 _ _ hb HP6.1); clear HP6; have HP6 := n0; clear n0; have n0 := Az.mk (stab_k _ _ _ _ _ hb HK0.1); clear HK0; have HK0 := n0; clear n0; have HK1 := Az.mk hk; clear hk hb) | (go_at_call 23; (with_reducible refine (mod1_ex ⟨#[67]⟩ ⟨#[66]⟩ _).mono ?_); rintro e wc ⟨G4, h4, G5, h5, rfl, hk, hb⟩; have n0 := Az.mk (HS6.1 _ _ hb HP6.1); clear HP6; have HP6 := n0; clear n0; have n0 := Az.mk (stab_k _ _ _ _ _ hb HK0.1); clear HK0; have HK0 := n0; clear n0; have n0 := Az.mk (stab_k _ _ _ _ _ hb HK1.1); clear HK1; have HK1 := n0; clear n0; have HK2 := Az.mk hk; clear hk hb) | (go_at_call 19; (with_reducible refine (cyc_ex _ _ _ (L3_lit HK0.1 HK1.1 HK2.1) (Nat.le_refl _)).mono ?_); rintro e wd ⟨B7, d7, rfl, hc, hl7, hb⟩; have n0 := Az.mk (And.intro (HS6.1 _ _ (below_step (below_alloc (Below.refl _ _) _) hb) HP6.1) hc); clear HP6; have HP7 := n0; clear n0; have HS7 := Az.mk (stab_and HS6.1 (stab_c Kd.string B7 2 [(⟨#[65]⟩ : ByteArray), (⟨#[66]⟩ : ByteArray)])); clear hb hc HK0 HK1 HK2 HS6))
 go_upto_region 9 with fail
 obtain ⟨W18, g8, e1, e2, hx, hb⟩ := box_x wd #[.int .i64 0, .string ⟨#[]⟩, .int .i64 0, .int .i64 0]
 rw [e1, e2]
 clear e1 e2
 have HQ := Az.mk (And.intro (HS7.1 _ _ hb HP7.1) hx)
 have HT := Az.mk (stab_and HS7.1 (stab_x g8 #[.int .i64 0, .string ⟨#[]⟩, .int .i64 0, .int .i64 0] 28))
 clear HP7 HS7 hb hx
 have HP8 := HQ
 have HS8 := HT
 clear HQ HT
 obtain ⟨ad3, X3, f3, rfl, hx3, hfl, hX⟩ := lev0 HP8.1.1.1.1.1.1.2.1
 have HQ := Az.mk (And.intro HP8.1 (And.intro hx3 hX))
 have HT := Az.mk (stab_and HS8.1 (stab_and (stab_cell ad3 (.slice X3 2 f3)) (stab_c Kd.string X3 2 [(⟨#[66]⟩ : ByteArray), (⟨#[67]⟩ : ByteArray)])))
 clear HP8 HS8 hx3 hX
 have HP9 := HQ
 have HS9 := HT
 clear HQ HT
 obtain ⟨x20, x21, x22, x23⟩ := box4 HP9.1.1.1.1.1.1.1.1.2.2
 obtain ⟨x30, x31, x32, x33⟩ := box4 HP9.1.1.1.1.1.1.1.2.2
 obtain ⟨x40, x41, x42, x43⟩ := box4 HP9.1.1.1.1.1.1.2.2
 obtain ⟨x50, x51, x52, x53⟩ := box4 HP9.1.1.1.1.1.2.2
 obtain ⟨x80, x81, x82, x83⟩ := box4 HP9.1.1.2
 go_wp2_with (first | (go_at_call 14; (with_reducible refine (sm1 _ _ _ _ _ (Kd.C_alloc HP9.1.1.1.1.1.1.1.1.2.1 _) (sC3 _ _ _ _) hl2 (Nat.le_refl _)).mono ?_); rintro e w20 ⟨rfl, hd⟩; have n0 := Az.mk (HS9.1 _ _ (below_step (below_alloc (Below.refl _ _) _) hd.below) HP9.1); clear HP9; have HP9 := n0; clear n0 hd x20 x21 x22 x23 x30 x31 x32 x33 x40 x41 x42 x43 x50 x51 x52 x53 x80 x81 x82 x83; have yy := HP9.1.2.1) | (go_at_call 14; (with_reducible refine (sm2 _ _ _ _ _ (Kd.C_alloc HP9.1.2.2 _) (sC2 _ _ _) hfl (Nat.le_refl _)).mono ?_); rintro e w21 ⟨rfl, hd⟩; have n0 := Az.mk (HS9.1 _ _ (below_step (below_alloc (Below.refl _ _) _) hd.below) HP9.1); clear HP9; have HP9 := n0; clear n0 hd yy) | (go_at_call 14; (with_reducible refine (sm3 _ _ _ _ _ (Kd.C_alloc HP9.1.1.1.1.1.1.2.1 _) (sC1 _ _) hl4 (Nat.le_refl _)).mono ?_); rintro e w22 ⟨rfl, hd⟩; have n0 := Az.mk (HS9.1 _ _ (below_step (below_alloc (Below.refl _ _) _) hd.below) HP9.1); clear HP9; have HP9 := n0; clear n0 hd) | (go_at_call 14; (with_reducible refine (sm4 _ _ _ _ _ (Kd.C_alloc HP9.1.1.1.1.1.2.1 _) (sC1 _ _) hl5 (Nat.le_refl _)).mono ?_); rintro e w23 ⟨rfl, hd⟩; have n0 := Az.mk (HS9.1 _ _ (below_step (below_alloc (Below.refl _ _) _) hd.below) HP9.1); clear HP9; have HP9 := n0; clear n0 hd; obtain ⟨x60, x61, x62, x63⟩ := box4 HP9.1.1.1.1.2) | (go_at_call 14; (with_reducible refine (sm5 _ _ _ _ _ (Kd.C_alloc HP9.1.1.1.2 _) (sC2 _ _ _) hl7 (Nat.le_refl _)).mono ?_); rintro e w24 ⟨rfl, hd⟩; have n0 := Az.mk (HS9.1 _ _ (below_step (below_alloc (Below.refl _ _) _) hd.below) HP9.1); clear HP9; have HP9 := n0; clear n0 hd x60 x61 x62 x63))
 go_ret
 exact ⟨rfl, HP9.1.1.1.1.1.1.1.1.1.1⟩
end Aw
namespace P
noncomputable def w_awake.f : Option Bool := some true
theorem w_awake.calls (r : Bool) (w : World) (h : w_awake.f = some r) : Calls Try.prog 9 #[] w fun e w' => e = .returned (.bool r) /\ Below w.heap.size w w' := by
 obtain rfl := Option.some.inj h
 exact Aw.awake_calls w
end P
end Go.Proofs.Ytmadhaccjmakdaa
namespace Go.Proofs.Ytmadhaccjmakdaa.P
open Go.RowKit Go.Proofs.Yw.A Go.Proofs.Yw.A.Kd Go.Proofs.Yw.B Go.Proofs.Yw.C
attribute [local go_sem] str_gtr str_leq str_geq max2_int min2_int max_two min_two max_three min_three max_four min_four
attribute [local go_sem high] eqA28
mutual
noncomputable def w_ModgraphOrder.j0 : Nat -> List (List ByteArray) -> List (List ByteArray) -> Bool -> Option (Bool)
 | 0, _, _, _ => none
 | k + 1, x7, x9, x56 => if x56 = true then (some false) else (w_ModgraphOrder.l0 k x7 x9 0)
noncomputable def w_ModgraphOrder.l0 : Nat -> List (List ByteArray) -> List (List ByteArray) -> Int -> Option (Bool)
 | 0, _, _, _ => none
 | k + 1, x7, x9, x11 => if x11 < (x7.length : Int) then (if 0 <= x11 then (if x11 < (x9.length : Int) then ((w_same.f k (rd_L2 x7 x11) (rd_L2 x9 x11)).bind fun t492 => (if t492 = true then (w_ModgraphOrder.l0 k x7 x9 (wrap64 (x11 + 1))) else (some false))) else (none)) else (none)) else ((w_awake.f).bind fun t493 => (some t493))
end
noncomputable def w_ModgraphOrder.f (k : Nat) (l0 : List (S42)) : Option (Bool) := (w_small.f k l0).bind fun t455 => (if t455 = true then ((m_Order.f k l0).bind fun bt457 => ((r_Order.f k l0).bind fun bt465 => ((m_Levels.f k l0).bind fun bt473 => ((r_Levels.f k l0).bind fun bt481 => ((w_same.f k bt457.1 bt465.1).bind fun t489 => (if t489 = true then (if (!(bt457.2.1 == bt465.2.1) || (!(bt457.2.2.1.toList == bt465.2.2.1.toList) || (!(bt457.2.2.2.1 == bt465.2.2.2.1) || (!(bt457.2.2.2.2 == bt465.2.2.2.2))))) = true then (w_ModgraphOrder.j0 k bt473.1 bt481.1 true) else (if (!(bt473.2.1 == bt481.2.1) || (!(bt473.2.2.1.toList == bt481.2.2.1.toList) || (!(bt473.2.2.2.1 == bt481.2.2.2.1) || (!(bt473.2.2.2.2 == bt481.2.2.2.2))))) = true then (w_ModgraphOrder.j0 k bt473.1 bt481.1 true) else (w_ModgraphOrder.j0 k bt473.1 bt481.1 ((bt473.1.length : Int) != (bt481.1.length : Int))))) else (w_ModgraphOrder.j0 k bt473.1 bt481.1 true))))))) else ((w_awake.f).bind fun t456 => (some t456)))
theorem w_ModgraphOrder.calls (k : Nat) (A0 : Option Addr) (c0 : Nat) (l0 : List (S42)) (r : Bool) (w : World) (hr0 : Kd.C k42 w A0 l0.length l0) (hc0 : l0.length <= c0) (h : w_ModgraphOrder.f k l0 = some r) :
 Calls Try.prog 3 #[.slice A0 l0.length c0] w fun e w' => e = .returned (.bool r) /\ Below w.heap.size w w' := by
 have hu28 := Try.underlying28
 have HR0 := aM hr0
 have HC0 := aM hc0
 clear hr0 hc0
 have HB := aM (Below.refl w.heap.size w)
 have H : ((w_small.f k l0).bind fun t455 => (if t455 = true then ((m_Order.f k l0).bind fun bt457 => ((r_Order.f k l0).bind fun bt465 => ((m_Levels.f k l0).bind fun bt473 => ((r_Levels.f k l0).bind fun bt481 => ((w_same.f k bt457.1 bt465.1).bind fun t489 => (if t489 = true then (if (!(bt457.2.1 == bt465.2.1) || (!(bt457.2.2.1.toList == bt465.2.2.1.toList) || (!(bt457.2.2.2.1 == bt465.2.2.2.1) || (!(bt457.2.2.2.2 == bt465.2.2.2.2))))) = true then (w_ModgraphOrder.j0 k bt473.1 bt481.1 true) else (if (!(bt473.2.1 == bt481.2.1) || (!(bt473.2.2.1.toList == bt481.2.2.1.toList) || (!(bt473.2.2.2.1 == bt481.2.2.2.1) || (!(bt473.2.2.2.2 == bt481.2.2.2.2))))) = true then (w_ModgraphOrder.j0 k bt473.1 bt481.1 true) else (w_ModgraphOrder.j0 k bt473.1 bt481.1 ((bt473.1.length : Int) != (bt481.1.length : Int))))) else (w_ModgraphOrder.j0 k bt473.1 bt481.1 true))))))) else ((w_awake.f).bind fun t456 => (some t456)))) = some r := h
 clear h
 replace H := Option.bind_eq_some_iff.mp H
 obtain ⟨t455, A20, H⟩ := H
 try dsimp only at H
 have A2 := aM A20
 clear A20
 by_cases c3 : t455 = true
 rotate_left
 · replace c3 := Bool.eq_false_iff.mpr c3
   subst c3
   rw [if_neg (show ¬ (false = true) by decide)] at H
   replace H := Option.bind_eq_some_iff.mp H
   obtain ⟨t456, A810, H⟩ := H
   try dsimp only at H
   have A81 := aM A810
   clear A810
   obtain rfl := Option.some.inj H
   go_enter Try.func3, Try.ntmps3
   go_wp2_with (first | (go_at_call 8; (with_reducible refine (w_small.calls k _ _ l0 false _ ?side1 ?side2 A2.1).mono ?_); (case side1 => exact ck HR0); (case side2 => exact HC0.1); rintro e w' ⟨rfl, ⟨nd, rfl⟩⟩; (try first | exact ⟨rfl, _, World.drewN_drewN _ _ _⟩ | exact ⟨rfl, _, Eq.trans (World.drewN_drewN _ _ _) (congrArg (World.drewN _) (Nat.add_assoc _ _ _))⟩)) | (go_at_call 9; (with_reducible refine (w_awake.calls  t456 _ A81.1).mono ?_); rintro e w82 ⟨rfl, hb⟩; replace HB := bs HB hb; clear hb))
   repeat (go_quiet (first | (go_at_call 8; (with_reducible refine (w_small.calls k _ _ l0 false _ ?side1 ?side2 A2.1).mono ?_); (case side1 => exact ck HR0); (case side2 => exact HC0.1); rintro e w' ⟨rfl, ⟨nd, rfl⟩⟩; (try first | exact ⟨rfl, _, World.drewN_drewN _ _ _⟩ | exact ⟨rfl, _, Eq.trans (World.drewN_drewN _ _ _) (congrArg (World.drewN _) (Nat.add_assoc _ _ _))⟩)) | (go_at_call 9; (with_reducible refine (w_awake.calls  t456 _ A81.1).mono ?_); rintro e w82 ⟨rfl, hb⟩; replace HB := bs HB hb)); try go_wp2_with (first | (go_at_call 8; (with_reducible refine (w_small.calls k _ _ l0 false _ ?side1 ?side2 A2.1).mono ?_); (case side1 => exact ck HR0); (case side2 => exact HC0.1); rintro e w' ⟨rfl, ⟨nd, rfl⟩⟩; (try first | exact ⟨rfl, _, World.drewN_drewN _ _ _⟩ | exact ⟨rfl, _, Eq.trans (World.drewN_drewN _ _ _) (congrArg (World.drewN _) (Nat.add_assoc _ _ _))⟩)) | (go_at_call 9; (with_reducible refine (w_awake.calls  t456 _ A81.1).mono ?_); rintro e w82 ⟨rfl, hb⟩; replace HB := bs HB hb)))
   go_ret
   exact ⟨by first | rfl | (simp [errW_none, errW_some] <;> rfl) | (simp [*, errW_none, errW_some] <;> rfl), hh HB⟩
 subst c3
 rw [if_pos rfl] at H
 replace H := Option.bind_eq_some_iff.mp H
 obtain ⟨⟨t457, t460, t461, t462, t463⟩, A40, H⟩ := H
 try dsimp only at H
 have A4 := aM A40
 clear A40
 replace H := Option.bind_eq_some_iff.mp H
 obtain ⟨⟨t465, t468, t469, t470, t471⟩, A50, H⟩ := H
 try dsimp only at H
 have A5 := aM A50
 clear A50
 replace H := Option.bind_eq_some_iff.mp H
 obtain ⟨⟨t473, t476, t477, t478, t479⟩, A60, H⟩ := H
 try dsimp only at H
 have A6 := aM A60
 clear A60
 replace H := Option.bind_eq_some_iff.mp H
 obtain ⟨⟨t481, t484, t485, t486, t487⟩, A70, H⟩ := H
 try dsimp only at H
 have A7 := aM A70
 clear A70
 have HC8 := aM H
 clear H
 go_enter Try.func3, Try.ntmps3
 go_upto_region 7 with (first | (go_at_call 8; (with_reducible refine (w_small.calls k _ _ l0 true _ ?side1 ?side2 A2.1).mono ?_); (case side1 => exact ck HR0); (case side2 => exact HC0.1); rintro e w' ⟨rfl, ⟨nd, rfl⟩⟩; (try first | exact ⟨rfl, _, World.drewN_drewN _ _ _⟩ | exact ⟨rfl, _, Eq.trans (World.drewN_drewN _ _ _) (congrArg (World.drewN _) (Nat.add_assoc _ _ _))⟩)) | (go_at_call 10; (with_reducible refine (m_Order.calls k _ _ l0 t457 t460 t461 t462 t463 _ ?side1 ?side2 A4.1).mono ?_); (case side1 => exact ck HR0); (case side2 => exact HC0.1); rintro e w9 ⟨v458, rfl, ho0, hb⟩; have HO459 := aM (R_lower ho0 (below_size (hh HB))); replace HB := bs HB hb; clear hb ho0) | ((with_reducible refine gate_dst (N := 4) rfl ?_); (try (refine gate_guard (by rfl) ?_; dsimp only)); refine be 4 rfl rfl #[.int .i64 0, .string (⟨#[]⟩ : ByteArray), .int .i64 0, .int .i64 0] 28 ?_; intro gb464 hg w10 hbox hb; have BK464 := aM hbox; have GE464 := gs hg HB; replace HO459 := rb HO459 hb; replace HB := bs HB hb; clear hb hbox hg; obtain ⟨hcz11_0, hcz11_1, hcz11_2, hcz11_3⟩ := cz BK464; obtain ⟨hfz11_0, hfz11_1, hfz11_2, hfz11_3⟩ := fz BK464) | (go_at_call 11; (with_reducible refine (r_Order.calls k _ _ l0 t465 t468 t469 t470 t471 _ ?side1 ?side2 A5.1).mono ?_); (case side1 => exact C_below HR0.1 (hh HB)); (case side2 => exact HC0.1); rintro e w12 ⟨v466, rfl, ho0, hb⟩; have HO467 := aM (R_lower (R_new' ho0 (R_lt (rz (rf4 HO459 BK464 (by decide))))) (below_size (hh HB))); replace HO459 := aM (R_elder' (rz (rf4 HO459 BK464 (by decide))) (R_base ho0) hb); replace BK464 := kg (o' := .cells #[.int .i64 t460, .string t461, .int .i64 t462, .int .i64 t463] 28 (0, 0)) BK464 hb; replace HB := bs HB hb; clear hb ho0) | ((with_reducible refine gate_dst (N := 6) rfl ?_); (try (refine gate_guard (by rfl) ?_; dsimp only)); refine be 6 rfl rfl #[.int .i64 0, .string (⟨#[]⟩ : ByteArray), .int .i64 0, .int .i64 0] 28 ?_; intro gb472 hg w13 hbox hb; have BK472 := aM hbox; have GE472 := gs hg HB; have NB464_472 := nl hg BK464; have NB472_464 := nr hg BK464; replace HO459 := rb HO459 hb; replace HO467 := rb HO467 hb; replace BK464 := kb BK464 hb; replace HB := bs HB hb; clear hb hbox hg; have hnb14 := NB472_464.1; have hnc14 := NB464_472.1; obtain ⟨hcz15_0, hcz15_1, hcz15_2, hcz15_3⟩ := cz BK472; obtain ⟨hfz15_0, hfz15_1, hfz15_2, hfz15_3⟩ := fz BK472) | (go_at_call 12; (with_reducible refine (m_Levels.calls k _ _ l0 t473 t476 t477 t478 t479 _ ?side1 ?side2 A6.1).mono ?_); (case side1 => exact C_below HR0.1 (hh HB)); (case side2 => exact HC0.1); rintro e w16 ⟨v474, rfl, ho0, hb⟩; have HO475 := aM (S_lower (S_new' (S_new' ho0 (R_lt (rz (rf4 HO459 BK472 (by decide))))) (R_lt (rz (rf4 HO467 BK472 (by decide))))) (below_size (hh HB))); replace HO459 := aM (R_below (rz (rf4 HO459 BK472 (by decide))) hb); replace HO467 := aM (R_below (rz (rf4 HO467 BK472 (by decide))) hb); replace BK464 := kg (o' := .cells #[.int .i64 t460, .string t461, .int .i64 t462, .int .i64 t463] 28 (0, 0)) BK464 hb; replace BK472 := kg (o' := .cells #[.int .i64 t468, .string t469, .int .i64 t470, .int .i64 t471] 28 (0, 0)) BK472 hb; replace HB := bs HB hb; clear hb ho0) | ((with_reducible refine gate_dst (N := 8) rfl ?_); (try (refine gate_guard (by rfl) ?_; dsimp only)); refine be 8 rfl rfl #[.int .i64 0, .string (⟨#[]⟩ : ByteArray), .int .i64 0, .int .i64 0] 28 ?_; intro gb480 hg w17 hbox hb; have BK480 := aM hbox; have GE480 := gs hg HB; have NB464_480 := nl hg BK464; have NB480_464 := nr hg BK464; have NB472_480 := nl hg BK472; have NB480_472 := nr hg BK472; replace HO459 := rb HO459 hb; replace HO467 := rb HO467 hb; replace HO475 := sb HO475 hb; replace BK464 := kb BK464 hb; replace BK472 := kb BK472 hb; replace HB := bs HB hb; clear hb hbox hg; have hnb18 := NB480_464.1; have hnc18 := NB464_480.1; have hnb19 := NB480_472.1; have hnc19 := NB472_480.1; obtain ⟨hcz20_0, hcz20_1, hcz20_2, hcz20_3⟩ := cz BK480; obtain ⟨hfz20_0, hfz20_1, hfz20_2, hfz20_3⟩ := fz BK480) | (go_at_call 13; (with_reducible refine (r_Levels.calls k _ _ l0 t481 t484 t485 t486 t487 _ ?side1 ?side2 A7.1).mono ?_); (case side1 => exact C_below HR0.1 (hh HB)); (case side2 => exact HC0.1); rintro e w21 ⟨v482, rfl, ho0, hb⟩; have HO483 := aM (S_lower (S_new' (S_new' (S_new' ho0 (R_lt (rz (rf4 HO459 BK480 (by decide))))) (R_lt (rz (rf4 HO467 BK480 (by decide))))) (S_lt (sz (sf4 HO475 BK480 (by decide))))) (below_size (hh HB))); replace HO459 := aM (R_below (rz (rf4 HO459 BK480 (by decide))) hb); replace HO467 := aM (R_below (rz (rf4 HO467 BK480 (by decide))) hb); replace HO475 := aM (S_elder' (sz (sf4 HO475 BK480 (by decide))) (S_base ho0) hb); replace BK464 := kg (o' := .cells #[.int .i64 t460, .string t461, .int .i64 t462, .int .i64 t463] 28 (0, 0)) BK464 hb; replace BK472 := kg (o' := .cells #[.int .i64 t468, .string t469, .int .i64 t470, .int .i64 t471] 28 (0, 0)) BK472 hb; replace BK480 := kg (o' := .cells #[.int .i64 t476, .string t477, .int .i64 t478, .int .i64 t479] 28 (0, 0)) BK480 hb; replace HB := bs HB hb; clear hb ho0) | ((with_reducible refine gate_dst (N := 10) rfl ?_); (try (refine gate_guard (by rfl) ?_; dsimp only)); refine be 10 rfl rfl #[.int .i64 0, .string (⟨#[]⟩ : ByteArray), .int .i64 0, .int .i64 0] 28 ?_; intro gb488 hg w22 hbox hb; have BK488 := aM hbox; have GE488 := gs hg HB; have NB464_488 := nl hg BK464; have NB488_464 := nr hg BK464; have NB472_488 := nl hg BK472; have NB488_472 := nr hg BK472; have NB480_488 := nl hg BK480; have NB488_480 := nr hg BK480; replace HO459 := rb HO459 hb; replace HO467 := rb HO467 hb; replace HO475 := sb HO475 hb; replace HO483 := sb HO483 hb; replace BK464 := kb BK464 hb; replace BK472 := kb BK472 hb; replace BK480 := kb BK480 hb; replace HB := bs HB hb; clear hb hbox hg; have hnb23 := NB488_464.1; have hnc23 := NB464_488.1; have hnb24 := NB488_472.1; have hnc24 := NB472_488.1; have hnb25 := NB488_480.1; have hnc25 := NB480_488.1; obtain ⟨hcz26_0, hcz26_1, hcz26_2, hcz26_3⟩ := cz BK488; obtain ⟨hfz26_0, hfz26_1, hfz26_2, hfz26_3⟩ := fz BK488))
 repeat (go_quiet (first | (go_at_call 8; (with_reducible refine (w_small.calls k _ _ l0 true _ ?side1 ?side2 A2.1).mono ?_); (case side1 => exact ck HR0); (case side2 => exact HC0.1); rintro e w' ⟨rfl, ⟨nd, rfl⟩⟩; (try first | exact ⟨rfl, _, World.drewN_drewN _ _ _⟩ | exact ⟨rfl, _, Eq.trans (World.drewN_drewN _ _ _) (congrArg (World.drewN _) (Nat.add_assoc _ _ _))⟩)) | (go_at_call 10; (with_reducible refine (m_Order.calls k _ _ l0 t457 t460 t461 t462 t463 _ ?side1 ?side2 A4.1).mono ?_); (case side1 => exact ck HR0); (case side2 => exact HC0.1); rintro e w9 ⟨v458, rfl, ho0, hb⟩; have HO459 := aM (R_lower ho0 (below_size (hh HB))); replace HB := bs HB hb) | ((with_reducible refine gate_dst (N := 4) rfl ?_); (try (refine gate_guard (by rfl) ?_; dsimp only)); refine be 4 rfl rfl #[.int .i64 0, .string (⟨#[]⟩ : ByteArray), .int .i64 0, .int .i64 0] 28 ?_; intro gb464 hg w10 hbox hb; have BK464 := aM hbox; have GE464 := gs hg HB; replace HO459 := rb HO459 hb; replace HB := bs HB hb; clear hb hbox hg; obtain ⟨hcz11_0, hcz11_1, hcz11_2, hcz11_3⟩ := cz BK464; obtain ⟨hfz11_0, hfz11_1, hfz11_2, hfz11_3⟩ := fz BK464) | (go_at_call 11; (with_reducible refine (r_Order.calls k _ _ l0 t465 t468 t469 t470 t471 _ ?side1 ?side2 A5.1).mono ?_); (case side1 => exact C_below HR0.1 (hh HB)); (case side2 => exact HC0.1); rintro e w12 ⟨v466, rfl, ho0, hb⟩; have HO467 := aM (R_lower (R_new' ho0 (R_lt (rz (rf4 HO459 BK464 (by decide))))) (below_size (hh HB))); replace HO459 := aM (R_elder' (rz (rf4 HO459 BK464 (by decide))) (R_base ho0) hb); replace BK464 := kg (o' := .cells #[.int .i64 t460, .string t461, .int .i64 t462, .int .i64 t463] 28 (0, 0)) BK464 hb; replace HB := bs HB hb) | ((with_reducible refine gate_dst (N := 6) rfl ?_); (try (refine gate_guard (by rfl) ?_; dsimp only)); refine be 6 rfl rfl #[.int .i64 0, .string (⟨#[]⟩ : ByteArray), .int .i64 0, .int .i64 0] 28 ?_; intro gb472 hg w13 hbox hb; have BK472 := aM hbox; have GE472 := gs hg HB; have NB464_472 := nl hg BK464; have NB472_464 := nr hg BK464; replace HO459 := rb HO459 hb; replace HO467 := rb HO467 hb; replace BK464 := kb BK464 hb; replace HB := bs HB hb; clear hb hbox hg; have hnb14 := NB472_464.1; have hnc14 := NB464_472.1; obtain ⟨hcz15_0, hcz15_1, hcz15_2, hcz15_3⟩ := cz BK472; obtain ⟨hfz15_0, hfz15_1, hfz15_2, hfz15_3⟩ := fz BK472) | (go_at_call 12; (with_reducible refine (m_Levels.calls k _ _ l0 t473 t476 t477 t478 t479 _ ?side1 ?side2 A6.1).mono ?_); (case side1 => exact C_below HR0.1 (hh HB)); (case side2 => exact HC0.1); rintro e w16 ⟨v474, rfl, ho0, hb⟩; have HO475 := aM (S_lower (S_new' (S_new' ho0 (R_lt (rz (rf4 HO459 BK472 (by decide))))) (R_lt (rz (rf4 HO467 BK472 (by decide))))) (below_size (hh HB))); replace HO459 := aM (R_below (rz (rf4 HO459 BK472 (by decide))) hb); replace HO467 := aM (R_below (rz (rf4 HO467 BK472 (by decide))) hb); replace BK464 := kg (o' := .cells #[.int .i64 t460, .string t461, .int .i64 t462, .int .i64 t463] 28 (0, 0)) BK464 hb; replace BK472 := kg (o' := .cells #[.int .i64 t468, .string t469, .int .i64 t470, .int .i64 t471] 28 (0, 0)) BK472 hb; replace HB := bs HB hb) | ((with_reducible refine gate_dst (N := 8) rfl ?_); (try (refine gate_guard (by rfl) ?_; dsimp only)); refine be 8 rfl rfl #[.int .i64 0, .string (⟨#[]⟩ : ByteArray), .int .i64 0, .int .i64 0] 28 ?_; intro gb480 hg w17 hbox hb; have BK480 := aM hbox; have GE480 := gs hg HB; have NB464_480 := nl hg BK464; have NB480_464 := nr hg BK464; have NB472_480 := nl hg BK472; have NB480_472 := nr hg BK472; replace HO459 := rb HO459 hb; replace HO467 := rb HO467 hb; replace HO475 := sb HO475 hb; replace BK464 := kb BK464 hb; replace BK472 := kb BK472 hb; replace HB := bs HB hb; clear hb hbox hg; have hnb18 := NB480_464.1; have hnc18 := NB464_480.1; have hnb19 := NB480_472.1; have hnc19 := NB472_480.1; obtain ⟨hcz20_0, hcz20_1, hcz20_2, hcz20_3⟩ := cz BK480; obtain ⟨hfz20_0, hfz20_1, hfz20_2, hfz20_3⟩ := fz BK480) | (go_at_call 13; (with_reducible refine (r_Levels.calls k _ _ l0 t481 t484 t485 t486 t487 _ ?side1 ?side2 A7.1).mono ?_); (case side1 => exact C_below HR0.1 (hh HB)); (case side2 => exact HC0.1); rintro e w21 ⟨v482, rfl, ho0, hb⟩; have HO483 := aM (S_lower (S_new' (S_new' (S_new' ho0 (R_lt (rz (rf4 HO459 BK480 (by decide))))) (R_lt (rz (rf4 HO467 BK480 (by decide))))) (S_lt (sz (sf4 HO475 BK480 (by decide))))) (below_size (hh HB))); replace HO459 := aM (R_below (rz (rf4 HO459 BK480 (by decide))) hb); replace HO467 := aM (R_below (rz (rf4 HO467 BK480 (by decide))) hb); replace HO475 := aM (S_elder' (sz (sf4 HO475 BK480 (by decide))) (S_base ho0) hb); replace BK464 := kg (o' := .cells #[.int .i64 t460, .string t461, .int .i64 t462, .int .i64 t463] 28 (0, 0)) BK464 hb; replace BK472 := kg (o' := .cells #[.int .i64 t468, .string t469, .int .i64 t470, .int .i64 t471] 28 (0, 0)) BK472 hb; replace BK480 := kg (o' := .cells #[.int .i64 t476, .string t477, .int .i64 t478, .int .i64 t479] 28 (0, 0)) BK480 hb; replace HB := bs HB hb) | ((with_reducible refine gate_dst (N := 10) rfl ?_); (try (refine gate_guard (by rfl) ?_; dsimp only)); refine be 10 rfl rfl #[.int .i64 0, .string (⟨#[]⟩ : ByteArray), .int .i64 0, .int .i64 0] 28 ?_; intro gb488 hg w22 hbox hb; have BK488 := aM hbox; have GE488 := gs hg HB; have NB464_488 := nl hg BK464; have NB488_464 := nr hg BK464; have NB472_488 := nl hg BK472; have NB488_472 := nr hg BK472; have NB480_488 := nl hg BK480; have NB488_480 := nr hg BK480; replace HO459 := rb HO459 hb; replace HO467 := rb HO467 hb; replace HO475 := sb HO475 hb; replace HO483 := sb HO483 hb; replace BK464 := kb BK464 hb; replace BK472 := kb BK472 hb; replace BK480 := kb BK480 hb; replace HB := bs HB hb; clear hb hbox hg; have hnb23 := NB488_464.1; have hnc23 := NB464_488.1; have hnb24 := NB488_472.1; have hnc24 := NB472_488.1; have hnb25 := NB488_480.1; have hnc25 := NB480_488.1; obtain ⟨hcz26_0, hcz26_1, hcz26_2, hcz26_3⟩ := cz BK488; obtain ⟨hfz26_0, hfz26_1, hfz26_2, hfz26_3⟩ := fz BK488)); go_upto_region 7 with (first | (go_at_call 8; (with_reducible refine (w_small.calls k _ _ l0 true _ ?side1 ?side2 A2.1).mono ?_); (case side1 => exact ck HR0); (case side2 => exact HC0.1); rintro e w' ⟨rfl, ⟨nd, rfl⟩⟩; (try first | exact ⟨rfl, _, World.drewN_drewN _ _ _⟩ | exact ⟨rfl, _, Eq.trans (World.drewN_drewN _ _ _) (congrArg (World.drewN _) (Nat.add_assoc _ _ _))⟩)) | (go_at_call 10; (with_reducible refine (m_Order.calls k _ _ l0 t457 t460 t461 t462 t463 _ ?side1 ?side2 A4.1).mono ?_); (case side1 => exact ck HR0); (case side2 => exact HC0.1); rintro e w9 ⟨v458, rfl, ho0, hb⟩; have HO459 := aM (R_lower ho0 (below_size (hh HB))); replace HB := bs HB hb) | ((with_reducible refine gate_dst (N := 4) rfl ?_); (try (refine gate_guard (by rfl) ?_; dsimp only)); refine be 4 rfl rfl #[.int .i64 0, .string (⟨#[]⟩ : ByteArray), .int .i64 0, .int .i64 0] 28 ?_; intro gb464 hg w10 hbox hb; have BK464 := aM hbox; have GE464 := gs hg HB; replace HO459 := rb HO459 hb; replace HB := bs HB hb; clear hb hbox hg; obtain ⟨hcz11_0, hcz11_1, hcz11_2, hcz11_3⟩ := cz BK464; obtain ⟨hfz11_0, hfz11_1, hfz11_2, hfz11_3⟩ := fz BK464) | (go_at_call 11; (with_reducible refine (r_Order.calls k _ _ l0 t465 t468 t469 t470 t471 _ ?side1 ?side2 A5.1).mono ?_); (case side1 => exact C_below HR0.1 (hh HB)); (case side2 => exact HC0.1); rintro e w12 ⟨v466, rfl, ho0, hb⟩; have HO467 := aM (R_lower (R_new' ho0 (R_lt (rz (rf4 HO459 BK464 (by decide))))) (below_size (hh HB))); replace HO459 := aM (R_elder' (rz (rf4 HO459 BK464 (by decide))) (R_base ho0) hb); replace BK464 := kg (o' := .cells #[.int .i64 t460, .string t461, .int .i64 t462, .int .i64 t463] 28 (0, 0)) BK464 hb; replace HB := bs HB hb) | ((with_reducible refine gate_dst (N := 6) rfl ?_); (try (refine gate_guard (by rfl) ?_; dsimp only)); refine be 6 rfl rfl #[.int .i64 0, .string (⟨#[]⟩ : ByteArray), .int .i64 0, .int .i64 0] 28 ?_; intro gb472 hg w13 hbox hb; have BK472 := aM hbox; have GE472 := gs hg HB; have NB464_472 := nl hg BK464; have NB472_464 := nr hg BK464; replace HO459 := rb HO459 hb; replace HO467 := rb HO467 hb; replace BK464 := kb BK464 hb; replace HB := bs HB hb; clear hb hbox hg; have hnb14 := NB472_464.1; have hnc14 := NB464_472.1; obtain ⟨hcz15_0, hcz15_1, hcz15_2, hcz15_3⟩ := cz BK472; obtain ⟨hfz15_0, hfz15_1, hfz15_2, hfz15_3⟩ := fz BK472) | (go_at_call 12; (with_reducible refine (m_Levels.calls k _ _ l0 t473 t476 t477 t478 t479 _ ?side1 ?side2 A6.1).mono ?_); (case side1 => exact C_below HR0.1 (hh HB)); (case side2 => exact HC0.1); rintro e w16 ⟨v474, rfl, ho0, hb⟩; have HO475 := aM (S_lower (S_new' (S_new' ho0 (R_lt (rz (rf4 HO459 BK472 (by decide))))) (R_lt (rz (rf4 HO467 BK472 (by decide))))) (below_size (hh HB))); replace HO459 := aM (R_below (rz (rf4 HO459 BK472 (by decide))) hb); replace HO467 := aM (R_below (rz (rf4 HO467 BK472 (by decide))) hb); replace BK464 := kg (o' := .cells #[.int .i64 t460, .string t461, .int .i64 t462, .int .i64 t463] 28 (0, 0)) BK464 hb; replace BK472 := kg (o' := .cells #[.int .i64 t468, .string t469, .int .i64 t470, .int .i64 t471] 28 (0, 0)) BK472 hb; replace HB := bs HB hb) | ((with_reducible refine gate_dst (N := 8) rfl ?_); (try (refine gate_guard (by rfl) ?_; dsimp only)); refine be 8 rfl rfl #[.int .i64 0, .string (⟨#[]⟩ : ByteArray), .int .i64 0, .int .i64 0] 28 ?_; intro gb480 hg w17 hbox hb; have BK480 := aM hbox; have GE480 := gs hg HB; have NB464_480 := nl hg BK464; have NB480_464 := nr hg BK464; have NB472_480 := nl hg BK472; have NB480_472 := nr hg BK472; replace HO459 := rb HO459 hb; replace HO467 := rb HO467 hb; replace HO475 := sb HO475 hb; replace BK464 := kb BK464 hb; replace BK472 := kb BK472 hb; replace HB := bs HB hb; clear hb hbox hg; have hnb18 := NB480_464.1; have hnc18 := NB464_480.1; have hnb19 := NB480_472.1; have hnc19 := NB472_480.1; obtain ⟨hcz20_0, hcz20_1, hcz20_2, hcz20_3⟩ := cz BK480; obtain ⟨hfz20_0, hfz20_1, hfz20_2, hfz20_3⟩ := fz BK480) | (go_at_call 13; (with_reducible refine (r_Levels.calls k _ _ l0 t481 t484 t485 t486 t487 _ ?side1 ?side2 A7.1).mono ?_); (case side1 => exact C_below HR0.1 (hh HB)); (case side2 => exact HC0.1); rintro e w21 ⟨v482, rfl, ho0, hb⟩; have HO483 := aM (S_lower (S_new' (S_new' (S_new' ho0 (R_lt (rz (rf4 HO459 BK480 (by decide))))) (R_lt (rz (rf4 HO467 BK480 (by decide))))) (S_lt (sz (sf4 HO475 BK480 (by decide))))) (below_size (hh HB))); replace HO459 := aM (R_below (rz (rf4 HO459 BK480 (by decide))) hb); replace HO467 := aM (R_below (rz (rf4 HO467 BK480 (by decide))) hb); replace HO475 := aM (S_elder' (sz (sf4 HO475 BK480 (by decide))) (S_base ho0) hb); replace BK464 := kg (o' := .cells #[.int .i64 t460, .string t461, .int .i64 t462, .int .i64 t463] 28 (0, 0)) BK464 hb; replace BK472 := kg (o' := .cells #[.int .i64 t468, .string t469, .int .i64 t470, .int .i64 t471] 28 (0, 0)) BK472 hb; replace BK480 := kg (o' := .cells #[.int .i64 t476, .string t477, .int .i64 t478, .int .i64 t479] 28 (0, 0)) BK480 hb; replace HB := bs HB hb) | ((with_reducible refine gate_dst (N := 10) rfl ?_); (try (refine gate_guard (by rfl) ?_; dsimp only)); refine be 10 rfl rfl #[.int .i64 0, .string (⟨#[]⟩ : ByteArray), .int .i64 0, .int .i64 0] 28 ?_; intro gb488 hg w22 hbox hb; have BK488 := aM hbox; have GE488 := gs hg HB; have NB464_488 := nl hg BK464; have NB488_464 := nr hg BK464; have NB472_488 := nl hg BK472; have NB488_472 := nr hg BK472; have NB480_488 := nl hg BK480; have NB488_480 := nr hg BK480; replace HO459 := rb HO459 hb; replace HO467 := rb HO467 hb; replace HO475 := sb HO475 hb; replace HO483 := sb HO483 hb; replace BK464 := kb BK464 hb; replace BK472 := kb BK472 hb; replace BK480 := kb BK480 hb; replace HB := bs HB hb; clear hb hbox hg; have hnb23 := NB488_464.1; have hnc23 := NB464_488.1; have hnb24 := NB488_472.1; have hnc24 := NB472_488.1; have hnb25 := NB488_480.1; have hnc25 := NB480_488.1; obtain ⟨hcz26_0, hcz26_1, hcz26_2, hcz26_3⟩ := cz BK488; obtain ⟨hfz26_0, hfz26_1, hfz26_2, hfz26_3⟩ := fz BK488)))
 (try simp only [Act.put, sA, sZ, sS])
 go_cut [56] (fun v56 wc => ∃ (kq : Nat) (x56_7 : Bool), v56 = .bool x56_7 /\ Az (w_ModgraphOrder.j0 kq t473 t481 x56_7 = some r) /\ Az (kq <= k) /\ Az (Kd.S (Kd.slice 9 Kd.string) 25 wc w.heap.size (fun k_ => some k_ ≠ (v482 : Value).ownBlock) v474 t473) /\ Az (Kd.S (Kd.slice 9 Kd.string) 25 wc w.heap.size (fun k_ => some k_ ≠ (v474 : Value).ownBlock) v482 t481) /\ Az (wc.heap[gb464]? = some (.cells #[.int .i64 t460, .string t461, .int .i64 t462, .int .i64 t463] 28 (0, 0))) /\ Az (wc.heap[gb472]? = some (.cells #[.int .i64 t468, .string t469, .int .i64 t470, .int .i64 t471] 28 (0, 0))) /\ Az (wc.heap[gb480]? = some (.cells #[.int .i64 t476, .string t477, .int .i64 t478, .int .i64 t479] 28 (0, 0))) /\ Az (wc.heap[gb488]? = some (.cells #[.int .i64 t484, .string t485, .int .i64 t486, .int .i64 t487] 28 (0, 0))) /\ Az (Below w.heap.size w wc))
 case first =>
  have H := HC8.1
  clear HC8
  replace H := Option.bind_eq_some_iff.mp H
  obtain ⟨t489, A270, H⟩ := H
  try dsimp only at H
  have A27 := aM A270
  clear A270
  by_cases c28 : t489 = true
  rotate_left
  · replace c28 := Bool.eq_false_iff.mpr c28
    subst c28
    rw [if_neg (show ¬ (false = true) by decide)] at H
    have H' := aM H
    clear H
    obtain ⟨Ao66, co66, eo66⟩ := R_slice HO459.1
    subst eo66
    obtain ⟨Ao67, co67, eo67⟩ := R_slice HO467.1
    subst eo67
    go_wp2_with (first | (go_at_call 14; (with_reducible refine (w_same.calls k _ _ t457 _ _ t465 false _ ?side1 ?side2 ?side3 ?side4 A27.1).mono ?_); (case side1 => exact c2 (rf4 HO459 BK488 (by decide))); (case side2 => exact (R_reads' HO459.1).2.1); (case side3 => exact c2 (rf4 HO467 BK488 (by decide))); (case side4 => exact (R_reads' HO467.1).2.1); rintro e w' ⟨rfl, ⟨nd, rfl⟩⟩; (try first | exact ⟨rfl, _, World.drewN_drewN _ _ _⟩ | exact ⟨rfl, _, Eq.trans (World.drewN_drewN _ _ _) (congrArg (World.drewN _) (Nat.add_assoc _ _ _))⟩)))
    repeat (go_quiet (first | (go_at_call 14; (with_reducible refine (w_same.calls k _ _ t457 _ _ t465 false _ ?side1 ?side2 ?side3 ?side4 A27.1).mono ?_); (case side1 => exact c2 (rf4 HO459 BK488 (by decide))); (case side2 => exact (R_reads' HO459.1).2.1); (case side3 => exact c2 (rf4 HO467 BK488 (by decide))); (case side4 => exact (R_reads' HO467.1).2.1); rintro e w' ⟨rfl, ⟨nd, rfl⟩⟩; (try first | exact ⟨rfl, _, World.drewN_drewN _ _ _⟩ | exact ⟨rfl, _, Eq.trans (World.drewN_drewN _ _ _) (congrArg (World.drewN _) (Nat.add_assoc _ _ _))⟩))); try go_wp2_with (first | (go_at_call 14; (with_reducible refine (w_same.calls k _ _ t457 _ _ t465 false _ ?side1 ?side2 ?side3 ?side4 A27.1).mono ?_); (case side1 => exact c2 (rf4 HO459 BK488 (by decide))); (case side2 => exact (R_reads' HO459.1).2.1); (case side3 => exact c2 (rf4 HO467 BK488 (by decide))); (case side4 => exact (R_reads' HO467.1).2.1); rintro e w' ⟨rfl, ⟨nd, rfl⟩⟩; (try first | exact ⟨rfl, _, World.drewN_drewN _ _ _⟩ | exact ⟨rfl, _, Eq.trans (World.drewN_drewN _ _ _) (congrArg (World.drewN _) (Nat.add_assoc _ _ _))⟩))))
    go_meet
    case rel => exact ⟨_, (true), rr, H', ⟨by first | omega | exact Nat.le_refl _⟩, ⟨sz (S_mono (S_far (p := ⟨gb488, 3, none⟩) (S_far (p := ⟨gb488, 2, none⟩) (S_far (p := ⟨gb488, 1, none⟩) (S_far (p := ⟨gb488, 0, none⟩) (S_types HO475.1 BK488.1 (by decide)) (fun _ hk => hk.2) (.int .i64 t484)) (fun _ hk => hk.2) (.string t485)) (fun _ hk => hk.2) (.int .i64 t486)) (fun _ hk => hk.2) (.int .i64 t487)) (fun _ hk => hk.1.2))⟩, ⟨sz (S_mono (S_far (p := ⟨gb488, 3, none⟩) (S_far (p := ⟨gb488, 2, none⟩) (S_far (p := ⟨gb488, 1, none⟩) (S_far (p := ⟨gb488, 0, none⟩) (S_types HO483.1 BK488.1 (by decide)) (fun _ hk => hk.2) (.int .i64 t484)) (fun _ hk => hk.2) (.string t485)) (fun _ hk => hk.2) (.int .i64 t486)) (fun _ hk => hk.2) (.int .i64 t487)) (fun _ hk => hk.1.2))⟩, ⟨kf BK464⟩, ⟨kf BK472⟩, ⟨kf BK480⟩, ⟨kf BK488⟩, ⟨hh HB⟩⟩
  subst c28
  rw [if_pos rfl] at H
  by_cases c29 : (!(t460 == t468) || (!(t461.toList == t469.toList) || (!(t462 == t470) || (!(t463 == t471))))) = true
  · rw [if_pos c29] at H
    have c29b0 : (!(t460 == t468) || (!(t461.toList == t469.toList) || (!(t462 == t470) || (!(t463 == t471))))) = true := c29
    clear c29
    (first | rw [c29b0] | (simp only [i64_w, i32_w]; rw [c29b0]) | skip)
    have H' := aM H
    clear H
    obtain ⟨Ao30, co30, eo30⟩ := R_slice HO459.1
    subst eo30
    obtain ⟨Ao31, co31, eo31⟩ := R_slice HO467.1
    subst eo31
    go_wp2_with (first | (go_at_call 14; (with_reducible refine (w_same.calls k _ _ t457 _ _ t465 true _ ?side1 ?side2 ?side3 ?side4 A27.1).mono ?_); (case side1 => exact c2 (rf4 HO459 BK488 (by decide))); (case side2 => exact (R_reads' HO459.1).2.1); (case side3 => exact c2 (rf4 HO467 BK488 (by decide))); (case side4 => exact (R_reads' HO467.1).2.1); rintro e w' ⟨rfl, ⟨nd, rfl⟩⟩; (try first | exact ⟨rfl, _, World.drewN_drewN _ _ _⟩ | exact ⟨rfl, _, Eq.trans (World.drewN_drewN _ _ _) (congrArg (World.drewN _) (Nat.add_assoc _ _ _))⟩); have hnb32 := NB464_472.1; have hnc32 := NB472_464.1; have hnb33 := NB464_480.1; have hnc33 := NB480_464.1; have hnb34 := NB464_488.1; have hnc34 := NB488_464.1; obtain ⟨hcz35_0, hcz35_1, hcz35_2, hcz35_3⟩ := cz BK464; obtain ⟨hfz35_0, hfz35_1, hfz35_2, hfz35_3⟩ := fz BK464; have hnb36 := NB472_480.1; have hnc36 := NB480_472.1; have hnb37 := NB472_488.1; have hnc37 := NB488_472.1; obtain ⟨hcz38_0, hcz38_1, hcz38_2, hcz38_3⟩ := cz BK472; obtain ⟨hfz38_0, hfz38_1, hfz38_2, hfz38_3⟩ := fz BK472))
    repeat (go_quiet (first | (go_at_call 14; (with_reducible refine (w_same.calls k _ _ t457 _ _ t465 true _ ?side1 ?side2 ?side3 ?side4 A27.1).mono ?_); (case side1 => exact c2 (rf4 HO459 BK488 (by decide))); (case side2 => exact (R_reads' HO459.1).2.1); (case side3 => exact c2 (rf4 HO467 BK488 (by decide))); (case side4 => exact (R_reads' HO467.1).2.1); rintro e w' ⟨rfl, ⟨nd, rfl⟩⟩; (try first | exact ⟨rfl, _, World.drewN_drewN _ _ _⟩ | exact ⟨rfl, _, Eq.trans (World.drewN_drewN _ _ _) (congrArg (World.drewN _) (Nat.add_assoc _ _ _))⟩); have hnb32 := NB464_472.1; have hnc32 := NB472_464.1; have hnb33 := NB464_480.1; have hnc33 := NB480_464.1; have hnb34 := NB464_488.1; have hnc34 := NB488_464.1; obtain ⟨hcz35_0, hcz35_1, hcz35_2, hcz35_3⟩ := cz BK464; obtain ⟨hfz35_0, hfz35_1, hfz35_2, hfz35_3⟩ := fz BK464; have hnb36 := NB472_480.1; have hnc36 := NB480_472.1; have hnb37 := NB472_488.1; have hnc37 := NB488_472.1; obtain ⟨hcz38_0, hcz38_1, hcz38_2, hcz38_3⟩ := cz BK472; obtain ⟨hfz38_0, hfz38_1, hfz38_2, hfz38_3⟩ := fz BK472)); try go_wp2_with (first | (go_at_call 14; (with_reducible refine (w_same.calls k _ _ t457 _ _ t465 true _ ?side1 ?side2 ?side3 ?side4 A27.1).mono ?_); (case side1 => exact c2 (rf4 HO459 BK488 (by decide))); (case side2 => exact (R_reads' HO459.1).2.1); (case side3 => exact c2 (rf4 HO467 BK488 (by decide))); (case side4 => exact (R_reads' HO467.1).2.1); rintro e w' ⟨rfl, ⟨nd, rfl⟩⟩; (try first | exact ⟨rfl, _, World.drewN_drewN _ _ _⟩ | exact ⟨rfl, _, Eq.trans (World.drewN_drewN _ _ _) (congrArg (World.drewN _) (Nat.add_assoc _ _ _))⟩); have hnb32 := NB464_472.1; have hnc32 := NB472_464.1; have hnb33 := NB464_480.1; have hnc33 := NB480_464.1; have hnb34 := NB464_488.1; have hnc34 := NB488_464.1; obtain ⟨hcz35_0, hcz35_1, hcz35_2, hcz35_3⟩ := cz BK464; obtain ⟨hfz35_0, hfz35_1, hfz35_2, hfz35_3⟩ := fz BK464; have hnb36 := NB472_480.1; have hnc36 := NB480_472.1; have hnb37 := NB472_488.1; have hnc37 := NB488_472.1; obtain ⟨hcz38_0, hcz38_1, hcz38_2, hcz38_3⟩ := cz BK472; obtain ⟨hfz38_0, hfz38_1, hfz38_2, hfz38_3⟩ := fz BK472)))
    go_meet
    case rel => exact ⟨_, (true), rr, H', ⟨by first | omega | exact Nat.le_refl _⟩, ⟨sz (S_mono (S_far (p := ⟨gb488, 3, none⟩) (S_far (p := ⟨gb488, 2, none⟩) (S_far (p := ⟨gb488, 1, none⟩) (S_far (p := ⟨gb488, 0, none⟩) (S_types HO475.1 BK488.1 (by decide)) (fun _ hk => hk.2) (.int .i64 t484)) (fun _ hk => hk.2) (.string t485)) (fun _ hk => hk.2) (.int .i64 t486)) (fun _ hk => hk.2) (.int .i64 t487)) (fun _ hk => hk.1.2))⟩, ⟨sz (S_mono (S_far (p := ⟨gb488, 3, none⟩) (S_far (p := ⟨gb488, 2, none⟩) (S_far (p := ⟨gb488, 1, none⟩) (S_far (p := ⟨gb488, 0, none⟩) (S_types HO483.1 BK488.1 (by decide)) (fun _ hk => hk.2) (.int .i64 t484)) (fun _ hk => hk.2) (.string t485)) (fun _ hk => hk.2) (.int .i64 t486)) (fun _ hk => hk.2) (.int .i64 t487)) (fun _ hk => hk.1.2))⟩, ⟨kf BK464⟩, ⟨kf BK472⟩, ⟨kf BK480⟩, ⟨kf BK488⟩, ⟨hh HB⟩⟩
  rw [if_neg c29] at H
  have c29b0 : (!(t460 == t468) || (!(t461.toList == t469.toList) || (!(t462 == t470) || (!(t463 == t471))))) = false := by simpa using c29
  clear c29
  (first | rw [c29b0] | (simp only [i64_w, i32_w]; rw [c29b0]) | skip)
  by_cases c39 : (!(t476 == t484) || (!(t477.toList == t485.toList) || (!(t478 == t486) || (!(t479 == t487))))) = true
  · rw [if_pos c39] at H
    have c39b0 : (!(t476 == t484) || (!(t477.toList == t485.toList) || (!(t478 == t486) || (!(t479 == t487))))) = true := c39
    clear c39
    have H' := aM H
    clear H
    obtain ⟨Ao40, co40, eo40⟩ := R_slice HO459.1
    subst eo40
    obtain ⟨Ao41, co41, eo41⟩ := R_slice HO467.1
    subst eo41
    go_wp2_with (first | (go_at_call 14; (with_reducible refine (w_same.calls k _ _ t457 _ _ t465 true _ ?side1 ?side2 ?side3 ?side4 A27.1).mono ?_); (case side1 => exact c2 (rf4 HO459 BK488 (by decide))); (case side2 => exact (R_reads' HO459.1).2.1); (case side3 => exact c2 (rf4 HO467 BK488 (by decide))); (case side4 => exact (R_reads' HO467.1).2.1); rintro e w' ⟨rfl, ⟨nd, rfl⟩⟩; (try first | exact ⟨rfl, _, World.drewN_drewN _ _ _⟩ | exact ⟨rfl, _, Eq.trans (World.drewN_drewN _ _ _) (congrArg (World.drewN _) (Nat.add_assoc _ _ _))⟩); have hnb42 := NB464_472.1; have hnc42 := NB472_464.1; have hnb43 := NB464_480.1; have hnc43 := NB480_464.1; have hnb44 := NB464_488.1; have hnc44 := NB488_464.1; obtain ⟨hcz45_0, hcz45_1, hcz45_2, hcz45_3⟩ := cz BK464; obtain ⟨hfz45_0, hfz45_1, hfz45_2, hfz45_3⟩ := fz BK464; have hnb46 := NB472_480.1; have hnc46 := NB480_472.1; have hnb47 := NB472_488.1; have hnc47 := NB488_472.1; obtain ⟨hcz48_0, hcz48_1, hcz48_2, hcz48_3⟩ := cz BK472; obtain ⟨hfz48_0, hfz48_1, hfz48_2, hfz48_3⟩ := fz BK472; have hnb49 := NB480_488.1; have hnc49 := NB488_480.1; obtain ⟨hcz50_0, hcz50_1, hcz50_2, hcz50_3⟩ := cz BK480; obtain ⟨hfz50_0, hfz50_1, hfz50_2, hfz50_3⟩ := fz BK480; obtain ⟨hcz51_0, hcz51_1, hcz51_2, hcz51_3⟩ := cz BK488; obtain ⟨hfz51_0, hfz51_1, hfz51_2, hfz51_3⟩ := fz BK488))
    repeat (go_quiet (first | (go_at_call 14; (with_reducible refine (w_same.calls k _ _ t457 _ _ t465 true _ ?side1 ?side2 ?side3 ?side4 A27.1).mono ?_); (case side1 => exact c2 (rf4 HO459 BK488 (by decide))); (case side2 => exact (R_reads' HO459.1).2.1); (case side3 => exact c2 (rf4 HO467 BK488 (by decide))); (case side4 => exact (R_reads' HO467.1).2.1); rintro e w' ⟨rfl, ⟨nd, rfl⟩⟩; (try first | exact ⟨rfl, _, World.drewN_drewN _ _ _⟩ | exact ⟨rfl, _, Eq.trans (World.drewN_drewN _ _ _) (congrArg (World.drewN _) (Nat.add_assoc _ _ _))⟩); have hnb42 := NB464_472.1; have hnc42 := NB472_464.1; have hnb43 := NB464_480.1; have hnc43 := NB480_464.1; have hnb44 := NB464_488.1; have hnc44 := NB488_464.1; obtain ⟨hcz45_0, hcz45_1, hcz45_2, hcz45_3⟩ := cz BK464; obtain ⟨hfz45_0, hfz45_1, hfz45_2, hfz45_3⟩ := fz BK464; have hnb46 := NB472_480.1; have hnc46 := NB480_472.1; have hnb47 := NB472_488.1; have hnc47 := NB488_472.1; obtain ⟨hcz48_0, hcz48_1, hcz48_2, hcz48_3⟩ := cz BK472; obtain ⟨hfz48_0, hfz48_1, hfz48_2, hfz48_3⟩ := fz BK472; have hnb49 := NB480_488.1; have hnc49 := NB488_480.1; obtain ⟨hcz50_0, hcz50_1, hcz50_2, hcz50_3⟩ := cz BK480; obtain ⟨hfz50_0, hfz50_1, hfz50_2, hfz50_3⟩ := fz BK480; obtain ⟨hcz51_0, hcz51_1, hcz51_2, hcz51_3⟩ := cz BK488; obtain ⟨hfz51_0, hfz51_1, hfz51_2, hfz51_3⟩ := fz BK488)); try go_wp2_with (first | (go_at_call 14; (with_reducible refine (w_same.calls k _ _ t457 _ _ t465 true _ ?side1 ?side2 ?side3 ?side4 A27.1).mono ?_); (case side1 => exact c2 (rf4 HO459 BK488 (by decide))); (case side2 => exact (R_reads' HO459.1).2.1); (case side3 => exact c2 (rf4 HO467 BK488 (by decide))); (case side4 => exact (R_reads' HO467.1).2.1); rintro e w' ⟨rfl, ⟨nd, rfl⟩⟩; (try first | exact ⟨rfl, _, World.drewN_drewN _ _ _⟩ | exact ⟨rfl, _, Eq.trans (World.drewN_drewN _ _ _) (congrArg (World.drewN _) (Nat.add_assoc _ _ _))⟩); have hnb42 := NB464_472.1; have hnc42 := NB472_464.1; have hnb43 := NB464_480.1; have hnc43 := NB480_464.1; have hnb44 := NB464_488.1; have hnc44 := NB488_464.1; obtain ⟨hcz45_0, hcz45_1, hcz45_2, hcz45_3⟩ := cz BK464; obtain ⟨hfz45_0, hfz45_1, hfz45_2, hfz45_3⟩ := fz BK464; have hnb46 := NB472_480.1; have hnc46 := NB480_472.1; have hnb47 := NB472_488.1; have hnc47 := NB488_472.1; obtain ⟨hcz48_0, hcz48_1, hcz48_2, hcz48_3⟩ := cz BK472; obtain ⟨hfz48_0, hfz48_1, hfz48_2, hfz48_3⟩ := fz BK472; have hnb49 := NB480_488.1; have hnc49 := NB488_480.1; obtain ⟨hcz50_0, hcz50_1, hcz50_2, hcz50_3⟩ := cz BK480; obtain ⟨hfz50_0, hfz50_1, hfz50_2, hfz50_3⟩ := fz BK480; obtain ⟨hcz51_0, hcz51_1, hcz51_2, hcz51_3⟩ := cz BK488; obtain ⟨hfz51_0, hfz51_1, hfz51_2, hfz51_3⟩ := fz BK488)))
    go_meet
    case rel => exact ⟨_, (true), rr, H', ⟨by first | omega | exact Nat.le_refl _⟩, ⟨sz (S_mono (S_far (p := ⟨gb488, 3, none⟩) (S_far (p := ⟨gb488, 2, none⟩) (S_far (p := ⟨gb488, 1, none⟩) (S_far (p := ⟨gb488, 0, none⟩) (S_types HO475.1 BK488.1 (by decide)) (fun _ hk => hk.2) (.int .i64 t484)) (fun _ hk => hk.2) (.string t485)) (fun _ hk => hk.2) (.int .i64 t486)) (fun _ hk => hk.2) (.int .i64 t487)) (fun _ hk => hk.1.2))⟩, ⟨sz (S_mono (S_far (p := ⟨gb488, 3, none⟩) (S_far (p := ⟨gb488, 2, none⟩) (S_far (p := ⟨gb488, 1, none⟩) (S_far (p := ⟨gb488, 0, none⟩) (S_types HO483.1 BK488.1 (by decide)) (fun _ hk => hk.2) (.int .i64 t484)) (fun _ hk => hk.2) (.string t485)) (fun _ hk => hk.2) (.int .i64 t486)) (fun _ hk => hk.2) (.int .i64 t487)) (fun _ hk => hk.1.2))⟩, ⟨kf BK464⟩, ⟨kf BK472⟩, ⟨kf BK480⟩, ⟨kf BK488⟩, ⟨hh HB⟩⟩
  rw [if_neg c39] at H
  have c39b0 : (!(t476 == t484) || (!(t477.toList == t485.toList) || (!(t478 == t486) || (!(t479 == t487))))) = false := by simpa using c39
  clear c39
  have H' := aM H
  clear H
  obtain ⟨Ao52, co52, eo52⟩ := R_slice HO459.1
  subst eo52
  obtain ⟨Ao53, co53, eo53⟩ := R_slice HO467.1
  subst eo53
  go_wp2_with (first | (go_at_call 14; (with_reducible refine (w_same.calls k _ _ t457 _ _ t465 true _ ?side1 ?side2 ?side3 ?side4 A27.1).mono ?_); (case side1 => exact c2 (rf4 HO459 BK488 (by decide))); (case side2 => exact (R_reads' HO459.1).2.1); (case side3 => exact c2 (rf4 HO467 BK488 (by decide))); (case side4 => exact (R_reads' HO467.1).2.1); rintro e w' ⟨rfl, ⟨nd, rfl⟩⟩; (try first | exact ⟨rfl, _, World.drewN_drewN _ _ _⟩ | exact ⟨rfl, _, Eq.trans (World.drewN_drewN _ _ _) (congrArg (World.drewN _) (Nat.add_assoc _ _ _))⟩); have hnb54 := NB464_472.1; have hnc54 := NB472_464.1; have hnb55 := NB464_480.1; have hnc55 := NB480_464.1; have hnb56 := NB464_488.1; have hnc56 := NB488_464.1; obtain ⟨hcz57_0, hcz57_1, hcz57_2, hcz57_3⟩ := cz BK464; obtain ⟨hfz57_0, hfz57_1, hfz57_2, hfz57_3⟩ := fz BK464; have hnb58 := NB472_480.1; have hnc58 := NB480_472.1; have hnb59 := NB472_488.1; have hnc59 := NB488_472.1; obtain ⟨hcz60_0, hcz60_1, hcz60_2, hcz60_3⟩ := cz BK472; obtain ⟨hfz60_0, hfz60_1, hfz60_2, hfz60_3⟩ := fz BK472; have hnb61 := NB480_488.1; have hnc61 := NB488_480.1; obtain ⟨hcz62_0, hcz62_1, hcz62_2, hcz62_3⟩ := cz BK480; obtain ⟨hfz62_0, hfz62_1, hfz62_2, hfz62_3⟩ := fz BK480; obtain ⟨hcz63_0, hcz63_1, hcz63_2, hcz63_3⟩ := cz BK488; obtain ⟨hfz63_0, hfz63_1, hfz63_2, hfz63_3⟩ := fz BK488; obtain ⟨Ao64, co64, eo64⟩ := S_slice HO475.1; subst eo64; obtain ⟨Ao65, co65, eo65⟩ := S_slice HO483.1; subst eo65))
  repeat (go_quiet (first | (go_at_call 14; (with_reducible refine (w_same.calls k _ _ t457 _ _ t465 true _ ?side1 ?side2 ?side3 ?side4 A27.1).mono ?_); (case side1 => exact c2 (rf4 HO459 BK488 (by decide))); (case side2 => exact (R_reads' HO459.1).2.1); (case side3 => exact c2 (rf4 HO467 BK488 (by decide))); (case side4 => exact (R_reads' HO467.1).2.1); rintro e w' ⟨rfl, ⟨nd, rfl⟩⟩; (try first | exact ⟨rfl, _, World.drewN_drewN _ _ _⟩ | exact ⟨rfl, _, Eq.trans (World.drewN_drewN _ _ _) (congrArg (World.drewN _) (Nat.add_assoc _ _ _))⟩); have hnb54 := NB464_472.1; have hnc54 := NB472_464.1; have hnb55 := NB464_480.1; have hnc55 := NB480_464.1; have hnb56 := NB464_488.1; have hnc56 := NB488_464.1; obtain ⟨hcz57_0, hcz57_1, hcz57_2, hcz57_3⟩ := cz BK464; obtain ⟨hfz57_0, hfz57_1, hfz57_2, hfz57_3⟩ := fz BK464; have hnb58 := NB472_480.1; have hnc58 := NB480_472.1; have hnb59 := NB472_488.1; have hnc59 := NB488_472.1; obtain ⟨hcz60_0, hcz60_1, hcz60_2, hcz60_3⟩ := cz BK472; obtain ⟨hfz60_0, hfz60_1, hfz60_2, hfz60_3⟩ := fz BK472; have hnb61 := NB480_488.1; have hnc61 := NB488_480.1; obtain ⟨hcz62_0, hcz62_1, hcz62_2, hcz62_3⟩ := cz BK480; obtain ⟨hfz62_0, hfz62_1, hfz62_2, hfz62_3⟩ := fz BK480; obtain ⟨hcz63_0, hcz63_1, hcz63_2, hcz63_3⟩ := cz BK488; obtain ⟨hfz63_0, hfz63_1, hfz63_2, hfz63_3⟩ := fz BK488; obtain ⟨Ao64, co64, eo64⟩ := S_slice HO475.1; subst eo64; obtain ⟨Ao65, co65, eo65⟩ := S_slice HO483.1; subst eo65)); try go_wp2_with (first | (go_at_call 14; (with_reducible refine (w_same.calls k _ _ t457 _ _ t465 true _ ?side1 ?side2 ?side3 ?side4 A27.1).mono ?_); (case side1 => exact c2 (rf4 HO459 BK488 (by decide))); (case side2 => exact (R_reads' HO459.1).2.1); (case side3 => exact c2 (rf4 HO467 BK488 (by decide))); (case side4 => exact (R_reads' HO467.1).2.1); rintro e w' ⟨rfl, ⟨nd, rfl⟩⟩; (try first | exact ⟨rfl, _, World.drewN_drewN _ _ _⟩ | exact ⟨rfl, _, Eq.trans (World.drewN_drewN _ _ _) (congrArg (World.drewN _) (Nat.add_assoc _ _ _))⟩); have hnb54 := NB464_472.1; have hnc54 := NB472_464.1; have hnb55 := NB464_480.1; have hnc55 := NB480_464.1; have hnb56 := NB464_488.1; have hnc56 := NB488_464.1; obtain ⟨hcz57_0, hcz57_1, hcz57_2, hcz57_3⟩ := cz BK464; obtain ⟨hfz57_0, hfz57_1, hfz57_2, hfz57_3⟩ := fz BK464; have hnb58 := NB472_480.1; have hnc58 := NB480_472.1; have hnb59 := NB472_488.1; have hnc59 := NB488_472.1; obtain ⟨hcz60_0, hcz60_1, hcz60_2, hcz60_3⟩ := cz BK472; obtain ⟨hfz60_0, hfz60_1, hfz60_2, hfz60_3⟩ := fz BK472; have hnb61 := NB480_488.1; have hnc61 := NB488_480.1; obtain ⟨hcz62_0, hcz62_1, hcz62_2, hcz62_3⟩ := cz BK480; obtain ⟨hfz62_0, hfz62_1, hfz62_2, hfz62_3⟩ := fz BK480; obtain ⟨hcz63_0, hcz63_1, hcz63_2, hcz63_3⟩ := cz BK488; obtain ⟨hfz63_0, hfz63_1, hfz63_2, hfz63_3⟩ := fz BK488; obtain ⟨Ao64, co64, eo64⟩ := S_slice HO475.1; subst eo64; obtain ⟨Ao65, co65, eo65⟩ := S_slice HO483.1; subst eo65)))
  go_meet
  case rel => exact ⟨_, (((t473.length : Int) != (t481.length : Int))), rr, H', ⟨by first | omega | exact Nat.le_refl _⟩, ⟨sz (S_mono (S_far (p := ⟨gb488, 3, none⟩) (S_far (p := ⟨gb488, 2, none⟩) (S_far (p := ⟨gb488, 1, none⟩) (S_far (p := ⟨gb488, 0, none⟩) (S_types HO475.1 BK488.1 (by decide)) (fun _ hk => hk.2) (.int .i64 t484)) (fun _ hk => hk.2) (.string t485)) (fun _ hk => hk.2) (.int .i64 t486)) (fun _ hk => hk.2) (.int .i64 t487)) (fun _ hk => hk.1.2))⟩, ⟨sz (S_mono (S_far (p := ⟨gb488, 3, none⟩) (S_far (p := ⟨gb488, 2, none⟩) (S_far (p := ⟨gb488, 1, none⟩) (S_far (p := ⟨gb488, 0, none⟩) (S_types HO483.1 BK488.1 (by decide)) (fun _ hk => hk.2) (.int .i64 t484)) (fun _ hk => hk.2) (.string t485)) (fun _ hk => hk.2) (.int .i64 t486)) (fun _ hk => hk.2) (.int .i64 t487)) (fun _ hk => hk.1.2))⟩, ⟨kf BK464⟩, ⟨kf BK472⟩, ⟨kf BK480⟩, ⟨kf BK488⟩, ⟨hh HB⟩⟩
 case rest =>
  clear HC8
  clear hcz11_0 hcz11_1 hcz11_2 hcz11_3 hcz15_0 hcz15_1 hcz15_2 hcz15_3 hcz20_0 hcz20_1 hcz20_2 hcz20_3 hcz26_0 hcz26_1 hcz26_2 hcz26_3 hfz11_0 hfz11_1 hfz11_2 hfz11_3 hfz15_0 hfz15_1 hfz15_2 hfz15_3 hfz20_0 hfz20_1 hfz20_2 hfz20_3 hfz26_0 hfz26_1 hfz26_2 hfz26_3
  obtain ⟨kq, x56_7, rfl, HA, HJ7, HO_7, HO_9, BK464, BK472, BK480, BK488, HB⟩ := hcut
  cases kq with
  | zero => exact absurd HA.1 (by simp [w_ModgraphOrder.j0])
  | succ kj7 =>
   have H := HA.1
   clear HA
   simp only [w_ModgraphOrder.j0] at H
   by_cases c68 : x56_7 = true
   · subst c68
     rw [if_pos rfl] at H
     obtain rfl := Option.some.inj H
     go_wp2
     repeat (go_quiet (fail); try go_wp2)
     go_ret
     exact ⟨by first | rfl | (simp [errW_none, errW_some] <;> rfl) | (simp [*, errW_none, errW_some] <;> rfl), hh HB⟩
   replace c68 := Bool.eq_false_iff.mpr c68
   subst c68
   rw [if_neg (show ¬ (false = true) by decide)] at H
   have H' := aM H
   clear H
   go_wp2
   repeat (go_quiet (fail); try go_wp2)
   go_loopg [11] kj7 (fun kq v11 w' => ∃ (x11_2 : Int), v11 = .int .i64 x11_2 /\ Az (w_ModgraphOrder.l0 kq t473 t481 x11_2 = some r) /\ Az (kq <= kj7) /\ Az (Kd.S (Kd.slice 9 Kd.string) 25 w' w.heap.size (fun k_ => some k_ ≠ (v482 : Value).ownBlock) v474 t473) /\ Az (Kd.S (Kd.slice 9 Kd.string) 25 w' w.heap.size (fun k_ => some k_ ≠ (v474 : Value).ownBlock) v482 t481) /\ Az (w'.heap[gb464]? = some (.cells #[.int .i64 t460, .string t461, .int .i64 t462, .int .i64 t463] 28 (0, 0))) /\ Az (w'.heap[gb472]? = some (.cells #[.int .i64 t468, .string t469, .int .i64 t470, .int .i64 t471] 28 (0, 0))) /\ Az (w'.heap[gb480]? = some (.cells #[.int .i64 t476, .string t477, .int .i64 t478, .int .i64 t479] 28 (0, 0))) /\ Az (w'.heap[gb488]? = some (.cells #[.int .i64 t484, .string t485, .int .i64 t486, .int .i64 t487] 28 (0, 0))) /\ Az (Below w.heap.size w w'))
   case atStart => exact ⟨(0), rr, H', ⟨Nat.le_refl _⟩, ⟨sk HO_7⟩, ⟨sk HO_9⟩, ⟨kk BK464⟩, ⟨kk BK472⟩, ⟨kk BK480⟩, ⟨kk BK488⟩, ⟨hh HB⟩⟩
   case round =>
    clear H'
    obtain ⟨x11_2, rfl, HA, HK2, HO_7, HO_9, BK464, BK472, BK480, BK488, HB⟩ := hrel
    cases gk with
    | zero => exact absurd HA.1 (by simp [w_ModgraphOrder.l0])
    | succ k2 =>
     have H := HA.1
     clear HA
     simp only [w_ModgraphOrder.l0] at H
     by_cases c69 : x11_2 < (t473.length : Int)
     rotate_left
     · rw [if_neg c69] at H
       have c69b0 : decide (x11_2 < (t473.length : Int)) = false := decide_eq_false c69
       clear c69
       replace H := Option.bind_eq_some_iff.mp H
       obtain ⟨t493, A780, H⟩ := H
       try dsimp only at H
       have A78 := aM A780
       clear A780
       obtain rfl := Option.some.inj H
       obtain ⟨Ao79, co79, eo79⟩ := S_slice HO_7.1
       subst eo79
       go_wp2_with (first | (go_at_call 9; (with_reducible refine (w_awake.calls  t493 _ A78.1).mono ?_); rintro e w80 ⟨rfl, hb⟩; replace HO_7 := sb HO_7 hb; replace HO_9 := sb HO_9 hb; replace BK464 := kb BK464 hb; replace BK472 := kb BK472 hb; replace BK480 := kb BK480 hb; replace BK488 := kb BK488 hb; replace HB := bs HB hb; clear hb))
       repeat (go_quiet (first | (go_at_call 9; (with_reducible refine (w_awake.calls  t493 _ A78.1).mono ?_); rintro e w80 ⟨rfl, hb⟩; replace HO_7 := sb HO_7 hb; replace HO_9 := sb HO_9 hb; replace BK464 := kb BK464 hb; replace BK472 := kb BK472 hb; replace BK480 := kb BK480 hb; replace BK488 := kb BK488 hb; replace HB := bs HB hb)); try go_wp2_with (first | (go_at_call 9; (with_reducible refine (w_awake.calls  t493 _ A78.1).mono ?_); rintro e w80 ⟨rfl, hb⟩; replace HO_7 := sb HO_7 hb; replace HO_9 := sb HO_9 hb; replace BK464 := kb BK464 hb; replace BK472 := kb BK472 hb; replace BK480 := kb BK480 hb; replace BK488 := kb BK488 hb; replace HB := bs HB hb)))
       go_ret
       exact ⟨by first | rfl | (simp [errW_none, errW_some] <;> rfl) | (simp [*, errW_none, errW_some] <;> rfl), hh HB⟩
     rw [if_pos c69] at H
     have c69b0 : decide (x11_2 < (t473.length : Int)) = true := decide_eq_true c69
     clear c69
     by_cases c70 : 0 <= x11_2
     rotate_left
     · rw [if_neg c70] at H
       exact absurd H (by simp)
     rw [if_pos c70] at H
     have c70b0 : decide (0 <= x11_2) = true := decide_eq_true c70
     clear c70
     by_cases c71 : x11_2 < (t481.length : Int)
     rotate_left
     · rw [if_neg c71] at H
       exact absurd H (by simp)
     rw [if_pos c71] at H
     have c71b0 : decide (x11_2 < (t481.length : Int)) = true := decide_eq_true c71
     clear c71
     replace H := Option.bind_eq_some_iff.mp H
     obtain ⟨t492, A720, H⟩ := H
     try dsimp only at H
     have A72 := aM A720
     clear A720
     by_cases c73 : t492 = true
     rotate_left
     · replace c73 := Bool.eq_false_iff.mpr c73
       subst c73
       rw [if_neg (show ¬ (false = true) by decide)] at H
       obtain rfl := Option.some.inj H
       obtain ⟨Ao76, co76, eo76⟩ := S_slice HO_7.1
       subst eo76
       have p490 : 0 <= (x11_2 : Int) := dt
       have q490 : x11_2 < (t473.length : Int) := dt
       obtain ⟨ad490, A490_0, c490_0, e490, hx490_0, hl490_0, hi490_0⟩ := at_L2 (S_reads' HO_7.1).2.2 x11_2 p490 q490
       cases e490
       obtain ⟨ce490, hce490, hMe490, hcc490⟩ := S_get HO_7.1 [] x11_2 p490 (by first | exact q490 | exact dt | (have e_ := (S_reads' HO_7.1).1; omega))
       obtain ⟨ve490_0, rfl, ge490_0⟩ := hMe490
       have hv490_0 := hcc490 0 _ rfl
       rw [Nat.add_zero, show ((Kd.slice 9 Kd.string)).sz = 1 from rfl, Nat.mul_one] at hv490_0
       replace hv490_0 := Option.some.inj (hv490_0.symm.trans hx490_0)
       rw [hv490_0] at ge490_0
       have HL490_0 := aM (show Kd.R Kd.string 9 _ _ _ _ (rd_L2 t473 x11_2) from ge490_0)
       clear hv490_0 ge490_0
       clear hcc490 hce490
       have HR490_0 := aM hi490_0
       have HC490_0 := aM hl490_0
       clear hi490_0 hl490_0
       replace p490 := eq_true p490
       replace q490 := eq_true q490
       obtain ⟨Ao77, co77, eo77⟩ := S_slice HO_9.1
       subst eo77
       have p491 : 0 <= (x11_2 : Int) := dt
       have q491 : x11_2 < (t481.length : Int) := dt
       obtain ⟨ad491, A491_0, c491_0, e491, hx491_0, hl491_0, hi491_0⟩ := at_L2 (S_reads' HO_9.1).2.2 x11_2 p491 q491
       cases e491
       obtain ⟨ce491, hce491, hMe491, hcc491⟩ := S_get HO_9.1 [] x11_2 p491 (by first | exact q491 | exact dt | (have e_ := (S_reads' HO_9.1).1; omega))
       obtain ⟨ve491_0, rfl, ge491_0⟩ := hMe491
       have hv491_0 := hcc491 0 _ rfl
       rw [Nat.add_zero, show ((Kd.slice 9 Kd.string)).sz = 1 from rfl, Nat.mul_one] at hv491_0
       replace hv491_0 := Option.some.inj (hv491_0.symm.trans hx491_0)
       rw [hv491_0] at ge491_0
       have HL491_0 := aM (show Kd.R Kd.string 9 _ _ _ _ (rd_L2 t481 x11_2) from ge491_0)
       clear hv491_0 ge491_0
       clear hcc491 hce491
       have HR491_0 := aM hi491_0
       have HC491_0 := aM hl491_0
       clear hi491_0 hl491_0
       replace p491 := eq_true p491
       replace q491 := eq_true q491
       go_wp2_with (first | (go_at_call 14; (with_reducible refine (w_same.calls k2 _ _ (rd_L2 t473 x11_2) _ _ (rd_L2 t481 x11_2) false _ ?side1 ?side2 ?side3 ?side4 A72.1).mono ?_); (case side1 => repeat (first | exact (by repeat (first | (with_reducible exact HR490_0.1) | (with_reducible refine C_alloc ?_ _) | (with_reducible refine C_drewN ?_ _) | (with_reducible refine C_drew ?_) | exact HR490_0.1)) | (with_reducible refine C_alloc ?_ _) | (with_reducible refine C_drewN ?_ _) | (with_reducible refine C_drew ?_))); (case side2 => exact HC490_0.1); (case side3 => repeat (first | exact (by repeat (first | (with_reducible exact HR491_0.1) | (with_reducible refine C_alloc ?_ _) | (with_reducible refine C_drewN ?_ _) | (with_reducible refine C_drew ?_) | exact HR491_0.1)) | (with_reducible refine C_alloc ?_ _) | (with_reducible refine C_drewN ?_ _) | (with_reducible refine C_drew ?_))); (case side4 => exact HC491_0.1); rintro e w' ⟨rfl, ⟨nd, rfl⟩⟩; (try first | exact ⟨rfl, _, World.drewN_drewN _ _ _⟩ | exact ⟨rfl, _, Eq.trans (World.drewN_drewN _ _ _) (congrArg (World.drewN _) (Nat.add_assoc _ _ _))⟩)))
       repeat (go_quiet (first | (go_at_call 14; (with_reducible refine (w_same.calls k2 _ _ (rd_L2 t473 x11_2) _ _ (rd_L2 t481 x11_2) false _ ?side1 ?side2 ?side3 ?side4 A72.1).mono ?_); (case side1 => repeat (first | exact (by repeat (first | (with_reducible exact HR490_0.1) | (with_reducible refine C_alloc ?_ _) | (with_reducible refine C_drewN ?_ _) | (with_reducible refine C_drew ?_) | exact HR490_0.1)) | (with_reducible refine C_alloc ?_ _) | (with_reducible refine C_drewN ?_ _) | (with_reducible refine C_drew ?_))); (case side2 => exact HC490_0.1); (case side3 => repeat (first | exact (by repeat (first | (with_reducible exact HR491_0.1) | (with_reducible refine C_alloc ?_ _) | (with_reducible refine C_drewN ?_ _) | (with_reducible refine C_drew ?_) | exact HR491_0.1)) | (with_reducible refine C_alloc ?_ _) | (with_reducible refine C_drewN ?_ _) | (with_reducible refine C_drew ?_))); (case side4 => exact HC491_0.1); rintro e w' ⟨rfl, ⟨nd, rfl⟩⟩; (try first | exact ⟨rfl, _, World.drewN_drewN _ _ _⟩ | exact ⟨rfl, _, Eq.trans (World.drewN_drewN _ _ _) (congrArg (World.drewN _) (Nat.add_assoc _ _ _))⟩))); try go_wp2_with (first | (go_at_call 14; (with_reducible refine (w_same.calls k2 _ _ (rd_L2 t473 x11_2) _ _ (rd_L2 t481 x11_2) false _ ?side1 ?side2 ?side3 ?side4 A72.1).mono ?_); (case side1 => repeat (first | exact (by repeat (first | (with_reducible exact HR490_0.1) | (with_reducible refine C_alloc ?_ _) | (with_reducible refine C_drewN ?_ _) | (with_reducible refine C_drew ?_) | exact HR490_0.1)) | (with_reducible refine C_alloc ?_ _) | (with_reducible refine C_drewN ?_ _) | (with_reducible refine C_drew ?_))); (case side2 => exact HC490_0.1); (case side3 => repeat (first | exact (by repeat (first | (with_reducible exact HR491_0.1) | (with_reducible refine C_alloc ?_ _) | (with_reducible refine C_drewN ?_ _) | (with_reducible refine C_drew ?_) | exact HR491_0.1)) | (with_reducible refine C_alloc ?_ _) | (with_reducible refine C_drewN ?_ _) | (with_reducible refine C_drew ?_))); (case side4 => exact HC491_0.1); rintro e w' ⟨rfl, ⟨nd, rfl⟩⟩; (try first | exact ⟨rfl, _, World.drewN_drewN _ _ _⟩ | exact ⟨rfl, _, Eq.trans (World.drewN_drewN _ _ _) (congrArg (World.drewN _) (Nat.add_assoc _ _ _))⟩))))
       go_ret
       exact ⟨by first | rfl | (simp [errW_none, errW_some] <;> rfl) | (simp [*, errW_none, errW_some] <;> rfl), hh HB⟩
     subst c73
     rw [if_pos rfl] at H
     have H' := aM H
     clear H
     obtain ⟨Ao74, co74, eo74⟩ := S_slice HO_7.1
     subst eo74
     have p490 : 0 <= (x11_2 : Int) := dt
     have q490 : x11_2 < (t473.length : Int) := dt
     obtain ⟨ad490, A490_0, c490_0, e490, hx490_0, hl490_0, hi490_0⟩ := at_L2 (S_reads' HO_7.1).2.2 x11_2 p490 q490
     cases e490
     obtain ⟨ce490, hce490, hMe490, hcc490⟩ := S_get HO_7.1 [] x11_2 p490 (by first | exact q490 | exact dt | (have e_ := (S_reads' HO_7.1).1; omega))
     obtain ⟨ve490_0, rfl, ge490_0⟩ := hMe490
     have hv490_0 := hcc490 0 _ rfl
     rw [Nat.add_zero, show ((Kd.slice 9 Kd.string)).sz = 1 from rfl, Nat.mul_one] at hv490_0
     replace hv490_0 := Option.some.inj (hv490_0.symm.trans hx490_0)
     rw [hv490_0] at ge490_0
     have HL490_0 := aM (show Kd.R Kd.string 9 _ _ _ _ (rd_L2 t473 x11_2) from ge490_0)
     clear hv490_0 ge490_0
     clear hcc490 hce490
     have HR490_0 := aM hi490_0
     have HC490_0 := aM hl490_0
     clear hi490_0 hl490_0
     replace p490 := eq_true p490
     replace q490 := eq_true q490
     obtain ⟨Ao75, co75, eo75⟩ := S_slice HO_9.1
     subst eo75
     have p491 : 0 <= (x11_2 : Int) := dt
     have q491 : x11_2 < (t481.length : Int) := dt
     obtain ⟨ad491, A491_0, c491_0, e491, hx491_0, hl491_0, hi491_0⟩ := at_L2 (S_reads' HO_9.1).2.2 x11_2 p491 q491
     cases e491
     obtain ⟨ce491, hce491, hMe491, hcc491⟩ := S_get HO_9.1 [] x11_2 p491 (by first | exact q491 | exact dt | (have e_ := (S_reads' HO_9.1).1; omega))
     obtain ⟨ve491_0, rfl, ge491_0⟩ := hMe491
     have hv491_0 := hcc491 0 _ rfl
     rw [Nat.add_zero, show ((Kd.slice 9 Kd.string)).sz = 1 from rfl, Nat.mul_one] at hv491_0
     replace hv491_0 := Option.some.inj (hv491_0.symm.trans hx491_0)
     rw [hv491_0] at ge491_0
     have HL491_0 := aM (show Kd.R Kd.string 9 _ _ _ _ (rd_L2 t481 x11_2) from ge491_0)
     clear hv491_0 ge491_0
     clear hcc491 hce491
     have HR491_0 := aM hi491_0
     have HC491_0 := aM hl491_0
     clear hi491_0 hl491_0
     replace p491 := eq_true p491
     replace q491 := eq_true q491
     go_wp2_with (first | (go_at_call 14; (with_reducible refine (w_same.calls k2 _ _ (rd_L2 t473 x11_2) _ _ (rd_L2 t481 x11_2) true _ ?side1 ?side2 ?side3 ?side4 A72.1).mono ?_); (case side1 => repeat (first | exact (by repeat (first | (with_reducible exact HR490_0.1) | (with_reducible refine C_alloc ?_ _) | (with_reducible refine C_drewN ?_ _) | (with_reducible refine C_drew ?_) | exact HR490_0.1)) | (with_reducible refine C_alloc ?_ _) | (with_reducible refine C_drewN ?_ _) | (with_reducible refine C_drew ?_))); (case side2 => exact HC490_0.1); (case side3 => repeat (first | exact (by repeat (first | (with_reducible exact HR491_0.1) | (with_reducible refine C_alloc ?_ _) | (with_reducible refine C_drewN ?_ _) | (with_reducible refine C_drew ?_) | exact HR491_0.1)) | (with_reducible refine C_alloc ?_ _) | (with_reducible refine C_drewN ?_ _) | (with_reducible refine C_drew ?_))); (case side4 => exact HC491_0.1); rintro e w' ⟨rfl, ⟨nd, rfl⟩⟩; (try first | exact ⟨rfl, _, World.drewN_drewN _ _ _⟩ | exact ⟨rfl, _, Eq.trans (World.drewN_drewN _ _ _) (congrArg (World.drewN _) (Nat.add_assoc _ _ _))⟩)))
     repeat (go_quiet (first | (go_at_call 14; (with_reducible refine (w_same.calls k2 _ _ (rd_L2 t473 x11_2) _ _ (rd_L2 t481 x11_2) true _ ?side1 ?side2 ?side3 ?side4 A72.1).mono ?_); (case side1 => repeat (first | exact (by repeat (first | (with_reducible exact HR490_0.1) | (with_reducible refine C_alloc ?_ _) | (with_reducible refine C_drewN ?_ _) | (with_reducible refine C_drew ?_) | exact HR490_0.1)) | (with_reducible refine C_alloc ?_ _) | (with_reducible refine C_drewN ?_ _) | (with_reducible refine C_drew ?_))); (case side2 => exact HC490_0.1); (case side3 => repeat (first | exact (by repeat (first | (with_reducible exact HR491_0.1) | (with_reducible refine C_alloc ?_ _) | (with_reducible refine C_drewN ?_ _) | (with_reducible refine C_drew ?_) | exact HR491_0.1)) | (with_reducible refine C_alloc ?_ _) | (with_reducible refine C_drewN ?_ _) | (with_reducible refine C_drew ?_))); (case side4 => exact HC491_0.1); rintro e w' ⟨rfl, ⟨nd, rfl⟩⟩; (try first | exact ⟨rfl, _, World.drewN_drewN _ _ _⟩ | exact ⟨rfl, _, Eq.trans (World.drewN_drewN _ _ _) (congrArg (World.drewN _) (Nat.add_assoc _ _ _))⟩))); try go_wp2_with (first | (go_at_call 14; (with_reducible refine (w_same.calls k2 _ _ (rd_L2 t473 x11_2) _ _ (rd_L2 t481 x11_2) true _ ?side1 ?side2 ?side3 ?side4 A72.1).mono ?_); (case side1 => repeat (first | exact (by repeat (first | (with_reducible exact HR490_0.1) | (with_reducible refine C_alloc ?_ _) | (with_reducible refine C_drewN ?_ _) | (with_reducible refine C_drew ?_) | exact HR490_0.1)) | (with_reducible refine C_alloc ?_ _) | (with_reducible refine C_drewN ?_ _) | (with_reducible refine C_drew ?_))); (case side2 => exact HC490_0.1); (case side3 => repeat (first | exact (by repeat (first | (with_reducible exact HR491_0.1) | (with_reducible refine C_alloc ?_ _) | (with_reducible refine C_drewN ?_ _) | (with_reducible refine C_drew ?_) | exact HR491_0.1)) | (with_reducible refine C_alloc ?_ _) | (with_reducible refine C_drewN ?_ _) | (with_reducible refine C_drew ?_))); (case side4 => exact HC491_0.1); rintro e w' ⟨rfl, ⟨nd, rfl⟩⟩; (try first | exact ⟨rfl, _, World.drewN_drewN _ _ _⟩ | exact ⟨rfl, _, Eq.trans (World.drewN_drewN _ _ _) (congrArg (World.drewN _) (Nat.add_assoc _ _ _))⟩))))
     go_roundg k2
     case measure => have := HJ7.1; have := HK2.1; omega
     case rel => exact ⟨(wrap64 (x11_2 + 1)), rr, H', ⟨by have := HJ7.1; have := HK2.1; omega⟩, ⟨sk HO_7⟩, ⟨sk HO_9⟩, ⟨kk BK464⟩, ⟨kk BK472⟩, ⟨kk BK480⟩, ⟨kk BK488⟩, ⟨hh HB⟩⟩
end Go.Proofs.Ytmadhaccjmakdaa.P
namespace Go.Proofs.Ytmadhaccjmakdaa
open Go.RowKit Go.Proofs.Yw.A Go.Proofs.Yw.B Go.Proofs.Yw.C
namespace Tp
open Tj
def nd (es : List (List Int)) (v : Int) : Prop := 0 <= v /\ v < es.length
def Vld (es : List (List Int)) : Prop := ∀ v, nd es v -> ∀ w ∈ row es v, nd es w
inductive Rc (es : List (List Int)) : Int -> Int -> Prop
 | refl (v : Int) : Rc es v v
 | tail {a b c : Int} : Rc es a b -> c ∈ row es b -> Rc es a c
theorem Rc.trans {es : List (List Int)} {a b c : Int} (h : Rc es a b) (h2 : Rc es b c) : Rc es a c := by
 induction h2 with
 | refl => exact h
 | tail _ h3 ih => exact .tail ih h3
theorem Rc.edge {es : List (List Int)} {a b : Int} (h : b ∈ row es a) : Rc es a b := .tail (.refl a) h
theorem w64 (x : Int) (h0 : -9223372036854775808 <= x) (h1 : x < 9223372036854775808) : wrap64 x = x := by
 unfold wrap64
 omega
theorem rd_set (l : List Int) (u v x : Int) (hu : 0 <= u) (hl : u < l.length) (hv : 0 <= v) : rd (l.set u.toNat x) v = if v = u then x else rd l v := by
 unfold rd
 rw [List.getD_eq_getElem?_getD, List.getElem?_set, List.getD_eq_getElem?_getD]
 by_cases h : v = u
 rotate_left
 · rw [if_neg (by omega), if_neg h]
 subst h
 rw [if_pos rfl, if_pos (by omega), if_pos rfl]
 rfl
theorem rd_at (l : List Int) (i : Nat) (h : i < l.length) : rd l (i : Int) = l[i] := by
 unfold rd
 rw [Int.toNat_natCast, List.getD_eq_getElem?_getD, List.getElem?_eq_getElem h]
 rfl
theorem rd_mem (l : List Int) (v : Int) (h0 : 0 <= v) (h : v < l.length) : rd l v ∈ l := by
 obtain ⟨i, rfl⟩ := Int.eq_ofNat_of_zero_le h0
 rw [rd_at l i (by omega)]
 exact List.getElem_mem _
theorem mem_rd (l : List Int) (x : Int) (h : x ∈ l) : ∃ i : Nat, i < l.length /\ rd l (i : Int) = x := by
 obtain ⟨i, hi, e⟩ := List.mem_iff_getElem.1 h
 exact ⟨i, hi, by rw [rd_at l i hi]; exact e⟩
theorem rd_rep (n : Nat) (x v : Int) (h0 : 0 <= v) (h : v < n) : rd (List.replicate n x) v = x := by
 obtain ⟨i, rfl⟩ := Int.eq_ofNat_of_zero_le h0
 rw [rd_at _ i (by simp; omega)]
 simp
structure Inv (es : List (List Int)) (st : TS) : Prop where
 li : st.index.length = es.length
 ll : st.low.length = es.length
 lc : st.comp.length = es.length
 stk : ∀ x ∈ st.stack, nd es x /\ 0 < rd st.index x /\ rd st.comp x = -1
 ons : ∀ x, nd es x -> rd st.index x ≠ 0 -> rd st.comp x < 0 -> x ∈ st.stack
 unv : ∀ x, nd es x -> rd st.index x = 0 -> rd st.comp x = -1
 idx : ∀ x, nd es x -> 0 <= rd st.index x /\ rd st.index x <= st.count
 cmp : ∀ x, nd es x -> -1 <= rd st.comp x /\ rd st.comp x < st.comps
 inj : ∀ x y, nd es x -> nd es y -> rd st.index x = rd st.index y -> rd st.index x ≠ 0 -> x = y
 srt : st.stack.Pairwise fun x y => rd st.index x < rd st.index y
 back : ∀ u, nd es u -> 0 <= rd st.comp u -> ∀ w ∈ row es u, 0 <= rd st.comp w /\ rd st.comp w <= rd st.comp u
 same : ∀ u v, nd es u -> nd es v -> rd st.comp u = rd st.comp v -> 0 <= rd st.comp u -> Rc es u v
 onto : ∀ c, 0 <= c -> c < st.comps -> ∃ v, nd es v /\ rd st.comp v = c
 cnt : st.count + (st.index.count 0 : Nat) = es.length
 cps : 0 <= st.comps /\ st.comps + st.stack.length <= st.count
structure Ext (es : List (List Int)) (p : Int -> Prop) (st st' : TS) : Prop where
 idx : ∀ x, nd es x -> rd st.index x ≠ 0 -> rd st'.index x = rd st.index x
 low : ∀ x, nd es x -> rd st.index x ≠ 0 -> p x -> rd st'.low x = rd st.low x
 cmp : ∀ x, nd es x -> 0 <= rd st.comp x -> rd st'.comp x = rd st.comp x
 cnt : st.count <= st'.count
 new : ∀ x, nd es x -> rd st.index x = 0 -> rd st'.index x = 0 \/ st.count < rd st'.index x
theorem Ext.refl (es : List (List Int)) (p : Int -> Prop) (st : TS) : Ext es p st st := ⟨fun _ _ _ => rfl, fun _ _ _ _ => rfl, fun _ _ _ => rfl, Int.le_refl _, fun _ _ h => .inl h⟩
theorem Ext.trans {es : List (List Int)} {p : Int -> Prop} {a b c : TS} (h : Ext es p a b) (k : Ext es p b c) : Ext es p a c where
 idx x hx h0 := by rw [k.idx x hx (by rw [h.idx x hx h0]; exact h0), h.idx x hx h0]
 low x hx h0 hp := by rw [k.low x hx (by rw [h.idx x hx h0]; exact h0) hp, h.low x hx h0 hp]
 cmp x hx h0 := by rw [k.cmp x hx (by rw [h.cmp x hx h0]; exact h0), h.cmp x hx h0]
 cnt := Int.le_trans h.cnt k.cnt
 new x hx h0 := by
  rcases h.new x hx h0 with h1 | h1
  · rcases k.new x hx h1 with h2 | h2
    · exact .inl h2
    · exact .inr (by have := h.cnt; omega)
  · by_cases h2 : rd b.index x = 0
    · rcases k.new x hx h2 with h3 | h3
      · exact .inl h3
      · exact .inr (by have := h.cnt; omega)
    · rw [k.idx x hx h2]
      exact .inr h1
theorem Ext.imp {es : List (List Int)} {p q : Int -> Prop} {a b : TS} (h : Ext es p a b) (hq : ∀ x, q x -> p x) : Ext es q a b := ⟨h.idx, fun x hx h0 hp => h.low x hx h0 (hq x hp), h.cmp, h.cnt, h.new⟩
def Ok (st : TS) (m w : Int) : Prop := 0 <= rd st.comp w \/ (rd st.index w ≠ 0 /\ m <= rd st.index w)
structure Post (es : List (List Int)) (S0 : List Int) (v c0 : Int) (st : TS) : Prop where
 inv : Inv es st
 idx : rd st.index v = c0 + 1
 way : (st.stack = S0 /\ rd st.low v = c0 + 1 /\ 0 <= rd st.comp v) \/
  (∃ rest, st.stack = S0 ++ v :: rest /\ (∀ x ∈ v :: rest, Rc es x v /\ Rc es v x) /\ (∀ x ∈ v :: rest, ∀ w ∈ row es x, Ok st (rd st.low v) w) /\ rd st.low v < c0 + 1 /\ ∃ y ∈ S0, rd st.index y = rd st.low v /\ Rc es v y)
structure Lp (es : List (List Int)) (S0 : List Int) (v c0 : Int) (i : Nat) (st : TS) (rest : List Int) : Prop where
 inv : Inv es st
 nd : nd es v
 idx : rd st.index v = c0 + 1
 stk : st.stack = S0 ++ v :: rest
 tov : ∀ x ∈ st.stack, Rc es x v
 frm : ∀ x ∈ rest, Rc es v x
 low : rd st.low v <= rd st.index v
 wit : ∃ y ∈ st.stack, rd st.index y = rd st.low v /\ Rc es v y
 blk : ∀ x ∈ rest, ∀ w ∈ row es x, Ok st (rd st.low v) w
 done : ∀ j : Nat, j < i -> j < (row es v).length -> Ok st (rd st.low v) (rd (row es v) j)
theorem row_nd {es : List (List Int)} (hv : Vld es) {v : Int} (h : nd es v) (j : Nat) (hj : j < (row es v).length) : nd es (rd (row es v) j) := hv v h _ (by rw [rd_at _ j hj]; exact List.getElem_mem _)
theorem pop_run (es : List (List Int)) (v : Int) (S0 : List Int) : ∀ (m : Nat) (rest : List Int) (k : Nat) (st : TS), rest.length = m -> m < k -> st.stack = S0 ++ v :: rest -> v ∉ rest ->
 (∀ x ∈ v :: rest, nd es x) -> st.comp.length = es.length ->
 ∃ cm : List Int, pop k v st = some { st with stack := S0, comp := cm, comps := wrap64 (st.comps + 1) } /\ cm.length = es.length /\
  (∀ x ∈ v :: rest, rd cm x = st.comps) /\ (∀ x, nd es x -> x ∉ v :: rest -> rd cm x = rd st.comp x) := by
 intro m
 induction m with
 | zero =>
  intro rest k st hm hk hs hnv hnd hl
  obtain rfl : rest = [] := List.eq_nil_of_length_eq_zero hm
  obtain ⟨k, rfl⟩ : ∃ m, k = m + 1 := ⟨k - 1, by omega⟩
  have hv := hnd v (by simp)
  have hlen : st.stack.length = S0.length + 1 := by rw [hs]; simp
  have hx : rd st.stack ((st.stack.length : Int) - 1) = v := by
   rw [show ((st.stack.length : Int) - 1) = ((S0.length : Nat) : Int) by omega, rd_at _ _ (by omega)]
   simp [hs]
  have ht : st.stack.take (st.stack.length - 1) = S0 := by
   rw [hlen, Nat.add_sub_cancel, hs]; simp
  refine ⟨st.comp.set v.toNat st.comps, ?_, by simpa using hl, ?_, ?_⟩
  · unfold pop
    rw [if_pos (by omega)]
    simp only [hx, ht]
    rw [if_pos (by have := hv.1; have := hv.2; rw [hl]; omega), if_pos trivial]
  · intro x hx
    rw [List.mem_singleton] at hx
    subst hx
    rw [rd_set _ _ _ _ hv.1 (by rw [hl]; exact hv.2) hv.1, if_pos rfl]
  · intro x hx hne
    rw [rd_set _ _ _ _ hv.1 (by rw [hl]; exact hv.2) hx.1, if_neg (by simpa using hne)]
 | succ m ih =>
  intro rest k st hm hk hs hnv hnd hl
  obtain ⟨k, rfl⟩ : ∃ m, k = m + 1 := ⟨k - 1, by omega⟩
  obtain ⟨r0, z, rfl⟩ : ∃ r0 z, rest = r0 ++ [z] := ⟨rest.dropLast, rest.getLast (by intro e; rw [e] at hm; cases hm), (List.dropLast_concat_getLast _).symm⟩
  have hz := hnd z (by simp)
  have hlen : st.stack.length = S0.length + 1 + r0.length + 1 := by rw [hs]; simp; omega
  have hs2 : st.stack = (S0 ++ v :: r0) ++ [z] := by rw [hs]; simp
  have hx : rd st.stack ((st.stack.length : Int) - 1) = z := by
   rw [show ((st.stack.length : Int) - 1) = (((S0 ++ v :: r0).length : Nat) : Int) by simp; omega, rd_at _ _ (by simp; omega)]
   simp [hs2]
  have ht : st.stack.take (st.stack.length - 1) = S0 ++ v :: r0 := by
   rw [hlen, Nat.add_sub_cancel, hs2, List.take_left' (by simp; omega)]
  have hzv : z ≠ v := by rintro rfl; simp at hnv
  obtain ⟨cm, h1, h2, h3, h4⟩ := ih r0 k { st with stack := S0 ++ v :: r0, comp := st.comp.set z.toNat st.comps } (by simpa using hm) (by omega) rfl (by intro h; exact hnv (by simp [h]))
   (fun x hx => hnd x (by rcases List.mem_cons.1 hx with h | h <;> simp [h])) (by simpa using hl)
  refine ⟨cm, ?_, h2, ?_, ?_⟩
  · unfold pop
    rw [if_pos (by omega)]
    simp only [hx, ht]
    rw [if_pos (by have := hz.1; have := hz.2; rw [hl]; omega), if_neg hzv]
    exact h1
  · intro x hx
    by_cases h : x ∈ v :: r0
    · exact h3 x h
    have hxz : x = z := by
     simp at hx h
     grind
    subst hxz
    rw [h4 x hz h]
    rw [rd_set _ _ _ _ hz.1 (by rw [hl]; exact hz.2) hz.1, if_pos rfl]
  · intro x hx hne
    rw [h4 x hx (by simp at hne ⊢; grind)]
    show rd (st.comp.set z.toNat st.comps) x = _
    rw [rd_set _ _ _ _ hz.1 (by rw [hl]; exact hz.2) hx.1, if_neg (by simp at hne; grind)]
end Tp
namespace Tp
open Tj
theorem Inv.count_le {es : List (List Int)} {st : TS} (h : Inv es st) : 0 <= st.count /\ st.count <= es.length := by
 have := h.cnt
 have := h.cps
 omega
theorem count_set_lt (l : List Int) (u x : Int) (hu : 0 <= u) (hl : u < l.length) (h0 : rd l u = 0) (hx : x ≠ 0) : (l.set u.toNat x).count 0 + 1 = l.count 0 := by
 obtain ⟨i, rfl⟩ := Int.eq_ofNat_of_zero_le hu
 rw [rd_at l i (by omega)] at h0
 have hi : i < l.length := by omega
 have h1 : 0 < l.count 0 := List.count_pos_iff.2 (h0 ▸ List.getElem_mem hi)
 show (l.set i x).count 0 + 1 = l.count 0
 rw [List.count_set hi]
 simp [h0, hx]
 omega
theorem enter_inv {es : List (List Int)} {st : TS} {v : Int} (h : Inv es st) (hv : nd es v) (h0 : rd st.index v = 0) (hn : es.length < 1000000) :
 Inv es (enter v st) /\ (enter v st).count = st.count + 1 /\ (∀ x, nd es x -> rd (enter v st).index x = if x = v then st.count + 1 else rd st.index x) /\
  (∀ x, nd es x -> rd (enter v st).low x = if x = v then st.count + 1 else rd st.low x) /\ (enter v st).index.count 0 + 1 = st.index.count 0 := by
 have hc := h.count_le
 have hw : wrap64 (st.count + 1) = st.count + 1 := w64 _ (by omega) (by omega)
 have hix : ∀ x, nd es x -> rd (enter v st).index x = if x = v then st.count + 1 else rd st.index x := by
  intro x hx
  show rd (st.index.set v.toNat (wrap64 (st.count + 1))) x = _
  rw [hw, rd_set _ _ _ _ hv.1 (by rw [h.li]; exact hv.2) hx.1]
 have hlx : ∀ x, nd es x -> rd (enter v st).low x = if x = v then st.count + 1 else rd st.low x := by
  intro x hx
  show rd (st.low.set v.toNat (wrap64 (st.count + 1))) x = _
  rw [hw, rd_set _ _ _ _ hv.1 (by rw [h.ll]; exact hv.2) hx.1]
 have hcount : (enter v st).index.count 0 + 1 = st.index.count 0 := count_set_lt _ _ _ hv.1 (by rw [h.li]; exact hv.2) h0 (by rw [hw]; omega)
 have hcnt : (enter v st).count = st.count + 1 := hw
 have hnew : ∀ x ∈ st.stack, x ≠ v := by
  rintro x hx rfl
  have := (h.stk x hx).2.1
  omega
 refine ⟨⟨?_, ?_, h.lc, ?_, ?_, ?_, ?_, h.cmp, ?_, ?_, h.back, h.same, h.onto, ?_, ?_⟩, hcnt, hix, hlx, hcount⟩
 · show (st.index.set _ _).length = _
   rw [List.length_set]; exact h.li
 · show (st.low.set _ _).length = _
   rw [List.length_set]; exact h.ll
 · intro x hx
   rcases List.mem_append.1 (show x ∈ st.stack ++ [v] from hx) with h1 | h1
   · obtain ⟨a, b, c⟩ := h.stk x h1
     refine ⟨a, ?_, c⟩
     rw [hix x a, if_neg (hnew x h1)]
     exact b
   · rw [List.mem_singleton] at h1
     subst h1
     exact ⟨hv, by rw [hix x hv, if_pos rfl]; omega, h.unv x hv h0⟩
 · intro x hx hi hcx
   by_cases e : x = v
   · subst e; show x ∈ st.stack ++ [x]; simp
   rw [hix x hx, if_neg e] at hi
   exact List.mem_append.2 (.inl (h.ons x hx hi hcx))
 · intro x hx hi
   by_cases e : x = v
   · subst e; exact h.unv x hx h0
   rw [hix x hx, if_neg e] at hi
   exact h.unv x hx hi
 · intro x hx
   rw [hix x hx, hcnt]
   have := h.idx x hx
   split <;> omega
 · intro x y hx hy he hne
   rw [hix x hx] at he hne
   rw [hix y hy] at he
   have h1 := h.idx x hx
   have h2 := h.idx y hy
   by_cases ex : x = v
   · rw [if_pos ex] at he
     by_cases ey : y = v
     · rw [ex, ey]
     rw [if_neg ey] at he; omega
   rw [if_neg ex] at he hne
   by_cases ey : y = v
   · rw [if_pos ey] at he; omega
   rw [if_neg ey] at he
   exact h.inj x y hx hy he hne
 · show (st.stack ++ [v]).Pairwise _
   rw [List.pairwise_append]
   refine ⟨?_, by simp, ?_⟩
   · refine h.srt.imp_of_mem ?_
     intro a b ha hb hab
     rw [hix a (h.stk a ha).1, hix b (h.stk b hb).1, if_neg (hnew a ha), if_neg (hnew b hb)]
     exact hab
   · intro a ha b hb
     rw [List.mem_singleton] at hb
     subst hb
     rw [hix a (h.stk a ha).1, hix b hv, if_neg (hnew a ha), if_pos rfl]
     have := (h.idx a (h.stk a ha).1).2
     omega
 · rw [hcnt]
   have := h.cnt
   omega
 · rw [hcnt]
   have := h.cps
   refine ⟨this.1, ?_⟩
   show st.comps + ((st.stack ++ [v]).length : Int) <= _
   rw [List.length_append, List.length_singleton]
   omega
theorem lower_inv {es : List (List Int)} {st : TS} {v x : Int} (h : Inv es st) : Inv es (lower v x st) :=
 ⟨h.li, by show (st.low.set _ _).length = _; rw [List.length_set]; exact h.ll, h.lc, h.stk, h.ons, h.unv, h.idx, h.cmp, h.inj, h.srt, h.back, h.same, h.onto, h.cnt, h.cps⟩
theorem lower_low {es : List (List Int)} {st : TS} {v x : Int} (h : Inv es st) (hv : nd es v) (u : Int) (hu : nd es u) : rd (lower v x st).low u = if u = v then mn (rd st.low v) x else rd st.low u := by
 show rd (st.low.set _ _) u = _
 rw [rd_set _ _ _ _ hv.1 (by rw [h.ll]; exact hv.2) hu.1]
theorem mn_le (a b : Int) : mn a b <= a /\ mn a b <= b /\ (mn a b = a \/ mn a b = b) := by
 unfold mn
 split <;> omega
theorem lower_ext {es : List (List Int)} {st : TS} {v x : Int} (h : Inv es st) (hv : nd es v) : Ext es (· ≠ v) st (lower v x st) :=
 ⟨fun _ _ _ => rfl, fun u hu _ hp => by rw [lower_low h hv u hu, if_neg hp], fun _ _ _ => rfl, Int.le_refl _, fun _ _ h => .inl h⟩
theorem Lp.notin {es : List (List Int)} {S0 : List Int} {v c0 : Int} {i : Nat} {st : TS} {rest : List Int} (h : Lp es S0 v c0 i st rest) :
 v ∉ rest /\ (∀ x ∈ S0, rd st.index x < rd st.index v) /\ (∀ x ∈ rest, rd st.index v < rd st.index x) := by
 have hs := h.inv.srt
 rw [h.stk, List.pairwise_append] at hs
 obtain ⟨_, h2, h3⟩ := hs
 rw [List.pairwise_cons] at h2
 refine ⟨fun hm => ?_, fun x hx => h3 x hx v (by simp), h2.1⟩
 have := h2.1 v hm
 omega
theorem end_pop {es : List (List Int)} (hvld : Vld es) {S0 : List Int} {v c0 : Int} {i k : Nat} {st : TS} {rest : List Int} (h : Lp es S0 v c0 i st rest) (hi : (row es v).length <= i)
 (hlow : rd st.low v = rd st.index v) (hk : es.length < k) (hn : es.length < 1000000) :
 ∃ st', pop k v st = some st' /\ Post es S0 v c0 st' /\ Ext es (· ≠ v) st st' /\ st'.index = st.index := by
 obtain ⟨n1, n2, n3⟩ := h.notin
 have hI := h.inv
 have hcl := hI.count_le
 have hmem : ∀ x ∈ v :: rest, x ∈ st.stack := fun x hx => by rw [h.stk]; exact List.mem_append.2 (.inr hx)
 have hseg : ∀ x ∈ v :: rest, nd es x := fun x hx => (hI.stk x (hmem x hx)).1
 have hlen : st.stack.length = S0.length + rest.length + 1 := by rw [h.stk]; simp; omega
 obtain ⟨cm, h1, h2, h3, h4⟩ := pop_run es v S0 rest.length rest k st rfl (by have := hI.cps; omega) h.stk n1 hseg hI.lc
 have hw : wrap64 (st.comps + 1) = st.comps + 1 := w64 _ (by have := hI.cps; omega) (by have := hI.cps; omega)
 rw [hw] at h1
 refine ⟨_, h1, ?_, ?_, rfl⟩
 · have hS0 : ∀ x ∈ S0, x ∉ v :: rest := by
    intro x hx hm
    have a1 := n2 x hx
    rcases List.mem_cons.1 hm with e | e
    · rw [e] at a1; omega
    · have := n3 x e; omega
   have hold : ∀ x, nd es x -> 0 <= rd st.comp x -> x ∉ v :: rest := by
    intro x hx hc hm
    have := (hI.stk x (hmem x hm)).2.2
    omega
   have hsuc : ∀ u ∈ v :: rest, ∀ w ∈ row es u, Ok st (rd st.low v) w := by
    intro u hu w hw
    rcases List.mem_cons.1 hu with e | e
    · subst e
      obtain ⟨j, hj, rfl⟩ := mem_rd _ _ hw
      exact h.done j (by omega) hj
    · exact h.blk u e w hw
   refine ⟨⟨hI.li, hI.ll, h2, ?_, ?_, ?_, hI.idx, ?_, hI.inj, ?_, ?_, ?_, ?_, hI.cnt, ?_⟩, h.idx, .inl ⟨rfl, by rw [<- h.idx]; exact hlow, ?_⟩⟩
   · intro x hx
     obtain ⟨a, b, c⟩ := hI.stk x (by rw [h.stk]; exact List.mem_append.2 (.inl hx))
     exact ⟨a, b, by show rd cm x = _; rw [h4 x a (hS0 x hx)]; exact c⟩
   · intro x hx hi0 hc
     have hc' : rd cm x < 0 := hc
     have hns : x ∉ v :: rest := by
      intro hm
      rw [h3 x hm] at hc'
      have := hI.cps
      omega
     rw [h4 x hx hns] at hc'
     have := hI.ons x hx hi0 hc'
     rw [h.stk] at this
     rcases List.mem_append.1 this with e | e
     · exact e
     · exact absurd e hns
   · intro x hx hi0
     have hns : x ∉ v :: rest := by
      intro hm
      have := (hI.stk x (hmem x hm)).2.1
      have hi1 : rd st.index x = 0 := hi0
      omega
     show rd cm x = _
     rw [h4 x hx hns]
     exact hI.unv x hx hi0
   · intro x hx
     show -1 <= rd cm x /\ rd cm x < st.comps + 1
     by_cases hm : x ∈ v :: rest
     · rw [h3 x hm]; have := hI.cps; omega
     rw [h4 x hx hm]; have := hI.cmp x hx; omega
   · have := hI.srt
     rw [h.stk, List.pairwise_append] at this
     exact this.1
   · intro u hu hc w hwm
     show 0 <= rd cm w /\ rd cm w <= rd cm u
     have hc' : 0 <= rd cm u := hc
     have hwn : nd es w := hvld u hu w hwm
     by_cases hm : u ∈ v :: rest
     rotate_left
     · rw [h4 u hu hm] at hc' ⊢
       have hb := hI.back u hu hc' w hwm
       rw [h4 w hwn (hold w hwn hb.1)]
       exact hb
     rw [h3 u hm]
     by_cases hwm2 : w ∈ v :: rest
     · rw [h3 w hwm2]; have := hI.cps; omega
     rw [h4 w hwn hwm2]
     rcases hsuc u hm w hwm with e | ⟨e1, e2⟩
     · have := hI.cmp w hwn; omega
     · by_cases hcw : 0 <= rd st.comp w
       · have := hI.cmp w hwn; omega
       · have hst := hI.ons w hwn e1 (by omega)
         rw [h.stk] at hst
         rcases List.mem_append.1 hst with e | e
         · have := n2 w e; omega
         · exact absurd e hwm2
   · intro x y hx hy he hc
     have he' : rd cm x = rd cm y := he
     by_cases hm : x ∈ v :: rest
     rotate_left
     · by_cases hm2 : y ∈ v :: rest
       · rw [h3 y hm2, h4 x hx hm] at he'
         have := hI.cmp x hx
         omega
       · have hc' : 0 <= rd cm x := hc
         rw [h4 x hx hm] at hc'
         rw [h4 x hx hm, h4 y hy hm2] at he'
         exact hI.same x y hx hy he' hc'
     by_cases hm2 : y ∈ v :: rest
     rotate_left
     · rw [h3 x hm, h4 y hy hm2] at he'
       have := hI.cmp y hy
       omega
     have hxv : Rc es x v := h.tov x (hmem x hm)
     rcases List.mem_cons.1 hm2 with e | e
     · rw [e]; exact hxv
     · exact hxv.trans (h.frm y e)
   · intro c h0 hc
     have hc' : c < st.comps + 1 := hc
     by_cases e : c = st.comps
     · exact ⟨v, h.nd, by rw [e]; exact h3 v (by simp)⟩
     obtain ⟨u, hu, hcu⟩ := hI.onto c h0 (by omega)
     exact ⟨u, hu, by show rd cm u = c; rw [h4 u hu (hold u hu (by omega))]; exact hcu⟩
   · show 0 <= st.comps + 1 /\ st.comps + 1 + (S0.length : Int) <= st.count
     have := hI.cps
     omega
   · show 0 <= rd cm v
     rw [h3 v (by simp)]
     exact hI.cps.1
 · refine ⟨fun _ _ _ => rfl, fun _ _ _ _ => rfl, fun x hx hc => ?_, Int.le_refl _, fun _ _ e => .inl e⟩
   have hns : x ∉ v :: rest := by
    intro hm
    have := (hI.stk x (hmem x hm)).2.2
    omega
   exact h4 x hx hns
end Tp
namespace Tp
open Tj
def VisitOk (es : List (List Int)) (L k : Nat) : Prop := ∀ (v : Int) (st : TS), Inv es st -> nd es v -> rd st.index v = 0 -> (∀ x ∈ st.stack, Rc es x v) -> st.index.count 0 * (L + 2) + es.length + 2 <= k ->
 ∃ st', visit k es v st = some st' /\ Post es st.stack v st.count st' /\ Ext es (fun _ => True) st st' /\ st'.index.count 0 <= st.index.count 0
def EachOk (es : List (List Int)) (L k : Nat) : Prop := ∀ (S0 : List Int) (v c0 : Int) (i : Nat) (st : TS) (rest : List Int), Lp es S0 v c0 i st rest -> st.index.count 0 * (L + 2) + (L - i) + es.length + 2 <= k ->
 ∃ st', each k es v (row es v) i st = some st' /\ Post es S0 v c0 st' /\ Ext es (· ≠ v) st st' /\ st'.index.count 0 <= st.index.count 0
theorem unv_le {es : List (List Int)} {a b : TS} (ha : Inv es a) (hb : Inv es b) (h : a.count <= b.count) : b.index.count 0 <= a.index.count 0 := by
 have := ha.cnt
 have := hb.cnt
 omega
theorem Ok.ext {es : List (List Int)} {p : Int -> Prop} {a b : TS} (h : Ext es p a b) {m m' w : Int} (hw : nd es w) (hm : m' <= m) (ho : Ok a m w) : Ok b m' w := by
 rcases ho with e | ⟨e1, e2⟩
 · exact .inl (by rw [h.cmp w hw e]; exact e)
 · exact .inr (by rw [h.idx w hw e1]; exact ⟨e1, by omega⟩)
theorem visit_step {es : List (List Int)} (hvld : Vld es) {L k : Nat} (hL : ∀ v, (row es v).length <= L) (hn : es.length < 1000000) (he : EachOk es L k) : VisitOk es L (k + 1) := by
 intro v st hI hv h0 hto hk
 obtain ⟨hI1, hc1, hix, hlx, hct⟩ := enter_inv hI hv h0 hn
 have hcps := hI.cps
 have hcl := hI.count_le
 unfold visit
 rw [if_pos ⟨hv.1, hv.2, by omega⟩]
 have hlp : Lp es st.stack v st.count 0 (enter v st) [] := by
  refine ⟨hI1, hv, by rw [hix v hv, if_pos rfl], rfl, ?_, by simp, ?_, ?_, by simp, by intro j hj; omega⟩
  · intro x hx
    rcases List.mem_append.1 (show x ∈ st.stack ++ [v] from hx) with e | e
    · exact hto x e
    · rw [List.mem_singleton] at e; subst e; exact .refl _
  · rw [hlx v hv, hix v hv]; simp
  · exact ⟨v, by show v ∈ st.stack ++ [v]; simp, by rw [hlx v hv, hix v hv]; simp, .refl _⟩
 have hmul : st.index.count 0 * (L + 2) = (enter v st).index.count 0 * (L + 2) + (L + 2) := by
  rw [<- hct, Nat.add_mul, Nat.one_mul]
 obtain ⟨st', h1, h2, h3, h4⟩ := he st.stack v st.count 0 (enter v st) [] hlp (by omega)
 refine ⟨st', h1, h2, ?_, by omega⟩
 refine ⟨?_, ?_, ?_, ?_, ?_⟩
 · intro x hx hi
   have e : x ≠ v := by rintro rfl; exact hi h0
   have := hix x hx
   rw [if_neg e] at this
   rw [h3.idx x hx (by rw [this]; exact hi), this]
 · intro x hx hi _
   have e : x ≠ v := by rintro rfl; exact hi h0
   have := hix x hx
   rw [if_neg e] at this
   rw [h3.low x hx (by rw [this]; exact hi) e, hlx x hx, if_neg e]
 · exact h3.cmp
 · have := h3.cnt; omega
 · intro x hx hi
   by_cases e : x = v
   · subst e
     right
     rw [h2.idx]; omega
   have := hix x hx
   rw [if_neg e] at this
   rcases h3.new x hx (by rw [this]; exact hi) with e2 | e2
   · exact .inl e2
   · exact .inr (by omega)
theorem lp_next {es : List (List Int)} (hvld : Vld es) {S0 : List Int} {v c0 : Int} {i : Nat} {st st2 : TS} {rest r1 : List Int} (h : Lp es S0 v c0 i st rest) (hi : i < (row es v).length)
 (h2 : Inv es st2) (he : Ext es (fun _ => False) st st2) (hs : st2.stack = st.stack ++ r1) (hr : ∀ x ∈ r1, Rc es x v /\ Rc es v x) (hl : rd st2.low v <= rd st.low v)
 (hw : rd st2.low v = rd st.low v \/ ∃ y ∈ st2.stack, rd st2.index y = rd st2.low v /\ Rc es v y) (hb : ∀ x ∈ r1, ∀ u ∈ row es x, Ok st2 (rd st2.low v) u) (hd : Ok st2 (rd st2.low v) (rd (row es v) i)) :
 Lp es S0 v c0 (i + 1) st2 (rest ++ r1) := by
 have hI := h.inv
 have hvs : v ∈ st.stack := by rw [h.stk]; simp
 have hix : ∀ x ∈ st.stack, nd es x /\ rd st2.index x = rd st.index x := fun x hx => ⟨(hI.stk x hx).1, he.idx x (hI.stk x hx).1 (by have := (hI.stk x hx).2.1; omega)⟩
 refine ⟨h2, h.nd, by rw [(hix v hvs).2]; exact h.idx, by rw [hs, h.stk]; simp, ?_, ?_, by rw [(hix v hvs).2]; have := h.low; omega, ?_, ?_, ?_⟩
 · intro x hx
   rw [hs] at hx
   rcases List.mem_append.1 hx with e | e
   · exact h.tov x e
   · exact (hr x e).1
 · intro x hx
   rcases List.mem_append.1 hx with e | e
   · exact h.frm x e
   · exact (hr x e).2
 · rcases hw with e | e
   · obtain ⟨y, y1, y2, y3⟩ := h.wit
     exact ⟨y, by rw [hs]; exact List.mem_append.2 (.inl y1), by rw [(hix y y1).2, e]; exact y2, y3⟩
   · exact e
 · intro x hx u hu
   rcases List.mem_append.1 hx with e | e
   · exact Ok.ext he (hvld x (hI.stk x (by rw [h.stk]; simp [e])).1 u hu) hl (h.blk x e u hu)
   · exact hb x e u hu
 · intro j hj hjl
   by_cases e : j = i
   · rw [e]; exact hd
   exact Ok.ext he (row_nd hvld h.nd j hjl) hl (h.done j (by omega) hjl)
theorem each_step {es : List (List Int)} (hvld : Vld es) {L k : Nat} (hL : ∀ v, (row es v).length <= L) (hn : es.length < 1000000) (hv : VisitOk es L k) (he : EachOk es L k) : EachOk es L (k + 1) := by
 intro S0 v c0 i st rest h hk
 have hI := h.inv
 have hcl := hI.count_le
 have hiv := hI.idx v h.nd
 have hLv := hL v
 have hvs : v ∈ st.stack := by rw [h.stk]; simp
 have hvi : rd st.index v ≠ 0 := by have := (hI.stk v hvs).2.1; omega
 unfold each
 by_cases hi : i < (row es v).length
 rotate_left
 · rw [if_neg (by omega)]
   by_cases hlow : rd st.low v = rd st.index v
   · rw [if_pos hlow]
     obtain ⟨st', b1, b2, b3, b4⟩ := end_pop (k := k) hvld h (by omega) hlow (by omega) hn
     exact ⟨st', b1, b2, b3, by rw [b4]; exact Nat.le_refl _⟩
   rw [if_neg hlow]
   refine ⟨st, rfl, ⟨hI, h.idx, .inr ⟨rest, h.stk, ?_, ?_, ?_, ?_⟩⟩, Ext.refl _ _ _, Nat.le_refl _⟩
   · intro x hx
     refine ⟨h.tov x (by rw [h.stk]; exact List.mem_append.2 (.inr hx)), ?_⟩
     rcases List.mem_cons.1 hx with e | e
     · rw [e]; exact .refl _
     · exact h.frm x e
   · intro x hx u hu
     rcases List.mem_cons.1 hx with e | e
     · rw [e] at hu
       obtain ⟨j, hj, rfl⟩ := mem_rd _ _ hu
       exact h.done j (by omega) hj
     · exact h.blk x e u hu
   · have := h.low; have := h.idx; omega
   · obtain ⟨y, y1, y2, y3⟩ := h.wit
     refine ⟨y, ?_, y2, y3⟩
     have := h.low
     obtain ⟨n1, n2, n3⟩ := h.notin
     rw [h.stk] at y1
     rcases List.mem_append.1 y1 with e | e
     · exact e
     · rcases List.mem_cons.1 e with e | e
       · rw [e] at y2; omega
       · have := n3 y e; omega
 rw [if_pos (by omega)]
 have hw := row_nd hvld h.nd i hi
 have hmem : rd (row es v) i ∈ row es v := by rw [rd_at _ i hi]; exact List.getElem_mem _
 have hnx := @lp_next es hvld S0 v c0 i st
 generalize hwd : rd (row es v) i = w at *
 rw [if_pos ⟨hw.1, hw.2⟩, show (i : Int) + 1 = ((i + 1 : Nat) : Int) by omega]
 by_cases h0 : rd st.index w = 0
 rotate_left
 · rw [if_neg h0]
   by_cases hc : rd st.comp w < 0
   rotate_left
   · rw [if_neg hc]
     have hlp := hnx h hi (r1 := []) hI (Ext.refl _ _ _) (by simp) (by simp) (Int.le_refl _) (.inl rfl) (by simp) (.inl (by omega))
     obtain ⟨st', b1, b2, b3, b4⟩ := he S0 v c0 (i + 1) _ _ hlp (by omega)
     exact ⟨st', b1, b2, b3, b4⟩
   rw [if_pos hc]
   have hlv : rd (lower v (rd st.index w) st).low v = mn (rd st.low v) (rd st.index w) := by rw [lower_low hI h.nd v h.nd, if_pos rfl]
   have hmn := mn_le (rd st.low v) (rd st.index w)
   have hlp := hnx h hi (r1 := []) (lower_inv (v := v) (x := rd st.index w) hI) ((lower_ext hI h.nd).imp (fun _ h => h.elim)) (by show st.stack = _; simp) (by simp) (by rw [hlv]; exact hmn.1)
    (by
     rw [hlv]
     rcases hmn.2.2 with e | e
     · exact .inl e
     · exact .inr ⟨w, hI.ons w hw h0 hc, e.symm, Rc.edge hmem⟩) (by simp) (.inr ⟨h0, by rw [hlv]; exact hmn.2.1⟩)
   obtain ⟨st', b1, b2, b3, b4⟩ := he S0 v c0 (i + 1) _ _ hlp (by show st.index.count 0 * (L + 2) + _ + _ + _ <= _; omega)
   exact ⟨st', b1, b2, (lower_ext hI h.nd).trans b3, b4⟩
 rw [if_pos h0]
 obtain ⟨st1, a1, a2, a3, a4⟩ := hv w st hI hw h0 (fun x hx => (h.tov x hx).tail hmem) (by omega)
 rw [a1, Option.bind_some]
 have hI1 := a2.inv
 have hl1 : rd st1.low v = rd st.low v := a3.low v h.nd hvi trivial
 have hlv : rd (lower v (rd st1.low w) st1).low v = mn (rd st.low v) (rd st1.low w) := by rw [lower_low hI1 h.nd v h.nd, if_pos rfl, hl1]
 have hmn := mn_le (rd st.low v) (rd st1.low w)
 have hext : Ext es (· ≠ v) st (lower v (rd st1.low w) st1) := (a3.imp (fun _ _ => trivial)).trans (lower_ext hI1 h.nd)
 have hlow := h.low
 have next : ∃ rest2, Lp es S0 v c0 (i + 1) (lower v (rd st1.low w) st1) rest2 := by
  rcases a2.way with ⟨s1, s2, s3⟩ | ⟨r1, s1, s2, s3, s4, y, s5, s6, s7⟩
  · exact ⟨_, hnx h hi (r1 := []) (lower_inv hI1) (hext.imp (fun _ h => h.elim)) (by show st1.stack = _; rw [s1]; simp) (by simp) (by rw [hlv]; exact hmn.1) (.inl (by rw [hlv]; omega)) (by simp) (.inl s3)⟩
  · refine ⟨_, hnx h hi (r1 := w :: r1) (lower_inv hI1) (hext.imp (fun _ h => h.elim)) s1 (fun x hx => ?_) (by rw [hlv]; exact hmn.1) ?_ ?_ (.inr ?_)⟩
    · exact ⟨(s2 x hx).1.trans (s7.trans (h.tov y s5)), (Rc.edge hmem).trans (s2 x hx).2⟩
    · rw [hlv]
      rcases hmn.2.2 with e | e
      · exact .inl e
      · refine .inr ⟨y, by show y ∈ st1.stack; rw [s1]; exact List.mem_append.2 (.inl s5), ?_, (Rc.edge hmem).trans s7⟩
        rw [e]; exact s6
    · intro x hx u hu
      rcases s3 x hx u hu with e | ⟨e1, e2⟩
      · exact .inl e
      · exact .inr ⟨e1, by rw [hlv]; show _ <= rd st1.index u; omega⟩
    · have e1 : rd (lower v (rd st1.low w) st1).index w = st.count + 1 := a2.idx
      rw [e1, hlv]
      omega
 obtain ⟨rest2, hlp⟩ := next
 have hu := unv_le hI hI1 a3.cnt
 have hmul : st1.index.count 0 * (L + 2) <= st.index.count 0 * (L + 2) := Nat.mul_le_mul_right _ hu
 obtain ⟨st', b1, b2, b3, b4⟩ := he S0 v c0 (i + 1) _ rest2 hlp (by show st1.index.count 0 * (L + 2) + _ + _ + _ <= _; omega)
 exact ⟨st', b1, b2, hext.trans b3, by have : (lower v (rd st1.low w) st1).index = st1.index := rfl; rw [this] at b4; omega⟩
theorem both {es : List (List Int)} (hvld : Vld es) {L : Nat} (hL : ∀ v, (row es v).length <= L) (hn : es.length < 1000000) : ∀ k, VisitOk es L k /\ EachOk es L k := by
 intro k
 induction k with
 | zero => exact ⟨fun v st _ _ _ _ hk => by omega, fun S0 v c0 i st rest _ hk => by omega⟩
 | succ k ih => exact ⟨visit_step hvld hL hn ih.2, each_step hvld hL hn ih.1 ih.2⟩
structure Sol (es : List (List Int)) (cm : List Int) (n : Int) : Prop where
 len : cm.length = es.length
 n0 : 0 <= n /\ n <= es.length
 rng : ∀ v, nd es v -> 0 <= rd cm v /\ rd cm v < n
 back : ∀ u, nd es u -> ∀ w ∈ row es u, rd cm w <= rd cm u
 same : ∀ u v, nd es u -> nd es v -> rd cm u = rd cm v -> Rc es u v
 onto : ∀ c, 0 <= c -> c < n -> ∃ v, nd es v /\ rd cm v = c
theorem outer_run {es : List (List Int)} (hvld : Vld es) {L : Nat} (hL : ∀ v, (row es v).length <= L) (hn : es.length < 1000000) : ∀ (m : Nat) (k i : Nat) (st : TS), i + m = es.length -> es.length * (L + 2) + es.length + 2 + m < k ->
 Inv es st -> st.stack = [] -> (∀ x, nd es x -> x < i -> rd st.index x ≠ 0) -> ∃ st', outer k es i st = some st' /\ Inv es st' /\ st'.stack = [] /\ ∀ x, nd es x -> rd st'.index x ≠ 0 := by
 intro m
 induction m with
 | zero =>
  intro k i st hi hk hI hs hx
  obtain ⟨k, rfl⟩ : ∃ m, k = m + 1 := ⟨k - 1, by omega⟩
  unfold outer
  rw [if_neg (by omega)]
  exact ⟨st, rfl, hI, hs, fun x h => hx x h (by have := h.2; omega)⟩
 | succ m ih =>
  intro k i st hi hk hI hs hx
  obtain ⟨k, rfl⟩ : ∃ m, k = m + 1 := ⟨k - 1, by omega⟩
  have hnd : nd es (i : Int) := ⟨by omega, by omega⟩
  have hcl := hI.count_le
  unfold outer
  rw [if_pos (by omega), show (i : Int) + 1 = ((i + 1 : Nat) : Int) by omega]
  by_cases h0 : rd st.index i = 0
  rotate_left
  · rw [if_neg h0]
    refine ih k (i + 1) st (by omega) (by omega) hI hs ?_
    intro x h1 h2
    by_cases e : x = i
    · subst e; exact h0
    exact hx x h1 (by omega)
  rw [if_pos h0]
  have hu : st.index.count 0 <= es.length := by rw [<- hI.li]; exact List.count_le_length
  have hmul : st.index.count 0 * (L + 2) <= es.length * (L + 2) := Nat.mul_le_mul_right _ hu
  obtain ⟨st1, a1, a2, a3, a4⟩ := (both hvld hL hn k).1 i st hI hnd h0 (by rw [hs]; simp) (by omega)
  rw [a1, Option.bind_some]
  have hs1 : st1.stack = [] := by
   rcases a2.way with ⟨s1, _⟩ | ⟨_, _, _, _, _, y, s5, _⟩
   · rw [s1, hs]
   · rw [hs] at s5; cases s5
  refine ih k (i + 1) st1 (by omega) (by omega) a2.inv hs1 ?_
  intro x h1 h2
  by_cases e : x = i
  · subst e; rw [a2.idx]; omega
  have := hx x h1 (by omega)
  rw [a3.idx x h1 this]
  exact this
theorem init_inv (es : List (List Int)) : Inv es (init es.length) := by
 have hi : ∀ x, nd es x -> rd (init es.length).index x = 0 := fun x h => rd_rep _ _ _ h.1 h.2
 have hc : ∀ x, nd es x -> rd (init es.length).comp x = -1 := fun x h => rd_rep _ _ _ h.1 h.2
 refine ⟨by simp [init], by simp [init], by simp [init], (fun x hx => by cases hx), (fun x h h0 => absurd (hi x h) h0), (fun x h _ => hc x h), (fun x h => ?_), (fun x h => ?_),
  (fun x y h _ _ h0 => absurd (hi x h) h0), List.Pairwise.nil, (fun u h h0 => ?_), (fun u v h _ _ h0 => ?_), (fun c h0 h1 => ?_), ?_, ?_⟩
 · rw [hi x h]; simp [init]
 · rw [hc x h]; simp [init]
 · rw [hc u h] at h0; omega
 · rw [hc u h] at h0; omega
 · simp [init] at h1; omega
 · simp [init]
 · simp [init]
theorem strong_sol {es : List (List Int)} (hvld : Vld es) {L : Nat} (hL : ∀ v, (row es v).length <= L) (hn : es.length < 1000000) (k : Nat) (hk : es.length * (L + 2) + es.length + es.length + 3 <= k) :
 ∃ cm n, strongF k es = some (cm, n) /\ Sol es cm n := by
 obtain ⟨st, h1, h2, h3, h4⟩ := outer_run hvld hL hn es.length k 0 (init es.length) (by omega) (by omega) (init_inv es) rfl (fun x h h0 => by have := h.1; omega)
 refine ⟨st.comp, st.comps, ?_, ?_⟩
 · unfold strongF
   rw [if_pos (by omega)]
   show (outer k es ((0 : Nat) : Int) _).map _ = _
   rw [h1]
   rfl
 · have hr : ∀ v, nd es v -> 0 <= rd st.comp v := by
    intro v hv
    have h5 := h2.cmp v hv
    by_cases e : rd st.comp v < 0
    rotate_left
    · omega
    have := h2.ons v hv (h4 v hv) e
    rw [h3] at this
    cases this
   have hcl := h2.count_le
   have hcps := h2.cps
   exact ⟨h2.lc, by omega, fun v hv => ⟨hr v hv, (h2.cmp v hv).2⟩, fun u hu w hw => (h2.back u hu (hr u hu) w hw).2, fun u v hu hv he => h2.same u v hu hv he (hr u hu), h2.onto⟩
end Tp
end Go.Proofs.Ytmadhaccjmakdaa
namespace Go.Proofs.Ytmadhaccjmakdaa
open Go.RowKit Go.Proofs.Yw.A Go.Proofs.Yw.B Go.Proofs.Yw.C
namespace Tp
open Tj Rw Od
def iota (n : Nat) : List Int := (List.range n).map fun (i : Nat) => (i : Int)
theorem mem_iota {n : Nat} {x : Int} : x ∈ iota n ↔ 0 <= x /\ x < n := by
 unfold iota
 rw [List.mem_map]
 constructor
 · rintro ⟨i, hi, rfl⟩
   have := List.mem_range.1 hi
   omega
 · intro h
   exact ⟨x.toNat, List.mem_range.2 (by omega), by omega⟩
theorem iota_succ (n : Nat) : iota (n + 1) = iota n ++ [(n : Int)] := by
 unfold iota
 rw [List.range_succ, List.map_append]
 rfl
theorem iota_lt (n : Nat) : (iota n).Pairwise (· < ·) := by
 unfold iota
 rw [List.pairwise_map]
 exact List.pairwise_lt_range.imp (fun h => by omega)
theorem iota_length (n : Nat) : (iota n).length = n := by simp [iota]
theorem nodup_le : ∀ (n : Nat) (l : List Int), l.Nodup -> (∀ x ∈ l, 0 <= x /\ x < n) -> l.length <= n := by
 intro n
 induction n with
 | zero =>
  intro l _ h
  cases l with
  | nil => exact Nat.le_refl _
  | cons a l => have := h a (by simp); omega
 | succ n ih =>
  intro l hd h
  have h1 := ih (l.erase (n : Int)) (hd.erase _) (fun x hx => by
   have h2 := (hd.mem_erase_iff).1 hx
   have := h x h2.2
   have := h2.1
   omega)
  by_cases hm : (n : Int) ∈ l
  rotate_left
  · rw [List.erase_of_not_mem hm] at h1; omega
  rw [List.length_erase_of_mem hm] at h1; omega
theorem row_set (ms : List (List Int)) (c d : Int) (r : List Int) (h0 : 0 <= c) (h1 : c < ms.length) (hd : 0 <= d) : row (ms.set c.toNat r) d = if d = c then r else row ms d := by
 unfold row
 rw [List.getD_eq_getElem?_getD, List.getElem?_set, List.getD_eq_getElem?_getD]
 by_cases h : d = c
 rotate_left
 · rw [if_neg (by omega), if_neg h]
 subst h
 rw [if_pos rfl, if_pos (by omega), if_pos rfl]
 rfl
theorem row_app (ms : List (List Int)) (c d x : Int) (h0 : 0 <= c) (h1 : c < ms.length) (hd : 0 <= d) : row (app ms c x) d = if d = c then row ms c ++ [x] else row ms d := row_set ms c d _ h0 h1 hd
theorem app_length (ms : List (List Int)) (c x : Int) : (app ms c x).length = ms.length := by simp [app]
theorem row_rep (n : Nat) (c : Int) : row (List.replicate n []) c = [] := by
 unfold row
 rw [List.getD_eq_getElem?_getD]
 by_cases h : c.toNat < n
 rotate_left
 · rw [List.getElem?_eq_none (by simpa using h)]; rfl
 rw [List.getElem?_eq_getElem (by simpa using h)]; simp
theorem rd_rep0 (n : Nat) (c : Int) : rd (List.replicate n 0) c = 0 := by
 unfold rd
 rw [List.getD_eq_getElem?_getD]
 by_cases h : c.toNat < n
 rotate_left
 · rw [List.getElem?_eq_none (by simpa using h)]; rfl
 rw [List.getElem?_eq_getElem (by simpa using h)]; simp
theorem row_mem (ms : List (List Int)) (i : Nat) (h : i < ms.length) : row ms (i : Int) = ms[i] := by
 unfold row
 rw [Int.toNat_natCast, List.getD_eq_getElem?_getD, List.getElem?_eq_getElem h]
 rfl
def mem (cm : List Int) (c : Int) : List Int := (iota cm.length).filter fun v => rd cm v == c
theorem mem_mem {cm : List Int} {c x : Int} : x ∈ mem cm c ↔ (0 <= x /\ x < cm.length) /\ rd cm x = c := by
 unfold mem
 rw [List.mem_filter, mem_iota]
 simp
theorem mem_len (cm : List Int) (c : Int) : (mem cm c).length <= cm.length := by
 unfold mem
 exact Nat.le_trans (List.length_filter_le _ _) (by rw [iota_length]; exact Nat.le_refl _)
theorem grp_run {es : List (List Int)} {cm : List Int} {n : Int} (S : Sol es cm n) (hn : es.length < 1000000) : ∀ (m k i : Nat) (ms : List (List Int)), i + m = cm.length -> m < k -> (ms.length : Int) = n ->
 (∀ c, 0 <= c -> c < n -> row ms c = (iota i).filter fun v => rd cm v == c) -> ∃ ms', grp k cm i ms = some ms' /\ (ms'.length : Int) = n /\ ∀ c, 0 <= c -> c < n -> row ms' c = mem cm c := by
 intro m
 induction m with
 | zero =>
  intro k i ms hi hk hl h
  obtain ⟨k, rfl⟩ : ∃ m, k = m + 1 := ⟨k - 1, by omega⟩
  obtain rfl : i = cm.length := by omega
  unfold grp
  rw [if_neg (by omega)]
  exact ⟨ms, rfl, hl, h⟩
 | succ m ih =>
  intro k i ms hi hk hl h
  obtain ⟨k, rfl⟩ : ∃ m, k = m + 1 := ⟨k - 1, by omega⟩
  have hr := S.rng i ⟨by omega, by have := S.len; omega⟩
  have hlen : (row ms (rd cm i)).length <= i := by
   rw [h _ hr.1 hr.2]
   exact Nat.le_trans (List.length_filter_le _ _) (by rw [iota_length]; exact Nat.le_refl _)
  unfold grp
  rw [if_pos (by omega), if_pos ⟨hr.1, by omega, by have := S.len; omega⟩, show (i : Int) + 1 = ((i + 1 : Nat) : Int) by omega]
  refine ih k (i + 1) _ (by omega) (by omega) (by rw [app_length]; exact hl) ?_
  intro c h0 h1
  rw [row_app _ _ _ _ hr.1 (by omega) h0, iota_succ, List.filter_append, <- h c h0 h1]
  by_cases e : c = rd cm i
  · subst e
    rw [if_pos rfl]
    simp
  rw [if_neg e]
  have : (rd cm i == c) = false := by simpa using fun h => e h.symm
  simp [this]
def Dep (es : List (List Int)) (cm : List Int) (c d : Int) : Prop := c ≠ d /\ ∃ v ∈ mem cm c, ∃ w ∈ row es v, rd cm w = d
structure J (n : Int) (c : Int) (O0 : Int -> Int) (U0 : Int -> List Int) (u : US) : Prop where
 lo : (u.opn.length : Int) = n
 lu : (u.users.length : Int) = n
 nd : u.seen.Nodup
 hc : c ∈ u.seen
 rg : ∀ d ∈ u.seen, 0 <= d /\ d < n
 oo : ∀ d, 0 <= d -> d ≠ c -> rd u.opn d = O0 d
 oc : rd u.opn c = u.seen.length - 1
 us : ∀ d, 0 <= d -> d < n -> row u.users d = U0 d ++ (if d ∈ u.seen /\ d ≠ c then [c] else [])
theorem wf_small (x : Int) (h0 : 0 <= x) (h1 : x < 1000000) : (Lit.int .i64 x).wf = true := by
 have a : IntKind.i64.min = -9223372036854775808 := rfl
 have b : IntKind.i64.max = 9223372036854775807 := rfl
 simp only [Lit.wf, a, b, Bool.and_eq_true, decide_eq_true_eq]
 omega
theorem link_J {n c d : Int} {O0 : Int -> Int} {U0 : Int -> List Int} {u : US} (h : J n c O0 U0 u) (hn : n < 1000000) (hd0 : 0 <= d) (hd1 : d < n) (hs : d ∉ u.seen) : J n c O0 U0 (link c d u) := by
 have hc := h.rg c h.hc
 have hlo := h.lo
 have hlu := h.lu
 have hlen : u.seen.length <= n.toNat := nodup_le _ _ h.nd (fun x hx => by have := h.rg x hx; omega)
 have hdc : d ≠ c := by rintro rfl; exact hs h.hc
 refine ⟨?_, ?_, ?_, ?_, ?_, ?_, ?_, ?_⟩
 · show ((u.opn.set _ _).length : Int) = n
   rw [List.length_set]; exact h.lo
 · show ((app u.users d c).length : Int) = n
   rw [app_length]; exact h.lu
 · show (u.seen ++ [d]).Nodup
   rw [List.nodup_append]
   exact ⟨h.nd, by simp, fun a ha b hb e => by rw [List.mem_singleton] at hb; subst hb; subst e; exact hs ha⟩
 · exact List.mem_append.2 (.inl h.hc)
 · intro x hx
   rcases List.mem_append.1 (show x ∈ u.seen ++ [d] from hx) with e | e
   · exact h.rg x e
   · rw [List.mem_singleton] at e; subst e; exact ⟨hd0, hd1⟩
 · intro x h0 hx
   show rd (u.opn.set c.toNat _) x = _
   rw [rd_set _ _ _ _ hc.1 (by omega) h0, if_neg hx]
   exact h.oo x h0 hx
 · show rd (u.opn.set c.toNat _) c = ((u.seen ++ [d]).length : Int) - 1
   rw [rd_set _ _ _ _ hc.1 (by omega) hc.1, if_pos rfl, h.oc, w64 _ (by omega) (by omega), List.length_append, List.length_singleton]
   omega
 · intro x h0 h1
   show row (app u.users d c) x = U0 x ++ (if x ∈ u.seen ++ [d] /\ x ≠ c then [c] else [])
   rw [row_app _ _ _ _ hd0 (by omega) h0]
   by_cases e : x = d
   · subst e
     rw [if_pos rfl, h.us x h0 h1, if_neg (fun h => hs h.1), if_pos ⟨by simp, hdc⟩]
     simp
   rw [if_neg e, h.us x h0 h1]
   have : (x ∈ u.seen ++ [d]) ↔ x ∈ u.seen := by simp [e]
   simp only [this]
theorem ed3_run {es : List (List Int)} {cm : List Int} {n c : Int} {O0 : Int -> Int} {U0 : Int -> List Int} (S : Sol es cm n) (hn : es.length < 1000000) (hU : ∀ d, 0 <= d -> d < n -> (U0 d).length <= 1000000) (l : List Int) (hl : ∀ w ∈ l, nd es w) :
 ∀ (m k i : Nat) (u : US), i + m = l.length -> m < k -> J n c O0 U0 u -> ∃ u', ed3 k cm c l i u = some u' /\ J n c O0 U0 u' /\ ∀ x, x ∈ u'.seen ↔ x ∈ u.seen \/ ∃ w ∈ l.drop i, rd cm w = x := by
 intro m
 induction m with
 | zero =>
  intro k i u hi hk hJ
  obtain ⟨k, rfl⟩ : ∃ m, k = m + 1 := ⟨k - 1, by omega⟩
  unfold ed3
  rw [if_neg (by omega)]
  refine ⟨u, rfl, hJ, fun x => ?_⟩
  rw [List.drop_eq_nil_of_le (by omega)]
  simp
 | succ m ih =>
  intro k i u hi hk hJ
  obtain ⟨k, rfl⟩ : ∃ m, k = m + 1 := ⟨k - 1, by omega⟩
  have hil : i < l.length := by omega
  have hw : nd es (rd l i) := hl _ (by rw [rd_at l i hil]; exact List.getElem_mem _)
  have hr := S.rng _ hw
  have hN := S.n0
  have hdrop : l.drop i = rd l i :: l.drop (i + 1) := by rw [rd_at l i hil]; exact List.drop_eq_getElem_cons hil
  have hlen : u.seen.length <= n.toNat := nodup_le _ _ hJ.nd (fun x hx => by have := hJ.rg x hx; omega)
  have hlo := hJ.lo
  have hlu := hJ.lu
  have hcr := hJ.rg c hJ.hc
  unfold ed3
  rw [if_pos (by omega), if_pos ⟨hw.1, by rw [S.len]; exact hw.2, wf_small _ hr.1 (by omega)⟩, show (i : Int) + 1 = ((i + 1 : Nat) : Int) by omega]
  by_cases hs : rd cm (rd l i) ∈ u.seen
  · rw [if_pos (List.contains_iff_mem.2 hs)]
    obtain ⟨u', a1, a2, a3⟩ := ih k (i + 1) u (by omega) (by omega) hJ
    refine ⟨u', a1, a2, fun x => ?_⟩
    rw [a3, hdrop]
    simp only [List.mem_cons, exists_eq_or_imp]
    constructor
    · rintro (h | h)
      · exact .inl h
      · exact .inr (.inr h)
    · rintro (h | h | h)
      · exact .inl h
      · subst h; exact .inl hs
      · exact .inr h
  rw [if_neg (fun h => hs (List.contains_iff_mem.1 h))]
  have hrow := hJ.us _ hr.1 hr.2
  have hrl : (row u.users (rd cm (rd l i))).length <= 1000001 := by
   rw [hrow, List.length_append]
   have := hU _ hr.1 hr.2
   split <;> simp <;> omega
  rw [if_pos ⟨hcr.1, by omega, hr.1, by omega, by omega, by omega⟩]
  obtain ⟨u', a1, a2, a3⟩ := ih k (i + 1) _ (by omega) (by omega) (link_J hJ (by omega) hr.1 hr.2 hs)
  refine ⟨u', a1, a2, fun x => ?_⟩
  rw [a3, hdrop]
  show x ∈ u.seen ++ [rd cm (rd l i)] \/ _ ↔ _
  simp only [List.mem_cons, exists_eq_or_imp, List.mem_append, List.not_mem_nil, or_false]
  constructor
  · rintro ((h | h) | h)
    · exact .inl h
    · exact .inr (.inl h.symm)
    · exact .inr (.inr h)
  · rintro (h | h | h)
    · exact .inl (.inl h)
    · exact .inl (.inr h.symm)
    · exact .inr h
theorem ed2_run {es : List (List Int)} {cm : List Int} {n c : Int} {O0 : Int -> Int} {U0 : Int -> List Int} (hvld : Vld es) (S : Sol es cm n) (hn : es.length < 1000000) {L : Nat} (hL : ∀ v, (row es v).length <= L)
 (hU : ∀ d, 0 <= d -> d < n -> (U0 d).length <= 1000000) (l : List Int) (hl : ∀ w ∈ l, nd es w) :
 ∀ (m k i : Nat) (u : US), i + m = l.length -> m + L + 1 < k -> J n c O0 U0 u -> ∃ u', ed2 k es cm c l i u = some u' /\ J n c O0 U0 u' /\ ∀ x, x ∈ u'.seen ↔ x ∈ u.seen \/ ∃ v ∈ l.drop i, ∃ w ∈ row es v, rd cm w = x := by
 intro m
 induction m with
 | zero =>
  intro k i u hi hk hJ
  obtain ⟨k, rfl⟩ : ∃ m, k = m + 1 := ⟨k - 1, by omega⟩
  unfold ed2
  rw [if_neg (by omega)]
  refine ⟨u, rfl, hJ, fun x => ?_⟩
  rw [List.drop_eq_nil_of_le (by omega)]
  simp
 | succ m ih =>
  intro k i u hi hk hJ
  obtain ⟨k, rfl⟩ : ∃ m, k = m + 1 := ⟨k - 1, by omega⟩
  have hil : i < l.length := by omega
  have hw : nd es (rd l i) := hl _ (by rw [rd_at l i hil]; exact List.getElem_mem _)
  have hdrop : l.drop i = rd l i :: l.drop (i + 1) := by rw [rd_at l i hil]; exact List.drop_eq_getElem_cons hil
  unfold ed2
  rw [if_pos (by omega), if_pos ⟨hw.1, hw.2⟩, show (i : Int) + 1 = ((i + 1 : Nat) : Int) by omega]
  obtain ⟨u1, b1, b2, b3⟩ := ed3_run S hn hU (row es (rd l i)) (hvld _ hw) (row es (rd l i)).length k 0 u (by omega) (by have := hL (rd l i); omega) hJ
  rw [show ((0 : Int)) = ((0 : Nat) : Int) from rfl, b1, Option.bind_some]
  obtain ⟨u', a1, a2, a3⟩ := ih k (i + 1) u1 (by omega) (by omega) b2
  refine ⟨u', a1, a2, fun x => ?_⟩
  rw [a3, b3, hdrop]
  simp only [List.mem_cons, exists_eq_or_imp, List.drop_zero]
  exact or_assoc
structure K1 (es : List (List Int)) (cm : List Int) (n c : Int) (u : US) : Prop where
 lo : (u.opn.length : Int) = n
 lu : (u.users.length : Int) = n
 dn : ∀ d, 0 <= d -> d < c -> ∃ P : List Int, P.Nodup /\ (∀ x, x ∈ P ↔ Dep es cm d x) /\ rd u.opn d = P.length
 op : ∀ d, c <= d -> rd u.opn d = 0
 us : ∀ d, 0 <= d -> d < n -> (row u.users d).Nodup /\ ∀ x, x ∈ row u.users d ↔ (0 <= x /\ x < c) /\ Dep es cm x d
theorem ed1_run {es : List (List Int)} {cm : List Int} {n : Int} {ms : List (List Int)} (hvld : Vld es) (S : Sol es cm n) (hn : es.length < 1000000) {L : Nat} (hL : ∀ v, (row es v).length <= L) (hml : (ms.length : Int) = n) (hms : ∀ c, 0 <= c -> c < n -> row ms c = mem cm c) :
 ∀ (m k i : Nat) (u : US), i + m = ms.length -> m + es.length + L + 2 < k -> K1 es cm n i u -> ∃ u', ed1 k es cm ms i u = some u' /\ K1 es cm n n u' := by
 intro m
 induction m with
 | zero =>
  intro k i u hi hk hJ
  obtain ⟨k, rfl⟩ : ∃ m, k = m + 1 := ⟨k - 1, by omega⟩
  unfold ed1
  rw [if_neg (by omega)]
  exact ⟨u, rfl, by rw [<- hml, show ms.length = i by omega]; rw [<- hml] at hJ; rw [show ms.length = i by omega] at hJ; exact hJ⟩
 | succ m ih =>
  intro k i u hi hk hJ
  obtain ⟨k, rfl⟩ : ∃ m, k = m + 1 := ⟨k - 1, by omega⟩
  have hN := S.n0
  have hi0 : (0 : Int) <= i := by omega
  have hin : (i : Int) < n := by omega
  have hbound : ∀ d, 0 <= d -> d < n -> (row u.users d).length <= 1000000 := fun d h0 h1 => by
   have := nodup_le n.toNat _ (hJ.us d h0 h1).1 (fun x hx => by have := ((hJ.us d h0 h1).2 x).1 hx; omega)
   omega
  have hlm : (row ms (i : Int)).length <= es.length := by rw [hms _ hi0 hin, <- S.len]; exact mem_len _ _
  have hnd : ∀ w ∈ row ms (i : Int), nd es w := fun w hw => by
   rw [hms _ hi0 hin] at hw
   have := (mem_mem.1 hw).1
   rw [S.len] at this
   exact this
  have hJ0 : J n i (rd u.opn) (row u.users) { u with seen := [(i : Int)] } := by
   refine ⟨hJ.lo, hJ.lu, by simp, by simp, ?_, fun _ _ _ => rfl, ?_, ?_⟩
   · intro d hd
     rw [List.mem_singleton] at hd
     subst hd
     exact ⟨hi0, hin⟩
   · show rd u.opn i = _
     rw [hJ.op i (Int.le_refl _)]
     rfl
   · intro d h0 h1
     rw [if_neg (by simp)]
     simp
  unfold ed1
  rw [if_pos (by omega), if_pos (wf_small _ hi0 (by omega))]
  obtain ⟨u1, b1, b2, b3⟩ := ed2_run hvld S hn hL hbound (row ms i) hnd (row ms i).length k 0 _ (by omega) (by omega) hJ0
  rw [show ((0 : Int)) = ((0 : Nat) : Int) from rfl, b1, Option.bind_some, show (i : Int) + 1 = ((i + 1 : Nat) : Int) by omega]
  refine ih k (i + 1) u1 (by omega) (by omega) ?_
  have hseen : ∀ x, x ∈ u1.seen ↔ x = i \/ ∃ v ∈ mem cm i, ∃ w ∈ row es v, rd cm w = x := by
   intro x
   rw [b3, hms _ hi0 hin]
   simp
  have hdep : ∀ x, (x ∈ u1.seen /\ x ≠ i) ↔ Dep es cm i x := by
   intro x
   rw [hseen]
   unfold Dep
   constructor
   · rintro ⟨h | h, hx⟩
     · exact absurd h hx
     · exact ⟨Ne.symm hx, h⟩
   · rintro ⟨hx, h⟩
     exact ⟨.inr h, Ne.symm hx⟩
  refine ⟨b2.lo, b2.lu, ?_, ?_, ?_⟩
  · intro d h0 h1
    by_cases e : d = i
    rotate_left
    · rw [b2.oo d h0 e]
      exact hJ.dn d h0 (by omega)
    subst e
    refine ⟨u1.seen.erase i, b2.nd.erase _, fun x => ?_, ?_⟩
    · rw [b2.nd.mem_erase_iff, <- hdep]
      exact And.comm
    · rw [b2.oc, List.length_erase_of_mem b2.hc]
      have := List.length_pos_of_mem b2.hc
      omega
  · intro d hd
    rw [b2.oo d (by omega) (by omega)]
    exact hJ.op d (by omega)
  · intro d h0 h1
    have hu := hJ.us d h0 h1
    rw [b2.us d h0 h1]
    by_cases hx : d ∈ u1.seen /\ d ≠ i
    rotate_left
    · rw [if_neg hx, List.append_nil]
      refine ⟨hu.1, fun x => ?_⟩
      rw [hu.2]
      constructor
      · rintro ⟨h1, h2⟩; exact ⟨by omega, h2⟩
      · rintro ⟨h1, h2⟩
        refine ⟨?_, h2⟩
        by_cases e : x = i
        rotate_left
        · omega
        subst e; exact absurd ((hdep d).2 h2) hx
    rw [if_pos hx]
    refine ⟨?_, fun x => ?_⟩
    · rw [List.nodup_append]
      refine ⟨hu.1, by simp, fun a ha b hb e => ?_⟩
      rw [List.mem_singleton] at hb
      subst hb; subst e
      have := ((hu.2 _).1 ha).1
      omega
    · rw [List.mem_append, hu.2, List.mem_singleton]
      constructor
      · rintro (h | h)
        · exact ⟨by omega, h.2⟩
        · subst h; exact ⟨by omega, (hdep d).1 hx⟩
      · rintro ⟨h1, h2⟩
        by_cases e : x = i
        · exact .inr e
        exact .inl ⟨by omega, h2⟩
structure Rows (es : List (List Int)) (cm : List Int) (n : Int) (ms : List (List Int)) : Prop where
 len : (ms.length : Int) = n
 row : ∀ c, 0 <= c -> c < n -> row ms c = mem cm c
theorem mem_lt (cm : List Int) (c : Int) : (mem cm c).Pairwise (· < ·) := by
 unfold mem
 exact (iota_lt _).filter _
theorem fine_of {es : List (List Int)} {cm : List Int} {n : Int} {ms : List (List Int)} (S : Sol es cm n) (hn : es.length < 1000000) (R : Rows es cm n ms) {c : Int} (h0 : 0 <= c) (h1 : c < n) :
 Fine ms c /\ (nd es (first ms c) /\ rd cm (first ms c) = c) /\ ∀ v, nd es v -> rd cm v = c -> first ms c <= v := by
 have hl := R.len
 obtain ⟨v, hv, hvc⟩ := S.onto c h0 h1
 have hm : v ∈ row ms c := by rw [R.row c h0 h1, mem_mem, S.len]; exact ⟨hv, hvc⟩
 have hpos := List.length_pos_of_mem hm
 have hf : first ms c ∈ row ms c := rd_mem _ _ (Int.le_refl _) (by omega)
 have hf2 := hf
 rw [R.row c h0 h1, mem_mem, S.len] at hf2
 refine ⟨⟨h0, by omega, hpos, hf2.1.1, by omega⟩, ⟨hf2.1, hf2.2⟩, ?_⟩
 intro u hu huc
 have hum : u ∈ row ms c := by rw [R.row c h0 h1, mem_mem, S.len]; exact ⟨hu, huc⟩
 have hp : (row ms c).Pairwise (· < ·) := by rw [R.row c h0 h1]; exact mem_lt _ _
 unfold first
 generalize row ms c = l at *
 cases l with
 | nil => cases hum
 | cons a l =>
  show a <= u
  rcases List.mem_cons.1 hum with e | e
  · omega
  · have := (List.pairwise_cons.1 hp).1 u e
    omega
theorem first_inj {es : List (List Int)} {cm : List Int} {n : Int} {ms : List (List Int)} (S : Sol es cm n) (hn : es.length < 1000000) (R : Rows es cm n ms) {c d : Int} (h0 : 0 <= c) (h1 : c < n) (k0 : 0 <= d) (k1 : d < n)
 (h : first ms c = first ms d) : c = d := by
 rw [<- (fine_of S hn R h0 h1).2.1.2, <- (fine_of S hn R k0 k1).2.1.2, h]
structure Rdy (ms : List (List Int)) (n : Int) (p : Int -> Prop) (ready : List Int) : Prop where
 mem : ∀ x, x ∈ ready ↔ (0 <= x /\ x < n) /\ p x
 srt : ready.Pairwise fun a b => first ms a < first ms b
theorem ins_sorted {ms : List (List Int)} {c : Int} : ∀ (l : List Int), l.Pairwise (fun a b => first ms a < first ms b) -> (∀ x ∈ l, first ms x ≠ first ms c) ->
 (ins l (pos ms (first ms c) l) c).Pairwise (fun a b => first ms a < first ms b) /\ ∀ x, x ∈ ins l (pos ms (first ms c) l) c ↔ x = c \/ x ∈ l := by
 intro l
 induction l with
 | nil => intro _ _; simp [ins]
 | cons a l ih =>
  intro hp hne
  obtain ⟨h1, h2⟩ := List.pairwise_cons.1 hp
  by_cases ha : first ms a < first ms c
  rotate_left
  · have hca : first ms c < first ms a := by have := hne a (by simp); omega
    have hpos : pos ms (first ms c) (a :: l) = 0 := by
     unfold pos
     rw [List.countP_eq_zero]
     intro x hx
     rcases List.mem_cons.1 hx with e | e
     · rw [e]; simpa using ha
     · have := h1 x e
       simp
       omega
    have hins : ins (a :: l) (pos ms (first ms c) (a :: l)) c = c :: a :: l := by
     rw [hpos]; simp [ins]
    rw [hins]
    refine ⟨List.pairwise_cons.2 ⟨fun x hx => ?_, hp⟩, fun x => List.mem_cons⟩
    rcases List.mem_cons.1 hx with e | e
    · rw [e]; exact hca
    · have := h1 x e; omega
  have hpos : pos ms (first ms c) (a :: l) = pos ms (first ms c) l + 1 := by
   unfold pos
   rw [List.countP_cons, if_pos (by simpa using ha)]
  have hins : ins (a :: l) (pos ms (first ms c) (a :: l)) c = a :: ins l (pos ms (first ms c) l) c := by
   rw [hpos]; simp [ins]
  obtain ⟨i1, i2⟩ := ih h2 (fun x hx => hne x (by simp [hx]))
  rw [hins]
  refine ⟨List.pairwise_cons.2 ⟨fun x hx => ?_, i1⟩, fun x => ?_⟩
  · rcases (i2 x).1 hx with e | e
    · rw [e]; exact ha
    · exact h1 x e
  · rw [List.mem_cons, i2, List.mem_cons]
    constructor
    · rintro (h | h | h)
      · exact .inr (.inl h)
      · exact .inl h
      · exact .inr (.inr h)
    · rintro (h | h | h)
      · exact .inr (.inl h)
      · exact .inl h
      · exact .inr (.inr h)
theorem rdy_len {ms : List (List Int)} {n : Int} {p : Int -> Prop} {ready : List Int} (h : Rdy ms n p ready) : ready.length <= n.toNat :=
 nodup_le _ _ (h.srt.imp (fun h e => by subst e; omega)) (fun x hx => by have := (h.mem x).1 hx; omega)
theorem enter_rdy {es : List (List Int)} {cm : List Int} {n : Int} {ms : List (List Int)} (S : Sol es cm n) (hn : es.length < 1000000) (R : Rows es cm n ms) {p q : Int -> Prop} {ready : List Int} {c : Int} (h : Rdy ms n p ready)
 (h0 : 0 <= c) (h1 : c < n) (hc : ¬ p c) (hq : ∀ x, 0 <= x -> x < n -> (q x ↔ x = c \/ p x)) : ∃ r, enterF ms c ready = some r /\ Rdy ms n q r := by
 have hne : ∀ x ∈ ready, first ms x ≠ first ms c := by
  intro x hx e
  obtain ⟨a, b⟩ := (h.mem x).1 hx
  have := first_inj S hn R a.1 a.2 h0 h1 e
  subst this
  exact hc b
 obtain ⟨i1, i2⟩ := ins_sorted ready h.srt hne
 have hl := rdy_len h
 have hN := S.n0
 refine ⟨_, ?_, ⟨fun x => ?_, i1⟩⟩
 · unfold enterF
   rw [if_pos ⟨(fine_of S hn R h0 h1).1, fun d hd => (fine_of S hn R ((h.mem d).1 hd).1.1 ((h.mem d).1 hd).1.2).1, h.srt.imp (fun h => by omega), by omega⟩]
 · rw [i2]
   constructor
   · rintro (e | e)
     · subst e; exact ⟨⟨h0, h1⟩, (hq x h0 h1).2 (.inl rfl)⟩
     · obtain ⟨a, b⟩ := (h.mem x).1 e
       exact ⟨a, (hq x a.1 a.2).2 (.inr b)⟩
   · rintro ⟨a, b⟩
     rcases (hq x a.1 a.2).1 b with e | e
     · exact .inl e
     · exact .inr ((h.mem x).2 ⟨a, e⟩)
theorem Rdy.congr {ms : List (List Int)} {n : Int} {p q : Int -> Prop} {r : List Int} (h : Rdy ms n p r) (hq : ∀ x, 0 <= x -> x < n -> (q x ↔ p x)) : Rdy ms n q r :=
 ⟨fun x => by
  rw [h.mem]
  exact ⟨fun ⟨a, b⟩ => ⟨a, (hq x a.1 a.2).2 b⟩, fun ⟨a, b⟩ => ⟨a, (hq x a.1 a.2).1 b⟩⟩, h.srt⟩
theorem starts_run {es : List (List Int)} {cm : List Int} {n : Int} {ms : List (List Int)} (S : Sol es cm n) (hn : es.length < 1000000) (R : Rows es cm n ms) (opn : List Int) (ho : (opn.length : Int) = n) :
 ∀ (m k i : Nat) (ready : List Int), (i : Int) + m = n -> m < k -> Rdy ms n (fun x => x < i /\ rd opn x = 0) ready -> ∃ r, starts k ms n i opn ready = some r /\ Rdy ms n (fun x => rd opn x = 0) r := by
 intro m
 induction m with
 | zero =>
  intro k i ready hi hk h
  obtain ⟨k, rfl⟩ : ∃ m, k = m + 1 := ⟨k - 1, by omega⟩
  unfold starts
  rw [if_neg (by omega)]
  exact ⟨ready, rfl, h.congr (fun x h0 h1 => ⟨fun e => ⟨by omega, e⟩, fun e => e.2⟩)⟩
 | succ m ih =>
  intro k i ready hi hk h
  obtain ⟨k, rfl⟩ : ∃ m, k = m + 1 := ⟨k - 1, by omega⟩
  unfold starts
  rw [if_pos (by omega), if_pos ⟨by omega, by omega⟩, show (i : Int) + 1 = ((i + 1 : Nat) : Int) by omega]
  by_cases h0 : rd opn i = 0
  rotate_left
  · rw [if_neg h0]
    refine ih k (i + 1) ready (by omega) (by omega) (h.congr (fun x k0 k1 => ?_))
    constructor
    · rintro ⟨a, b⟩
      by_cases e : x = i
      rotate_left
      · exact ⟨by omega, b⟩
      subst e; exact absurd b h0
    · rintro ⟨a, b⟩
      exact ⟨by omega, b⟩
  rw [if_pos h0]
  obtain ⟨r, a1, a2⟩ := enter_rdy S hn R (c := (i : Int)) (q := fun x => x < ((i + 1 : Nat) : Int) /\ rd opn x = 0) h (by omega) (by omega) (by omega) (fun x k0 k1 => by
   constructor
   · rintro ⟨a, b⟩
     by_cases e : x = i
     · exact .inl e
     exact .inr ⟨by omega, b⟩
   · rintro (e | e)
     · subst e; exact ⟨by omega, h0⟩
     · exact ⟨by omega, e.2⟩)
  rw [a1, Option.bind_some]
  exact ih k (i + 1) r (by omega) (by omega) a2
inductive Seq (es : List (List Int)) (cm : List Int) (n : Int) (ms : List (List Int)) : List Int -> Prop
 | nil : Seq es cm n ms []
 | snoc {D : List Int} {c : Int} : Seq es cm n ms D -> 0 <= c -> c < n -> c ∉ D -> (∀ d, Dep es cm c d -> d ∈ D) -> (∀ x, 0 <= x -> x < n -> x ∉ D -> (∀ d, Dep es cm x d -> d ∈ D) -> first ms c <= first ms x) -> Seq es cm n ms (D ++ [c])
theorem Seq.rng {es : List (List Int)} {cm : List Int} {n : Int} {ms : List (List Int)} {D : List Int} (h : Seq es cm n ms D) : D.Nodup /\ (∀ x ∈ D, 0 <= x /\ x < n) /\ ∀ x ∈ D, ∀ d, Dep es cm x d -> d ∈ D := by
 induction h with
 | nil => simp
 | snoc _ h0 h1 h2 h3 h4 ih =>
  obtain ⟨i1, i2, i3⟩ := ih
  refine ⟨?_, ?_, ?_⟩
  · rw [List.nodup_append]
    exact ⟨i1, by simp, fun a ha b hb e => by rw [List.mem_singleton] at hb; subst hb; subst e; exact h2 ha⟩
  · intro x hx
    rcases List.mem_append.1 hx with e | e
    · exact i2 x e
    · rw [List.mem_singleton] at e; subst e; exact ⟨h0, h1⟩
  · intro x hx d hd
    rcases List.mem_append.1 hx with e | e
    · exact List.mem_append.2 (.inl (i3 x e d hd))
    · rw [List.mem_singleton] at e; subst e; exact List.mem_append.2 (.inl (h3 d hd))
def Cnt (n : Int) (q : Int -> Int -> Prop) (opn : List Int) : Prop := (opn.length : Int) = n /\ ∀ u, 0 <= u -> u < n -> ∃ P : List Int, P.Nodup /\ (∀ x ∈ P, 0 <= x /\ x < n) /\ (∀ x, x ∈ P ↔ q u x) /\ rd opn u = P.length
theorem Cnt.zero {n : Int} {q : Int -> Int -> Prop} {opn : List Int} (h : Cnt n q opn) {u : Int} (h0 : 0 <= u) (h1 : u < n) : rd opn u = 0 ↔ ∀ x, ¬ q u x := by
 obtain ⟨P, _, _, p3, p4⟩ := h.2 u h0 h1
 rw [p4]
 constructor
 · intro h x hx
   have := List.length_pos_of_mem ((p3 x).2 hx)
   omega
 · intro h
   cases P with
   | nil => rfl
   | cons a P => exact absurd ((p3 a).1 (by simp)) (h a)
theorem Cnt.congr {n : Int} {q q' : Int -> Int -> Prop} {opn : List Int} (h : Cnt n q opn) (hq : ∀ u x, 0 <= u -> u < n -> (q' u x ↔ q u x)) : Cnt n q' opn :=
 ⟨h.1, fun u h0 h1 => by
  obtain ⟨P, p1, p2, p3, p4⟩ := h.2 u h0 h1
  exact ⟨P, p1, p2, fun x => by rw [p3, hq u x h0 h1], p4⟩⟩
theorem dec_run {es : List (List Int)} {cm : List Int} {n : Int} {ms : List (List Int)} (S : Sol es cm n) (hn : es.length < 1000000) (R : Rows es cm n ms) {D : List Int} {c : Int} (hcD : c ∉ D) (l : List Int) (hnd : l.Nodup)
 (hl : ∀ x, x ∈ l ↔ (0 <= x /\ x < n) /\ Dep es cm x c) :
 ∀ (m k i : Nat) (opn ready : List Int), i + m = l.length -> m < k -> Cnt n (fun u x => Dep es cm u x /\ x ∉ D /\ (x = c -> u ∉ l.take i)) opn ->
  Rdy ms n (fun x => x ∉ D /\ x ≠ c /\ ∀ d, Dep es cm x d -> d ∈ D \/ (d = c /\ x ∈ l.take i)) ready -> (∀ x ∈ l, x ∉ D) ->
  ∃ opn' ready', dec k ms l i opn ready = some (opn', ready') /\ Cnt n (fun u x => Dep es cm u x /\ x ∉ D ++ [c]) opn' /\ Rdy ms n (fun x => x ∉ D ++ [c] /\ ∀ d, Dep es cm x d -> d ∈ D ++ [c]) ready' := by
 intro m
 induction m with
 | zero =>
  intro k i opn ready hi hk hc hr hlD
  obtain ⟨k, rfl⟩ : ∃ m, k = m + 1 := ⟨k - 1, by omega⟩
  unfold dec
  rw [if_neg (by omega)]
  have ht : l.take i = l := List.take_of_length_le (by omega)
  rw [ht] at hc hr
  refine ⟨opn, ready, rfl, hc.congr (fun u x h0 h1 => ?_), hr.congr (fun x h0 h1 => ?_)⟩
  · simp only [List.mem_append, List.mem_singleton, not_or]
    constructor
    · rintro ⟨a, b, d⟩; exact ⟨a, b, fun e => absurd e d⟩
    · rintro ⟨a, b, d⟩
      refine ⟨a, b, fun e => ?_⟩
      subst e
      exact d rfl ((hl u).2 ⟨⟨h0, h1⟩, a⟩)
  · simp only [List.mem_append, List.mem_singleton, not_or]
    constructor
    · rintro ⟨⟨a, b⟩, d⟩
      refine ⟨a, b, fun e he => ?_⟩
      rcases d e he with h | h
      · exact .inl h
      · subst h; exact .inr ⟨rfl, (hl x).2 ⟨⟨h0, h1⟩, he⟩⟩
    · rintro ⟨a, b, d⟩
      refine ⟨⟨a, b⟩, fun e he => ?_⟩
      rcases d e he with h | h
      · exact .inl h
      · exact .inr h.1
 | succ m ih =>
  intro k i opn ready hi hk hc hr hlD
  obtain ⟨k, rfl⟩ : ∃ m, k = m + 1 := ⟨k - 1, by omega⟩
  have hil : i < l.length := by omega
  have hN := S.n0
  have hum : rd l i ∈ l := by rw [rd_at l i hil]; exact List.getElem_mem _
  obtain ⟨hu, hdep⟩ := (hl _).1 hum
  have htake : l.take (i + 1) = l.take i ++ [rd l i] := by rw [rd_at l i hil]; exact List.take_succ_eq_append_getElem hil
  have hnt : rd l i ∉ l.take i := by
   intro h
   have h2 : (l.take (i + 1)).Nodup := hnd.sublist (List.take_sublist _ _)
   rw [htake, List.nodup_append] at h2
   exact h2.2.2 _ h _ (by simp) rfl
  obtain ⟨P, p1, p2, p3, p4⟩ := hc.2 _ hu.1 hu.2
  have hlen := hc.1
  have hcP : c ∈ P := (p3 c).2 ⟨hdep, hcD, fun _ => hnt⟩
  have hPl : P.length <= n.toNat := nodup_le _ _ p1 (fun x hx => by have := p2 x hx; omega)
  have hP0 := List.length_pos_of_mem hcP
  generalize hud : rd l i = u at *
  have hw : wrap64 (rd opn u - 1) = rd opn u - 1 := w64 _ (by omega) (by omega)
  have hc2 : Cnt n (fun u x => Dep es cm u x /\ x ∉ D /\ (x = c -> u ∉ l.take (i + 1))) (opn.set u.toNat (wrap64 (rd opn u - 1))) := by
   refine ⟨by rw [List.length_set]; exact hlen, fun y h0 h1 => ?_⟩
   rw [hw, rd_set _ _ _ _ hu.1 (by omega) h0]
   by_cases e : y = u
   rotate_left
   · rw [if_neg e]
     obtain ⟨P', q1, q2, q3, q4⟩ := hc.2 y h0 h1
     refine ⟨P', q1, q2, fun x => ?_, q4⟩
     rw [q3, htake]
     simp only [List.mem_append, List.mem_singleton, e, or_false]
   subst e
   refine ⟨P.erase c, p1.erase _, fun x hx => p2 x (List.mem_of_mem_erase hx), fun x => ?_, ?_⟩
   · rw [p1.mem_erase_iff, p3, htake]
     simp only [List.mem_append, List.mem_singleton]
     constructor
     · rintro ⟨a, b, d, _⟩; exact ⟨b, d, fun e => absurd e a⟩
     · rintro ⟨a, b, d⟩
       refine ⟨fun e => d e (.inr trivial), a, b, fun e => absurd e (fun e => d e (.inr trivial))⟩
   · rw [if_pos rfl, List.length_erase_of_mem hcP]
     omega
  have hz := hc2.zero hu.1 hu.2
  unfold dec
  rw [if_pos (by omega), hud, if_pos ⟨hu.1, by omega⟩, show (i : Int) + 1 = ((i + 1 : Nat) : Int) by omega]
  by_cases h0 : rd (opn.set u.toNat (wrap64 (rd opn u - 1))) u = 0
  rotate_left
  · rw [if_neg h0]
    have hsome : ∃ x, Dep es cm u x /\ x ∉ D /\ x ≠ c := by
     refine Classical.byContradiction fun hno => h0 (hz.2 fun x hx => hno ⟨x, hx.1, hx.2.1, fun e => ?_⟩)
     exact hx.2.2 e (by rw [htake]; simp)
    refine ih k (i + 1) _ ready (by omega) (by omega) hc2 (hr.congr (fun x k0 k1 => ?_)) hlD
    rw [htake]
    constructor
    · rintro ⟨a, b, d⟩
      refine ⟨a, b, fun y hy => ?_⟩
      rcases d y hy with h | ⟨h, h2⟩
      · exact .inl h
      · rcases List.mem_append.1 h2 with h3 | h3
        · exact .inr ⟨h, h3⟩
        · rw [List.mem_singleton] at h3
          subst h3
          obtain ⟨z, z1, z2, z3⟩ := hsome
          rcases d z z1 with h4 | h4
          · exact absurd h4 z2
          · exact absurd h4.1 z3
    · rintro ⟨a, b, d⟩
      refine ⟨a, b, fun y hy => ?_⟩
      rcases d y hy with h | ⟨h, h2⟩
      · exact .inl h
      · exact .inr ⟨h, List.mem_append.2 (.inl h2)⟩
  rw [if_pos h0]
  have hnone := hz.1 h0
  obtain ⟨r, a1, a2⟩ := enter_rdy S hn R (c := u) (q := fun x => x ∉ D /\ x ≠ c /\ ∀ d, Dep es cm x d -> d ∈ D \/ (d = c /\ x ∈ l.take (i + 1))) hr hu.1 hu.2
   (fun h => by
    rcases h.2.2 c hdep with e | e
    · exact hcD e
    · exact hnt e.2)
   (fun x k0 k1 => by
    rw [htake]
    constructor
    · rintro ⟨a, b, d⟩
      by_cases e : x = u
      · exact .inl e
      refine .inr ⟨a, b, fun y hy => ?_⟩
      rcases d y hy with h | ⟨h, h2⟩
      · exact .inl h
      · rcases List.mem_append.1 h2 with h3 | h3
        · exact .inr ⟨h, h3⟩
        · exact absurd (List.mem_singleton.1 h3) e
    · rintro (e | ⟨a, b, d⟩)
      · subst e
        refine ⟨hlD x hum, fun e => hdep.1 e, fun y hy => ?_⟩
        by_cases e : y ∈ D
        · exact .inl e
        by_cases e2 : y = c
        · exact .inr ⟨e2, by simp⟩
        exact absurd ⟨hy, e, fun e3 => absurd e3 e2⟩ (hnone y)
      · refine ⟨a, b, fun y hy => ?_⟩
        rcases d y hy with h | ⟨h, h2⟩
        · exact .inl h
        · exact .inr ⟨h, List.mem_append.2 (.inl h2)⟩)
  rw [a1, Option.bind_some]
  exact ih k (i + 1) _ r (by omega) (by omega) hc2 a2 hlD
theorem dep_lt {es : List (List Int)} {cm : List Int} {n : Int} (S : Sol es cm n) (hvld : Vld es) {x d : Int} (h : Dep es cm x d) : 0 <= d /\ d < x := by
 obtain ⟨h1, v, hv, w, hw, rfl⟩ := h
 obtain ⟨a, b⟩ := mem_mem.1 hv
 rw [S.len] at a
 have h2 := S.back v a w hw
 have h3 := S.rng w (hvld v a w hw)
 omega
theorem ready_ex {es : List (List Int)} {cm : List Int} {n : Int} (S : Sol es cm n) (hvld : Vld es) (D : List Int) : ∀ (m : Nat) (x : Int), x = m -> x < n -> x ∉ D -> ∃ y, 0 <= y /\ y < n /\ y ∉ D /\ ∀ d, Dep es cm y d -> d ∈ D := by
 intro m
 induction m using Nat.strongRecOn with
 | ind m ih =>
  intro x hx hxn hxD
  by_cases h : ∀ d, Dep es cm x d -> d ∈ D
  · exact ⟨x, by omega, hxn, hxD, h⟩
  obtain ⟨d, hd⟩ := Classical.not_forall.1 h
  obtain ⟨h1, h2⟩ := Classical.not_imp.1 hd
  have := dep_lt S hvld h1
  exact ih d.toNat (by omega) d (by omega) (by omega) h2
theorem drain_run {es : List (List Int)} {cm : List Int} {n : Int} {ms users : List (List Int)} (S : Sol es cm n) (hn : es.length < 1000000) (R : Rows es cm n ms) (hvld : Vld es) (hul : (users.length : Int) = n)
 (hus : ∀ d, 0 <= d -> d < n -> (row users d).Nodup /\ ∀ x, x ∈ row users d ↔ (0 <= x /\ x < n) /\ Dep es cm x d) :
 ∀ (m k : Nat) (D opn ready : List Int), D.length + m = n.toNat -> m + n.toNat + 1 < k -> Seq es cm n ms D -> Cnt n (fun u x => Dep es cm u x /\ x ∉ D) opn -> Rdy ms n (fun x => x ∉ D /\ ∀ d, Dep es cm x d -> d ∈ D) ready ->
  ∃ D', Od.drain k ms users opn ready (D.map (row ms)) = some (D'.map (row ms)) /\ Seq es cm n ms D' /\ ∀ c, 0 <= c -> c < n -> c ∈ D' := by
 intro m
 induction m with
 | zero =>
  intro k D opn ready hm hk hD hc hr
  obtain ⟨k, rfl⟩ : ∃ m, k = m + 1 := ⟨k - 1, by omega⟩
  obtain ⟨d1, d2, d3⟩ := hD.rng
  have hall : ∀ c, 0 <= c -> c < n -> c ∈ D := by
   intro c h0 h1
   refine Classical.byContradiction fun hcD => ?_
   have := nodup_le n.toNat (c :: D) (List.nodup_cons.2 ⟨hcD, d1⟩) (fun x hx => by
    rcases List.mem_cons.1 hx with e | e
    · omega
    · have := d2 x e; omega)
   simp at this
   omega
  have hr0 : ready = [] := by
   cases ready with
   | nil => rfl
   | cons a l =>
    obtain ⟨⟨h0, h1⟩, h2, _⟩ := (hr.mem a).1 (by simp)
    exact absurd (hall a h0 h1) h2
  subst hr0
  refine ⟨D, ?_, hD, hall⟩
  unfold Od.drain
  rw [if_neg (by simp)]
 | succ m ih =>
  intro k D opn ready hm hk hD hc hr
  obtain ⟨k, rfl⟩ : ∃ m, k = m + 1 := ⟨k - 1, by omega⟩
  obtain ⟨d1, d2, d3⟩ := hD.rng
  have hN := S.n0
  have hml := R.len
  cases ready with
  | nil =>
   refine ⟨D, by unfold Od.drain; rw [if_neg (by simp)], hD, fun c h0 h1 => ?_⟩
   refine Classical.byContradiction fun hcD => ?_
   obtain ⟨y, y0, y1, y2, y3⟩ := ready_ex S hvld D c.toNat c (by omega) h1 hcD
   have := (hr.mem y).2 ⟨⟨y0, y1⟩, y2, y3⟩
   cases this
  | cons c rest =>
   obtain ⟨⟨c0, c1⟩, c2, c3⟩ := (hr.mem c).1 (by simp)
   obtain ⟨s1, s2⟩ := List.pairwise_cons.1 hr.srt
   have hu := hus c c0 c1
   have hul2 := nodup_le n.toNat _ hu.1 (fun x hx => by have := ((hu.2 x).1 hx).1; omega)
   have hnc : ∀ x ∈ row users c, x ∉ D := by
    intro x hx hxD
    exact c2 (d3 x hxD c ((hu.2 x).1 hx).2)
   have hrest : Rdy ms n (fun x => x ∉ D /\ x ≠ c /\ ∀ d, Dep es cm x d -> d ∈ D \/ (d = c /\ x ∈ (row users c).take 0)) rest := by
    refine ⟨fun x => ?_, s2⟩
    constructor
    · intro hx
      obtain ⟨a, b, d⟩ := (hr.mem x).1 (List.mem_cons.2 (.inr hx))
      refine ⟨a, b, fun e => ?_, fun y hy => .inl (d y hy)⟩
      subst e
      have := s1 x hx
      omega
    · rintro ⟨a, b, e, d⟩
      rcases List.mem_cons.1 ((hr.mem x).2 ⟨a, b, fun y hy => by
       rcases d y hy with h | h
       · exact h
       · have := h.2; simp at this⟩) with h | h
      · exact absurd h e
      · exact h
   obtain ⟨opn', ready', e1, e2, e3⟩ := dec_run S hn R c2 (row users c) hu.1 hu.2 (row users c).length k 0 opn rest (by omega) (by omega)
    (hc.congr (fun u x _ _ => by simp)) hrest hnc
   have hseq : Seq es cm n ms (D ++ [c]) := by
    refine .snoc hD c0 c1 c2 c3 fun x h0 h1 h2 h3 => ?_
    rcases List.mem_cons.1 ((hr.mem x).2 ⟨⟨h0, h1⟩, h2, h3⟩) with e | e
    · rw [e]; exact Int.le_refl _
    · exact Int.le_of_lt (s1 x e)
   obtain ⟨D', f1, f2, f3⟩ := ih k (D ++ [c]) opn' ready' (by simp; omega) (by omega) hseq e2 e3
   refine ⟨D', ?_, f2, f3⟩
   unfold Od.drain
   have hrd : rd (c :: rest) 0 = c := rfl
   rw [if_pos (by simp), hrd, if_pos ⟨c0, by omega, by omega, by simp; omega⟩]
   show (dec k ms (row users c) ((0 : Nat) : Int) opn rest).bind _ = _
   rw [e1, Option.bind_some]
   rw [List.map_append] at f1
   exact f1
theorem ordered_run {es : List (List Int)} (hvld : Vld es) {L : Nat} (hL : ∀ v, (row es v).length <= L) (hn : es.length < 1000000) (k : Nat) (hk : es.length * (L + 2) + 3 * es.length + L + 9 <= k) :
 ∃ cm n ms D, Sol es cm n /\ Rows es cm n ms /\ orderedF k es = some (D.map (row ms)) /\ Seq es cm n ms D /\ ∀ c, 0 <= c -> c < n -> c ∈ D := by
 obtain ⟨cm, n, h1, S⟩ := strong_sol hvld hL hn k (by omega)
 have hN := S.n0
 have hlen := S.len
 obtain ⟨ms, g1, g2, g3⟩ := grp_run S hn cm.length k 0 (List.replicate n.toNat []) (by omega) (by omega) (by simp; omega) (fun c h0 h1 => by rw [row_rep]; rfl)
 have R : Rows es cm n ms := ⟨g2, g3⟩
 obtain ⟨u, u1, u2⟩ := ed1_run hvld S hn hL g2 g3 ms.length k 0 { opn := List.replicate n.toNat 0, users := List.replicate n.toNat [], seen := [] } (by omega) (by omega)
  ⟨by simp; omega, by simp; omega, fun d h0 h1 => by omega, fun d _ => rd_rep0 _ _, fun d h0 h1 => by rw [row_rep]; simp; omega⟩
 have hcnt : Cnt n (fun u x => Dep es cm u x) u.opn := ⟨u2.lo, fun d h0 h1 => by
  obtain ⟨P, p1, p2, p3⟩ := u2.dn d h0 h1
  exact ⟨P, p1, fun x hx => by have := dep_lt S hvld ((p2 x).1 hx); omega, p2, p3⟩⟩
 obtain ⟨ready, r1, r2⟩ := starts_run S hn R u.opn u2.lo n.toNat k 0 [] (by omega) (by omega) ⟨fun x => by simp; omega, List.Pairwise.nil⟩
 obtain ⟨D, d1, d2, d3⟩ := drain_run S hn R hvld u2.lu u2.us n.toNat k [] u.opn ready (by simp) (by omega) .nil (hcnt.congr (fun _ _ _ _ => by simp)) (r2.congr (fun x h0 h1 => by rw [hcnt.zero h0 h1]; simp))
 refine ⟨cm, n, ms, D, S, R, ?_, d2, d3⟩
 unfold orderedF
 rw [h1, Option.bind_some]
 show (if 0 <= n /\ n < 5864062014805 then _ else none) = _
 rw [if_pos (by omega)]
 show (grp k cm ((0 : Nat) : Int) _).bind _ = _
 rw [g1, Option.bind_some]
 show (ed1 k es cm ms ((0 : Nat) : Int) _).bind _ = _
 rw [u1, Option.bind_some]
 show (starts k ms n ((0 : Nat) : Int) u.opn []).bind _ = _
 rw [r1, Option.bind_some]
 exact d1
end Tp
end Go.Proofs.Ytmadhaccjmakdaa
namespace Go.Proofs.Ytmadhaccjmakdaa
open Go.RowKit Go.Proofs.Yw.A Go.Proofs.Yw.B Go.Proofs.Yw.C Go.Proofs.Ytmadhaccjmakdaa.P
namespace Tp
open Tj Rw Od
theorem succ_cast (i : Nat) (h : i < 1000000000) : wrap64 ((i : Int) + 1) = ((i + 1 : Nat) : Int) := by
 rw [w64 _ (by omega) (by omega)]
 omega
theorem L1_row (l : List (List Int)) (i : Int) : rd_L11 l i = row l i := rfl
theorem row_in (l : List (List Int)) (i : Nat) (h : i < l.length) : row l (i : Int) ∈ l := by
 rw [row_mem l i h]
 exact List.getElem_mem _
def Sm (l : List (List Int)) : Prop := l.length <= 60 /\ ∀ j : Nat, j < l.length -> (row l j).length <= 2000
theorem Sm.row {l : List (List Int)} (h : Sm l) (v : Int) : (row l v).length <= 2000 := by
 by_cases hv : v.toNat < l.length
 rotate_left
 · unfold Tj.row
   rw [List.getD_eq_getElem?_getD, List.getElem?_eq_none (by omega)]
   simp
 have := h.2 v.toNat hv
 unfold Tj.row at *
 rw [Int.toNat_natCast] at this
 exact this
def okn (n : Nat) (w : Int) : Bool := decide (0 <= w) && decide (w < n)
def vldB (l : List (List Int)) : Bool := l.all fun r => r.all (okn l.length)
theorem vldB_iff (l : List (List Int)) : vldB l = true ↔ Vld l := by
 unfold vldB Vld nd
 rw [List.all_eq_true]
 constructor
 · intro h v hv w hw
   obtain ⟨i, rfl⟩ := Int.eq_ofNat_of_zero_le hv.1
   have := List.all_eq_true.1 (h _ (row_in l i (by omega))) w hw
   simpa [okn] using this
 · intro h r hr
   obtain ⟨i, hi, rfl⟩ := List.mem_iff_getElem.1 hr
   rw [List.all_eq_true]
   intro w hw
   rw [<- row_mem l i hi] at hw
   have := h i ⟨by omega, by omega⟩ w hw
   simpa [okn] using this
theorem drop_row (r : List Int) (j : Nat) (hj : j < r.length) : r.drop j = rd r j :: r.drop (j + 1) := by
 rw [rd_at r j hj]
 exact List.drop_eq_getElem_cons hj
theorem drop_rows (l : List (List Int)) (i : Nat) (hi : i < l.length) : l.drop i = row l i :: l.drop (i + 1) := by
 rw [row_mem l i hi]
 exact List.drop_eq_getElem_cons hi
theorem gv_in (l : List (List Int)) (hs : Sm l) (i : Nat) (hi : i < l.length) (ih : ∀ i' : Nat, i' = i + 1 -> Ev (fun k => g_valid.l0 k l (l.length : Int) (i' : Int) l) ((l.drop i').all fun r => r.all (okn l.length))) : ∀ (m j : Nat), j + m = (row l i).length ->
 Ev (fun k => g_valid.l1 k l (l.length : Int) i (row l i) ((row l i).length : Int) j l) (((row l i).drop j).all (okn l.length) && (l.drop (i + 1)).all fun r => r.all (okn l.length)) := by
 have hrl := hs.2 i hi
 have hl := hs.1
 intro m
 induction m with
 | zero =>
  intro j hj
  refine Ev.step (fun k => ?_) (by rw [List.drop_eq_nil_of_le (by omega), List.all_nil, Bool.true_and]; exact ih _ rfl)
  simp only [g_valid.l1]
  (try rw [L1_row])
  rw [if_neg (by omega), succ_cast i (by omega)]
 | succ m ihm =>
  intro j hj
  have hjl : j < (row l i).length := by omega
  rw [drop_row _ j hjl, List.all_cons]
  by_cases hw : okn l.length (rd (row l i) j) = true
  · rw [hw, Bool.true_and]
    have hw2 : 0 <= rd (row l i) j /\ rd (row l i) j < l.length := by simpa [okn] using hw
    refine Ev.step (fun k => ?_) (ihm (j + 1) (by omega))
    simp only [g_valid.l1]
    (try rw [L1_row])
    rw [if_pos (by omega), if_pos (by omega), if_pos (by omega), if_neg (by omega), if_neg (by omega), succ_cast j (by omega)]
  have hf : okn l.length (rd (row l i) j) = false := by simpa using hw
  rw [hf, Bool.false_and, Bool.false_and]
  have hw2 : ¬ (0 <= rd (row l i) j /\ rd (row l i) j < l.length) := by simpa [okn] using hw
  refine Ev.step (fun k => ?_) (Ev.now _)
  simp only [g_valid.l1]
  (try rw [L1_row])
  rw [if_pos (by omega), if_pos (by omega), if_pos (by omega)]
  by_cases h0 : rd (row l i) j < 0
  · rw [if_pos h0]
  rw [if_neg h0, if_pos (by omega)]
theorem gv_out (l : List (List Int)) (hs : Sm l) : ∀ (m i : Nat), i + m = l.length -> Ev (fun k => g_valid.l0 k l (l.length : Int) i l) ((l.drop i).all fun r => r.all (okn l.length)) := by
 have hl := hs.1
 intro m
 induction m with
 | zero =>
  intro i hi
  rw [List.drop_eq_nil_of_le (by omega)]
  refine Ev.step (fun k => ?_) (Ev.now _)
  simp only [g_valid.l0]
  rw [if_neg (by omega)]
  rfl
 | succ m ih =>
  intro i hi
  have hil : i < l.length := by omega
  have h := gv_in l hs i hil (fun i' e => ih i' (by omega)) (row l i).length 0 (by omega)
  rw [drop_rows l i hil, List.all_cons]
  refine Ev.step (fun k => ?_) h
  simp only [g_valid.l0, L1_row]
  rw [if_pos (by omega), if_pos (by omega), if_pos (by omega)]
  rfl
theorem gv_ev (l : List (List Int)) (hs : Sm l) : Ev (fun k => g_valid.f k l) (vldB l) := gv_out l hs l.length 0 (by omega)
end Tp
end Go.Proofs.Ytmadhaccjmakdaa
namespace Go.Proofs.Ytmadhaccjmakdaa
open Go.RowKit Go.Proofs.Yw.A Go.Proofs.Yw.B Go.Proofs.Yw.C Go.Proofs.Ytmadhaccjmakdaa.P
namespace Tp
open Tj Rw Od
open Classical
theorem rc_nd {l : List (List Int)} (hv : Vld l) {a b : Int} (h : Rc l a b) (ha : nd l a) : nd l b := by
 induction h with
 | refl => exact ha
 | tail _ h2 ih => exact hv _ ih _ h2
theorem filt_snoc (p : Int -> Bool) (i : Nat) : (iota (i + 1)).filter p = (iota i).filter p ++ (if p i = true then [(i : Int)] else []) := by
 rw [iota_succ, List.filter_append]
 by_cases h : p i = true <;> simp [h]
theorem filt_len (p : Int -> Bool) (i : Nat) : ((iota i).filter p).length <= i := Nat.le_trans (List.length_filter_le _ _) (by rw [iota_length]; exact Nat.le_refl _)
theorem nodup_sub : ∀ (a b : List Int), a.Nodup -> (∀ x ∈ a, x ∈ b) -> a.length <= b.length := by
 intro a
 induction a with
 | nil => intro b _ _; exact Nat.zero_le _
 | cons x a ih =>
  intro b hd h
  obtain ⟨h1, h2⟩ := List.nodup_cons.1 hd
  have hx := h x (by simp)
  have := ih (b.erase x) h2 (fun y hy => by
   have hne : y ≠ x := by rintro rfl; exact h1 hy
   exact (List.mem_erase_of_ne hne).2 (h y (by simp [hy])))
  rw [List.length_erase_of_mem hx] at this
  have := List.length_pos_of_mem hx
  rw [List.length_cons]
  omega
noncomputable def scc (es : List (List Int)) (m : Int) : List Int := (iota es.length).filter fun x => decide (Rc es m x /\ Rc es x m)
theorem mem_scc {es : List (List Int)} {m x : Int} : x ∈ scc es m ↔ nd es x /\ Rc es m x /\ Rc es x m := by
 unfold scc nd
 rw [List.mem_filter, mem_iota]
 simp
theorem scc_lt (es : List (List Int)) (m : Int) : (scc es m).Pairwise (· < ·) := (iota_lt _).filter _
def Ready (es : List (List Int)) (o : List (List Int)) (m : Int) : Prop := ∀ x, Rc es m x -> x ∈ o.flatten \/ Rc es x m
def Next (es : List (List Int)) (o : List (List Int)) (c : List Int) : Prop :=
 ∃ m, nd es m /\ m ∉ o.flatten /\ Ready es o m /\ (∀ x, nd es x -> x ∉ o.flatten -> Ready es o x -> m <= x) /\ c = scc es m
inductive Kahn (es : List (List Int)) : List (List Int) -> Prop
 | nil : Kahn es []
 | snoc {o : List (List Int)} {c : List Int} : Kahn es o -> Next es o c -> Kahn es (o ++ [c])
def Full (es : List (List Int)) (o : List (List Int)) : Prop := Kahn es o /\ ∀ v, nd es v -> v ∈ o.flatten
theorem next_unique {es o : List (List Int)} {c d : List Int} (h : Next es o c) (k : Next es o d) : c = d := by
 obtain ⟨m, m1, m2, m3, m4, rfl⟩ := h
 obtain ⟨x, x1, x2, x3, x4, rfl⟩ := k
 have h1 := m4 x x1 x2 x3
 have h2 := x4 m m1 m2 m3
 have : m = x := by omega
 rw [this]
theorem kahn_next {es o : List (List Int)} (h : Kahn es o) : ∀ i (hi : i < o.length), Next es (o.take i) o[i] := by
 induction h with
 | nil => intro i hi; cases hi
 | @snoc o c h1 h2 ih =>
  intro i hi
  rw [List.length_append, List.length_singleton] at hi
  by_cases e : i < o.length
  · rw [List.take_append_of_le_length (by omega), List.getElem_append_left e]
    exact ih i e
  have : i = o.length := by omega
  subst this
  simp only [List.take_left, List.getElem_concat_length]
  exact h2
theorem kahn_prefix {es o : List (List Int)} (h : Kahn es o) : ∀ o', Kahn es o' -> o.length <= o'.length -> o = o'.take o.length := by
 induction h with
 | nil => intro o' _ _; simp
 | @snoc o c h1 h2 ih =>
  intro o' ho hl
  rw [List.length_append, List.length_singleton] at hl ⊢
  have e := ih o' ho (by omega)
  have hn := kahn_next ho o.length (by omega)
  rw [<- e] at hn
  rw [List.take_succ_eq_append_getElem (by omega), <- e, next_unique h2 hn]
theorem full_unique {es o o' : List (List Int)} (h : Full es o) (k : Full es o') : o = o' := by
 have key : ∀ {a b : List (List Int)}, Full es a -> Full es b -> a.length <= b.length -> a = b := by
  intro a b ha hb hl
  have e := kahn_prefix ha.1 b hb.1 hl
  by_cases h2 : a.length < b.length
  rotate_left
  · rw [e, List.take_of_length_le (by omega)]
  obtain ⟨m, m1, m2, _⟩ := kahn_next hb.1 a.length h2
  rw [<- e] at m2
  exact absurd (ha.2 m m1) m2
 rcases Nat.le_total o.length o'.length with e | e
 · exact key h k e
 · exact (key k h e).symm
theorem rc_le {es : List (List Int)} {cm : List Int} {n : Int} (S : Sol es cm n) (hvld : Vld es) {a b : Int} (h : Rc es a b) (ha : nd es a) : rd cm b <= rd cm a := by
 induction h with
 | refl => exact Int.le_refl _
 | tail h1 h2 ih => exact Int.le_trans (S.back _ (rc_nd hvld h1 ha) _ h2) ih
theorem mut_iff {es : List (List Int)} {cm : List Int} {n : Int} (S : Sol es cm n) (hvld : Vld es) {a b : Int} (ha : nd es a) (hb : nd es b) : (Rc es a b /\ Rc es b a) ↔ rd cm b = rd cm a := by
 constructor
 · rintro ⟨h1, h2⟩
   have := rc_le S hvld h1 ha
   have := rc_le S hvld h2 hb
   omega
 · intro h
   exact ⟨S.same a b ha hb h.symm, S.same b a hb ha h⟩
theorem mem_scc_eq {es : List (List Int)} {cm : List Int} {n : Int} (S : Sol es cm n) (hvld : Vld es) {m : Int} (hm : nd es m) : mem cm (rd cm m) = scc es m := by
 unfold mem scc
 rw [S.len]
 refine List.filter_congr fun x hx => ?_
 rw [mem_iota] at hx
 rw [Bool.eq_iff_iff, beq_iff_eq, decide_eq_true_iff]
 exact (mut_iff S hvld hm hx).symm
theorem kahn_of_seq {es : List (List Int)} {cm : List Int} {n : Int} {ms : List (List Int)} (S : Sol es cm n) (hn : es.length < 1000000) (R : Rows es cm n ms) (hvld : Vld es) {D : List Int} (h : Seq es cm n ms D) :
 Kahn es (D.map (row ms)) /\ ∀ x, x ∈ (D.map (row ms)).flatten ↔ nd es x /\ rd cm x ∈ D := by
 have flat : ∀ {D : List Int}, Seq es cm n ms D -> ∀ x, x ∈ (D.map (row ms)).flatten ↔ nd es x /\ rd cm x ∈ D := by
  intro D hD x
  have hr := hD.rng.2.1
  rw [List.mem_flatten]
  constructor
  · rintro ⟨l, hl, hx⟩
    obtain ⟨c, hc, rfl⟩ := List.mem_map.1 hl
    rw [R.row c (hr c hc).1 (hr c hc).2, mem_mem, S.len] at hx
    exact ⟨hx.1, by rw [hx.2]; exact hc⟩
  · rintro ⟨h1, h2⟩
    refine ⟨_, List.mem_map.2 ⟨_, h2, rfl⟩, ?_⟩
    rw [R.row _ (hr _ h2).1 (hr _ h2).2, mem_mem, S.len]
    exact ⟨h1, rfl⟩
 have ready : ∀ {D : List Int}, Seq es cm n ms D -> ∀ m, nd es m -> (Ready es (D.map (row ms)) m ↔ ∀ d, Dep es cm (rd cm m) d -> d ∈ D) := by
  intro D hD m hm
  constructor
  · rintro h d ⟨hne, v, hv, w, hw, rfl⟩
    obtain ⟨v1, v2⟩ := mem_mem.1 hv
    rw [S.len] at v1
    have hwn := hvld v v1 w hw
    have hmv : Rc es m v := S.same m v hm v1 v2.symm
    rcases h w (hmv.tail hw) with e | e
    · exact ((flat hD w).1 e).2
    · have := (mut_iff S hvld hm hwn).1 ⟨hmv.tail hw, e⟩
      exact absurd this.symm hne
  · intro h x hx
    have key : nd es x /\ (rd cm x = rd cm m \/ rd cm x ∈ D) := by
     induction hx with
     | refl => exact ⟨hm, .inl rfl⟩
     | @tail b c h1 h2 ih =>
      obtain ⟨i1, i2⟩ := ih
      have hc := hvld _ i1 _ h2
      refine ⟨hc, ?_⟩
      by_cases e : rd cm c = rd cm b
      · rw [e]; exact i2
      have hd : Dep es cm (rd cm b) (rd cm c) := ⟨fun e2 => e e2.symm, b, mem_mem.2 ⟨by rw [S.len]; exact i1, rfl⟩, c, h2, rfl⟩
      rcases i2 with i2 | i2
      · rw [i2] at hd; exact .inr (h _ hd)
      · exact .inr (hD.rng.2.2 _ i2 _ hd)
    rcases key.2 with e | e
    · exact .inr ((mut_iff S hvld hm key.1).2 e).2
    · exact .inl ((flat hD x).2 ⟨key.1, e⟩)
 refine ⟨?_, flat h⟩
 induction h with
 | nil => exact .nil
 | @snoc D c hD c0 c1 c2 c3 c4 ih =>
  rw [List.map_append]
  obtain ⟨f1, ⟨f2, f3⟩, f4⟩ := fine_of S hn R c0 c1
  refine .snoc ih ⟨first ms c, f2, fun e => ?_, (ready hD _ f2).2 (by rw [f3]; exact c3), fun x hx hxD hxr => ?_, ?_⟩
  · have := ((flat hD _).1 e).2
    rw [f3] at this
    exact c2 this
  · have hr := S.rng x hx
    obtain ⟨_, _, g4⟩ := fine_of S hn R hr.1 hr.2
    have h1 := c4 (rd cm x) hr.1 hr.2 (fun e => hxD ((flat hD x).2 ⟨hx, e⟩)) ((ready hD x hx).1 hxr)
    have h2 := g4 x hx rfl
    omega
  · rw [R.row c c0 c1, <- mem_scc_eq S hvld f2, f3]
theorem ordered_ev {es : List (List Int)} (hvld : Vld es) {L : Nat} (hL : ∀ v, (row es v).length <= L) (hn : es.length < 1000000) : ∃ o, Full es o /\ g_ordered.f es = some o := by
 have key : ∀ k, es.length * (L + 2) + 3 * es.length + L + 9 <= k -> ∃ o, Full es o /\ orderedF k es = some o := by
  intro k hk
  obtain ⟨cm, n, ms, D, S, R, h1, h2, h3⟩ := ordered_run hvld hL hn k hk
  obtain ⟨k1, k2⟩ := kahn_of_seq S hn R hvld h2
  exact ⟨_, ⟨k1, fun v hv => (k2 v).2 ⟨hv, h3 _ (S.rng v hv).1 (S.rng v hv).2⟩⟩, h1⟩
 obtain ⟨o, o1, o2⟩ := key _ (Nat.le_refl _)
 refine ⟨o, o1, Od.lim_of (k0 := es.length * (L + 2) + 3 * es.length + L + 9) fun k hk => ?_⟩
 obtain ⟨o', p1, p2⟩ := key k hk
 rw [p2, full_unique p1 o1]
structure Parts (es o : List (List Int)) : Prop where
 asc : ∀ c ∈ o, c.Pairwise (· < ·)
 scc : ∀ c ∈ o, ∃ m, nd es m /\ c = scc es m
 one : o.flatten.Nodup
 back : ∀ (i : Nat) (c : List Int), o[i]? = some c -> ∀ u ∈ c, ∀ w ∈ row es u, ∃ (j : Nat) (d : List Int), j <= i /\ o[j]? = some d /\ w ∈ d
theorem kahn_parts {es o : List (List Int)} (hvld : Vld es) (h : Kahn es o) : Parts es o := by
 induction h with
 | nil => exact ⟨by simp, by simp, by simp, by simp⟩
 | @snoc o c h1 h2 ih =>
  obtain ⟨m, m1, m2, m3, m4, rfl⟩ := h2
  refine ⟨?_, ?_, ?_, ?_⟩
  · intro c hc
    rcases List.mem_append.1 hc with e | e
    · exact ih.asc c e
    · rw [List.mem_singleton] at e; rw [e]; exact scc_lt _ _
  · intro c hc
    rcases List.mem_append.1 hc with e | e
    · exact ih.scc c e
    · rw [List.mem_singleton] at e; exact ⟨m, m1, e⟩
  · rw [List.flatten_append, List.nodup_append]
    refine ⟨ih.one, by rw [List.flatten_cons, List.flatten_nil, List.append_nil]; exact (scc_lt es m).imp (fun h e => by subst e; omega), ?_⟩
    rintro a ha b hb rfl
    have hb' : a ∈ Tp.scc es m := by simpa using hb
    obtain ⟨_, b2, b3⟩ := mem_scc.1 hb'
    obtain ⟨d, hd, had⟩ := List.mem_flatten.1 ha
    obtain ⟨x, _, rfl⟩ := ih.scc d hd
    obtain ⟨_, a2, a3⟩ := mem_scc.1 had
    exact m2 (List.mem_flatten.2 ⟨_, hd, mem_scc.2 ⟨m1, a2.trans b3, b2.trans a3⟩⟩)
  · intro i c hi u hu w hw
    by_cases e : i < o.length
    · rw [List.getElem?_append_left e] at hi
      obtain ⟨j, d, j1, j2, j3⟩ := ih.back i c hi u hu w hw
      exact ⟨j, d, j1, by rw [List.getElem?_append_left (by omega)]; exact j2, j3⟩
    have hil := (List.getElem?_eq_some_iff.1 hi).1
    rw [List.length_append, List.length_singleton] at hil
    have e2 : i = o.length := by omega
    subst e2
    rw [List.getElem?_append_right (Nat.le_refl _), Nat.sub_self, List.getElem?_cons_zero] at hi
    obtain rfl := Option.some.inj hi
    obtain ⟨u1, u2, u3⟩ := mem_scc.1 hu
    have hwn := hvld u u1 w hw
    rcases m3 w (u2.tail hw) with e | e
    · obtain ⟨d, hd, hwd⟩ := List.mem_flatten.1 e
      obtain ⟨j, hj, rfl⟩ := List.mem_iff_getElem.1 hd
      exact ⟨j, _, by omega, by rw [List.getElem?_append_left hj, List.getElem?_eq_getElem hj], hwd⟩
    · exact ⟨o.length, _, Nat.le_refl _, by rw [List.getElem?_append_right (Nat.le_refl _), Nat.sub_self, List.getElem?_cons_zero], mem_scc.2 ⟨hwn, u2.tail hw, e⟩⟩
theorem comps_ev {l : List (List Int)} (hs : Sm l) (hv : Vld l) : ∃ o, Full l o /\ Ev (fun k => g_Components.f k l) o := by
 have h60 := hs.1
 obtain ⟨o, o1, o2⟩ := ordered_ev hv (L := 2000) hs.row (by omega)
 have hb := gv_ev l hs
 rw [(vldB_iff l).2 hv] at hb
 refine ⟨o, o1, Ev.congr (fun k => ?_) (Ev.bind hb (f := fun k t => if t = true then some o else some []) (Ev.now _))⟩
 unfold g_Components.f
 rw [o2]
 rfl
theorem full_len {l o : List (List Int)} (hv : Vld l) (h : Full l o) : o.flatten.length = l.length /\ o.length <= l.length /\ ∀ c ∈ o, c.length <= l.length := by
 have P := kahn_parts hv h.1
 have hsub : ∀ x ∈ o.flatten, x ∈ iota l.length := by
  intro x hx
  obtain ⟨c, hc, hxc⟩ := List.mem_flatten.1 hx
  obtain ⟨m, _, rfl⟩ := P.scc c hc
  exact mem_iota.2 (mem_scc.1 hxc).1
 have h1 := nodup_sub _ _ P.one hsub
 have h2 := nodup_sub (iota l.length) o.flatten ((iota_lt _).imp (fun h e => by subst e; omega)) (fun x hx => h.2 x (mem_iota.1 hx))
 rw [iota_length] at h1 h2
 refine ⟨by omega, ?_, fun c hc => ?_⟩
 · have key : ∀ (q : List (List Int)), (∀ c ∈ q, 0 < c.length) -> q.length <= q.flatten.length := by
    intro q
    induction q with
    | nil => intro _; simp
    | cons a q ih =>
     intro hq
     have := hq a (by simp)
     have := ih (fun c hc => hq c (by simp [hc]))
     rw [List.flatten_cons, List.length_append, List.length_cons]
     omega
   have := key o (fun c hc => by
    obtain ⟨m, m1, rfl⟩ := P.scc c hc
    exact List.length_pos_of_mem (mem_scc.2 ⟨m1, .refl m, .refl m⟩))
   omega
 · obtain ⟨m, m1, rfl⟩ := P.scc c hc
   unfold scc
   exact Nat.le_trans (List.length_filter_le _ _) (by rw [iota_length]; exact Nat.le_refl _)
end Tp
end Go.Proofs.Ytmadhaccjmakdaa
