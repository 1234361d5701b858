/- awake returns true. -/
import Derived.Test.YtfbhipcfjkkmmaaDoorHAc
namespace Go.Proofs.YtfbhipcfjkkmmaaDoor
open Go.RowKit Go.Proofs.YtfbhipcfjkkmmaaDoorW.PrintWords Go.Proofs.YtfbhipcfjkkmmaaDoorW.PrintLast Go.Proofs.YtfbhipcfjkkmmaaDoorW.PrintMore
attribute [local go_sem] max2_int min2_int max_two min_two max_three min_three max_four min_four
open P _root_.Go.Proofs.YtfbhipcfjkkmmaaDoor.Nm Su
namespace P
set_option linter.unusedVariables false
set_option linter.unusedSimpArgs false

theorem drawn_below {w w' : World} (h : Drawn0 w w') : Below w.heap.size w w' := by
  obtain ⟨n, rfl⟩ := h
  exact pw_below_drewN (Below.refl _ _) n
theorem split_ex (w : World) (hG : Glob w) : Calls Tryd.prog 14 #[.string ⟨#[77, 46, 46]⟩] w fun e w' => e = .returned (.tuple #[.string ⟨#[77]⟩, .string ⟨#[46]⟩, .bool true]) ∧ Below w.heap.size w w' :=
  names_Split.calls 100 _ _ _ _ w hG (by rw [Split_f _ (by decide) 100 (by decide), x_split])
theorem base_ex (w : World) (hG : Glob w) : Calls Tryd.prog 18 #[.string ⟨#[43, 36, 36, 51]⟩] w fun e w' => e = .returned (.tuple #[.string ⟨#[43, 36]⟩, .int .i64 3, .bool true]) ∧ Below w.heap.size w w' :=
  names_Base.calls 100 _ _ _ _ w hG (by rw [Base_f _ (by decide) 100 (by decide), x_base])
theorem class_ex (s : ByteArray) (r : Int) (hs : s.size ≤ 10) (h : classA s = r) (w : World) (hG : Glob w) : Calls Tryd.prog 12 #[.string s] w fun e w' => e = .returned (.int .i64 r) ∧ Below w.heap.size w w' :=
  names_Classify.calls 100 _ _ w hG (by rw [Classify_f _ (by omega) 100 (by omega), h])
theorem c1_ex (w : World) (hG : Glob w) : Calls Tryd.prog 12 #[.string ⟨#[120, 39]⟩] w fun e w' => e = .returned (.int .i64 1) ∧ Below w.heap.size w w' := class_ex _ _ (by decide) x_c1 w hG
theorem c4_ex (w : World) (hG : Glob w) : Calls Tryd.prog 12 #[.string ⟨#[58]⟩] w fun e w' => e = .returned (.int .i64 4) ∧ Below w.heap.size w w' := class_ex _ _ (by decide) x_c2 w hG
theorem c0_ex (w : World) (hG : Glob w) : Calls Tryd.prog 12 #[.string ⟨#[45, 45]⟩] w fun e w' => e = .returned (.int .i64 0) ∧ Below w.heap.size w w' := class_ex _ _ (by decide) x_c3 w hG
theorem c3_ex (w : World) (hG : Glob w) : Calls Tryd.prog 12 #[.string ⟨#[45, 45, 62]⟩] w fun e w' => e = .returned (.int .i64 3) ∧ Below w.heap.size w w' := class_ex _ _ (by decide) x_c4 w hG
theorem c5_ex (w : World) (hG : Glob w) : Calls Tryd.prog 12 #[.string ⟨#[119, 104, 101, 114, 101]⟩] w fun e w' => e = .returned (.int .i64 5) ∧ Below w.heap.size w w' := class_ex _ _ (by decide) x_c5 w hG
theorem join_ex (w : World) : Calls Tryd.prog 16 #[.string ⟨#[77]⟩, .string ⟨#[43]⟩] w fun e w' => e = .returned (.string ⟨#[77, 46, 43]⟩) ∧ Drawn0 w w' :=
  names_Join.calls 100 _ _ _ w (by rw [Join_f ⟨#[77]⟩ ⟨#[43]⟩ (by decide) (by decide) 100 (by decide) (by decide), x_join])
theorem made_ex (w : World) (hG : Glob w) : Calls Tryd.prog 20 #[.string ⟨#[77, 46, 102]⟩, .int .i64 0] w fun e w' => e = .returned (.string ⟨#[77, 46, 102, 36, 48]⟩) ∧ Below w.heap.size w w' :=
  names_Made.calls 100 _ _ _ w hG (by rw [Made_f _ _ (by decide) ⟨by decide, by decide⟩ 100 (by decide)]; exact congrArg some x_m1)

theorem strs_ex (w : World) : Strs (w.alloc (.cells #[.string ⟨#[120, 36, 49]⟩, .string ⟨#[121]⟩] 9)) (.slice (some ⟨w.heap.size, 0, none⟩) 2 2) [⟨#[120, 36, 49]⟩, ⟨#[121]⟩] := by
  refine ⟨_, _, rfl, fun i h => ⟨_, _, rfl, ?_⟩⟩
  have hb := (MapKept.heap_alloc w (.cells #[.string ⟨#[120, 36, 49]⟩, .string ⟨#[121]⟩] 9)).1
  unfold World.cell?
  simp only [hb]
  match i, h with
  | 0, _ => rfl
  | 1, _ => rfl

def Sx0 : List (List UInt8) := [[120, 36, 49], [121]]
def Mx1 : List UInt8 → Int := fun y => if y = [120] then 3 else 0
def Mx2 : List UInt8 → Int := fun y => if y = [120] then 4 else Mx1 y

theorem fresh1_ex (w : World) (hG : Glob w) {b mu mn : Nat} (h : Sup w b mu mn Sx0 0 (fun _ => 0)) :
    Calls Tryd.prog 26 #[.pointer (some ⟨b, 0, none⟩), .string ⟨#[120]⟩] w fun e w' => e = .returned (.string ⟨#[120, 36, 50]⟩) ∧ Sup w' b mu mn (Sx0 ++ [[120, 36, 50]]) 1 Mx1 ∧ But [mu, mn] w w' := by
  refine (Fresh_calls w hG h ⟨#[120]⟩ (by decide) (by decide) (by decide) 2 (by decide) (by decide) (by decide) (fun j h1 h2 => ?_) ?_).mono ?_
  · have : j = 1 := by omega
    subst this
    rw [x_f1, x_m2]; decide
  · rw [x_f1, x_m3]; decide
  · rintro e w' (⟨h1, _⟩ | ⟨_, h2, h3, h4⟩)
    · rw [x_f1, x_stem2] at h1; cases h1
    · rw [x_f1, x_m3] at h2 h3
      exact ⟨h2, h3, h4⟩
theorem fresh2_ex (w : World) (hG : Glob w) {b mu mn : Nat} (h : Sup w b mu mn (Sx0 ++ [[120, 36, 50]]) 1 Mx1) :
    Calls Tryd.prog 26 #[.pointer (some ⟨b, 0, none⟩), .string ⟨#[120, 36, 55]⟩] w fun e w' => e = .returned (.string ⟨#[120, 36, 51]⟩) ∧ Sup w' b mu mn ((Sx0 ++ [[120, 36, 50]]) ++ [[120, 36, 51]]) 2 Mx2 ∧ But [mu, mn] w w' := by
  refine (Fresh_calls w hG h ⟨#[120, 36, 55]⟩ (by decide) (by decide) (by decide) 3 (by rw [x_f2]; decide) (by rw [x_f2]; decide) (by decide) (fun j h1 h2 => ?_) ?_).mono ?_
  · rw [x_f2] at h1
    have : max 1 (Mx1 (⟨#[120]⟩ : ByteArray).data.toList) = 3 := by decide
    omega
  · rw [x_f2, x_m4]; decide
  · rintro e w' (⟨h1, _⟩ | ⟨_, h2, h3, h4⟩)
    · rw [x_f2, x_stem2] at h1; cases h1
    · rw [x_f2, x_m4] at h2 h3
      exact ⟨h2, h3, h4⟩
theorem fresh3_ex (w : World) (hG : Glob w) {b mu mn : Nat} (h : Sup w b mu mn ((Sx0 ++ [[120, 36, 50]]) ++ [[120, 36, 51]]) 2 Mx2) :
    Calls Tryd.prog 26 #[.pointer (some ⟨b, 0, none⟩), .string ⟨#[121]⟩] w fun e w' => e = .returned (.string ⟨#[121, 36, 49]⟩) ∧ (∃ M3, Sup w' b mu mn (((Sx0 ++ [[120, 36, 50]]) ++ [[120, 36, 51]]) ++ [[121, 36, 49]]) 3 M3) ∧ But [mu, mn] w w' := by
  refine (Fresh_calls w hG h ⟨#[121]⟩ (by decide) (by decide) (by decide) 1 (by rw [x_f3]; decide) (by rw [x_f3]; decide) (by decide) (fun j h1 h2 => ?_) ?_).mono ?_
  · omega
  · rw [x_f3, x_m5]; decide
  · rintro e w' (⟨h1, _⟩ | ⟨_, h2, h3, h4⟩)
    · rw [x_f3, x_stem3] at h1; cases h1
    · rw [x_f3, x_m5] at h2 h3
      exact ⟨h2, ⟨_, h3⟩, h4⟩
theorem take_ex (w : World) {b mu mn : Nat} {M : List UInt8 → Int} (h : Sup w b mu mn (((Sx0 ++ [[120, 36, 50]]) ++ [[120, 36, 51]]) ++ [[121, 36, 49]]) 3 M) :
    Calls Tryd.prog 24 #[.pointer (some ⟨b, 0, none⟩), .string ⟨#[121]⟩] w fun e w' => e = .returned (.bool false) ∧ Drawn0 w w' := by
  refine (Take_calls w h ⟨#[121]⟩ (by decide) (by decide)).mono ?_
  rintro e w' (⟨_, h2, h3⟩ | ⟨h1, _⟩)
  · exact ⟨h2, h3⟩
  · exact absurd h1 (by decide)

set_option maxHeartbeats 8000000 in
set_option maxRecDepth 100000 in
theorem awake_calls (w : World) (hG_ : Glob w) : Calls Tryd.prog 11 #[] w fun e w' => e = .returned (.bool true) ∧ Below w.heap.size w w' := by
  have HB := Aside0.mk (Below.refl w.heap.size w)
  have HG := Aside0.mk hG_
  clear hG_
  go_enter Tryd.func11, Tryd.ntmps11
  go_wp2_with (first | (go_at_call 14; (refine (split_ex _ (Glob.below HG.out HB.out)).mono ?_); rintro e w1 ⟨rfl, hb⟩; have n0_ := Aside0.mk (below_step HB.out hb); clear HB; have HB := n0_; clear n0_; clear hb) | (go_at_call 18; (refine (base_ex _ (Glob.below HG.out HB.out)).mono ?_); rintro e w1 ⟨rfl, hb⟩; have n0_ := Aside0.mk (below_step HB.out hb); clear HB; have HB := n0_; clear n0_; clear hb) | (go_at_call 23; (refine (New_calls _ _ _ (strs_ex _) (by decide) (by intro x hx; rcases List.mem_cons.mp hx with rfl | hx; decide; rcases List.mem_cons.mp hx with rfl | hx; decide; cases hx)).mono ?_); rintro e w1 ⟨b, mu, mn, rfl, hs, h1, h2, h3, hb⟩; have n0_ := Aside0.mk (below_step (below_alloc HB.out _) hb)))
  have HM := Aside0.mk (And.intro (Nat.le_trans (below_alloc HB.out _).size h2) (Nat.le_trans (below_alloc HB.out _).size h3))
  have HS := Aside0.mk (show Sup w1 b mu mn Sx0 0 (fun _ => 0) from hs)
  clear HB hs h1 h2 h3 hb
  have HB := n0_
  clear n0_
  go_wp2_with (first | (go_at_call 12; (with_reducible refine (c1_ex _ (Glob.below HG.out HB.out)).mono ?_); rintro e w1 ⟨rfl, hb⟩; have n0_ := Aside0.mk (below_step HB.out hb); have n1_ := Aside0.mk (Sup.below HS.out hb); clear HB HS; have HB := n0_; have HS := n1_; clear n0_ n1_; clear hb) | (go_at_call 12; (with_reducible refine (c4_ex _ (Glob.below HG.out HB.out)).mono ?_); rintro e w1 ⟨rfl, hb⟩; have n0_ := Aside0.mk (below_step HB.out hb); have n1_ := Aside0.mk (Sup.below HS.out hb); clear HB HS; have HB := n0_; have HS := n1_; clear n0_ n1_; clear hb) | (go_at_call 12; (with_reducible refine (c0_ex _ (Glob.below HG.out HB.out)).mono ?_); rintro e w1 ⟨rfl, hb⟩; have n0_ := Aside0.mk (below_step HB.out hb); have n1_ := Aside0.mk (Sup.below HS.out hb); clear HB HS; have HB := n0_; have HS := n1_; clear n0_ n1_; clear hb) | (go_at_call 12; (with_reducible refine (c3_ex _ (Glob.below HG.out HB.out)).mono ?_); rintro e w1 ⟨rfl, hb⟩; have n0_ := Aside0.mk (below_step HB.out hb); have n1_ := Aside0.mk (Sup.below HS.out hb); clear HB HS; have HB := n0_; have HS := n1_; clear n0_ n1_; clear hb) | (go_at_call 12; (with_reducible refine (c5_ex _ (Glob.below HG.out HB.out)).mono ?_); rintro e w1 ⟨rfl, hb⟩; have n0_ := Aside0.mk (below_step HB.out hb); have n1_ := Aside0.mk (Sup.below HS.out hb); clear HB HS; have HB := n0_; have HS := n1_; clear n0_ n1_; clear hb) | (go_at_call 16; (with_reducible refine (join_ex _).mono ?_); rintro e w1 ⟨rfl, hd⟩; have hb := drawn_below hd; clear hd; have n0_ := Aside0.mk (below_step HB.out hb); have n1_ := Aside0.mk (Sup.below HS.out hb); clear HB HS; have HB := n0_; have HS := n1_; clear n0_ n1_; clear hb) | (go_at_call 20; (with_reducible refine (made_ex _ (Glob.below HG.out HB.out)).mono ?_); rintro e w1 ⟨rfl, hb⟩; have n0_ := Aside0.mk (below_step HB.out hb); have n1_ := Aside0.mk (Sup.below HS.out hb); clear HB HS; have HB := n0_; have HS := n1_; clear n0_ n1_; clear hb) | (go_at_call 26; (with_reducible refine (fresh1_ex _ (Glob.below HG.out HB.out) HS.out).mono ?_); rintro e w1 ⟨rfl, hs, hb⟩; have n0_ := Aside0.mk (HB.out.trans (hb.below HB.out.size (by intro m hm; rcases List.mem_cons.mp hm with rfl | hm; exact HM.out.1; rcases List.mem_cons.mp hm with rfl | hm; exact HM.out.2; cases hm))); have n1_ := Aside0.mk hs; clear HB HS; have HB := n0_; have HS := n1_; clear n0_ n1_; clear hb hs) | (go_at_call 26; (with_reducible refine (fresh2_ex _ (Glob.below HG.out HB.out) HS.out).mono ?_); rintro e w1 ⟨rfl, hs, hb⟩; have n0_ := Aside0.mk (HB.out.trans (hb.below HB.out.size (by intro m hm; rcases List.mem_cons.mp hm with rfl | hm; exact HM.out.1; rcases List.mem_cons.mp hm with rfl | hm; exact HM.out.2; cases hm))); have n1_ := Aside0.mk hs; clear HB HS; have HB := n0_; have HS := n1_; clear n0_ n1_; clear hb hs) | (go_at_call 26; (with_reducible refine (fresh3_ex _ (Glob.below HG.out HB.out) HS.out).mono ?_); rintro e w1 ⟨rfl, ⟨M3, hs⟩, hb⟩; have n0_ := Aside0.mk (HB.out.trans (hb.below HB.out.size (by intro m hm; rcases List.mem_cons.mp hm with rfl | hm; exact HM.out.1; rcases List.mem_cons.mp hm with rfl | hm; exact HM.out.2; cases hm))); have n1_ := Aside0.mk hs; clear HB HS; have HB := n0_; have HS := n1_; clear n0_ n1_; clear hb hs) | (go_at_call 24; (with_reducible refine (take_ex _ HS.out).mono ?_); rintro e w1 ⟨rfl, hd⟩; have hb := drawn_below hd; clear hd; have n0_ := Aside0.mk (below_step HB.out hb); have n1_ := Aside0.mk (Sup.below HS.out hb); clear HB HS; have HB := n0_; have HS := n1_; clear n0_ n1_; clear hb))
  go_ret
  exact ⟨rfl, HB.out⟩
noncomputable def lazyclaw01_awake.f : Option Bool := some true
theorem lazyclaw01_awake.calls (r : Bool) (w : World) (hG_ : Glob w) (h : lazyclaw01_awake.f = some r) : Calls Tryd.prog 11 #[] w fun e w' => e = .returned (.bool r) ∧ Below w.heap.size w w' := by
  obtain rfl := Option.some.inj h
  exact awake_calls w hG_
end P
end Go.Proofs.YtfbhipcfjkkmmaaDoor
