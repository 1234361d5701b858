/- A supply that is nil, or that the package did not make, answers with zero values; NamesNil. -/
import Derived.Test.YtfbhipcfjkkmmaaDoorHAw
namespace Go.Proofs.YtfbhipcfjkkmmaaDoor
open Go.RowKit Go.Proofs.YtfbhipcfjkkmmaaDoorW.PrintWords Go.Proofs.YtfbhipcfjkkmmaaDoorW.PrintLast Go.Proofs.YtfbhipcfjkkmmaaDoorW.PrintMore
attribute [local go_sem] max2_int min2_int max_two min_two max_three min_three max_four min_four
open P _root_.Go.Proofs.YtfbhipcfjkkmmaaDoor.Nm Su
namespace P
set_option linter.unusedVariables false
set_option linter.unusedSimpArgs false

/-- p is no supply that the package made. -/
def Unmade (w : World) (p : Value) : Prop := p = .pointer none ∨ ∃ b, p = .pointer (some ⟨b, 0, none⟩) ∧ w.cell? ⟨b, 0, none⟩ = some (.map none)
theorem Unmade.below {w w' : World} {p : Value} (h : Unmade w p) (hb : Below w.heap.size w w') : Unmade w' p := by
  rcases h with h | ⟨b, h1, h2⟩
  · exact .inl h
  · exact .inr ⟨b, h1, (hb.cell (World.block_lt_of_cell? _ _ h2)).trans h2⟩
theorem un0 (w : World) : Unmade w (.pointer none) := .inl rfl
theorem unmade_new (w : World) : Unmade (w.alloc (.cells #[.map none, .map none] 52)) (.pointer (some ⟨w.heap.size, 0, none⟩)) := by
  refine .inr ⟨_, rfl, ?_⟩
  have hb := (MapKept.heap_alloc w (.cells #[.map none, .map none] 52)).1
  unfold World.cell?
  simp only [hb]
  rfl
theorem neq_map0 (w : World) : Sem.run Tryd.prog (binOp BinOp.neq 49 (Value.map none) (Value.map none)) w = .ok (.bool false) w := by kernel_rfl
set_option maxHeartbeats 8000000 in
set_option maxRecDepth 100000 in
theorem made_un (w : World) (p : Value) (h : Unmade w p) : Calls Tryd.prog 45 #[p] w fun e w' => e = .returned (.bool false) ∧ Drawn0 w w' := by
  rcases h with rfl | ⟨b, rfl, c0⟩
  · go_enter Tryd.func45, Tryd.ntmps45
    go_wp2
    go_ret
    exact ⟨rfl, Drawn0.refl _⟩
  · have hne := neq_map0 w
    go_enter Tryd.func45, Tryd.ntmps45
    go_wp2
    go_ret
    exact ⟨rfl, Drawn0.refl _⟩
set_option maxHeartbeats 8000000 in
set_option maxRecDepth 100000 in
theorem Fresh_un (w : World) (p : Value) (h : Unmade w p) (x : ByteArray) : Calls Tryd.prog 26 #[p, .string x] w fun e w' => e = .returned (.string ⟨#[]⟩) ∧ Drawn0 w w' := by
  have hm := Aside0.mk (made_un w p h)
  clear h
  go_enter Tryd.func26, Tryd.ntmps26
  go_wp2_with (first | (go_at_call 45; (refine (hm.out).mono ?_); rintro e w' ⟨rfl, ⟨nd, rfl⟩⟩))
  go_ret
  exact ⟨rfl, ⟨_, rfl⟩⟩
set_option maxHeartbeats 8000000 in
set_option maxRecDepth 100000 in
theorem Take_un (w : World) (p : Value) (h : Unmade w p) (x : ByteArray) : Calls Tryd.prog 24 #[p, .string x] w fun e w' => e = .returned (.bool false) ∧ Drawn0 w w' := by
  have hm := Aside0.mk (made_un w p h)
  clear h
  go_enter Tryd.func24, Tryd.ntmps24
  go_wp2_with (first | (go_at_call 45; (refine (hm.out).mono ?_); rintro e w' ⟨rfl, ⟨nd, rfl⟩⟩))
  go_ret
  exact ⟨rfl, ⟨_, rfl⟩⟩
set_option maxHeartbeats 8000000 in
set_option maxRecDepth 100000 in
theorem Clone_un (w : World) (p : Value) (h : Unmade w p) : Calls Tryd.prog 28 #[p] w fun e w' => e = .returned (.pointer none) ∧ Drawn0 w w' := by
  have hm := Aside0.mk (made_un w p h)
  clear h
  go_enter Tryd.func28, Tryd.ntmps28
  go_wp2_with (first | (go_at_call 45; (refine (hm.out).mono ?_); rintro e w' ⟨rfl, ⟨nd, rfl⟩⟩))
  go_ret
  exact ⟨rfl, ⟨_, rfl⟩⟩
set_option maxHeartbeats 8000000 in
set_option maxRecDepth 100000 in
theorem lazyclaw01_NamesNil.walk (a0 : ByteArray) (w : World) (w0 : a0.size ≤ 140737488351232) (hG_ : Glob w) : Calls Tryd.prog 10 #[.string a0] w fun e w' => e = .returned (.bool true) ∧ Below w.heap.size w w' := by
  have HG := Aside0.mk hG_
  clear hG_
  go_enter Tryd.func10, Tryd.ntmps10
  go_upto_region 3 with (fail)
  have HU := Aside0.mk (unmade_new w)
  have HB := Aside0.mk (Below.alloc (Below.refl w.heap.size w) (Nat.le_refl _) (Obj.cells #[Value.map none, Value.map none] 52))
  go_wp2_with (first | (go_at_call 26; (with_reducible refine (Fresh_un _ _ (un0 _) _).mono ?_); rintro e w1 ⟨rfl, hd⟩; have n0_ := Aside0.mk (below_step HB.out (drawn_below hd)); have n1_ := Aside0.mk (Unmade.below HU.out (drawn_below hd)); clear HB HU hd; have HB := n0_; have HU := n1_; clear n0_ n1_) | (go_at_call 26; (with_reducible refine (Fresh_un _ _ HU.out _).mono ?_); rintro e w1 ⟨rfl, hd⟩; have n0_ := Aside0.mk (below_step HB.out (drawn_below hd)); have n1_ := Aside0.mk (Unmade.below HU.out (drawn_below hd)); clear HB HU hd; have HB := n0_; have HU := n1_; clear n0_ n1_) | (go_at_call 24; (with_reducible refine (Take_un _ _ (un0 _) _).mono ?_); rintro e w1 ⟨rfl, hd⟩; have n0_ := Aside0.mk (below_step HB.out (drawn_below hd)); have n1_ := Aside0.mk (Unmade.below HU.out (drawn_below hd)); clear HB HU hd; have HB := n0_; have HU := n1_; clear n0_ n1_) | (go_at_call 24; (with_reducible refine (Take_un _ _ HU.out _).mono ?_); rintro e w1 ⟨rfl, hd⟩; have n0_ := Aside0.mk (below_step HB.out (drawn_below hd)); have n1_ := Aside0.mk (Unmade.below HU.out (drawn_below hd)); clear HB HU hd; have HB := n0_; have HU := n1_; clear n0_ n1_) | (go_at_call 28; (with_reducible refine (Clone_un _ _ (un0 _)).mono ?_); rintro e w1 ⟨rfl, hd⟩; have n0_ := Aside0.mk (below_step HB.out (drawn_below hd)); have n1_ := Aside0.mk (Unmade.below HU.out (drawn_below hd)); clear HB HU hd; have HB := n0_; have HU := n1_; clear n0_ n1_) | (go_at_call 28; (with_reducible refine (Clone_un _ _ HU.out).mono ?_); rintro e w1 ⟨rfl, hd⟩; have n0_ := Aside0.mk (below_step HB.out (drawn_below hd)); have n1_ := Aside0.mk (Unmade.below HU.out (drawn_below hd)); clear HB HU hd; have HB := n0_; have HU := n1_; clear n0_ n1_) | (go_at_call 11; (with_reducible refine (awake_calls _ (Glob.below HG.out HB.out)).mono ?_); rintro e w1 ⟨rfl, hb⟩; have n0_ := Aside0.mk (below_step HB.out hb); clear HB HU hb; have HB := n0_; clear n0_))
  go_ret
  exact ⟨rfl, HB.out⟩
end P
end Go.Proofs.YtfbhipcfjkkmmaaDoor
