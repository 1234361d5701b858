/- The supply's clone; a supply whose blocks are left alone; its set read as another list of the same members. -/
import Derived.Test.YtfbhipcfjkkmmaaDoorHFr
import Derived.Shelf.SlMaps.Clone
import Derived.Laws.Externs
namespace Go.Proofs.YtfbhipcfjkkmmaaDoor
open Go.RowKit Go.Proofs.YtfbhipcfjkkmmaaDoorW.PrintWords Go.Proofs.YtfbhipcfjkkmmaaDoorW.PrintLast Go.Proofs.YtfbhipcfjkkmmaaDoorW.PrintMore
attribute [local go_sem] max2_int min2_int max_two min_two max_three min_three max_four min_four
open P _root_.Go.Proofs.YtfbhipcfjkkmmaaDoor.Nm
namespace Su
set_option linter.unusedVariables false
set_option linter.unusedSimpArgs false

set_option maxHeartbeats 2000000 in
set_option maxRecDepth 100000 in
theorem clone46 (b : Nat) (es : Array MapEntry) (clock : Nat) (w : World) (hb : w.heap[b]? = some (.map es clock)) :
    Calls Tryd.prog 46 #[.map (some b)] w fun e w' => e = .returned (.map (some w.heap.size)) ∧ w' = w.alloc (.map es clock) := by
  have hq := fun w => run_eql_map_nil_sl (P := Tryd.prog) w 49 _ _ (some b) Tryd.underlying49
  go_enter Tryd.func46, Tryd.ntmps46
  go_wp2
  rw [run_callFunc_extern Tryd.func64 (by kernel_rfl) (by kernel_rfl) (by kernel_rfl) (e := Extern.MapsClone.clone) (by kernel_rfl), run_maps_clone_sl w 49 hb]
  simp only [Result.andThen]
  rw [Oper.upon_value]
  go_wp2
  rw [run_typeAssert_map_sl _ 49 20 _ _ _ Tryd.underlying49]
  simp only [Result.andThen]
  rw [Oper.upon_value]
  go_wp2
  go_ret
  exact ⟨rfl, rfl⟩
set_option maxHeartbeats 2000000 in
set_option maxRecDepth 100000 in
theorem clone47 (b : Nat) (es : Array MapEntry) (clock : Nat) (w : World) (hb : w.heap[b]? = some (.map es clock)) :
    Calls Tryd.prog 47 #[.map (some b)] w fun e w' => e = .returned (.map (some w.heap.size)) ∧ w' = w.alloc (.map es clock) := by
  have hq := fun w => run_eql_map_nil_sl (P := Tryd.prog) w 50 _ _ (some b) Tryd.underlying50
  go_enter Tryd.func47, Tryd.ntmps47
  go_wp2
  rw [run_callFunc_extern Tryd.func64 (by kernel_rfl) (by kernel_rfl) (by kernel_rfl) (e := Extern.MapsClone.clone) (by kernel_rfl), run_maps_clone_sl w 50 hb]
  simp only [Result.andThen]
  rw [Oper.upon_value]
  go_wp2
  rw [run_typeAssert_map_sl _ 50 20 _ _ _ Tryd.underlying50]
  simp only [Result.andThen]
  rw [Oper.upon_value]
  go_wp2
  go_ret
  exact ⟨rfl, rfl⟩
theorem SetAt.clone {w : World} {b : Nat} {S : List (List UInt8)} (h : SetAt w b S) :
    Calls Tryd.prog 46 #[.map (some b)] w fun e w' => e = .returned (.map (some w.heap.size)) ∧ SetAt w' w.heap.size S ∧ w.heap.size < w'.heap.size ∧ Below w.heap.size w w' := by
  obtain ⟨n, D, hown, h2⟩ := h
  have hlt := hown.lt
  obtain ⟨es, clock, hb, F, hs, hD⟩ := hown
  refine (clone46 b es clock w hb).mono fun e w' ⟨he, hw⟩ => ?_
  subst hw
  exact ⟨he, ⟨n, D, ⟨es, clock, (MapKept.heap_alloc w _).1, F, hs, hD⟩, h2⟩, by simp, (Below.refl _ w).alloc (Nat.le_refl _) _⟩
theorem NumAt.clone {w : World} {b c : Nat} {M : List UInt8 → Int} (h : NumAt w b c M) :
    Calls Tryd.prog 47 #[.map (some b)] w fun e w' => e = .returned (.map (some w.heap.size)) ∧ NumAt w' w.heap.size c M ∧ w.heap.size < w'.heap.size ∧ Below w.heap.size w w' := by
  obtain ⟨n, D, hown, h2⟩ := h
  have hlt := hown.lt
  obtain ⟨es, clock, hb, F, hs, hD⟩ := hown
  refine (clone47 b es clock w hb).mono fun e w' ⟨he, hw⟩ => ?_
  subst hw
  exact ⟨he, ⟨n, D, ⟨es, clock, (MapKept.heap_alloc w _).1, F, hs, hD⟩, h2⟩, by simp, (Below.refl _ w).alloc (Nat.le_refl _) _⟩

theorem SetAt.but {L : List Nat} {w w' : World} {b : Nat} {S : List (List UInt8)} (h : SetAt w b S) (hb : But L w w') (hn : b ∉ L) : SetAt w' b S := by
  obtain ⟨n, D, h1, h2⟩ := h
  have hlt := h1.lt
  obtain ⟨es, clock, hb1, F, hs, hD⟩ := h1
  exact ⟨n, D, ⟨es, clock, (hb.block b hlt hn).trans hb1, F, hs, hD⟩, h2⟩
theorem NumAt.but {L : List Nat} {w w' : World} {b c : Nat} {M : List UInt8 → Int} (h : NumAt w b c M) (hb : But L w w') (hn : b ∉ L) : NumAt w' b c M := by
  obtain ⟨n, D, h1, h2⟩ := h
  have hlt := h1.lt
  obtain ⟨es, clock, hb1, F, hs, hD⟩ := h1
  exact ⟨n, D, ⟨es, clock, (hb.block b hlt hn).trans hb1, F, hs, hD⟩, h2⟩
theorem But.cell {L : List Nat} {w w' : World} (h : But L w w') {b o : Nat} {v : Value} (hc : w.cell? ⟨b, o, none⟩ = some v) (hn : b ∉ L) : w'.cell? ⟨b, o, none⟩ = some v :=
  (World.cell?_of_block (h.block b (World.block_lt_of_cell? _ _ hc) hn)).trans hc
theorem Sup.but {L : List Nat} {w w' : World} {b mu mn : Nat} {S : List (List UInt8)} {c : Nat} {M : List UInt8 → Int} (h : Sup w b mu mn S c M) (hb : But L w w') (h1 : b ∉ L) (h2 : mu ∉ L) (h3 : mn ∉ L) : Sup w' b mu mn S c M :=
  ⟨hb.cell h.cell0 h1, hb.cell h.cell1 h1, h.set.but hb h2, h.num.but hb h3, h.ne, h.bu, h.bn⟩
theorem SetAt.as {w : World} {b : Nat} {S S' : List (List UInt8)} (h : SetAt w b S) (hm : ∀ x, S'.contains x = S.contains x) (hl : S.length ≤ S'.length) : SetAt w b S' := by
  obtain ⟨n, D, h1, h2, h3, h4⟩ := h
  exact ⟨n, D, h1, Nat.le_trans h2 hl, h3, fun x hx => by rw [hm]; exact h4 x hx⟩
theorem Sup.as {w : World} {b mu mn : Nat} {S S' : List (List UInt8)} {c : Nat} {M : List UInt8 → Int} (h : Sup w b mu mn S c M) (hm : ∀ x, S'.contains x = S.contains x) (hl : S.length ≤ S'.length) : Sup w b mu mn S' c M :=
  ⟨h.cell0, h.cell1, h.set.as hm hl, h.num, h.ne, h.bu, h.bn⟩
theorem contains_snoc_of {S : List (List UInt8)} {y : List UInt8} (h : S.contains y = true) (x : List UInt8) : (S ++ [y]).contains x = S.contains x := by
  rw [Bool.eq_iff_iff]
  simp only [List.contains_iff_mem, List.mem_append, List.mem_singleton] at h ⊢
  exact ⟨fun e => e.elim id (fun e => e ▸ h), .inl⟩
set_option maxHeartbeats 8000000 in
set_option maxRecDepth 100000 in
theorem Fresh_no (w : World) (hG_ : Glob w) {b mu mn : Nat} {S : List (List UInt8)} {c : Nat} {M : List UInt8 → Int} (h : Sup w b mu mn S c M) (x : ByteArray) (hx : x.size ≤ 50000) (hst0 : stemB (freshBase x) = false) :
    Calls Tryd.prog 26 #[.pointer (some ⟨b, 0, none⟩), .string x] w fun e w' => e = .returned (.string ⟨#[]⟩) ∧ Below w.heap.size w w' := by
  have hB1 := Base_f x (by omega) 60000 (by omega)
  obtain ⟨q1, q2, q3, hq⟩ : ∃ q1 q2 q3, baseA x = (q1, q2, q3) := ⟨_, _, _, rfl⟩
  have hfb : freshBase x = if q3 then q1 else x := by unfold freshBase; rw [hq]
  rw [hq] at hB1
  have HG := Aside0.mk hG_
  have hSup := Aside0.mk h
  have hB1' := Aside0.mk hB1
  clear hG_ h hB1
  obtain ⟨y, hy⟩ : ∃ y, y = freshBase x := ⟨_, rfl⟩
  have hyq : y = if q3 then q1 else x := hy.trans hfb
  rw [← hy] at hst0
  clear hfb hq
  have hysz : y.size ≤ 50000 := by rw [hy]; exact Nat.le_trans (freshBase_size x) hx
  clear hy
  have hst := Aside0.mk hst0
  clear hst0
  go_enter Tryd.func26, Tryd.ntmps26
  go_upto_if 19 with (first | (go_at_call 45; (refine (made_calls _ hSup.out).mono ?_); rintro e w' ⟨rfl, ⟨nd, rfl⟩⟩) | (go_at_call 18; (refine (names_Base.calls 60000 x q1 q2 q3 _ (Glob.below HG.out (by first | exact pw_below_drewN (Below.refl _ _) _ | exact Below.refl _ _)) hB1'.out).mono ?_); rintro e w2 ⟨rfl, hb2⟩; have HB := Aside0.mk (below_step (pw_below_drewN (Below.refl _ _) _) hb2); clear hb2))
  go_cut [1] (fun v1 wc => v1 = .string y ∧ Below w.heap.size w wc)
  case first =>
      cases q3
      · go_wp2
        go_meet
        case rel => exact ⟨by rw [hyq]; rfl, HB.out⟩
      · go_wp2
        go_meet
        case rel => exact ⟨by rw [hyq]; rfl, HB.out⟩
  case rest =>
    obtain ⟨rfl, hwc⟩ := hcut
    clear HB
    have hg2 := Aside0.mk (Glob.below HG.out hwc)
    have hwc' := Aside0.mk hwc
    clear hwc
    have hpr := Aside0.mk (proper_f y (by omega) 60000 (by omega))
    clear hx hyq hysz
    rw [hst.out] at hpr
    go_wp2_with (first | (go_at_call 43; (refine (names_proper.calls 60000 y _ _ hg2.out hpr.out).mono ?_); rintro e w3 ⟨rfl, hb3⟩; have HB3 := Aside0.mk (below_step hwc'.out hb3); clear hb3))
    go_ret
    exact ⟨rfl, HB3.out⟩
/-- The set and the table, copied. -/
structure Copied (w : World) (mu mn : Nat) (S : List (List UInt8)) (c : Nat) (M : List UInt8 → Int) : Prop where
  set : SetAt w mu S
  num : NumAt w mn c M
  ne : mu ≠ mn
theorem sup_new {w : World} {mu mn : Nat} {S : List (List UInt8)} {c : Nat} {M : List UInt8 → Int} (h : Copied w mu mn S c M) :
    Sup (w.alloc (Obj.cells #[Value.map (some mu), Value.map (some mn)] 52)) w.heap.size mu mn S c M := by
  have hu := h.set.lt
  have hn := h.num.lt
  have hb := (MapKept.heap_alloc w (Obj.cells #[Value.map (some mu), Value.map (some mn)] 52)).1
  have B := Below.alloc (Below.refl w.heap.size w) (Nat.le_refl _) (Obj.cells #[Value.map (some mu), Value.map (some mn)] 52)
  exact ⟨by unfold World.cell?; simp only [hb]; rfl, by unfold World.cell?; simp only [hb]; rfl, h.set.below B, h.num.below B, h.ne, by omega, by omega⟩
set_option maxHeartbeats 8000000 in
set_option maxRecDepth 100000 in
theorem Clone_calls (w : World) {b mu mn : Nat} {S : List (List UInt8)} {c : Nat} {M : List UInt8 → Int} (h : Sup w b mu mn S c M) :
    Calls Tryd.prog 28 #[.pointer (some ⟨b, 0, none⟩)] w fun e w' => ∃ b' mu' mn', e = .returned (.pointer (some ⟨b', 0, none⟩)) ∧ Sup w' b' mu' mn' S c M ∧ w.heap.size ≤ b' ∧ w.heap.size ≤ mu' ∧ w.heap.size ≤ mn' ∧ Below w.heap.size w w' := by
  have hS := Aside0.mk h
  clear h
  go_enter Tryd.func28, Tryd.ntmps28
  go_upto_region 3 with (first | (go_at_call 45; (refine (made_calls _ hS.out).mono ?_); rintro e w' ⟨rfl, ⟨nd, rfl⟩⟩))
  have hB1 := Aside0.mk (pw_below_drewN (Below.refl w.heap.size w) nd)
  have hS1 := Aside0.mk (Sup.below hS.out hB1.out)
  clear hS
  generalize w.drewN nd = w1 at *
  have c0 := hS1.out.cell0
  have c1 := hS1.out.cell1
  have HA := Aside0.mk (SetAt.below hS1.out.set (below_drew (Below.refl _ w1)))
  have HN := Aside0.mk (NumAt.below hS1.out.num (below_drew (Below.refl _ w1)))
  have HC : Aside0 (w1.drew.cell? ⟨b, 0, none⟩ = some (.map (some mu)) ∧ w1.drew.cell? ⟨b, 1, none⟩ = some (.map (some mn))) := ⟨c0, c1⟩
  go_region_with (first | (go_at_call 46; (refine (SetAt.clone HA.out).mono ?_); rintro e w46 ⟨rfl, hs_, hz_, hb_⟩; have HA2 := Aside0.mk (And.intro hs_ (And.intro hz_ hb_)); have na_ := Aside0.mk (SetAt.below HA.out hb_); have nn_ := Aside0.mk (NumAt.below HN.out hb_); have nc_ := Aside0.mk (And.intro ((hb_.cell (World.block_lt_of_cell? _ _ HC.out.1)).trans HC.out.1) ((hb_.cell (World.block_lt_of_cell? _ _ HC.out.2)).trans HC.out.2)); clear HA HN HC; have HA := na_; have HN := nn_; have HC := nc_; clear na_ nn_ nc_ hs_ hz_ hb_; have c046 := HC.out.1; have c146 := HC.out.2) | (go_at_call 47; (refine (NumAt.clone HN.out).mono ?_); rintro e w47 ⟨rfl, hs_, hz_, hb_⟩; have HN2 := Aside0.mk (And.intro hs_ (And.intro hz_ hb_)); have na_ := Aside0.mk (SetAt.below HA.out hb_); have nn_ := Aside0.mk (NumAt.below HN.out hb_); have nc_ := Aside0.mk (And.intro ((hb_.cell (World.block_lt_of_cell? _ _ HC.out.1)).trans HC.out.1) ((hb_.cell (World.block_lt_of_cell? _ _ HC.out.2)).trans HC.out.2)); clear HA HN HC; have HA := na_; have HN := nn_; have HC := nc_; clear na_ nn_ nc_ hs_ hz_ hb_; have c047 := HC.out.1; have c147 := HC.out.2))
  all_goals go_wp2
  all_goals go_ret
  all_goals first
    | (have a1 := HA2.out; have a2 := HN2.out; have e0 : w1.drew.heap.size = w1.heap.size := rfl; have e1 := hB1.out.size; have a3 := a1.2.1; have a4 := a2.2.1; rw [e0] at a3; have e2 := below_step (below_step (below_drew hB1.out) a1.2.2) a2.2.2; exact ⟨_, _, _, rfl, sup_new ⟨SetAt.below a1.1 a2.2.2, a2.1, by omega⟩, by omega, by omega, by omega, e2.alloc e2.size _⟩)
    | (have a1 := HN2.out; have a2 := HA2.out; have e0 : w1.drew.heap.size = w1.heap.size := rfl; have e1 := hB1.out.size; have a3 := a1.2.1; have a4 := a2.2.1; rw [e0] at a3; have e2 := below_step (below_step (below_drew hB1.out) a1.2.2) a2.2.2; exact ⟨_, _, _, rfl, sup_new ⟨a2.1, NumAt.below a1.1 a2.2.2, by omega⟩, by omega, by omega, by omega, e2.alloc e2.size _⟩)
end Su
end Go.Proofs.YtfbhipcfjkkmmaaDoor
