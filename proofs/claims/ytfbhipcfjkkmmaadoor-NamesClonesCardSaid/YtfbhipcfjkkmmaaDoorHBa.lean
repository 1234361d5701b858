/- names.Base (walked by hand: strconv.Atoi's error). -/
import Derived.Test.YtfbhipcfjkkmmaaDoorPx2
import Derived.Lib.AtoiErrMem
namespace Go.Proofs.YtfbhipcfjkkmmaaDoor
open Go.RowKit Go.Proofs.YtfbhipcfjkkmmaaDoorW.PrintWords Go.Proofs.YtfbhipcfjkkmmaaDoorW.PrintLast Go.Proofs.YtfbhipcfjkkmmaaDoorW.PrintMore
attribute [local go_sem] max2_int min2_int max_two min_two max_three min_three max_four min_four
namespace P
set_option linter.unusedVariables false
set_option linter.unusedSimpArgs false

theorem bytes_below {w w' : World} (h : w' = w ∨ ∃ t, w' = Lib.bytesWorld w 5 t) : Below w.heap.size w w' := by
  rcases h with rfl | ⟨t, rfl⟩
  · exact Below.refl _ _
  · exact Lib.bytesWorld_below _ _ _
/-- The place of the last '$', as the walk knows it. -/
def lastDollar (s : ByteArray) : Int := Lib.lastIndexByte s 36
noncomputable def names_Base.f (k : Nat) (a0 : ByteArray) : Option (ByteArray × Int × Bool) :=
  if a0.size ≤ 281474976710656 then
    if lastDollar a0 < 0 then some (⟨#[]⟩, 0, false)
    else match Lib.atoiAll (a0.extract (lastDollar a0 + 1).toNat a0.size).data.toList with
      | .ok v => (names_Made.f k (a0.extract 0 (lastDollar a0).toNat) v).bind fun m =>
          if m.toList = a0.toList then some (a0.extract 0 (lastDollar a0).toNat, v, true) else some (⟨#[]⟩, 0, false)
      | _ => some (⟨#[]⟩, 0, false)
  else none
theorem names_Base.mono : ∀ a0 k, LeO (names_Base.f k a0) (names_Base.f (k + 1) a0) := by
  intro a0 k
  unfold names_Base.f
  refine LeO.ite (LeO.ite (LeO.refl _) ?_) (LeO.none _)
  split
  · exact LeO.bind (names_Made.mono _ _ _) (fun _ => LeO.refl _)
  · exact LeO.refl _

set_option maxHeartbeats 8000000 in
set_option maxRecDepth 100000 in
theorem names_Base.calls (k : Nat) (a0 : ByteArray) (r1 : ByteArray) (r2 : Int) (r3 : Bool) (w : World) (hG_ : Glob w) (h : names_Base.f k a0 = some (r1, r2, r3)) :
    Calls Tryd.prog 18 #[.string a0] w fun e w' => e = .returned (.tuple #[.string r1, .int .i64 r2, .bool r3]) ∧ Below w.heap.size w w' := by
  unfold names_Base.f at h
  by_cases hs : a0.size ≤ 281474976710656
  case neg => rw [if_neg hs] at h; cases h
  rw [if_pos hs] at h
  have HG_ := Aside0.mk hG_
  clear hG_
  have hspec := Lib.lastIndexByte_spec a0 36
  go_enter Tryd.func18, Tryd.ntmps18
  by_cases hd : lastDollar a0 < 0
  · rw [if_pos hd] at h
    simp only [Option.some.injEq, Prod.mk.injEq] at h
    obtain ⟨rfl, rfl, rfl⟩ := h
    have hd0 : decide (lastDollar a0 < 0) = true := decide_eq_true hd
    clear hspec hd
    go_wp2_with (first | (go_at_call 39; (refine (Tryd.strings_LastIndexByte a0 36 (by omega) _).mono ?_); rintro e w' ⟨rfl, rfl⟩; rw [show Lib.lastIndexByte a0 36 = lastDollar a0 from rfl]))
    go_ret3
    exact ⟨rfl, Below.refl _ _⟩
  · rw [if_neg hd] at h
    have hlt : lastDollar a0 < a0.size := by
      rcases hspec with ⟨e, _⟩ | ⟨i, hi, e, _⟩
      · exact absurd (show lastDollar a0 < 0 by rw [lastDollar, e]; decide) hd
      · rw [lastDollar, e]; omega
    obtain ⟨at_, hat⟩ : ∃ n : Nat, lastDollar a0 = n := ⟨_, (Int.toNat_of_nonneg (by omega)).symm⟩
    clear hspec
    rw [hat] at hlt hd h
    have hd0 : decide ((at_ : Int) < 0) = false := decide_eq_false hd
    rw [show ((at_ : Int) + 1).toNat = at_ + 1 by omega, show (at_ : Int).toNat = at_ from rfl] at h
    have hsz : (a0.extract (at_ + 1) a0.size).size ≤ 281474976710656 := by rw [ByteArray.size_extract]; omega
    cases hat2 : Lib.atoiAll (a0.extract (at_ + 1) a0.size).data.toList with
    | range =>
      rw [hat2] at h
      simp only [Option.some.injEq, Prod.mk.injEq] at h
      obtain ⟨rfl, rfl, rfl⟩ := h
      obtain ⟨tp, p, hv⟩ := HG_.out.er
      have hat3 := Aside0.mk hat2
      clear hat2
      have hv' := Aside0.mk hv
      clear hv
      go_wp2_with (first | (go_at_call 39; (refine (Tryd.strings_LastIndexByte a0 36 (by omega) _).mono ?_); rintro e w' ⟨rfl, rfl⟩; rw [show Lib.lastIndexByte a0 36 = at_ from hat]) | (go_at_call 40; (refine (Tryd.strconv_Atoi_range_var (a0.extract (at_ + 1) a0.size) hsz hat3.out tp p _ hv'.out).mono ?_); rintro e w' ⟨N, rfl, -, -, hb⟩))
      go_ret3
      exact ⟨rfl, hb⟩
    | ok v =>
      rw [hat2] at h
      replace h := Option.bind_eq_some_iff.mp h
      obtain ⟨m, hm0, h⟩ := h
      have hm := Aside0.mk hm0
      clear hm0
      have hat3 := Aside0.mk hat2
      clear hat2
      by_cases hc : m.toList = a0.toList
      · rw [if_pos hc] at h
        simp only [Option.some.injEq, Prod.mk.injEq] at h
        obtain ⟨rfl, rfl, rfl⟩ := h
        have c5b0 : (m.toList == a0.toList) = true := beq_iff_eq.mpr hc
        have c5b1 : (m.toList != a0.toList) = false := bne_eq_false_iff_eq.mpr hc
        have hc' := Aside0.mk hc
        clear hc
        go_wp2_with (first | (go_at_call 39; (refine (Tryd.strings_LastIndexByte a0 36 (by omega) _).mono ?_); rintro e w' ⟨rfl, rfl⟩; rw [show Lib.lastIndexByte a0 36 = at_ from hat]) | (go_at_call 40; (refine (Tryd.strconv_Atoi_ok (a0.extract (at_ + 1) a0.size) (by omega) v hat3.out _).mono ?_); rintro e w2 ⟨rfl, hb⟩; have HB := Aside0.mk (bytes_below hb); clear hb) | (go_at_call 20; (refine (names_Made.calls k (a0.extract 0 at_) v m _ (Glob.below HG_.out HB.out) hm.out).mono ?_); rintro e w3 ⟨rfl, hb⟩; have HB2 := Aside0.mk (below_step HB.out hb); clear hb))
        go_ret3
        exact ⟨rfl, HB2.out⟩
      · rw [if_neg hc] at h
        simp only [Option.some.injEq, Prod.mk.injEq] at h
        obtain ⟨rfl, rfl, rfl⟩ := h
        have c5b0 : (m.toList == a0.toList) = false := beq_eq_false_iff_ne.mpr hc
        have c5b1 : (m.toList != a0.toList) = true := bne_iff_ne.mpr hc
        have hc' := Aside0.mk hc
        clear hc
        go_wp2_with (first | (go_at_call 39; (refine (Tryd.strings_LastIndexByte a0 36 (by omega) _).mono ?_); rintro e w' ⟨rfl, rfl⟩; rw [show Lib.lastIndexByte a0 36 = at_ from hat]) | (go_at_call 40; (refine (Tryd.strconv_Atoi_ok (a0.extract (at_ + 1) a0.size) (by omega) v hat3.out _).mono ?_); rintro e w2 ⟨rfl, hb⟩; have HB := Aside0.mk (bytes_below hb); clear hb) | (go_at_call 20; (refine (names_Made.calls k (a0.extract 0 at_) v m _ (Glob.below HG_.out HB.out) hm.out).mono ?_); rintro e w3 ⟨rfl, hb⟩; have HB2 := Aside0.mk (below_step HB.out hb); clear hb))
        go_ret3
        exact ⟨rfl, HB2.out⟩
    | _ =>
      rw [hat2] at h
      simp only [Option.some.injEq, Prod.mk.injEq] at h
      obtain ⟨rfl, rfl, rfl⟩ := h
      obtain ⟨tp, p, hv⟩ := HG_.out.es
      have hat3 := Aside0.mk hat2
      clear hat2
      have hv' := Aside0.mk hv
      clear hv
      go_wp2_with (first | (go_at_call 39; (refine (Tryd.strings_LastIndexByte a0 36 (by omega) _).mono ?_); rintro e w' ⟨rfl, rfl⟩; rw [show Lib.lastIndexByte a0 36 = at_ from hat]) | (go_at_call 40; (refine (Tryd.strconv_Atoi_syntax_var (a0.extract (at_ + 1) a0.size) hsz hat3.out tp p _ hv'.out).mono ?_); rintro e w' ⟨N, rfl, -, -, hb⟩))
      go_ret3
      exact ⟨rfl, hb⟩
end P
end Go.Proofs.YtfbhipcfjkkmmaaDoor
