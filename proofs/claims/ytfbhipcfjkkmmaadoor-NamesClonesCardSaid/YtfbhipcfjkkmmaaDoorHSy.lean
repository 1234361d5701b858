/- names.symbolic and names.symbol: a string of operator characters (walked by hand: a loop that is left by its label). -/
import Derived.Test.YtfbhipcfjkkmmaaDoorHS1
import Derived.Lib.IndexLaws
import Derived.WalkMore
namespace Go.Proofs.YtfbhipcfjkkmmaaDoor
open Go.RowKit Go.Proofs.YtfbhipcfjkkmmaaDoorW.PrintWords Go.Proofs.YtfbhipcfjkkmmaaDoorW.PrintLast Go.Proofs.YtfbhipcfjkkmmaaDoorW.PrintMore
attribute [local go_sem] max2_int min2_int max_two min_two max_three min_three max_four min_four
set_option linter.unusedVariables false
set_option linter.unusedSimpArgs false

def symL : List UInt8 := [33, 35, 36, 37, 38, 42, 43, 46, 47, 60, 61, 62, 63, 64, 92, 94, 124, 45, 126, 58]
def symC (c : UInt8) : Bool := symL.contains c
def symB (l : List UInt8) : Bool := if l = [] then false else if 64 < l.length then false else l.all symC && (decide ((l.length : Int) = 1) || decide ((l.count 45 : Int) < l.length))
theorem symC_index (c : UInt8) : decide (Lib.indexByte symL c ≥ 0) = symC c := by
  rw [Bool.eq_iff_iff]
  simp only [decide_eq_true_eq, symC, List.contains_iff_mem, ge_iff_le]
  constructor
  · intro h
    obtain ⟨o, ho⟩ : ∃ o : Nat, Lib.indexByte symL c = o := ⟨_, (Int.toNat_of_nonneg h).symm⟩
    exact List.mem_of_getElem? (Lib.indexByte_some ho).1
  · intro h
    have := Lib.indexByte_ge symL c
    by_cases e : Lib.indexByte symL c = -1
    · obtain ⟨k, hk⟩ := List.mem_iff_getElem?.mp h
      exact absurd hk (Lib.indexByte_none e k)
    · omega

namespace P
noncomputable def names_symbolic.f (a0 : Int) : Option Bool := some (symC a0.toNat.toUInt8)
set_option maxHeartbeats 8000000 in
set_option maxRecDepth 100000 in
theorem names_symbolic.calls (a0 : Int) (r : Bool) (w : World) (h : names_symbolic.f a0 = some r) :
    Calls Tryd.prog 52 #[.int .u8 a0] w fun e w' => e = .returned (.bool r) ∧ Drawn0 w w' := by
  obtain rfl := Option.some.inj h
  go_enter Tryd.func52, Tryd.ntmps52
  go_wp2_with (first | ((with_reducible refine gate_callee (f := 65) rfl ?_); refine goesL_ (some 4) rfl rfl Tryd.func65 (by kernel_rfl) rfl #[.string (⟨#[33, 35, 36, 37, 38, 42, 43, 46, 47, 60, 61, 62, 63, 64, 92, 94, 124, 45, 126, 58]⟩ : ByteArray), .int .u8 a0] rfl (by (try simp only [List.map_toArray, List.map_cons, List.map_nil]); first | done | rfl | (simp only [List.length_drop, List.length_take]; rfl)) ?_; (with_reducible refine (strings_IndexByte.calls (⟨#[33, 35, 36, 37, 38, 42, 43, 46, 47, 60, 61, 62, 63, 64, 92, 94, 124, 45, 126, 58]⟩ : ByteArray) a0 _ _ rfl).mono ?_); rintro e w' ⟨rfl, ⟨nd, rfl⟩⟩; refine ⟨_, rfl, ?_⟩))
  go_ret
  exact ⟨by have e := symC_index a0.toNat.toUInt8; simp only [symL, ge_iff_le] at e; simp [← e], by repeat (first | exact Drawn0.refl _ | apply Drawn0.step)⟩

theorem bt_byte (s : ByteArray) (i : Nat) (h : i < s.size) : (bt s i).toNat.toUInt8 = s.data.toList[i]'(by simpa using h) := by
  unfold bt
  have h' : (i : Int).toNat < s.size := h
  rw [dif_pos h']
  simp
  rfl
theorem take_bt (s : ByteArray) (i : Nat) (h : i < s.size) : s.data.toList.take (i + 1) = s.data.toList.take i ++ [(bt s i).toNat.toUInt8] := by
  rw [bt_byte s i h, List.take_add_one, List.getElem?_eq_getElem (by simpa using h)]; rfl

noncomputable def names_symbol.f (a0 : ByteArray) : Option Bool := some (symB a0.data.toList)
set_option maxHeartbeats 8000000 in
set_option maxRecDepth 100000 in
theorem names_symbol.calls (a0 : ByteArray) (r : Bool) (w : World) (h : names_symbol.f a0 = some r) :
    Calls Tryd.prog 34 #[.string a0] w fun e w' => e = .returned (.bool r) ∧ Drawn0 w w' := by
  have hr := Aside0.mk (Option.some.inj h)
  clear h
  have hlen : a0.data.toList.length = a0.size := by simp
  have hnil : a0.toList.isEmpty = true ↔ a0.data.toList = [] := by rw [ByteArray.toList_eq]; simp
  go_enter Tryd.func34, Tryd.ntmps34
  go_wp2
  go_step3
  by_cases c3 : a0.toList.isEmpty = true
  · go_wp2
    try rw [Exit.noGoto_ret]
    go_ret
    exact ⟨by rw [← hr.out, symB, if_pos (hnil.mp c3)]; simp, by repeat (first | exact Drawn0.refl _ | apply Drawn0.step)⟩
  have hne : ¬ a0.data.toList = [] := fun e => c3 (hnil.mpr e)
  clear hnil
  replace c3 := Bool.eq_false_iff.mpr c3
  by_cases c4 : 64 < a0.size
  · have c4b0 : decide (64 < (a0.size : Int)) = true := decide_eq_true (by omega)
    have c4b1 : decide (64 < a0.size) = true := decide_eq_true (by omega)
    go_wp2
    try rw [Exit.noGoto_ret]
    go_ret
    exact ⟨by rw [← hr.out, symB, if_neg hne, if_pos (by omega)]; simp, by repeat (first | exact Drawn0.refl _ | apply Drawn0.step)⟩
  have c4b0 : decide (64 < (a0.size : Int)) = false := decide_eq_false (by omega)
  have c4b1 : decide (64 < a0.size) = false := decide_eq_false (by omega)
  go_wp2
  go_step3
  go_wp2
  go_loopg [3, 4] 64 (fun kq v3 v4 w' => ∃ i : Nat, v4 = .int .i64 i ∧ v3 = .int .i64 ((a0.data.toList.take i).count 45 : Nat) ∧ i ≤ a0.size ∧ (a0.data.toList.take i).all symC = true ∧ kq + i = 64 ∧ Drawn0 w w')
  case atStart => exact ⟨0, by first | rfl | simp, by first | rfl | simp, by omega, by simp, by omega, by repeat (first | exact Drawn0.refl _ | apply Drawn0.step)⟩
  case round =>
    obtain ⟨i, rfl, rfl, hi, hall, hk, ⟨m2, rfl⟩⟩ := hrel
    by_cases c5 : i = a0.size
    · have c5b0 : ((i : Int) == (a0.size : Int)) = true := by simp [c5]
      have hfull : a0.data.toList.take i = a0.data.toList := List.take_of_length_le (by omega)
      rw [hfull] at hall
      have hB : symB a0.data.toList = (decide ((a0.size : Int) = 1) || decide (((a0.data.toList.count 45 : Nat) : Int) < (a0.size : Int))) := by
        rw [symB, if_neg hne, if_neg (by omega), hall, hlen]; rfl
      replace hB := Aside0.mk hB
      clear hall hlen hne
      subst c5
      have hcn := Aside0.mk hfull
      clear hfull
      by_cases c6 : a0.size = 1
      · have c6b0 : ((a0.size : Int) == 1) = true := by simp [c6]
        go_wp2
        try rw [Exit.noGoto_ret]
        go_ret
        exact ⟨by rw [← hr.out, hB.out]; simp [c6], by repeat (first | exact Drawn0.refl _ | apply Drawn0.step)⟩
      · have c6b0 : ((a0.size : Int) == 1) = false := by simp; omega
        have c6b1 : decide ((a0.size : Int) = 1) = false := decide_eq_false (by omega)
        go_wp2
        try rw [Exit.noGoto_ret]
        go_ret
        exact ⟨by rw [← hr.out, hB.out, c6b1, ← hcn.out]; simp [c6b0, hcn.out], by repeat (first | exact Drawn0.refl _ | apply Drawn0.step)⟩
    have c5b0 : ((i : Int) == (a0.size : Int)) = false := by simp; omega
    have hi' : i < a0.size := by omega
    have htk := take_bt a0 i hi'
    have p7 : 0 ≤ (i : Int) := by omega
    have q7 : (i : Int) < (a0.size : Int) := by omega
    have q8 : i < a0.size := hi'
    have hx7 : ∀ h : i < a0.size, ((a0[i]'h).toNat : Int) = bt a0 i := bt_at a0 i
    replace p7 := eq_true p7
    replace q7 := eq_true q7
    replace q8 := eq_true q8
    cases hs : symC (bt a0 i).toNat.toUInt8
    · have hB : symB a0.data.toList = false := by
        have : a0.data.toList.all symC = false := by
          rw [Bool.eq_false_iff, ne_eq, List.all_eq_true]
          intro h
          have := h ((bt a0 i).toNat.toUInt8) (List.mem_of_mem_take (i := i + 1) (by rw [htk]; simp))
          rw [hs] at this; cases this
        rw [symB, if_neg hne, if_neg (by omega), this]; rfl
      replace hB := Aside0.mk hB
      clear hall hlen hne htk
      replace hs := Aside0.mk hs
      go_wp2_with (first | (go_at_call 52; (refine (names_symbolic.calls (bt a0 i) false _ (congrArg some hs.out)).mono ?_); rintro e w' ⟨rfl, ⟨nd, rfl⟩⟩))
      try rw [Exit.noGoto_ret]
      go_ret
      exact ⟨by rw [← hr.out, hB.out]; rfl, by repeat (first | exact Drawn0.refl _ | apply Drawn0.step)⟩
    · have hall' : (a0.data.toList.take (i + 1)).all symC = true := by rw [htk, List.all_append, hall]; simpa using hs
      have hct : (a0.data.toList.take (i + 1)).count 45 = (a0.data.toList.take i).count 45 + (if bt a0 i = 45 then 1 else 0) := by
        rw [htk, List.count_append]
        congr 1
        obtain ⟨b1, b2⟩ := bt_range a0 i
        by_cases e : bt a0 i = 45
        · rw [if_pos e, e]; rfl
        · rw [if_neg e, List.count_singleton, if_neg]
          intro h
          have h2 := congrArg UInt8.toNat (beq_iff_eq.mp h)
          simp at h2
          omega
      have hcl : (a0.data.toList.take i).count 45 ≤ i := Nat.le_trans List.count_le_length (by rw [List.length_take]; omega)
      have hA := Aside0.mk (And.intro hall' (And.intro hct hcl))
      clear hall' hct hcl hall htk
      have hkk := Aside0.mk hk
      clear hk
      have hs' := Aside0.mk hs
      clear hs
      by_cases c9 : bt a0 i = 45
      · have c9b0 : (bt a0 i == 45) = true := beq_iff_eq.mpr c9
        have hc9 := Aside0.mk c9
        clear c9
        go_wp2_with (first | (go_at_call 52; (refine (names_symbolic.calls (bt a0 i) true _ (congrArg some hs'.out)).mono ?_); rintro e w' ⟨rfl, ⟨nd, rfl⟩⟩))
        go_roundg (gk - 1)
        case measure => have := hkk.out; omega
        case rel =>
          obtain ⟨h1, h2, h3⟩ := hA.out
          rw [if_pos hc9.out] at h2
          exact ⟨i + 1, by simp, by rw [h2, show wrap64 (((a0.data.toList.take i).count 45 : Nat) + 1) = ((a0.data.toList.take i).count 45 : Nat) + 1 from by unfold wrap64; omega]; rfl, by omega, h1, by have := hkk.out; omega, by repeat (first | exact Drawn0.refl _ | apply Drawn0.step)⟩
      · have c9b0 : (bt a0 i == 45) = false := beq_eq_false_iff_ne.mpr c9
        have hc9 := Aside0.mk c9
        clear c9
        go_wp2_with (first | (go_at_call 52; (refine (names_symbolic.calls (bt a0 i) true _ (congrArg some hs'.out)).mono ?_); rintro e w' ⟨rfl, ⟨nd, rfl⟩⟩))
        go_roundg (gk - 1)
        case measure => have := hkk.out; omega
        case rel =>
          obtain ⟨h1, h2, h3⟩ := hA.out
          rw [if_neg hc9.out] at h2
          exact ⟨i + 1, by simp, by rw [h2]; simp, by omega, h1, by have := hkk.out; omega, by repeat (first | exact Drawn0.refl _ | apply Drawn0.step)⟩

/-- The reference's Symbolic. -/
noncomputable def lazycref01_Symbolic.f (a0 : Int) : Option Bool := if 0 ≤ a0 ∧ a0 ≤ 255 then some (symC a0.toNat.toUInt8) else none
set_option maxHeartbeats 8000000 in
set_option maxRecDepth 100000 in
theorem lazycref01_Symbolic.calls (a0 : Int) (r : Bool) (w : World) (h : lazycref01_Symbolic.f a0 = some r) :
    Calls Tryd.prog 67 #[.int .u8 a0] w fun e w' => e = .returned (.bool r) ∧ Drawn0 w w' := by
  unfold lazycref01_Symbolic.f at h
  by_cases hb : 0 ≤ a0 ∧ a0 ≤ 255
  case neg => rw [if_neg hb] at h; cases h
  rw [if_pos hb] at h
  have hr := Aside0.mk (Option.some.inj h)
  clear h
  obtain ⟨SL, hSL⟩ : ∃ SL : ByteArray, SL = (⟨#[33, 35, 36, 37, 38, 42, 43, 46, 47, 60, 61, 62, 63, 64, 92, 94, 124, 45, 126, 58]⟩ : ByteArray) := ⟨_, rfl⟩
  have hlen : SL.size = 20 := by rw [hSL]; rfl
  have hdata : SL.data.toList = symL := by rw [hSL]; rfl
  have hbt : ∀ i : Nat, i < 20 → (bt SL i).toNat.toUInt8 ∈ symL := by
    intro i hi
    rw [bt_byte SL i (by omega), ← hdata]
    exact List.getElem_mem _
  have hmem : ∀ c, c ∈ symL → ∃ i : Nat, i < 20 ∧ (bt SL i).toNat.toUInt8 = c := by
    intro c hc
    rw [← hdata] at hc
    obtain ⟨i, hi, e⟩ := List.mem_iff_getElem.mp hc
    have hi' : i < SL.size := by simpa using hi
    exact ⟨i, by omega, by rw [bt_byte SL i hi', e]⟩
  have hinj : ∀ i : Nat, (bt SL i).toNat.toUInt8 = a0.toNat.toUInt8 → bt SL i = a0 := by
    intro i e
    obtain ⟨b1, b2⟩ := bt_range SL i
    have e2 := congrArg UInt8.toNat e
    simp at e2
    omega
  have hb' := Aside0.mk hb
  have hS := Aside0.mk (And.intro hbt (And.intro hmem hinj))
  clear hbt hmem hinj hdata hb
  go_enter Tryd.func67, Tryd.ntmps67
  go_upto_region 2 with (fail)
  rw [← hSL]
  clear hSL
  go_wp2
  go_loopg [4] 20 (fun kq v4 w' => ∃ i : Nat, v4 = .int .i64 i ∧ i ≤ 20 ∧ Aside0 (∀ j, j < i → bt SL j ≠ a0) ∧ Aside0 (kq + i = 20) ∧ Drawn0 w w')
  case atStart => exact ⟨0, by first | rfl | simp, by omega, ⟨fun j hj => by omega⟩, ⟨by omega⟩, by repeat (first | exact Drawn0.refl _ | apply Drawn0.step)⟩
  case round =>
    obtain ⟨i, rfl, hi, hno, hk, ⟨m2, rfl⟩⟩ := hrel
    by_cases c5 : i = 20
    · have hB : symC a0.toNat.toUInt8 = false := by
        cases hc : symC a0.toNat.toUInt8
        · rfl
        · obtain ⟨i', hi', e⟩ := hS.out.2.1 _ (List.contains_iff_mem.mp hc)
          exact absurd (hS.out.2.2 _ e) (hno.out i' (by omega))
      replace hB := Aside0.mk hB
      clear hi
      subst c5
      go_wp2
      go_ret
      exact ⟨by rw [← hr.out, hB.out]; rfl, by repeat (first | exact Drawn0.refl _ | apply Drawn0.step)⟩
    have c5b0 : decide ((i : Int) < (SL.size : Int)) = true := decide_eq_true (by omega)
    have c5b1 : decide ((i : Int) < 20) = true := decide_eq_true (by omega)
    have hi2 : i < 20 := by omega
    have p7 : 0 ≤ (i : Int) := by omega
    have q7 : (i : Int) < (SL.size : Int) := by omega
    have q8 : i < SL.size := by omega
    have q9 : i < 20 := hi2
    have q10 : (i : Int) < 20 := by omega
    have hx7 : ∀ h : i < SL.size, ((SL[i]'h).toNat : Int) = bt SL i := bt_at SL i
    replace p7 := eq_true p7
    replace q7 := eq_true q7
    replace q8 := eq_true q8
    replace q9 := eq_true q9
    replace q10 := eq_true q10
    have hk2 := Aside0.mk hi2
    clear hi c5 hi2
    by_cases c9 : bt SL i = a0
    · have hB : symC a0.toNat.toUInt8 = true := by
        have := hS.out.1 i hk2.out
        rw [c9] at this
        exact List.contains_iff_mem.mpr this
      have c9b0 : (bt SL i == a0) = true := beq_iff_eq.mpr c9
      have hc9 := Aside0.mk c9
      clear c9
      replace hB := Aside0.mk hB
      go_wp2
      go_ret
      exact ⟨by rw [← hr.out, hB.out]; rfl, by repeat (first | exact Drawn0.refl _ | apply Drawn0.step)⟩
    · have c9b0 : (bt SL i == a0) = false := beq_eq_false_iff_ne.mpr c9
      have hc9 := Aside0.mk c9
      clear c9
      go_wp2
      go_roundg (gk - 1)
      case measure => have := hk.out; have := hk2.out; omega
      case rel =>
        have h1 := hk.out
        have h2 := hk2.out
        exact ⟨i + 1, by simp [show wrap64 ((i : Int) + 1) = i + 1 from by unfold wrap64; omega], by omega, ⟨fun j hj => by rcases Nat.lt_succ_iff_lt_or_eq.mp hj with h | rfl; exact hno.out j h; exact hc9.out⟩, ⟨by omega⟩, by repeat (first | exact Drawn0.refl _ | apply Drawn0.step)⟩
end P
end Go.Proofs.YtfbhipcfjkkmmaaDoor
