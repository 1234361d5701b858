/- light; NamesSupply and NamesClones walked. -/
import Derived.Test.YtfbhipcfjkkmmaaDoorHNw
import Derived.Test.YtfbhipcfjkkmmaaDoorHAw
namespace Go.Proofs.YtfbhipcfjkkmmaaDoor
open Go.RowKit Go.Proofs.YtfbhipcfjkkmmaaDoorW.PrintWords Go.Proofs.YtfbhipcfjkkmmaaDoorW.PrintLast Go.Proofs.YtfbhipcfjkkmmaaDoorW.PrintMore
attribute [local go_sem] max2_int min2_int max_two min_two max_three min_three max_four min_four
open P _root_.Go.Proofs.YtfbhipcfjkkmmaaDoor.Nm
namespace Su
set_option linter.unusedVariables false
set_option linter.unusedSimpArgs false

/-- What light promises. -/
structure Light (U : List ByteArray) (l : List S41) : Prop where
  hu : U.length ≤ 40
  hl : l.length ≤ 40
  su : ∀ x ∈ U, x.size ≤ 100
  sl : ∀ i : Int, 0 ≤ i → i < l.length → (rd_T41 l i).f1.size ≤ 100
theorem light_l1 (l : List S41) (hl : l.length ≤ 40) : ∀ (n i k : Nat), n + i = l.length → n < k →
    ∃ r, lazyclaw01_light.l1 k l (i : Int) = some r ∧ (r = true → ∀ j : Int, (i : Int) ≤ j → j < l.length → (rd_T41 l j).f1.size ≤ 100) := by
  intro n
  induction n with
  | zero =>
    intro i k h1 h2
    obtain ⟨k, rfl⟩ : ∃ k', k = k' + 1 := ⟨k - 1, by omega⟩
    simp only [lazyclaw01_light.l1]
    rw [if_neg (by omega)]
    exact ⟨true, rfl, fun _ j h3 h4 => by omega⟩
  | succ n ih =>
    intro i k h1 h2
    obtain ⟨k, rfl⟩ : ∃ k', k = k' + 1 := ⟨k - 1, by omega⟩
    simp only [lazyclaw01_light.l1]
    rw [if_pos (by omega), if_pos (by omega)]
    by_cases hc : (((rd_T41 l (i : Int)).f1).size : Int) > 100
    · rw [if_pos hc]
      exact ⟨false, rfl, fun h => by cases h⟩
    · rw [if_neg hc, show wrap64 ((i : Int) + 1) = ((i + 1 : Nat) : Int) from by unfold wrap64; omega]
      obtain ⟨r, hr, hj⟩ := ih (i + 1) k (by omega) (by omega)
      refine ⟨r, hr, fun h j h3 h4 => ?_⟩
      by_cases he : j = (i : Int)
      · subst he; omega
      · exact hj h j (by omega) h4
theorem light_l0 (U : List ByteArray) (l : List S41) (hU : U.length ≤ 40) (hl : l.length ≤ 40) : ∀ (n i k : Nat), n + i = U.length → n + 41 < k →
    ∃ r, lazyclaw01_light.l0 k U l (i : Int) = some r ∧ (r = true → (∀ j : Int, (i : Int) ≤ j → j < U.length → (rdOf ByteArray.empty U j).size ≤ 100) ∧ ∀ j : Int, 0 ≤ j → j < l.length → (rd_T41 l j).f1.size ≤ 100) := by
  intro n
  induction n with
  | zero =>
    intro i k h1 h2
    obtain ⟨k, rfl⟩ : ∃ k', k = k' + 1 := ⟨k - 1, by omega⟩
    simp only [lazyclaw01_light.l0]
    rw [if_neg (by omega)]
    obtain ⟨r, hr, hj⟩ := light_l1 l hl l.length 0 k (by omega) (by omega)
    exact ⟨r, hr, fun h => ⟨fun j h3 h4 => by omega, fun j h3 h4 => hj h j h3 h4⟩⟩
  | succ n ih =>
    intro i k h1 h2
    obtain ⟨k, rfl⟩ : ∃ k', k = k' + 1 := ⟨k - 1, by omega⟩
    simp only [lazyclaw01_light.l0]
    rw [if_pos (by omega), if_pos (by omega)]
    by_cases hc : ((rdOf ByteArray.empty U (i : Int)).size : Int) > 100
    · rw [if_pos hc]
      exact ⟨false, rfl, fun h => by cases h⟩
    · rw [if_neg hc, show wrap64 ((i : Int) + 1) = ((i + 1 : Nat) : Int) from by unfold wrap64; omega]
      obtain ⟨r, hr, hj⟩ := ih (i + 1) k (by omega) (by omega)
      refine ⟨r, hr, fun h => ⟨fun j h3 h4 => ?_, (hj h).2⟩⟩
      by_cases he : j = (i : Int)
      · subst he; omega
      · exact (hj h).1 j (by omega) h4
theorem light_f (U : List ByteArray) (l : List S41) : ∃ r, lazyclaw01_light.f 200 U l = some r ∧ (r = true → Light U l) := by
  have hj : ∀ b, lazyclaw01_light.j0 200 U l b = if b = true then some false else lazyclaw01_light.l0 199 U l 0 := fun b => by rw [lazyclaw01_light.j0]
  unfold lazyclaw01_light.f
  by_cases h1 : (U.length : Int) > 40
  · rw [if_pos h1, hj, if_pos rfl]; exact ⟨false, rfl, fun h => by cases h⟩
  · rw [if_neg h1, hj]
    by_cases h2 : (l.length : Int) > 40
    · rw [if_pos (decide_eq_true h2)]; exact ⟨false, rfl, fun h => by cases h⟩
    · rw [if_neg (by simpa using h2)]
      obtain ⟨r, hr, hj⟩ := light_l0 U l (by omega) (by omega) U.length 0 199 (by omega) (by omega)
      refine ⟨r, hr, fun h => ⟨by omega, by omega, fun x hx => ?_, (hj h).2⟩⟩
      obtain ⟨i, hi, rfl⟩ := List.getElem_of_mem hx
      have h3 := (hj h).1 (i : Int) (by omega) (by omega)
      have e : rdOf ByteArray.empty U (i : Int) = U[i] := by simp [rdOf, List.getD_eq_getElem?_getD, List.getElem?_eq_getElem hi]
      rw [e] at h3
      exact h3
theorem Both.clone {w0 w w' : World} {p q p' : Value} {c : Nat} {L L' : List ByteArray} {o1 o2 o3 : List Nat} (h : Both w0 w p q c L L' o1 o2) (hp : PS w' p' c L o3) (hn : ∀ k ∈ o3, w.heap.size ≤ k) (hb : Below w.heap.size w w') : Both w0 w' p' q c L L' o3 o2 :=
  ⟨hp, h.rs.below hb, fun k hk hk2 => by have := h.rs.lt k hk; have := hn k hk2; omega, h.bel.trans (hb.mono h.bel.size), fun k hk => by have := hn k hk; have := h.bel.size; omega, h.lo2⟩
theorem Both.make {w0 w w1 w2 : World} {p q : Value} {L : List ByteArray} {o1 o2 : List Nat} (hb0 : Below w0.heap.size w0 w) (hp : PS w1 p 0 L o1) (hn1 : ∀ k ∈ o1, w.heap.size ≤ k) (hb1 : Below w.heap.size w w1) (hr : RS w2 q L o2) (hn2 : ∀ k ∈ o2, w1.heap.size ≤ k) (hb2 : Below w1.heap.size w1 w2) : Both w0 w2 p q 0 L L o1 o2 :=
  ⟨hp.below hb2, hr, fun k hk hk1 => by have := hp.lt k hk1; have := hn2 k hk; omega, (hb0.trans (hb1.mono hb0.size)).trans (hb2.mono (Nat.le_trans hb0.size hb1.size)), fun k hk => Nat.le_trans hb0.size (hn1 k hk), fun k hk => Nat.le_trans hb0.size (Nat.le_trans hb1.size (hn2 k hk))⟩

set_option maxHeartbeats 8000000 in
set_option maxRecDepth 100000 in
theorem NamesSupply_walk (w : World) (hG : Glob w) (A0 : Option Addr) (c0 : Nat) (U : List ByteArray) (A1 : Option Addr) (c1 : Nat) (l : List S41)
    (hr0 : Kd.C Kd.string w A0 U.length U) (hc0 : U.length ≤ c0) (hr1 : Kd.C k41 w A1 l.length l) (hc1 : l.length ≤ c1) :
    Calls Tryd.prog 8 #[.slice A0 U.length c0, .slice A1 l.length c1] w fun e w' => e = .returned (.bool true) ∧ Below w.heap.size w w' := by
  have HG := Aside0.mk hG
  have HR0 := Aside0.mk hr0
  have HC0 := Aside0.mk hc0
  have HR1 := Aside0.mk hr1
  have HC1 := Aside0.mk hc1
  obtain ⟨r, hr, hlr⟩ := light_f U l
  have HL := Aside0.mk hr
  clear hG hr0 hc0 hr1 hc1 hr
  cases r
  · clear hlr
    go_enter Tryd.func8, Tryd.ntmps8
    go_wp2_with (first | (go_at_call 22; (refine (lazyclaw01_light.calls 200 A0 c0 U A1 c1 l false _ HR0.out HC0.out HR1.out HC1.out HL.out).mono ?_); rintro e w' ⟨rfl, ⟨nd, rfl⟩⟩; have HB := Aside0.mk (pw_below_drewN (Below.refl w.heap.size w) nd)) | (go_at_call 11; (refine (awake_calls _ (Glob.below HG.out HB.out)).mono ?_); rintro e w1 ⟨rfl, hb⟩; have n0_ := Aside0.mk (below_step HB.out hb); clear HB hb; have HB := n0_; clear n0_))
    go_ret
    exact ⟨rfl, HB.out⟩
  · have HLI := Aside0.mk (hlr rfl)
    clear hlr
    have HSU : Aside0 (∀ x ∈ U, x.size ≤ maxLen) := ⟨fun x hx => Nat.le_trans (HLI.out.su x hx) (by decide)⟩
    have HU4 : Aside0 (U.length < 4000) := ⟨by have := HLI.out.hu; omega⟩
    go_enter Tryd.func8, Tryd.ntmps8
    go_upto_region 4 with (first | (go_at_call 22; (refine (lazyclaw01_light.calls 200 A0 c0 U A1 c1 l true _ HR0.out HC0.out HR1.out HC1.out HL.out).mono ?_); rintro e w' ⟨rfl, ⟨nd, rfl⟩⟩; have HB := Aside0.mk (pw_below_drewN (Below.refl w.heap.size w) nd)) | (go_at_call 23; (refine (PS_New _ A0 c0 U (Kd.C_below HR0.out HB.out) HU4.out HSU.out).mono ?_); rintro e w1 ⟨b, o1, rfl, hp1, hn1, hb1⟩; have HP1 := Aside0.mk (And.intro hp1 (And.intro hn1 hb1)); have HB1 := Aside0.mk (below_step HB.out hb1); clear hp1 hn1 hb1) | (go_at_call 27; (refine (RS_New _ A0 c0 U (Kd.C_below HR0.out HB1.out) HC0.out HU4.out).mono ?_); rintro e w2 ⟨r, o2, rfl, hp2, hn2, hb2⟩; have HBo := Aside0.mk (Both.make HB.out HP1.out.1 HP1.out.2.1 HP1.out.2.2 hp2 hn2 hb2); clear hp2 hn2 hb2))
    clear HB HP1 HB1
    go_wp2
    go_loopg [5, 7] l.length (fun kq v5 v7 w' => ∃ (x : Int) (c : Nat) (L : List ByteArray) (o3 o4 : List Nat), v7 = .int .i64 x ∧ Aside0 (0 ≤ x ∧ x.toNat + kq = l.length) ∧ Aside0 (Both w w' v5 (.pointer (some ⟨r, 0, none⟩)) c L L o3 o4 ∧ c ≤ x.toNat ∧ L.length ≤ U.length + x.toNat))
    case atStart => exact ⟨0, 0, U, o1, o2, rfl, ⟨by decide, by simp⟩, ⟨HBo.out, by decide, by simp⟩⟩
    case round =>
      obtain ⟨x, c, L, o3, o4, rfl, hk, hb⟩ := hrel
      clear HBo
      have hk0 := hk.out.1
      by_cases hx : x < (l.length : Int)
      · obtain ⟨ad, rfl, h0, h1⟩ := at_T41 (Kd.C_below HR1.out hb.out.1.bel) x hk0 hx
        have HS := Aside0.mk (HLI.out.sl x hk0 hx)
        have HX := Aside0.mk hx
        have q1 : decide (x < (l.length : Int)) = true := decide_eq_true hx
        have p1 := eq_true hk0
        have p2 := eq_true hx
        generalize (rd_T41 l x).f0 = d at *
        generalize (rd_T41 l x).f1 = s at *
        have HS2 : Aside0 (s.size ≤ 20000) := ⟨by have := HS.out; omega⟩
        have HLL : Aside0 (L.length < 3000) := ⟨by have := hb.out.2.2; have := HLI.out.hu; have := HLI.out.hl; omega⟩
        have HCC : Aside0 (c < 3000) := ⟨by have := hb.out.2.1; have := HLI.out.hl; omega⟩
        clear hx hk0
        by_cases hd : d ≠ 0 ∧ d ≠ 1
        · have d0 : (d != 0) = true := by simpa using hd.1
          have d1 : (d != 1) = true := by simpa using hd.2
          clear hd
          go_wp2_with (first | (go_at_call 28; (refine (PS_Clone _ hb.out.1.ps).mono ?_); rintro e w3 ⟨b2, o5, rfl, hp3, hn3, hb3⟩; have HB3 := Aside0.mk (hb.out.1.clone hp3 hn3 hb3); clear hp3 hn3 hb3))
          go_roundg (gk - 1)
          case measure => have := hk.out; have := HX.out; omega
          case rel =>
            have h1 := hk.out
            have h2 := HX.out
            have h3 := hb.out.2
            have h4 := HLI.out.hl
            exact ⟨x + 1, c, L, o5, o4, by rw [show wrap64 (x + 1) = x + 1 from by unfold wrap64; omega], ⟨by omega, by omega⟩, ⟨HB3.out, by omega, by omega⟩⟩
        · have hst : Aside0 (∀ w3, Went w wr w3 u5 (.pointer (some ⟨r, 0, none⟩)) c L o3 o4 → ∃ c' L' o6, Both w w3 u5 (.pointer (some ⟨r, 0, none⟩)) c' L' L' o3 o6 ∧ c' ≤ (x + 1).toNat ∧ L'.length ≤ U.length + (x + 1).toNat) := ⟨fun w3 hw => by
            obtain ⟨c', L', o6, h1, _, _, h4, h5⟩ := hw.out
            have := hb.out.2
            have := hk.out.1
            exact ⟨c', L', o6, h1, by omega, by omega⟩⟩
          by_cases d0 : d = 0
          · have d0b : (d != 0) = false := by simpa using d0
            clear hd d0
            go_wp2_with (first | (go_at_call 29; (refine (step_calls w _ HG.out hb.out.1 d s HS2.out HLL.out HCC.out).mono ?_); rintro e w3 ⟨rfl, hw3⟩; have HW := Aside0.mk (hst.out _ hw3); clear hw3))
            go_roundg (gk - 1)
            case measure => have := hk.out; have := HX.out; omega
            case rel =>
              have h1 := hk.out
              have h2 := HX.out
              have h4 := HLI.out.hl
              obtain ⟨c', L', o6, h5, h6, h7⟩ := HW.out
              exact ⟨x + 1, c', L', o3, o6, by rw [show wrap64 (x + 1) = x + 1 from by unfold wrap64; omega], ⟨by omega, by omega⟩, ⟨h5, h6, h7⟩⟩
          · have d0b : (d != 0) = true := by simpa using d0
            have d1b : (d != 1) = false := by
              have : d = 1 := Classical.byContradiction fun h => hd ⟨d0, h⟩
              simpa using this
            clear hd d0
            go_wp2_with (first | (go_at_call 29; (refine (step_calls w _ HG.out hb.out.1 d s HS2.out HLL.out HCC.out).mono ?_); rintro e w3 ⟨rfl, hw3⟩; have HW := Aside0.mk (hst.out _ hw3); clear hw3))
            go_roundg (gk - 1)
            case measure => have := hk.out; have := HX.out; omega
            case rel =>
              have h1 := hk.out
              have h2 := HX.out
              have h4 := HLI.out.hl
              obtain ⟨c', L', o6, h5, h6, h7⟩ := HW.out
              exact ⟨x + 1, c', L', o3, o6, by rw [show wrap64 (x + 1) = x + 1 from by unfold wrap64; omega], ⟨by omega, by omega⟩, ⟨h5, h6, h7⟩⟩
      · have q1 : decide (x < (l.length : Int)) = false := decide_eq_false hx
        have HB := Aside0.mk hb.out.1.bel
        clear hx hk0
        go_wp2_with (first | (go_at_call 11; (refine (awake_calls _ (Glob.below HG.out HB.out)).mono ?_); rintro e w1 ⟨rfl, hb2⟩; have n0_ := Aside0.mk (below_step HB.out hb2); clear HB hb2; have HB := n0_; clear n0_))
        go_ret
        exact ⟨rfl, HB.out⟩
end Su
namespace P
theorem lazyclaw01_NamesSupply.walk (A0 : Option Addr) (c0 : Nat) (U : List ByteArray) (A1 : Option Addr) (c1 : Nat) (l : List S41) (w : World) (hr0 : Kd.C Kd.string w A0 U.length U) (hc0 : U.length ≤ c0) (hr1 : Kd.C k41 w A1 l.length l) (hc1 : l.length ≤ c1) (hG_ : Glob w) :
    Calls Tryd.prog 8 #[.slice A0 U.length c0, .slice A1 l.length c1] w fun e w' => e = .returned (.bool true) ∧ Below w.heap.size w w' := Su.NamesSupply_walk w hG_ A0 c0 U A1 c1 l hr0 hc0 hr1 hc1
end P
end Go.Proofs.YtfbhipcfjkkmmaaDoor
