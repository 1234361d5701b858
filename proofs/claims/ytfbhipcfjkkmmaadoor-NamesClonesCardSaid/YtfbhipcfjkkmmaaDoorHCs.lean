/- NamesClones walked: two pairs of supplies that do not touch each other. -/
import Derived.Test.YtfbhipcfjkkmmaaDoorHLi
namespace Go.Proofs.YtfbhipcfjkkmmaaDoor
open Go.RowKit Go.Proofs.YtfbhipcfjkkmmaaDoorW.PrintWords Go.Proofs.YtfbhipcfjkkmmaaDoorW.PrintLast Go.Proofs.YtfbhipcfjkkmmaaDoorW.PrintMore
attribute [local go_sem] max2_int min2_int max_two min_two max_three min_three max_four min_four
open P _root_.Go.Proofs.YtfbhipcfjkkmmaaDoor.Nm
namespace Su
set_option linter.unusedVariables false
set_option linter.unusedSimpArgs false

theorem Both.but {w0 w w' : World} {p q : Value} {c : Nat} {L L' : List ByteArray} {o1 o2 X : List Nat} (h : Both w0 w p q c L L' o1 o2) (hb : But X w w') (h1 : ∀ k ∈ o1, k ∉ X) (h2 : ∀ k ∈ o2, k ∉ X) (hB : Below w0.heap.size w0 w') : Both w0 w' p q c L L' o1 o2 :=
  ⟨h.ps.but hb h1, h.rs.but hb h2, h.ne, hB, h.lo1, h.lo2⟩
/-- Two pairs. -/
structure Two (w0 w : World) (p q p' q' : Value) (cA : Nat) (LA : List ByteArray) (o1 o2 : List Nat) (cB : Nat) (LB : List ByteArray) (o3 o4 : List Nat) : Prop where
  a : Both w0 w p q cA LA LA o1 o2
  b : Both w0 w p' q' cB LB LB o3 o4
  dis : ∀ k ∈ o1 ++ o2, k ∉ o3 ++ o4
theorem Two.swap {w0 w : World} {p q p' q' : Value} {cA : Nat} {LA : List ByteArray} {o1 o2 : List Nat} {cB : Nat} {LB : List ByteArray} {o3 o4 : List Nat} (h : Two w0 w p q p' q' cA LA o1 o2 cB LB o3 o4) : Two w0 w p' q' p q cB LB o3 o4 cA LA o1 o2 :=
  ⟨h.b, h.a, fun k hk hk2 => h.dis k hk2 hk⟩
theorem Two.step {w0 w w' : World} {p q p' q' : Value} {cA : Nat} {LA : List ByteArray} {o1 o2 : List Nat} {cB : Nat} {LB : List ByteArray} {o3 o4 : List Nat} (h : Two w0 w p q p' q' cA LA o1 o2 cB LB o3 o4) (hw : Went w0 w w' p q cA LA o1 o2) :
    ∃ c' L' o2', Two w0 w' p q p' q' c' L' o1 o2' cB LB o3 o4 ∧ c' ≤ cA + 1 ∧ L'.length ≤ LA.length + 1 := by
  obtain ⟨c', L', o2', h1, h2, h3, h4, h5⟩ := hw.out
  refine ⟨c', L', o2', ⟨h1, h.b.but h2 (fun k hk hx => h.dis k hx (List.mem_append_left _ hk)) (fun k hk hx => h.dis k hx (List.mem_append_right _ hk)) h1.bel, fun k hk hk2 => ?_⟩, h4, h5⟩
  rcases List.mem_append.mp hk with e | e
  · exact h.dis k (List.mem_append_left _ e) hk2
  · rcases h3 k e with e | e
    · exact h.dis k (List.mem_append_right _ e) hk2
    · rcases List.mem_append.mp hk2 with f | f
      · have := h.b.ps.lt k f; omega
      · have := h.b.rs.lt k f; omega
/-- xa and xb calls have been made. -/
def Inv2 (w0 w : World) (p q p' q' : Value) (n xa xb : Nat) : Prop :=
  ∃ cA LA o1 o2 cB LB o3 o4, Two w0 w p q p' q' cA LA o1 o2 cB LB o3 o4 ∧ cA ≤ xa ∧ LA.length ≤ n + xa ∧ cB ≤ xb ∧ LB.length ≤ n + xb
theorem Inv2.swap {w0 w : World} {p q p' q' : Value} {n xa xb : Nat} (h : Inv2 w0 w p q p' q' n xa xb) : Inv2 w0 w p' q' p q n xb xa := by
  obtain ⟨cA, LA, o1, o2, cB, LB, o3, o4, h1, h2, h3, h4, h5⟩ := h
  exact ⟨cB, LB, o3, o4, cA, LA, o1, o2, h1.swap, h4, h5, h2, h3⟩
theorem Inv2.mono {w0 w : World} {p q p' q' : Value} {n xa xb ya yb : Nat} (h : Inv2 w0 w p q p' q' n xa xb) (ha : xa ≤ ya) (hb : xb ≤ yb) : Inv2 w0 w p q p' q' n ya yb := by
  obtain ⟨cA, LA, o1, o2, cB, LB, o3, o4, h1, h2, h3, h4, h5⟩ := h
  exact ⟨cA, LA, o1, o2, cB, LB, o3, o4, h1, by omega, by omega, by omega, by omega⟩
theorem Inv2.bel {w0 w : World} {p q p' q' : Value} {n xa xb : Nat} (h : Inv2 w0 w p q p' q' n xa xb) : Below w0.heap.size w0 w := by
  obtain ⟨cA, LA, o1, o2, cB, LB, o3, o4, h1, _⟩ := h
  exact h1.a.bel
theorem stepA (w0 w : World) (hG : Glob w0) {p q p' q' : Value} {n xa xb : Nat} (h : Inv2 w0 w p q p' q' n xa xb) (d : Int) (x : ByteArray) (hx : x.size ≤ 20000) (hn : n + xa < 3000) :
    Calls Tryd.prog 29 #[p, q, .agg #[.int .i64 d, .string x]] w fun e w' => e = .returned (.bool true) ∧ Inv2 w0 w' p q p' q' n (xa + 1) xb := by
  obtain ⟨cA, LA, o1, o2, cB, LB, o3, o4, h1, h2, h3, h4, h5⟩ := h
  refine (step_calls w0 w hG h1.a d x hx (by omega) (by omega)).mono fun e w' ⟨he, hw⟩ => ⟨he, ?_⟩
  obtain ⟨c', L', o2', h6, h7, h8⟩ := h1.step hw
  exact ⟨c', L', o1, o2', cB, LB, o3, o4, h6, by omega, by omega, h4, h5⟩
theorem stepB (w0 w : World) (hG : Glob w0) {p q p' q' : Value} {n xa xb : Nat} (h : Inv2 w0 w p q p' q' n xa xb) (d : Int) (x : ByteArray) (hx : x.size ≤ 20000) (hn : n + xb < 3000) :
    Calls Tryd.prog 29 #[p', q', .agg #[.int .i64 d, .string x]] w fun e w' => e = .returned (.bool true) ∧ Inv2 w0 w' p q p' q' n xa (xb + 1) :=
  (stepA w0 w hG h.swap d x hx hn).mono fun e w' ⟨he, hw⟩ => ⟨he, hw.swap⟩
theorem at41_all {w : World} {A : Option Addr} {n : Nat} {xs : List S41} (h : Kd.C k41 w A n xs) (i : Int) (h0 : 0 ≤ i) (h1 : i < n) : ∃ ad, A = some ad ∧ ∀ w', Below w.heap.size w w' → w'.cell? (ad.add (i.toNat * 2)) = some (.int .i64 (rd_T41 xs i).f0) ∧ w'.cell? ⟨(ad.add (i.toNat * 2)).block, (ad.add (i.toNat * 2)).off + 1, none⟩ = some (.string (rd_T41 xs i).f1) := by
  obtain ⟨ad, rfl, h2, h3⟩ := at_T41 h i h0 h1
  exact ⟨ad, rfl, fun w' hb => ⟨pw_cell_below hb h2, pw_cell_below hb h3⟩⟩
theorem two_make {w0 w w1 w2 w3 w4 : World} {p q p' q' : Value} {L : List ByteArray} {o1 o2 o3 o4 : List Nat} (hb0 : Below w0.heap.size w0 w) (hp : PS w1 p 0 L o1) (hn1 : ∀ k ∈ o1, w.heap.size ≤ k) (hb1 : Below w.heap.size w w1) (hr : RS w2 q L o2) (hn2 : ∀ k ∈ o2, w1.heap.size ≤ k) (hb2 : Below w1.heap.size w1 w2)
    (hp3 : PS w3 p' 0 L o3) (hn3 : ∀ k ∈ o3, w2.heap.size ≤ k) (hb3 : Below w2.heap.size w2 w3) (hr4 : RS w4 q' L o4) (hn4 : ∀ k ∈ o4, w3.heap.size ≤ k) (hb4 : Below w3.heap.size w3 w4) : Inv2 w0 w4 p q p' q' L.length 0 0 := by
  have h1 := Both.make hb0 hp hn1 hb1 hr hn2 hb2
  have h2 := Both.make h1.bel hp3 hn3 hb3 hr4 hn4 hb4
  refine ⟨0, L, o1, o2, 0, L, o3, o4, ⟨(h1.below hb3).below hb4, h2, fun k hk hk2 => ?_⟩, by omega, by omega, by omega, by omega⟩
  have hlt : k < w2.heap.size := by
    rcases List.mem_append.mp hk with e | e
    · exact h1.ps.lt k e
    · exact h1.rs.lt k e
  rcases List.mem_append.mp hk2 with e | e
  · have := hn3 k e; omega
  · have := hn4 k e; have := hb3.size; omega

set_option maxHeartbeats 8000000 in
set_option maxRecDepth 100000 in
theorem NamesClones_walk (w : World) (hG : Glob w) (A0 : Option Addr) (c0 : Nat) (U : List ByteArray) (A1 : Option Addr) (c1 : Nat) (l : List S41) (A2 : Option Addr) (c2 : Nat) (m : List S41)
    (hr0 : Kd.C Kd.string w A0 U.length U) (hc0 : U.length ≤ c0) (hr1 : Kd.C k41 w A1 l.length l) (hc1 : l.length ≤ c1) (hr2 : Kd.C k41 w A2 m.length m) (hc2 : m.length ≤ c2) :
    Calls Tryd.prog 9 #[.slice A0 U.length c0, .slice A1 l.length c1, .slice A2 m.length c2] w fun e w' => e = .returned (.bool true) ∧ Below w.heap.size w w' := by
  have HG := Aside0.mk hG
  have HR0 := Aside0.mk hr0
  have HC0 := Aside0.mk hc0
  have HR1 := Aside0.mk hr1
  have HC1 := Aside0.mk hc1
  have HR2 := Aside0.mk hr2
  have HC2 := Aside0.mk hc2
  obtain ⟨r1, hl1, hlr1⟩ := light_f U l
  obtain ⟨r2, hl2, hlr2⟩ := light_f U m
  have HL1 := Aside0.mk hl1
  have HL2 := Aside0.mk hl2
  have HX1 := Aside0.mk hlr1
  have HX2 := Aside0.mk hlr2
  clear hG hr0 hc0 hr1 hc1 hr2 hc2 hl1 hl2 hlr1 hlr2
  have HB := Aside0.mk (Below.refl w.heap.size w)
  cases r1
  · go_enter Tryd.func9, Tryd.ntmps9
    go_wp2_with (first | (go_at_call 22; (with_reducible refine (lazyclaw01_light.calls 200 A0 c0 U A1 c1 l _ _ (Kd.C_below HR0.out HB.out) HC0.out (Kd.C_below HR1.out HB.out) HC1.out HL1.out).mono ?_); rintro e w' ⟨rfl, hd⟩; have n0_ := Aside0.mk (below_step HB.out (drawn_below0 hd)); clear HB hd; have HB := n0_; clear n0_) | (go_at_call 11; (refine (awake_calls _ (Glob.below HG.out HB.out)).mono ?_); rintro e w1 ⟨rfl, hb⟩; have n0_ := Aside0.mk (below_step HB.out hb); clear HB hb; have HB := n0_; clear n0_))
    go_ret
    exact ⟨rfl, HB.out⟩
  cases r2
  · go_enter Tryd.func9, Tryd.ntmps9
    go_wp2_with (first | (go_at_call 22; (with_reducible refine (lazyclaw01_light.calls 200 A0 c0 U A1 c1 l _ _ (Kd.C_below HR0.out HB.out) HC0.out (Kd.C_below HR1.out HB.out) HC1.out HL1.out).mono ?_); rintro e w' ⟨rfl, hd⟩; have n0_ := Aside0.mk (below_step HB.out (drawn_below0 hd)); clear HB hd; have HB := n0_; clear n0_) | (go_at_call 22; (with_reducible refine (lazyclaw01_light.calls 200 A0 c0 U A2 c2 m _ _ (Kd.C_below HR0.out HB.out) HC0.out (Kd.C_below HR2.out HB.out) HC2.out HL2.out).mono ?_); rintro e w' ⟨rfl, hd⟩; have n0_ := Aside0.mk (below_step HB.out (drawn_below0 hd)); clear HB hd; have HB := n0_; clear n0_) | (go_at_call 11; (refine (awake_calls _ (Glob.below HG.out HB.out)).mono ?_); rintro e w1 ⟨rfl, hb⟩; have n0_ := Aside0.mk (below_step HB.out hb); clear HB hb; have HB := n0_; clear n0_))
    go_ret
    exact ⟨rfl, HB.out⟩
  have HLI := Aside0.mk (HX1.out rfl)
  have HMI := Aside0.mk (HX2.out rfl)
  clear HX1 HX2
  have HSU : Aside0 (∀ x ∈ U, x.size ≤ maxLen) := ⟨fun x hx => Nat.le_trans (HLI.out.su x hx) (by decide)⟩
  have HU4 : Aside0 (U.length < 4000) := ⟨by have := HLI.out.hu; omega⟩
  go_enter Tryd.func9, Tryd.ntmps9
  go_upto_region 4 with (first | (go_at_call 22; (with_reducible refine (lazyclaw01_light.calls 200 A0 c0 U A1 c1 l _ _ (Kd.C_below HR0.out HB.out) HC0.out (Kd.C_below HR1.out HB.out) HC1.out HL1.out).mono ?_); rintro e w' ⟨rfl, hd⟩; have n0_ := Aside0.mk (below_step HB.out (drawn_below0 hd)); clear HB hd; have HB := n0_; clear n0_) | (go_at_call 22; (with_reducible refine (lazyclaw01_light.calls 200 A0 c0 U A2 c2 m _ _ (Kd.C_below HR0.out HB.out) HC0.out (Kd.C_below HR2.out HB.out) HC2.out HL2.out).mono ?_); rintro e w' ⟨rfl, hd⟩; have n0_ := Aside0.mk (below_step HB.out (drawn_below0 hd)); clear HB hd; have HB := n0_; clear n0_) | (go_at_call 23; (refine (PS_New _ A0 c0 U (Kd.C_below HR0.out HB.out) HU4.out HSU.out).mono ?_); rintro e w1 ⟨b, o1, rfl, hp1, hn1, hb1⟩; have HP1 := Aside0.mk (And.intro hp1 (And.intro hn1 hb1)); have HB1 := Aside0.mk (below_step HB.out hb1); clear hp1 hn1 hb1) | (go_at_call 27; (refine (RS_New _ A0 c0 U (Kd.C_below HR0.out HB1.out) HC0.out HU4.out).mono ?_); rintro e w2 ⟨r, o2, rfl, hp2, hn2, hb2⟩; have HP2 := Aside0.mk (And.intro hp2 (And.intro hn2 hb2)); have HPP := Aside0.mk (PS.below HP1.out.1 hb2); have HB2 := Aside0.mk (below_step HB1.out hb2); clear hp2 hn2 hb2))
  go_upto_region 7 with (first | (go_at_call 28; (refine (PS_Clone _ HPP.out).mono ?_); rintro e w3 ⟨b3, o3, rfl, hp3, hn3, hb3⟩; have HP3 := Aside0.mk (And.intro hp3 (And.intro hn3 hb3)); have HB3 := Aside0.mk (below_step HB2.out hb3); clear hp3 hn3 hb3) | (go_at_call 27; (refine (RS_New _ A0 c0 U (Kd.C_below HR0.out HB3.out) HC0.out HU4.out).mono ?_); rintro e w4 ⟨r4, o4, rfl, hp4, hn4, hb4⟩; have HI := Aside0.mk (two_make HB.out HP1.out.1 HP1.out.2.1 HP1.out.2.2 HP2.out.1 HP2.out.2.1 HP2.out.2.2 HP3.out.1 HP3.out.2.1 HP3.out.2.2 hp4 hn4 hb4); clear hp4 hn4 hb4))
  clear HB HP1 HB1 HP2 HPP HB2 HP3 HB3
  go_wp2
  go_loopg [11] (max l.length m.length) (fun kq v11 w' => ∃ (x : Int), v11 = .int .i64 x ∧ Aside0 (0 ≤ x ∧ x.toNat + kq = max l.length m.length) ∧ Aside0 (Inv2 w w' (.pointer (some ⟨b, 0, none⟩)) (.pointer (some ⟨r, 0, none⟩)) (.pointer (some ⟨b3, 0, none⟩)) (.pointer (some ⟨r4, 0, none⟩)) U.length x.toNat x.toNat))
  case atStart => exact ⟨0, rfl, ⟨by decide, by simp⟩, ⟨HI.out⟩⟩
  case round =>
    obtain ⟨x, rfl, hk, hb⟩ := hrel
    clear HI
    have hk0 := hk.out.1
    have HN : Aside0 (x.toNat ≤ 40) := ⟨by have := hk.out.2; have := HLI.out.hl; have := HMI.out.hl; omega⟩
    have HN2 : Aside0 (U.length + x.toNat < 3000) := ⟨by have := HN.out; have := HLI.out.hu; omega⟩
    have HI := hb
    clear hb
    by_cases hx : x < (l.length : Int)
    · obtain ⟨ad1, rfl, hc1⟩ := at41_all HR1.out x hk0 hx
      have HCl := Aside0.mk hc1
      have HSl : Aside0 ((rd_T41 l x).f1.size ≤ 20000) := ⟨by have := HLI.out.sl x hk0 hx; omega⟩
      have HXl := Aside0.mk hx
      have q1 : decide (x < (l.length : Int)) = true := decide_eq_true hx
      have p2 := eq_true hx
      clear hc1
      by_cases hy : x < (m.length : Int)
      · obtain ⟨ad2, rfl, hc2⟩ := at41_all HR2.out x hk0 hy
        have HCm := Aside0.mk hc2
        have HSm : Aside0 ((rd_T41 m x).f1.size ≤ 20000) := ⟨by have := HMI.out.sl x hk0 hy; omega⟩
        have q2 : decide (x < (m.length : Int)) = true := decide_eq_true hy
        have p1 := eq_true hk0
        have p3 := eq_true hy
        have f1 := (HCl.out _ HI.out.bel).1
        have f2 := (HCl.out _ HI.out.bel).2
        clear hc2 hx hy hk0
        go_wp2_with (first | (go_at_call 29; (with_reducible refine (stepA w _ HG.out HI.out (rd_T41 l x).f0 (rd_T41 l x).f1 HSl.out HN2.out).mono ?_); rintro e w5 ⟨rfl, hi⟩; have n0_ := Aside0.mk hi; have f3 := (HCm.out _ hi.bel).1; have f4 := (HCm.out _ hi.bel).2; clear HI hi; have HI := n0_; clear n0_) | (go_at_call 29; (with_reducible refine (stepB w _ HG.out HI.out (rd_T41 m x).f0 (rd_T41 m x).f1 HSm.out HN2.out).mono ?_); rintro e w6 ⟨rfl, hi⟩; have n0_ := Aside0.mk hi; clear HI hi; have HI := n0_; clear n0_))
        go_roundg (gk - 1)
        case measure => have := hk.out; have := HXl.out; omega
        case rel =>
          have h1 := hk.out
          have h2 := HN.out
          have h3 := HXl.out
          have et : (x + 1).toNat = x.toNat + 1 := by omega
          exact ⟨x + 1, by rw [show wrap64 (x + 1) = x + 1 from by unfold wrap64; omega], ⟨by omega, by omega⟩, ⟨by rw [et]; exact HI.out⟩⟩
      · have q2 : decide (x < (m.length : Int)) = false := decide_eq_false hy
        have p1 := eq_true hk0
        have f1 := (HCl.out _ HI.out.bel).1
        have f2 := (HCl.out _ HI.out.bel).2
        clear hx hy hk0
        go_wp2_with (first | (go_at_call 29; (with_reducible refine (stepA w _ HG.out HI.out (rd_T41 l x).f0 (rd_T41 l x).f1 HSl.out HN2.out).mono ?_); rintro e w5 ⟨rfl, hi⟩; have n0_ := Aside0.mk hi; clear HI hi; have HI := n0_; clear n0_))
        go_roundg (gk - 1)
        case measure => have := hk.out; have := HXl.out; omega
        case rel =>
          have h1 := hk.out
          have h2 := HN.out
          have h3 := HXl.out
          have et : (x + 1).toNat = x.toNat + 1 := by omega
          exact ⟨x + 1, by rw [show wrap64 (x + 1) = x + 1 from by unfold wrap64; omega], ⟨by omega, by omega⟩, ⟨by rw [et]; exact HI.out.mono (by omega) (by omega)⟩⟩
    · have q1 : decide (x < (l.length : Int)) = false := decide_eq_false hx
      by_cases hy : x < (m.length : Int)
      · obtain ⟨ad2, rfl, hc2⟩ := at41_all HR2.out x hk0 hy
        have HSm : Aside0 ((rd_T41 m x).f1.size ≤ 20000) := ⟨by have := HMI.out.sl x hk0 hy; omega⟩
        have q2 : decide (x < (m.length : Int)) = true := decide_eq_true hy
        have HXm := Aside0.mk hy
        have p1 := eq_true hk0
        have p3 := eq_true hy
        have f1 := (hc2 _ HI.out.bel).1
        have f2 := (hc2 _ HI.out.bel).2
        clear hc2 hx hy hk0
        go_wp2_with (first | (go_at_call 29; (with_reducible refine (stepB w _ HG.out HI.out (rd_T41 m x).f0 (rd_T41 m x).f1 HSm.out HN2.out).mono ?_); rintro e w6 ⟨rfl, hi⟩; have n0_ := Aside0.mk hi; clear HI hi; have HI := n0_; clear n0_))
        go_roundg (gk - 1)
        case measure => have := hk.out; have := HXm.out; omega
        case rel =>
          have h1 := hk.out
          have h2 := HN.out
          have h3 := HXm.out
          have et : (x + 1).toNat = x.toNat + 1 := by omega
          exact ⟨x + 1, by rw [show wrap64 (x + 1) = x + 1 from by unfold wrap64; omega], ⟨by omega, by omega⟩, ⟨by rw [et]; exact HI.out.mono (by omega) (by omega)⟩⟩
      · have q2 : decide (x < (m.length : Int)) = false := decide_eq_false hy
        have HB := Aside0.mk HI.out.bel
        clear hx hy hk0 HI
        go_wp2_with (first | (go_at_call 11; (refine (awake_calls _ (Glob.below HG.out HB.out)).mono ?_); rintro e w1 ⟨rfl, hb2⟩; have n0_ := Aside0.mk (below_step HB.out hb2); clear HB hb2; have HB := n0_; clear n0_))
        go_ret
        exact ⟨rfl, HB.out⟩
end Su
namespace P
theorem lazyclaw01_NamesClones.walk (A0 : Option Addr) (c0 : Nat) (U : List ByteArray) (A1 : Option Addr) (c1 : Nat) (l : List S41) (A2 : Option Addr) (c2 : Nat) (m : List S41) (w : World) (hr0 : Kd.C Kd.string w A0 U.length U) (hc0 : U.length ≤ c0) (hr1 : Kd.C k41 w A1 l.length l) (hc1 : l.length ≤ c1) (hr2 : Kd.C k41 w A2 m.length m) (hc2 : m.length ≤ c2) (hG_ : Glob w) :
    Calls Tryd.prog 9 #[.slice A0 U.length c0, .slice A1 l.length c1, .slice A2 m.length c2] w fun e w' => e = .returned (.bool true) ∧ Below w.heap.size w w' := Su.NamesClones_walk w hG_ A0 c0 U A1 c1 l A2 c2 m hr0 hc0 hr1 hc1 hr2 hc2
end P
end Go.Proofs.YtfbhipcfjkkmmaaDoor
