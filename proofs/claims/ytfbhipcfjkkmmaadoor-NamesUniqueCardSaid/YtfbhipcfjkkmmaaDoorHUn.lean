/- NamesUnique walked. -/
import Derived.Test.YtfbhipcfjkkmmaaDoorHLi
namespace Go.Proofs.YtfbhipcfjkkmmaaDoor
open Go.RowKit Go.Proofs.YtfbhipcfjkkmmaaDoorW.PrintWords Go.Proofs.YtfbhipcfjkkmmaaDoorW.PrintLast Go.Proofs.YtfbhipcfjkkmmaaDoorW.PrintMore
attribute [local go_sem] max2_int min2_int max_two min_two max_three min_three max_four min_four
open P _root_.Go.Proofs.YtfbhipcfjkkmmaaDoor.Nm
namespace Su
set_option linter.unusedVariables false
set_option linter.unusedSimpArgs false

/-- The program's supply with the names L, and a row of the law's own with the names T. -/
structure Uq (w0 w : World) (p : Value) (c : Nat) (L T : List ByteArray) (o : List Nat) (v : Value) : Prop where
  ps : PS w p c L o
  row : Kd.string.R 9 w 0 (fun _ => True) v T
  ne : ∀ k, v.ownBlock = some k → k ∉ o
  bel : Below w0.heap.size w0 w
  lo : ∀ k ∈ o, w0.heap.size ≤ k
  loq : ∀ k, v.ownBlock = some k → w0.heap.size ≤ k
theorem row_but {w w' : World} {v : Value} {T : List ByteArray} {o : List Nat} (h : Kd.string.R 9 w 0 (fun _ => True) v T) (hb : But o w w') (hn : ∀ k, v.ownBlock = some k → k ∉ o) : Kd.string.R 9 w' 0 (fun _ => True) v T := by
  obtain ⟨h0, inner, ho, hr⟩ := h
  exact ⟨h0, inner, own_move ho (fun k hk => hb.block k (own_lt ho k hk) (hn k hk)), hr⟩
theorem Uq.prog {w0 w w' : World} {p : Value} {c c' : Nat} {L L' T : List ByteArray} {o : List Nat} {v : Value} (h : Uq w0 w p c L T o v) (hp : PS w' p c' L' o) (hb : But o w w') : Uq w0 w' p c' L' T o v :=
  ⟨hp, row_but h.row hb h.ne, h.ne, h.bel.trans (hb.below h.bel.size h.lo), h.lo, h.loq⟩
theorem Uq.below {w0 w w' : World} {p : Value} {c : Nat} {L T : List ByteArray} {o : List Nat} {v : Value} (h : Uq w0 w p c L T o v) (hb : Below w.heap.size w w') : Uq w0 w' p c L T o v :=
  ⟨h.ps.below hb, Kd.R_below h.row hb, h.ne, h.bel.trans (hb.mono h.bel.size), h.lo, h.loq⟩
theorem Uq.app {w0 w w' : World} {p : Value} {c : Nat} {L T T' : List ByteArray} {o : List Nat} {v v' : Value} (h : Uq w0 w p c L T o v) (ho : Kd.string.R 9 w' 0 (fun _ => True) v' T') (hg : w.grownBy w' v.ownBlock) (hat : v'.ownBlock = v.ownBlock ∨ ∃ b, v'.ownBlock = some b ∧ w.heap.size ≤ b) : Uq w0 w' p c L T' o v' := by
  have hb : But v.ownBlock.toList w w' := But.of_grownO hg (fun m hm => by rw [hm]; simp)
  refine ⟨h.ps.but hb (fun k hk hk2 => ?_), ho, fun k hk => ?_, h.bel.trans (hb.below h.bel.size (fun k hk => h.loq k (by simpa using hk))), h.lo, fun k hk => ?_⟩
  · exact h.ne k (by simpa using hk2) hk
  · rcases hat with e | ⟨b, e, hle⟩
    · exact h.ne k (e ▸ hk)
    · rw [e] at hk; injection hk with hk; intro hk2; have := h.ps.lt k hk2; omega
  · rcases hat with e | ⟨b, e, hle⟩
    · exact h.loq k (e ▸ hk)
    · rw [e] at hk; injection hk with hk; have := h.bel.size; omega
theorem PS.as {w : World} {p : Value} {c : Nat} {L L' : List ByteArray} {o : List Nat} (h : PS w p c L o) (hm : ∀ x, (bls L').contains x = (bls L).contains x) (hl : L.length ≤ L'.length) : PS w p c L' o := by
  obtain ⟨b, mu, mn, M, h1, h2, hs, ht⟩ := h
  exact ⟨b, mu, mn, M, h1, h2, hs.as hm (by simpa using hl), fun y => ⟨(ht y).1, fun j h3 h4 => by rw [hm]; exact (ht y).2 j h3 h4⟩⟩
theorem PS.tk_snoc {w : World} {p : Value} {c : Nat} {L : List ByteArray} {o : List Nat} {x : ByteArray} (h : PS w p c (tk L x) o) : PS w p c (L ++ [x]) o := by
  unfold tk at h
  by_cases hb : hasB L x = true
  · rw [if_pos hb] at h
    refine h.as (fun y => ?_) (by simp)
    rw [bls_snoc]
    exact contains_snoc_of hb y
  · rw [if_neg hb] at h; exact h
/-- The row is read. -/
theorem Uq.reads {w0 w : World} {p : Value} {c : Nat} {L T : List ByteArray} {o : List Nat} {A : Option Addr} {n q : Nat} (h : Uq w0 w p c L T o (.slice A n q)) (hn : n = T.length) : Kd.C Kd.string w A T.length T ∧ T.length ≤ q := by
  subst hn
  obtain ⟨A', q', he, hl, hC⟩ := Kd.R_reads h.row
  injection he with e1 e2 e3
  subst e1 e3
  exact ⟨hC, hl⟩
theorem Uq.slice {w0 w : World} {p : Value} {c : Nat} {L T : List ByteArray} {o : List Nat} {v : Value} (h : Uq w0 w p c L T o v) : ∃ A q, v = .slice A T.length q := Kd.R_slice h.row
theorem base_nil : baseA ⟨#[]⟩ = (⟨#[]⟩, 0, false) := by decide

theorem made_nil (y : ByteArray) (n : Int) (h : stemB y = false) : madeA y n = ⟨#[]⟩ := by
  apply bytes_ext
  rw [madeA_list, h, if_neg (by simp)]
theorem Take_uq {w0 w : World} {p : Value} {c : Nat} {L T : List ByteArray} {o : List Nat} {v : Value} (h : Uq w0 w p c L T o v) (s : ByteArray) (hs : s.size ≤ maxLen) (hL : L.length < 4000) {t r : Bool} (ht : hasB L s = t) (hr : (!t) = r) :
    Calls Tryd.prog 24 #[p, .string s] w fun e w' => e = .returned (.bool r) ∧ Uq w0 w' p c (L ++ [s]) T o v := by
  refine (PS_Take w h.ps s hs hL).mono fun e w' ⟨he, hp, hb⟩ => ⟨?_, h.prog hp.tk_snoc hb⟩
  rw [he, ht, hr]
theorem Fresh_uq {w0 w : World} (hG : Glob w0) {p : Value} {c : Nat} {L T : List ByteArray} {o : List Nat} {v : Value} (h : Uq w0 w p c L T o v) (s : ByteArray) (hs : s.size ≤ 20000) (hL : L.length < 4000) (hc : c < 4000) :
    Calls Tryd.prog 26 #[p, .string s] w fun e w' => ∃ y L' c', e = .returned (.string y) ∧ Ans L s y L' ∧ Uq w0 w' p c' L' T o v ∧ c' ≤ c + 1 :=
  (PS_Fresh w (hG.below h.bel) h.ps s hs hL hc).mono fun e w' ⟨y, L', c', he, ha, hp, hcc, hb⟩ => ⟨y, L', c', he, ha, h.prog hp hb, hcc⟩
theorem at41_w {w : World} {A : Option Addr} {n : Nat} {xs : List S41} (h : Kd.C k41 w A n xs) (i : Int) (h0 : 0 ≤ i) (h1 : i < n) : ∃ ad, A = some ad ∧ ∀ w', Below w.heap.size w w' → w'.cell? (ad.add (i.toNat * 2)) = some (.int .i64 (rd_T41 xs i).f0) ∧ w'.cell? ⟨(ad.add (i.toNat * 2)).block, (ad.add (i.toNat * 2)).off + 1, none⟩ = some (.string (rd_T41 xs i).f1) := by
  obtain ⟨ad, rfl, h2, h3⟩ := at_T41 h i h0 h1
  exact ⟨ad, rfl, fun w' hb => ⟨pw_cell_below hb h2, pw_cell_below hb h3⟩⟩

set_option maxHeartbeats 8000000 in
set_option maxRecDepth 100000 in
theorem NamesUnique_walk (w : World) (hG : Glob w) (A0 : Option Addr) (c0 : Nat) (U : List ByteArray) (A1 : Option Addr) (c1 : Nat) (l : List S41)
    (hr0 : Kd.C Kd.string w A0 U.length U) (hc0 : U.length ≤ c0) (hr1 : Kd.C k41 w A1 l.length l) (hc1 : l.length ≤ c1) :
    Calls Tryd.prog 7 #[.slice A0 U.length c0, .slice A1 l.length c1] w fun e w' => e = .returned (.bool true) ∧ Below w.heap.size w w' := by
  have HG := Aside0.mk hG
  have HR0 := Aside0.mk hr0
  have HC0 := Aside0.mk hc0
  have HR1 := Aside0.mk hr1
  have HC1 := Aside0.mk hc1
  obtain ⟨r, hr, hlr⟩ := light_f U l
  have HL := Aside0.mk hr
  clear hG hr0 hc0 hr1 hc1 hr
  cases r
  · clear hlr
    go_enter Tryd.func7, Tryd.ntmps7
    go_wp2_with (first | (go_at_call 22; (refine (lazyclaw01_light.calls 200 A0 c0 U A1 c1 l false _ HR0.out HC0.out HR1.out HC1.out HL.out).mono ?_); rintro e w' ⟨rfl, ⟨nd, rfl⟩⟩; have HB := Aside0.mk (pw_below_drewN (Below.refl w.heap.size w) nd)) | (go_at_call 11; (refine (awake_calls _ (Glob.below HG.out HB.out)).mono ?_); rintro e w1 ⟨rfl, hb⟩; have n0_ := Aside0.mk (below_step HB.out hb); clear HB hb; have HB := n0_; clear n0_))
    go_ret
    exact ⟨rfl, HB.out⟩
  · have HLI := Aside0.mk (hlr rfl)
    clear hlr
    have HSU : Aside0 (∀ x ∈ U, x.size ≤ maxLen) := ⟨fun x hx => Nat.le_trans (HLI.out.su x hx) (by decide)⟩
    have HU4 : Aside0 (U.length < 4000) := ⟨by have := HLI.out.hu; omega⟩
    go_enter Tryd.func7, Tryd.ntmps7
    go_upto_region 4 with (first | (go_at_call 22; (refine (lazyclaw01_light.calls 200 A0 c0 U A1 c1 l true _ HR0.out HC0.out HR1.out HC1.out HL.out).mono ?_); rintro e w' ⟨rfl, ⟨nd, rfl⟩⟩; have HB := Aside0.mk (pw_below_drewN (Below.refl w.heap.size w) nd)) | (go_at_call 23; (refine (PS_New _ A0 c0 U (Kd.C_below HR0.out HB.out) HU4.out HSU.out).mono ?_); rintro e w1 ⟨b, o, rfl, hp1, hn1, hb1⟩; have HQ := Aside0.mk (show Uq w w1 (.pointer (some ⟨b, 0, none⟩)) 0 U [] o (.slice none 0 0) from ⟨hp1, Kd.R_nil _ _ _ _ _, fun k hk => by simp [Value.ownBlock] at hk, below_step HB.out hb1, fun k hk => Nat.le_trans HB.out.size (hn1 k hk), fun k hk => by simp [Value.ownBlock] at hk⟩); clear hp1 hn1 hb1))
    clear HB
    go_wp2
    go_loopg [6, 7] U.length (fun kq v6 v7 w' => ∃ (x : Int) (T : List ByteArray), v7 = .int .i64 x ∧ Aside0 (0 ≤ x ∧ x.toNat + kq = U.length) ∧ Aside0 (Uq w w' (.pointer (some ⟨b, 0, none⟩)) 0 U T o v6 ∧ T = U.take x.toNat))
    case atStart => exact ⟨0, _, rfl, ⟨by decide, by simp⟩, ⟨HQ.out, rfl⟩⟩
    case round =>
      obtain ⟨x, T, rfl, hk, hq⟩ := hrel
      clear HQ
      have hk0 := hk.out.1
      by_cases hx : x < (U.length : Int)
      · obtain ⟨ad, rfl, hel⟩ := Kd.at_string (Kd.C_below HR0.out hq.out.1.bel) x hk0 hx
        have HTK := Aside0.mk (take_rd U x hk0 hx)
        have HX := Aside0.mk hx
        have q1 : decide (x < (U.length : Int)) = true := decide_eq_true hx
        have p1 := eq_true hk0
        have p2 := eq_true hx
        have HLL : Aside0 ((T.length + 1) * 16 ≤ 140737488355328) := ⟨by have h1 := List.length_take_le x.toNat U; rw [← hq.out.2] at h1; have := HLI.out.hu; omega⟩
        clear hx hk0
        generalize rdOf ByteArray.empty U x = s at *
        go_wp2_with ((with_reducible refine gate_builtin (b := .append) (xs := #[.tmp 31, .tmp 36]) rfl ?_); at_builtin; refine Kd.R_append Kd.string (w0 := wr) 0 rfl (.tmp 31) (.tmp 36) 35 9 (.string ⟨#[]⟩) 16 rfl Tryd.underlying35 info9 rfl (by decide) (by decide) u6 T s [.string s] (fun _ => True) (fun _ => False) rfl rfl rfl (fun _ hk => hk.elim) (fun _ _ => trivial) hq.out.1.row (Below.refl _ _) (Nat.zero_le _) HLL.out ?_)
        intro v1 w1 ho hb1 hg hat
        obtain ⟨A2, cr, rfl⟩ := Kd.R_slice ho
        have HQ2 := Aside0.mk (hq.out.1.app ho hg hat)
        clear ho hb1 hg hat
        go_wp2
        go_roundg (gk - 1)
        case measure => have := hk.out; have := HX.out; omega
        case rel =>
          have h1 := hk.out
          have h2 := HX.out
          have h4 := HLI.out.hu
          have et : (x + 1).toNat = x.toNat + 1 := by omega
          have h5 := HQ2.out
          exact ⟨x + 1, T ++ [s], by rw [show wrap64 (x + 1) = x + 1 from by unfold wrap64; omega], ⟨by omega, by omega⟩, ⟨h5, by rw [et, HTK.out, hq.out.2]⟩⟩
      · have q1 : decide (x < (U.length : Int)) = false := decide_eq_false hx
        have hT : T = U := by rw [hq.out.2]; exact List.take_of_length_le (by have := hk.out; omega)
        subst hT
        have HQ := Aside0.mk hq.out.1
        clear hx hk0 hq hk
        obtain ⟨wx, rfl⟩ : ∃ wx, wx = wr := ⟨_, rfl⟩
        go_wp2
        go_loopg [6, 8] l.length (fun kq v6 v8 w' => ∃ (x : Int) (c : Nat) (L : List ByteArray), v8 = .int .i64 x ∧ Aside0 (0 ≤ x ∧ x.toNat + kq = l.length) ∧ Aside0 (Uq w w' (.pointer (some ⟨b, 0, none⟩)) c L L o v6 ∧ c ≤ x.toNat ∧ L.length ≤ T.length + x.toNat))
        case atStart => exact ⟨0, 0, T, rfl, ⟨by decide, by simp⟩, ⟨HQ.out, by decide, by simp⟩⟩
        case round =>
          obtain ⟨x, c, L, rfl, hk, hq⟩ := hrel
          clear HQ
          have hk0 := hk.out.1
          by_cases hx : x < (l.length : Int)
          · obtain ⟨ad, rfl, hc1⟩ := at41_w HR1.out x hk0 hx
            obtain ⟨A2, q2, rfl⟩ := hq.out.1.slice
            have HSl : Aside0 ((rd_T41 l x).f1.size ≤ 100) := ⟨HLI.out.sl x hk0 hx⟩
            have HX := Aside0.mk hx
            have p0 : decide (x < (l.length : Int)) = true := decide_eq_true hx
            have p1 := eq_true hk0
            have p2 := eq_true hx
            generalize (rd_T41 l x).f0 = d at *
            generalize (rd_T41 l x).f1 = s at *
            have HCl := Aside0.mk hc1
            have f1 := (HCl.out _ hq.out.1.bel).1
            have f2 := (HCl.out _ hq.out.1.bel).2
            have HLn : Aside0 (L.length ≤ 80) := ⟨by have := hq.out.2.2; have := hk.out.2; have := HLI.out.hl; have := HLI.out.hu; omega⟩
            have HL4 : Aside0 (L.length < 4000) := ⟨by have := HLn.out; omega⟩
            have HCC : Aside0 (c < 4000) := ⟨by have := hq.out.2.1; have := HLI.out.hl; omega⟩
            have HLL : Aside0 ((L.length + 1) * 16 ≤ 140737488355328) := ⟨by have := HLn.out; omega⟩
            have HSm : Aside0 (s.size ≤ maxLen) := ⟨Nat.le_trans HSl.out (by decide)⟩
            clear hc1 hx hk0
            by_cases hd0 : d = 0
            · have d0 : (d != 0) = false := by simpa using hd0
              clear hd0
              obtain ⟨q1, qn, q3, hqa⟩ : ∃ q1 qn q3, baseA s = (q1, qn, q3) := ⟨_, _, _, rfl⟩
              have HB1 := Aside0.mk (Base_f s (by have := HSl.out; omega) 60000 (by have := HSl.out; omega))
              have hfb : freshBase s = if q3 then q1 else s := by unfold freshBase; rw [hqa]
              rw [hqa] at HB1
              clear hqa
              obtain ⟨y, hy⟩ : ∃ y, freshBase s = y := ⟨_, rfl⟩
              have HYs : Aside0 (y.size ≤ 100) := ⟨by rw [← hy]; exact Nat.le_trans (freshBase_size s) HSl.out⟩
              rw [hy] at hfb
              have HY := Aside0.mk hy
              clear hy
              have HQ := Aside0.mk hq.out.1
              cases q3
              all_goals
                simp only [Bool.false_eq_true, if_false, if_true] at hfb
                subst hfb
                go_upto_region 22 with (first | (go_at_call 18; (refine (names_Base.calls 60000 _ _ _ _ _ (Glob.below HG.out HQ.out.bel) HB1.out).mono ?_); rintro e w3 ⟨rfl, hb3⟩; have n0_ := Aside0.mk (HQ.out.below hb3); have g1_ := (HCl.out _ n0_.out.bel).1; have g2_ := (HCl.out _ n0_.out.bel).2; clear HQ; have HQ := n0_; clear n0_; clear hb3) | (go_at_call 26; (refine (Fresh_uq HG.out HQ.out _ (Nat.le_trans HSl.out (by decide)) HL4.out HCC.out).mono ?_); rintro e w4 ⟨z, L1, c1, rfl, ha, hu, hcc⟩; have n0_ := Aside0.mk (hu); have g1_ := (HCl.out _ n0_.out.bel).1; have g2_ := (HCl.out _ n0_.out.bel).2; clear HQ; have HQ := n0_; clear n0_; have HA := Aside0.mk ha; have HC2 := Aside0.mk hcc; clear ha hu hcc))
                rcases HA.out with ⟨hst, hz, hL1⟩ | ⟨n, hst, hn, hz, hL1⟩
                · as_aux_lemma =>
                  subst hz
                  subst hL1
                  rw [HY.out] at hst
                  have HBn := Aside0.mk (Base_f ⟨#[]⟩ (by decide) 60000 (by decide))
                  rw [base_nil] at HBn
                  have HM := Aside0.mk (Made_f y 1 (by have := HYs.out; omega) ⟨by omega, by omega⟩ 60000 (by have := HYs.out; omega))
                  rw [made_nil y 1 hst] at HM
                  clear hst
                  go_wp2_with (first | (go_at_call 18; (refine (names_Base.calls 60000 _ _ _ _ _ (Glob.below HG.out HQ.out.bel) HBn.out).mono ?_); rintro e w5 ⟨rfl, hb3⟩; have n0_ := Aside0.mk (HQ.out.below hb3); have g1_ := (HCl.out _ n0_.out.bel).1; have g2_ := (HCl.out _ n0_.out.bel).2; clear HQ; have HQ := n0_; clear n0_; clear hb3) | (go_at_call 20; (refine (names_Made.calls 60000 y 1 _ _ (Glob.below HG.out HQ.out.bel) HM.out).mono ?_); rintro e w6 ⟨rfl, hb3⟩; have n0_ := Aside0.mk (HQ.out.below hb3); have g1_ := (HCl.out _ n0_.out.bel).1; have g2_ := (HCl.out _ n0_.out.bel).2; clear HQ; have HQ := n0_; clear n0_; clear hb3))
                  go_roundg (gk - 1)
                  case measure => have := hk.out; have := HX.out; omega
                  case rel =>
                    have h1 := hk.out
                    have h2 := HX.out
                    have h3 := hq.out.2
                    have h4 := HLI.out.hl
                    have h5 := HC2.out
                    have et : (x + 1).toNat = x.toNat + 1 := by omega
                    exact ⟨x + 1, c1, L1, by rw [show wrap64 (x + 1) = x + 1 from by unfold wrap64; omega], ⟨by omega, by omega⟩, ⟨HQ.out, by omega, by omega⟩⟩
                · as_aux_lemma =>
                  rw [HY.out] at hst hn hz
                  have HNn := Aside0.mk hn
                  have hnle : n ≤ 100 := by have := hn.le; rw [List.length_map] at this; have := HLn.out; omega
                  have hb := base_made y n (by omega) (by omega) hst
                  have hzl := made_list y n (by omega) hst
                  have hzs := made_size y n ⟨by omega, by omega⟩
                  have hfr : hasB L (madeA y n) = false := hn.free
                  rw [← hz] at hb hzl hzs hfr
                  have HZE : z.toList.isEmpty = false := by rw [toL, hzl]; simp
                  have HZ2 : (z.toList == ([] : List UInt8)) = false := by rw [toL, hzl]; simp
                  have HN1 : decide ((n : Int) < 1) = false := decide_eq_false (by have := hn.pos; omega)
                  have HBn := Aside0.mk (Base_f z (by have := HYs.out; omega) 60000 (by have := HYs.out; omega))
                  rw [hb] at HBn
                  have HF := Aside0.mk (Has_f L z (by have := HL4.out; omega) 5000 (by have := HL4.out; omega))
                  rw [hfr] at HF
                  have HL1 := Aside0.mk hL1
                  clear hst hn hz hb hzl hzs hfr hL1 hnle
                  go_wp2_with (first | (go_at_call 18; (refine (names_Base.calls 60000 z y _ _ _ (Glob.below HG.out HQ.out.bel) HBn.out).mono ?_); rintro e w5 ⟨rfl, hb3⟩; have n0_ := Aside0.mk (HQ.out.below hb3); have g1_ := (HCl.out _ n0_.out.bel).1; have g2_ := (HCl.out _ n0_.out.bel).2; clear HQ; have HQ := n0_; clear n0_; clear hb3) | (go_at_call 25; (refine (lazycref01_Has.calls 5000 A2 q2 L z false _ (HQ.out.reads rfl).1 (HQ.out.reads rfl).2 HF.out).mono ?_); rintro e w6 ⟨rfl, hd⟩; have n0_ := Aside0.mk (HQ.out.below (drawn_below0 hd)); have g1_ := (HCl.out _ n0_.out.bel).1; have g2_ := (HCl.out _ n0_.out.bel).2; clear HQ; have HQ := n0_; clear n0_; clear hd) | ((with_reducible refine gate_builtin (b := .append) (xs := #[.tmp 124, .tmp 126]) rfl ?_); at_builtin; refine Kd.R_append Kd.string 0 rfl (.tmp 124) (.tmp 126) 35 9 (.string ⟨#[]⟩) 16 rfl Tryd.underlying35 info9 rfl (by decide) (by decide) (.slice A2 L.length q2) L z [.string z] (fun _ => True) (fun _ => False) rfl rfl rfl (fun _ hk => hk.elim) (fun _ _ => trivial) HQ.out.row (Below.refl _ _) (Nat.zero_le _) HLL.out ?_))
                  intro v1 w7 ho hb1 hg hat
                  obtain ⟨A3, cr, rfl⟩ := Kd.R_slice ho
                  have HQ2 := Aside0.mk (HQ.out.app ho hg hat)
                  clear ho hb1 hg hat
                  go_wp2
                  go_roundg (gk - 1)
                  case measure => have := hk.out; have := HX.out; omega
                  case rel =>
                    have h1 := hk.out
                    have h2 := HX.out
                    have h3 := hq.out.2
                    have h4 := HLI.out.hl
                    have h6 := HC2.out
                    have et : (x + 1).toNat = x.toNat + 1 := by omega
                    have h5 := HQ2.out
                    rw [HL1.out] at h5
                    exact ⟨x + 1, c1, L ++ [z], by rw [show wrap64 (x + 1) = x + 1 from by unfold wrap64; omega], ⟨by omega, by omega⟩, ⟨h5, by omega, by rw [List.length_append]; simp only [List.length_singleton]; omega⟩⟩
            · have d0 : (d != 0) = true := by simpa using hd0
              clear hd0
              have HF := Aside0.mk (Has_f L s (by have := HL4.out; omega) 5000 (by have := HL4.out; omega))
              have HQ := Aside0.mk (hq.out.1.below (below_drew (Below.refl _ _)))
              have f3 := (HCl.out _ HQ.out.bel).1
              have f4 := (HCl.out _ HQ.out.bel).2
              cases hh : hasB L s
              · rw [hh] at HF
                have HH := Aside0.mk hh
                clear hh
                go_upto_region 15 with fail
                go_region_with (first | (go_at_call 24; (refine (Take_uq HQ.out s HSm.out HL4.out (t := false) (r := true) HH.out rfl).mono ?_); rintro e w3 ⟨rfl, hu⟩; have n0_ := Aside0.mk (hu); have g1_ := (HCl.out _ n0_.out.bel).1; have g2_ := (HCl.out _ n0_.out.bel).2; clear HQ; have HQ := n0_; clear n0_; clear hu) | (go_at_call 25; (refine (lazycref01_Has.calls 5000 A2 q2 L s false _ (HQ.out.reads rfl).1 (HQ.out.reads rfl).2 HF.out).mono ?_); rintro e w4 ⟨rfl, hd⟩; have n0_ := Aside0.mk (HQ.out.below (drawn_below0 hd)); have g1_ := (HCl.out _ n0_.out.bel).1; have g2_ := (HCl.out _ n0_.out.bel).2; clear HQ; have HQ := n0_; clear n0_; clear hd))
                all_goals
                  as_aux_lemma =>
                  go_wp2_with ((with_reducible refine gate_builtin (b := .append) (xs := #[.tmp 65, .tmp 71]) rfl ?_); at_builtin; refine Kd.R_append Kd.string 0 rfl (.tmp 65) (.tmp 71) 35 9 (.string ⟨#[]⟩) 16 rfl Tryd.underlying35 info9 rfl (by decide) (by decide) (.slice A2 L.length q2) L s [.string s] (fun _ => True) (fun _ => False) rfl rfl rfl (fun _ hk => hk.elim) (fun _ _ => trivial) HQ.out.row (Below.refl _ _) (Nat.zero_le _) HLL.out ?_)
                  intro v1 w5 ho hb1 hg hat
                  obtain ⟨A3, cr, rfl⟩ := Kd.R_slice ho
                  have HQ2 := Aside0.mk (HQ.out.app ho hg hat)
                  clear ho hb1 hg hat
                  go_wp2
                  go_roundg (gk - 1)
                  case measure => have := hk.out; have := HX.out; omega
                  case rel =>
                    have h1 := hk.out
                    have h2 := HX.out
                    have h3 := hq.out.2
                    have h4 := HLI.out.hl
                    have et : (x + 1).toNat = x.toNat + 1 := by omega
                    have h5 := HQ2.out
                    exact ⟨x + 1, c, L ++ [s], by rw [show wrap64 (x + 1) = x + 1 from by unfold wrap64; omega], ⟨by omega, by omega⟩, ⟨h5, by omega, by rw [List.length_append]; simp only [List.length_singleton]; omega⟩⟩
              · rw [hh] at HF
                have HH := Aside0.mk hh
                clear hh
                go_upto_region 15 with fail
                go_region_with (first | (go_at_call 24; (refine (Take_uq HQ.out s HSm.out HL4.out (t := true) (r := false) HH.out rfl).mono ?_); rintro e w3 ⟨rfl, hu⟩; have n0_ := Aside0.mk (hu); have g1_ := (HCl.out _ n0_.out.bel).1; have g2_ := (HCl.out _ n0_.out.bel).2; clear HQ; have HQ := n0_; clear n0_; clear hu) | (go_at_call 25; (refine (lazycref01_Has.calls 5000 A2 q2 L s true _ (HQ.out.reads rfl).1 (HQ.out.reads rfl).2 HF.out).mono ?_); rintro e w4 ⟨rfl, hd⟩; have n0_ := Aside0.mk (HQ.out.below (drawn_below0 hd)); have g1_ := (HCl.out _ n0_.out.bel).1; have g2_ := (HCl.out _ n0_.out.bel).2; clear HQ; have HQ := n0_; clear n0_; clear hd))
                all_goals
                  as_aux_lemma =>
                  go_wp2_with ((with_reducible refine gate_builtin (b := .append) (xs := #[.tmp 65, .tmp 71]) rfl ?_); at_builtin; refine Kd.R_append Kd.string 0 rfl (.tmp 65) (.tmp 71) 35 9 (.string ⟨#[]⟩) 16 rfl Tryd.underlying35 info9 rfl (by decide) (by decide) (.slice A2 L.length q2) L s [.string s] (fun _ => True) (fun _ => False) rfl rfl rfl (fun _ hk => hk.elim) (fun _ _ => trivial) HQ.out.row (Below.refl _ _) (Nat.zero_le _) HLL.out ?_)
                  intro v1 w5 ho hb1 hg hat
                  obtain ⟨A3, cr, rfl⟩ := Kd.R_slice ho
                  have HQ2 := Aside0.mk (HQ.out.app ho hg hat)
                  clear ho hb1 hg hat
                  go_wp2
                  go_roundg (gk - 1)
                  case measure => have := hk.out; have := HX.out; omega
                  case rel =>
                    have h1 := hk.out
                    have h2 := HX.out
                    have h3 := hq.out.2
                    have h4 := HLI.out.hl
                    have et : (x + 1).toNat = x.toNat + 1 := by omega
                    have h5 := HQ2.out
                    exact ⟨x + 1, c, L ++ [s], by rw [show wrap64 (x + 1) = x + 1 from by unfold wrap64; omega], ⟨by omega, by omega⟩, ⟨h5, by omega, by rw [List.length_append]; simp only [List.length_singleton]; omega⟩⟩
          · have q1 : decide (x < (l.length : Int)) = false := decide_eq_false hx
            have HB := Aside0.mk hq.out.1.bel
            clear hx hk0
            go_wp2_with (first | (go_at_call 11; (refine (awake_calls _ (Glob.below HG.out HB.out)).mono ?_); rintro e w1 ⟨rfl, hb2⟩; have n0_ := Aside0.mk (below_step HB.out hb2); clear HB hb2; have HB := n0_; clear n0_))
            go_ret
            exact ⟨rfl, HB.out⟩
end Su
namespace P
theorem lazyclaw01_NamesUnique.walk (A0 : Option Addr) (c0 : Nat) (U : List ByteArray) (A1 : Option Addr) (c1 : Nat) (l : List S41) (w : World) (hr0 : Kd.C Kd.string w A0 U.length U) (hc0 : U.length ≤ c0) (hr1 : Kd.C k41 w A1 l.length l) (hc1 : l.length ≤ c1) (hG_ : Glob w) :
    Calls Tryd.prog 7 #[.slice A0 U.length c0, .slice A1 l.length c1] w fun e w' => e = .returned (.bool true) ∧ Below w.heap.size w w' := Su.NamesUnique_walk w hG_ A0 c0 U A1 c1 l hr0 hc0 hr1 hc1
end P
end Go.Proofs.YtfbhipcfjkkmmaaDoor
