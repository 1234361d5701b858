/- Supply.Fresh. -/
import Derived.Test.YtfbhipcfjkkmmaaDoorHSu
import Derived.Test.YtfbhipcfjkkmmaaDoorQD
import Derived.Deep.RegionWith
namespace Go.Proofs.YtfbhipcfjkkmmaaDoor
open Go.RowKit Go.Proofs.YtfbhipcfjkkmmaaDoorW.PrintWords Go.Proofs.YtfbhipcfjkkmmaaDoorW.PrintLast Go.Proofs.YtfbhipcfjkkmmaaDoorW.PrintMore
attribute [local go_sem] max2_int min2_int max_two min_two max_three min_three max_four min_four
open P _root_.Go.Proofs.YtfbhipcfjkkmmaaDoor.Nm
namespace Su
set_option linter.unusedVariables false
set_option linter.unusedSimpArgs false

/-- A world as w but for the blocks of L, and new ones. -/
structure But (L : List Nat) (w w' : World) : Prop where
  os : w'.os = w.os
  tape : w'.tape = w.tape
  output : w'.output = w.output
  size : w.heap.size ≤ w'.heap.size
  block : ∀ k, k < w.heap.size → k ∉ L → w'.heap[k]? = w.heap[k]?
theorem But.of_below {L : List Nat} {w w' : World} (h : Below w.heap.size w w') : But L w w' := ⟨h.os, h.tape, h.output, h.size, fun k hk _ => h.block k hk⟩
theorem But.of_grown {L : List Nat} {w w' : World} {m : Nat} (h : w.grownBy w' (some m)) (hm : m ∈ L) : But L w w' := ⟨h.os, h.tape, h.output, h.size, fun k hk hn => h.block k hk (fun e => hn (by injection e with e; exact e ▸ hm))⟩
theorem But.trans {L : List Nat} {a b c : World} (h : But L a b) (h' : But L b c) : But L a c :=
  ⟨h'.os.trans h.os, h'.tape.trans h.tape, h'.output.trans h.output, Nat.le_trans h.size h'.size, fun k hk hn => (h'.block k (Nat.lt_of_lt_of_le hk h.size) hn).trans (h.block k hk hn)⟩
theorem But.below {L : List Nat} {w w' : World} (h : But L w w') {B : Nat} (hB : B ≤ w.heap.size) (hL : ∀ m ∈ L, B ≤ m) : Below B w w' :=
  ⟨h.os, h.tape, h.output, h.size, fun k hk => h.block k (by omega) (fun hm => by have := hL k hm; omega)⟩
theorem But.refl (L : List Nat) (w : World) : But L w w := ⟨rfl, rfl, rfl, Nat.le_refl _, fun _ _ _ => rfl⟩

theorem SetAt.below {w w' : World} {b : Nat} {S : List (List UInt8)} (h : SetAt w b S) (hb : Below w.heap.size w w') : SetAt w' b S :=
  h.kept (row := none) ⟨hb.os, hb.tape, hb.output, hb.size, fun k hk _ => hb.block k hk⟩ (by simp)
theorem NumAt.below {w w' : World} {b c : Nat} {M : List UInt8 → Int} (h : NumAt w b c M) (hb : Below w.heap.size w w') : NumAt w' b c M :=
  h.kept (row := none) ⟨hb.os, hb.tape, hb.output, hb.size, fun k hk _ => hb.block k hk⟩ (by simp)
theorem Sup.below {w w' : World} {b mu mn : Nat} {S : List (List UInt8)} {c : Nat} {M : List UInt8 → Int} (h : Sup w b mu mn S c M) (hb : Below w.heap.size w w') : Sup w' b mu mn S c M :=
  ⟨(hb.cell (World.block_lt_of_cell? _ _ h.cell0)).trans h.cell0, (hb.cell (World.block_lt_of_cell? _ _ h.cell1)).trans h.cell1, h.set.below hb, h.num.below hb, h.ne, h.bu, h.bn⟩

/-- The base that Fresh uses. -/
def freshBase (x : ByteArray) : ByteArray := if (baseA x).2.2 then (baseA x).1 else x

theorem base_size (x : ByteArray) : (baseA x).1.size ≤ x.size := by
  unfold baseA baseD
  split
  · exact Nat.zero_le _
  · split
    · split
      · show (x.extract 0 _).size ≤ _
        rw [ByteArray.size_extract]; omega
      · exact Nat.zero_le _
    · exact Nat.zero_le _
theorem freshBase_size (x : ByteArray) : (freshBase x).size ≤ x.size := by
  unfold freshBase
  split
  · exact base_size x
  · exact Nat.le_refl _
theorem made_size (y : ByteArray) (n : Int) (hn : In64 n) : (madeA y n).size ≤ y.size + 22 := by
  have h := madeA_list y n
  have h2 := len (madeA y n)
  have h3 := itoa_len n hn
  have h4 := len y
  rw [← h2, h]
  split
  · rw [List.length_append, List.length_cons]; omega
  · exact Nat.zero_le _
set_option maxHeartbeats 8000000 in
set_option maxRecDepth 100000 in
theorem Fresh_calls (w : World) (hG_ : Glob w) {b mu mn : Nat} {S : List (List UInt8)} {c : Nat} {M : List UInt8 → Int} (h : Sup w b mu mn S c M) (x : ByteArray) (hx : x.size ≤ 50000) (hS : S.length < 4000) (hc : c < 4000)
    (n1 : Nat) (hM0 : 0 ≤ M (freshBase x).data.toList) (hle : max 1 (M (freshBase x).data.toList) ≤ n1) (hn1 : n1 < 100000)
    (hused : ∀ j : Nat, max 1 (M (freshBase x).data.toList) ≤ j → j < n1 → S.contains (madeA (freshBase x) j).data.toList = true)
    (hnew : S.contains (madeA (freshBase x) n1).data.toList = false) :
    Calls Tryd.prog 26 #[.pointer (some ⟨b, 0, none⟩), .string x] w fun e w' => (stemB (freshBase x) = false ∧ e = .returned (.string ⟨#[]⟩) ∧ Below w.heap.size w w') ∨
      (stemB (freshBase x) = true ∧ e = .returned (.string (madeA (freshBase x) n1)) ∧ Sup w' b mu mn (S ++ [(madeA (freshBase x) n1).data.toList]) (c + 1) (fun y => if y = (freshBase x).data.toList then n1 + 1 else M y) ∧ But [mu, mn] w w') := by
  have hB1 := Base_f x (by omega) 60000 (by omega)
  obtain ⟨q1, q2, q3, hq⟩ : ∃ q1 q2 q3, baseA x = (q1, q2, q3) := ⟨_, _, _, rfl⟩
  have hfb : freshBase x = if q3 then q1 else x := by unfold freshBase; rw [hq]
  rw [hq] at hB1
  have hcell0 := Aside0.mk h.cell0
  have hcell1 := Aside0.mk h.cell1
  have HG := Aside0.mk hG_
  have hSup := Aside0.mk h
  have hB1' := Aside0.mk hB1
  clear hG_ h hB1
  obtain ⟨y, hy⟩ : ∃ y, y = freshBase x := ⟨_, rfl⟩
  have hyq : y = if q3 then q1 else x := hy.trans hfb
  rw [← hy] at hM0 hle hused hnew ⊢
  clear hfb hq
  have hysz : y.size ≤ 50000 := by rw [hy]; exact Nat.le_trans (freshBase_size x) hx
  clear hy
  go_enter Tryd.func26, Tryd.ntmps26
  go_upto_if 19 with (first | (go_at_call 45; (refine (made_calls _ hSup.out).mono ?_); rintro e w' ⟨rfl, ⟨nd, rfl⟩⟩) | (go_at_call 18; (refine (names_Base.calls 60000 x q1 q2 q3 _ (Glob.below HG.out (by first | exact pw_below_drewN (Below.refl _ _) _ | exact Below.refl _ _)) hB1'.out).mono ?_); rintro e w2 ⟨rfl, hb2⟩; have HB := Aside0.mk (below_step (pw_below_drewN (Below.refl _ _) _) hb2); clear hb2))
  go_cut [1] (fun v1 wc => v1 = .string y ∧ Below w.heap.size w wc)
  case first =>
      cases q3
      · go_wp2
        go_meet
        case rel => exact ⟨by rw [hyq]; rfl, HB.out⟩
      · go_wp2
        go_meet
        case rel => exact ⟨by rw [hyq]; rfl, HB.out⟩
  case rest =>
    obtain ⟨rfl, hwc⟩ := hcut
    clear HB
    have hs2 := Aside0.mk (Sup.below hSup.out hwc)
    have hg2 := Aside0.mk (Glob.below HG.out hwc)
    have hwc' := Aside0.mk hwc
    clear hwc
    have hpr := Aside0.mk (proper_f y (by omega) 60000 (by omega))
    have hysz' := Aside0.mk hysz
    have hA := Aside0.mk (And.intro hM0 (And.intro hle (And.intro hn1 (And.intro hused (And.intro hnew (And.intro hS hc))))))
    clear hM0 hle hn1 hused hnew hS hc hx hyq hysz
    have hym : y.size ≤ maxLen := Nat.le_trans hysz'.out (by decide)
    have hym' := Aside0.mk hym
    clear hym
    have hst2 := Aside0.mk (show ∀ r, stemB y = r → stemB y = r from fun _ h => h)
    cases hst : stemB y
    · rw [hst] at hpr
      have hst' := Aside0.mk hst
      clear hst
      go_wp2_with (first | (go_at_call 43; (refine (names_proper.calls 60000 y _ _ hg2.out hpr.out).mono ?_); rintro e w3 ⟨rfl, hb3⟩; have HB3 := Aside0.mk (below_step hwc'.out hb3); clear hb3))
      go_ret
      exact .inl ⟨hst'.out, rfl, HB3.out⟩
    · rw [hst] at hpr
      have hst' := Aside0.mk hst
      clear hst
      go_upto_region 8 with (first | (go_at_call 43; (refine (names_proper.calls 60000 y _ _ hg2.out hpr.out).mono ?_); rintro e w3 ⟨rfl, hb3⟩; have HB3 := Aside0.mk (below_step hwc'.out hb3); have hs3 := Aside0.mk (Sup.below hs2.out hb3); clear hb3))
      have hg3 := Aside0.mk (Glob.below HG.out HB3.out)
      clear hs2 hg2 hSup HG hcell0 hcell1 hpr hB1' 
      have c1 := hs3.out.cell1
      have hl := hs3.out.num.look y hym'.out
      obtain ⟨n0, hn0⟩ : ∃ n0 : Nat, max 1 (M y.data.toList) = n0 := ⟨(max 1 (M y.data.toList)).toNat, by omega⟩
      have hn0' := Aside0.mk hn0
      clear hn0
      go_cut [8] (fun v8 wc => v8 = .int .i64 n0 ∧ wc = w3)
      case first =>
        have hh := hn0'.out
        go_wp2
        all_goals go_meet
        all_goals (case rel => exact ⟨congrArg (Value.int .i64) (by omega), rfl⟩)
      case rest =>
        obtain ⟨rfl, rfl⟩ := hcut
        clear hl c1
        go_wp2
        go_loopg [8] n1 (fun kq v8 w' => ∃ j : Nat, v8 = .int .i64 j ∧ Aside0 (n0 ≤ j ∧ j ≤ n1) ∧ Aside0 (j + kq = n1 + n0) ∧ Below wc.heap.size wc w')
        case atStart => exact ⟨n0, rfl, ⟨Nat.le_refl _, by have := hA.out.2.1; have := hn0'.out; omega⟩, ⟨by omega⟩, Below.refl _ _⟩
        case round =>
          obtain ⟨j, rfl, hj, hk, hbr⟩ := hrel
          have hsr := Aside0.mk (Sup.below hs3.out hbr)
          have hgr := Aside0.mk (Glob.below hg3.out hbr)
          have hbr' := Aside0.mk hbr
          clear hbr
          have hmd := Aside0.mk (Made_f y j (by have := hysz'.out; omega) ⟨by omega, by have := hA.out.2.2.1; have := hj.out; omega⟩ 60000 (by have := hysz'.out; omega))
          have hmz : (madeA y j).size ≤ maxLen := Nat.le_trans (made_size y j ⟨by omega, by have := hA.out.2.2.1; have := hj.out; omega⟩) (Nat.le_trans (Nat.add_le_add_right hysz'.out 22) (by decide))
          have c0 := hsr.out.cell0
          go_wp2
          go_cut [38] (fun v38 wc => v38 = .bool (S.contains (madeA y j).data.toList) ∧ Below wr.heap.size wr wc)
          case first =>
            go_region_with (first | (go_at_call 20; (refine (names_Made.calls 60000 y j _ _ (Glob.below hgr.out (below_drew (Below.refl _ _))) hmd.out).mono ?_); rintro e w4 ⟨rfl, hb4⟩; have HB5 := Aside0.mk (below_step (below_drew (Below.refl _ wr)) hb4); have hs4 := Aside0.mk (Sup.below hsr.out HB5.out); clear hb4; have c04 := hs4.out.cell0; have hl4 := hs4.out.set.look (madeA y j) hmz))
            all_goals (go_wp2; go_meet)
            all_goals (case rel => exact ⟨by simp, HB5.out⟩)
          case rest =>
            obtain ⟨rfl, hb5⟩ := hcut
            have hB6 := Aside0.mk (Below.trans hbr'.out (hb5.mono hbr'.out.size))
            clear hb5 c0
            have hlt := hA.out
            have hjk := hk.out
            have hjj := hj.out
            have hnn := hn0'.out
            by_cases hjn : j < n1
            · have hc : S.contains (madeA y j).data.toList = true := hlt.2.2.2.1 j (by omega) hjn
              rw [hc]
              have hjn' := Aside0.mk hjn
              clear hc hlt hjk hjj hnn hjn
              go_wp2
              go_roundg (gk - 1)
              case measure => have := hjn'.out; have := hk.out; omega
              case rel =>
                have h1 := hjn'.out
                have h2 := hk.out
                have h3 := hj.out
                have h4 := hA.out.2.2.1
                exact ⟨j + 1, by rw [show wrap64 ((j : Int) + 1) = ((j + 1 : Nat) : Int) from by unfold wrap64; omega], ⟨by omega⟩, ⟨by omega⟩, hB6.out⟩
            · have hjn2 : j = n1 := by omega
              subst hjn2
              have hc : S.contains (madeA y j).data.toList = false := hlt.2.2.2.2.1
              rw [hc]
              have hc' := Aside0.mk hc
              clear hc hlt hjk hjj hnn hjn
              have hs6 := Aside0.mk (Sup.below hs3.out hB6.out)
              have hg6 := Aside0.mk (Glob.below hg3.out hB6.out)
              clear hsr hgr hbr' hk hj
              go_wp2_with (first | (go_at_call 20; (refine (names_Made.calls 60000 y j _ _ hg6.out hmd.out).mono ?_); rintro e w7 ⟨rfl, hb7⟩; have hs7 := Aside0.mk (Sup.below hs6.out hb7); have HB7 := Aside0.mk (below_step (below_step HB3.out hB6.out) hb7); clear hb7; have c07 := hs7.out.cell0; obtain ⟨w8, hrun8, hset8, hgr8⟩ := hs7.out.set.put (Nat.lt_trans hA.out.2.2.2.2.2.1 (by decide)) (madeA y j) hmz; have c18 := hgr8.cell hs7.out.cell1 (by intro e; injection e with e; exact hs7.out.bu e); obtain ⟨w9, hrun9, hnum9, hgr9⟩ := (hs7.out.num.kept hgr8 (by intro e; injection e with e; exact hs7.out.ne e.symm)).put (Nat.lt_trans hA.out.2.2.2.2.2.2 (by decide)) y hym'.out (wrap64 ((j : Int) + 1)) (wrap64_wf _); have hset8' := Aside0.mk hset8; have hgr8' := Aside0.mk hgr8; have hnum9' := Aside0.mk hnum9; have hgr9' := Aside0.mk hgr9; clear hset8 hgr8 hnum9 hgr9))
              go_ret
              have hs := hs7.out
              have e9 : wrap64 ((j : Int) + 1) = (j : Int) + 1 := by have := hA.out.2.2.1; unfold wrap64; omega
              have hn9 := hnum9'.out
              rw [e9] at hn9
              exact .inr ⟨hst'.out, rfl, ⟨hgr9'.out.cell (hgr8'.out.cell hs.cell0 (by intro e; injection e with e; exact hs.bu e)) (by intro e; injection e with e; exact hs.bn e), hgr9'.out.cell (hgr8'.out.cell hs.cell1 (by intro e; injection e with e; exact hs.bu e)) (by intro e; injection e with e; exact hs.bn e), hset8'.out.kept hgr9'.out (by intro e; injection e with e; exact hs.ne e), hn9, hs.ne, hs.bu, hs.bn⟩,
                ((But.of_below HB7.out).trans (But.of_grown hgr8'.out (by simp))).trans (But.of_grown hgr9'.out (by simp))⟩
end Su
end Go.Proofs.YtfbhipcfjkkmmaaDoor
