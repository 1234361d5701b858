/- The reference's supply: Take, Fresh, NewSupply; Fresh of the program's supply by the least free number. -/
import Derived.Test.YtfbhipcfjkkmmaaDoorHCl
import Derived.Test.YtfbhipcfjkkmmaaDoorQS
import Derived.Test.YtfbhipcfjkkmmaaDoorPx12
import Derived.Deep.RegionLaw
namespace Go.Proofs.YtfbhipcfjkkmmaaDoor
open Go.RowKit Go.Proofs.YtfbhipcfjkkmmaaDoorW.PrintWords Go.Proofs.YtfbhipcfjkkmmaaDoorW.PrintLast Go.Proofs.YtfbhipcfjkkmmaaDoorW.PrintMore
attribute [local go_sem] max2_int min2_int max_two min_two max_three min_three max_four min_four
open P _root_.Go.Proofs.YtfbhipcfjkkmmaaDoor.Nm
namespace Su
set_option linter.unusedVariables false
set_option linter.unusedSimpArgs false

/-! ### Has -/
def hasB (L : List ByteArray) (x : ByteArray) : Bool := (L.map (·.data.toList)).contains x.data.toList
theorem Has_l0 (L : List ByteArray) (x : ByteArray) (hL : L.length ≤ 100000) : ∀ (n i k : Nat), n + i = L.length → n < k → lazycref01_Has.l0 k L x (i : Int) = some (hasB (L.drop i) x) := by
  intro n
  induction n with
  | zero =>
    intro i k h1 h2
    obtain ⟨k, rfl⟩ : ∃ k', k = k' + 1 := ⟨k - 1, by omega⟩
    simp only [lazycref01_Has.l0]
    rw [if_neg (by omega), List.drop_of_length_le (by omega)]
    rfl
  | succ n ih =>
    intro i k h1 h2
    obtain ⟨k, rfl⟩ : ∃ k', k = k' + 1 := ⟨k - 1, by omega⟩
    have hi : i < L.length := by omega
    have hr : rdOf ByteArray.empty L (i : Int) = L[i] := by
      simp [rdOf, List.getD_eq_getElem?_getD, List.getElem?_eq_getElem hi]
    have hc : hasB (L.drop i) x = (x.data.toList == L[i].data.toList || hasB (L.drop (i + 1)) x) := by
      rw [List.drop_eq_getElem_cons hi]
      simp only [hasB, List.map_cons, List.contains_cons]
    simp only [lazycref01_Has.l0]
    rw [if_pos (by omega), if_pos (by omega), hr, hc]
    by_cases e : L[i].data.toList = x.data.toList
    · rw [if_pos (by rw [toL, toL]; exact e), e]; simp
    · rw [if_neg (by rw [toL, toL]; exact e), show wrap64 ((i : Int) + 1) = ((i + 1 : Nat) : Int) from by unfold wrap64; omega, ih (i + 1) k (by omega) (by omega)]
      have e2 : (x.data.toList == L[i].data.toList) = false := beq_eq_false_iff_ne.mpr (fun h => e h.symm)
      rw [e2, Bool.false_or]
theorem Has_f (L : List ByteArray) (x : ByteArray) (hL : L.length ≤ 100000) (k : Nat) (hk : L.length < k) : lazycref01_Has.f k L x = some (hasB L x) := by
  have h := Has_l0 L x hL L.length 0 k (by omega) hk
  exact h

/-! ### Frames -/
theorem But.of_grownO {L : List Nat} {w w' : World} {row : Option Nat} (h : w.grownBy w' row) (hm : ∀ m, row = some m → m ∈ L) : But L w w' :=
  ⟨h.os, h.tape, h.output, h.size, fun k hk hn => h.block k hk (fun e => hn (hm k e.symm))⟩
theorem But.of_set {L : List Nat} (w : World) (r o : Nat) (v : Value) (hm : r ∈ L) : But L w (w.setCell ⟨r, o, none⟩ v) :=
  ⟨by rfl, by simp, by rfl, by simp, fun k hk hn => heap_setCell_other w ⟨r, o, none⟩ k v (fun e => hn (e ▸ hm))⟩
theorem But.mono {L L' : List Nat} {w w' : World} (h : But L w w') (hs : ∀ k ∈ L, k ∈ L') : But L' w w' := ⟨h.os, h.tape, h.output, h.size, fun k hk hn => h.block k hk (fun hl => hn (hs k hl))⟩

/-- The reference's supply in block r; its list L; the blocks that it owns are Q. -/
def RSup (w : World) (r : Nat) (L : List ByteArray) (Q : List Nat) : Prop :=
  ∃ v, w.heap[r]? = some (.cells #[.bool true, v] 64 (0, 0)) ∧ Kd.string.R 9 w 0 (fun k => k ≠ r) v L ∧ Q = r :: v.ownBlock.toList
theorem RSup.lt {w : World} {r : Nat} {L : List ByteArray} {Q : List Nat} (h : RSup w r L Q) : ∀ k ∈ Q, k < w.heap.size := by
  obtain ⟨v, hb, hR, rfl⟩ := h
  intro k hk
  rcases List.mem_cons.mp hk with rfl | hk
  · exact (Array.getElem?_eq_some_iff.1 hb).1
  · obtain ⟨_, inner, ho, _⟩ := hR
    exact own_lt ho k (by simpa using hk)
theorem RSup.move {w w' : World} {r : Nat} {L : List ByteArray} {Q : List Nat} (h : RSup w r L Q) (hm : ∀ k ∈ Q, w'.heap[k]? = w.heap[k]?) : RSup w' r L Q := by
  obtain ⟨v, hb, hR, rfl⟩ := h
  refine ⟨v, (hm r List.mem_cons_self).trans hb, ?_, rfl⟩
  obtain ⟨h0, inner, ho, hr⟩ := hR
  exact ⟨h0, inner, own_move ho (fun k hk => hm k (by rw [hk]; simp)), hr⟩
theorem RSup.but {B : List Nat} {w w' : World} {r : Nat} {L : List ByteArray} {Q : List Nat} (h : RSup w r L Q) (hb : But B w w') (hd : ∀ k ∈ Q, k ∉ B) : RSup w' r L Q :=
  h.move fun k hk => hb.block k (h.lt k hk) (hd k hk)
theorem RSup.below {w w' : World} {r : Nat} {L : List ByteArray} {Q : List Nat} (h : RSup w r L Q) (hb : Below w.heap.size w w') : RSup w' r L Q :=
  h.move fun k hk => hb.block k (h.lt k hk)
theorem info9 : (Tryd.prog.info? 9).map (fun i => (i.zero, i.size, i.bytes)) = some (some (.string ⟨#[]⟩), 1, 16) := by kernel_rfl
theorem nil64 (w : World) (r : Nat) : (binOp BinOp.eql 44 (Value.pointer (some ⟨r, 0, none⟩)) (Value.pointer none)).run Tryd.prog w = .ok (.bool false) w := by kernel_rfl

/-- What an operation on the reference's supply leaves. -/
structure RStep (w w' : World) (r : Nat) (L : List ByteArray) (Q : List Nat) (x : ByteArray) : Prop where
  out : ∃ Q', RSup w' r (L ++ [x]) Q' ∧ But Q w w' ∧ ∀ k ∈ Q', k ∈ Q ∨ w.heap.size ≤ k
theorem RStep.of {w W w1 : World} {r n m cp cq : Nat} {L : List ByteArray} {Q : List Nat} {x : ByteArray} {A A1 : Option Addr} {u : Value} (hB : Below w.heap.size w W) (hQ : Q = r :: (Value.slice A n cp).ownBlock.toList)
    (hg : W.grownBy w1 (Value.slice A n cp).ownBlock) (ho : Kd.string.R 9 w1 0 (fun k => k ≠ r) (.slice A1 m cq) (L ++ [x]))
    (hat : (Value.slice A1 m cq).ownBlock = (Value.slice A n cp).ownBlock ∨ ∃ b, (Value.slice A1 m cq).ownBlock = some b ∧ W.heap.size ≤ b) (hb : w1.heap[r]? = some (.cells #[.bool true, u] 64 (0, 0))) :
    RStep w (w1.setCell ⟨r, 1, none⟩ (.slice A1 m cq)) r L Q x := by
  refine ⟨_, ⟨_, heap_setCell_same w1 r 1 _ 64 _ hb, Kd.R_far (p := ⟨r, 1, none⟩) ho (fun k hk => hk) _, rfl⟩, ?_, ?_⟩
  · refine ((But.of_below hB).trans (But.of_grownO hg ?_)).trans (But.of_set _ r 1 _ (by rw [hQ]; exact List.mem_cons_self))
    intro m hm
    rw [hQ]
    exact List.mem_cons_of_mem _ (by rw [hm]; simp)
  · intro k hk
    rcases List.mem_cons.mp hk with rfl | hk
    · exact .inl (by rw [hQ]; exact List.mem_cons_self)
    · have hk2 : (Value.slice A1 m cq).ownBlock = some k := by simpa using hk
      rcases hat with e | ⟨b, e, hle⟩
      · left
        rw [hQ]
        exact List.mem_cons_of_mem _ (by rw [← e, hk2]; simp)
      · right
        rw [e] at hk2
        injection hk2 with hk2
        have := hB.size
        omega
set_option maxHeartbeats 8000000 in
set_option maxRecDepth 100000 in
theorem RTake_calls (w : World) {r : Nat} {L : List ByteArray} {Q : List Nat} (h : RSup w r L Q) (x : ByteArray) (hL : L.length < 4000) :
    Calls Tryd.prog 49 #[.pointer (some ⟨r, 0, none⟩), .string x] w fun e w' => (hasB L x = true ∧ e = .returned (.bool false) ∧ Drawn0 w w') ∨
      (hasB L x = false ∧ e = .returned (.bool true) ∧ RStep w w' r L Q x) := by
  have hS := Aside0.mk h
  obtain ⟨v, hb, hR, hQ⟩ := h
  obtain ⟨A, cp, rfl, hlc, hC⟩ := Kd.R_reads hR
  have c0 : w.cell? ⟨r, 0, none⟩ = some (.bool true) := blk_cell hb 0
  have c1 : w.cell? ⟨r, 1, none⟩ = some (.slice A L.length cp) := blk_cell hb 1
  have HF := Aside0.mk (Has_f L x (by omega) 5000 (by omega))
  have HC := Aside0.mk hC
  have HLC := Aside0.mk hlc
  have HR := Aside0.mk hR
  have HB := Aside0.mk hb
  have HL := Aside0.mk hL
  have HQ := Aside0.mk hQ
  clear hb hR hQ hlc hC hL
  cases hc : hasB L x
  · rw [hc] at HF
    have HX := Aside0.mk hc
    clear hc
    go_enter Tryd.func49, Tryd.ntmps49
    go_upto_region 3 with (first | (go_at_call 25; (refine (lazycref01_Has.calls 5000 A cp L x false _ HC.out HLC.out HF.out).mono ?_); rintro e w' ⟨rfl, ⟨nd, rfl⟩⟩))
    have hd := pw_below_drewN (Below.refl w.heap.size w) nd
    have hrl := hS.out.lt r (by rw [HQ.out]; exact List.mem_cons_self)
    have HB2 := Aside0.mk ((hd.block r hrl).trans HB.out)
    have HR2 := Aside0.mk (Kd.R_below HR.out hd)
    have HD := Aside0.mk hd
    clear hd c0 c1 hrl
    generalize w.drewN nd = W at *
    have c1 : W.cell? ⟨r, 1, none⟩ = some (.slice A L.length cp) := blk_cell HB2.out 1
    go_wp2_with ((with_reducible refine gate_builtin (b := .append) (xs := #[.tmp 26, .tmp 28]) rfl ?_); at_builtin; refine Kd.R_append Kd.string (w0 := W) 0 rfl (.tmp 26) (.tmp 28) 35 9 (.string ⟨#[]⟩) 16 rfl Tryd.underlying35 info9 rfl (by decide) (by decide) (.slice A L.length cp) L x [.string x] (fun k => k ≠ r) (fun _ => False) rfl rfl rfl (fun _ hk => hk.elim) ?hf HR2.out (Below.refl _ _) ?hs ?hl ?_)
    (case hf => intro k hk; have := (Array.getElem?_eq_some_iff.1 HB2.out).1; omega)
    (case hs => omega)
    (case hl => have := HL.out; omega)
    intro v1 w1 ho hb1 hg hat
    obtain ⟨A1, cq, rfl⟩ := Kd.R_slice ho
    have hne : some r ≠ (Value.slice A L.length cp).ownBlock := fun e => HR2.out.1 r e.symm rfl
    have hb2 := blk_grown HB2.out hg hne
    have k2 : w1.cell? ⟨r, 1, none⟩ = some (.slice A L.length cp) := blk_cell hb2 1
    have k3 : w1.frozen? ⟨r, 1, none⟩ = false := blk_frozen hb2 1
    have G1 := Aside0.mk hg
    have R1 := Aside0.mk ho
    have B1 := Aside0.mk hb2
    have H1 := Aside0.mk hat
    clear c1 hg ho hb1 hb2 hat hne
    go_wp2
    go_ret
    exact .inr ⟨trivial, rfl, RStep.of HD.out HQ.out G1.out (by have h := R1.out; rw [List.length_append] at h; exact h) (by have h := H1.out; rw [List.length_append] at h; exact h) B1.out⟩
  · rw [hc] at HF
    have HX := Aside0.mk hc
    clear hc
    go_enter Tryd.func49, Tryd.ntmps49
    go_wp2_with (first | (go_at_call 25; (refine (lazycref01_Has.calls 5000 A cp L x true _ HC.out HLC.out HF.out).mono ?_); rintro e w' ⟨rfl, ⟨nd, rfl⟩⟩))
    go_ret
    exact .inl ⟨trivial, rfl, ⟨_, rfl⟩⟩
set_option maxHeartbeats 8000000 in
set_option maxRecDepth 100000 in
theorem RFresh_calls (w : World) (hG_ : Glob w) {r : Nat} {L : List ByteArray} {Q : List Nat} (h : RSup w r L Q) (x : ByteArray) (hx : x.size ≤ 20000) (hL : L.length < 4000)
    (n1 : Nat) (hn : stemB (freshBase x) = true → Least (L.map (·.data.toList)) (freshBase x) n1) :
    Calls Tryd.prog 48 #[.pointer (some ⟨r, 0, none⟩), .string x] w fun e w' => (stemB (freshBase x) = false ∧ e = .returned (.string ⟨#[]⟩) ∧ Below w.heap.size w w') ∨
      (stemB (freshBase x) = true ∧ e = .returned (.string (madeA (freshBase x) n1)) ∧ RStep w w' r L Q (madeA (freshBase x) n1)) := by
  have hB1 := rBase_f x (by omega) 90000 (by omega)
  obtain ⟨q1, q2, q3, hq⟩ : ∃ q1 q2 q3, baseA x = (q1, q2, q3) := ⟨_, _, _, rfl⟩
  have hfb : freshBase x = if q3 then q1 else x := by unfold freshBase; rw [hq]
  rw [hq] at hB1
  have HG := Aside0.mk hG_
  have hSup := Aside0.mk h
  have hB1' := Aside0.mk hB1
  obtain ⟨v, hb, hR, hQ⟩ := h
  have c0 : w.cell? ⟨r, 0, none⟩ = some (.bool true) := blk_cell hb 0
  clear hG_ hB1 hb hR hQ
  obtain ⟨y, hy⟩ : ∃ y, y = freshBase x := ⟨_, rfl⟩
  have hyq : y = if q3 then q1 else x := hy.trans hfb
  rw [← hy] at hn ⊢
  clear hfb hq
  have hysz : y.size ≤ 20000 := by rw [hy]; exact Nat.le_trans (freshBase_size x) hx
  clear hy
  go_enter Tryd.func48, Tryd.ntmps48
  go_upto_if 26 with (first | (go_at_call 19; (refine (lazycref01_Base.calls 90000 x q1 q2 q3 _ hB1'.out).mono ?_); rintro e w2 ⟨rfl, ⟨nd, rfl⟩⟩))
  have HB := Aside0.mk (pw_below_drewN (Below.refl w.heap.size w) nd)
  clear c0
  go_cut [5] (fun v5 wc => v5 = .string y ∧ Below w.heap.size w wc)
  case first =>
      cases q3
      · go_wp2
        go_meet
        case rel => exact ⟨by rw [hyq]; rfl, HB.out⟩
      · go_wp2
        go_meet
        case rel => exact ⟨by rw [hyq]; rfl, HB.out⟩
  case rest =>
    obtain ⟨rfl, hwc⟩ := hcut
    clear HB
    have hs2 := Aside0.mk (RSup.below hSup.out hwc)
    have hg2 := Aside0.mk (Glob.below HG.out hwc)
    have hwc' := Aside0.mk hwc
    clear hwc
    have hpr := Aside0.mk (rStem_f y (by omega) 60000 (by omega))
    have hysz' := Aside0.mk hysz
    have hL' := Aside0.mk hL
    have hn' := Aside0.mk hn
    clear hn hL hx hyq hysz hSup HG hB1'
    cases hst : stemB y
    · rw [hst] at hpr
      have hst' := Aside0.mk hst
      clear hst
      go_wp2_with (first | (go_at_call 41; (refine (lazycref01_Stem.calls 60000 y _ _ hpr.out).mono ?_); rintro e w3 ⟨rfl, ⟨nd2, rfl⟩⟩))
      go_ret
      exact .inl ⟨hst'.out, rfl, pw_below_drewN hwc'.out _⟩
    · rw [hst] at hpr
      have hnL := Aside0.mk (hn'.out hst)
      have hst' := Aside0.mk hst
      clear hst hn'
      go_upto_region 8 with (first | (go_at_call 41; (refine (lazycref01_Stem.calls 60000 y _ _ hpr.out).mono ?_); rintro e w3 ⟨rfl, ⟨nd2, rfl⟩⟩))
      have HB3 := Aside0.mk (pw_below_drewN hwc'.out nd2)
      have hs3 := Aside0.mk (RSup.below hs2.out (pw_below_drewN (Below.refl _ _) nd2))
      have hg3 := Aside0.mk (Glob.below hg2.out (pw_below_drewN (Below.refl _ _) nd2))
      clear hs2 hg2 hwc' hpr
      generalize wc.drewN nd2 = w3 at *
      go_wp2
      go_loopg [8] n1 (fun kq v8 w' => ∃ j : Nat, v8 = .int .i64 j ∧ Aside0 (1 ≤ j ∧ j ≤ n1) ∧ Aside0 (j + kq = n1 + 1) ∧ Below w3.heap.size w3 w')
      case atStart => exact ⟨1, rfl, ⟨Nat.le_refl _, hnL.out.pos⟩, ⟨by omega⟩, Below.refl _ _⟩
      case round =>
        obtain ⟨j, rfl, hj, hk, hbr⟩ := hrel
        have hsr := Aside0.mk (RSup.below hs3.out hbr)
        have hgr := Aside0.mk (Glob.below hg3.out hbr)
        have hbr' := Aside0.mk hbr
        clear hbr
        have hn4 : n1 ≤ 5000 := by have := hnL.out.le; rw [List.length_map] at this; have := hL'.out; omega
        have hmd := Aside0.mk (rMade_f y j (by have := hysz'.out; omega) ⟨by omega, by have := hj.out; omega⟩ 90000 (by have := hysz'.out; omega))
        have HF := Aside0.mk (Has_f L (madeA y j) (by have := hL'.out; omega) 5000 (by have := hL'.out; omega))
        clear hn4
        obtain ⟨v, hb, hR, hQ⟩ := hsr.out
        obtain ⟨A, cp, rfl, hlc, hC⟩ := Kd.R_reads hR
        have c1 : wr.cell? ⟨r, 1, none⟩ = some (.slice A L.length cp) := blk_cell hb 1
        have HC := Aside0.mk hC
        have HLC := Aside0.mk hlc
        clear hb hR hQ hlc hC
        go_wp2
        go_cut [38] (fun v38 wc => v38 = .bool (hasB L (madeA y j)) ∧ Below wr.heap.size wr wc)
        case first =>
          have hcB := Aside0.mk (Below.refl wr.heap.size wr)
          go_region_with (first | (go_at_call 21; (refine (lazycref01_Made.calls 90000 y j _ _ (Glob.below hgr.out (below_drew (Below.refl _ _))) hmd.out).mono ?_); rintro e w4 ⟨rfl, hb4⟩; have HB5 := Aside0.mk (below_step (below_drew (Below.refl _ wr)) hb4); have c14 : w4.cell? ⟨r, 1, none⟩ = some (.slice A L.length cp) := (HB5.out.cell (World.block_lt_of_cell? _ _ c1)).trans c1; clear hb4) | (go_at_call 25; (refine (lazycref01_Has.calls 5000 A cp L (madeA y j) _ _ (Kd.C_below HC.out HB5.out) HLC.out HF.out).mono ?_); rintro e w5 ⟨rfl, ⟨nd5, rfl⟩⟩))
          all_goals (go_wp2; go_meet)
          all_goals (case rel => exact ⟨by simp, pw_below_drewN HB5.out _⟩)
        case rest =>
          obtain ⟨rfl, hb5⟩ := hcut
          have hB6 := Aside0.mk (Below.trans hbr'.out (hb5.mono hbr'.out.size))
          clear hb5 c1
          have hjk := hk.out
          have hjj := hj.out
          by_cases hjn : j < n1
          · have hc : hasB L (madeA y j) = true := hnL.out.used j hjj.1 hjn
            rw [hc]
            have hjn' := Aside0.mk hjn
            clear hc hjk hjj hjn
            go_wp2
            go_roundg (gk - 1)
            case measure => have := hjn'.out; have := hk.out; omega
            case rel =>
              have h1 := hjn'.out
              have h2 := hk.out
              have h3 := hj.out
              have h4 : n1 ≤ 5000 := by have := hnL.out.le; rw [List.length_map] at this; have := hL'.out; omega
              exact ⟨j + 1, by rw [show wrap64 ((j : Int) + 1) = ((j + 1 : Nat) : Int) from by unfold wrap64; omega], ⟨by omega⟩, ⟨by omega⟩, hB6.out⟩
          · have hjn2 : j = n1 := by omega
            subst hjn2
            have hc : hasB L (madeA y j) = false := hnL.out.free
            rw [hc]
            have hc' := Aside0.mk hc
            clear hc hjk hjj hjn
            have hs6 := Aside0.mk (RSup.below hs3.out hB6.out)
            have hg6 := Aside0.mk (Glob.below hg3.out hB6.out)
            have HB6 := Aside0.mk (below_step HB3.out hB6.out)
            clear hsr hgr hbr' hk hj HC HLC HF
            go_upto_region 12 with (first | (go_at_call 21; (refine (lazycref01_Made.calls 90000 y j _ _ hg6.out hmd.out).mono ?_); rintro e w7 ⟨rfl, hb7⟩; have hs7 := Aside0.mk (RSup.below hs6.out hb7); have HB7 := Aside0.mk (below_step HB6.out hb7); clear hb7))
            obtain ⟨v, hb, hR, hQ⟩ := hs7.out
            obtain ⟨A, cp, rfl, hlc, hC⟩ := Kd.R_reads hR
            have HB2 := Aside0.mk hb
            have HR2 := Aside0.mk hR
            have HQ := Aside0.mk hQ
            have c1 : w7.cell? ⟨r, 1, none⟩ = some (.slice A L.length cp) := blk_cell HB2.out 1
            clear hb hR hQ hlc hC hmd hs6 hg6 HB6 hs3 hg3 HB3
            go_wp2_with ((with_reducible refine gate_builtin (b := .append) (xs := #[.tmp 48, .tmp 50]) rfl ?_); at_builtin; refine Kd.R_append Kd.string (w0 := w7) 0 rfl (.tmp 48) (.tmp 50) 35 9 (.string ⟨#[]⟩) 16 rfl Tryd.underlying35 info9 rfl (by decide) (by decide) (.slice A L.length cp) L (madeA y j) [.string (madeA y j)] (fun k => k ≠ r) (fun _ => False) rfl rfl rfl (fun _ hk => hk.elim) ?hf HR2.out (Below.refl _ _) ?hs ?hl ?_)
            (case hf => intro k hk; have := (Array.getElem?_eq_some_iff.1 HB2.out).1; omega)
            (case hs => omega)
            (case hl => have := hL'.out; omega)
            intro v1 w8 ho hb1 hg hat
            obtain ⟨A1, cq, rfl⟩ := Kd.R_slice ho
            have hne : some r ≠ (Value.slice A L.length cp).ownBlock := fun e => HR2.out.1 r e.symm rfl
            have hb2 := blk_grown HB2.out hg hne
            have k2 : w8.cell? ⟨r, 1, none⟩ = some (.slice A L.length cp) := blk_cell hb2 1
            have k3 : w8.frozen? ⟨r, 1, none⟩ = false := blk_frozen hb2 1
            have G1 := Aside0.mk hg
            have R1 := Aside0.mk ho
            have B1 := Aside0.mk hb2
            have H1 := Aside0.mk hat
            clear c1 hg ho hb1 hb2 hat hne
            go_wp2
            go_ret
            exact .inr ⟨hst'.out, rfl, RStep.of HB7.out HQ.out G1.out (by have h := R1.out; rw [List.length_append] at h; exact h) (by have h := H1.out; rw [List.length_append] at h; exact h) B1.out⟩
end Su
end Go.Proofs.YtfbhipcfjkkmmaaDoor
