/- NewSupply, the program's and the reference's, over a row of strings that is read. -/
import Derived.Test.YtfbhipcfjkkmmaaDoorHSt
namespace Go.Proofs.YtfbhipcfjkkmmaaDoor
open Go.RowKit Go.Proofs.YtfbhipcfjkkmmaaDoorW.PrintWords Go.Proofs.YtfbhipcfjkkmmaaDoorW.PrintLast Go.Proofs.YtfbhipcfjkkmmaaDoorW.PrintMore
attribute [local go_sem] max2_int min2_int max_two min_two max_three min_three max_four min_four
open P _root_.Go.Proofs.YtfbhipcfjkkmmaaDoor.Nm
namespace Su
set_option linter.unusedVariables false
set_option linter.unusedSimpArgs false

theorem take_rd (L : List ByteArray) (x : Int) (h0 : 0 ≤ x) (h1 : x < L.length) : L.take (x.toNat + 1) = L.take x.toNat ++ [rdOf ByteArray.empty L x] := by
  have hi : x.toNat < L.length := by omega
  rw [List.take_add_one, List.getElem?_eq_getElem hi]
  simp [rdOf, List.getD_eq_getElem?_getD, List.getElem?_eq_getElem hi]
theorem rd_mem (L : List ByteArray) (x : Int) (h0 : 0 ≤ x) (h1 : x < L.length) : rdOf ByteArray.empty L x ∈ L := by
  have hi : x.toNat < L.length := by omega
  have : rdOf ByteArray.empty L x = L[x.toNat] := by simp [rdOf, List.getD_eq_getElem?_getD, List.getElem?_eq_getElem hi]
  rw [this]
  exact List.getElem_mem hi
theorem rsup_new (w : World) : RSup (w.alloc (Obj.cells #[Value.bool true, Value.slice none 0 0] 64)) w.heap.size [] [w.heap.size] :=
  ⟨.slice none 0 0, (MapKept.heap_alloc w _).1, Kd.R_nil _ _ _ _ _, rfl⟩

set_option maxHeartbeats 8000000 in
set_option maxRecDepth 100000 in
theorem RS_New (w : World) (A : Option Addr) (cp : Nat) (L : List ByteArray) (hC : Kd.C Kd.string w A L.length L) (hcp : L.length ≤ cp) (hL : L.length < 4000) :
    Calls Tryd.prog 27 #[.slice A L.length cp] w fun e w' => ∃ r o, e = .returned (.pointer (some ⟨r, 0, none⟩)) ∧ RS w' (.pointer (some ⟨r, 0, none⟩)) L o ∧ (∀ k ∈ o, w.heap.size ≤ k) ∧ Below w.heap.size w w' := by
  have HC := Aside0.mk hC
  have HL := Aside0.mk hL
  have HS0 := Aside0.mk (rsup_new w)
  have HB0 := Aside0.mk (Below.alloc (Below.refl w.heap.size w) (Nat.le_refl _) (Obj.cells #[Value.bool true, Value.slice none 0 0] 64))
  clear hC hcp hL
  go_enter Tryd.func27, Tryd.ntmps27
  go_wp2
  generalize w.alloc (Obj.cells #[Value.bool true, Value.slice none 0 0] 64) = w1 at *
  go_loopg [4] L.length (fun kq v4 w' => ∃ x : Int, v4 = .int .i64 x ∧ Aside0 (0 ≤ x ∧ x.toNat + kq = L.length) ∧ ∃ T Q, RSup w' w.heap.size T Q ∧ Aside0 (T = L.take x.toNat) ∧ Aside0 (∀ k ∈ Q, w.heap.size ≤ k) ∧ Below w.heap.size w w')
  case atStart => exact ⟨0, rfl, ⟨by decide, by simp⟩, _, _, HS0.out, ⟨rfl⟩, ⟨by simp⟩, HB0.out⟩
  case round =>
    obtain ⟨x, rfl, hk, T, Q, hS, hT, hQ, hB⟩ := hrel
    clear HS0 HB0
    have hk0 := hk.out.1
    by_cases hx : x < (L.length : Int)
    · have q1 : decide (x < (L.length : Int)) = true := decide_eq_true hx
      obtain ⟨ad, rfl, hel⟩ := Kd.at_string (Kd.C_below HC.out hB) x hk0 hx
      obtain ⟨v, hb, hR, hQ2⟩ := hS
      obtain ⟨A1, cq, rfl, hlc, _⟩ := Kd.R_reads hR
      have c1 : wr.cell? ⟨w.heap.size, 1, none⟩ = some (.slice A1 T.length cq) := blk_cell hb 1
      have HBk := Aside0.mk hb
      have HR := Aside0.mk hR
      have HQ2 := Aside0.mk hQ2
      have HB := Aside0.mk hB
      have HX := Aside0.mk hx
      have HK0 := Aside0.mk hk0
      have HF := Aside0.mk (show ∀ k, wr.drew.heap.size ≤ k → k ≠ w.heap.size from fun k hk => by
        have h1 := (Array.getElem?_eq_some_iff.1 hb).1
        have h2 : wr.drew.heap.size = wr.heap.size := rfl
        omega)
      have HLL := Aside0.mk (show (T.length + 1) * 16 ≤ 140737488355328 by have h1 := List.length_take_le x.toNat L; rw [← hT.out] at h1; have h2 := HL.out; omega)
      have p1 : 0 ≤ x := hk0
      have p2 : x < (L.length : Int) := hx
      have HTK := Aside0.mk (take_rd L x hk0 hx)
      clear hb hR hQ2 hlc hB hx hk0
      replace p1 := eq_true p1
      replace p2 := eq_true p2
      generalize rdOf ByteArray.empty L x = y at *
      have c1d : (wr.alloc (Obj.cells #[Value.string y] 9)).cell? ⟨w.heap.size, 1, none⟩ = some (.slice A1 T.length cq) := ((below_alloc (Below.refl wr.heap.size wr) _).cell (World.block_lt_of_cell? _ _ c1)).trans c1
      have c1e : (wr.drew.alloc (Obj.cells #[Value.string y] 9)).cell? ⟨w.heap.size, 1, none⟩ = some (.slice A1 T.length cq) := ((below_alloc (below_drew (Below.refl wr.heap.size wr)) _).cell (World.block_lt_of_cell? _ _ c1)).trans c1
      go_wp2
      go_region_law ((refine Kd.R_append_step Kd.string (w0 := wr.drew) (W := wr.drew) 0 rfl (.tmp 17) (.tmp 22) 35 9 (.string ⟨#[]⟩) 16 rfl Tryd.underlying35 info9 rfl (by decide) (by decide) (.slice A1 T.length cq) T y [.string y] (fun k => k ≠ w.heap.size) (fun _ => False) rfl rfl rfl (fun _ hk => hk.elim) HF.out (Kd.R_drew HR.out) (Below.refl _ _) (Nat.zero_le _) HLL.out ?_); intro v1 w3 ho hb1 hg hat; obtain ⟨A2, cr, rfl⟩ := Kd.R_slice ho; have hbd : wr.drew.heap[w.heap.size]? = some (.cells #[.bool true, .slice A1 T.length cq] 64 (0, 0)) := HBk.out; have hne : some w.heap.size ≠ (Value.slice A1 T.length cq).ownBlock := fun e => HR.out.1 w.heap.size e.symm rfl; have hb2 := blk_grown hbd hg hne; have k2 : w3.cell? ⟨w.heap.size, 1, none⟩ = some (.slice A1 T.length cq) := blk_cell hb2 1; have k3 : w3.frozen? ⟨w.heap.size, 1, none⟩ = false := blk_frozen hb2 1; have G1 := Aside0.mk hg; have R1 := Aside0.mk ho; have B1 := Aside0.mk hb2; have H1 := Aside0.mk hat; clear hg ho hb1 hb2 hat hne hbd)
      all_goals
        go_wp2
        go_roundg (gk - 1)
        case measure => have := hk.out; have := HX.out; omega
        case rel =>
          have h0 := HK0.out
          have h1 := HX.out
          have h2 := hk.out
          have h3 := HL.out
          have et : (x + 1).toNat = x.toNat + 1 := by omega
          obtain ⟨Q2, r1, r2, r3⟩ := (RStep.of (x := y) (L := T) (below_drew (Below.refl wr.heap.size wr)) HQ2.out G1.out (by have h := R1.out; rw [List.length_append] at h; exact h) (by have h := H1.out; rw [List.length_append] at h; exact h) B1.out).out
          refine ⟨x + 1, by rw [show wrap64 (x + 1) = x + 1 from by unfold wrap64; omega], ⟨by omega, by omega⟩, _, Q2, r1, ⟨by rw [et, HTK.out, hT.out]⟩, ⟨fun k hk => ?_⟩, HB.out.trans (r2.below HB.out.size hQ.out)⟩
          rcases r3 k hk with e | e
          · exact hQ.out k e
          · have := HB.out.size; omega
    · have q1 : decide (x < (L.length : Int)) = false := decide_eq_false hx
      have hT2 : T = L := by
        rw [hT.out]
        exact List.take_of_length_le (by omega)
      subst hT2
      have HSS := Aside0.mk hS
      have HB := Aside0.mk hB
      clear hS hB hx
      go_wp2
      go_ret
      exact ⟨_, Q, rfl, ⟨_, rfl, HSS.out⟩, hQ.out, HB.out⟩
set_option maxHeartbeats 8000000 in
set_option maxRecDepth 100000 in
theorem New_c (w : World) (A : Option Addr) (cp : Nat) (L : List ByteArray) (hC : Kd.C Kd.string w A L.length L) (hL : L.length < 4000) (hs : ∀ x ∈ L, x.size ≤ maxLen) :
    Calls Tryd.prog 23 #[.slice A L.length cp] w fun e w' => ∃ b mu mn, e = .returned (.pointer (some ⟨b, 0, none⟩)) ∧ Sup w' b mu mn (L.map (·.data.toList)) 0 (fun _ => 0) ∧ w.heap.size ≤ b ∧ w.heap.size ≤ mu ∧ w.heap.size ≤ mn ∧ Below w.heap.size w w' := by
  have hm1 := make49 w
  have hm2 := make50 (w.alloc (.map #[] 0))
  have HC := Aside0.mk hC
  have hsz := Aside0.mk hs
  have hLl := Aside0.mk hL
  clear hC hL hs
  go_enter Tryd.func23, Tryd.ntmps23
  go_wp2
  have hsup : Sup (((w.alloc (Obj.map #[] 0)).alloc (Obj.map #[] 0)).alloc (Obj.cells #[Value.map (some w.heap.size), Value.map (some (w.heap.size + 1))] 52)) (w.heap.size + 1 + 1) w.heap.size (w.heap.size + 1) [] 0 (fun _ => 0) := by
    have s1 := SetAt.made w
    have s2 := NumAt.made (w.alloc (Obj.map #[] 0))
    have e1 : (w.alloc (Obj.map #[] 0)).heap.size = w.heap.size + 1 := by simp
    rw [e1] at s2
    have g2 := World.grownBy_alloc (w.alloc (Obj.map #[] 0)) (Obj.map #[] 0) none
    have g3 := World.grownBy_alloc ((w.alloc (Obj.map #[] 0)).alloc (Obj.map #[] 0)) (Obj.cells #[Value.map (some w.heap.size), Value.map (some (w.heap.size + 1))] 52) none
    have e2 : ((w.alloc (Obj.map #[] 0)).alloc (Obj.map #[] 0)).heap.size = w.heap.size + 1 + 1 := by simp
    have hb := (MapKept.heap_alloc ((w.alloc (Obj.map #[] 0)).alloc (Obj.map #[] 0)) (Obj.cells #[Value.map (some w.heap.size), Value.map (some (w.heap.size + 1))] 52)).1
    rw [e2] at hb
    exact ⟨by unfold World.cell?; simp only [hb]; rfl, by unfold World.cell?; simp only [hb]; rfl, (s1.kept g2 (by simp)).kept g3 (by simp), s2.kept g3 (by simp), by omega, by omega, by omega⟩
  have hbel : Below w.heap.size w (((w.alloc (Obj.map #[] 0)).alloc (Obj.map #[] 0)).alloc (Obj.cells #[Value.map (some w.heap.size), Value.map (some (w.heap.size + 1))] 52)) := Below.alloc (Below.alloc (Below.alloc (Below.refl _ _) (Nat.le_refl _) _) (by simp) _) (by simp; omega) _
  generalize (((w.alloc (Obj.map #[] 0)).alloc (Obj.map #[] 0)).alloc (Obj.cells #[Value.map (some w.heap.size), Value.map (some (w.heap.size + 1))] 52)) = w1 at *
  clear hm1 hm2
  go_loopg [12] L.length (fun kq v12 w' => ∃ i : Int, v12 = .int .i64 i ∧ Aside0 (0 ≤ i ∧ i.toNat + kq = L.length) ∧ Sup w' (w.heap.size + 1 + 1) w.heap.size (w.heap.size + 1) ((L.take i.toNat).map (·.data.toList)) 0 (fun _ => 0) ∧ Below w.heap.size w w')
  case atStart => exact ⟨0, by first | rfl | simp, ⟨by decide, by simp⟩, by simpa using hsup, hbel⟩
  case round =>
    obtain ⟨i, rfl, hk, hS, hB⟩ := hrel
    clear hsup hbel
    have hk0 := hk.out.1
    by_cases hi : i < (L.length : Int)
    · obtain ⟨ad, rfl, hel⟩ := Kd.at_string (Kd.C_below HC.out hB) i hk0 hi
      have hxs := hsz.out _ (rd_mem L i hk0 hi)
      have htk : (L.take (i.toNat + 1)).map (·.data.toList) = (L.take i.toNat).map (·.data.toList) ++ [(rdOf ByteArray.empty L i).data.toList] := by
        rw [take_rd L i hk0 hi, List.map_append]; rfl
      generalize rdOf ByteArray.empty L i = x at *
      have q1 : decide (i < (L.length : Int)) = true := decide_eq_true hi
      have p1 := eq_true hk0
      have p2 := eq_true hi
      have c0 := hS.cell0
      obtain ⟨w2, hrun, hset, hg⟩ := hS.set.put (by rw [List.length_map, List.length_take]; exact Nat.lt_of_le_of_lt (Nat.min_le_right _ _) (Nat.lt_trans hLl.out (by decide))) x hxs
      rw [← htk] at hset
      have hS' := Aside0.mk hS
      have hset' := Aside0.mk hset
      have hg' := Aside0.mk hg
      have hi' := Aside0.mk hi
      have hB' := Aside0.mk hB
      clear hS hset hg hi hB hxs htk hk0
      go_wp2
      go_roundg (gk - 1)
      case measure => have := hi'.out; have := hk.out; omega
      case rel =>
        have h1 := hi'.out
        have h2 := hk.out
        have h3 := hLl.out
        have hs := hS'.out
        have hgg := hg'.out
        have et : (i + 1).toNat = i.toNat + 1 := by omega
        exact ⟨i + 1, by rw [show wrap64 (i + 1) = i + 1 from by unfold wrap64; omega], ⟨by omega, by omega⟩, ⟨hgg.cell hs.cell0 (by intro e; injection e with e; exact hs.bu e), hgg.cell hs.cell1 (by intro e; injection e with e; exact hs.bu e), by rw [et]; exact hset'.out, hs.num.kept hgg (by intro e; injection e with e; exact hs.ne e.symm), hs.ne, hs.bu, hs.bn⟩, hB'.out.grown hgg hB'.out.size (by intro k hk; injection hk with hk; omega)⟩
    · have q1 : decide (i < (L.length : Int)) = false := decide_eq_false hi
      have hi' : L.take i.toNat = L := List.take_of_length_le (by have := hk.out; omega)
      rw [hi'] at hS
      have hS' := Aside0.mk hS
      have hB' := Aside0.mk hB
      clear hS hB hi hi'
      go_wp2
      go_ret
      exact ⟨_, _, _, rfl, hS'.out, by omega, by omega, by omega, hB'.out⟩
theorem PS_New (w : World) (A : Option Addr) (cp : Nat) (L : List ByteArray) (hC : Kd.C Kd.string w A L.length L) (hL : L.length < 4000) (hs : ∀ x ∈ L, x.size ≤ maxLen) :
    Calls Tryd.prog 23 #[.slice A L.length cp] w fun e w' => ∃ b o, e = .returned (.pointer (some ⟨b, 0, none⟩)) ∧ PS w' (.pointer (some ⟨b, 0, none⟩)) 0 L o ∧ (∀ k ∈ o, w.heap.size ≤ k) ∧ Below w.heap.size w w' := by
  refine (New_c w A cp L hC hL hs).mono fun e w' ⟨b, mu, mn, he, hS, h1, h2, h3, hB⟩ => ?_
  refine ⟨b, [b, mu, mn], he, ⟨b, mu, mn, _, rfl, rfl, hS, TabOK.nil _⟩, ?_, hB⟩
  intro k hk
  simp at hk
  omega
end Su
end Go.Proofs.YtfbhipcfjkkmmaaDoor
