/- Part 4 of 5 of one proof: modgraph.program.reached -/
import Derived.Laws.EntriesVeiled
import Derived.Lib.SliceRun
import Derived.WalkSpells
import Derived.Test.YtmadhaccjmakdaaMCycle1
import Derived.Test.YtmadhaccjmakdaaMCycle2
import Derived.Test.YtmadhaccjmakdaaMCycle3
set_option linter.unusedVariables false
set_option linter.unusedSimpArgs false
set_option maxHeartbeats 8000000
set_option maxRecDepth 100000
namespace Go.Proofs.Ytmadhaccjmakdaa
open Go.RowKit Go.Proofs.Yw.A Go.Proofs.Yw.B Go.Proofs.Yw.C Go.Proofs.Ytmadhaccjmakdaa.P
namespace Od
open Tj Rw
theorem ordered_calls (k : Nat) (A : Option Addr) (c : Nat) (es : List (List Int)) (r : List (List Int)) (w : World) (hr : Kd.C KS w A es.length es) (hc : es.length <= c) (h : orderedF k es = some r) :
 Calls Try.prog 40 #[.slice A es.length c] w fun e w' => ∃ v, e = .returned v /\ Kd.V KS 55 w' w.heap.size (fun k_ => w.heap.size <= k_) v r /\ Below w.heap.size w w' := by
 unfold orderedF at h
 obtain ⟨⟨comp, n⟩, hs, h⟩ := Option.bind_eq_some_iff.1 h
 dsimp only at h
 by_cases hn : 0 <= n /\ n < 5864062014805
 case neg => rw [if_neg hn] at h; cases h
 rw [if_pos hn] at h
 obtain ⟨n0, n1⟩ := hn
 obtain ⟨n, rfl⟩ := Int.eq_ofNat_of_zero_le n0
 rw [Int.toNat_natCast] at h
 obtain ⟨ms, hms, h⟩ := Option.bind_eq_some_iff.1 h
 obtain ⟨u, hu, h⟩ := Option.bind_eq_some_iff.1 h
 obtain ⟨rd0, hrd, h⟩ := Option.bind_eq_some_iff.1 h
 have HS := Az.mk (strong_calls k A c es comp n w hr hc hs)
 have HMS := Az.mk hms
 have HU := Az.mk hu
 have HRD := Az.mk hrd
 have HDR := Az.mk h
 have HR := Az.mk hr
 clear hs hms hu hrd h hr
 generalize hL : es.length = L at *
 have HL := Az.mk hL
 clear hL
 go_enter Try.func40, Try.ntmps40
 go_upto_region 2 with (go_at_call 50; refine HS.1.mono ?_; rintro e w1 ⟨vc, rfl, hcm, hb1⟩; obtain ⟨Ac, cc, rfl, hlc, hCC⟩ := Kd.R_reads hcm; have HCC := Az.mk hCC; have HB1 := Az.mk hb1; clear hcm hCC hb1 HS)
 obtain ⟨i0, e0, e1, e2, e3⟩ := info_parts info55
 have hmk := run_make w1 47 55 i0 _ Try.underlying47 e0 e1 .i64 .i64 n n (by omega) (by omega) (by rw [e3]; omega) (by omega)
 rw [Int.toNat_natCast, e2, Nat.mul_one] at hmk
 clear e0 e1 e2 e3
 go_upto_region 3 with fail
 have hb2 := below_alloc (below_alloc (Below.refl w1.heap.size w1) (.cells (madeCells #[.slice none 0 0] n) 55)) (.cells #[.slice (some ⟨w1.heap.size, 0, none⟩) n n] 47)
 have hgm := blk_alloc (blk_new w1 (.cells (madeCells #[.slice none 0 0] n) 55)) (.cells #[.slice (some ⟨w1.heap.size, 0, none⟩) n n] 47)
 have hbm := blk_new (w1.alloc (.cells (madeCells #[.slice none 0 0] n) 55)) (.cells #[.slice (some ⟨w1.heap.size, 0, none⟩) n n] 47)
 have hs1 : (w1.alloc (.cells (madeCells #[.slice none 0 0] n) 55)).heap.size = w1.heap.size + 1 := by simp
 rw [hs1] at hbm
 have B2 := Az.mk hb2
 have S2 := Az.mk (S_made (base := w1.heap.size) (ok := fun _ => True) hgm (Nat.le_refl _) (by unfold maxLen; omega) trivial)
 have V2 := Az.mk hbm
 clear hb2 hgm hbm hs1 hmk
 generalize ((w1.alloc (.cells (madeCells #[.slice none 0 0] n) 55)).alloc (.cells #[.slice (some ⟨w1.heap.size, 0, none⟩) n n] 47)) = w2 at B2 S2 V2 ⊢
 generalize hgm : w1.heap.size = gm at B2 S2 V2 ⊢
 have HG := Az.mk hgm
 clear hgm
 go_wp2_with fail
 have hml : comp.length <= 9223372036854775807 := HCC.1.2.1
 go_loopg [34] k (fun kq v34 w' => ∃ (v : Int) (m : List (List Int)), v34 = .int .i64 v /\ Az (0 <= v) /\ Az (m.length = n) /\ Az (grp kq comp v m = some ms) /\ Az (kq <= k) /\ Az (Kd.S KS 55 w' gm (fun _ => True) (.slice (some ⟨gm, 0, none⟩) n n) m) /\ Az (w'.heap[gm + 1]? = some (.cells #[.slice (some ⟨gm, 0, none⟩) n n] 47 (0, 0))) /\ Az (Below gm w1 w'))
 case atStart => exact ⟨0, _, rfl, ⟨by omega⟩, ⟨by simp⟩, HMS, ⟨Nat.le_refl _⟩, S2, V2, B2⟩
 case round => as_aux_lemma =>
  clear HMS S2 V2 B2
  obtain ⟨v, m, rfl, HV, HML, HA, HK1, S, V, B⟩ := hrel
  cases gk with
  | zero => exact absurd HA.1 (by simp [grp])
  | succ k1 =>
   have H := HA.1
   clear HA
   rw [grp] at H
   by_cases ci : v < comp.length
   · as_aux_lemma =>
     rw [if_pos ci] at H
     by_cases cx : 0 <= rd comp v /\ rd comp v < m.length /\ (row m (rd comp v)).length < 17592186044415
     case neg => rw [if_neg cx] at H; cases H
     rw [if_pos cx] at H
     obtain ⟨cx0, cx1, cx2⟩ := cx
     have cb : decide (v < (comp.length : Int)) = true := decide_eq_true ci
     have hv0 := HV.1
     have q1 := eq_true hv0
     have q2 := eq_true ci
     obtain ⟨ad, rfl, hx⟩ := Kd.at_int HCC.1 v hv0 ci
     have hB := B.1
     rw [<- HG.1] at hB
     have hx1 := (hB.cell (World.block_lt_of_cell? _ _ hx)).trans hx
     clear hx hB
     generalize rd comp v = x at H cx0 cx1 cx2 hx1
     have H' := Az.mk H
     clear H
     go_upto_region 6 with fail
     rw [HML.1] at cx1
     obtain ⟨v0, oki, u1, u2, u3, u4, u5⟩ := S_upd S.1 (fun _ _ => trivial) x cx0 cx1
     have U2 := Az.mk u2
     have U3 := Az.mk u3
     have U4 := Az.mk u4
     have U5 := Az.mk (@u5)
     have q3 := eq_true cx0
     have q4 := eq_true cx1
     have c1 := cell_of_one V.1
     clear u2 u3 u4 u5 hx1
     have hH0 := True.intro
     refine start_ (n := 11) (S := fun w' => w'.cell? ⟨gm + 1, 0, none⟩ = some (.slice (some ⟨gm, 0, none⟩) n n) /\ w'.cell? ⟨gm, x.toNat, none⟩ = some v0) (ds := [10]) #[false, false, false, false, false, false, false, false, false, false, false] (by kernel_rfl) rfl rfl ⟨c1, u1⟩ (fun hHeld => ?_)
     generalize hwd : wr.drew = wd at hHeld ⊢
     refine pure_ (i := 1) (N := some 40) (v := ?_) (a' := ?_) #[false, true, false, false, false, false, false, false, false, false, false] rfl rfl (by kernel_rfl) (fun _ _ _ h => h) (Or.inl ⟨by rfl, ?_⟩) ?_ ?_
     rotate_left
     · intro w'
       go_simp
       with_reducible rfl
     rotate_left
     · simp only [Act.put, List.setIfInBounds_toArray, List.set_cons_zero, List.set_cons_succ, i64_w, i32_w]
       rfl
     refine pure_ (i := 3) (N := some 42) (v := ?_) (a' := ?_) #[false, true, false, true, false, false, false, false, false, false, false] rfl rfl (by kernel_rfl) (fun _ _ _ h => h) (Or.inl ⟨by rfl, ?_⟩) ?_ ?_
     rotate_left
     · intro w'
       go_simp
       with_reducible rfl
     rotate_left
     · simp only [Act.put, List.setIfInBounds_toArray, List.set_cons_zero, List.set_cons_succ, i64_w, i32_w]
       rfl
     refine pure_ (i := 6) (N := some 45) (v := ?_) (a' := ?_) #[false, true, false, true, false, false, true, false, false, false, false] rfl rfl (by kernel_rfl) (fun _ _ _ h => h) (Or.inl ⟨by rfl, ?_⟩) ?_ ?_
     rotate_left
     · intro w'
       go_simp
       with_reducible rfl
     rotate_left
     · simp only [Act.put, List.setIfInBounds_toArray, List.set_cons_zero, List.set_cons_succ, i64_w, i32_w]
       rfl
     refine take_ (i := 0) (N := some 39) (v := ?_) (a' := ?_) #[true, true, false, true, false, false, true, false, false, false, false] rfl rfl (by kernel_rfl) (fun _ _ _ h => h) (Or.inl ⟨by rfl, ?_⟩) hHeld ?_ ?_
     rotate_left
     · rintro w' ⟨s0, s1⟩
       go_simp
       with_reducible rfl
     rotate_left
     · simp only [Act.put, List.setIfInBounds_toArray, List.set_cons_zero, List.set_cons_succ, i64_w, i32_w]
       rfl
     refine take_ (i := 2) (N := some 41) (v := ?_) (a' := ?_) #[true, true, true, true, false, false, true, false, false, false, false] rfl rfl (by kernel_rfl) (fun _ _ _ h => h) (Or.inl ⟨by rfl, ?_⟩) hHeld ?_ ?_
     rotate_left
     · rintro w' ⟨s0, s1⟩
       go_simp
       with_reducible rfl
     rotate_left
     · simp only [Act.put, List.setIfInBounds_toArray, List.set_cons_zero, List.set_cons_succ, i64_w, i32_w]
       rfl
     refine pure_ (i := 4) (N := some 43) (v := ?_) (a' := ?_) #[true, true, true, true, true, false, true, false, false, false, false] rfl rfl (by kernel_rfl) (fun _ _ _ h => h) (Or.inl ⟨by rfl, ?_⟩) ?_ ?_
     rotate_left
     · intro w'
       go_simp
       with_reducible rfl
     rotate_left
     · simp only [Act.put, List.setIfInBounds_toArray, List.set_cons_zero, List.set_cons_succ, i64_w, i32_w]
       rfl
     refine take_ (i := 5) (N := some 44) (v := ?_) (a' := ?_) #[true, true, true, true, true, true, true, false, false, false, false] rfl rfl (by kernel_rfl) (fun _ _ _ h => h) (Or.inl ⟨by rfl, ?_⟩) hHeld ?_ ?_
     rotate_left
     · rintro w' ⟨s0, s1⟩
       go_simp
       with_reducible rfl
     rotate_left
     · simp only [Act.put, List.setIfInBounds_toArray, List.set_cons_zero, List.set_cons_succ, i64_w, i32_w]
       rfl
     refine one_ (i := 7) (N := some 46) #[true, true, true, true, true, true, true, true, false, false, false] rfl rfl (by kernel_rfl) (by decide) (fun K hK => ?_)
     refine event_step (w1 := wd.alloc (.cells #[.int .i64 v] 3)) (v := .slice (some ⟨wd.heap.size, 0, none⟩) 1 1) rfl (by go_simp; first | done | rfl) (hK.out _ _ ?_ (fun hHeld => ?_))
     · exact ⟨((below_alloc (Below.refl _ _) _).cell (World.block_lt_of_cell? _ _ hHeld.1)).trans hHeld.1, ((below_alloc (Below.refl _ _) _).cell (World.block_lt_of_cell? _ _ hHeld.2)).trans hHeld.2⟩
     refine norm_ (a' := ?_) ?_ ?_
     rotate_left
     · show Act.put _ (some 46) _ = _
       simp only [Act.put, List.setIfInBounds_toArray, List.set_cons_zero, List.set_cons_succ, i64_w, i32_w]
       rfl
     have hsd : wd.heap.size = wr.heap.size := by rw [<- hwd]; rfl
     have hRd : Kd.R (Kd.int .i64) 3 wd gm (fun k => oki k \/ wr.heap.size <= k) v0 (row m x) := by rw [<- hwd]; exact Kd.R_mono (Kd.R_drew U3.1) (fun k hk => .inl hk)
     have hBd : Below gm w1 wd := by rw [<- hwd]; exact below_drew B.1
     have hVd : wd.heap[gm + 1]? = some (.cells #[.slice (some ⟨gm, 0, none⟩) n n] 47 (0, 0)) := by rw [<- hwd]; exact V.1
     have hgmb : gm <= wd.heap.size := by have := blk_lt hVd; omega
     refine one_ (i := 8) (N := some 47) #[true, true, true, true, true, true, true, true, true, false, false] rfl rfl (by kernel_rfl) (by decide) (fun K hK => ?_)
     refine Kd.R_append_step (Kd.int .i64) (w0 := w1) gm rfl (.tmp 44) (.tmp 46) 55 3 (.int .i64 0) 8 rfl Try.underlying55 info3 rfl (by decide) (by omega) v0 (row m x) v [.int .i64 v] (fun k => oki k \/ wr.heap.size <= k) (fun _ => False) rfl rfl rfl (fun _ hk => hk.elim) (fun k hk => .inr (by omega)) hRd hBd hgmb (by omega) ?_
     intro v1 w3 ho hb hg hat
     obtain ⟨A1, q1c, rfl⟩ := Kd.R_slice ho
     have hown : ∀ k, v0.ownBlock = some k -> oki k := fun k hk => U3.1.1 k hk
     have hnm : v0.ownBlock ≠ some (gm + 1) := fun e => Kd.R_ne hRd hVd (by decide) e.symm
     have hng : v0.ownBlock ≠ some gm := fun e => (U4.1 gm (hown gm e)).2 rfl
     have hgl : gm < wd.heap.size := by have := blk_lt hVd; omega
     have w1c : wd.cell? ⟨gm + 1, 0, none⟩ = some (.slice (some ⟨gm, 0, none⟩) n n) := by rw [<- hwd]; exact c1
     have w2c : wd.cell? ⟨gm, x.toNat, none⟩ = some v0 := by rw [<- hwd]; exact u1
     have w2f : wd.frozen? ⟨gm, x.toNat, none⟩ = false := by rw [<- hwd]; exact U2.1
     have k1 : w3.cell? ⟨gm + 1, 0, none⟩ = some (.slice (some ⟨gm, 0, none⟩) n n) := (World.cell?_of_block (hg.block _ (blk_lt hVd) (fun e => hnm e.symm))).trans w1c
     have k2 : w3.cell? ⟨gm, x.toNat, none⟩ = some v0 := (World.cell?_of_block (hg.block gm hgl (fun e => hng e.symm))).trans w2c
     have k3 : w3.frozen? ⟨gm, x.toNat, none⟩ = false := (World.frozen?_of_block (hg.block gm hgl (fun e => hng e.symm))).trans w2f
     have G3 := Az.mk hg
     have R3 := Az.mk ho
     have B3 := Az.mk hb
     have V3 := Az.mk ((hg.block _ (blk_lt hVd) (fun e => hnm e.symm)).trans hVd)
     clear hg ho hb hat w1c w2c w2f hown hnm hng hRd hBd hVd
     refine hK.out _ _ ⟨k1, k2⟩ (fun hHeld => ?_)
     refine norm_ (a' := ?_) ?_ ?_
     rotate_left
     · show Act.put _ (some 47) _ = _
       simp only [Act.put, List.setIfInBounds_toArray, List.set_cons_zero, List.set_cons_succ, i64_w, i32_w]
       rfl
     refine pure_ (i := 9) (N := some 48) (v := ?_) (a' := ?_) #[true, true, true, true, true, true, true, true, true, true, false] rfl rfl (by kernel_rfl) (fun _ _ _ h => h) (Or.inl ⟨by rfl, ?_⟩) ?_ ?_
     rotate_left
     · intro w'
       go_simp
       with_reducible rfl
     rotate_left
     · simp only [Act.put, List.setIfInBounds_toArray, List.set_cons_zero, List.set_cons_succ, i64_w, i32_w]
       rfl
     refine last_ (i := 10) (N := none) #[true, true, true, true, true, true, true, true, true, true, true] rfl rfl (by kernel_rfl) (by decide) (fun K hK => ?_)
     refine skip_step (w1 := w3.setCell ⟨gm, x.toNat, none⟩ (.slice A1 (row m x ++ [v]).length q1c)) rfl rfl (by go_simp; first | done | rfl) (hK.out _ _ ?_)
     refine done_ (by kernel_rfl) ?_
     obtain ⟨S4, g4⟩ := U5.1 w3 _ _ (by rw [<- hwd] at G3; exact World.grownBy.trans (grown_of_below (below_drew (Below.refl _ _)) _) G3.1) R3.1
     have S5 := Az.mk S4
     have V5 := Az.mk (blk_grown V3.1 g4 (by simp))
     have B5 := Az.mk ((B3.1.grown g4 (by have := B.1.size; have := blk_lt V3.1; omega) (fun k hk => by cases hk; exact Nat.le_refl _)))
     clear S4 g4 k1 k2 k3 hHeld hK hH0 V3 B3 G3 R3 U5 U4 U3 U2
     generalize w3.setCell ⟨gm, x.toNat, none⟩ (.slice A1 (row m x ++ [v]).length q1c) = w5 at S5 V5 B5 ⊢
     go_wp2_with fail
     go_roundg k1
     case measure => omega
     case rel => exact ⟨v + 1, _, rfl, ⟨by omega⟩, ⟨by unfold app; rw [List.length_set]; exact HML.1⟩, H', ⟨by have := HK1.1; omega⟩, S5, V5, B5⟩
   as_aux_lemma =>
   rw [if_neg ci] at H
   obtain rfl := Option.some.inj H
   have cb : decide (v < (comp.length : Int)) = false := decide_eq_false ci
   have MM : MsAt wr (gm + 1) m := by
    obtain ⟨A5, c5, e5, l5, r5⟩ := Kd.S_reads S.1
    injection e5 with e6 e7 e8
    exact ⟨some ⟨gm, 0, none⟩, n, by rw [HML.1]; exact V.1, by rw [HML.1, e6]; rw [HML.1] at r5; exact r5⟩
   have M := Az.mk MM
   have MF := Az.mk (show Kd.F KS wr (fun k => gm <= k) (some ⟨gm, 0, none⟩) n m from Kd.S_F (Kd.S_mono (Kd.S_bound S.1) (fun k hk => hk.2.1)))
   clear H MM S
   go_upto_region 8 with fail
   obtain ⟨i0, e0, e1, e2, e3⟩ := info_parts info3
   have hmk := run_make wr 55 3 i0 _ Try.underlying55 e0 e1 .i64 .i64 n n (by omega) (by omega) (by rw [e3]; omega) (by omega)
   rw [Int.toNat_natCast, e2, Nat.mul_one] at hmk
   obtain ⟨i1, f0, f1, f2, f3⟩ := info_parts info55
   have hmk2 := run_make (wr.alloc (.cells (madeCells (Value.int .i64 0).cells n) 3)) 47 55 i1 _ Try.underlying47 f0 f1 .i64 .i64 n n (by omega) (by omega) (by rw [f3]; omega) (by omega)
   rw [Int.toNat_natCast, f2, Nat.mul_one] at hmk2
   clear e0 e1 e2 e3 f0 f1 f2 f3
   have hz0 : (Value.int .i64 0).cells = #[.int .i64 0] := rfl
   have hz1 : (Value.slice none 0 0).cells = #[.slice none 0 0] := rfl
   rw [hz0] at hmk hmk2
   rw [hz1] at hmk2
   clear hz0 hz1
   go_upto_region 10 with fail
   obtain ⟨W1, rfl⟩ : ∃ W1 : World, W1 = wr := ⟨_, rfl⟩
   have hgo1 := blk_alloc (blk_new W1 (.cells (madeCells #[.int .i64 0] n) 3)) (.cells (madeCells #[.slice none 0 0] n) 55)
   have hgu1 := blk_new (W1.alloc (.cells (madeCells #[.int .i64 0] n) 3)) (.cells (madeCells #[.slice none 0 0] n) 55)
   have hs1 : (W1.alloc (.cells (madeCells #[.int .i64 0] n) 3)).heap.size = W1.heap.size + 1 := by simp
   rw [hs1] at hgu1
   have B2 := Az.mk (below_alloc (below_alloc (Below.refl W1.heap.size W1) (.cells (madeCells #[.int .i64 0] n) 3)) (.cells (madeCells #[.slice none 0 0] n) 55))
   have O2 := Az.mk (arr_made hgo1)
   have S2 := Az.mk (S_made (base := W1.heap.size + 1) (ok := fun _ => True) hgu1 (Nat.le_refl _) (by unfold maxLen; omega) trivial)
   clear hgo1 hgu1 hs1 hmk hmk2
   generalize ((W1.alloc (.cells (madeCells #[.int .i64 0] n) 3)).alloc (.cells (madeCells #[.slice none 0 0] n) 55)) = W2 at B2 O2 S2 ⊢
   generalize hgo : W1.heap.size = go at B2 O2 S2 ⊢
   have HGO := Az.mk hgo
   clear hgo
   have cm := cell_of_one (blk_below V.1 (by rw [HGO.1]; exact B2.1))
   go_wp2_with fail
   clear cm
   go_loopg [56] k (fun kq v56 w' => ∃ (ci : Int) (u1 : US), v56 = .int .i64 ci /\ Az (0 <= ci) /\ Az (u1.opn.length = n /\ u1.users.length = n) /\ Az (ed1 kq es comp m ci u1 = some u) /\ Az (kq <= k) /\ Az (Below go W1 w') /\ Az (w'.heap[go]? = some (arr u1.opn)) /\ Az (Kd.S KS 55 w' (go + 1) (fun _ => True) (.slice (some ⟨go + 1, 0, none⟩) n n) u1.users))
   case atStart => exact ⟨0, _, rfl, ⟨by omega⟩, ⟨by simp, by simp⟩, HU, ⟨Nat.le_refl _⟩, B2, O2, S2⟩
   case round => as_aux_lemma =>
    clear HU B2 O2 S2
    obtain ⟨ci, u1, rfl, HC0, HL1, HA, HK2, B2, O2, S2⟩ := hrel
    obtain ⟨W2b, rfl⟩ : ∃ W2b : World, W2b = wr := ⟨_, rfl⟩
    cases gk with
    | zero => exact absurd HA.1 (by simp [ed1])
    | succ k2 =>
     have H := HA.1
     clear HA
     rw [ed1] at H
     have hml2 : m.length <= 9223372036854775807 := by rw [HML.1]; omega
     by_cases cc1 : ci < m.length
     · as_aux_lemma =>
       rw [if_pos cc1] at H
       by_cases cw : (Lit.int .i64 ci).wf = true
       case neg => rw [if_neg cw] at H; cases H
       rw [if_pos cw] at H
       have CW := Az.mk cw
       clear cw
       obtain ⟨u2, hu2, H⟩ := Option.bind_eq_some_iff.1 H
       have H' := Az.mk H
       have HU2 := Az.mk hu2
       clear H hu2
       have hc0 := HC0.1
       have hcn : ci < (n : Int) := by rw [<- HML.1]; exact cc1
       have cb2 : decide (ci < (n : Int)) = true := decide_eq_true hcn
       obtain ⟨Am, cm, km1, km2⟩ := M.1.cell
       have eA : Am = some ⟨gm, 0, none⟩ := by
        have e9 := V.1.symm.trans km1
        simp at e9
        exact e9.1.symm
       subst eA
       obtain ⟨adm, Ar, cr, er, hx, hxl, hxi⟩ := at_L11 km2 ci hc0 cc1
       cases er
       have hx1 := (B2.1.cell (by rw [<- HGO.1]; exact World.block_lt_of_cell? _ _ hx)).trans hx
       have el : rd_L11 m ci = row m ci := rfl
       rw [el] at hx1 hxi hxl
       have HXI := Az.mk hxi
       clear hx hxi hxl km1 km2 el
       rw [Addr.add_lit, Nat.zero_add] at hx1
       have q1 := eq_true hc0
       have q2 := eq_true hcn
       have q1b := eq_true cc1
       go_upto_region 13 with fail
       have hmm := @run_makeMap Try.prog
       obtain ⟨w6, hput, hseen, hg6⟩ := (SeenAt.made W2b).put (by unfold maxLen; simp) ci CW.1
       have hput1 := hput
       have HG6 := Az.mk hg6
       have HSE := Az.mk hseen
       clear hput hg6 hseen hx1
       go_upto_region 14 with fail
       have hgs : go + 1 < W2b.heap.size := Kd.S_lt S2.1 (go + 1) (by simp [Value.ownBlock])
       have B6 := Az.mk (show Below go W1 w6 from (B2.1.alloc (by omega) (.map #[] 0)).grown HG6.1 (by simp; omega) (fun k hk => by cases hk; omega))
       have O6 := Az.mk (blk_grown (blk_alloc O2.1 (.map #[] 0)) HG6.1 (by intro e; injection e with e; omega))
       have S6 := Az.mk (S_mapstep (Kd.S_alloc S2.1 (.map #[] 0)) (blk_new W2b _) HG6.1)
       have Q6 := Az.mk (show SeenAt w6 W2b.heap.size [ci] from HSE.1)
       have HXL : Az ((row m ci).length <= 9223372036854775807) := ⟨HXI.1.2.1⟩
       clear hmm hput1 HG6 HSE
       generalize hgs2 : W2b.heap.size = gs at hgs B6 O6 S6 Q6 ⊢
       have HGS := Az.mk (show go + 1 < gs from hgs)
       clear hgs2 hgs O2 S2 B2
       have hxl := HXL.1
       go_wp2_with fail
       go_loopg [66] k2 (fun kq v66 w' => ∃ (i : Int) (u3 : US), v66 = .int .i64 i /\ Az (0 <= i) /\ Az (u3.opn.length = n /\ u3.users.length = n) /\ Az (ed2 kq es comp ci (row m ci) i u3 = some u2) /\ Az (kq <= k2) /\ Az (Below go W1 w') /\ Az (w'.heap[go]? = some (arr u3.opn)) /\ Az (Kd.S KS 55 w' (go + 1) (fun _ => True) (.slice (some ⟨go + 1, 0, none⟩) n n) u3.users) /\ Az (SeenAt w' gs u3.seen))
       case atStart => exact ⟨0, { opn := u1.opn, users := u1.users, seen := [ci] }, rfl, ⟨by omega⟩, HL1, HU2, ⟨Nat.le_refl _⟩, B6, O6, S6, Q6⟩
       case round => as_aux_lemma =>
        clear HU2 B6 O6 S6 Q6
        obtain ⟨i, u3, rfl, HI0, HL3, HA, HK3, B6, O6, S6, Q6⟩ := hrel
        obtain ⟨W3b, rfl⟩ : ∃ W3b : World, W3b = wr := ⟨_, rfl⟩
        cases gk with
        | zero => exact absurd HA.1 (by simp [ed2])
        | succ k3 =>
         have H := HA.1
         clear HA
         rw [ed2] at H
         by_cases ci3 : i < (row m ci).length
         rotate_left
         · as_aux_lemma =>
           rw [if_neg ci3] at H
           obtain rfl := Option.some.inj H
           have cb3 : decide (i < ((row m ci).length : Int)) = false := decide_eq_false ci3
           go_wp2_with fail
           go_roundg k2
           case measure => omega
           case rel => exact ⟨ci + 1, _, rfl, ⟨by have := HC0.1; omega⟩, HL3, H', ⟨by have := HK2.1; omega⟩, B6, O6, S6⟩
         as_aux_lemma =>
         rw [if_pos ci3] at H
         have hi0 := HI0.1
         obtain ⟨ad3, e3, hx⟩ := Kd.at_int HXI.1 i hi0 ci3
         subst e3
         have hx3 := (B6.1.cell (by rw [<- HGO.1]; exact World.block_lt_of_cell? _ _ hx)).trans hx
         clear hx
         generalize rd (row m ci) i = y at H hx3
         by_cases cy : 0 <= y /\ y < es.length
         case neg => rw [if_neg cy] at H; cases H
         rw [if_pos cy] at H
         obtain ⟨cy0, cy1⟩ := cy
         obtain ⟨u4, hu4, H⟩ := Option.bind_eq_some_iff.1 H
         have H' := Az.mk H
         have HU4 := Az.mk hu4
         clear H hu4
         have hrr := HR.1
         rw [<- HL.1] at hrr
         obtain ⟨adE, Ay, cyy, eE, hy, hyl, hyi⟩ := at_L11 hrr y cy0 cy1
         subst eE
         have hW1 : Below w.heap.size w W3b := (HB1.1.trans (B.1.mono (by rw [<- HG.1]; exact HB1.1.size))).trans (B6.1.mono (by rw [<- HGO.1]; have h1 := B.1.size; have h2 := HB1.1.size; have h3 := HG.1; omega))
         have hy1 := (hW1.cell (World.block_lt_of_cell? _ _ hy)).trans hy
         have el : rd_L11 es y = row es y := rfl
         rw [el] at hy1 hyi hyl
         have HYI := Az.mk hyi
         have hyl2 : (row es y).length <= 9223372036854775807 := hyi.2.1
         rw [HL.1] at cy1
         have cb3 : decide (i < ((row m ci).length : Int)) = true := decide_eq_true ci3
         have q3 := eq_true hi0
         have q4 := eq_true ci3
         have q5 := eq_true cy0
         have q6 := eq_true cy1
         clear hy hyi hyl hrr el
         go_upto_region 17 with fail
         go_wp2_with fail
         have HYL := Az.mk hyl2
         clear hy1 hx3
         go_loopg [75] k3 (fun kq v75 w' => ∃ (j : Int) (u5 : US), v75 = .int .i64 j /\ Az (0 <= j) /\ Az (u5.opn.length = n /\ u5.users.length = n) /\ Az (ed3 kq comp ci (row es y) j u5 = some u4) /\ Az (kq <= k3) /\ Az (Below go W1 w') /\ Az (w'.heap[go]? = some (arr u5.opn)) /\ Az (Kd.S KS 55 w' (go + 1) (fun _ => True) (.slice (some ⟨go + 1, 0, none⟩) n n) u5.users) /\ Az (SeenAt w' gs u5.seen))
         case atStart => exact ⟨0, _, rfl, ⟨by omega⟩, HL3, HU4, ⟨Nat.le_refl _⟩, B6, O6, S6, Q6⟩
         case round => as_aux_lemma =>
          clear HU4 B6 O6 S6 Q6 HL3
          obtain ⟨j, u5, rfl, HJ0, HL5, HA, HK4, B6, O6, S6, Q6⟩ := hrel
          obtain ⟨W4b, rfl⟩ : ∃ W4b : World, W4b = wr := ⟨_, rfl⟩
          cases gk with
          | zero => exact absurd HA.1 (by simp [ed3])
          | succ k4 =>
           have H := HA.1
           clear HA
           rw [ed3] at H
           by_cases cj : j < (row es y).length
           rotate_left
           · as_aux_lemma =>
             rw [if_neg cj] at H
             obtain rfl := Option.some.inj H
             have cb4 : decide (j < ((row es y).length : Int)) = false := decide_eq_false cj
             go_wp2_with fail
             go_roundg k3
             case measure => omega
             case rel => exact ⟨i + 1, _, rfl, ⟨by have := HI0.1; omega⟩, HL5, H', ⟨by have := HK3.1; omega⟩, B6, O6, S6, Q6⟩
           as_aux_lemma =>
           rw [if_pos cj] at H
           have hj0 := HJ0.1
           obtain ⟨ad4, e4, hx⟩ := Kd.at_int HYI.1 j hj0 cj
           subst e4
           have hWw : Below w.heap.size w W4b := (HB1.1.trans (B.1.mono (by rw [<- HG.1]; exact HB1.1.size))).trans (B6.1.mono (by rw [<- HGO.1]; have h1 := B.1.size; have h2 := HB1.1.size; have h3 := HG.1; omega))
           have hx4 := (hWw.cell (World.block_lt_of_cell? _ _ hx)).trans hx
           clear hx hWw
           generalize rd (row es y) j = z at H hx4
           by_cases cz : 0 <= z /\ z < comp.length /\ (Lit.int .i64 (rd comp z)).wf = true
           case neg => rw [if_neg cz] at H; cases H
           rw [if_pos cz] at H
           obtain ⟨cz0, cz1, cz2⟩ := cz
           obtain ⟨ad5, e5, hx⟩ := Kd.at_int HCC.1 z cz0 cz1
           subst e5
           have hWc : Below w1.heap.size w1 W4b := by
            have h1 := B.1
            rw [<- HG.1] at h1
            exact h1.trans (B6.1.mono (by rw [<- HGO.1]; exact h1.size))
           have hx5 := (hWc.cell (World.block_lt_of_cell? _ _ hx)).trans hx
           clear hx hWc
           generalize rd comp z = d at H hx5 cz2
           have CZ := Az.mk cz2
           clear cz2
           have cb4 : decide (j < ((row es y).length : Int)) = true := decide_eq_true cj
           have q1 := eq_true hj0
           have q2 := eq_true cj
           have q5 := eq_true cz0
           have q6 := eq_true cz1
           have hyl3 := HYL.1
           have hlook := Q6.1.look d CZ.1
           by_cases cs : u5.seen.contains d = true
           · as_aux_lemma =>
             rw [if_pos cs] at H
             have H' := Az.mk H
             clear H
             rw [cs] at hlook
             clear cs
             go_wp2_with fail
             go_roundg k4
             case measure => omega
             case rel => exact ⟨j + 1, _, rfl, ⟨by omega⟩, HL5, H', ⟨by have := HK4.1; omega⟩, B6, O6, S6, Q6⟩
           as_aux_lemma =>
           rw [if_neg cs] at H
           have cs2 : u5.seen.contains d = false := by simpa using cs
           rw [cs2] at hlook
           clear cs
           by_cases ca : 0 <= ci /\ ci < u5.opn.length /\ 0 <= d /\ d < u5.users.length /\ (row u5.users d).length < 17592186044415 /\ u5.seen.length < 17592186044415
           case neg => rw [if_neg ca] at H; cases H
           rw [if_pos ca] at H
           obtain ⟨ca0, ca1, ca2, ca3, ca4, ca5⟩ := ca
           have H' := Az.mk H
           clear H cs2
           go_upto_region 22 with fail
           obtain ⟨w7, hput, hq7, hg7⟩ := Q6.1.put (by unfold maxLen; omega) d CZ.1
           have hput1 := hput
           clear hput hlook hx4 hx5
           go_upto_region 23 with fail
           obtain ⟨mes, mc, hmo⟩ := Q6.1.obj
           have hgl := blk_lt O6.1
           have hgg := HGS.1
           have B7 := Az.mk (B6.1.grown hg7 (by omega) (fun k hk => by cases hk; omega))
           have O7 := Az.mk (blk_grown O6.1 hg7 (by intro e; injection e with e; omega))
           have S7 := Az.mk (S_mapstep S6.1 hmo hg7)
           have Q7 := Az.mk hq7
           clear hput1 hq7 hg7 hmo B6 O6 S6 Q6 hgl
           have c1 := arr_cell O7.1 ci ca0 ca1
           have f1 := arr_free O7.1 ci.toNat
           have q7 := eq_true ca0
           have q8 : (ci < (n : Int)) = True := by rw [<- HL5.1.1]; exact eq_true ca1
           go_upto_region 24 with fail
           have hgr : w7.grownBy (w7.setCell ⟨go, ci.toNat, none⟩ (.int .i64 (wrap64 (rd u5.opn ci + 1)))) (some go) := ⟨rfl, rfl, rfl, by simp, fun i hi hne => Below.heap_setCell w7 _ _ i (fun e => hne (by rw [e]))⟩
           have B8 := Az.mk (B7.1.setCell (show go <= (⟨go, ci.toNat, none⟩ : Addr).block from Nat.le_refl go) (.int .i64 (wrap64 (rd u5.opn ci + 1))))
           have O8 := Az.mk (show (w7.setCell ⟨go, ci.toNat, none⟩ (.int .i64 (wrap64 (rd u5.opn ci + 1)))).heap[go]? = some (arr (u5.opn.set ci.toNat (wrap64 (rd u5.opn ci + 1)))) from by unfold arr; rw [<- nums_set]; exact blk_set O7.1 ci.toNat _)
           have S8 := Az.mk (Kd.S_mono (ok' := fun k => go + 1 <= k) (Kd.S_far (p := ⟨go, ci.toNat, none⟩) (Kd.S_bound S7.1) (fun k hk => by have := hk.2.1; show k ≠ go; omega) (.int .i64 (wrap64 (rd u5.opn ci + 1)))) (fun k hk => hk.2.1))
           have Q8 := Az.mk (Q7.1.kept hgr (by intro e; injection e with e; omega))
           clear hgr B7 O7 S7 Q7 c1 f1
           generalize w7.setCell ⟨go, ci.toNat, none⟩ (.int .i64 (wrap64 (rd u5.opn ci + 1))) = w8 at B8 O8 S8 Q8 ⊢
           have hs8 := blk_lt O8.1
           rw [HL5.1.2] at ca3
           obtain ⟨v0, oki, x1, x2, x3, x4, x5⟩ := S_upd S8.1 (fun k hk => by omega) d ca2 ca3
           have X3 := Az.mk (Kd.R_mono (ok' := fun k => oki k \/ w8.heap.size <= k) x3 (fun k hk => .inl hk))
           have X4 := Az.mk x4
           have X5 := Az.mk (@x5)
           have X6 := Az.mk x3
           have q9 := eq_true ca2
           have q10 := eq_true ca3
           clear x3 x4 x5 hgg
           go_wp2_with ((with_reducible refine gate_builtin (b := .append) (xs := #[.tmp 100, .tmp 102]) rfl ?_); at_builtin; refine Kd.R_append (Kd.int .i64) (w0 := w8) (go + 1) rfl (.tmp 100) (.tmp 102) 55 3 (.int .i64 0) 8 rfl Try.underlying55 info3 rfl (by decide) (by omega) v0 (row u5.users d) ci [.int .i64 ci] (fun k => oki k \/ w8.heap.size <= k) (fun _ => False) rfl rfl rfl (fun _ hk => hk.elim) (fun k hk => .inr hk) X3.1 (Below.refl _ _) ?hs ?hl ?_)
           (case hs => omega)
           (case hl => omega)
           intro v1 w9 ho hb hg hat
           obtain ⟨A9, q9c, rfl⟩ := Kd.R_slice ho
           have hown : ∀ k, v0.ownBlock = some k -> go + 1 <= k /\ k ≠ go + 1 := fun k hk => X4.1 k (X6.1.1 k hk)
           obtain ⟨mes2, mc2, hmo2⟩ := Q8.1.obj
           have hqn : some gs ≠ v0.ownBlock := by
            intro e
            obtain ⟨inner, hi⟩ := Kd.R_own X6.1
            obtain ⟨cells, hc⟩ := own_typed hi gs e.symm
            rw [hmo2] at hc
            cases hc
           have O9 := Az.mk (blk_grown O8.1 hg (fun e => by have := (hown go e.symm).1; omega))
           have B9 := Az.mk (B8.1.grown hg (by omega) (fun k hk => by have := (hown k hk).1; omega))
           have Q9 := Az.mk (Q8.1.kept hg hqn)
           have hgu : go + 1 < w8.heap.size := Kd.S_lt S8.1 (go + 1) (by simp [Value.ownBlock])
           have hne9 : some (go + 1) ≠ v0.ownBlock := fun e => (hown _ e.symm).2 rfl
           have k2 : w9.cell? ⟨go + 1, d.toNat, none⟩ = some v0 := (World.cell?_of_block (hg.block (go + 1) hgu hne9)).trans x1
           have k3 : w9.frozen? ⟨go + 1, d.toNat, none⟩ = false := (World.frozen?_of_block (hg.block (go + 1) hgu hne9)).trans x2
           have hs9 := hg.size
           have G9 := Az.mk hg
           have R9 := Az.mk ho
           clear hg ho hb hat hown hqn hmo2 x1 x2 hne9 B8 O8 S8 Q8 X3 X4 X6
           go_upto_region 25 with fail
           obtain ⟨S10, g10⟩ := X5.1 w9 _ _ G9.1 R9.1
           have S11 := Az.mk (Kd.S_mono (ok' := fun _ => True) S10 (fun _ _ => trivial))
           have O11 := Az.mk (blk_grown O9.1 g10 (by intro e; injection e with e; omega))
           have B11 := Az.mk (B9.1.grown g10 (by omega) (fun k hk => by cases hk; omega))
           have Q11 := Az.mk (Q9.1.kept g10 (by have := HGS.1; intro e; injection e with e; omega))
           have HL11 : Az ((link ci d u5).opn.length = n /\ (link ci d u5).users.length = n) := ⟨by unfold link app; simp only [List.length_set]; exact HL5.1⟩
           clear S10 g10 k2 k3 hs9 G9 R9 X5 O9 B9 Q9 hs8 hgu
           have e9 : (row u5.users d ++ [ci]).length = (row u5.users d).length + 1 := by simp
           rw [e9] at S11 O11 B11 Q11
           clear e9
           generalize w9.setCell ⟨go + 1, d.toNat, none⟩ (.slice A9 ((row u5.users d).length + 1) q9c) = w11 at S11 O11 B11 Q11 ⊢
           go_wp2_with fail
           go_roundg k4
           case measure => omega
           case rel => exact ⟨j + 1, link ci d u5, rfl, ⟨by omega⟩, HL11, H', ⟨by have := HK4.1; omega⟩, B11, O11, S11, Q11⟩
     as_aux_lemma =>
     rw [if_neg cc1] at H
     obtain rfl := Option.some.inj H
     have hcn : ¬ ci < (n : Int) := by rw [<- HML.1]; exact cc1
     have cb2 : decide (ci < (n : Int)) = false := decide_eq_false hcn
     clear H
     go_upto_region 28 with fail
     obtain ⟨W2, rfl⟩ : ∃ W2 : World, W2 = W2b := ⟨_, rfl⟩
     have hbr := blk_new W2 (.cells #[.slice none 0 0] 55)
     have B3 := Az.mk (B2.1.alloc (by have := blk_lt O2.1; omega) (.cells #[.slice none 0 0] 55))
     have O3 := Az.mk (blk_alloc O2.1 (.cells #[.slice none 0 0] 55))
     have S3 := Az.mk (Kd.S_alloc (Kd.S_mono (ok' := fun k => go + 1 <= k /\ k < W2.heap.size) (Kd.S_bound S2.1) (fun k hk => ⟨hk.2.1, hk.2.2.1⟩)) (.cells #[.slice none 0 0] 55))
     have R3 := Az.mk (show ReadyAt (W2.alloc (.cells #[.slice none 0 0] 55)) W2.heap.size [] from ⟨_, hbr, .inl ⟨rfl, rfl⟩⟩)
     have Z3 := Az.mk (show W2.heap.size + 1 <= (W2.alloc (.cells #[.slice none 0 0] 55)).heap.size by simp)
     have HGB := Az.mk (show go < W2.heap.size from blk_lt O2.1)
     clear hbr B2 O2 S2
     go_upto_region 29 with fail
     generalize (W2.alloc (.cells #[.slice none 0 0] 55)) = W3 at B3 O3 S3 R3 Z3 ⊢
     generalize W2.heap.size = br at S3 R3 Z3 HGB ⊢
     go_wp2_with fail
     have hgB := HGO.1
     go_loopg [110] k (fun kq v110 w' => ∃ (cI : Int) (ready : List Int), v110 = .int .i64 cI /\ Az (0 <= cI) /\ Az (starts kq m n cI u1.opn ready = some rd0) /\ Az (kq <= k) /\ Az (Below go W1 w') /\ Az (w'.heap[go]? = some (arr u1.opn)) /\ Az (Kd.S KS 55 w' (go + 1) (fun k => go + 1 <= k /\ k < br) (.slice (some ⟨go + 1, 0, none⟩) n n) u1.users) /\ Az (ReadyAt w' br ready) /\ Az (br + 1 <= w'.heap.size))
     case atStart => exact ⟨0, _, rfl, ⟨by omega⟩, HRD, ⟨Nat.le_refl _⟩, B3, O3, S3, R3, Z3⟩
     case round => as_aux_lemma =>
      clear HRD B3 O3 S3 R3 Z3
      obtain ⟨cI, ready, rfl, HC0, HA, HK5, B3, O3, S3, R3, Z3⟩ := hrel
      obtain ⟨W4, rfl⟩ : ∃ W4 : World, W4 = wr := ⟨_, rfl⟩
      cases gk with
      | zero => exact absurd HA.1 (by simp [starts])
      | succ k5 =>
       have H := HA.1
       clear HA
       rw [starts] at H
       by_cases cc5 : cI < (n : Int)
       · as_aux_lemma =>
         rw [if_pos cc5] at H
         by_cases cx : 0 <= cI /\ cI < u1.opn.length
         case neg => rw [if_neg cx] at H; cases H
         rw [if_pos cx] at H
         obtain ⟨cx0, cx1⟩ := cx
         have c1 := arr_cell O3.1 cI cx0 cx1
         have q1 := eq_true cx0
         have q2 := eq_true cc5
         have cb5 : decide (cI < (n : Int)) = true := decide_eq_true cc5
         by_cases cz : rd u1.opn cI = 0
         rotate_left
         · as_aux_lemma =>
           rw [if_neg cz] at H
           have H' := Az.mk H
           have cz1 : (rd u1.opn cI == 0) = false := beq_eq_false_iff_ne.2 cz
           clear cz H
           go_wp2_with fail
           go_roundg k5
           case measure => omega
           case rel => exact ⟨cI + 1, _, rfl, ⟨by omega⟩, H', ⟨by have := HK5.1; omega⟩, B3, O3, S3, R3, Z3⟩
         as_aux_lemma =>
         rw [if_pos cz] at H
         obtain ⟨ready2, hent, H⟩ := Option.bind_eq_some_iff.1 H
         have H' := Az.mk H
         have HE := Az.mk hent
         have cz1 : (rd u1.opn cI == 0) = true := beq_iff_eq.2 cz
         clear cz H hent
         obtain ⟨vr, hv, hra⟩ := R3.1
         have HRA := Az.mk hra
         have hB4 : Below W1.heap.size W1 W4 := by rw [HGO.1]; exact B3.1
         have ENT := Az.mk (enter_calls W1 W4 (gm + 1) br m cI (br + 1) vr ready ready2 M.1 hB4 (by have := HGB.1; omega) (by have := HGB.1; omega) Z3.1 hv hra HE.1)
         clear hv hra hB4
         go_wp2_with (go_at_call 51; refine ENT.1.mono ?_; clear ENT c1; intro e w9 hen; obtain ⟨rfl, e1, e2, e3, e4, e5⟩ := hen.keeps HRA.1; rw [HGO.1] at e1; have E1 := Az.mk e1; have E2 := Az.mk e2; have E3 := Az.mk e3; have E4 := Az.mk e4; clear e1 e2 e3 e4 e5 hen)
         have O9 := Az.mk ((E4.1 go HGB.1 (blk_lt O3.1)).trans O3.1)
         have S9 := Az.mk (Kd.S_step S3.1 (fun k hk hlt => E4.1 k hk.2 hlt))
         go_roundg k5
         case measure => omega
         case rel => exact ⟨cI + 1, _, rfl, ⟨by omega⟩, H', ⟨by have := HK5.1; omega⟩, E1, O9, S9, E3, ⟨by have := Z3.1; have := E2.1; omega⟩⟩
       as_aux_lemma =>
       rw [if_neg cc5] at H
       obtain rfl := Option.some.inj H
       have cb5 : decide (cI < (n : Int)) = false := decide_eq_false cc5
       clear H
       obtain ⟨W5, rfl⟩ : ∃ W5 : World, W5 = W4 := ⟨_, rfl⟩
       have X3 := Az.mk (show OutR W1 gm W5 (br + 1) (.slice none 0 0) [] from Kd.R_nil _ _ _ _ _)
       have HU1 := Az.mk HL1.1
       go_upto_region 37 with fail
       go_loopg [21] k (fun kq v21 w' => ∃ (ready opn : List Int) (out : List (List Int)), Az (drain kq m u1.users opn ready out = some r) /\ Az (kq <= k) /\ Az (opn.length = n) /\ Az (Below go W1 w') /\ Az (w'.heap[go]? = some (arr opn)) /\ Az (Kd.S KS 55 w' (go + 1) (fun k => go + 1 <= k /\ k < br) (.slice (some ⟨go + 1, 0, none⟩) n n) u1.users) /\ Az (ReadyAt w' br ready) /\ Az (br + 1 <= w'.heap.size) /\ Az (OutR W1 gm w' (br + 1) v21 out))
       case atStart => exact ⟨_, _, _, HDR, ⟨Nat.le_refl _⟩, ⟨HL1.1.1⟩, B3, O3, S3, R3, Z3, X3⟩
       case round => as_aux_lemma =>
        clear HDR B3 O3 S3 R3 Z3 X3
        obtain ⟨ready, opn, out, HA, HK6, HLO, B3, O3, S3, R3, Z3, X3⟩ := hrel
        obtain ⟨W6, rfl⟩ : ∃ W6 : World, W6 = wr := ⟨_, rfl⟩
        obtain ⟨Ao, co, rfl⟩ := Kd.R_slice X3.1
        cases gk with
        | zero => exact absurd HA.1 (by simp [drain])
        | succ k6 =>
         have H := HA.1
         clear HA
         rw [drain] at H
         obtain ⟨vr, hv, hra⟩ := R3.1
         have HV := Az.mk hv
         have HRA := Az.mk hra
         clear hv hra R3
         by_cases ce : 0 < ready.length
         rotate_left
         · as_aux_lemma =>
           rw [if_neg ce] at H
           obtain rfl := Option.some.inj H
           obtain ⟨A2, c2, rfl, _, _⟩ := HRA.1.slice
           have c1 := cell_of_one HV.1
           have cb : decide ((0 : Int) < (ready.length : Int)) = false := decide_eq_false (by omega)
           go_wp2_with fail
           go_ret
           have e1 : w.heap.size <= gm := by rw [<- HG.1]; exact HB1.1.size
           have e2 : gm + 1 < go := by rw [<- HGO.1]; exact blk_lt V.1
           refine ⟨_, rfl, ?_, ?_⟩
           · exact outK_V X3.1 (by rw [HGO.1]; exact B3.1) (by have := HGB.1; omega) (g0 := w.heap.size) e1
           · exact HB1.1.trans ((B.1.mono e1).trans (B3.1.mono (by omega)))
         as_aux_lemma =>
         rw [if_pos ce] at H
         obtain ⟨gr, off, cap, A1, rfl, hg1, hg2, hcp, hc0, hif, hcut⟩ := HRA.1.cut ce
         have c1 := cell_of_one HV.1
         have cb : decide ((0 : Int) < (ready.length : Int)) = true := decide_eq_true (by omega)
         by_cases cx : 0 <= rd ready 0 /\ rd ready 0 < m.length /\ rd ready 0 < u1.users.length /\ out.length < 5864062014805
         case neg => rw [if_neg cx] at H; cases H
         rw [if_pos cx] at H
         obtain ⟨⟨opn2, ready2⟩, hdec, H2⟩ := Option.bind_eq_some_iff.1 H
         have HDC := Az.mk hdec
         have H' := Az.mk H2
         clear hdec H2 H
         have f1 := free_of_one HV.1
         have q1 : (1 <= (ready.length : Int)) = True := eq_true (by omega)
         go_upto_region 40 with fail
         have hr7 : ∀ k, (Value.slice A1 (ready.length - 1) (cap - 1)).ownBlock = some k -> k ≠ br := fun k hk => by have := (hcut.lt k hk).1; omega
         have B7 := Az.mk (B3.1.setCell (show go <= (⟨br, 0, none⟩ : Addr).block from Nat.le_of_lt HGB.1) (.slice A1 (ready.length - 1) (cap - 1)))
         have O7 := Az.mk (blk_far O3.1 (p := ⟨br, 0, none⟩) (show go ≠ br from Nat.ne_of_lt HGB.1) (.slice A1 (ready.length - 1) (cap - 1)))
         have S7 := Az.mk (Kd.S_far (p := ⟨br, 0, none⟩) S3.1 (fun k hk => show k ≠ br from Nat.ne_of_lt hk.2) (.slice A1 (ready.length - 1) (cap - 1)))
         have R7 := Az.mk (show ReadyAt (W6.setCell ⟨br, 0, none⟩ (.slice A1 (ready.length - 1) (cap - 1))) br (ready.drop 1) from ⟨_, one_setCell HV.1, hcut.kept (fun k hk => Below.heap_setCell _ _ _ _ (hr7 k hk))⟩)
         have Z7 := Az.mk (show br + 1 <= (W6.setCell ⟨br, 0, none⟩ (.slice A1 (ready.length - 1) (cap - 1))).heap.size by simpa using Z3.1)
         have X7 := Az.mk (X3.1.kept (w1 := W6.setCell ⟨br, 0, none⟩ (.slice A1 (ready.length - 1) (cap - 1))) (fun k hk => Below.heap_setCell _ _ _ _ (show k ≠ br from fun e => by have := (X3.1.typed k hk).1; omega)))
         clear hr7 hcut hg1 hg2 hcp hc0 c1 f1 q1 hif B3 O3 S3 Z3 X3 HV HRA cb
         generalize W6.setCell ⟨br, 0, none⟩ (.slice A1 (ready.length - 1) (cap - 1)) = W7 at B7 O7 S7 R7 Z7 X7 ⊢
         have BW := Az.mk (show Below W1.heap.size W1 W7 by rw [HGO.1]; exact B7.1)
         have c1 := cell_of_one (blk_below V.1 BW.1)
         obtain ⟨cx0, cx1, cx2, cx3⟩ := cx
         obtain ⟨adm, cm, er, hcl, hfk, hcc, _⟩ := Kd.F_get MF.1 ([] : List Int) (rd ready 0) cx0 (by rw [<- HML.1]; exact cx1)
         cases er
         obtain ⟨Ar, cr, rfl, hlr, hF⟩ := Kd.FK_slice_open hfk
         have hFK := Az.mk hfk
         have hx := hcc 0 _ rfl
         have hx1 := (BW.1.cell (World.block_lt_of_cell? _ _ hx)).trans hx
         have ek : KS.sz = 1 := rfl
         have el : m.getD (rd ready 0).toNat [] = row m (rd ready 0) := rfl
         rw [ek, Nat.mul_one, Nat.add_zero] at hx1
         rw [el] at hx1 hFK
         rw [Addr.add_lit, Nat.zero_add] at hx1
         have q1 := eq_true cx0
         have q2 : (rd ready 0 < (n : Int)) = True := eq_true (by rw [<- HML.1]; exact cx1)
         have HCX := Az.mk (And.intro cx0 (And.intro cx1 (And.intro cx2 cx3)))
         clear cx0 cx1 cx2 cx3 ce
         clear hcc hcl hlr hF hx ek el hfk
         go_wp2_with ((with_reducible refine gate_builtin (b := .append) (xs := #[.tmp 130, .tmp 135]) rfl ?_); at_builtin; refine Kd.R_append (outK W1 (fun k => gm <= k)) (w0 := W7) (br + 1) rfl (.tmp 130) (.tmp 135) 47 55 (.slice none 0 0) 24 rfl Try.underlying47 info55 rfl Nat.zero_lt_one (by omega) (.slice Ao out.length co) out (row m (rd ready 0)) [.slice Ar (row m (rd ready 0)).length cr] (fun _ => True) (fun _ => False) rfl rfl hFK.1 (fun _ hk => hk.elim) (fun k hk => trivial) X7.1 (Below.refl _ _) Z7.1 ?hl ?_)
         (case hl => have := HCX.1.2.2.2; omega)
         intro v1 w9 ho hb hg hat
         obtain ⟨A9, q9c, rfl⟩ := Kd.R_slice ho
         have hty := X7.1.typed
         obtain ⟨vr7, hv7, hra7⟩ := R7.1
         have hroe := row_out_ne X7.1 hra7
         have B9 := Az.mk (B7.1.grown hg (by have := HGB.1; have := Z7.1; omega) (fun k hk => by have := (hty k hk).1; have := HGB.1; omega))
         have O9 := Az.mk (blk_grown O7.1 hg (fun e => by have := (hty go e.symm).1; have := HGB.1; omega))
         have S9 := Az.mk (Kd.S_grown S7.1 hg (fun k hk e => by have := (hty k e.symm).1; have := hk.2; omega))
         have R9 := Az.mk (show ReadyAt w9 br (ready.drop 1) from ⟨vr7, (hg.block br (blk_lt hv7) (fun e => by have := (hty br e.symm).1; omega)).trans hv7, hra7.kept (fun k hk => hg.block k (hra7.lt k hk).2.1 (hroe k hk))⟩)
         have Z9 := Az.mk (Nat.le_trans Z7.1 hg.size)
         have X9 := Az.mk ho
         clear ho hb hg hat hty hv7 hra7 hroe vr7 B7 O7 S7 R7 Z7 X7 BW hx1 c1 hFK
         have e9 : (out ++ [row m (rd ready 0)]).length = out.length + 1 := by simp
         rw [e9] at X9 ⊢
         clear e9
         obtain ⟨adu, cu, er, hcl, hfk, hcc, hrst⟩ := Kd.F_get (Kd.S_F S9.1) ([] : List Int) (rd ready 0) HCX.1.1 (by rw [<- HU1.1.2]; exact HCX.1.2.2.1)
         cases er
         obtain ⟨Au, cu, rfl, hlu, hF⟩ := Kd.FK_slice_open hfk
         have hx := hcc 0 _ rfl
         have ek : KS.sz = 1 := rfl
         have el : u1.users.getD (rd ready 0).toNat [] = row u1.users (rd ready 0) := rfl
         simp only [ek, Nat.mul_one, Nat.add_zero, Addr.add_lit, Nat.zero_add] at hx
         rw [el] at hx hF
         have F9 := Az.mk hF
         have HUL : Az ((row u1.users (rd ready 0)).length <= 9223372036854775807) := ⟨Kd.F_max hF⟩
         clear hcc hcl hlu hF hfk ek el hrst
         go_upto_region 41 with fail
         have hul := HUL.1
         go_wp2_with fail
         go_loopg [142] k6 (fun kq v142 w' => ∃ (i : Int) (opn3 ready3 : List Int), v142 = .int .i64 i /\ Az (0 <= i) /\ Az (opn3.length = n) /\ Az (dec kq m (row u1.users (rd ready 0)) i opn3 ready3 = some (opn2, ready2)) /\ Az (kq <= k6) /\ Az (Below go W1 w') /\ Az (w'.heap[go]? = some (arr opn3)) /\ Az (Kd.S KS 55 w' (go + 1) (fun k => go + 1 <= k /\ k < br) (.slice (some ⟨go + 1, 0, none⟩) n n) u1.users) /\ Az (Kd.F (Kd.int .i64) w' (fun k => go + 1 <= k /\ k < br) Au (row u1.users (rd ready 0)).length (row u1.users (rd ready 0))) /\ Az (ReadyAt w' br ready3) /\ Az (br + 1 <= w'.heap.size) /\ Az (OutR W1 gm w' (br + 1) (.slice A9 (out.length + 1) q9c) (out ++ [row m (rd ready 0)])))
         case atStart => exact ⟨0, _, _, rfl, ⟨by omega⟩, HLO, HDC, ⟨Nat.le_refl _⟩, B9, O9, S9, F9, R9, Z9, X9⟩
         case round => as_aux_lemma =>
          clear HDC B9 O9 S9 F9 R9 Z9 X9 hx q1 q2
          obtain ⟨i, opn3, ready3, rfl, HI, HLO3, HA, HK7, B3, O3, S3, F3, R3, Z3, X3⟩ := hrel
          obtain ⟨W8, rfl⟩ : ∃ W8 : World, W8 = wr := ⟨_, rfl⟩
          cases gk with
          | zero => exact absurd HA.1 (by simp [dec])
          | succ k7 =>
           have H := HA.1
           clear HA
           rw [dec] at H
           by_cases ci : i < (row u1.users (rd ready 0)).length
           rotate_left
           · as_aux_lemma =>
             rw [if_neg ci] at H
             obtain ⟨rfl, rfl⟩ := Prod.mk.inj (Option.some.inj H)
             have cb7 : decide (i < ((row u1.users (rd ready 0)).length : Int)) = false := decide_eq_false ci
             clear H
             go_wp2_with fail
             go_roundg k6
             case measure => omega
             case rel => exact ⟨_, _, _, H', ⟨by have := HK6.1; omega⟩, HLO3, B3, O3, S3, R3, Z3, X3⟩
           as_aux_lemma =>
           rw [if_pos ci] at H
           have hi0 := HI.1
           obtain ⟨ad4, e4, hx4⟩ := Kd.at_int (Kd.F_now F3.1) i hi0 ci
           subst e4
           generalize rd (row u1.users (rd ready 0)) i = d at H hx4
           by_cases cd : 0 <= d /\ d < opn3.length
           case neg => rw [if_neg cd] at H; cases H
           rw [if_pos cd] at H
           obtain ⟨cd0, cd1⟩ := cd
           have cb7 : decide (i < ((row u1.users (rd ready 0)).length : Int)) = true := decide_eq_true ci
           have q0 := eq_true hi0
           have q1 := eq_true cd0
           have q2 : (d < (n : Int)) = True := eq_true (by rw [<- HLO3.1]; exact cd1)
           have c1 := arr_cell O3.1 d cd0 cd1
           have f1 := arr_free O3.1 d.toNat
           have HH := Az.mk H
           clear H
           go_upto_region 45 with fail
           have B10 := Az.mk (B3.1.setCell (show go <= (⟨go, d.toNat, none⟩ : Addr).block from Nat.le_refl go) (.int .i64 (wrap64 (rd opn3 d - 1))))
           have O10 := Az.mk (show (W8.setCell ⟨go, d.toNat, none⟩ (.int .i64 (wrap64 (rd opn3 d - 1)))).heap[go]? = some (arr (opn3.set d.toNat (wrap64 (rd opn3 d - 1)))) from by unfold arr; rw [<- nums_set]; exact blk_set O3.1 d.toNat _)
           have S10 := Az.mk (Kd.S_far (p := ⟨go, d.toNat, none⟩) S3.1 (fun k hk => by have := hk.1; show k ≠ go; omega) (.int .i64 (wrap64 (rd opn3 d - 1))))
           have F10 := Az.mk (Kd.F_far (p := ⟨go, d.toNat, none⟩) F3.1 (fun k hk => by have := hk.1; show k ≠ go; omega) (.int .i64 (wrap64 (rd opn3 d - 1))))
           have R10 := Az.mk (R3.1.kept (w1 := W8.setCell ⟨go, d.toNat, none⟩ (.int .i64 (wrap64 (rd opn3 d - 1)))) (fun k hk hlt => Below.heap_setCell _ _ _ _ (show k ≠ go by have := HGB.1; omega)))
           have Z10 := Az.mk (show br + 1 <= (W8.setCell ⟨go, d.toNat, none⟩ (.int .i64 (wrap64 (rd opn3 d - 1)))).heap.size by simpa using Z3.1)
           have X10 := Az.mk (X3.1.kept (w1 := W8.setCell ⟨go, d.toNat, none⟩ (.int .i64 (wrap64 (rd opn3 d - 1)))) (fun k hk => Below.heap_setCell _ _ _ _ (show k ≠ go from fun e => by have := (X3.1.typed k hk).1; have := HGB.1; omega)))
           have L10 : Az ((opn3.set d.toNat (wrap64 (rd opn3 d - 1))).length = n) := ⟨by rw [List.length_set]; exact HLO3.1⟩
           clear B3 O3 S3 F3 R3 Z3 X3 c1 f1 hx4 HLO3
           generalize W8.setCell ⟨go, d.toNat, none⟩ (.int .i64 (wrap64 (rd opn3 d - 1))) = W10 at B10 O10 S10 F10 R10 Z10 X10 ⊢
           generalize (opn3.set d.toNat (wrap64 (rd opn3 d - 1))) = opn4 at HH O10 L10
           clear cd1
           have c1 := arr_cell O10.1 d cd0 (by rw [L10.1]; exact of_eq_true q2)
           by_cases cz : rd opn4 d = 0
           rotate_left
           · as_aux_lemma =>
             have H := HH.1
             clear HH
             rw [if_neg cz] at H
             have H3 := Az.mk H
             have cz1 : (rd opn4 d == 0) = false := beq_eq_false_iff_ne.2 cz
             clear cz H
             go_wp2_with fail
             go_roundg k7
             case measure => omega
             case rel => exact ⟨i + 1, _, _, rfl, ⟨by have := HI.1; omega⟩, L10, H3, ⟨by have := HK7.1; omega⟩, B10, O10, S10, F10, R10, Z10, X10⟩
           as_aux_lemma =>
           have H := HH.1
           clear HH
           rw [if_pos cz] at H
           obtain ⟨ready4, hent, H⟩ := Option.bind_eq_some_iff.1 H
           have H3 := Az.mk H
           have HE := Az.mk hent
           have cz1 : (rd opn4 d == 0) = true := beq_iff_eq.2 cz
           clear cz H hent
           obtain ⟨vr, hv, hra⟩ := R10.1
           have HRA := Az.mk hra
           have hB4 : Below W1.heap.size W1 W10 := by rw [HGO.1]; exact B10.1
           have ENT := Az.mk (enter_calls W1 W10 (gm + 1) br m d (br + 1) vr ready3 ready4 M.1 hB4 (by have := HGB.1; omega) (by have := HGB.1; omega) Z10.1 hv hra HE.1)
           clear hv hra hB4
           go_wp2_with (go_at_call 51; refine ENT.1.mono ?_; clear ENT c1; intro e w9 hen; obtain ⟨rfl, e1, e2, e3, e4, e5⟩ := hen.keeps HRA.1; rw [HGO.1] at e1; have E1 := Az.mk e1; have E2 := Az.mk e2; have E3 := Az.mk e3; have E4 := Az.mk e4; have E5 := Az.mk e5; clear e1 e2 e3 e4 e5 hen)
           have O12 := Az.mk ((E4.1 go HGB.1 (blk_lt O10.1)).trans O10.1)
           have S12 := Az.mk (Kd.S_step S10.1 (fun k hk hlt => E4.1 k hk.2 hlt))
           have F12 := Az.mk (Kd.F_step F10.1 (fun k hk hlt => E4.1 k hk.2 hlt))
           have X12 := Az.mk (X10.1.kept (fun k hk => by obtain ⟨x1, x2, cells, x3⟩ := X10.1.typed k hk; exact E5.1 k 55 cells (by omega) x3 (by decide)))
           go_roundg k7
           case measure => omega
           case rel => exact ⟨i + 1, _, _, rfl, ⟨by have := HI.1; omega⟩, L10, H3, ⟨by have := HK7.1; omega⟩, E1, O12, S12, F12, E3, ⟨by have := Z10.1; have := E2.1; omega⟩, X12⟩
end Od
end Go.Proofs.Ytmadhaccjmakdaa
namespace Go.Proofs.Ytmadhaccjmakdaa
open Go.RowKit Go.Proofs.Yw.A Go.Proofs.Yw.B Go.Proofs.Yw.C Go.Proofs.Ytmadhaccjmakdaa.P
namespace Od
noncomputable def lim {α : Type} (F : Nat -> Option α) : Option α :=
  open Classical in if h : ∃ (r : α) (k0 : Nat), ∀ k, k0 <= k -> F k = some r then some h.choose else none
theorem lim_of {α : Type} {F : Nat -> Option α} {r : α} {k0 : Nat} (h : ∀ k, k0 <= k -> F k = some r) : lim F = some r := by
  have hx : ∃ (r : α) (k0 : Nat), ∀ k, k0 <= k -> F k = some r := ⟨r, k0, h⟩
  unfold lim
  rw [dif_pos hx]
  obtain ⟨k1, h1⟩ := hx.choose_spec
  have e1 := h1 (max k0 k1) (by omega)
  rw [h _ (by omega)] at e1
  exact e1.symm
theorem lim_some {α : Type} {F : Nat -> Option α} {r : α} (h : lim F = some r) : ∃ k0, ∀ k, k0 <= k -> F k = some r := by
  unfold lim at h
  split at h
  · rename_i hx
    obtain rfl := Option.some.inj h
    exact hx.choose_spec
  · cases h
end Od
namespace P
noncomputable def g_ordered.f (l : List (List Int)) : Option (List (List Int)) := Od.lim fun k => Od.orderedF k l
theorem g_ordered.calls (A0 : Option Addr) (c0 : Nat) (l0 : List (List Int)) (r : List (List Int)) (w : World) (hr0 : Kd.C (Kd.slice 3 (Kd.int .i64)) w A0 l0.length l0) (hc0 : l0.length <= c0) (h : g_ordered.f l0 = some r) :
    Calls Try.prog 40 #[.slice A0 l0.length c0] w fun e w' => ∃ v0_, e = .returned v0_ /\ Kd.V (Kd.slice 3 (Kd.int .i64)) 55 w' w.heap.size (fun k_ => w.heap.size <= k_) v0_ r /\ Below w.heap.size w w' := by
  obtain ⟨k0, h0⟩ := Od.lim_some h
  exact Od.ordered_calls k0 A0 c0 l0 r w hr0 hc0 (h0 k0 (Nat.le_refl _))
end P
end Go.Proofs.Ytmadhaccjmakdaa
namespace Go.Proofs.Ytmadhaccjmakdaa.P
open Go.RowKit Go.Proofs.Yw.A Go.Proofs.Yw.A.Kd Go.Proofs.Yw.B Go.Proofs.Yw.C
attribute [local go_sem] str_gtr str_leq str_geq max2_int min2_int max_two min_two max_three min_three max_four min_four
mutual
noncomputable def g_valid.l0 : Nat -> List (List Int) -> Int -> Int -> List (List Int) -> Option (Bool)
 | 0, _, _, _, _ => none
 | k + 1, x8, x9, x10, x164000 => if x10 < x9 then (if 0 <= x10 then (if x10 < (x8.length : Int) then (g_valid.l1 k x8 x9 x10 (rd_L11 x8 x10) ((rd_L11 x8 x10).length : Int) 0 x164000) else (none)) else (none)) else (some true)
noncomputable def g_valid.l1 : Nat -> List (List Int) -> Int -> Int -> List Int -> Int -> Int -> List (List Int) -> Option (Bool)
 | 0, _, _, _, _, _, _, _ => none
 | k + 1, x8, x9, x10, x14, x15, x16, x164000 => if x16 < x15 then (if 0 <= x16 then (if x16 < (x14.length : Int) then (if (rd x14 x16) < 0 then (some false) else (if (rd x14 x16) >= (x164000.length : Int) then (some false) else (g_valid.l1 k x8 x9 x10 x14 x15 (wrap64 (x16 + 1)) x164000))) else (none)) else (none)) else (g_valid.l0 k x8 x9 (wrap64 (x10 + 1)) x164000)
end
noncomputable def g_valid.f (k : Nat) (l0_0 : List (List Int)) : Option (Bool) := g_valid.l0 k l0_0 (l0_0.length : Int) 0 l0_0
theorem g_valid.calls (k : Nat) (A0_0 : Option Addr) (c0_0 : Nat) (l0_0 : List (List Int)) (r : Bool) (w : World) (hr0_0 : Kd.C (Kd.slice 3 (Kd.int .i64)) w A0_0 l0_0.length l0_0) (hc0_0 : l0_0.length <= c0_0) (h : g_valid.f k l0_0 = some r) :
 Calls Try.prog 39 #[.agg #[.slice A0_0 l0_0.length c0_0]] w fun e w' => e = .returned (.bool r) /\ Below w.heap.size w w' := by
 have hu49 := Try.underlying49
 have HR0_0 := aM hr0_0
 have HC0_0 := aM hc0_0
 clear hr0_0 hc0_0
 have HB := aM (Below.refl w.heap.size w)
 have H : (g_valid.l0 k l0_0 (l0_0.length : Int) 0 l0_0) = some r := h
 clear h
 have H' := aM H
 clear H
 go_enter Try.func39, Try.ntmps39
 go_wp2_with (first | ((with_reducible refine gate_dst (N := 1) rfl ?_); (try (refine gate_guard (by rfl) ?_; dsimp only)); refine be 1 rfl rfl #[.slice A0_0 l0_0.length c0_0] 49 ?_; intro gb163 hg w2 hbox hb; have BK163 := aM hbox; have GE163 := gs hg HB; replace HB := bs HB hb; clear hb hbox hg; have hcz3_0 : w2.cell? ⟨gb163, 0, none⟩ = some (.slice A0_0 l0_0.length c0_0) := (blk_cell BK163.1 0).trans rfl; have hfz3_0 := blk_frozen BK163.1 0))
 go_loopg [10] k (fun kq v10 w' => ∃ (x10_1 : Int), v10 = .int .i64 x10_1 /\ Az (g_valid.l0 kq l0_0 (l0_0.length : Int) x10_1 l0_0 = some r) /\ Az (kq <= k) /\ Az (w'.heap[gb163]? = some (.cells #[(.slice A0_0 l0_0.length c0_0)] 49 (0, 0))) /\ Az (Below w.heap.size w w'))
 case atStart => exact ⟨(0), rr, H', ⟨Nat.le_refl _⟩, ⟨kk BK163⟩, ⟨hh HB⟩⟩
 case round =>
  clear H'
  clear hcz3_0 hfz3_0
  obtain ⟨x10_1, rfl, HA, HK1, BK163, HB⟩ := hrel
  cases gk with
  | zero => exact absurd HA.1 (by simp [g_valid.l0])
  | succ k1 =>
   have H := HA.1
   clear HA
   simp only [g_valid.l0] at H
   by_cases c4 : x10_1 < (l0_0.length : Int)
   rotate_left
   · rw [if_neg c4] at H
     have c4b0 : decide (x10_1 < (l0_0.length : Int)) = false := decide_eq_false c4
     clear c4
     obtain rfl := Option.some.inj H
     go_wp2
     go_ret
     exact ⟨by first | rfl | (simp [errW_none, errW_some] <;> rfl) | (simp [*, errW_none, errW_some] <;> rfl), hh HB⟩
   rw [if_pos c4] at H
   have c4b0 : decide (x10_1 < (l0_0.length : Int)) = true := decide_eq_true c4
   clear c4
   by_cases c5 : 0 <= x10_1
   rotate_left
   · rw [if_neg c5] at H
     exact absurd H (by simp)
   rw [if_pos c5] at H
   have c5b0 : decide (0 <= x10_1) = true := decide_eq_true c5
   clear c5
   by_cases c6 : x10_1 < (l0_0.length : Int)
   rotate_left
   · rw [if_neg c6] at H
     exact absurd H (by simp)
   rw [if_pos c6] at H
   have c6b0 : decide (x10_1 < (l0_0.length : Int)) = true := decide_eq_true c6
   clear c6
   have H' := aM H
   clear H
   have p164 : 0 <= (x10_1 : Int) := dt
   have q164 : x10_1 < (l0_0.length : Int) := dt
   obtain ⟨ad164, A164_0, c164_0, e164, hx164_0, hl164_0, hi164_0⟩ := at_L11 HR0_0.1 x10_1 p164 q164
   cases e164
   replace hx164_0 := hx HB hx164_0
   have HR164_0 := aM hi164_0
   have HC164_0 := aM hl164_0
   clear hi164_0 hl164_0
   replace p164 := eq_true p164
   replace q164 := eq_true q164
   go_wp2
   go_loopg [16] k1 (fun kq v16 w' => ∃ (x16_2 : Int), v16 = .int .i64 x16_2 /\ Az (g_valid.l1 kq l0_0 (l0_0.length : Int) x10_1 (rd_L11 l0_0 x10_1) ((rd_L11 l0_0 x10_1).length : Int) x16_2 l0_0 = some r) /\ Az (kq <= k1) /\ Az (w'.heap[gb163]? = some (.cells #[(.slice (some ad164) l0_0.length c0_0)] 49 (0, 0))) /\ Az (Below w.heap.size w w'))
   case atStart => exact ⟨(0), rr, H', ⟨Nat.le_refl _⟩, ⟨kk BK163⟩, ⟨hh HB⟩⟩
   case round =>
    clear H'
    clear c4b0 c5b0 c6b0 hx164_0 p164 q164
    obtain ⟨x16_2, rfl, HA, HK2, BK163, HB⟩ := hrel
    cases gk with
    | zero => exact absurd HA.1 (by simp [g_valid.l1])
    | succ k2 =>
     have H := HA.1
     clear HA
     simp only [g_valid.l1] at H
     by_cases c7 : x16_2 < ((rd_L11 l0_0 x10_1).length : Int)
     rotate_left
     · rw [if_neg c7] at H
       have c7b0 : decide (x16_2 < ((rd_L11 l0_0 x10_1).length : Int)) = false := decide_eq_false c7
       clear c7
       have H' := aM H
       clear H
       go_wp2
       go_roundg k2
       case measure => have := HK1.1; have := HK2.1; omega
       case rel => exact ⟨(wrap64 (x10_1 + 1)), rr, H', ⟨by have := HK1.1; have := HK2.1; omega⟩, ⟨kk BK163⟩, ⟨hh HB⟩⟩
     rw [if_pos c7] at H
     have c7b0 : decide (x16_2 < ((rd_L11 l0_0 x10_1).length : Int)) = true := decide_eq_true c7
     clear c7
     by_cases c8 : 0 <= x16_2
     rotate_left
     · rw [if_neg c8] at H
       exact absurd H (by simp)
     rw [if_pos c8] at H
     have c8b0 : decide (0 <= x16_2) = true := decide_eq_true c8
     clear c8
     by_cases c9 : x16_2 < ((rd_L11 l0_0 x10_1).length : Int)
     rotate_left
     · rw [if_neg c9] at H
       exact absurd H (by simp)
     rw [if_pos c9] at H
     have c9b0 : decide (x16_2 < ((rd_L11 l0_0 x10_1).length : Int)) = true := decide_eq_true c9
     clear c9
     by_cases c10 : (rd (rd_L11 l0_0 x10_1) x16_2) < 0
     · rw [if_pos c10] at H
       have c10b0 : decide ((rd (rd_L11 l0_0 x10_1) x16_2) < 0) = true := decide_eq_true c10
       clear c10
       obtain rfl := Option.some.inj H
       have p165 : 0 <= (x16_2 : Int) := dt
       have q165 : x16_2 < ((rd_L11 l0_0 x10_1).length : Int) := dt
       obtain ⟨ad165, e165, hx165_0⟩ := Kd.at_int HR164_0.1 x16_2 p165 q165
       cases e165
       replace hx165_0 := hx HB hx165_0
       replace p165 := eq_true p165
       replace q165 := eq_true q165
       go_wp2
       go_ret
       exact ⟨by first | rfl | (simp [errW_none, errW_some] <;> rfl) | (simp [*, errW_none, errW_some] <;> rfl), hh HB⟩
     rw [if_neg c10] at H
     have c10b0 : decide ((rd (rd_L11 l0_0 x10_1) x16_2) < 0) = false := decide_eq_false c10
     clear c10
     by_cases c11 : (rd (rd_L11 l0_0 x10_1) x16_2) >= (l0_0.length : Int)
     · rw [if_pos c11] at H
       have c11b0 : decide ((l0_0.length : Int) <= (rd (rd_L11 l0_0 x10_1) x16_2)) = true := decide_eq_true c11
       clear c11
       obtain rfl := Option.some.inj H
       have p165 : 0 <= (x16_2 : Int) := dt
       have q165 : x16_2 < ((rd_L11 l0_0 x10_1).length : Int) := dt
       obtain ⟨ad165, e165, hx165_0⟩ := Kd.at_int HR164_0.1 x16_2 p165 q165
       cases e165
       replace hx165_0 := hx HB hx165_0
       replace p165 := eq_true p165
       replace q165 := eq_true q165
       have hcz12_0 : wr.cell? ⟨gb163, 0, none⟩ = some (.slice (some ad164) l0_0.length c0_0) := (blk_cell BK163.1 0).trans rfl
       have hfz12_0 := blk_frozen BK163.1 0
       go_wp2
       go_ret
       exact ⟨by first | rfl | (simp [errW_none, errW_some] <;> rfl) | (simp [*, errW_none, errW_some] <;> rfl), hh HB⟩
     rw [if_neg c11] at H
     have c11b0 : decide ((l0_0.length : Int) <= (rd (rd_L11 l0_0 x10_1) x16_2)) = false := decide_eq_false c11
     clear c11
     have H' := aM H
     clear H
     have p165 : 0 <= (x16_2 : Int) := dt
     have q165 : x16_2 < ((rd_L11 l0_0 x10_1).length : Int) := dt
     obtain ⟨ad165, e165, hx165_0⟩ := Kd.at_int HR164_0.1 x16_2 p165 q165
     cases e165
     replace hx165_0 := hx HB hx165_0
     replace p165 := eq_true p165
     replace q165 := eq_true q165
     have hcz13_0 : wr.cell? ⟨gb163, 0, none⟩ = some (.slice (some ad164) l0_0.length c0_0) := (blk_cell BK163.1 0).trans rfl
     have hfz13_0 := blk_frozen BK163.1 0
     go_wp2
     go_roundg k2
     case measure => have := HK1.1; have := HK2.1; omega
     case rel => exact ⟨(wrap64 (x16_2 + 1)), rr, H', ⟨by have := HK1.1; have := HK2.1; omega⟩, ⟨kk BK163⟩, ⟨hh HB⟩⟩
end Go.Proofs.Ytmadhaccjmakdaa.P
namespace Go.Proofs.Ytmadhaccjmakdaa
open Go.RowKit Go.Proofs.Yw.A Go.Proofs.Yw.B Go.Proofs.Yw.C Go.Proofs.Ytmadhaccjmakdaa.P
namespace Lv
open Tj Rw Od
def lv1 : Nat -> Int -> List Int -> Int -> List Int -> Option (List Int)
 | 0, _, _, _, _ => none
 | k + 1, v, l, i, lv =>
  if i < l.length then
   if 0 <= rd l i /\ rd l i < lv.length then lv1 k v l (i + 1) (lv.set v.toNat (max (rd lv v) (wrap64 (rd lv (rd l i) + 1)))) else none
  else some lv
def lv0 : Nat -> List (List Int) -> List (List Int) -> Int -> List Int -> Int -> Option (Option (List Int × Int))
 | 0, _, _, _, _, _ => none
 | k + 1, es, comps, i, lv, top =>
  if i < comps.length then
   if 0 < (row comps i).length /\ 0 <= rd (row comps i) 0 /\ rd (row comps i) 0 < es.length then
    if 1 < (row comps i).length \/ (row es (rd (row comps i) 0)).contains (rd (row comps i) 0) = true then some none
    else (lv1 k (rd (row comps i) 0) (row es (rd (row comps i) 0)) 0 lv).bind fun lv2 => lv0 k es comps (i + 1) lv2 (max top (rd lv2 (rd (row comps i) 0)))
   else none
  else some (some (lv, top))
def lv3 : Nat -> List Int -> Int -> List (List Int) -> Option (List (List Int))
 | 0, _, _, _ => none
 | k + 1, lv, i, out =>
  if i < lv.length then
   if 0 <= rd lv i /\ rd lv i < out.length /\ (row out (rd lv i)).length < 17592186044415 then lv3 k lv (i + 1) (app out (rd lv i) i) else none
  else some out
noncomputable def levelsF (k : Nat) (es : List (List Int)) : Option (List (List Int) × Int) :=
 (g_valid.f k es).bind fun b =>
  if b = true then
   (g_ordered.f es).bind fun comps =>
    if es.length < 17592186044416 then
     (lv0 k es comps 0 (List.replicate es.length 0) (-1)).bind fun o =>
      match o with
      | none => some ([], 18)
      | some (lv, top) => if 0 <= wrap64 (top + 1) /\ wrap64 (top + 1) < 5864062014805 then (lv3 k lv 0 (List.replicate (wrap64 (top + 1)).toNat [])).map fun out => (out, 0) else none
    else none
  else some ([], 1)
end Lv
end Go.Proofs.Ytmadhaccjmakdaa
namespace Go.Proofs.Ytmadhaccjmakdaa.P
open Go.RowKit Go.Proofs.Yw.A Go.Proofs.Yw.A.Kd Go.Proofs.Yw.B Go.Proofs.Yw.C
attribute [local go_sem] str_gtr str_leq str_geq max2_int min2_int max_two min_two max_three min_three max_four min_four
noncomputable def slices_Index_int_int.l0 : Nat -> List Int -> Int -> Int -> Int -> Option (Int)
 | 0, _, _, _, _ => none
 | k + 1, x0, x1, x7, x8 => if x8 < x7 then (if 0 <= x8 then (if x8 < (x0.length : Int) then (if x1 = (rd x0 x8) then (some x8) else (slices_Index_int_int.l0 k x0 x1 x7 (wrap64 (x8 + 1)))) else (none)) else (none)) else (some (-1))
noncomputable def slices_Index_int_int.f (k : Nat) (l0 : List Int) (a1 : Int) : Option (Int) := slices_Index_int_int.l0 k l0 a1 (l0.length : Int) 0
theorem slices_Index_int_int.calls (k : Nat) (A0 : Option Addr) (c0 : Nat) (l0 : List Int) (a1 : Int) (r : Int) (w : World) (hr0 : Kd.C (Kd.int .i64) w A0 l0.length l0) (hc0 : l0.length <= c0) (h : slices_Index_int_int.f k l0 a1 = some r) :
 Calls Try.prog 55 #[.slice A0 l0.length c0, .int .i64 a1] w fun e w' => e = .returned (.int .i64 r) /\ Drawn0 w w' := by
 have HR0 := aM hr0
 have HC0 := aM hc0
 clear hr0 hc0
 have H : (slices_Index_int_int.l0 k l0 a1 (l0.length : Int) 0) = some r := h
 clear h
 have H' := aM H
 clear H
 go_enter Try.func55, Try.ntmps55
 go_wp2
 go_loopg [8] k (fun kq v8 w' => ∃ (x8_1 : Int), v8 = .int .i64 x8_1 /\ Az (slices_Index_int_int.l0 kq l0 a1 (l0.length : Int) x8_1 = some r) /\ Az (kq <= k) /\ Drawn0 w w')
 case atStart => exact ⟨(0), rr, H', ⟨Nat.le_refl _⟩, by repeat (first | exact Drawn0.refl _ | apply Drawn0.step)⟩
 case round =>
  clear H'
  obtain ⟨x8_1, rfl, HA, HK1, ⟨m1, rfl⟩⟩ := hrel
  cases gk with
  | zero => exact absurd HA.1 (by simp [slices_Index_int_int.l0])
  | succ k1 =>
   have H := HA.1
   clear HA
   simp only [slices_Index_int_int.l0] at H
   by_cases c3 : x8_1 < (l0.length : Int)
   rotate_left
   · rw [if_neg c3] at H
     have c3b0 : decide (x8_1 < (l0.length : Int)) = false := decide_eq_false c3
     clear c3
     obtain rfl := Option.some.inj H
     go_wp2
     go_ret
     exact ⟨by first | rfl | (simp; done) | (simp [*]; done), by repeat (first | exact Drawn0.refl _ | apply Drawn0.step)⟩
   rw [if_pos c3] at H
   have c3b0 : decide (x8_1 < (l0.length : Int)) = true := decide_eq_true c3
   clear c3
   by_cases c4 : 0 <= x8_1
   rotate_left
   · rw [if_neg c4] at H
     exact absurd H (by simp)
   rw [if_pos c4] at H
   have c4b0 : decide (0 <= x8_1) = true := decide_eq_true c4
   clear c4
   by_cases c5 : x8_1 < (l0.length : Int)
   rotate_left
   · rw [if_neg c5] at H
     exact absurd H (by simp)
   rw [if_pos c5] at H
   have c5b0 : decide (x8_1 < (l0.length : Int)) = true := decide_eq_true c5
   clear c5
   by_cases c6 : a1 = (rd l0 x8_1)
   · rw [if_pos c6] at H
     have c6b0 : (a1 == (rd l0 x8_1)) = true := beq_iff_eq.mpr c6
     have c6b1 : (a1 != (rd l0 x8_1)) = false := bne_eq_false_iff_eq.mpr c6
     clear c6
     obtain rfl := Option.some.inj H
     have p200 : 0 <= (x8_1 : Int) := dt
     have q200 : x8_1 < (l0.length : Int) := dt
     obtain ⟨ad200, e200, hx200_0⟩ := Kd.at_int HR0.1 x8_1 p200 q200
     cases e200
     replace p200 := eq_true p200
     replace q200 := eq_true q200
     go_wp2
     go_ret
     exact ⟨by first | rfl | (simp; done) | (simp [*]; done), by repeat (first | exact Drawn0.refl _ | apply Drawn0.step)⟩
   rw [if_neg c6] at H
   have c6b0 : (a1 == (rd l0 x8_1)) = false := beq_eq_false_iff_ne.mpr c6
   have c6b1 : (a1 != (rd l0 x8_1)) = true := bne_iff_ne.mpr c6
   have H' := aM H
   clear H
   have p200 : 0 <= (x8_1 : Int) := dt
   have q200 : x8_1 < (l0.length : Int) := dt
   obtain ⟨ad200, e200, hx200_0⟩ := Kd.at_int HR0.1 x8_1 p200 q200
   cases e200
   replace p200 := eq_true p200
   replace q200 := eq_true q200
   go_wp2
   go_roundg k1
   case measure => have := HK1.1; omega
   case rel => exact ⟨(wrap64 (x8_1 + 1)), rr, H', ⟨by have := HK1.1; omega⟩, by repeat (first | exact Drawn0.refl _ | apply Drawn0.step)⟩
noncomputable def slices_Contains_int_int.f (k : Nat) (l0 : List Int) (a1 : Int) : Option (Bool) := (slices_Index_int_int.f k l0 a1).bind fun t201 => (some (decide (t201 >= 0)))
theorem slices_Contains_int_int.calls (k : Nat) (A0 : Option Addr) (c0 : Nat) (l0 : List Int) (a1 : Int) (r : Bool) (w : World) (hr0 : Kd.C (Kd.int .i64) w A0 l0.length l0) (hc0 : l0.length <= c0) (h : slices_Contains_int_int.f k l0 a1 = some r) :
 Calls Try.prog 41 #[.slice A0 l0.length c0, .int .i64 a1] w fun e w' => e = .returned (.bool r) /\ Drawn0 w w' := by
 have HR0 := aM hr0
 have HC0 := aM hc0
 clear hr0 hc0
 have H : ((slices_Index_int_int.f k l0 a1).bind fun t201 => (some (decide (t201 >= 0)))) = some r := h
 clear h
 replace H := Option.bind_eq_some_iff.mp H
 obtain ⟨t201, A30, H⟩ := H
 try dsimp only at H
 have A3 := aM A30
 clear A30
 obtain rfl := Option.some.inj H
 go_enter Try.func41, Try.ntmps41
 go_wp2_with (first | ((with_reducible refine gate_callee (f := 55) rfl ?_); refine gL (some 7) rfl rfl Try.func55 (by kernel_rfl) rfl #[.slice A0 l0.length c0, .int .i64 a1] rfl ?_; (with_reducible refine (slices_Index_int_int.calls k _ _ l0 a1 t201 _ ?side1 ?side2 A3.1).mono ?_); (case side1 => exact ck HR0); (case side2 => exact HC0.1); rintro e w' ⟨rfl, ⟨nd, rfl⟩⟩; refine ⟨_, rfl, ?_⟩))
 go_ret
 exact ⟨by first | rfl | (simp; done) | (simp [*]; done), by repeat (first | exact Drawn0.refl _ | apply Drawn0.step)⟩
end Go.Proofs.Ytmadhaccjmakdaa.P
namespace Go.Proofs.Ytmadhaccjmakdaa
open Go.RowKit Go.Proofs.Yw.A Go.Proofs.Yw.B Go.Proofs.Yw.C Go.Proofs.Ytmadhaccjmakdaa.P
namespace Lv
open Tj Rw Od
theorem wrap_small (x : Int) (h0 : -9223372036854775808 <= x) (h1 : x < 9223372036854775808) : wrap64 x = x := by
 unfold wrap64
 omega
theorem index_run (l : List Int) (a : Int) (hl : l.length <= 9223372036854775807) : ∀ (m : Nat) (i : Nat), i + m = l.length -> (l.take i).contains a = false -> ∃ r : Int, slices_Index_int_int.l0 (m + 1) l a l.length i = some r /\ (decide (r >= 0)) = l.contains a := by
 intro m
 induction m with
 | zero =>
  intro i hi hc
  have : i = l.length := by omega
  subst this
  rw [List.take_length] at hc
  refine ⟨-1, ?_, by rw [hc]; decide⟩
  unfold slices_Index_int_int.l0
  rw [if_neg (by omega)]
 | succ m ih =>
  intro i hi hc
  unfold slices_Index_int_int.l0
  rw [if_pos (by omega), if_pos (by omega), if_pos (by omega)]
  have hil : i < l.length := by omega
  have hrd : rd l (i : Int) = l[i] := by
   show l.getD (i : Int).toNat 0 = l[i]
   rw [Int.toNat_natCast, List.getD_eq_getElem?_getD, List.getElem?_eq_getElem hil]
   rfl
  rw [hrd]
  by_cases he : a = l[i]
  · rw [if_pos he]
    refine ⟨i, rfl, ?_⟩
    have h1 : l.contains a = true := by
     rw [List.contains_iff_mem, he]
     exact List.getElem_mem hil
    rw [h1]
    exact decide_eq_true (by omega)
  rw [if_neg he]
  have hw : wrap64 ((i : Int) + 1) = ((i + 1 : Nat) : Int) := by
   rw [wrap_small _ (by omega) (by omega)]
   omega
  rw [hw]
  refine ih (i + 1) (by omega) ?_
  rw [List.take_succ_eq_append_getElem hil, List.contains_append, hc]
  simp [he]
theorem contains_run (l : List Int) (a : Int) (hl : l.length <= 9223372036854775807) : slices_Contains_int_int.f (l.length + 1) l a = some (l.contains a) := by
 obtain ⟨r, h1, h2⟩ := index_run l a hl l.length 0 (by omega) rfl
 unfold slices_Contains_int_int.f slices_Index_int_int.f
 rw [show ((0 : Int)) = ((0 : Nat) : Int) from rfl, h1]
 show some (decide (r >= 0)) = _
 rw [h2]
theorem levels_calls (k : Nat) (A : Option Addr) (c : Nat) (es : List (List Int)) (r1 : List (List Int)) (r2 : Int) (w : World) (hr : Kd.C KS w A es.length es) (hc : es.length <= c) (h : levelsF k es = some (r1, r2)) :
 Calls Try.prog 30 #[.agg #[.slice A es.length c]] w fun e w' => ∃ v, e = .returned (.tuple #[v, .int .i64 r2]) /\ Kd.S KS 55 w' w.heap.size (fun _ => True) v r1 /\ Below w.heap.size w w' := by
 have hu24 := Try.underlying49
 unfold levelsF at h
 obtain ⟨b, hb, h⟩ := Option.bind_eq_some_iff.1 h
 have HR := Az.mk hr
 have HC := Az.mk hc
 clear hr hc
 cases b with
 | false =>
  have HVA := Az.mk hb
  rw [if_neg (by decide)] at h
  obtain ⟨rfl, rfl⟩ := Prod.mk.inj (Option.some.inj h)
  clear hb h
  go_enter Try.func30, Try.ntmps30
  go_wp2_with (first | ((with_reducible refine gate_dst (N := 1) rfl ?_); refine box_event ?hg (N := 1) ?hd (cs := #[.slice A es.length c]) (t := 49) ?hr ?_; (case hd => rfl); (case hg => rfl); (case hr => first | (go_simp; done) | (go_simp; rfl)); intro gb hg w5 hbox hb; have B5 := Az.mk (below_step (Below.refl w.heap.size w) hb); have K5 := Az.mk hbox; have GE : Az (w.heap.size <= gb) := Az.mk (by rw [hg]; exact Nat.le_refl _); have hcz : w5.cell? ⟨gb, 0, none⟩ = some (.slice A es.length c) := (blk_cell K5.1 0).trans rfl; clear hb hbox hg) | (go_at_call 39; refine (g_valid.calls k A c es false _ (Kd.C_below HR.1 B5.1) HC.1 HVA.1).mono ?_; rintro e w7 ⟨rfl, hb7⟩; have B7 := Az.mk (below_step B5.1 hb7); have K7 := Az.mk (blk_below K5.1 hb7); clear hb7 hcz B5 K5; have hcz : w7.cell? ⟨gb, 0, none⟩ = some (.slice A es.length c) := (blk_cell K7.1 0).trans rfl) | fail)
  go_ret2
  exact ⟨_, rfl, Kd.S_nil _ _ _ _ _, B7.1⟩
 | true =>
  have HVA := Az.mk hb
  rw [if_pos rfl] at h
  obtain ⟨comps, ho, h⟩ := Option.bind_eq_some_iff.1 h
  have HO := Az.mk ho
  by_cases hL : es.length < 17592186044416
  case neg => rw [if_neg hL] at h; cases h
  rw [if_pos hL] at h
  obtain ⟨o, hlv, h⟩ := Option.bind_eq_some_iff.1 h
  have HLV := Az.mk hlv
  have HH := Az.mk h
  have HLL := Az.mk hL
  clear hb ho h hlv hL
  go_enter Try.func30, Try.ntmps30
  go_upto_region 4 with (first | ((with_reducible refine gate_dst (N := 1) rfl ?_); refine box_event ?hg (N := 1) ?hd (cs := #[.slice A es.length c]) (t := 49) ?hr ?_; (case hd => rfl); (case hg => rfl); (case hr => first | (go_simp; done) | (go_simp; rfl)); intro gb hg w5 hbox hb; have B5 := Az.mk (below_step (Below.refl w.heap.size w) hb); have K5 := Az.mk hbox; have GE : Az (w.heap.size <= gb) := Az.mk (by rw [hg]; exact Nat.le_refl _); have hcz : w5.cell? ⟨gb, 0, none⟩ = some (.slice A es.length c) := (blk_cell K5.1 0).trans rfl; clear hb hbox hg) | (go_at_call 39; refine (g_valid.calls k A c es true _ (Kd.C_below HR.1 B5.1) HC.1 HVA.1).mono ?_; rintro e w7 ⟨rfl, hb7⟩; have B7 := Az.mk (below_step B5.1 hb7); have K7 := Az.mk (blk_below K5.1 hb7); clear hb7 hcz B5 K5; have hcz : w7.cell? ⟨gb, 0, none⟩ = some (.slice A es.length c) := (blk_cell K7.1 0).trans rfl) | (go_at_call 40; refine (g_ordered.calls A c es comps _ (Kd.C_below HR.1 B7.1) HC.1 HO.1).mono ?_; rintro e w9 ⟨vc, rfl, hV, hb9⟩; obtain ⟨Ac, cc, rfl, hlc, hF⟩ := hV; have V9 := Az.mk (Kd.F_bound hF); have B9 := Az.mk (below_step B7.1 hb9); have K9 := Az.mk (blk_below K7.1 hb9); have S7 := Az.mk (B7.1.size); have LC := Az.mk (Kd.F_max hF); clear hF hb9 hcz B7 K7 hlc; have hcz : w9.cell? ⟨gb, 0, none⟩ = some (.slice A es.length c) := (blk_cell K9.1 0).trans rfl) | fail)
  obtain ⟨i0, e0, e1, e2, e3⟩ := info_parts info3
  have hll := HLL.1
  have hmk := run_make w9 55 3 i0 _ Try.underlying55 e0 e1 .i64 .i64 es.length es.length (by omega) (by omega) (by rw [e3]; omega) (by omega)
  rw [Int.toNat_natCast, e2, Nat.mul_one] at hmk
  have hz0 : (Value.int .i64 0).cells = #[.int .i64 0] := rfl
  rw [hz0] at hmk
  clear e0 e1 e2 e3 hz0
  go_upto_region 6 with fail
  have hb0 := B9.1.size
  have O3 := Az.mk (arr_made (blk_new w9 (.cells (madeCells #[.int .i64 0] es.length) 3)))
  have B3 := Az.mk (below_alloc B9.1 (.cells (madeCells #[.int .i64 0] es.length) 3))
  have K3 := Az.mk (blk_alloc K9.1 (.cells (madeCells #[.int .i64 0] es.length) 3))
  have F3 := Az.mk (Kd.F_alloc V9.1 (.cells (madeCells #[.int .i64 0] es.length) 3))
  have HGA : Az (w.heap.size <= w9.heap.size /\ gb < w9.heap.size) := ⟨hb0, blk_lt K9.1⟩
  clear hmk B9 K9 V9 hb0 hcz
  generalize w9.alloc (.cells (madeCells #[.int .i64 0] es.length) 3) = w10 at O3 B3 K3 F3 ⊢
  generalize w9.heap.size = ga at O3 B3 K3 F3 HGA ⊢
  have hlc := LC.1
  have hll2 : Az ((List.replicate es.length (0 : Int)).length = es.length) := ⟨by simp⟩
  go_wp2_with fail
  go_loopg [6, 27] k (fun kq v6 v27 w' => ∃ (i top : Int) (lv : List Int), v27 = .int .i64 i /\ v6 = .int .i64 top /\ Az (0 <= i) /\ Az (lv.length = es.length) /\ Az (lv0 kq es comps i lv top = some o) /\ Az (kq <= k) /\ Az (Below w.heap.size w w') /\ Az (w'.heap[gb]? = some (.cells #[.slice A es.length c] 49 (0, 0))) /\ Az (w'.heap[ga]? = some (arr lv)) /\ Az (Kd.F KS w' (fun k => w7.heap.size <= k /\ k < ga) Ac comps.length comps))
  case atStart => exact ⟨0, -1, _, rfl, rfl, ⟨by omega⟩, hll2, HLV, ⟨Nat.le_refl _⟩, B3, K3, O3, F3⟩
  case round => as_aux_lemma =>
   clear HLV B3 K3 O3 F3 hll2
   obtain ⟨i, top, lv, rfl, rfl, HI, HLEN, HA, HK1, B3, K3, O3, F3⟩ := hrel
   cases gk with
   | zero => exact absurd HA.1 (by simp [lv0])
   | succ k1 =>
    have H := HA.1
    clear HA
    rw [lv0] at H
    by_cases ci : i < comps.length
    rotate_left
    · as_aux_lemma =>
      rw [if_neg ci] at H
      obtain rfl := Option.some.inj H
      have cb : decide (i < (comps.length : Int)) = false := decide_eq_false ci
      clear H
      by_cases ct : 0 <= wrap64 (top + 1) /\ wrap64 (top + 1) < 5864062014805
      case neg => have := HH.1; simp only at this; rw [if_neg ct] at this; cases this
      have HH1 := HH.1
      simp only at HH1
      rw [if_pos ct] at HH1
      obtain ⟨out0, h3, h4⟩ := Option.map_eq_some_iff.1 HH1
      obtain ⟨rfl, rfl⟩ := Prod.mk.inj h4
      have H3 := Az.mk h3
      obtain ⟨ct0, ct1⟩ := ct
      obtain ⟨n, hn⟩ := Int.eq_ofNat_of_zero_le ct0
      rw [hn] at ct1
      rw [hn, Int.toNat_natCast] at H3
      have HN := Az.mk hn
      clear HH HH1 h3 h4 ct0 hn
      go_upto_region 19 with fail
      have hn := HN.1
      obtain ⟨i0, e0, e1, e2, e3⟩ := info_parts info55
      have hmk := run_make wr 47 55 i0 _ Try.underlying47 e0 e1 .i64 .i64 n n (by omega) (by omega) (by rw [e3]; omega) (by omega)
      rw [Int.toNat_natCast, e2, Nat.mul_one] at hmk
      have hz0 : (Value.slice none 0 0).cells = #[.slice none 0 0] := rfl
      rw [hz0] at hmk
      clear e0 e1 e2 e3 hz0
      go_upto_region 20 with fail
      obtain ⟨W3, rfl⟩ : ∃ W3 : World, W3 = wr := ⟨_, rfl⟩
      have O6 := Az.mk (show (W3.alloc (.cells (madeCells #[.slice none 0 0] n) 55)).heap[ga]? = some (arr lv) from blk_alloc O3.1 (.cells (madeCells #[.slice none 0 0] n) 55))
      have B6 := Az.mk (below_alloc B3.1 (.cells (madeCells #[.slice none 0 0] n) 55))
      have hbs := B3.1.size
      have S6 := Az.mk (S_made (base := w.heap.size) (ok := fun k => W3.heap.size <= k) (blk_new W3 (.cells (madeCells #[.slice none 0 0] n) 55)) hbs (by unfold maxLen; omega) (Nat.le_refl _))
      have HGO : Az (w.heap.size <= W3.heap.size /\ ga < W3.heap.size) := ⟨hbs, blk_lt O3.1⟩
      have hll2 : Az ((List.replicate n ([] : List Int)).length = n) := ⟨by simp⟩
      have HLE : Az (lv.length <= 9223372036854775807) := ⟨by have := HLL.1; rw [HLEN.1]; omega⟩
      clear hmk hn hbs K3 O3 B3 F3
      generalize W3.alloc (.cells (madeCells #[.slice none 0 0] n) 55) = W4 at O6 B6 S6 ⊢
      generalize W3.heap.size = go at S6 HGO ⊢
      have hle := HLE.1
      have hel := HLEN.1
      go_wp2_with fail
      go_loopg [82] k (fun kq v82 w' => ∃ (j : Int) (out : List (List Int)), v82 = .int .i64 j /\ Az (0 <= j) /\ Az (out.length = n) /\ Az (lv3 kq lv j out = some out0) /\ Az (kq <= k) /\ Az (Below w.heap.size w w') /\ Az (w'.heap[ga]? = some (arr lv)) /\ Az (Kd.S KS 55 w' w.heap.size (fun k => go <= k) (.slice (some ⟨go, 0, none⟩) n n) out))
      case atStart => exact ⟨0, _, rfl, ⟨by omega⟩, hll2, H3, ⟨Nat.le_refl _⟩, B6, O6, S6⟩
      case round => as_aux_lemma =>
       clear H3 B6 O6 S6 hll2
       obtain ⟨j, out, rfl, HJ, HLO, HA, HK2, B6, O6, S6⟩ := hrel
       obtain ⟨W5, rfl⟩ : ∃ W5 : World, W5 = wr := ⟨_, rfl⟩
       cases gk with
       | zero => exact absurd HA.1 (by simp [lv3])
       | succ k2 =>
        have H := HA.1
        clear HA
        rw [lv3] at H
        by_cases cj : j < lv.length
        rotate_left
        · as_aux_lemma =>
          rw [if_neg cj] at H
          obtain rfl := Option.some.inj H
          have cbj : decide (j < (es.length : Int)) = false := decide_eq_false (by rw [<- hel]; exact cj)
          clear H
          go_wp2_with fail
          go_ret2
          exact ⟨_, rfl, Kd.S_mono S6.1 (fun _ _ => trivial), B6.1⟩
        as_aux_lemma =>
        rw [if_pos cj] at H
        by_cases cd : 0 <= rd lv j /\ rd lv j < out.length /\ (row out (rd lv j)).length < 17592186044415
        case neg => rw [if_neg cd] at H; cases H
        rw [if_pos cd] at H
        have hj0 := HJ.1
        have cx := arr_cell O6.1 j hj0 cj
        have cj2 : j < (es.length : Int) := by rw [<- hel]; exact cj
        have cbj : decide (j < (es.length : Int)) = true := decide_eq_true cj2
        have qj := eq_true hj0
        generalize rd lv j = d at H cd cx
        obtain ⟨cd0, cd1, cd2⟩ := cd
        rw [HLO.1] at cd1
        have H' := Az.mk H
        clear H
        have q9 := eq_true cd0
        have q10 := eq_true cd1
        go_upto_region 23 with fail
        have hgo := Kd.S_lt S6.1 go (by simp [Value.ownBlock])
        have hgs := B6.1.size
        obtain ⟨v0, oki, x1, x2, x3, x4, x5⟩ := S_upd S6.1 (fun k hk => by omega) d cd0 cd1
        have X3 := Az.mk (Kd.R_mono (ok' := fun k => oki k \/ W5.heap.size <= k) x3 (fun k hk => .inl hk))
        have X4 := Az.mk x4
        have X5 := Az.mk (@x5)
        have X6 := Az.mk x3
        clear x3 x4 x5 cx
        go_wp2_with ((with_reducible refine gate_builtin (b := .append) (xs := #[.tmp 92, .tmp 94]) rfl ?_); at_builtin; refine Kd.R_append (Kd.int .i64) (w0 := W5) w.heap.size rfl (.tmp 92) (.tmp 94) 55 3 (.int .i64 0) 8 rfl Try.underlying55 info3 rfl (by decide) (by omega) v0 (row out d) j [.int .i64 j] (fun k => oki k \/ W5.heap.size <= k) (fun _ => False) rfl rfl rfl (fun _ hk => hk.elim) (fun k hk => .inr hk) X3.1 (Below.refl _ _) ?hs ?hl ?_)
        (case hs => omega)
        (case hl => omega)
        intro v1 w9 ho hb hg hat
        obtain ⟨A9, q9c, rfl⟩ := Kd.R_slice ho
        have hown : ∀ k, v0.ownBlock = some k -> go <= k /\ k ≠ go := fun k hk => X4.1 k (X6.1.1 k hk)
        have hga := HGO.1.2
        have hgw := HGO.1.1
        have O9 := Az.mk (blk_grown O6.1 hg (fun e => by have := (hown ga e.symm).1; omega))
        have B9 := Az.mk (B6.1.grown hg (by omega) (fun k hk => by have := (hown k hk).1; omega))
        have hne9 : some go ≠ v0.ownBlock := fun e => (hown _ e.symm).2 rfl
        have k2 : w9.cell? ⟨go, d.toNat, none⟩ = some v0 := (World.cell?_of_block (hg.block go hgo hne9)).trans x1
        have k3 : w9.frozen? ⟨go, d.toNat, none⟩ = false := (World.frozen?_of_block (hg.block go hgo hne9)).trans x2
        have G9 := Az.mk hg
        have R9 := Az.mk ho
        clear hg ho hb hat hown x1 x2 hne9 B6 O6 S6 X3 X4 X6 hga hgw
        go_upto_region 24 with fail
        obtain ⟨S10, g10⟩ := X5.1 w9 _ _ G9.1 R9.1
        have S11 := Az.mk S10
        have O11 := Az.mk (blk_grown O9.1 g10 (by have := HGO.1.2; intro e; injection e with e; omega))
        have B11 := Az.mk (B9.1.grown g10 (by have := G9.1.size; omega) (fun k hk => by cases hk; exact HGO.1.1))
        have HL11 : Az ((app out d j).length = n) := ⟨by unfold app; simp only [List.length_set]; exact HLO.1⟩
        clear S10 g10 k2 k3 G9 R9 X5 O9 B9 hgs hgo
        have e9 : (row out d ++ [j]).length = (row out d).length + 1 := by simp
        rw [e9] at S11 O11 B11
        clear e9
        generalize w9.setCell ⟨go, d.toNat, none⟩ (.slice A9 ((row out d).length + 1) q9c) = w11 at S11 O11 B11 ⊢
        go_wp2_with fail
        go_roundg k2
        case measure => omega
        case rel => exact ⟨j + 1, _, rfl, ⟨by omega⟩, HL11, H', ⟨by have := HK2.1; omega⟩, B11, O11, S11⟩
    as_aux_lemma =>
    rw [if_pos ci] at H
    by_cases cx : 0 < (row comps i).length /\ 0 <= rd (row comps i) 0 /\ rd (row comps i) 0 < es.length
    case neg => rw [if_neg cx] at H; cases H
    rw [if_pos cx] at H
    obtain ⟨cx0, cx1, cx2⟩ := cx
    have hi0 := HI.1
    obtain ⟨adc, Ar, cr, er, hx, hxl, hxi⟩ := at_L11 (Kd.F_now F3.1) i hi0 ci
    subst er
    have el : rd_L11 comps i = row comps i := rfl
    rw [el] at hx hxl hxi
    have HXI := Az.mk hxi
    have HXL := Az.mk hxl
    obtain ⟨ad0, e0, hy⟩ := Kd.at_int hxi 0 (by omega) (by omega)
    subst e0
    rw [show ((0 : Int)).toNat = 0 from rfl, Addr.add_zero'] at hy
    clear hxi hxl el
    have cb : decide (i < (comps.length : Int)) = true := decide_eq_true ci
    have q0 := eq_true hi0
    have cz : (0 < (row comps i).length) = True := eq_true cx0
    have H' := Az.mk H
    clear H
    go_upto_region 10 with fail
    clear hy hx cz cb q0
    generalize rd (row comps i) 0 = v at H' cx1 cx2 ⊢
    have hcz := (blk_cell K3.1 0)
    have hcy : wr.cell? ⟨gb, 0, none⟩ = some (.slice A es.length c) := hcz.trans rfl
    clear hcz
    by_cases c1 : 1 < (row comps i).length
    · as_aux_lemma =>
      have H := H'.1
      clear H'
      rw [if_pos (Or.inl c1)] at H
      obtain rfl := Option.some.inj H
      obtain ⟨rfl, rfl⟩ := Prod.mk.inj (Option.some.inj HH.1)
      have cb1 : decide ((1 : Int) < ((row comps i).length : Int)) = true := decide_eq_true (by omega)
      clear H HH
      go_wp2_with fail
      go_ret2
      exact ⟨_, rfl, Kd.S_nil _ _ _ _ _, B3.1⟩
    as_aux_lemma =>
    have cb1 : decide ((1 : Int) < ((row comps i).length : Int)) = false := decide_eq_false (by omega)
    obtain ⟨adE, Ae, ce, er, hx, hxl, hxi⟩ := at_L11 HR.1 v cx1 cx2
    subst er
    have el : rd_L11 es v = row es v := rfl
    rw [el] at hx hxl hxi
    have hx1 := (B3.1.cell (World.block_lt_of_cell? _ _ hx)).trans hx
    have HXE := Az.mk hx
    have EXI := Az.mk hxi
    have EXL := Az.mk hxl
    clear hx hxi hxl el
    have q1 := eq_true cx1
    have q2 := eq_true cx2
    have CON := Az.mk (fun (wq : World) (hq : Below w.heap.size w wq) => slices_Contains_int_int.calls ((row es v).length + 1) Ae ce (row es v) v _ wq (Kd.C_below EXI.1 hq) EXL.1 (contains_run _ _ (EXI.1.2.1)))
    by_cases cc1 : (row es v).contains v = true
    · as_aux_lemma =>
      have H := H'.1
      clear H'
      rw [if_pos (Or.inr cc1)] at H
      obtain rfl := Option.some.inj H
      obtain ⟨rfl, rfl⟩ := Prod.mk.inj (Option.some.inj HH.1)
      clear H HH
      rw [cc1] at CON
      go_wp2_with (go_at_call 41; refine (CON.1 wr B3.1).mono ?_; rintro e w11 ⟨rfl, hd11⟩; obtain ⟨⟨nq, rfl⟩⟩ := hd11)
      go_ret2
      exact ⟨_, rfl, Kd.S_nil _ _ _ _ _, pw_below_drewN B3.1 nq⟩
    as_aux_lemma =>
    have cc2 : (row es v).contains v = false := by simpa using cc1
    rw [cc2] at CON
    have H := H'.1
    clear H'
    rw [if_neg (by rintro (h | h); exact c1 h; exact cc1 h)] at H
    obtain ⟨lv2, hl2, H⟩ := Option.bind_eq_some_iff.1 H
    have HL2 := Az.mk hl2
    have H' := Az.mk H
    clear H hl2
    go_upto_region 12 with (go_at_call 41; refine (CON.1 wr B3.1).mono ?_; rintro e w11 ⟨rfl, hd11⟩; obtain ⟨⟨nq, rfl⟩⟩ := hd11)
    have B4 := Az.mk (pw_below_drewN B3.1 nq)
    have K4 := Az.mk (blk_drewN K3.1 nq)
    have O4 := Az.mk (show (wr.drewN nq).heap[ga]? = some (arr lv) from blk_drewN O3.1 nq)
    have F4 := Az.mk (Kd.F_drewN F3.1 nq)
    clear B3 K3 O3 F3 CON hcy hx1
    generalize wr.drewN nq = w12 at B4 K4 O4 F4 ⊢
    have hcy : w12.cell? ⟨gb, 0, none⟩ = some (.slice (some adE) es.length c) := (blk_cell K4.1 0).trans rfl
    have hx1 := (B4.1.cell (World.block_lt_of_cell? _ _ HXE.1)).trans HXE.1
    have hel := EXI.1.2.1
    go_wp2_with fail
    clear hx1 hcy q1 q2
    go_loopg [52] k1 (fun kq v52 w' => ∃ (j : Int) (lv3 : List Int), v52 = .int .i64 j /\ Az (0 <= j) /\ Az (lv3.length = es.length) /\ Az (lv1 kq v (row es v) j lv3 = some lv2) /\ Az (kq <= k1) /\ Az (Below w.heap.size w w') /\ Az (w'.heap[gb]? = some (.cells #[.slice (some adE) es.length c] 49 (0, 0))) /\ Az (w'.heap[ga]? = some (arr lv3)) /\ Az (Kd.F KS w' (fun k => w7.heap.size <= k /\ k < ga) (some adc) comps.length comps))
    case atStart => exact ⟨0, _, rfl, ⟨by omega⟩, HLEN, HL2, ⟨Nat.le_refl _⟩, B4, K4, O4, F4⟩
    case round => as_aux_lemma =>
     clear HL2 B4 K4 O4 F4
     obtain ⟨j, lv3, rfl, HJ, HLEN3, HA, HK2, B4, K4, O4, F4⟩ := hrel
     obtain ⟨W2, rfl⟩ : ∃ W2 : World, W2 = wr := ⟨_, rfl⟩
     cases gk with
     | zero => exact absurd HA.1 (by simp [lv1])
     | succ k2 =>
      have H := HA.1
      clear HA
      rw [lv1] at H
      by_cases cj : j < (row es v).length
      rotate_left
      · as_aux_lemma =>
        rw [if_neg cj] at H
        obtain rfl := Option.some.inj H
        have cbj : decide (j < ((row es v).length : Int)) = false := decide_eq_false cj
        clear H
        have q1 := eq_true cx1
        have q2 := eq_true cx2
        have cv := arr_cell O4.1 v cx1 (by rw [HLEN3.1]; exact cx2)
        go_wp2_with fail
        go_roundg k1
        case measure => omega
        case rel => exact ⟨i + 1, _, _, rfl, rfl, ⟨by have := HI.1; omega⟩, HLEN3, H', ⟨by have := HK1.1; omega⟩, B4, K4, O4, F4⟩
      as_aux_lemma =>
      rw [if_pos cj] at H
      by_cases cd : 0 <= rd (row es v) j /\ rd (row es v) j < lv3.length
      case neg => rw [if_neg cd] at H; cases H
      rw [if_pos cd] at H
      have hj0 := HJ.1
      obtain ⟨adj, ej, hx⟩ := Kd.at_int EXI.1 j hj0 cj
      subst ej
      have hxj := (B4.1.cell (World.block_lt_of_cell? _ _ hx)).trans hx
      clear hx
      generalize rd (row es v) j = d at H cd hxj
      obtain ⟨cd0, cd1⟩ := cd
      have H' := Az.mk H
      clear H
      have cbj : decide (j < ((row es v).length : Int)) = true := decide_eq_true cj
      have qj := eq_true hj0
      have q1 := eq_true cx1
      have q2 := eq_true cx2
      have q3 := eq_true cd0
      have q4 : (d < (es.length : Int)) = True := eq_true (by rw [<- HLEN3.1]; exact cd1)
      have cv := arr_cell O4.1 v cx1 (by rw [HLEN3.1]; exact cx2)
      have cdd := arr_cell O4.1 d cd0 cd1
      have fv := arr_free O4.1 v.toNat
      go_upto_region 15 with fail
      go_region
      have B5 := Az.mk (below_drew (B4.1.setCell (show w.heap.size <= (⟨ga, v.toNat, none⟩ : Addr).block from HGA.1.1) (.int .i64 (max (rd lv3 v) (wrap64 (rd lv3 d + 1))))))
      have K5 := Az.mk (blk_drew (blk_far K4.1 (p := ⟨ga, v.toNat, none⟩) (show gb ≠ ga from Nat.ne_of_lt HGA.1.2) (.int .i64 (max (rd lv3 v) (wrap64 (rd lv3 d + 1))))))
      have O5 := Az.mk (show (W2.setCell ⟨ga, v.toNat, none⟩ (.int .i64 (max (rd lv3 v) (wrap64 (rd lv3 d + 1))))).drew.heap[ga]? = some (arr (lv3.set v.toNat (max (rd lv3 v) (wrap64 (rd lv3 d + 1))))) from by unfold arr; rw [<- nums_set]; exact blk_drew (blk_set O4.1 v.toNat _))
      have F5 := Az.mk (Kd.F_drew (Kd.F_far (p := ⟨ga, v.toNat, none⟩) F4.1 (fun k hk => show k ≠ ga from Nat.ne_of_lt hk.2) (.int .i64 (max (rd lv3 v) (wrap64 (rd lv3 d + 1))))))
      have L5 : Az ((lv3.set v.toNat (max (rd lv3 v) (wrap64 (rd lv3 d + 1)))).length = es.length) := ⟨by rw [List.length_set]; exact HLEN3.1⟩
      clear B4 K4 O4 F4 cv cdd fv hxj HLEN3
      generalize (W2.setCell ⟨ga, v.toNat, none⟩ (.int .i64 (max (rd lv3 v) (wrap64 (rd lv3 d + 1))))).drew = w13 at B5 K5 O5 F5 ⊢
      go_wp2_with fail
      go_roundg k2
      case measure => omega
      case rel => exact ⟨j + 1, _, rfl, ⟨by omega⟩, L5, H', ⟨by have := HK2.1; omega⟩, B5, K5, O5, F5⟩
end Lv
end Go.Proofs.Ytmadhaccjmakdaa
namespace Go.Proofs.Ytmadhaccjmakdaa
open Go.RowKit Go.Proofs.Yw.A Go.Proofs.Yw.B Go.Proofs.Yw.C Go.Proofs.Ytmadhaccjmakdaa.P
namespace P
noncomputable def g_Levels.f (l : List (List Int)) : Option (List (List Int) × Int) := Od.lim fun k => Lv.levelsF k l
theorem g_Levels.calls (A0_0 : Option Addr) (c0_0 : Nat) (l0_0 : List (List Int)) (r1 : List (List Int)) (r2 : Int) (w : World) (hr0_0 : Kd.C (Kd.slice 3 (Kd.int .i64)) w A0_0 l0_0.length l0_0) (hc0_0 : l0_0.length <= c0_0) (h : g_Levels.f l0_0 = some (r1, r2)) :
    Calls Try.prog 30 #[.agg #[.slice A0_0 l0_0.length c0_0]] w fun e w' => ∃ v0_ : Value, e = .returned (.tuple #[v0_, .int .i64 r2]) /\ Kd.S (Kd.slice 3 (Kd.int .i64)) 55 w' w.heap.size (fun _ => True) v0_ r1 /\ Below w.heap.size w w' := by
  obtain ⟨k0, h0⟩ := Od.lim_some h
  exact Lv.levels_calls k0 A0_0 c0_0 l0_0 r1 r2 w hr0_0 hc0_0 (h0 k0 (Nat.le_refl _))
end P
end Go.Proofs.Ytmadhaccjmakdaa
namespace Go.Proofs.Ytmadhaccjmakdaa.P
open Go.RowKit Go.Proofs.Yw.A Go.Proofs.Yw.A.Kd Go.Proofs.Yw.B Go.Proofs.Yw.C
attribute [local go_sem] str_gtr str_leq str_geq max2_int min2_int max_two min_two max_three min_three max_four min_four
noncomputable def m_acyclic.f (k : Nat) (l0 : List (S42)) : Option (List ByteArray × (List (List Int)) × Int × ByteArray × Int × Int) := (m_made.f l0).bind fun bt146 => (if bt146.2.2.1 = 0 then ((p_cycle.f k bt146.1 bt146.2.1).bind fun t158 => (if (t158.length : Int) > 0 then (if 0 < (t158.length : Int) then (if 0 <= (rd t158 0) then (if (rd t158 0) < (bt146.1.length : Int) then (some (([] : List ByteArray), ([] : List (List Int)), 18, rdOf ByteArray.empty bt146.1 (rd t158 0), 0, 0)) else (none)) else (none)) else (none)) else (some (bt146.1, bt146.2.1, 0, (⟨#[]⟩ : ByteArray), 0, 0)))) else (some (([] : List ByteArray), ([] : List (List Int)), bt146.2.2.1, bt146.2.2.2.1, bt146.2.2.2.2.1, bt146.2.2.2.2.2)))
noncomputable def m_acyclic.T6 : Bool × List (List Nat × List Nat) := (true, [([], []), ([], []), ([1], [1]), ([], []), ([3], [3]), ([4], [4]), ([2, 5], [2, 5]), ([6], [6]), ([7], [7]), ([0, 0], [0]), ([8, 9, 0, 1, 2, 3, 4, 5, 6, 7, 8, 9], [8])])
noncomputable def m_acyclic.B6 : List Nat := [0, 0, 2, 0, 8, 24, 62, 126, 254, 1, 1023]
theorem m_acyclic.tab6 : rtab .any (opsOf Try.f24 6) = m_acyclic.T6 := by kernel_rfl
theorem m_acyclic.bits6 : waitsOk m_acyclic.T6.2 m_acyclic.B6 = true := by kernel_rfl
theorem m_acyclic.calls (k : Nat) (A0 : Option Addr) (c0 : Nat) (l0 : List (S42)) (r1 : List ByteArray) (r2 : List (List Int)) (r3 : Int) (r4 : ByteArray) (r5 : Int) (r6 : Int) (w : World) (hr0 : Kd.C k42 w A0 l0.length l0) (hc0 : l0.length <= c0) (h : m_acyclic.f k l0 = some (r1, r2, r3, r4, r5, r6)) :
 Calls Try.prog 24 #[.slice A0 l0.length c0] w fun e w' => ∃ v0_ v1_ : Value, e = .returned (.tuple #[.agg #[v0_, v1_], .agg #[.int .i64 r3, .string r4, .int .i64 r5, .int .i64 r6]]) /\ Kd.R Kd.string 9 w' w.heap.size (fun _ => True) v0_ r1 /\ Kd.S (Kd.slice 3 (Kd.int .i64)) 55 w' w.heap.size (fun _ => True) v1_ r2 /\ Below w.heap.size w w' := by
 have hu51 := Try.underlying51
 have hu28 := Try.underlying28
 have HR0 := aM hr0
 have HC0 := aM hc0
 clear hr0 hc0
 have HB := aM (Below.refl w.heap.size w)
 have H : ((m_made.f l0).bind fun bt146 => (if bt146.2.2.1 = 0 then ((p_cycle.f k bt146.1 bt146.2.1).bind fun t158 => (if (t158.length : Int) > 0 then (if 0 < (t158.length : Int) then (if 0 <= (rd t158 0) then (if (rd t158 0) < (bt146.1.length : Int) then (some (([] : List ByteArray), ([] : List (List Int)), 18, rdOf ByteArray.empty bt146.1 (rd t158 0), 0, 0)) else (none)) else (none)) else (none)) else (some (bt146.1, bt146.2.1, 0, (⟨#[]⟩ : ByteArray), 0, 0)))) else (some (([] : List ByteArray), ([] : List (List Int)), bt146.2.2.1, bt146.2.2.2.1, bt146.2.2.2.2.1, bt146.2.2.2.2.2)))) = some (r1, r2, r3, r4, r5, r6) := h
 clear h
 replace H := Option.bind_eq_some_iff.mp H
 obtain ⟨⟨t146, t149, t152, t153, t154, t155⟩, A20, H⟩ := H
 replace H : (if t152 = 0 then ((p_cycle.f k t146 t149).bind fun t158 => (if (t158.length : Int) > 0 then (if 0 < (t158.length : Int) then (if 0 <= (rd t158 0) then (if (rd t158 0) < (t146.length : Int) then (some (([] : List ByteArray), ([] : List (List Int)), 18, rdOf ByteArray.empty t146 (rd t158 0), 0, 0)) else (none)) else (none)) else (none)) else (some (t146, t149, 0, (⟨#[]⟩ : ByteArray), 0, 0)))) else (some (([] : List ByteArray), ([] : List (List Int)), t152, t153, t154, t155))) = some (r1, r2, r3, r4, r5, r6) := H
 have A2 := aM A20
 clear A20
 by_cases c3 : t152 = 0
 rotate_left
 · rw [if_neg c3] at H
   have c3b0 : (t152 == 0) = false := beq_eq_false_iff_ne.mpr c3
   have c3b1 : (t152 != 0) = true := bne_iff_ne.mpr c3
   simp only [Option.some.injEq, Prod.mk.injEq] at H
   obtain ⟨rfl, rfl, rfl, rfl, rfl, rfl⟩ := H
   go_enter Try.func24, Try.ntmps24
   try go_wp2_with (first | ((with_reducible refine gate_dst (N := 2) rfl ?_); refine be 2 rfl rfl #[.slice none 0 0, .slice none 0 0] 51 ?_; intro gb144 hg w52 hbox hb; have BK144 := aM hbox; have GE144 := gs hg HB; replace HB := bs HB hb; clear hb hbox hg) | ((with_reducible refine gate_dst (N := 3) rfl ?_); refine be 3 rfl rfl #[.int .i64 0, .string (⟨#[]⟩ : ByteArray), .int .i64 0, .int .i64 0] 28 ?_; intro gb145 hg w53 hbox hb; have BK145 := aM hbox; have GE145 := gs hg HB; have NB144_145 := nl hg BK144; have NB145_144 := nr hg BK144; replace BK144 := kb BK144 hb; replace HB := bs HB hb; clear hb hbox hg) | ((with_reducible refine gate_callee (f := 34) rfl ?_); refine gL (some 9) rfl rfl Try.func34 (by kernel_rfl) rfl #[.slice A0 l0.length c0] rfl ?_; (with_reducible refine (m_made.calls _ _ l0 t146 t149 t152 t153 t154 t155 _ ?side1 ?side2 A2.1).mono ?_); (case side1 => exact cb HR0 HB); (case side2 => exact HC0.1); rintro e w54 ⟨v147, v150, rfl, ho0, ho1, hb⟩; refine ⟨_, rfl, ?_⟩; have HO148 := aM (R_lower ho0 (below_size (hh HB))); have HO151 := aM (S_lower ho1 (below_size (hh HB))); replace BK144 := kb BK144 hb; replace BK145 := kb BK145 hb; replace HB := bs HB hb; clear hb ho0 ho1) | ((with_reducible refine gate_dst (N := 4) rfl ?_); refine be 4 rfl rfl #[.slice none 0 0, .slice none 0 0] 51 ?_; intro gb156 hg w55 hbox hb; have BK156 := aM hbox; have GE156 := gs hg HB; have NB144_156 := nl hg BK144; have NB156_144 := nr hg BK144; have NB145_156 := nl hg BK145; have NB156_145 := nr hg BK145; replace HO148 := rb HO148 hb; replace HO151 := sb HO151 hb; replace BK144 := kb BK144 hb; replace BK145 := kb BK145 hb; replace HB := bs HB hb; clear hb hbox hg) | ((with_reducible refine gate_dst (N := 5) rfl ?_); refine be 5 rfl rfl #[.int .i64 0, .string (⟨#[]⟩ : ByteArray), .int .i64 0, .int .i64 0] 28 ?_; intro gb157 hg w56 hbox hb; have BK157 := aM hbox; have GE157 := gs hg HB; have NB144_157 := nl hg BK144; have NB157_144 := nr hg BK144; have NB145_157 := nl hg BK145; have NB157_145 := nr hg BK145; have NB156_157 := nl hg BK156; have NB157_156 := nr hg BK156; replace HO148 := rb HO148 hb; replace HO151 := sb HO151 hb; replace BK144 := kb BK144 hb; replace BK145 := kb BK145 hb; replace BK156 := kb BK156 hb; replace HB := bs HB hb; clear hb hbox hg; obtain ⟨Ao57, co57, eo57⟩ := R_slice HO148.1; subst eo57; have hnb58 := NB156_144.1; have hnc58 := NB144_156.1; have hnb59 := NB156_145.1; have hnc59 := NB145_156.1; have hnb60 := NB156_157.1; have hnc60 := NB157_156.1; obtain ⟨hcz61_0, hcz61_1⟩ := cz2 BK156; obtain ⟨hfz61_0, hfz61_1⟩ := fz2 BK156; obtain ⟨Ao62, co62, eo62⟩ := S_slice HO151.1; subst eo62; have hnb63 := NB157_144.1; have hnc63 := NB144_157.1; have hnb64 := NB157_145.1; have hnc64 := NB145_157.1; obtain ⟨hcz65_0, hcz65_1, hcz65_2, hcz65_3⟩ := cz BK157; obtain ⟨hfz65_0, hfz65_1, hfz65_2, hfz65_3⟩ := fz BK157))
   have n0_ : Az (Kd.R Kd.string 9 ((((((w56.setCell ⟨gb156, 0, none⟩ (.slice Ao57 t146.length co57)).setCell ⟨gb156, 1, none⟩ (.slice Ao62 t149.length co62)).setCell ⟨gb157, 0, none⟩ (.int .i64 t152)).setCell ⟨gb157, 1, none⟩ (.string t153)).setCell ⟨gb157, 2, none⟩ (.int .i64 t154)).setCell ⟨gb157, 3, none⟩ (.int .i64 t155)) w.heap.size (fun _ => True) (.slice Ao57 t146.length co57) t146) := ⟨rz (R_mono (R_far (p := ⟨gb157, 3, none⟩) (R_far (p := ⟨gb157, 2, none⟩) (R_far (p := ⟨gb157, 1, none⟩) (R_far (p := ⟨gb157, 0, none⟩) (R_far (p := ⟨gb156, 1, none⟩) (R_far (p := ⟨gb156, 0, none⟩) (R_types (R_types HO148.1 BK156.1 (by decide)) BK157.1 (by decide)) (fun _ hk => hk.1.2) (.slice Ao57 t146.length co57)) (fun _ hk => hk.1.2) (.slice Ao62 t149.length co62)) (fun _ hk => hk.2) (.int .i64 t152)) (fun _ hk => hk.2) (.string t153)) (fun _ hk => hk.2) (.int .i64 t154)) (fun _ hk => hk.2) (.int .i64 t155)) (fun _ hk => trivial))⟩
   have n1_ : Az (Kd.S (Kd.slice 3 (Kd.int .i64)) 55 ((((((w56.setCell ⟨gb156, 0, none⟩ (.slice Ao57 t146.length co57)).setCell ⟨gb156, 1, none⟩ (.slice Ao62 t149.length co62)).setCell ⟨gb157, 0, none⟩ (.int .i64 t152)).setCell ⟨gb157, 1, none⟩ (.string t153)).setCell ⟨gb157, 2, none⟩ (.int .i64 t154)).setCell ⟨gb157, 3, none⟩ (.int .i64 t155)) w.heap.size (fun _ => True) (.slice Ao62 t149.length co62) t149) := ⟨sz (S_mono (S_far (p := ⟨gb157, 3, none⟩) (S_far (p := ⟨gb157, 2, none⟩) (S_far (p := ⟨gb157, 1, none⟩) (S_far (p := ⟨gb157, 0, none⟩) (S_far (p := ⟨gb156, 1, none⟩) (S_far (p := ⟨gb156, 0, none⟩) (S_types (S_types HO151.1 BK156.1 (by decide)) BK157.1 (by decide)) (fun _ hk => hk.1.2) (.slice Ao57 t146.length co57)) (fun _ hk => hk.1.2) (.slice Ao62 t149.length co62)) (fun _ hk => hk.2) (.int .i64 t152)) (fun _ hk => hk.2) (.string t153)) (fun _ hk => hk.2) (.int .i64 t154)) (fun _ hk => hk.2) (.int .i64 t155)) (fun _ hk => trivial))⟩
   have n2_ : Az (((((((w56.setCell ⟨gb156, 0, none⟩ (.slice Ao57 t146.length co57)).setCell ⟨gb156, 1, none⟩ (.slice Ao62 t149.length co62)).setCell ⟨gb157, 0, none⟩ (.int .i64 t152)).setCell ⟨gb157, 1, none⟩ (.string t153)).setCell ⟨gb157, 2, none⟩ (.int .i64 t154)).setCell ⟨gb157, 3, none⟩ (.int .i64 t155)).heap[gb144]? = some (.cells #[.slice none 0 0, .slice none 0 0] 51 (0, 0))) := ⟨kf BK144⟩
   have n3_ : Az (((((((w56.setCell ⟨gb156, 0, none⟩ (.slice Ao57 t146.length co57)).setCell ⟨gb156, 1, none⟩ (.slice Ao62 t149.length co62)).setCell ⟨gb157, 0, none⟩ (.int .i64 t152)).setCell ⟨gb157, 1, none⟩ (.string t153)).setCell ⟨gb157, 2, none⟩ (.int .i64 t154)).setCell ⟨gb157, 3, none⟩ (.int .i64 t155)).heap[gb145]? = some (.cells #[.int .i64 0, .string (⟨#[]⟩ : ByteArray), .int .i64 0, .int .i64 0] 28 (0, 0))) := ⟨kf BK145⟩
   have n4_ : Az (((((((w56.setCell ⟨gb156, 0, none⟩ (.slice Ao57 t146.length co57)).setCell ⟨gb156, 1, none⟩ (.slice Ao62 t149.length co62)).setCell ⟨gb157, 0, none⟩ (.int .i64 t152)).setCell ⟨gb157, 1, none⟩ (.string t153)).setCell ⟨gb157, 2, none⟩ (.int .i64 t154)).setCell ⟨gb157, 3, none⟩ (.int .i64 t155)).heap[gb156]? = some (.cells #[.slice Ao57 t146.length co57, .slice Ao62 t149.length co62] 51 (0, 0))) := ⟨kf BK156⟩
   have n5_ : Az (((((((w56.setCell ⟨gb156, 0, none⟩ (.slice Ao57 t146.length co57)).setCell ⟨gb156, 1, none⟩ (.slice Ao62 t149.length co62)).setCell ⟨gb157, 0, none⟩ (.int .i64 t152)).setCell ⟨gb157, 1, none⟩ (.string t153)).setCell ⟨gb157, 2, none⟩ (.int .i64 t154)).setCell ⟨gb157, 3, none⟩ (.int .i64 t155)).heap[gb157]? = some (.cells #[.int .i64 t152, .string t153, .int .i64 t154, .int .i64 t155] 28 (0, 0))) := ⟨kf BK157⟩
   have n6_ : Az (Below w.heap.size w ((((((w56.setCell ⟨gb156, 0, none⟩ (.slice Ao57 t146.length co57)).setCell ⟨gb156, 1, none⟩ (.slice Ao62 t149.length co62)).setCell ⟨gb157, 0, none⟩ (.int .i64 t152)).setCell ⟨gb157, 1, none⟩ (.string t153)).setCell ⟨gb157, 2, none⟩ (.int .i64 t154)).setCell ⟨gb157, 3, none⟩ (.int .i64 t155))) := ⟨hh HB⟩
   (clear HO148)
   (clear HO151)
   (clear BK144)
   (clear BK145)
   (clear BK156)
   (clear BK157)
   (clear HB)
   generalize ((((((w56.setCell ⟨gb156, 0, none⟩ (.slice Ao57 t146.length co57)).setCell ⟨gb156, 1, none⟩ (.slice Ao62 t149.length co62)).setCell ⟨gb157, 0, none⟩ (.int .i64 t152)).setCell ⟨gb157, 1, none⟩ (.string t153)).setCell ⟨gb157, 2, none⟩ (.int .i64 t154)).setCell ⟨gb157, 3, none⟩ (.int .i64 t155)) = w66 at n0_ n1_ n2_ n3_ n4_ n5_ n6_ ⊢
   have HO148 := n0_
   have HO151 := n1_
   have BK144 := n2_
   have BK145 := n3_
   have BK156 := n4_
   have BK157 := n5_
   have HB := n6_
   clear n0_ n1_ n2_ n3_ n4_ n5_ n6_
   replace HO148 := aM (R_drew HO148.1)
   replace HO151 := aM (S_drew HO151.1)
   replace BK144 := aM (blk_drew BK144.1)
   replace BK145 := aM (blk_drew BK145.1)
   replace BK156 := aM (blk_drew BK156.1)
   replace BK157 := aM (blk_drew BK157.1)
   replace HB := aM (below_drew1 HB.1)
   refine start_ (n := 4) (S := fun w' => w'.cell? ⟨gb157, 0, none⟩ = some (.int .i64 t152) /\ w'.cell? ⟨gb157, 1, none⟩ = some (.string t153) /\ w'.cell? ⟨gb157, 2, none⟩ = some (.int .i64 t154) /\ w'.cell? ⟨gb157, 3, none⟩ = some (.int .i64 t155)) (ds := []) #[F_, F_, F_, F_] (by kernel_rfl) rfl rfl ⟨(blk_cell BK157.1 0).trans rfl, (blk_cell BK157.1 1).trans rfl, (blk_cell BK157.1 2).trans rfl, (blk_cell BK157.1 3).trans rfl⟩ (fun hHeld => ?_)
   generalize w66.drew = w67 at HO148 HO151 BK144 BK145 BK156 BK157 HB hHeld ⊢
   refine pure_ (i := 0) (N := some 15) (v := ?_) (a' := ?_) #[T_, F_, F_, F_] rfl rfl (by kernel_rfl) (fun _ _ _ h => h) (Or.inl ⟨by rfl, ?_⟩) ?_ ?_
   rotate_left
   · intro w'
     go_simp
     with_reducible rfl
   rotate_left
   · simp only [Act.put, sA, sZ, sS, i64_w, i32_w]
     rfl
   refine take_ (i := 1) (N := some 16) (v := ?_) (a' := ?_) #[T_, T_, F_, F_] rfl rfl (by kernel_rfl) (fun _ _ _ h => h) (Or.inl ⟨by rfl, ?_⟩) hHeld ?_ ?_
   rotate_left
   · rintro w' ⟨s0, s1, s2, s3⟩
     go_simp
     with_reducible rfl
   rotate_left
   · simp only [Act.put, sA, sZ, sS, i64_w, i32_w]
     rfl
   refine one_ (i := 2) (N := none) #[T_, T_, T_, F_] rfl rfl (by kernel_rfl) (by decide) (fun K hK => ?_)
   have hs68 : w67.cell? ⟨gb144, 0, none⟩ = some (.slice none 0 0) := (blk_cell BK144.1 0).trans rfl
   have hfs68 := blk_frozen BK144.1 0
   have hns68_1 := NB145_144.1
   have hns68_2 := NB156_144.1
   have hns68_3 := NB157_144.1
   have hms68_1 := NB144_145.1
   have hms68_2 := NB144_156.1
   have hms68_3 := NB144_157.1
   have hs69 : w67.cell? ⟨gb144, 1, none⟩ = some (.slice none 0 0) := (blk_cell BK144.1 1).trans rfl
   have hfs69 := blk_frozen BK144.1 1
   have hns69_1 := NB145_144.1
   have hns69_2 := NB156_144.1
   have hns69_3 := NB157_144.1
   have hms69_1 := NB144_145.1
   have hms69_2 := NB144_156.1
   have hms69_3 := NB144_157.1
   refine skip_ (w1 := ?_) (by rfl) rfl ?_ ?_
   rotate_left
   · go_simp
     rfl
   refine hK.out _ _ ⟨((cell_far (p := ⟨gb144, _, none⟩) NB157_144.1 _).trans (((cell_far (p := ⟨gb144, _, none⟩) NB157_144.1 _).trans (hHeld.1)))), ((cell_far (p := ⟨gb144, _, none⟩) NB157_144.1 _).trans (((cell_far (p := ⟨gb144, _, none⟩) NB157_144.1 _).trans (hHeld.2.1)))), ((cell_far (p := ⟨gb144, _, none⟩) NB157_144.1 _).trans (((cell_far (p := ⟨gb144, _, none⟩) NB157_144.1 _).trans (hHeld.2.2.1)))), ((cell_far (p := ⟨gb144, _, none⟩) NB157_144.1 _).trans (((cell_far (p := ⟨gb144, _, none⟩) NB157_144.1 _).trans (hHeld.2.2.2))))⟩ (fun hHeld => ?_)
   clear hK K
   refine one_ (i := 3) (N := none) #[T_, T_, T_, T_] rfl rfl (by kernel_rfl) (by decide) (fun K hK => ?_)
   have hs70 : w67.cell? ⟨gb145, 0, none⟩ = some (.int .i64 0) := (blk_cell BK145.1 0).trans rfl
   have hfs70 := blk_frozen BK145.1 0
   have hns70_0 := NB144_145.1
   have hns70_2 := NB156_145.1
   have hns70_3 := NB157_145.1
   have hms70_0 := NB145_144.1
   have hms70_2 := NB145_156.1
   have hms70_3 := NB145_157.1
   have hs71 : w67.cell? ⟨gb145, 1, none⟩ = some (.string (⟨#[]⟩ : ByteArray)) := (blk_cell BK145.1 1).trans rfl
   have hfs71 := blk_frozen BK145.1 1
   have hns71_0 := NB144_145.1
   have hns71_2 := NB156_145.1
   have hns71_3 := NB157_145.1
   have hms71_0 := NB145_144.1
   have hms71_2 := NB145_156.1
   have hms71_3 := NB145_157.1
   have hs72 : w67.cell? ⟨gb145, 2, none⟩ = some (.int .i64 0) := (blk_cell BK145.1 2).trans rfl
   have hfs72 := blk_frozen BK145.1 2
   have hns72_0 := NB144_145.1
   have hns72_2 := NB156_145.1
   have hns72_3 := NB157_145.1
   have hms72_0 := NB145_144.1
   have hms72_2 := NB145_156.1
   have hms72_3 := NB145_157.1
   have hs73 : w67.cell? ⟨gb145, 3, none⟩ = some (.int .i64 0) := (blk_cell BK145.1 3).trans rfl
   have hfs73 := blk_frozen BK145.1 3
   have hns73_0 := NB144_145.1
   have hns73_2 := NB156_145.1
   have hns73_3 := NB157_145.1
   have hms73_0 := NB145_144.1
   have hms73_2 := NB145_156.1
   have hms73_3 := NB145_157.1
   refine skip_ (w1 := ?_) (by rfl) rfl ?_ ?_
   rotate_left
   · go_simp
     rfl
   refine hK.out _ _ ⟨((cell_far (p := ⟨gb145, _, none⟩) NB157_145.1 _).trans (((cell_far (p := ⟨gb145, _, none⟩) NB157_145.1 _).trans (((cell_far (p := ⟨gb145, _, none⟩) NB157_145.1 _).trans (((cell_far (p := ⟨gb145, _, none⟩) NB157_145.1 _).trans (hHeld.1)))))))), ((cell_far (p := ⟨gb145, _, none⟩) NB157_145.1 _).trans (((cell_far (p := ⟨gb145, _, none⟩) NB157_145.1 _).trans (((cell_far (p := ⟨gb145, _, none⟩) NB157_145.1 _).trans (((cell_far (p := ⟨gb145, _, none⟩) NB157_145.1 _).trans (hHeld.2.1)))))))), ((cell_far (p := ⟨gb145, _, none⟩) NB157_145.1 _).trans (((cell_far (p := ⟨gb145, _, none⟩) NB157_145.1 _).trans (((cell_far (p := ⟨gb145, _, none⟩) NB157_145.1 _).trans (((cell_far (p := ⟨gb145, _, none⟩) NB157_145.1 _).trans (hHeld.2.2.1)))))))), ((cell_far (p := ⟨gb145, _, none⟩) NB157_145.1 _).trans (((cell_far (p := ⟨gb145, _, none⟩) NB157_145.1 _).trans (((cell_far (p := ⟨gb145, _, none⟩) NB157_145.1 _).trans (((cell_far (p := ⟨gb145, _, none⟩) NB157_145.1 _).trans (hHeld.2.2.2))))))))⟩ (fun hHeld => ?_)
   clear hK K
   refine done_ (by kernel_rfl) ?_
   try go_wp2
   refine bodyPost_ret (results_cc rfl _ _ gb144 gb145 51 28 #[.slice none 0 0, .slice none 0 0] #[.int .i64 t152, .string t153, .int .i64 t154, .int .i64 t155] (0, 0) (0, 0) _ _ rfl (kf BK144) Try.underlying51 rfl (by kernel_rfl) rfl (kf BK145) Try.underlying28 rfl (by kernel_rfl)) rfl ?_
   exact ⟨_, _, by first | rfl | (simp [errW_none, errW_some] <;> rfl) | (simp [*, errW_none, errW_some] <;> rfl), by first | exact R_nil _ _ _ _ _ | exact N_nil _ _ _ _ _ | exact V_nil _ _ _ _ _ | exact Q_nil _ _ _ _ _ | exact S_nil _ _ _ _ _, by first | exact S_nil _ _ _ _ _ | exact N_nil _ _ _ _ _ | exact V_nil _ _ _ _ _ | exact Q_nil _ _ _ _ _ | exact R_nil _ _ _ _ _, hh HB⟩
 rw [if_pos c3] at H
 have c3b0 : (t152 == 0) = true := beq_iff_eq.mpr c3
 have c3b1 : (t152 != 0) = false := bne_eq_false_iff_eq.mpr c3
 clear c3
 replace H := Option.bind_eq_some_iff.mp H
 obtain ⟨t158, A40, H⟩ := H
 replace H : (if (t158.length : Int) > 0 then (if 0 < (t158.length : Int) then (if 0 <= (rd t158 0) then (if (rd t158 0) < (t146.length : Int) then (some (([] : List ByteArray), ([] : List (List Int)), 18, rdOf ByteArray.empty t146 (rd t158 0), 0, 0)) else (none)) else (none)) else (none)) else (some (t146, t149, 0, (⟨#[]⟩ : ByteArray), 0, 0))) = some (r1, r2, r3, r4, r5, r6) := H
 have A4 := aM A40
 clear A40
 by_cases c5 : (t158.length : Int) > 0
 rotate_left
 · rw [if_neg c5] at H
   have c5b0 : decide (0 < (t158.length : Int)) = false := decide_eq_false c5
   have c5b1 : decide (0 < t158.length) = false := decide_eq_false (by omega)
   clear c5
   simp only [Option.some.injEq, Prod.mk.injEq] at H
   obtain ⟨rfl, rfl, rfl, rfl, rfl, rfl⟩ := H
   go_enter Try.func24, Try.ntmps24
   go_wp2_with (first | ((with_reducible refine gate_dst (N := 2) rfl ?_); refine be 2 rfl rfl #[.slice none 0 0, .slice none 0 0] 51 ?_; intro gb144 hg w32 hbox hb; have BK144 := aM hbox; have GE144 := gs hg HB; replace HB := bs HB hb; clear hb hbox hg) | ((with_reducible refine gate_dst (N := 3) rfl ?_); refine be 3 rfl rfl #[.int .i64 0, .string (⟨#[]⟩ : ByteArray), .int .i64 0, .int .i64 0] 28 ?_; intro gb145 hg w33 hbox hb; have BK145 := aM hbox; have GE145 := gs hg HB; have NB144_145 := nl hg BK144; have NB145_144 := nr hg BK144; replace BK144 := kb BK144 hb; replace HB := bs HB hb; clear hb hbox hg) | ((with_reducible refine gate_callee (f := 34) rfl ?_); refine gL (some 9) rfl rfl Try.func34 (by kernel_rfl) rfl #[.slice A0 l0.length c0] rfl ?_; (with_reducible refine (m_made.calls _ _ l0 t146 t149 t152 t153 t154 t155 _ ?side1 ?side2 A2.1).mono ?_); (case side1 => exact cb HR0 HB); (case side2 => exact HC0.1); rintro e w34 ⟨v147, v150, rfl, ho0, ho1, hb⟩; refine ⟨_, rfl, ?_⟩; have HO148 := aM (R_lower ho0 (below_size (hh HB))); have HO151 := aM (S_lower ho1 (below_size (hh HB))); replace BK144 := kb BK144 hb; replace BK145 := kb BK145 hb; replace HB := bs HB hb; clear hb ho0 ho1) | ((with_reducible refine gate_dst (N := 4) rfl ?_); refine be 4 rfl rfl #[.slice none 0 0, .slice none 0 0] 51 ?_; intro gb156 hg w35 hbox hb; have BK156 := aM hbox; have GE156 := gs hg HB; have NB144_156 := nl hg BK144; have NB156_144 := nr hg BK144; have NB145_156 := nl hg BK145; have NB156_145 := nr hg BK145; replace HO148 := rb HO148 hb; replace HO151 := sb HO151 hb; replace BK144 := kb BK144 hb; replace BK145 := kb BK145 hb; replace HB := bs HB hb; clear hb hbox hg) | ((with_reducible refine gate_dst (N := 5) rfl ?_); refine be 5 rfl rfl #[.int .i64 0, .string (⟨#[]⟩ : ByteArray), .int .i64 0, .int .i64 0] 28 ?_; intro gb157 hg w36 hbox hb; have BK157 := aM hbox; have GE157 := gs hg HB; have NB144_157 := nl hg BK144; have NB157_144 := nr hg BK144; have NB145_157 := nl hg BK145; have NB157_145 := nr hg BK145; have NB156_157 := nl hg BK156; have NB157_156 := nr hg BK156; replace HO148 := rb HO148 hb; replace HO151 := sb HO151 hb; replace BK144 := kb BK144 hb; replace BK145 := kb BK145 hb; replace BK156 := kb BK156 hb; replace HB := bs HB hb; clear hb hbox hg; obtain ⟨Ao37, co37, eo37⟩ := R_slice HO148.1; subst eo37; have hnb38 := NB156_144.1; have hnc38 := NB144_156.1; have hnb39 := NB156_145.1; have hnc39 := NB145_156.1; have hnb40 := NB156_157.1; have hnc40 := NB157_156.1; obtain ⟨hcz41_0, hcz41_1⟩ := cz2 BK156; obtain ⟨hfz41_0, hfz41_1⟩ := fz2 BK156; obtain ⟨Ao42, co42, eo42⟩ := S_slice HO151.1; subst eo42; have hnb43 := NB157_144.1; have hnc43 := NB144_157.1; have hnb44 := NB157_145.1; have hnc44 := NB145_157.1; obtain ⟨hcz45_0, hcz45_1, hcz45_2, hcz45_3⟩ := cz BK157; obtain ⟨hfz45_0, hfz45_1, hfz45_2, hfz45_3⟩ := fz BK157) | ((with_reducible refine gate_callee (f := 35) rfl ?_); refine gL (some 18) rfl rfl Try.func35 (by kernel_rfl) rfl #[.agg #[.slice Ao37 t146.length co37, .slice Ao42 t149.length co42]] rfl ?_; (with_reducible refine (p_cycle.calls k _ _ t146 _ _ t149 t158 _ ?side1 ?side2 ?side3 ?side4 A4.1).mono ?_); (case side1 => exact c2 (rf24 HO148 BK156 (by decide) BK157 (by decide))); (case side2 => exact (R_reads' HO148.1).2.1); (case side3 => exact c3 (sf24 HO151 BK156 (by decide) BK157 (by decide))); (case side4 => exact (S_reads' HO151.1).2.1); rintro e w46 ⟨v159, rfl, ho0, hb⟩; refine ⟨_, rfl, ?_⟩; have HO160 := aM (R_lower ho0 (below_size (hh HB))); replace HO148 := aM (R_below (rz (rf24 HO148 BK156 (by decide) BK157 (by decide))) hb); replace HO151 := aM (S_elder' (sz (sf24 HO151 BK156 (by decide) BK157 (by decide))) (R_base ho0) hb); replace BK144 := kg (o' := .cells #[.slice none 0 0, .slice none 0 0] 51 (0, 0)) BK144 hb; replace BK145 := kg (o' := .cells #[.int .i64 0, .string (⟨#[]⟩ : ByteArray), .int .i64 0, .int .i64 0] 28 (0, 0)) BK145 hb; replace BK156 := kg (o' := .cells #[.slice Ao37 t146.length co37, .slice Ao42 t149.length co42] 51 (0, 0)) BK156 hb; replace BK157 := kg (o' := .cells #[.int .i64 t152, .string t153, .int .i64 t154, .int .i64 t155] 28 (0, 0)) BK157 hb; replace HB := bs HB hb; clear hb ho0; obtain ⟨Ao47, co47, eo47⟩ := R_slice HO160.1; subst eo47; obtain ⟨hcz48_0, hcz48_1⟩ := cz2 BK156; obtain ⟨hfz48_0, hfz48_1⟩ := fz2 BK156; have hnb49 := NB144_145.1; have hnc49 := NB145_144.1; obtain ⟨hcz50_0, hcz50_1⟩ := cz2 BK144; obtain ⟨hfz50_0, hfz50_1⟩ := fz2 BK144; obtain ⟨hcz51_0, hcz51_1, hcz51_2, hcz51_3⟩ := cz BK145; obtain ⟨hfz51_0, hfz51_1, hfz51_2, hfz51_3⟩ := fz BK145))
   refine bodyPost_ret (results_cc rfl _ _ gb144 gb145 51 28 #[.slice Ao37 t146.length co37, .slice Ao42 t149.length co42] #[.int .i64 0, .string (⟨#[]⟩ : ByteArray), .int .i64 0, .int .i64 0] (0, 0) (0, 0) _ _ rfl (kf BK144) Try.underlying51 rfl (by kernel_rfl) rfl (kf BK145) Try.underlying28 rfl (by kernel_rfl)) rfl ?_
   exact ⟨_, _, by first | rfl | (simp [errW_none, errW_some] <;> rfl) | (simp [*, errW_none, errW_some] <;> rfl), rz (R_mono (R_far (p := ⟨gb145, 3, none⟩) (R_far (p := ⟨gb145, 2, none⟩) (R_far (p := ⟨gb145, 1, none⟩) (R_far (p := ⟨gb145, 0, none⟩) (R_far (p := ⟨gb144, 1, none⟩) (R_far (p := ⟨gb144, 0, none⟩) (R_types (R_types HO148.1 BK144.1 (by decide)) BK145.1 (by decide)) (fun _ hk => hk.1.2) (.slice Ao37 t146.length co37)) (fun _ hk => hk.1.2) (.slice Ao42 t149.length co42)) (fun _ hk => hk.2) (.int .i64 0)) (fun _ hk => hk.2) (.string (⟨#[]⟩ : ByteArray))) (fun _ hk => hk.2) (.int .i64 0)) (fun _ hk => hk.2) (.int .i64 0)) (fun _ hk => trivial)), sz (S_mono (S_far (p := ⟨gb145, 3, none⟩) (S_far (p := ⟨gb145, 2, none⟩) (S_far (p := ⟨gb145, 1, none⟩) (S_far (p := ⟨gb145, 0, none⟩) (S_far (p := ⟨gb144, 1, none⟩) (S_far (p := ⟨gb144, 0, none⟩) (S_types (S_types HO151.1 BK144.1 (by decide)) BK145.1 (by decide)) (fun _ hk => hk.1.2) (.slice Ao37 t146.length co37)) (fun _ hk => hk.1.2) (.slice Ao42 t149.length co42)) (fun _ hk => hk.2) (.int .i64 0)) (fun _ hk => hk.2) (.string (⟨#[]⟩ : ByteArray))) (fun _ hk => hk.2) (.int .i64 0)) (fun _ hk => hk.2) (.int .i64 0)) (fun _ hk => trivial)), hh HB⟩
 rw [if_pos c5] at H
 have c5b0 : decide (0 < (t158.length : Int)) = true := decide_eq_true c5
 have c5b1 : decide (0 < t158.length) = true := decide_eq_true (by omega)
 clear c5
 by_cases c6 : 0 < (t158.length : Int)
 rotate_left
 · rw [if_neg c6] at H
   exact absurd H (by simp)
 rw [if_pos c6] at H
 have c6b0 : decide (0 < (t158.length : Int)) = true := decide_eq_true c6
 have c6b1 : decide (0 < t158.length) = true := decide_eq_true (by omega)
 clear c6
 by_cases c7 : 0 <= (rd t158 0)
 rotate_left
 · rw [if_neg c7] at H
   exact absurd H (by simp)
 rw [if_pos c7] at H
 have c7b0 : decide (0 <= (rd t158 0)) = true := decide_eq_true c7
 clear c7
 by_cases c8 : (rd t158 0) < (t146.length : Int)
 rotate_left
 · rw [if_neg c8] at H
   exact absurd H (by simp)
 rw [if_pos c8] at H
 have c8b0 : decide ((rd t158 0) < (t146.length : Int)) = true := decide_eq_true c8
 clear c8
 simp only [Option.some.injEq, Prod.mk.injEq] at H
 obtain ⟨rfl, rfl, rfl, rfl, rfl, rfl⟩ := H
 go_enter Try.func24, Try.ntmps24
 try go_wp2_with (first | ((with_reducible refine gate_dst (N := 2) rfl ?_); refine be 2 rfl rfl #[.slice none 0 0, .slice none 0 0] 51 ?_; intro gb144 hg w9 hbox hb; have BK144 := aM hbox; have GE144 := gs hg HB; replace HB := bs HB hb; clear hb hbox hg) | ((with_reducible refine gate_dst (N := 3) rfl ?_); refine be 3 rfl rfl #[.int .i64 0, .string (⟨#[]⟩ : ByteArray), .int .i64 0, .int .i64 0] 28 ?_; intro gb145 hg w10 hbox hb; have BK145 := aM hbox; have GE145 := gs hg HB; have NB144_145 := nl hg BK144; have NB145_144 := nr hg BK144; replace BK144 := kb BK144 hb; replace HB := bs HB hb; clear hb hbox hg) | ((with_reducible refine gate_callee (f := 34) rfl ?_); refine gL (some 9) rfl rfl Try.func34 (by kernel_rfl) rfl #[.slice A0 l0.length c0] rfl ?_; (with_reducible refine (m_made.calls _ _ l0 t146 t149 t152 t153 t154 t155 _ ?side1 ?side2 A2.1).mono ?_); (case side1 => exact cb HR0 HB); (case side2 => exact HC0.1); rintro e w11 ⟨v147, v150, rfl, ho0, ho1, hb⟩; refine ⟨_, rfl, ?_⟩; have HO148 := aM (R_lower ho0 (below_size (hh HB))); have HO151 := aM (S_lower ho1 (below_size (hh HB))); replace BK144 := kb BK144 hb; replace BK145 := kb BK145 hb; replace HB := bs HB hb; clear hb ho0 ho1) | ((with_reducible refine gate_dst (N := 4) rfl ?_); refine be 4 rfl rfl #[.slice none 0 0, .slice none 0 0] 51 ?_; intro gb156 hg w12 hbox hb; have BK156 := aM hbox; have GE156 := gs hg HB; have NB144_156 := nl hg BK144; have NB156_144 := nr hg BK144; have NB145_156 := nl hg BK145; have NB156_145 := nr hg BK145; replace HO148 := rb HO148 hb; replace HO151 := sb HO151 hb; replace BK144 := kb BK144 hb; replace BK145 := kb BK145 hb; replace HB := bs HB hb; clear hb hbox hg) | ((with_reducible refine gate_dst (N := 5) rfl ?_); refine be 5 rfl rfl #[.int .i64 0, .string (⟨#[]⟩ : ByteArray), .int .i64 0, .int .i64 0] 28 ?_; intro gb157 hg w13 hbox hb; have BK157 := aM hbox; have GE157 := gs hg HB; have NB144_157 := nl hg BK144; have NB157_144 := nr hg BK144; have NB145_157 := nl hg BK145; have NB157_145 := nr hg BK145; have NB156_157 := nl hg BK156; have NB157_156 := nr hg BK156; replace HO148 := rb HO148 hb; replace HO151 := sb HO151 hb; replace BK144 := kb BK144 hb; replace BK145 := kb BK145 hb; replace BK156 := kb BK156 hb; replace HB := bs HB hb; clear hb hbox hg; obtain ⟨Ao14, co14, eo14⟩ := R_slice HO148.1; subst eo14; have hnb15 := NB156_144.1; have hnc15 := NB144_156.1; have hnb16 := NB156_145.1; have hnc16 := NB145_156.1; have hnb17 := NB156_157.1; have hnc17 := NB157_156.1; obtain ⟨hcz18_0, hcz18_1⟩ := cz2 BK156; obtain ⟨hfz18_0, hfz18_1⟩ := fz2 BK156; obtain ⟨Ao19, co19, eo19⟩ := S_slice HO151.1; subst eo19; have hnb20 := NB157_144.1; have hnc20 := NB144_157.1; have hnb21 := NB157_145.1; have hnc21 := NB145_157.1; obtain ⟨hcz22_0, hcz22_1, hcz22_2, hcz22_3⟩ := cz BK157; obtain ⟨hfz22_0, hfz22_1, hfz22_2, hfz22_3⟩ := fz BK157) | ((with_reducible refine gate_callee (f := 35) rfl ?_); refine gL (some 18) rfl rfl Try.func35 (by kernel_rfl) rfl #[.agg #[.slice Ao14 t146.length co14, .slice Ao19 t149.length co19]] rfl ?_; (with_reducible refine (p_cycle.calls k _ _ t146 _ _ t149 t158 _ ?side1 ?side2 ?side3 ?side4 A4.1).mono ?_); (case side1 => exact c2 (rf24 HO148 BK156 (by decide) BK157 (by decide))); (case side2 => exact (R_reads' HO148.1).2.1); (case side3 => exact c3 (sf24 HO151 BK156 (by decide) BK157 (by decide))); (case side4 => exact (S_reads' HO151.1).2.1); rintro e w23 ⟨v159, rfl, ho0, hb⟩; refine ⟨_, rfl, ?_⟩; have HO160 := aM (R_lower ho0 (below_size (hh HB))); replace HO148 := aM (R_below (rz (rf24 HO148 BK156 (by decide) BK157 (by decide))) hb); replace HO151 := aM (S_elder' (sz (sf24 HO151 BK156 (by decide) BK157 (by decide))) (R_base ho0) hb); replace BK144 := kg (o' := .cells #[.slice none 0 0, .slice none 0 0] 51 (0, 0)) BK144 hb; replace BK145 := kg (o' := .cells #[.int .i64 0, .string (⟨#[]⟩ : ByteArray), .int .i64 0, .int .i64 0] 28 (0, 0)) BK145 hb; replace BK156 := kg (o' := .cells #[.slice Ao14 t146.length co14, .slice Ao19 t149.length co19] 51 (0, 0)) BK156 hb; replace BK157 := kg (o' := .cells #[.int .i64 t152, .string t153, .int .i64 t154, .int .i64 t155] 28 (0, 0)) BK157 hb; replace HB := bs HB hb; clear hb ho0; obtain ⟨Ao24, co24, eo24⟩ := R_slice HO160.1; subst eo24))
 replace HO148 := aM (R_drew HO148.1)
 replace HO151 := aM (S_drew HO151.1)
 replace HO160 := aM (R_drew HO160.1)
 replace BK144 := aM (blk_drew BK144.1)
 replace BK145 := aM (blk_drew BK145.1)
 replace BK156 := aM (blk_drew BK156.1)
 replace BK157 := aM (blk_drew BK157.1)
 replace HB := aM (below_drew1 HB.1)
 have p161 : 0 <= (0 : Int) := (by omega)
 have q161 : 0 < (t158.length : Int) := dt
 obtain ⟨ad161, e161, hx161_0⟩ := Kd.at_int (R_reads' HO160.1).2.2 0 p161 q161
 cases e161
 have qi161 : (0 < t158.length) = True := eq_true (by omega)
 (try rw [show ((0 : Int)).toNat = 0 from rfl] at hx161_0)
 (try rw [Addr.add_zero'] at hx161_0)
 replace p161 := eq_true p161
 replace q161 := eq_true q161
 have p162 : 0 <= ((rd t158 0) : Int) := dt
 have q162 : (rd t158 0) < (t146.length : Int) := dt
 obtain ⟨ad162, e162, hx162_0⟩ := Kd.at_string (R_reads' HO148.1).2.2 (rd t158 0) p162 q162
 cases e162
 replace p162 := eq_true p162
 replace q162 := eq_true q162
 refine start_ (n := 11) (S := fun w' => w'.cell? ⟨gb156, 0, none⟩ = some (.slice (some ad162) t146.length co14) /\ w'.cell? ⟨gb156, 1, none⟩ = some (.slice Ao19 t149.length co19) /\ w'.cell? ad161 = some (.int .i64 (rd t158 0)) /\ w'.cell? (ad162.add ((rd t158 0)).toNat) = some (.string (rdOf ByteArray.empty t146 (rd t158 0)))) (ds := []) #[F_, F_, F_, F_, F_, F_, F_, F_, F_, F_, F_] (by kernel_rfl) rfl rfl ⟨(blk_cell BK156.1 0).trans rfl, (blk_cell BK156.1 1).trans rfl, hx161_0, hx162_0⟩ (fun hHeld => ?_); refine with_tabW m_acyclic.tab6 m_acyclic.bits6 (fun HT_ HW_ => ?_)
 generalize w23.drew = w25 at HO148 HO151 HO160 BK144 BK145 BK156 BK157 HB hx161_0 hx162_0 hHeld ⊢
 refine pure_ (i := 0) (N := some 22) (v := ?_) (a' := ?_) #[T_, F_, F_, F_, F_, F_, F_, F_, F_, F_, F_] rfl rfl (any_of HT_.1 (by kernel_rfl)) (fun _ _ _ h => h) (Or.inl ⟨by rfl, ?_⟩) ?_ ?_
 rotate_left
 · intro w'
   go_simp
   with_reducible rfl
 rotate_left
 · simp only [Act.put, sA, sZ, sS, i64_w, i32_w]
   rfl
 refine pure_ (i := 1) (N := some 23) (v := ?_) (a' := ?_) #[T_, T_, F_, F_, F_, F_, F_, F_, F_, F_, F_] rfl rfl (any_of HT_.1 (by kernel_rfl)) (fun _ _ _ h => h) (Or.inl ⟨by rfl, ?_⟩) ?_ ?_
 rotate_left
 · intro w'
   go_simp
   with_reducible rfl
 rotate_left
 · simp only [Act.put, sA, sZ, sS, i64_w, i32_w]
   rfl
 refine pure_ (i := 3) (N := some 25) (v := ?_) (a' := ?_) #[T_, T_, F_, T_, F_, F_, F_, F_, F_, F_, F_] rfl rfl (any_of HT_.1 (by kernel_rfl)) (fun _ _ _ h => h) (Or.inl ⟨by rfl, ?_⟩) ?_ ?_
 rotate_left
 · intro w'
   go_simp
   with_reducible rfl
 rotate_left
 · simp only [Act.put, sA, sZ, sS, i64_w, i32_w]
   rfl
 refine pure_ (i := 4) (N := some 26) (v := ?_) (a' := ?_) #[T_, T_, F_, T_, T_, F_, F_, F_, F_, F_, F_] rfl rfl (any_of HT_.1 (by kernel_rfl)) (fun _ _ _ h => h) (Or.inl ⟨by rfl, ?_⟩) ?_ ?_
 rotate_left
 · intro w'
   go_simp
   with_reducible rfl
 rotate_left
 · simp only [Act.put, sA, sZ, sS, i64_w, i32_w]
   rfl
 refine take_ (i := 2) (N := some 24) (v := ?_) (a' := ?_) #[T_, T_, T_, T_, T_, F_, F_, F_, F_, F_, F_] rfl rfl (take_ofW HT_.1 HW_.1 (by kernel_rfl)) (fun _ _ _ h => h) (Or.inl ⟨by rfl, ?_⟩) hHeld ?_ ?_
 rotate_left
 · rintro w' ⟨s0, s1, s2, s3⟩
   go_simp
   with_reducible rfl
 rotate_left
 · simp only [Act.put, sA, sZ, sS, i64_w, i32_w]
   rfl
 refine take_ (i := 5) (N := some 27) (v := ?_) (a' := ?_) #[T_, T_, T_, T_, T_, T_, F_, F_, F_, F_, F_] rfl rfl (take_ofW HT_.1 HW_.1 (by kernel_rfl)) (fun _ _ _ h => h) (Or.inl ⟨by rfl, ?_⟩) hHeld ?_ ?_
 rotate_left
 · rintro w' ⟨s0, s1, s2, s3⟩
   go_simp
   with_reducible rfl
 rotate_left
 · simp only [Act.put, sA, sZ, sS, i64_w, i32_w]
   rfl
 refine pure_ (i := 6) (N := some 28) (v := ?_) (a' := ?_) #[T_, T_, T_, T_, T_, T_, T_, F_, F_, F_, F_] rfl rfl (any_of HT_.1 (by kernel_rfl)) (fun _ _ _ h => h) (Or.inl ⟨by rfl, ?_⟩) ?_ ?_
 rotate_left
 · intro w'
   go_simp
   with_reducible rfl
 rotate_left
 · simp only [Act.put, sA, sZ, sS, i64_w, i32_w]
   rfl
 refine take_ (i := 7) (N := some 29) (v := ?_) (a' := ?_) #[T_, T_, T_, T_, T_, T_, T_, T_, F_, F_, F_] rfl rfl (take_ofW HT_.1 HW_.1 (by kernel_rfl)) (fun _ _ _ h => h) (Or.inl ⟨by rfl, ?_⟩) hHeld ?_ ?_
 rotate_left
 · rintro w' ⟨s0, s1, s2, s3⟩
   go_simp
   with_reducible rfl
 rotate_left
 · simp only [Act.put, sA, sZ, sS, i64_w, i32_w]
   rfl
 refine pure_ (i := 8) (N := some 30) (v := ?_) (a' := ?_) #[T_, T_, T_, T_, T_, T_, T_, T_, T_, F_, F_] rfl rfl (any_of HT_.1 (by kernel_rfl)) (fun _ _ _ h => h) (Or.inl ⟨by rfl, ?_⟩) ?_ ?_
 rotate_left
 · intro w'
   go_simp
   with_reducible rfl
 rotate_left
 · simp only [Act.put, sA, sZ, sS, i64_w, i32_w]
   rfl
 refine one_ (i := 9) (N := none) #[T_, T_, T_, T_, T_, T_, T_, T_, T_, T_, F_] rfl rfl (one_of HT_.1 (by kernel_rfl)) (by decide) (fun K hK => ?_)
 have hs26 : w25.cell? ⟨gb144, 0, none⟩ = some (.slice none 0 0) := (blk_cell BK144.1 0).trans rfl
 have hfs26 := blk_frozen BK144.1 0
 have hns26_1 := NB145_144.1
 have hns26_2 := NB156_144.1
 have hns26_3 := NB157_144.1
 have hms26_1 := NB144_145.1
 have hms26_2 := NB144_156.1
 have hms26_3 := NB144_157.1
 have hs27 : w25.cell? ⟨gb144, 1, none⟩ = some (.slice none 0 0) := (blk_cell BK144.1 1).trans rfl
 have hfs27 := blk_frozen BK144.1 1
 have hns27_1 := NB145_144.1
 have hns27_2 := NB156_144.1
 have hns27_3 := NB157_144.1
 have hms27_1 := NB144_145.1
 have hms27_2 := NB144_156.1
 have hms27_3 := NB144_157.1
 refine skip_ (w1 := ?_) (by rfl) rfl ?_ ?_
 rotate_left
 · go_simp
   rfl
 refine hK.out _ _ ⟨((cell_far (p := ⟨gb144, _, none⟩) NB156_144.1 _).trans (((cell_far (p := ⟨gb144, _, none⟩) NB156_144.1 _).trans (hHeld.1)))), ((cell_far (p := ⟨gb144, _, none⟩) NB156_144.1 _).trans (((cell_far (p := ⟨gb144, _, none⟩) NB156_144.1 _).trans (hHeld.2.1)))), ((cell_far (p := ⟨gb144, _, none⟩) (by first | exact Kd.own_blk (R_ne HO160.1 BK144.1 (by decide)) | (rw [add_block]; exact Kd.own_blk (R_ne HO160.1 BK144.1 (by decide))) | (show (Addr.add _ _).block ≠ _; rw [add_block]; exact Kd.own_blk (R_ne HO160.1 BK144.1 (by decide))) | (dsimp only; exact Kd.own_blk (R_ne HO160.1 BK144.1 (by decide)))) _).trans (((cell_far (p := ⟨gb144, _, none⟩) (by first | exact Kd.own_blk (R_ne HO160.1 BK144.1 (by decide)) | (rw [add_block]; exact Kd.own_blk (R_ne HO160.1 BK144.1 (by decide))) | (show (Addr.add _ _).block ≠ _; rw [add_block]; exact Kd.own_blk (R_ne HO160.1 BK144.1 (by decide))) | (dsimp only; exact Kd.own_blk (R_ne HO160.1 BK144.1 (by decide)))) _).trans (hHeld.2.2.1)))), ((cell_far (p := ⟨gb144, _, none⟩) (by first | exact Kd.own_blk (R_ne HO148.1 BK144.1 (by decide)) | (rw [add_block]; exact Kd.own_blk (R_ne HO148.1 BK144.1 (by decide))) | (show (Addr.add _ _).block ≠ _; rw [add_block]; exact Kd.own_blk (R_ne HO148.1 BK144.1 (by decide))) | (dsimp only; exact Kd.own_blk (R_ne HO148.1 BK144.1 (by decide)))) _).trans (((cell_far (p := ⟨gb144, _, none⟩) (by first | exact Kd.own_blk (R_ne HO148.1 BK144.1 (by decide)) | (rw [add_block]; exact Kd.own_blk (R_ne HO148.1 BK144.1 (by decide))) | (show (Addr.add _ _).block ≠ _; rw [add_block]; exact Kd.own_blk (R_ne HO148.1 BK144.1 (by decide))) | (dsimp only; exact Kd.own_blk (R_ne HO148.1 BK144.1 (by decide)))) _).trans (hHeld.2.2.2))))⟩ (fun hHeld => ?_)
 clear hK K
 refine one_ (i := 10) (N := none) #[T_, T_, T_, T_, T_, T_, T_, T_, T_, T_, T_] rfl rfl (one_of HT_.1 (by kernel_rfl)) (by decide) (fun K hK => ?_)
 have hs28 : w25.cell? ⟨gb145, 0, none⟩ = some (.int .i64 0) := (blk_cell BK145.1 0).trans rfl
 have hfs28 := blk_frozen BK145.1 0
 have hns28_0 := NB144_145.1
 have hns28_2 := NB156_145.1
 have hns28_3 := NB157_145.1
 have hms28_0 := NB145_144.1
 have hms28_2 := NB145_156.1
 have hms28_3 := NB145_157.1
 have hs29 : w25.cell? ⟨gb145, 1, none⟩ = some (.string (⟨#[]⟩ : ByteArray)) := (blk_cell BK145.1 1).trans rfl
 have hfs29 := blk_frozen BK145.1 1
 have hns29_0 := NB144_145.1
 have hns29_2 := NB156_145.1
 have hns29_3 := NB157_145.1
 have hms29_0 := NB145_144.1
 have hms29_2 := NB145_156.1
 have hms29_3 := NB145_157.1
 have hs30 : w25.cell? ⟨gb145, 2, none⟩ = some (.int .i64 0) := (blk_cell BK145.1 2).trans rfl
 have hfs30 := blk_frozen BK145.1 2
 have hns30_0 := NB144_145.1
 have hns30_2 := NB156_145.1
 have hns30_3 := NB157_145.1
 have hms30_0 := NB145_144.1
 have hms30_2 := NB145_156.1
 have hms30_3 := NB145_157.1
 have hs31 : w25.cell? ⟨gb145, 3, none⟩ = some (.int .i64 0) := (blk_cell BK145.1 3).trans rfl
 have hfs31 := blk_frozen BK145.1 3
 have hns31_0 := NB144_145.1
 have hns31_2 := NB156_145.1
 have hns31_3 := NB157_145.1
 have hms31_0 := NB145_144.1
 have hms31_2 := NB145_156.1
 have hms31_3 := NB145_157.1
 refine skip_ (w1 := ?_) (by rfl) rfl ?_ ?_
 rotate_left
 · go_simp
   rfl
 refine hK.out _ _ ⟨((cell_far (p := ⟨gb145, _, none⟩) NB156_145.1 _).trans (((cell_far (p := ⟨gb145, _, none⟩) NB156_145.1 _).trans (((cell_far (p := ⟨gb145, _, none⟩) NB156_145.1 _).trans (((cell_far (p := ⟨gb145, _, none⟩) NB156_145.1 _).trans (hHeld.1)))))))), ((cell_far (p := ⟨gb145, _, none⟩) NB156_145.1 _).trans (((cell_far (p := ⟨gb145, _, none⟩) NB156_145.1 _).trans (((cell_far (p := ⟨gb145, _, none⟩) NB156_145.1 _).trans (((cell_far (p := ⟨gb145, _, none⟩) NB156_145.1 _).trans (hHeld.2.1)))))))), ((cell_far (p := ⟨gb145, _, none⟩) (by first | exact Kd.own_blk (R_ne HO160.1 BK145.1 (by decide)) | (rw [add_block]; exact Kd.own_blk (R_ne HO160.1 BK145.1 (by decide))) | (show (Addr.add _ _).block ≠ _; rw [add_block]; exact Kd.own_blk (R_ne HO160.1 BK145.1 (by decide))) | (dsimp only; exact Kd.own_blk (R_ne HO160.1 BK145.1 (by decide)))) _).trans (((cell_far (p := ⟨gb145, _, none⟩) (by first | exact Kd.own_blk (R_ne HO160.1 BK145.1 (by decide)) | (rw [add_block]; exact Kd.own_blk (R_ne HO160.1 BK145.1 (by decide))) | (show (Addr.add _ _).block ≠ _; rw [add_block]; exact Kd.own_blk (R_ne HO160.1 BK145.1 (by decide))) | (dsimp only; exact Kd.own_blk (R_ne HO160.1 BK145.1 (by decide)))) _).trans (((cell_far (p := ⟨gb145, _, none⟩) (by first | exact Kd.own_blk (R_ne HO160.1 BK145.1 (by decide)) | (rw [add_block]; exact Kd.own_blk (R_ne HO160.1 BK145.1 (by decide))) | (show (Addr.add _ _).block ≠ _; rw [add_block]; exact Kd.own_blk (R_ne HO160.1 BK145.1 (by decide))) | (dsimp only; exact Kd.own_blk (R_ne HO160.1 BK145.1 (by decide)))) _).trans (((cell_far (p := ⟨gb145, _, none⟩) (by first | exact Kd.own_blk (R_ne HO160.1 BK145.1 (by decide)) | (rw [add_block]; exact Kd.own_blk (R_ne HO160.1 BK145.1 (by decide))) | (show (Addr.add _ _).block ≠ _; rw [add_block]; exact Kd.own_blk (R_ne HO160.1 BK145.1 (by decide))) | (dsimp only; exact Kd.own_blk (R_ne HO160.1 BK145.1 (by decide)))) _).trans (hHeld.2.2.1)))))))), ((cell_far (p := ⟨gb145, _, none⟩) (by first | exact Kd.own_blk (R_ne HO148.1 BK145.1 (by decide)) | (rw [add_block]; exact Kd.own_blk (R_ne HO148.1 BK145.1 (by decide))) | (show (Addr.add _ _).block ≠ _; rw [add_block]; exact Kd.own_blk (R_ne HO148.1 BK145.1 (by decide))) | (dsimp only; exact Kd.own_blk (R_ne HO148.1 BK145.1 (by decide)))) _).trans (((cell_far (p := ⟨gb145, _, none⟩) (by first | exact Kd.own_blk (R_ne HO148.1 BK145.1 (by decide)) | (rw [add_block]; exact Kd.own_blk (R_ne HO148.1 BK145.1 (by decide))) | (show (Addr.add _ _).block ≠ _; rw [add_block]; exact Kd.own_blk (R_ne HO148.1 BK145.1 (by decide))) | (dsimp only; exact Kd.own_blk (R_ne HO148.1 BK145.1 (by decide)))) _).trans (((cell_far (p := ⟨gb145, _, none⟩) (by first | exact Kd.own_blk (R_ne HO148.1 BK145.1 (by decide)) | (rw [add_block]; exact Kd.own_blk (R_ne HO148.1 BK145.1 (by decide))) | (show (Addr.add _ _).block ≠ _; rw [add_block]; exact Kd.own_blk (R_ne HO148.1 BK145.1 (by decide))) | (dsimp only; exact Kd.own_blk (R_ne HO148.1 BK145.1 (by decide)))) _).trans (((cell_far (p := ⟨gb145, _, none⟩) (by first | exact Kd.own_blk (R_ne HO148.1 BK145.1 (by decide)) | (rw [add_block]; exact Kd.own_blk (R_ne HO148.1 BK145.1 (by decide))) | (show (Addr.add _ _).block ≠ _; rw [add_block]; exact Kd.own_blk (R_ne HO148.1 BK145.1 (by decide))) | (dsimp only; exact Kd.own_blk (R_ne HO148.1 BK145.1 (by decide)))) _).trans (hHeld.2.2.2))))))))⟩ (fun hHeld => ?_)
 clear hK K
 refine done_ (done_of HT_.1 (by kernel_rfl)) ?_
 try go_wp2
 refine bodyPost_ret (results_cc rfl _ _ gb144 gb145 51 28 #[.slice none 0 0, .slice none 0 0] #[.int .i64 18, .string (rdOf ByteArray.empty t146 (rd t158 0)), .int .i64 0, .int .i64 0] (0, 0) (0, 0) _ _ rfl (kf BK144) Try.underlying51 rfl (by kernel_rfl) rfl (kf BK145) Try.underlying28 rfl (by kernel_rfl)) rfl ?_
 exact ⟨_, _, by first | rfl | (simp [errW_none, errW_some] <;> rfl) | (simp [*, errW_none, errW_some] <;> rfl), by first | exact R_nil _ _ _ _ _ | exact N_nil _ _ _ _ _ | exact V_nil _ _ _ _ _ | exact Q_nil _ _ _ _ _ | exact S_nil _ _ _ _ _, by first | exact S_nil _ _ _ _ _ | exact N_nil _ _ _ _ _ | exact V_nil _ _ _ _ _ | exact Q_nil _ _ _ _ _ | exact R_nil _ _ _ _ _, hh HB⟩
noncomputable def g_Components.f (k : Nat) (l0_0 : List (List Int)) : Option ((List (List Int))) := (g_valid.f k l0_0).bind fun t167 => (if t167 = true then ((g_ordered.f l0_0).bind fun t168 => (some t168)) else (some ([] : List (List Int))))
theorem g_Components.calls (k : Nat) (A0_0 : Option Addr) (c0_0 : Nat) (l0_0 : List (List Int)) (r : List (List Int)) (w : World) (hr0_0 : Kd.C (Kd.slice 3 (Kd.int .i64)) w A0_0 l0_0.length l0_0) (hc0_0 : l0_0.length <= c0_0) (h : g_Components.f k l0_0 = some r) :
 Calls Try.prog 25 #[.agg #[.slice A0_0 l0_0.length c0_0]] w fun e w' => ∃ v0_ : Value, e = .returned (v0_) /\ Kd.V (Kd.slice 3 (Kd.int .i64)) 55 w' w.heap.size (fun k_ => (w.heap.size <= k_)) v0_ r /\ Below w.heap.size w w' := by
 have hu49 := Try.underlying49
 have HR0_0 := aM hr0_0
 have HC0_0 := aM hc0_0
 clear hr0_0 hc0_0
 have HB := aM (Below.refl w.heap.size w)
 have H : ((g_valid.f k l0_0).bind fun t167 => (if t167 = true then ((g_ordered.f l0_0).bind fun t168 => (some t168)) else (some ([] : List (List Int))))) = some r := h
 clear h
 replace H := Option.bind_eq_some_iff.mp H
 obtain ⟨t167, A20, H⟩ := H
 try dsimp only at H
 have A2 := aM A20
 clear A20
 by_cases c3 : t167 = true
 rotate_left
 · replace c3 := Bool.eq_false_iff.mpr c3
   subst c3
   rw [if_neg (show ¬ (false = true) by decide)] at H
   obtain rfl := Option.some.inj H
   go_enter Try.func25, Try.ntmps25
   go_wp2_with (first | ((with_reducible refine gate_dst (N := 1) rfl ?_); refine be 1 rfl rfl #[.slice A0_0 l0_0.length c0_0] 49 ?_; intro gb166 hg w10 hbox hb; have BK166 := aM hbox; have GE166 := gs hg HB; replace HB := bs HB hb; clear hb hbox hg; have hcz11_0 : w10.cell? ⟨gb166, 0, none⟩ = some (.slice A0_0 l0_0.length c0_0) := (blk_cell BK166.1 0).trans rfl; have hfz11_0 := blk_frozen BK166.1 0) | ((with_reducible refine gate_callee (f := 39) rfl ?_); refine gL (some 4) rfl rfl Try.func39 (by kernel_rfl) rfl #[.agg #[.slice A0_0 l0_0.length c0_0]] rfl ?_; (with_reducible refine (g_valid.calls k _ _ l0_0 false _ ?side1 ?side2 A2.1).mono ?_); (case side1 => exact cb HR0_0 HB); (case side2 => exact HC0_0.1); rintro e w12 ⟨rfl, hb⟩; refine ⟨_, rfl, ?_⟩; replace BK166 := kb BK166 hb; replace HB := bs HB hb; clear hb))
   go_ret
   exact ⟨_, by first | rfl | (simp [errW_none, errW_some] <;> rfl) | (simp [*, errW_none, errW_some] <;> rfl), (by first | exact V_nil _ _ _ _ _ | exact S_V (S_nil _ _ 0 _ _) | exact N_nil _ _ _ _ _ | exact V_nil _ _ _ _ _ | exact Q_nil _ _ _ _ _ | exact R_nil _ _ _ _ _), hh HB⟩
 subst c3
 rw [if_pos rfl] at H
 replace H := Option.bind_eq_some_iff.mp H
 obtain ⟨t168, A40, H⟩ := H
 try dsimp only at H
 have A4 := aM A40
 clear A40
 obtain rfl := Option.some.inj H
 go_enter Try.func25, Try.ntmps25
 go_wp2_with (first | ((with_reducible refine gate_dst (N := 1) rfl ?_); refine be 1 rfl rfl #[.slice A0_0 l0_0.length c0_0] 49 ?_; intro gb166 hg w5 hbox hb; have BK166 := aM hbox; have GE166 := gs hg HB; replace HB := bs HB hb; clear hb hbox hg; have hcz6_0 : w5.cell? ⟨gb166, 0, none⟩ = some (.slice A0_0 l0_0.length c0_0) := (blk_cell BK166.1 0).trans rfl; have hfz6_0 := blk_frozen BK166.1 0) | ((with_reducible refine gate_callee (f := 39) rfl ?_); refine gL (some 4) rfl rfl Try.func39 (by kernel_rfl) rfl #[.agg #[.slice A0_0 l0_0.length c0_0]] rfl ?_; (with_reducible refine (g_valid.calls k _ _ l0_0 true _ ?side1 ?side2 A2.1).mono ?_); (case side1 => exact cb HR0_0 HB); (case side2 => exact HC0_0.1); rintro e w7 ⟨rfl, hb⟩; refine ⟨_, rfl, ?_⟩; replace BK166 := kb BK166 hb; replace HB := bs HB hb; clear hb; have hcz8_0 : w7.cell? ⟨gb166, 0, none⟩ = some (.slice A0_0 l0_0.length c0_0) := (blk_cell BK166.1 0).trans rfl; have hfz8_0 := blk_frozen BK166.1 0) | ((with_reducible refine gate_callee (f := 40) rfl ?_); refine gL (some 8) rfl rfl Try.func40 (by kernel_rfl) rfl #[.slice A0_0 l0_0.length c0_0] rfl ?_; (with_reducible refine (g_ordered.calls _ _ l0_0 t168 _ ?side1 ?side2 A4.1).mono ?_); (case side1 => exact cb HR0_0 HB); (case side2 => exact HC0_0.1); rintro e w9 ⟨v169, rfl, ho0, hb⟩; refine ⟨_, rfl, ?_⟩; have HO170 := aM (V_lower (V_mono (ok' := fun k_ => (w.heap.size <= k_) /\ k_ ≠ gb166) ho0 (fun k_ hk_ => ⟨(Nat.le_trans (below_size (hh HB)) hk_), (Kd.freshB (g := gb166) (o := .cells #[.slice A0_0 l0_0.length c0_0] 49 (0, 0)) (kk BK166) k_ hk_)⟩)) (below_size (hh HB))); replace BK166 := kb BK166 hb; replace HB := bs HB hb; clear hb ho0))
 go_ret
 exact ⟨_, by first | rfl | (simp [errW_none, errW_some] <;> rfl) | (simp [*, errW_none, errW_some] <;> rfl), by (with_reducible repeat (first | apply V_alloc | apply V_drewN | apply V_drew)); exact V_mono HO170.1 (fun _ hk => hk.1), hh HB⟩
noncomputable def m_Order.l0 : Nat -> List ByteArray -> List (List Int) -> Int -> Int -> List ByteArray -> List (List Int) -> Option (List ByteArray × Int × ByteArray × Int × Int)
 | 0, _, _, _, _, _, _ => none
 | k + 1, x6, x20, x21, x22, x189000, x189001 => if x22 < x21 then (if 0 <= x22 then (if x22 < (x20.length : Int) then ((p_named.f k x189000 x189001 (rd_L11 x20 x22)).bind fun t194 => (if x6.length + t194.length < 8796093022208 then (m_Order.l0 k (x6 ++ t194) x20 x21 (wrap64 (x22 + 1)) x189000 x189001) else (none))) else (none)) else (none)) else (some (x6, 0, (⟨#[]⟩ : ByteArray), 0, 0))
noncomputable def m_Order.f (k : Nat) (l0 : List (S42)) : Option (List ByteArray × Int × ByteArray × Int × Int) := (m_acyclic.f k l0).bind fun bt178 => (if bt178.2.2.1 = 0 then ((g_Components.f k bt178.2.1).bind fun t190 => (m_Order.l0 k ([] : List ByteArray) t190 (t190.length : Int) 0 bt178.1 bt178.2.1)) else (some (([] : List ByteArray), bt178.2.2.1, bt178.2.2.2.1, bt178.2.2.2.2.1, bt178.2.2.2.2.2)))
theorem m_Order.calls (k : Nat) (A0 : Option Addr) (c0 : Nat) (l0 : List (S42)) (r1 : List ByteArray) (r2 : Int) (r3 : ByteArray) (r4 : Int) (r5 : Int) (w : World) (hr0 : Kd.C k42 w A0 l0.length l0) (hc0 : l0.length <= c0) (h : m_Order.f k l0 = some (r1, r2, r3, r4, r5)) :
 Calls Try.prog 10 #[.slice A0 l0.length c0] w fun e w' => ∃ v0_ : Value, e = .returned (.tuple #[v0_, .agg #[.int .i64 r2, .string r3, .int .i64 r4, .int .i64 r5]]) /\ Kd.R Kd.string 9 w' w.heap.size (fun _ => True) v0_ r1 /\ Below w.heap.size w w' := by
 have hu28 := Try.underlying28
 have hu51 := Try.underlying51
 have hu49 := Try.underlying49
 have HR0 := aM hr0
 have HC0 := aM hc0
 clear hr0 hc0
 have HB := aM (Below.refl w.heap.size w)
 have H : ((m_acyclic.f k l0).bind fun bt178 => (if bt178.2.2.1 = 0 then ((g_Components.f k bt178.2.1).bind fun t190 => (m_Order.l0 k ([] : List ByteArray) t190 (t190.length : Int) 0 bt178.1 bt178.2.1)) else (some (([] : List ByteArray), bt178.2.2.1, bt178.2.2.2.1, bt178.2.2.2.2.1, bt178.2.2.2.2.2)))) = some (r1, r2, r3, r4, r5) := h
 clear h
 replace H := Option.bind_eq_some_iff.mp H
 obtain ⟨⟨t178, t181, t184, t185, t186, t187⟩, A20, H⟩ := H
 replace H : (if t184 = 0 then ((g_Components.f k t181).bind fun t190 => (m_Order.l0 k ([] : List ByteArray) t190 (t190.length : Int) 0 t178 t181)) else (some (([] : List ByteArray), t184, t185, t186, t187))) = some (r1, r2, r3, r4, r5) := H
 have A2 := aM A20
 clear A20
 by_cases c3 : t184 = 0
 rotate_left
 · rw [if_neg c3] at H
   have c3b0 : (t184 == 0) = false := beq_eq_false_iff_ne.mpr c3
   have c3b1 : (t184 != 0) = true := bne_iff_ne.mpr c3
   simp only [Option.some.injEq, Prod.mk.injEq] at H
   obtain ⟨rfl, rfl, rfl, rfl, rfl⟩ := H
   go_enter Try.func10, Try.ntmps10
   try go_wp2_with (first | ((with_reducible refine gate_dst (N := 3) rfl ?_); refine be 3 rfl rfl #[.int .i64 0, .string (⟨#[]⟩ : ByteArray), .int .i64 0, .int .i64 0] 28 ?_; intro gb177 hg w32 hbox hb; have BK177 := aM hbox; have GE177 := gs hg HB; replace HB := bs HB hb; clear hb hbox hg) | ((with_reducible refine gate_callee (f := 24) rfl ?_); refine gL (some 11) rfl rfl Try.func24 (by kernel_rfl) rfl #[.slice A0 l0.length c0] rfl ?_; (with_reducible refine (m_acyclic.calls k _ _ l0 t178 t181 t184 t185 t186 t187 _ ?side1 ?side2 A2.1).mono ?_); (case side1 => exact cb HR0 HB); (case side2 => exact HC0.1); rintro e w33 ⟨v179, v182, rfl, ho0, ho1, hb⟩; refine ⟨_, rfl, ?_⟩; have HO180 := aM (R_lower ho0 (below_size (hh HB))); have HO183 := aM (S_lower ho1 (below_size (hh HB))); replace BK177 := kb BK177 hb; replace HB := bs HB hb; clear hb ho0 ho1) | ((with_reducible refine gate_dst (N := 4) rfl ?_); refine be 4 rfl rfl #[.slice none 0 0, .slice none 0 0] 51 ?_; intro gb188 hg w34 hbox hb; have BK188 := aM hbox; have GE188 := gs hg HB; have NB177_188 := nl hg BK177; have NB188_177 := nr hg BK177; replace HO180 := rb HO180 hb; replace HO183 := sb HO183 hb; replace BK177 := kb BK177 hb; replace HB := bs HB hb; clear hb hbox hg) | ((with_reducible refine gate_dst (N := 5) rfl ?_); refine be 5 rfl rfl #[.int .i64 0, .string (⟨#[]⟩ : ByteArray), .int .i64 0, .int .i64 0] 28 ?_; intro gb189 hg w35 hbox hb; have BK189 := aM hbox; have GE189 := gs hg HB; have NB177_189 := nl hg BK177; have NB189_177 := nr hg BK177; have NB188_189 := nl hg BK188; have NB189_188 := nr hg BK188; replace HO180 := rb HO180 hb; replace HO183 := sb HO183 hb; replace BK177 := kb BK177 hb; replace BK188 := kb BK188 hb; replace HB := bs HB hb; clear hb hbox hg; obtain ⟨Ao36, co36, eo36⟩ := R_slice HO180.1; subst eo36; have hnb37 := NB188_177.1; have hnc37 := NB177_188.1; have hnb38 := NB188_189.1; have hnc38 := NB189_188.1; obtain ⟨hcz39_0, hcz39_1⟩ := cz2 BK188; obtain ⟨hfz39_0, hfz39_1⟩ := fz2 BK188; obtain ⟨Ao40, co40, eo40⟩ := S_slice HO183.1; subst eo40; have hnb41 := NB189_177.1; have hnc41 := NB177_189.1; obtain ⟨hcz42_0, hcz42_1, hcz42_2, hcz42_3⟩ := cz BK189; obtain ⟨hfz42_0, hfz42_1, hfz42_2, hfz42_3⟩ := fz BK189))
   have n0_ : Az (Kd.R Kd.string 9 ((((((w35.setCell ⟨gb188, 0, none⟩ (.slice Ao36 t178.length co36)).setCell ⟨gb188, 1, none⟩ (.slice Ao40 t181.length co40)).setCell ⟨gb189, 0, none⟩ (.int .i64 t184)).setCell ⟨gb189, 1, none⟩ (.string t185)).setCell ⟨gb189, 2, none⟩ (.int .i64 t186)).setCell ⟨gb189, 3, none⟩ (.int .i64 t187)) w.heap.size (fun _ => True) (.slice Ao36 t178.length co36) t178) := ⟨rz (R_mono (R_far (p := ⟨gb189, 3, none⟩) (R_far (p := ⟨gb189, 2, none⟩) (R_far (p := ⟨gb189, 1, none⟩) (R_far (p := ⟨gb189, 0, none⟩) (R_far (p := ⟨gb188, 1, none⟩) (R_far (p := ⟨gb188, 0, none⟩) (R_types (R_types HO180.1 BK188.1 (by decide)) BK189.1 (by decide)) (fun _ hk => hk.1.2) (.slice Ao36 t178.length co36)) (fun _ hk => hk.1.2) (.slice Ao40 t181.length co40)) (fun _ hk => hk.2) (.int .i64 t184)) (fun _ hk => hk.2) (.string t185)) (fun _ hk => hk.2) (.int .i64 t186)) (fun _ hk => hk.2) (.int .i64 t187)) (fun _ hk => trivial))⟩
   have n1_ : Az (Kd.S (Kd.slice 3 (Kd.int .i64)) 55 ((((((w35.setCell ⟨gb188, 0, none⟩ (.slice Ao36 t178.length co36)).setCell ⟨gb188, 1, none⟩ (.slice Ao40 t181.length co40)).setCell ⟨gb189, 0, none⟩ (.int .i64 t184)).setCell ⟨gb189, 1, none⟩ (.string t185)).setCell ⟨gb189, 2, none⟩ (.int .i64 t186)).setCell ⟨gb189, 3, none⟩ (.int .i64 t187)) w.heap.size (fun _ => True) (.slice Ao40 t181.length co40) t181) := ⟨sz (S_mono (S_far (p := ⟨gb189, 3, none⟩) (S_far (p := ⟨gb189, 2, none⟩) (S_far (p := ⟨gb189, 1, none⟩) (S_far (p := ⟨gb189, 0, none⟩) (S_far (p := ⟨gb188, 1, none⟩) (S_far (p := ⟨gb188, 0, none⟩) (S_types (S_types HO183.1 BK188.1 (by decide)) BK189.1 (by decide)) (fun _ hk => hk.1.2) (.slice Ao36 t178.length co36)) (fun _ hk => hk.1.2) (.slice Ao40 t181.length co40)) (fun _ hk => hk.2) (.int .i64 t184)) (fun _ hk => hk.2) (.string t185)) (fun _ hk => hk.2) (.int .i64 t186)) (fun _ hk => hk.2) (.int .i64 t187)) (fun _ hk => trivial))⟩
   have n2_ : Az (((((((w35.setCell ⟨gb188, 0, none⟩ (.slice Ao36 t178.length co36)).setCell ⟨gb188, 1, none⟩ (.slice Ao40 t181.length co40)).setCell ⟨gb189, 0, none⟩ (.int .i64 t184)).setCell ⟨gb189, 1, none⟩ (.string t185)).setCell ⟨gb189, 2, none⟩ (.int .i64 t186)).setCell ⟨gb189, 3, none⟩ (.int .i64 t187)).heap[gb177]? = some (.cells #[.int .i64 0, .string (⟨#[]⟩ : ByteArray), .int .i64 0, .int .i64 0] 28 (0, 0))) := ⟨kf BK177⟩
   have n3_ : Az (((((((w35.setCell ⟨gb188, 0, none⟩ (.slice Ao36 t178.length co36)).setCell ⟨gb188, 1, none⟩ (.slice Ao40 t181.length co40)).setCell ⟨gb189, 0, none⟩ (.int .i64 t184)).setCell ⟨gb189, 1, none⟩ (.string t185)).setCell ⟨gb189, 2, none⟩ (.int .i64 t186)).setCell ⟨gb189, 3, none⟩ (.int .i64 t187)).heap[gb188]? = some (.cells #[.slice Ao36 t178.length co36, .slice Ao40 t181.length co40] 51 (0, 0))) := ⟨kf BK188⟩
   have n4_ : Az (((((((w35.setCell ⟨gb188, 0, none⟩ (.slice Ao36 t178.length co36)).setCell ⟨gb188, 1, none⟩ (.slice Ao40 t181.length co40)).setCell ⟨gb189, 0, none⟩ (.int .i64 t184)).setCell ⟨gb189, 1, none⟩ (.string t185)).setCell ⟨gb189, 2, none⟩ (.int .i64 t186)).setCell ⟨gb189, 3, none⟩ (.int .i64 t187)).heap[gb189]? = some (.cells #[.int .i64 t184, .string t185, .int .i64 t186, .int .i64 t187] 28 (0, 0))) := ⟨kf BK189⟩
   have n5_ : Az (Below w.heap.size w ((((((w35.setCell ⟨gb188, 0, none⟩ (.slice Ao36 t178.length co36)).setCell ⟨gb188, 1, none⟩ (.slice Ao40 t181.length co40)).setCell ⟨gb189, 0, none⟩ (.int .i64 t184)).setCell ⟨gb189, 1, none⟩ (.string t185)).setCell ⟨gb189, 2, none⟩ (.int .i64 t186)).setCell ⟨gb189, 3, none⟩ (.int .i64 t187))) := ⟨hh HB⟩
   (clear HO180)
   (clear HO183)
   (clear BK177)
   (clear BK188)
   (clear BK189)
   (clear HB)
   generalize ((((((w35.setCell ⟨gb188, 0, none⟩ (.slice Ao36 t178.length co36)).setCell ⟨gb188, 1, none⟩ (.slice Ao40 t181.length co40)).setCell ⟨gb189, 0, none⟩ (.int .i64 t184)).setCell ⟨gb189, 1, none⟩ (.string t185)).setCell ⟨gb189, 2, none⟩ (.int .i64 t186)).setCell ⟨gb189, 3, none⟩ (.int .i64 t187)) = w43 at n0_ n1_ n2_ n3_ n4_ n5_ ⊢
   have HO180 := n0_
   have HO183 := n1_
   have BK177 := n2_
   have BK188 := n3_
   have BK189 := n4_
   have HB := n5_
   clear n0_ n1_ n2_ n3_ n4_ n5_
   replace HO180 := aM (R_drew HO180.1)
   replace HO183 := aM (S_drew HO183.1)
   replace BK177 := aM (blk_drew BK177.1)
   replace BK188 := aM (blk_drew BK188.1)
   replace BK189 := aM (blk_drew BK189.1)
   replace HB := aM (below_drew1 HB.1)
   refine start_ (n := 3) (S := fun w' => w'.cell? ⟨gb189, 0, none⟩ = some (.int .i64 t184) /\ w'.cell? ⟨gb189, 1, none⟩ = some (.string t185) /\ w'.cell? ⟨gb189, 2, none⟩ = some (.int .i64 t186) /\ w'.cell? ⟨gb189, 3, none⟩ = some (.int .i64 t187)) (ds := []) #[F_, F_, F_] (by kernel_rfl) rfl rfl ⟨(blk_cell BK189.1 0).trans rfl, (blk_cell BK189.1 1).trans rfl, (blk_cell BK189.1 2).trans rfl, (blk_cell BK189.1 3).trans rfl⟩ (fun hHeld => ?_)
   generalize w43.drew = w44 at HO180 HO183 BK177 BK188 BK189 HB hHeld ⊢
   refine pure_ (i := 1) (N := some 2) (v := ?_) (a' := ?_) #[F_, T_, F_] rfl rfl (by kernel_rfl) (fun _ _ _ h => h) (Or.inl ⟨by rfl, ?_⟩) ?_ ?_
   rotate_left
   · intro w'
     go_simp
     with_reducible rfl
   rotate_left
   · simp only [Act.put, sA, sZ, sS, i64_w, i32_w]
     rfl
   refine take_ (i := 0) (N := some 17) (v := ?_) (a' := ?_) #[T_, T_, F_] rfl rfl (by kernel_rfl) (fun _ _ _ h => h) (Or.inl ⟨by rfl, ?_⟩) hHeld ?_ ?_
   rotate_left
   · rintro w' ⟨s0, s1, s2, s3⟩
     go_simp
     with_reducible rfl
   rotate_left
   · simp only [Act.put, sA, sZ, sS, i64_w, i32_w]
     rfl
   refine one_ (i := 2) (N := none) #[T_, T_, T_] rfl rfl (by kernel_rfl) (by decide) (fun K hK => ?_)
   have hs45 : w44.cell? ⟨gb177, 0, none⟩ = some (.int .i64 0) := (blk_cell BK177.1 0).trans rfl
   have hfs45 := blk_frozen BK177.1 0
   have hns45_1 := NB188_177.1
   have hns45_2 := NB189_177.1
   have hms45_1 := NB177_188.1
   have hms45_2 := NB177_189.1
   have hs46 : w44.cell? ⟨gb177, 1, none⟩ = some (.string (⟨#[]⟩ : ByteArray)) := (blk_cell BK177.1 1).trans rfl
   have hfs46 := blk_frozen BK177.1 1
   have hns46_1 := NB188_177.1
   have hns46_2 := NB189_177.1
   have hms46_1 := NB177_188.1
   have hms46_2 := NB177_189.1
   have hs47 : w44.cell? ⟨gb177, 2, none⟩ = some (.int .i64 0) := (blk_cell BK177.1 2).trans rfl
   have hfs47 := blk_frozen BK177.1 2
   have hns47_1 := NB188_177.1
   have hns47_2 := NB189_177.1
   have hms47_1 := NB177_188.1
   have hms47_2 := NB177_189.1
   have hs48 : w44.cell? ⟨gb177, 3, none⟩ = some (.int .i64 0) := (blk_cell BK177.1 3).trans rfl
   have hfs48 := blk_frozen BK177.1 3
   have hns48_1 := NB188_177.1
   have hns48_2 := NB189_177.1
   have hms48_1 := NB177_188.1
   have hms48_2 := NB177_189.1
   refine skip_ (w1 := ?_) (by rfl) rfl ?_ ?_
   rotate_left
   · go_simp
     rfl
   refine hK.out _ _ ⟨((cell_far (p := ⟨gb177, _, none⟩) NB189_177.1 _).trans (((cell_far (p := ⟨gb177, _, none⟩) NB189_177.1 _).trans (((cell_far (p := ⟨gb177, _, none⟩) NB189_177.1 _).trans (((cell_far (p := ⟨gb177, _, none⟩) NB189_177.1 _).trans (hHeld.1)))))))), ((cell_far (p := ⟨gb177, _, none⟩) NB189_177.1 _).trans (((cell_far (p := ⟨gb177, _, none⟩) NB189_177.1 _).trans (((cell_far (p := ⟨gb177, _, none⟩) NB189_177.1 _).trans (((cell_far (p := ⟨gb177, _, none⟩) NB189_177.1 _).trans (hHeld.2.1)))))))), ((cell_far (p := ⟨gb177, _, none⟩) NB189_177.1 _).trans (((cell_far (p := ⟨gb177, _, none⟩) NB189_177.1 _).trans (((cell_far (p := ⟨gb177, _, none⟩) NB189_177.1 _).trans (((cell_far (p := ⟨gb177, _, none⟩) NB189_177.1 _).trans (hHeld.2.2.1)))))))), ((cell_far (p := ⟨gb177, _, none⟩) NB189_177.1 _).trans (((cell_far (p := ⟨gb177, _, none⟩) NB189_177.1 _).trans (((cell_far (p := ⟨gb177, _, none⟩) NB189_177.1 _).trans (((cell_far (p := ⟨gb177, _, none⟩) NB189_177.1 _).trans (hHeld.2.2.2))))))))⟩ (fun hHeld => ?_)
   clear hK K
   refine done_ (by kernel_rfl) ?_
   try go_wp2
   refine bodyPost_ret (results_tc rfl _ _ gb177 28 #[.int .i64 t184, .string t185, .int .i64 t186, .int .i64 t187] (0, 0) _ rfl (kf BK177) Try.underlying28 rfl (by kernel_rfl)) rfl ?_
   exact ⟨_, by first | rfl | (simp [errW_none, errW_some] <;> rfl) | (simp [*, errW_none, errW_some] <;> rfl), by first | exact R_nil _ _ _ _ _ | exact N_nil _ _ _ _ _ | exact V_nil _ _ _ _ _ | exact Q_nil _ _ _ _ _ | exact S_nil _ _ _ _ _, hh HB⟩
 rw [if_pos c3] at H
 have c3b0 : (t184 == 0) = true := beq_iff_eq.mpr c3
 have c3b1 : (t184 != 0) = false := bne_eq_false_iff_eq.mpr c3
 clear c3
 replace H := Option.bind_eq_some_iff.mp H
 obtain ⟨t190, A40, H⟩ := H
 replace H : (m_Order.l0 k ([] : List ByteArray) t190 (t190.length : Int) 0 t178 t181) = some (r1, r2, r3, r4, r5) := H
 have A4 := aM A40
 clear A40
 have H' := aM H
 clear H
 go_enter Try.func10, Try.ntmps10
 go_wp2_with (first | ((with_reducible refine gate_dst (N := 3) rfl ?_); refine be 3 rfl rfl #[.int .i64 0, .string (⟨#[]⟩ : ByteArray), .int .i64 0, .int .i64 0] 28 ?_; intro gb177 hg w5 hbox hb; have BK177 := aM hbox; have GE177 := gs hg HB; replace HB := bs HB hb; clear hb hbox hg) | ((with_reducible refine gate_callee (f := 24) rfl ?_); refine gL (some 11) rfl rfl Try.func24 (by kernel_rfl) rfl #[.slice A0 l0.length c0] rfl ?_; (with_reducible refine (m_acyclic.calls k _ _ l0 t178 t181 t184 t185 t186 t187 _ ?side1 ?side2 A2.1).mono ?_); (case side1 => exact cb HR0 HB); (case side2 => exact HC0.1); rintro e w6 ⟨v179, v182, rfl, ho0, ho1, hb⟩; refine ⟨_, rfl, ?_⟩; have HO180 := aM (R_lower ho0 (below_size (hh HB))); have HO183 := aM (S_lower ho1 (below_size (hh HB))); replace BK177 := kb BK177 hb; replace HB := bs HB hb; clear hb ho0 ho1) | ((with_reducible refine gate_dst (N := 4) rfl ?_); refine be 4 rfl rfl #[.slice none 0 0, .slice none 0 0] 51 ?_; intro gb188 hg w7 hbox hb; have BK188 := aM hbox; have GE188 := gs hg HB; have NB177_188 := nl hg BK177; have NB188_177 := nr hg BK177; replace HO180 := rb HO180 hb; replace HO183 := sb HO183 hb; replace BK177 := kb BK177 hb; replace HB := bs HB hb; clear hb hbox hg) | ((with_reducible refine gate_dst (N := 5) rfl ?_); refine be 5 rfl rfl #[.int .i64 0, .string (⟨#[]⟩ : ByteArray), .int .i64 0, .int .i64 0] 28 ?_; intro gb189 hg w8 hbox hb; have BK189 := aM hbox; have GE189 := gs hg HB; have NB177_189 := nl hg BK177; have NB189_177 := nr hg BK177; have NB188_189 := nl hg BK188; have NB189_188 := nr hg BK188; replace HO180 := rb HO180 hb; replace HO183 := sb HO183 hb; replace BK177 := kb BK177 hb; replace BK188 := kb BK188 hb; replace HB := bs HB hb; clear hb hbox hg; obtain ⟨Ao9, co9, eo9⟩ := R_slice HO180.1; subst eo9; have hnb10 := NB188_177.1; have hnc10 := NB177_188.1; have hnb11 := NB188_189.1; have hnc11 := NB189_188.1; obtain ⟨hcz12_0, hcz12_1⟩ := cz2 BK188; obtain ⟨hfz12_0, hfz12_1⟩ := fz2 BK188; obtain ⟨Ao13, co13, eo13⟩ := S_slice HO183.1; subst eo13; have hnb14 := NB189_177.1; have hnc14 := NB177_189.1; obtain ⟨hcz15_0, hcz15_1, hcz15_2, hcz15_3⟩ := cz BK189; obtain ⟨hfz15_0, hfz15_1, hfz15_2, hfz15_3⟩ := fz BK189) | ((with_reducible refine gate_callee (f := 25) rfl ?_); refine gL (some 20) rfl rfl Try.func25 (by kernel_rfl) rfl #[.agg #[.slice Ao13 t181.length co13]] rfl ?_; (with_reducible refine (g_Components.calls k _ _ t181 t190 _ ?side1 ?side2 A4.1).mono ?_); (case side1 => exact c3 (sf24 HO183 BK188 (by decide) BK189 (by decide))); (case side2 => exact (S_reads' HO183.1).2.1); rintro e w16 ⟨v191, rfl, ho0, hb⟩; refine ⟨_, rfl, ?_⟩; have HO192 := aM (V_lower (V_mono (ok' := fun k_ => some k_ ≠ (.slice Ao9 t178.length co9 : Value).ownBlock /\ some k_ ≠ (.slice Ao13 t181.length co13 : Value).ownBlock /\ k_ ≠ gb177 /\ k_ ≠ gb188 /\ k_ ≠ gb189) ho0 (fun k_ hk_ => ⟨(Kd.fresh' (R_lt (rz (rf24 HO180 BK188 (by decide) BK189 (by decide)))) k_ hk_), (Kd.fresh' (S_lt (sz (sf24 HO183 BK188 (by decide) BK189 (by decide)))) k_ hk_), (Kd.freshB (g := gb177) (o := .cells #[.int .i64 0, .string (⟨#[]⟩ : ByteArray), .int .i64 0, .int .i64 0] 28 (0, 0)) (kf BK177) k_ hk_), (Kd.freshB (g := gb188) (o := .cells #[.slice Ao9 t178.length co9, .slice Ao13 t181.length co13] 51 (0, 0)) (kf BK188) k_ hk_), (Kd.freshB (g := gb189) (o := .cells #[.int .i64 t184, .string t185, .int .i64 t186, .int .i64 t187] 28 (0, 0)) (kf BK189) k_ hk_)⟩)) (below_size (hh HB))); replace HO180 := aM (R_below (rz (rf24 HO180 BK188 (by decide) BK189 (by decide))) hb); replace HO183 := aM (S_below (sz (sf24 HO183 BK188 (by decide) BK189 (by decide))) hb); replace BK177 := kg (o' := .cells #[.int .i64 0, .string (⟨#[]⟩ : ByteArray), .int .i64 0, .int .i64 0] 28 (0, 0)) BK177 hb; replace BK188 := kg (o' := .cells #[.slice Ao9 t178.length co9, .slice Ao13 t181.length co13] 51 (0, 0)) BK188 hb; replace BK189 := kg (o' := .cells #[.int .i64 t184, .string t185, .int .i64 t186, .int .i64 t187] 28 (0, 0)) BK189 hb; replace HB := bs HB hb; clear hb ho0; obtain ⟨Ao17, co17, eo17⟩ := V_slice HO192.1; subst eo17))
 go_loopg [6, 22] k (fun kq v6 v22 w' => ∃ (x6_1 : List ByteArray) (x22_1 : Int), v22 = .int .i64 x22_1 /\ Az (m_Order.l0 kq x6_1 t190 (t190.length : Int) x22_1 t178 t181 = some (r1, r2, r3, r4, r5)) /\ Az (kq <= k) /\ Az (Kd.R Kd.string 9 w' w.heap.size (fun k_ => some k_ ≠ ((.slice Ao9 t178.length co9) : Value).ownBlock) v6 x6_1) /\ Az (Kd.V (Kd.slice 3 (Kd.int .i64)) 55 w' w.heap.size (fun k_ => some k_ ≠ (v6 : Value).ownBlock /\ some k_ ≠ ((.slice Ao9 t178.length co9) : Value).ownBlock /\ some k_ ≠ ((.slice Ao13 t181.length co13) : Value).ownBlock /\ k_ ≠ gb177 /\ k_ ≠ gb188 /\ k_ ≠ gb189) (.slice Ao17 t190.length co17) t190) /\ Az (Kd.R Kd.string 9 w' w.heap.size (fun k_ => some k_ ≠ (v6 : Value).ownBlock) (.slice Ao9 t178.length co9) t178) /\ Az (Kd.S (Kd.slice 3 (Kd.int .i64)) 55 w' w.heap.size (fun _ => True) (.slice Ao13 t181.length co13) t181) /\ Az (w'.heap[gb177]? = some (.cells #[.int .i64 0, .string (⟨#[]⟩ : ByteArray), .int .i64 0, .int .i64 0] 28 (0, 0))) /\ Az (w'.heap[gb188]? = some (.cells #[(.slice Ao9 t178.length co9), (.slice Ao13 t181.length co13)] 51 (0, 0))) /\ Az (w'.heap[gb189]? = some (.cells #[.int .i64 t184, .string t185, .int .i64 t186, .int .i64 t187] 28 (0, 0))) /\ Az (Below w.heap.size w w'))
 case atStart => exact ⟨(([] : List ByteArray)), (0), rr, H', ⟨Nat.le_refl _⟩, ⟨by first | exact R_nil _ _ _ _ _ | exact N_nil _ _ _ _ _ | exact V_nil _ _ _ _ _ | exact Q_nil _ _ _ _ _ | exact S_nil _ _ _ _ _⟩, ⟨by (with_reducible repeat (first | apply V_alloc | apply V_drewN | apply V_drew)); exact V_mono HO192.1 (fun _ hk => ⟨(by simp [Value.ownBlock]), ⟨hk.1, ⟨hk.2.1, ⟨hk.2.2.1, ⟨hk.2.2.2.1, hk.2.2.2.2⟩⟩⟩⟩⟩)⟩, ⟨rz (R_mono HO180.1 (fun _ hk => (by simp [Value.ownBlock])))⟩, ⟨sk HO183⟩, ⟨kk BK177⟩, ⟨kk BK188⟩, ⟨kk BK189⟩, ⟨hh HB⟩⟩
 case round =>
  clear H'
  clear c3b0 c3b1 hcz12_0 hcz12_1 hcz15_0 hcz15_1 hcz15_2 hcz15_3 hfz12_0 hfz12_1 hfz15_0 hfz15_1 hfz15_2 hfz15_3
  obtain ⟨x6_1, x22_1, rfl, HA, HK1, HO_6, HO_20, HO_189000, HO_189001, BK177, BK188, BK189, HB⟩ := hrel
  cases gk with
  | zero => exact absurd HA.1 (by simp [m_Order.l0])
  | succ k1 =>
   have H := HA.1
   clear HA
   simp only [m_Order.l0] at H
   by_cases c18 : x22_1 < (t190.length : Int)
   rotate_left
   · rw [if_neg c18] at H
     have c18b0 : decide (x22_1 < (t190.length : Int)) = false := decide_eq_false c18
     clear c18
     simp only [Option.some.injEq, Prod.mk.injEq] at H
     obtain ⟨rfl, rfl, rfl, rfl, rfl⟩ := H
     have hnb29 := NB177_188.1
     have hnc29 := NB188_177.1
     have hnb30 := NB177_189.1
     have hnc30 := NB189_177.1
     obtain ⟨hcz31_0, hcz31_1, hcz31_2, hcz31_3⟩ := cz BK177
     obtain ⟨hfz31_0, hfz31_1, hfz31_2, hfz31_3⟩ := fz BK177
     go_wp2
     refine bodyPost_ret (results_tc rfl _ _ gb177 28 #[.int .i64 0, .string (⟨#[]⟩ : ByteArray), .int .i64 0, .int .i64 0] (0, 0) _ rfl (kf BK177) Try.underlying28 rfl (by kernel_rfl)) rfl ?_
     exact ⟨_, by first | rfl | (simp [errW_none, errW_some] <;> rfl) | (simp [*, errW_none, errW_some] <;> rfl), rz (R_mono (R_far (p := ⟨gb177, 3, none⟩) (R_far (p := ⟨gb177, 2, none⟩) (R_far (p := ⟨gb177, 1, none⟩) (R_far (p := ⟨gb177, 0, none⟩) (R_types HO_6.1 BK177.1 (by decide)) (fun _ hk => hk.2) (.int .i64 0)) (fun _ hk => hk.2) (.string (⟨#[]⟩ : ByteArray))) (fun _ hk => hk.2) (.int .i64 0)) (fun _ hk => hk.2) (.int .i64 0)) (fun _ hk => trivial)), hh HB⟩
   rw [if_pos c18] at H
   have c18b0 : decide (x22_1 < (t190.length : Int)) = true := decide_eq_true c18
   clear c18
   by_cases c19 : 0 <= x22_1
   rotate_left
   · rw [if_neg c19] at H
     exact absurd H (by simp)
   rw [if_pos c19] at H
   have c19b0 : decide (0 <= x22_1) = true := decide_eq_true c19
   clear c19
   by_cases c20 : x22_1 < (t190.length : Int)
   rotate_left
   · rw [if_neg c20] at H
     exact absurd H (by simp)
   rw [if_pos c20] at H
   have c20b0 : decide (x22_1 < (t190.length : Int)) = true := decide_eq_true c20
   clear c20
   replace H := Option.bind_eq_some_iff.mp H
   obtain ⟨t194, A210, H⟩ := H
   replace H : (if x6_1.length + t194.length < 8796093022208 then (m_Order.l0 k1 (x6_1 ++ t194) t190 (t190.length : Int) (wrap64 (x22_1 + 1)) t178 t181) else (none)) = some (r1, r2, r3, r4, r5) := H
   have A21 := aM A210
   clear A210
   by_cases c22 : x6_1.length + t194.length < 8796093022208
   rotate_left
   · rw [if_neg c22] at H
     exact absurd H (by simp)
   rw [if_pos c22] at H
   have LMc22 := aM c22
   clear c22
   obtain ⟨y197, hy197⟩ : ∃ y_ : List ByteArray, y_ = (x6_1 ++ t194) := ⟨_, rfl⟩
   replace H : (m_Order.l0 k1 y197 t190 (t190.length : Int) (wrap64 (x22_1 + 1)) t178 t181) = some (r1, r2, r3, r4, r5) := by first | (rw [hy197]; with_reducible exact H) | (have H2_ := (Option.bind_some _ _).symm.trans H; rw [hy197]; with_reducible exact H2_) | (have H2_ := (Option.bind_some _ _).symm.trans H; with_reducible exact H2_) | with_reducible exact H | (rw [hy197]; exact H) | exact H
   have Ny197 := aM hy197
   clear hy197
   have H' := aM H
   clear H
   have p193 : 0 <= (x22_1 : Int) := dt
   have q193 : x22_1 < (t190.length : Int) := dt
   obtain ⟨ad193, A193_0, c193_0, e193, hx193_0, hl193_0, hi193_0⟩ := at_L11 (V_reads' HO_20.1).2.2 x22_1 p193 q193
   cases e193
   obtain ⟨ce193, hce193, hMe193, hcc193⟩ := V_get HO_20.1 [] x22_1 p193 (by first | exact q193 | exact dt | (have e_ := (V_reads' HO_20.1).1; omega))
   obtain ⟨ua193_0, uc193_0, rfl, ul193_0, ge193_0⟩ := FK_slice_open hMe193
   have hv193_0 := hcc193 0 _ rfl
   rw [Nat.add_zero, show ((Kd.slice 3 (Kd.int .i64))).sz = 1 from rfl, Nat.mul_one] at hv193_0
   replace hv193_0 := Option.some.inj (hv193_0.symm.trans hx193_0)
   injection hv193_0 with hva_ hvn_ hvc_
   rw [hva_] at ge193_0
   rw [hvc_] at ul193_0
   have HL193_0 := aM (show Kd.V (Kd.int .i64) 3 _ w.heap.size _ _ (rd_L11 t190 x22_1) from V_mk ul193_0 ge193_0)
   clear hva_ hvn_ hvc_ ge193_0 ul193_0
   clear hcc193 hce193
   have HR193_0 := aM hi193_0
   have HC193_0 := aM hl193_0
   clear hi193_0 hl193_0
   replace p193 := eq_true p193
   replace q193 := eq_true q193
   have hnb23 := NB188_177.1
   have hnc23 := NB177_188.1
   have hnb24 := NB188_189.1
   have hnc24 := NB189_188.1
   obtain ⟨hcz25_0, hcz25_1⟩ := cz2 BK188
   obtain ⟨hfz25_0, hfz25_1⟩ := fz2 BK188
   go_wp2_with (first | ((with_reducible refine gate_callee (f := 26) rfl ?_); refine gL (some 29) rfl rfl Try.func26 (by kernel_rfl) rfl #[.agg #[.slice Ao9 t178.length co9, .slice Ao13 t181.length co13], .slice A193_0 (rd_L11 t190 x22_1).length c193_0] rfl ?_; (with_reducible refine (p_named.calls k1 _ _ t178 _ _ t181 _ _ (rd_L11 t190 x22_1) t194 _ ?side1 ?side2 ?side3 ?side4 ?side5 ?side6 A21.1).mono ?_); (case side1 => exact cr HO_189000); (case side2 => exact (R_reads' HO_189000.1).2.1); (case side3 => repeat (first | exact (S_reads' HO_189001.1).2.2 | (with_reducible refine C_alloc ?_ _) | (with_reducible refine C_drewN ?_ _) | (with_reducible refine C_drew ?_))); (case side4 => exact (S_reads' HO_189001.1).2.1); (case side5 => repeat (first | exact (by repeat (first | (with_reducible exact HR193_0.1) | (with_reducible refine C_alloc ?_ _) | (with_reducible refine C_drewN ?_ _) | (with_reducible refine C_drew ?_) | exact HR193_0.1)) | (with_reducible refine C_alloc ?_ _) | (with_reducible refine C_drewN ?_ _) | (with_reducible refine C_drew ?_))); (case side6 => exact HC193_0.1); rintro e w26 ⟨v195, rfl, ho0, hb⟩; refine ⟨_, rfl, ?_⟩; have HO196 := aM (R_lower (R_new' (R_new' ho0 (R_lt (rk HO_6))) (R_lt (rk HO_189000))) (below_size (hh HB))); replace HO_6 := aM (R_elder' (rk HO_6) (R_base ho0) hb); replace HO_20 := aM (V_elder' (by (with_reducible repeat (first | apply V_alloc | apply V_drewN | apply V_drew)); exact HO_20.1) (R_base ho0) hb); replace HO_189000 := aM (R_elder' (rk HO_189000) (R_base ho0) hb); replace HO_189001 := sb HO_189001 hb; replace HL193_0 := aM (V_elder' (by (with_reducible repeat (first | apply V_alloc | apply V_drewN | apply V_drew)); exact HL193_0.1) (R_base ho0) hb); replace BK177 := kb BK177 hb; replace BK188 := kb BK188 hb; replace BK189 := kb BK189 hb; replace HR193_0 := aM (C_below (by repeat (first | (with_reducible exact HR193_0.1) | (with_reducible refine C_alloc ?_ _) | (with_reducible refine C_drewN ?_ _) | (with_reducible refine C_drew ?_) | exact HR193_0.1)) hb); replace HB := bs HB hb; clear hb ho0; obtain ⟨Ao28, co28, eo28⟩ := R_slice HO196.1; subst eo28) | ((with_reducible refine gate_builtin (b := .append) (xs := #[.tmp 26, .tmp 29]) rfl ?_); at_builtin; refine R_append_rows Kd.string (w0 := w) w.heap.size rfl (.tmp 26) (.tmp 29) 25 9 (.string ⟨#[]⟩) 16 rfl Try.underlying25 info9 rfl (by decide) (by omega) u6 x6_1 t194 _ _ _ (fun k_ => some k_ ≠ (.slice Ao9 t178.length co9 : Value).ownBlock /\ some k_ ≠ (.slice Ao28 t194.length co28 : Value).ownBlock) (fun _ => False) rfl rfl ?aO ?aR (fun _ _ h => h) (fun _ h => h.elim) ?aF ?aB ?aS ?aL ?_; (case aR => exact cr HO196); (case aB => exact (hh HB)); (case aF => exact (fun k_ hk => ⟨Kd.fresh' (R_lt (rk HO_189000)) k_ hk, Kd.fresh' (R_lt (rk HO196)) k_ hk⟩)); (case aO => exact (rk HO_6)); (case aS => exact (below_size (hh HB))); (case aL => have := LMc22.1; omega); intro v198 w27 ho hb hg hat; rw [<- Ny197.1] at ho; have HO199 := aM (ho); replace HO_20 := aM (V_afterv (ok := (fun k_ => some k_ ≠ (.slice Ao9 t178.length co9 : Value).ownBlock /\ some k_ ≠ (.slice Ao13 t181.length co13 : Value).ownBlock /\ some k_ ≠ (.slice Ao28 t194.length co28 : Value).ownBlock /\ k_ ≠ gb177 /\ k_ ≠ gb188 /\ k_ ≠ gb189)) (by (with_reducible repeat (first | apply V_alloc | apply V_drewN | apply V_drew)); exact V_mono HO_20.1 (fun _ hk => ⟨⟨hk.1.2.1, ⟨hk.1.2.2.1, ⟨hk.2, ⟨hk.1.2.2.2.1, ⟨hk.1.2.2.2.2.1, hk.1.2.2.2.2.2⟩⟩⟩⟩⟩, hk.1.1⟩)) hg hat); replace HO_189000 := aM (R_after (ok := (fun k_ => some k_ ≠ (.slice Ao28 t194.length co28 : Value).ownBlock)) (rz (R_mono HO_189000.1 (fun _ hk => ⟨hk.2, hk.1⟩))) hg hat); replace HO_189001 := aM (S_over' (sk HO_189001) (R_typed (rk HO_6)) (by decide) hg); replace BK177 := aM (blk_grown (g := gb177) (o := .cells #[.int .i64 0, .string (⟨#[]⟩ : ByteArray), .int .i64 0, .int .i64 0] 28 (0, 0)) (kk BK177) hg (R_ne HO_6.1 BK177.1 (by decide))); replace BK188 := aM (blk_grown (g := gb188) (o := .cells #[.slice Ao9 t178.length co9, .slice Ao13 t181.length co13] 51 (0, 0)) (kk BK188) hg (R_ne HO_6.1 BK188.1 (by decide))); replace BK189 := aM (blk_grown (g := gb189) (o := .cells #[.int .i64 t184, .string t185, .int .i64 t186, .int .i64 t187] 28 (0, 0)) (kk BK189) hg (R_ne HO_6.1 BK189.1 (by decide))); replace HL193_0 := aM (V_afterv (ok := (fun k_ => some k_ ≠ (.slice Ao9 t178.length co9 : Value).ownBlock /\ some k_ ≠ (.slice Ao13 t181.length co13 : Value).ownBlock /\ some k_ ≠ (.slice Ao28 t194.length co28 : Value).ownBlock /\ k_ ≠ gb177 /\ k_ ≠ gb188 /\ k_ ≠ gb189)) (by (with_reducible repeat (first | apply V_alloc | apply V_drewN | apply V_drew)); exact V_mono HL193_0.1 (fun _ hk => ⟨⟨hk.1.2.1, ⟨hk.1.2.2.1, ⟨hk.2, ⟨hk.1.2.2.2.1, ⟨hk.1.2.2.2.2.1, hk.1.2.2.2.2.2⟩⟩⟩⟩⟩, hk.1.1⟩)) hg hat); replace HO196 := aM (R_after (ok := (fun k_ => some k_ ≠ (.slice Ao9 t178.length co9 : Value).ownBlock)) (rz (R_mono HO196.1 (fun _ hk => ⟨hk.2, hk.1.2⟩))) hg hat); replace HB := aM (hb); clear HO_6; clear ho hb hg hat))
   go_roundg k1
   case measure => have := HK1.1; omega
   case rel => exact ⟨(y197), (wrap64 (x22_1 + 1)), rr, H', ⟨by have := HK1.1; omega⟩, ⟨rz (R_mono HO199.1 (fun _ hk => hk.1))⟩, ⟨by (with_reducible repeat (first | apply V_alloc | apply V_drewN | apply V_drew)); exact V_mono HO_20.1 (fun _ hk => ⟨hk.2, ⟨hk.1.1, ⟨hk.1.2.1, ⟨hk.1.2.2.2.1, ⟨hk.1.2.2.2.2.1, hk.1.2.2.2.2.2⟩⟩⟩⟩⟩)⟩, ⟨rz (R_mono HO_189000.1 (fun _ hk => hk.2))⟩, ⟨sk HO_189001⟩, ⟨kk BK177⟩, ⟨kk BK188⟩, ⟨kk BK189⟩, ⟨hh HB⟩⟩
noncomputable def m_Levels.l0 : Nat -> List (List ByteArray) -> List (List Int) -> Int -> Int -> List ByteArray -> List (List Int) -> Option ((List (List ByteArray)) × Int × ByteArray × Int × Int)
 | 0, _, _, _, _, _, _ => none
 | k + 1, x8, x26, x27, x28, x214000, x214001 => if x28 < x27 then (if 0 <= x28 then (if x28 < (x26.length : Int) then ((p_named.f k x214000 x214001 (rd_L11 x26 x28)).bind fun t220 => (if x8.length < 5864062014805 then (m_Levels.l0 k (x8 ++ [t220]) x26 x27 (wrap64 (x28 + 1)) x214000 x214001) else (none))) else (none)) else (none)) else (some (x8, 0, (⟨#[]⟩ : ByteArray), 0, 0))
noncomputable def m_Levels.f (k : Nat) (l0 : List (S42)) : Option ((List (List ByteArray)) × Int × ByteArray × Int × Int) := (m_acyclic.f k l0).bind fun bt203 => (if bt203.2.2.1 = 0 then ((g_Levels.f bt203.2.1).bind fun bt215 => (m_Levels.l0 k ([] : List (List ByteArray)) bt215.1 (bt215.1.length : Int) 0 bt203.1 bt203.2.1)) else (some (([] : List (List ByteArray)), bt203.2.2.1, bt203.2.2.2.1, bt203.2.2.2.2.1, bt203.2.2.2.2.2)))
theorem m_Levels.calls (k : Nat) (A0 : Option Addr) (c0 : Nat) (l0 : List (S42)) (r1 : List (List ByteArray)) (r2 : Int) (r3 : ByteArray) (r4 : Int) (r5 : Int) (w : World) (hr0 : Kd.C k42 w A0 l0.length l0) (hc0 : l0.length <= c0) (h : m_Levels.f k l0 = some (r1, r2, r3, r4, r5)) :
 Calls Try.prog 12 #[.slice A0 l0.length c0] w fun e w' => ∃ v0_ : Value, e = .returned (.tuple #[v0_, .agg #[.int .i64 r2, .string r3, .int .i64 r4, .int .i64 r5]]) /\ Kd.S (Kd.slice 9 Kd.string) 25 w' w.heap.size (fun _ => True) v0_ r1 /\ Below w.heap.size w w' := by
 have hu28 := Try.underlying28
 have hu51 := Try.underlying51
 have hu49 := Try.underlying49
 have HR0 := aM hr0
 have HC0 := aM hc0
 clear hr0 hc0
 have HB := aM (Below.refl w.heap.size w)
 have H : ((m_acyclic.f k l0).bind fun bt203 => (if bt203.2.2.1 = 0 then ((g_Levels.f bt203.2.1).bind fun bt215 => (m_Levels.l0 k ([] : List (List ByteArray)) bt215.1 (bt215.1.length : Int) 0 bt203.1 bt203.2.1)) else (some (([] : List (List ByteArray)), bt203.2.2.1, bt203.2.2.2.1, bt203.2.2.2.2.1, bt203.2.2.2.2.2)))) = some (r1, r2, r3, r4, r5) := h
 clear h
 replace H := Option.bind_eq_some_iff.mp H
 obtain ⟨⟨t203, t206, t209, t210, t211, t212⟩, A20, H⟩ := H
 replace H : (if t209 = 0 then ((g_Levels.f t206).bind fun bt215 => (m_Levels.l0 k ([] : List (List ByteArray)) bt215.1 (bt215.1.length : Int) 0 t203 t206)) else (some (([] : List (List ByteArray)), t209, t210, t211, t212))) = some (r1, r2, r3, r4, r5) := H
 have A2 := aM A20
 clear A20
 by_cases c3 : t209 = 0
 rotate_left
 · rw [if_neg c3] at H
   have c3b0 : (t209 == 0) = false := beq_eq_false_iff_ne.mpr c3
   have c3b1 : (t209 != 0) = true := bne_iff_ne.mpr c3
   simp only [Option.some.injEq, Prod.mk.injEq] at H
   obtain ⟨rfl, rfl, rfl, rfl, rfl⟩ := H
   go_enter Try.func12, Try.ntmps12
   try go_wp2_with (first | ((with_reducible refine gate_dst (N := 3) rfl ?_); refine be 3 rfl rfl #[.int .i64 0, .string (⟨#[]⟩ : ByteArray), .int .i64 0, .int .i64 0] 28 ?_; intro gb202 hg w32 hbox hb; have BK202 := aM hbox; have GE202 := gs hg HB; replace HB := bs HB hb; clear hb hbox hg) | ((with_reducible refine gate_callee (f := 24) rfl ?_); refine gL (some 13) rfl rfl Try.func24 (by kernel_rfl) rfl #[.slice A0 l0.length c0] rfl ?_; (with_reducible refine (m_acyclic.calls k _ _ l0 t203 t206 t209 t210 t211 t212 _ ?side1 ?side2 A2.1).mono ?_); (case side1 => exact cb HR0 HB); (case side2 => exact HC0.1); rintro e w33 ⟨v204, v207, rfl, ho0, ho1, hb⟩; refine ⟨_, rfl, ?_⟩; have HO205 := aM (R_lower ho0 (below_size (hh HB))); have HO208 := aM (S_lower ho1 (below_size (hh HB))); replace BK202 := kb BK202 hb; replace HB := bs HB hb; clear hb ho0 ho1) | ((with_reducible refine gate_dst (N := 4) rfl ?_); refine be 4 rfl rfl #[.slice none 0 0, .slice none 0 0] 51 ?_; intro gb213 hg w34 hbox hb; have BK213 := aM hbox; have GE213 := gs hg HB; have NB202_213 := nl hg BK202; have NB213_202 := nr hg BK202; replace HO205 := rb HO205 hb; replace HO208 := sb HO208 hb; replace BK202 := kb BK202 hb; replace HB := bs HB hb; clear hb hbox hg) | ((with_reducible refine gate_dst (N := 5) rfl ?_); refine be 5 rfl rfl #[.int .i64 0, .string (⟨#[]⟩ : ByteArray), .int .i64 0, .int .i64 0] 28 ?_; intro gb214 hg w35 hbox hb; have BK214 := aM hbox; have GE214 := gs hg HB; have NB202_214 := nl hg BK202; have NB214_202 := nr hg BK202; have NB213_214 := nl hg BK213; have NB214_213 := nr hg BK213; replace HO205 := rb HO205 hb; replace HO208 := sb HO208 hb; replace BK202 := kb BK202 hb; replace BK213 := kb BK213 hb; replace HB := bs HB hb; clear hb hbox hg; obtain ⟨Ao36, co36, eo36⟩ := R_slice HO205.1; subst eo36; have hnb37 := NB213_202.1; have hnc37 := NB202_213.1; have hnb38 := NB213_214.1; have hnc38 := NB214_213.1; obtain ⟨hcz39_0, hcz39_1⟩ := cz2 BK213; obtain ⟨hfz39_0, hfz39_1⟩ := fz2 BK213; obtain ⟨Ao40, co40, eo40⟩ := S_slice HO208.1; subst eo40; have hnb41 := NB214_202.1; have hnc41 := NB202_214.1; obtain ⟨hcz42_0, hcz42_1, hcz42_2, hcz42_3⟩ := cz BK214; obtain ⟨hfz42_0, hfz42_1, hfz42_2, hfz42_3⟩ := fz BK214))
   have n0_ : Az (Kd.R Kd.string 9 ((((((w35.setCell ⟨gb213, 0, none⟩ (.slice Ao36 t203.length co36)).setCell ⟨gb213, 1, none⟩ (.slice Ao40 t206.length co40)).setCell ⟨gb214, 0, none⟩ (.int .i64 t209)).setCell ⟨gb214, 1, none⟩ (.string t210)).setCell ⟨gb214, 2, none⟩ (.int .i64 t211)).setCell ⟨gb214, 3, none⟩ (.int .i64 t212)) w.heap.size (fun _ => True) (.slice Ao36 t203.length co36) t203) := ⟨rz (R_mono (R_far (p := ⟨gb214, 3, none⟩) (R_far (p := ⟨gb214, 2, none⟩) (R_far (p := ⟨gb214, 1, none⟩) (R_far (p := ⟨gb214, 0, none⟩) (R_far (p := ⟨gb213, 1, none⟩) (R_far (p := ⟨gb213, 0, none⟩) (R_types (R_types HO205.1 BK213.1 (by decide)) BK214.1 (by decide)) (fun _ hk => hk.1.2) (.slice Ao36 t203.length co36)) (fun _ hk => hk.1.2) (.slice Ao40 t206.length co40)) (fun _ hk => hk.2) (.int .i64 t209)) (fun _ hk => hk.2) (.string t210)) (fun _ hk => hk.2) (.int .i64 t211)) (fun _ hk => hk.2) (.int .i64 t212)) (fun _ hk => trivial))⟩
   have n1_ : Az (Kd.S (Kd.slice 3 (Kd.int .i64)) 55 ((((((w35.setCell ⟨gb213, 0, none⟩ (.slice Ao36 t203.length co36)).setCell ⟨gb213, 1, none⟩ (.slice Ao40 t206.length co40)).setCell ⟨gb214, 0, none⟩ (.int .i64 t209)).setCell ⟨gb214, 1, none⟩ (.string t210)).setCell ⟨gb214, 2, none⟩ (.int .i64 t211)).setCell ⟨gb214, 3, none⟩ (.int .i64 t212)) w.heap.size (fun _ => True) (.slice Ao40 t206.length co40) t206) := ⟨sz (S_mono (S_far (p := ⟨gb214, 3, none⟩) (S_far (p := ⟨gb214, 2, none⟩) (S_far (p := ⟨gb214, 1, none⟩) (S_far (p := ⟨gb214, 0, none⟩) (S_far (p := ⟨gb213, 1, none⟩) (S_far (p := ⟨gb213, 0, none⟩) (S_types (S_types HO208.1 BK213.1 (by decide)) BK214.1 (by decide)) (fun _ hk => hk.1.2) (.slice Ao36 t203.length co36)) (fun _ hk => hk.1.2) (.slice Ao40 t206.length co40)) (fun _ hk => hk.2) (.int .i64 t209)) (fun _ hk => hk.2) (.string t210)) (fun _ hk => hk.2) (.int .i64 t211)) (fun _ hk => hk.2) (.int .i64 t212)) (fun _ hk => trivial))⟩
   have n2_ : Az (((((((w35.setCell ⟨gb213, 0, none⟩ (.slice Ao36 t203.length co36)).setCell ⟨gb213, 1, none⟩ (.slice Ao40 t206.length co40)).setCell ⟨gb214, 0, none⟩ (.int .i64 t209)).setCell ⟨gb214, 1, none⟩ (.string t210)).setCell ⟨gb214, 2, none⟩ (.int .i64 t211)).setCell ⟨gb214, 3, none⟩ (.int .i64 t212)).heap[gb202]? = some (.cells #[.int .i64 0, .string (⟨#[]⟩ : ByteArray), .int .i64 0, .int .i64 0] 28 (0, 0))) := ⟨kf BK202⟩
   have n3_ : Az (((((((w35.setCell ⟨gb213, 0, none⟩ (.slice Ao36 t203.length co36)).setCell ⟨gb213, 1, none⟩ (.slice Ao40 t206.length co40)).setCell ⟨gb214, 0, none⟩ (.int .i64 t209)).setCell ⟨gb214, 1, none⟩ (.string t210)).setCell ⟨gb214, 2, none⟩ (.int .i64 t211)).setCell ⟨gb214, 3, none⟩ (.int .i64 t212)).heap[gb213]? = some (.cells #[.slice Ao36 t203.length co36, .slice Ao40 t206.length co40] 51 (0, 0))) := ⟨kf BK213⟩
   have n4_ : Az (((((((w35.setCell ⟨gb213, 0, none⟩ (.slice Ao36 t203.length co36)).setCell ⟨gb213, 1, none⟩ (.slice Ao40 t206.length co40)).setCell ⟨gb214, 0, none⟩ (.int .i64 t209)).setCell ⟨gb214, 1, none⟩ (.string t210)).setCell ⟨gb214, 2, none⟩ (.int .i64 t211)).setCell ⟨gb214, 3, none⟩ (.int .i64 t212)).heap[gb214]? = some (.cells #[.int .i64 t209, .string t210, .int .i64 t211, .int .i64 t212] 28 (0, 0))) := ⟨kf BK214⟩
   have n5_ : Az (Below w.heap.size w ((((((w35.setCell ⟨gb213, 0, none⟩ (.slice Ao36 t203.length co36)).setCell ⟨gb213, 1, none⟩ (.slice Ao40 t206.length co40)).setCell ⟨gb214, 0, none⟩ (.int .i64 t209)).setCell ⟨gb214, 1, none⟩ (.string t210)).setCell ⟨gb214, 2, none⟩ (.int .i64 t211)).setCell ⟨gb214, 3, none⟩ (.int .i64 t212))) := ⟨hh HB⟩
   (clear HO205)
   (clear HO208)
   (clear BK202)
   (clear BK213)
   (clear BK214)
   (clear HB)
   generalize ((((((w35.setCell ⟨gb213, 0, none⟩ (.slice Ao36 t203.length co36)).setCell ⟨gb213, 1, none⟩ (.slice Ao40 t206.length co40)).setCell ⟨gb214, 0, none⟩ (.int .i64 t209)).setCell ⟨gb214, 1, none⟩ (.string t210)).setCell ⟨gb214, 2, none⟩ (.int .i64 t211)).setCell ⟨gb214, 3, none⟩ (.int .i64 t212)) = w43 at n0_ n1_ n2_ n3_ n4_ n5_ ⊢
   have HO205 := n0_
   have HO208 := n1_
   have BK202 := n2_
   have BK213 := n3_
   have BK214 := n4_
   have HB := n5_
   clear n0_ n1_ n2_ n3_ n4_ n5_
   replace HO205 := aM (R_drew HO205.1)
   replace HO208 := aM (S_drew HO208.1)
   replace BK202 := aM (blk_drew BK202.1)
   replace BK213 := aM (blk_drew BK213.1)
   replace BK214 := aM (blk_drew BK214.1)
   replace HB := aM (below_drew1 HB.1)
   refine start_ (n := 3) (S := fun w' => w'.cell? ⟨gb214, 0, none⟩ = some (.int .i64 t209) /\ w'.cell? ⟨gb214, 1, none⟩ = some (.string t210) /\ w'.cell? ⟨gb214, 2, none⟩ = some (.int .i64 t211) /\ w'.cell? ⟨gb214, 3, none⟩ = some (.int .i64 t212)) (ds := []) #[F_, F_, F_] (by kernel_rfl) rfl rfl ⟨(blk_cell BK214.1 0).trans rfl, (blk_cell BK214.1 1).trans rfl, (blk_cell BK214.1 2).trans rfl, (blk_cell BK214.1 3).trans rfl⟩ (fun hHeld => ?_)
   generalize w43.drew = w44 at HO205 HO208 BK202 BK213 BK214 HB hHeld ⊢
   refine pure_ (i := 1) (N := some 2) (v := ?_) (a' := ?_) #[F_, T_, F_] rfl rfl (by kernel_rfl) (fun _ _ _ h => h) (Or.inl ⟨by rfl, ?_⟩) ?_ ?_
   rotate_left
   · intro w'
     go_simp
     with_reducible rfl
   rotate_left
   · simp only [Act.put, sA, sZ, sS, i64_w, i32_w]
     rfl
   refine take_ (i := 0) (N := some 19) (v := ?_) (a' := ?_) #[T_, T_, F_] rfl rfl (by kernel_rfl) (fun _ _ _ h => h) (Or.inl ⟨by rfl, ?_⟩) hHeld ?_ ?_
   rotate_left
   · rintro w' ⟨s0, s1, s2, s3⟩
     go_simp
     with_reducible rfl
   rotate_left
   · simp only [Act.put, sA, sZ, sS, i64_w, i32_w]
     rfl
   refine one_ (i := 2) (N := none) #[T_, T_, T_] rfl rfl (by kernel_rfl) (by decide) (fun K hK => ?_)
   have hs45 : w44.cell? ⟨gb202, 0, none⟩ = some (.int .i64 0) := (blk_cell BK202.1 0).trans rfl
   have hfs45 := blk_frozen BK202.1 0
   have hns45_1 := NB213_202.1
   have hns45_2 := NB214_202.1
   have hms45_1 := NB202_213.1
   have hms45_2 := NB202_214.1
   have hs46 : w44.cell? ⟨gb202, 1, none⟩ = some (.string (⟨#[]⟩ : ByteArray)) := (blk_cell BK202.1 1).trans rfl
   have hfs46 := blk_frozen BK202.1 1
   have hns46_1 := NB213_202.1
   have hns46_2 := NB214_202.1
   have hms46_1 := NB202_213.1
   have hms46_2 := NB202_214.1
   have hs47 : w44.cell? ⟨gb202, 2, none⟩ = some (.int .i64 0) := (blk_cell BK202.1 2).trans rfl
   have hfs47 := blk_frozen BK202.1 2
   have hns47_1 := NB213_202.1
   have hns47_2 := NB214_202.1
   have hms47_1 := NB202_213.1
   have hms47_2 := NB202_214.1
   have hs48 : w44.cell? ⟨gb202, 3, none⟩ = some (.int .i64 0) := (blk_cell BK202.1 3).trans rfl
   have hfs48 := blk_frozen BK202.1 3
   have hns48_1 := NB213_202.1
   have hns48_2 := NB214_202.1
   have hms48_1 := NB202_213.1
   have hms48_2 := NB202_214.1
   refine skip_ (w1 := ?_) (by rfl) rfl ?_ ?_
   rotate_left
   · go_simp
     rfl
   refine hK.out _ _ ⟨((cell_far (p := ⟨gb202, _, none⟩) NB214_202.1 _).trans (((cell_far (p := ⟨gb202, _, none⟩) NB214_202.1 _).trans (((cell_far (p := ⟨gb202, _, none⟩) NB214_202.1 _).trans (((cell_far (p := ⟨gb202, _, none⟩) NB214_202.1 _).trans (hHeld.1)))))))), ((cell_far (p := ⟨gb202, _, none⟩) NB214_202.1 _).trans (((cell_far (p := ⟨gb202, _, none⟩) NB214_202.1 _).trans (((cell_far (p := ⟨gb202, _, none⟩) NB214_202.1 _).trans (((cell_far (p := ⟨gb202, _, none⟩) NB214_202.1 _).trans (hHeld.2.1)))))))), ((cell_far (p := ⟨gb202, _, none⟩) NB214_202.1 _).trans (((cell_far (p := ⟨gb202, _, none⟩) NB214_202.1 _).trans (((cell_far (p := ⟨gb202, _, none⟩) NB214_202.1 _).trans (((cell_far (p := ⟨gb202, _, none⟩) NB214_202.1 _).trans (hHeld.2.2.1)))))))), ((cell_far (p := ⟨gb202, _, none⟩) NB214_202.1 _).trans (((cell_far (p := ⟨gb202, _, none⟩) NB214_202.1 _).trans (((cell_far (p := ⟨gb202, _, none⟩) NB214_202.1 _).trans (((cell_far (p := ⟨gb202, _, none⟩) NB214_202.1 _).trans (hHeld.2.2.2))))))))⟩ (fun hHeld => ?_)
   clear hK K
   refine done_ (by kernel_rfl) ?_
   try go_wp2
   refine bodyPost_ret (results_tc rfl _ _ gb202 28 #[.int .i64 t209, .string t210, .int .i64 t211, .int .i64 t212] (0, 0) _ rfl (kf BK202) Try.underlying28 rfl (by kernel_rfl)) rfl ?_
   exact ⟨_, by first | rfl | (simp [errW_none, errW_some] <;> rfl) | (simp [*, errW_none, errW_some] <;> rfl), by first | exact S_nil _ _ _ _ _ | exact N_nil _ _ _ _ _ | exact V_nil _ _ _ _ _ | exact Q_nil _ _ _ _ _ | exact R_nil _ _ _ _ _, hh HB⟩
 rw [if_pos c3] at H
 have c3b0 : (t209 == 0) = true := beq_iff_eq.mpr c3
 have c3b1 : (t209 != 0) = false := bne_eq_false_iff_eq.mpr c3
 clear c3
 replace H := Option.bind_eq_some_iff.mp H
 obtain ⟨⟨t215, t218⟩, A40, H⟩ := H
 replace H : (m_Levels.l0 k ([] : List (List ByteArray)) t215 (t215.length : Int) 0 t203 t206) = some (r1, r2, r3, r4, r5) := H
 have A4 := aM A40
 clear A40
 have H' := aM H
 clear H
 go_enter Try.func12, Try.ntmps12
 go_wp2_with (first | ((with_reducible refine gate_dst (N := 3) rfl ?_); refine be 3 rfl rfl #[.int .i64 0, .string (⟨#[]⟩ : ByteArray), .int .i64 0, .int .i64 0] 28 ?_; intro gb202 hg w5 hbox hb; have BK202 := aM hbox; have GE202 := gs hg HB; replace HB := bs HB hb; clear hb hbox hg) | ((with_reducible refine gate_callee (f := 24) rfl ?_); refine gL (some 13) rfl rfl Try.func24 (by kernel_rfl) rfl #[.slice A0 l0.length c0] rfl ?_; (with_reducible refine (m_acyclic.calls k _ _ l0 t203 t206 t209 t210 t211 t212 _ ?side1 ?side2 A2.1).mono ?_); (case side1 => exact cb HR0 HB); (case side2 => exact HC0.1); rintro e w6 ⟨v204, v207, rfl, ho0, ho1, hb⟩; refine ⟨_, rfl, ?_⟩; have HO205 := aM (R_lower ho0 (below_size (hh HB))); have HO208 := aM (S_lower ho1 (below_size (hh HB))); replace BK202 := kb BK202 hb; replace HB := bs HB hb; clear hb ho0 ho1) | ((with_reducible refine gate_dst (N := 4) rfl ?_); refine be 4 rfl rfl #[.slice none 0 0, .slice none 0 0] 51 ?_; intro gb213 hg w7 hbox hb; have BK213 := aM hbox; have GE213 := gs hg HB; have NB202_213 := nl hg BK202; have NB213_202 := nr hg BK202; replace HO205 := rb HO205 hb; replace HO208 := sb HO208 hb; replace BK202 := kb BK202 hb; replace HB := bs HB hb; clear hb hbox hg) | ((with_reducible refine gate_dst (N := 5) rfl ?_); refine be 5 rfl rfl #[.int .i64 0, .string (⟨#[]⟩ : ByteArray), .int .i64 0, .int .i64 0] 28 ?_; intro gb214 hg w8 hbox hb; have BK214 := aM hbox; have GE214 := gs hg HB; have NB202_214 := nl hg BK202; have NB214_202 := nr hg BK202; have NB213_214 := nl hg BK213; have NB214_213 := nr hg BK213; replace HO205 := rb HO205 hb; replace HO208 := sb HO208 hb; replace BK202 := kb BK202 hb; replace BK213 := kb BK213 hb; replace HB := bs HB hb; clear hb hbox hg; obtain ⟨Ao9, co9, eo9⟩ := R_slice HO205.1; subst eo9; have hnb10 := NB213_202.1; have hnc10 := NB202_213.1; have hnb11 := NB213_214.1; have hnc11 := NB214_213.1; obtain ⟨hcz12_0, hcz12_1⟩ := cz2 BK213; obtain ⟨hfz12_0, hfz12_1⟩ := fz2 BK213; obtain ⟨Ao13, co13, eo13⟩ := S_slice HO208.1; subst eo13; have hnb14 := NB214_202.1; have hnc14 := NB202_214.1; obtain ⟨hcz15_0, hcz15_1, hcz15_2, hcz15_3⟩ := cz BK214; obtain ⟨hfz15_0, hfz15_1, hfz15_2, hfz15_3⟩ := fz BK214) | ((with_reducible refine gate_callee (f := 30) rfl ?_); refine gL (some 23) rfl rfl Try.func30 (by kernel_rfl) rfl #[.agg #[.slice Ao13 t206.length co13]] rfl ?_; (with_reducible refine (g_Levels.calls _ _ t206 t215 t218 _ ?side1 ?side2 A4.1).mono ?_); (case side1 => exact c3 (sf24 HO208 BK213 (by decide) BK214 (by decide))); (case side2 => exact (S_reads' HO208.1).2.1); rintro e w16 ⟨v216, rfl, ho0, hb⟩; refine ⟨_, rfl, ?_⟩; have HO217 := aM (S_lower (S_new' ho0 (S_lt (sz (sf24 HO208 BK213 (by decide) BK214 (by decide))))) (below_size (hh HB))); replace HO205 := aM (R_below (rz (rf24 HO205 BK213 (by decide) BK214 (by decide))) hb); replace HO208 := aM (S_elder' (sz (sf24 HO208 BK213 (by decide) BK214 (by decide))) (S_base ho0) hb); replace BK202 := kg (o' := .cells #[.int .i64 0, .string (⟨#[]⟩ : ByteArray), .int .i64 0, .int .i64 0] 28 (0, 0)) BK202 hb; replace BK213 := kg (o' := .cells #[.slice Ao9 t203.length co9, .slice Ao13 t206.length co13] 51 (0, 0)) BK213 hb; replace BK214 := kg (o' := .cells #[.int .i64 t209, .string t210, .int .i64 t211, .int .i64 t212] 28 (0, 0)) BK214 hb; replace HB := bs HB hb; clear hb ho0; obtain ⟨Ao17, co17, eo17⟩ := S_slice HO217.1; subst eo17))
 go_loopg [8, 28] k (fun kq v8 v28 w' => ∃ (x8_1 : List (List ByteArray)) (x28_1 : Int), v28 = .int .i64 x28_1 /\ Az (m_Levels.l0 kq x8_1 t215 (t215.length : Int) x28_1 t203 t206 = some (r1, r2, r3, r4, r5)) /\ Az (kq <= k) /\ Az (Kd.S (Kd.slice 9 Kd.string) 25 w' w.heap.size (fun k_ => some k_ ≠ ((.slice Ao9 t203.length co9) : Value).ownBlock) v8 x8_1) /\ Az (Kd.S (Kd.slice 3 (Kd.int .i64)) 55 w' w.heap.size (fun k_ => some k_ ≠ ((.slice Ao13 t206.length co13) : Value).ownBlock) (.slice Ao17 t215.length co17) t215) /\ Az (Kd.R Kd.string 9 w' w.heap.size (fun _ => True) (.slice Ao9 t203.length co9) t203) /\ Az (Kd.S (Kd.slice 3 (Kd.int .i64)) 55 w' w.heap.size (fun k_ => some k_ ≠ ((.slice Ao17 t215.length co17) : Value).ownBlock) (.slice Ao13 t206.length co13) t206) /\ Az (w'.heap[gb202]? = some (.cells #[.int .i64 0, .string (⟨#[]⟩ : ByteArray), .int .i64 0, .int .i64 0] 28 (0, 0))) /\ Az (w'.heap[gb213]? = some (.cells #[(.slice Ao9 t203.length co9), (.slice Ao13 t206.length co13)] 51 (0, 0))) /\ Az (w'.heap[gb214]? = some (.cells #[.int .i64 t209, .string t210, .int .i64 t211, .int .i64 t212] 28 (0, 0))) /\ Az (Below w.heap.size w w'))
 case atStart => exact ⟨(([] : List (List ByteArray))), (0), rr, H', ⟨Nat.le_refl _⟩, ⟨by first | exact S_nil _ _ _ _ _ | exact N_nil _ _ _ _ _ | exact V_nil _ _ _ _ _ | exact Q_nil _ _ _ _ _ | exact R_nil _ _ _ _ _⟩, ⟨sz (S_mono HO217.1 (fun _ hk => hk.2))⟩, ⟨rk HO205⟩, ⟨sz (S_mono HO208.1 (fun _ hk => hk.2))⟩, ⟨kk BK202⟩, ⟨kk BK213⟩, ⟨kk BK214⟩, ⟨hh HB⟩⟩
 case round =>
  clear H'
  clear c3b0 c3b1 hcz12_0 hcz12_1 hcz15_0 hcz15_1 hcz15_2 hcz15_3 hfz12_0 hfz12_1 hfz15_0 hfz15_1 hfz15_2 hfz15_3
  obtain ⟨x8_1, x28_1, rfl, HA, HK1, HO_8, HO_26, HO_214000, HO_214001, BK202, BK213, BK214, HB⟩ := hrel
  cases gk with
  | zero => exact absurd HA.1 (by simp [m_Levels.l0])
  | succ k1 =>
   have H := HA.1
   clear HA
   simp only [m_Levels.l0] at H
   by_cases c18 : x28_1 < (t215.length : Int)
   rotate_left
   · rw [if_neg c18] at H
     have c18b0 : decide (x28_1 < (t215.length : Int)) = false := decide_eq_false c18
     clear c18
     simp only [Option.some.injEq, Prod.mk.injEq] at H
     obtain ⟨rfl, rfl, rfl, rfl, rfl⟩ := H
     have hnb29 := NB202_213.1
     have hnc29 := NB213_202.1
     have hnb30 := NB202_214.1
     have hnc30 := NB214_202.1
     obtain ⟨hcz31_0, hcz31_1, hcz31_2, hcz31_3⟩ := cz BK202
     obtain ⟨hfz31_0, hfz31_1, hfz31_2, hfz31_3⟩ := fz BK202
     go_wp2
     refine bodyPost_ret (results_tc rfl _ _ gb202 28 #[.int .i64 0, .string (⟨#[]⟩ : ByteArray), .int .i64 0, .int .i64 0] (0, 0) _ rfl (kf BK202) Try.underlying28 rfl (by kernel_rfl)) rfl ?_
     exact ⟨_, by first | rfl | (simp [errW_none, errW_some] <;> rfl) | (simp [*, errW_none, errW_some] <;> rfl), sz (S_mono (S_far (p := ⟨gb202, 3, none⟩) (S_far (p := ⟨gb202, 2, none⟩) (S_far (p := ⟨gb202, 1, none⟩) (S_far (p := ⟨gb202, 0, none⟩) (S_types HO_8.1 BK202.1 (by decide)) (fun _ hk => hk.2) (.int .i64 0)) (fun _ hk => hk.2) (.string (⟨#[]⟩ : ByteArray))) (fun _ hk => hk.2) (.int .i64 0)) (fun _ hk => hk.2) (.int .i64 0)) (fun _ hk => trivial)), hh HB⟩
   rw [if_pos c18] at H
   have c18b0 : decide (x28_1 < (t215.length : Int)) = true := decide_eq_true c18
   clear c18
   by_cases c19 : 0 <= x28_1
   rotate_left
   · rw [if_neg c19] at H
     exact absurd H (by simp)
   rw [if_pos c19] at H
   have c19b0 : decide (0 <= x28_1) = true := decide_eq_true c19
   clear c19
   by_cases c20 : x28_1 < (t215.length : Int)
   rotate_left
   · rw [if_neg c20] at H
     exact absurd H (by simp)
   rw [if_pos c20] at H
   have c20b0 : decide (x28_1 < (t215.length : Int)) = true := decide_eq_true c20
   clear c20
   replace H := Option.bind_eq_some_iff.mp H
   obtain ⟨t220, A210, H⟩ := H
   replace H : (if x8_1.length < 5864062014805 then (m_Levels.l0 k1 (x8_1 ++ [t220]) t215 (t215.length : Int) (wrap64 (x28_1 + 1)) t203 t206) else (none)) = some (r1, r2, r3, r4, r5) := H
   have A21 := aM A210
   clear A210
   by_cases c22 : x8_1.length < 5864062014805
   rotate_left
   · rw [if_neg c22] at H
     exact absurd H (by simp)
   rw [if_pos c22] at H
   have LMc22 := aM c22
   clear c22
   obtain ⟨y223, hy223⟩ : ∃ y_ : List (List ByteArray), y_ = (x8_1 ++ [t220]) := ⟨_, rfl⟩
   replace H : (m_Levels.l0 k1 y223 t215 (t215.length : Int) (wrap64 (x28_1 + 1)) t203 t206) = some (r1, r2, r3, r4, r5) := by first | (rw [hy223]; with_reducible exact H) | (have H2_ := (Option.bind_some _ _).symm.trans H; rw [hy223]; with_reducible exact H2_) | (have H2_ := (Option.bind_some _ _).symm.trans H; with_reducible exact H2_) | with_reducible exact H | (rw [hy223]; exact H) | exact H
   have Ny223 := aM hy223
   clear hy223
   have H' := aM H
   clear H
   have p219 : 0 <= (x28_1 : Int) := dt
   have q219 : x28_1 < (t215.length : Int) := dt
   obtain ⟨ad219, A219_0, c219_0, e219, hx219_0, hl219_0, hi219_0⟩ := at_L11 (S_reads' HO_26.1).2.2 x28_1 p219 q219
   cases e219
   obtain ⟨ce219, hce219, hMe219, hcc219⟩ := S_get HO_26.1 [] x28_1 p219 (by first | exact q219 | exact dt | (have e_ := (S_reads' HO_26.1).1; omega))
   obtain ⟨ve219_0, rfl, ge219_0⟩ := hMe219
   have hv219_0 := hcc219 0 _ rfl
   rw [Nat.add_zero, show ((Kd.slice 3 (Kd.int .i64))).sz = 1 from rfl, Nat.mul_one] at hv219_0
   replace hv219_0 := Option.some.inj (hv219_0.symm.trans hx219_0)
   rw [hv219_0] at ge219_0
   have HL219_0 := aM (show Kd.R (Kd.int .i64) 3 _ _ _ _ (rd_L11 t215 x28_1) from ge219_0)
   clear hv219_0 ge219_0
   clear hcc219 hce219
   have HR219_0 := aM hi219_0
   have HC219_0 := aM hl219_0
   clear hi219_0 hl219_0
   replace p219 := eq_true p219
   replace q219 := eq_true q219
   have hnb23 := NB213_202.1
   have hnc23 := NB202_213.1
   have hnb24 := NB213_214.1
   have hnc24 := NB214_213.1
   obtain ⟨hcz25_0, hcz25_1⟩ := cz2 BK213
   obtain ⟨hfz25_0, hfz25_1⟩ := fz2 BK213
   go_wp2_with (first | ((with_reducible refine gate_callee (f := 26) rfl ?_); refine gL (some 35) rfl rfl Try.func26 (by kernel_rfl) rfl #[.agg #[.slice Ao9 t203.length co9, .slice Ao13 t206.length co13], .slice A219_0 (rd_L11 t215 x28_1).length c219_0] rfl ?_; (with_reducible refine (p_named.calls k1 _ _ t203 _ _ t206 _ _ (rd_L11 t215 x28_1) t220 _ ?side1 ?side2 ?side3 ?side4 ?side5 ?side6 A21.1).mono ?_); (case side1 => exact cr HO_214000); (case side2 => exact (R_reads' HO_214000.1).2.1); (case side3 => repeat (first | exact (S_reads' HO_214001.1).2.2 | (with_reducible refine C_alloc ?_ _) | (with_reducible refine C_drewN ?_ _) | (with_reducible refine C_drew ?_))); (case side4 => exact (S_reads' HO_214001.1).2.1); (case side5 => repeat (first | exact (by repeat (first | (with_reducible exact HR219_0.1) | (with_reducible refine C_alloc ?_ _) | (with_reducible refine C_drewN ?_ _) | (with_reducible refine C_drew ?_) | exact HR219_0.1)) | (with_reducible refine C_alloc ?_ _) | (with_reducible refine C_drewN ?_ _) | (with_reducible refine C_drew ?_))); (case side6 => exact HC219_0.1); rintro e w26 ⟨v221, rfl, ho0, hb⟩; refine ⟨_, rfl, ?_⟩; have HO222 := aM (R_lower (R_new' ho0 (R_lt (rk HO_214000))) (below_size (hh HB))); replace HO_8 := aM (S_elder' (sk HO_8) (R_base ho0) hb); replace HO_26 := sb HO_26 hb; replace HO_214000 := aM (R_elder' (rk HO_214000) (R_base ho0) hb); replace HO_214001 := sb HO_214001 hb; replace HL219_0 := rb HL219_0 hb; replace BK202 := kb BK202 hb; replace BK213 := kb BK213 hb; replace BK214 := kb BK214 hb; replace HR219_0 := aM (C_below (by repeat (first | (with_reducible exact HR219_0.1) | (with_reducible refine C_alloc ?_ _) | (with_reducible refine C_drewN ?_ _) | (with_reducible refine C_drew ?_) | exact HR219_0.1)) hb); replace HB := bs HB hb; clear hb ho0; obtain ⟨Ao28, co28, eo28⟩ := R_slice HO222.1; subst eo28) | ((with_reducible refine gate_builtin (b := .append) (xs := #[.tmp 32, .tmp 36]) rfl ?_); at_builtin; refine S_append (Kd.slice 9 Kd.string) (w0 := w) w.heap.size rfl (.tmp 32) (.tmp 36) 31 25 (.slice none 0 0) 24 rfl Try.underlying31 info25 rfl (by decide) (by omega) u8 x8_1 t220 [.slice Ao28 t220.length co28] (fun k_ => some k_ ≠ (.slice Ao9 t203.length co9 : Value).ownBlock) (fun k_ => some k_ = (.slice Ao28 t220.length co28 : Value).ownBlock) rfl rfl ?aP (fun k_ hk_ => ((R_mono (ok' := fun k_ => ((fun k_ => some k_ ≠ (.slice Ao9 t203.length co9 : Value).ownBlock)) k_ /\ some k_ ≠ (u8 : Value).ownBlock) (R_apart' (HO222.1) (S_typed HO_8.1) (by decide)) (fun k_ hk => ⟨hk.1.2, hk.2⟩))).1 k_ hk_.symm) ?aF ?aO ?aB ?aS ?aL ?_; (case aP => exact M_row (R_mono (R_tight rfl (R_mono (ok' := fun k_ => ((fun k_ => some k_ ≠ (.slice Ao9 t203.length co9 : Value).ownBlock)) k_ /\ some k_ ≠ (u8 : Value).ownBlock) (R_apart' (HO222.1) (S_typed HO_8.1) (by decide)) (fun k_ hk => ⟨hk.1.2, hk.2⟩))) (fun _ h_ => h_))); (case aB => exact (hh HB)); (case aF => exact (fun k_ hk => Kd.fresh' (R_lt (rk HO_214000)) k_ hk)); (case aO => exact (sz (S_mono HO_8.1 (fun k_ hk => ⟨hk.1, fun e_ => hk.2 e_⟩)))); (case aS => exact (below_size (hh HB))); (case aL => have := LMc22.1; omega); intro v224 w27 ho hb hg hat; rw [<- Ny223.1] at ho; have HO225 := aM (ho); replace HO_26 := aM (S_over' (sk HO_26) (S_typed (sk HO_8)) (by decide) hg); replace HO_214000 := aM (R_over' (rk HO_214000) (S_typed (sk HO_8)) (by decide) hg); replace HO_214001 := aM (S_over' (sk HO_214001) (S_typed (sk HO_8)) (by decide) hg); replace BK202 := aM (blk_grown (g := gb202) (o := .cells #[.int .i64 0, .string (⟨#[]⟩ : ByteArray), .int .i64 0, .int .i64 0] 28 (0, 0)) (kk BK202) hg (S_ne HO_8.1 BK202.1 (by decide))); replace BK213 := aM (blk_grown (g := gb213) (o := .cells #[.slice Ao9 t203.length co9, .slice Ao13 t206.length co13] 51 (0, 0)) (kk BK213) hg (S_ne HO_8.1 BK213.1 (by decide))); replace BK214 := aM (blk_grown (g := gb214) (o := .cells #[.int .i64 t209, .string t210, .int .i64 t211, .int .i64 t212] 28 (0, 0)) (kk BK214) hg (S_ne HO_8.1 BK214.1 (by decide))); replace HL219_0 := aM (R_over' (rk HL219_0) (S_typed (sk HO_8)) (by decide) hg); replace HB := aM (hb); clear HO_8 HO222; clear ho hb hg hat))
   go_roundg k1
   case measure => have := HK1.1; omega
   case rel => exact ⟨(y223), (wrap64 (x28_1 + 1)), rr, H', ⟨by have := HK1.1; omega⟩, ⟨sk HO225⟩, ⟨sk HO_26⟩, ⟨rz (R_mono HO_214000.1 (fun _ hk => trivial))⟩, ⟨sk HO_214001⟩, ⟨kk BK202⟩, ⟨kk BK213⟩, ⟨kk BK214⟩, ⟨hh HB⟩⟩
end Go.Proofs.Ytmadhaccjmakdaa.P
namespace Go.Proofs.Ytmadhaccjmakdaa
open Go.Shelf Go.Lib Go.RowKit Go.Maps Go.Sort Go.Proofs.Yw.A Go.Proofs.Yw.B Go.Proofs.Yw.C
attribute [local go_sem] max2_int min2_int max_two min_two max_three min_three max_four min_four
open P
namespace Mg
def but (s : ByteArray) (x : ByteArray) : Bool := x.toList == s.toList
theorem gives45 (s x : ByteArray) (B : Nat) (W : World) (hc : W.cell? ⟨B, 0, none⟩ = some (.string s)) :
 FnGives Try.prog 45 #[.pointer (some ⟨B, 0, none⟩)] #[.string x] (.bool (but s x)) W := by
 show Calls Try.prog 45 #[.string x, .pointer (some ⟨B, 0, none⟩)] W _
 go_enter Try.func45, Try.ntmps45
 go_wp2
 all_goals (go_ret; exact ⟨by first | rfl | (simp [but]; done) | (unfold but; simp_all) | (unfold but; rfl), 0, rfl⟩)
theorem pred45 (s : ByteArray) (B : Nat) (w : World) (hB : B < w.heap.size) (hcell : w.cell? ⟨B, 0, none⟩ = some (.string s)) :
 PredAt Try.prog 45 #[.pointer (some ⟨B, 0, none⟩)] Value.string (but s) w :=
 fun W x hb => gives45 s x B W ((hb.cell (p := ⟨B, 0, none⟩) hB).trans hcell)
theorem over45 (s : ByteArray) (B blk off size : Nat) (w : World) (hB : B < w.heap.size) (hne : B ≠ blk) (hcell : w.cell? ⟨B, 0, none⟩ = some (.string s)) :
 PredOver Try.prog 45 #[.pointer (some ⟨B, 0, none⟩)] Value.string (but s) blk off size w :=
 fun n os dk x _ => gives45 s x B _ (by
  unfold sortWorld
  rw [cell?_grow _ _ _ (by show B < (putRow _ _ _ _ _).heap.size; rw [size_putRow]; exact hB), cell?_putRow_other _ _ blk off _ _ (Or.inl hne)]
  exact hcell)
theorem putRow_heap (w : World) (q g : Nat) (d : Array ByteArray) {cur : Array Value} (h : w.heap[g]? = some (.cells cur 9 (0, 0))) : (putRow Value.string (Sort.ahead w q) g 0 d).heap[g]? = some (.cells (putCells Value.string 0 d cur) 9 (0, 0)) := by
 simp [putRow, mapBlock, Array.getElem?_modify, h, onCells]
theorem putRow_far (w : World) (q g : Nat) (d : Array ByteArray) (k : Nat) (hk : k ≠ g) : (putRow Value.string (Sort.ahead w q) g 0 d).heap[k]? = w.heap[k]? := by
 have hk2 : ¬ g = k := fun e => hk e.symm
 simp [putRow, mapBlock, Array.getElem?_modify, hk2]
theorem take_put (F fil : List ByteArray) (cur : Array Value) (m : Nat) (hF : F = fil ++ List.replicate m ⟨#[]⟩) (hc : F.length <= cur.size) : (putCells Value.string 0 F.toArray cur).toList.take (fil.length * 1) = encs Value.string fil := by
 apply List.ext_getElem?
 intro i
 unfold encs putCells
 rw [List.getElem?_take, List.getElem?_map]
 by_cases hi : i < fil.length
 rotate_left
 · rw [if_neg (by omega), List.getElem?_eq_none (by omega)]
   rfl
 have hl : F.length = fil.length + m := by rw [hF]; simp
 have hic : i < cur.size := by omega
 rw [if_pos (by omega), Array.getElem?_toList, Array.getElem?_mapIdx, Array.getElem?_eq_getElem hic, List.getElem?_eq_getElem hi]
 simp only [Option.map_some]
 rw [if_pos ⟨Nat.zero_le _, by simp; omega⟩]
 congr 2
 rw [Nat.sub_zero, getElem!_pos F.toArray i (by simp; omega)]
 simp only [List.getElem_toArray]
 subst hF
 rw [List.getElem_append_left hi]
theorem del_calls (w : World) (g c base B : Nat) (out : List ByteArray) (s : ByteArray) (ok : Nat -> Prop) (hR : Kd.R Kd.string 9 w base ok (.slice (some ⟨g, 0, none⟩) out.length c) out) (hB : B < w.heap.size) (hne : B ≠ g) (hcell : w.cell? ⟨B, 0, none⟩ = some (.string s)) :
 Calls Try.prog 44 #[.slice (some ⟨g, 0, none⟩) out.length c, .func (.func 45) #[] #[.pointer (some ⟨B, 0, none⟩)]] w fun e w' => ∃ v', e = .returned v' /\ Kd.R Kd.string 9 w' base ok v' (out.filter (fun x => !but s x)) /\ (∀ k, k ≠ g -> w'.heap[k]? = w.heap[k]?) /\ Below base w w' := by
 have eg : ∀ args w, (callFunc 45 args).run Try.prog w = .ok (.enter 45 args) w := enters_of Try.func45 (by kernel_rfl) rfl
 have hown := Kd.own_of_R hR
 obtain ⟨hlen, ⟨hv, _⟩ | ⟨g2, c2, cur, hv, hb, hg, hnc, hcm, hcs, htk⟩⟩ := hown
 · cases hv
 injection hv with hv1 hv2 hv3
 injection hv1 with hv1
 injection hv1 with hv1
 subst hv1
 subst hv3
 have hown := Kd.own_of_R hR
 have hml : c <= 9223372036854775807 := by unfold maxLen at hcm; omega
 have hH : Holds Value.string w g 0 out.toArray := fun j hj => by
  have hj2 : j < out.length := by simpa using hj
  have h := own_at_of (d := (⟨#[]⟩ : ByteArray)) hown (j : Int) (by omega) (by omega)
  have e : out.toArray[j]! = rdOf ⟨#[]⟩ out (j : Int) := by
   rw [getElem!_pos out.toArray j hj]
   simp [rdOf, List.getD_eq_getElem?_getD, List.getElem?_eq_getElem hj2]
  rw [e, Nat.zero_add]
  exact h
 have hcon := AnyE.slices_DeleteFunc Try.delS Value.string (fun _ => rfl) (but s) 45 #[.pointer (some ⟨B, 0, none⟩)] eg ⟨#[]⟩ Try.zeroValue9 g 0 c out.toArray w (pred45 s B w hB hcell) (over45 s B g 0 out.toArray.size w hB hne hcell) hH (by simp; omega) (by simpa using hnc)
 change Calls Try.prog 44 _ _ _ at hcon
 have es : out.toArray.size = out.length := by simp
 rw [es] at hcon
 refine hcon.mono ?_
 rintro e w' ⟨rfl, q, rfl⟩
 have hfl : (out.filter (fun x => !but s x)).length <= out.length := List.length_filter_le _ _
 have hto : out.toArray.toList = out := by simp
 rw [hto]
 have hz : out.length <= cur.size := by omega
 generalize hfil : out.filter (fun x => !but s x) = fil at *
 have hbelow : ∀ k, k ≠ g -> (putRow Value.string (Sort.ahead w q) g 0 (fil ++ List.replicate (out.length - fil.length) (⟨#[]⟩ : ByteArray)).toArray).heap[k]? = w.heap[k]? := fun k hk => putRow_far w q g _ k hk
 refine ⟨_, rfl, ?_, hbelow, ⟨rfl, rfl, rfl, by simp, fun k hk => hbelow k (by omega)⟩⟩
 refine Kd.R_of_own ⟨by simp [encs], .inr ⟨g, c, _, rfl, hb, putRow_heap w q g _ hg, by omega, hcm, ?_, ?_⟩⟩ (fun k hk => hR.1 k hk)
 · unfold putCells
   simpa using hcs
 · exact take_put _ fil cur _ rfl (by simp; omega)
abbrev dat (x : ByteArray) : List UInt8 := x.data.toList
theorem dat_inj {x y : ByteArray} (h : dat x = dat y) : x = y := by
 cases x with | mk a => cases y with | mk b =>
 have : a = b := Array.toList_inj.1 h
 rw [this]
def PlainA (A : Option Addr) : Prop := ∀ ad, A = some ad -> ∃ g, ad = ⟨g, 0, none⟩
theorem plainR {e n c base : Nat} {w : World} {A : Option Addr} {ok : Nat -> Prop} {xs : List ByteArray} (h : Kd.R Kd.string e w base ok (.slice A n c) xs) : n = xs.length /\ n <= c /\ (Kd.C Kd.string w A xs.length xs /\ PlainA A) := by
 obtain ⟨h1, h2, h3⟩ := Kd.R_reads' h
 refine ⟨h1, h2, h3, fun ad e => ?_⟩
 subst e
 exact Kd.R_head h
theorem search2 (w : World) (A : Option Addr) (c : Nat) (names : List ByteArray) (s : ByteArray) (hC : Kd.C Kd.string w A names.length names) (hA : PlainA A) (hp : (names.map dat).Pairwise (fun a b => a <= b)) (hl : names.length <= 100) :
 Calls Try.prog 42 #[.slice A names.length c, .string s] w fun e w' => e = .returned (.tuple #[.int .i64 (rank (names.map dat) (dat s) : Nat), .bool (decide (dat s ∈ names.map dat))]) /\ Drawn0 w w' := by
 by_cases hn : names = []
 · subst hn
   refine (Any2.slices_BinarySearch_string_empty Try.lays26 A c s w).mono ?_
   rintro e w' ⟨rfl, rfl⟩
   exact ⟨by simp [rank], Drawn0.refl _⟩
 have hpos : 0 < names.length := List.length_pos_iff.2 hn
 obtain ⟨ad, eA, _⟩ := hC.2.2 hpos
 obtain ⟨g, rfl⟩ := hA ad eA
 subst eA
 have hcell : ∀ j, j < names.length -> w.cell? ⟨g, 0 + j, none⟩ = some (.string (names.getD j s)) := by
  intro j hj
  obtain ⟨ad, he, hc⟩ := Kd.at_string hC (j : Int) (by omega) (by omega)
  injection he with he
  subst he
  have e : names.getD j s = rdOf ByteArray.empty names (j : Int) := by
   simp [rdOf, List.getD_eq_getElem?_getD, List.getElem?_eq_getElem hj]
  rw [e, Nat.zero_add]
  rw [add_plain] at hc
  simpa using hc
 have h := Any2.slices_BinarySearch_string Try.lays26 g 0 names.length c (fun j => names.getD j s) s w (by omega) hcell
 have hk : Lib.bsGo (fun t => Op.bytesLess (names.getD t s).toList s.toList) names.length 0 names.length = rank (names.map dat) (dat s) := by
  refine Lib.bsGo_spec _ (rank (names.map dat) (dat s)) (fun t ht => ?_) (fun t ht => ?_) names.length 0 names.length (by omega) (Nat.zero_le _) (by have := rank_le (names.map dat) (dat s); simpa using this)
  · obtain ⟨h1, h2⟩ := rank_lt (names.map dat) (dat s) t ht
    have h3 : t < names.length := by simpa using h1
    rw [toL, toL, bytesLess_eq]
    have e : (names.getD t s).data.toList = (names.map dat)[t] := by simp [List.getD_eq_getElem?_getD, List.getElem?_eq_getElem h3]
    rw [e]
    simpa using h2
  · rw [toL, toL, bytesLess_eq]
    by_cases h1 : t < names.length
    rotate_left
    · have e : names.getD t s = s := by simp [List.getD_eq_getElem?_getD, List.getElem?_eq_none (show names.length <= t by omega)]
      rw [e]
      simp [List.lt_irrefl]
    have h2 : t < (names.map dat).length := by simpa using h1
    have e : (names.getD t s).data.toList = (names.map dat)[t] := by simp [List.getD_eq_getElem?_getD, List.getElem?_eq_getElem h1]
    rw [e]
    simpa using rank_ge (names.map dat) (dat s) hp t h2 ht
 have hb : (rank (names.map dat) (dat s) < names.length /\ names.getD (rank (names.map dat) (dat s)) s = s) ↔ dat s ∈ names.map dat := by
  have hm : dat s ∈ names.map dat ↔ s ∈ names := ⟨fun h => by obtain ⟨y, hy, e⟩ := List.mem_map.1 h; exact dat_inj e ▸ hy, fun h => List.mem_map.2 ⟨s, h, rfl⟩⟩
  rw [hm]
  constructor
  · rintro ⟨h1, h2⟩
    rw [List.getD_eq_getElem?_getD, List.getElem?_eq_getElem h1] at h2
    rw [<- h2]
    exact List.getElem_mem h1
  · intro hs
    obtain ⟨t, ht, hts⟩ := List.getElem_of_mem hs
    have htm : t < (names.map dat).length := by simpa using ht
    have e2 : (names.map dat)[t] = dat s := by simp [hts]
    have hrt : rank (names.map dat) (dat s) <= t := by
     apply Nat.le_of_not_lt
     intro hlt
     obtain ⟨h1, h2⟩ := rank_lt (names.map dat) (dat s) t hlt
     rw [e2] at h2
     exact List.lt_irrefl _ h2
    have hr : rank (names.map dat) (dat s) < names.length := by omega
    have hrm : rank (names.map dat) (dat s) < (names.map dat).length := by simpa using hr
    have h3 := rank_ge (names.map dat) (dat s) hp _ hrm (Nat.le_refl _)
    have h4 : (names.map dat)[rank (names.map dat) (dat s)] <= dat s := by
     by_cases heq : rank (names.map dat) (dat s) = t
     rotate_left
     · have := (List.pairwise_iff_getElem.1 hp) _ _ hrm htm (by omega)
       rw [e2] at this
       exact this
     have : (names.map dat)[rank (names.map dat) (dat s)] = dat s := by simp only [heq]; exact e2
     rw [this]; exact List.le_refl _
    have h5 : (names.map dat)[rank (names.map dat) (dat s)] = dat s := List.le_antisymm h4 (List.not_lt.1 h3)
    refine ⟨hr, ?_⟩
    rw [List.getD_eq_getElem?_getD, List.getElem?_eq_getElem hr]
    exact dat_inj (by simpa using h5)
 refine h.mono fun e w' ⟨he, hd⟩ => ?_
 rw [hk] at he
 rw [he]
 exact ⟨by rw [decide_eq_decide.2 hb], ⟨hd⟩⟩
theorem idx_nil (w : World) (lb : Array Value) : Calls Try.prog 59 #[.slice none 0 0, .func (.func 45) #[] lb] w fun e w' => e = .returned (.int .i64 (-1)) /\ w' = w := by
 go_enter Try.func59, Try.ntmps59
 go_wp2
 go_loopg [8] 0 (fun kq v8 w' => v8 = .int .i64 0 /\ w' = w)
 case atStart => exact ⟨rfl, rfl⟩
 case round =>
  obtain ⟨rfl, rfl⟩ := hrel
  go_wp2
  go_ret
  exact ⟨rfl, rfl⟩
theorem del_nil (w : World) (lb : Array Value) : Calls Try.prog 44 #[.slice none 0 0, .func (.func 45) #[] lb] w fun e w' => e = .returned (.slice none 0 0) /\ w' = w := by
 go_enter Try.func44, Try.ntmps44
 go_wp2_with (go_at_call 59; (refine (idx_nil _ _).mono ?_); rintro e w' ⟨rfl, rfl⟩)
 go_ret
 exact ⟨rfl, rfl⟩
theorem del_any (w : World) (base B : Nat) (out : List ByteArray) (s : ByteArray) (v : Value) (hR : Kd.R Kd.string 9 w base (fun _ => True) v out) (hB : B < base) (hbw : base <= w.heap.size) (hcell : w.cell? ⟨B, 0, none⟩ = some (.string s)) :
 Calls Try.prog 44 #[v, .func (.func 45) #[] #[.pointer (some ⟨B, 0, none⟩)]] w fun e w' => ∃ v', e = .returned v' /\ Kd.R Kd.string 9 w' base (fun _ => True) v' (out.filter (fun x => !but s x)) /\ Below base w w' := by
 have hown := Kd.own_of_R hR
 obtain ⟨hlen, ⟨rfl, hn⟩ | ⟨g, c, cur, rfl, hb, hg, hnc, hcm, hcs, htk⟩⟩ := hown
 · have : out = [] := List.eq_nil_of_length_eq_zero hn
   subst this
   refine (del_nil w _).mono ?_
   rintro e w' ⟨rfl, rfl⟩
   exact ⟨_, rfl, Kd.R_nil _ _ _ _ _, Below.refl _ _⟩
 · refine (del_calls w g c base B out s _ hR (by omega) (by omega) hcell).mono ?_
   rintro e w' ⟨v', rfl, h1, _, h2⟩
   exact ⟨v', rfl, h1, h2⟩
end Mg
end Go.Proofs.Ytmadhaccjmakdaa
namespace Go.Proofs.Ytmadhaccjmakdaa
namespace P
open Go.RowKit Go.Proofs.Yw.A Go.Proofs.Yw.B Go.Proofs.Yw.C
def slices_Clone_int.f (l : List Int) : Option (List Int) := if l.length < 17592186044416 then some l else none
theorem slices_Clone_int.calls (A0 : Option Addr) (c0 : Nat) (l0 : List Int) (r : List Int) (w : World) (hr0 : Kd.C (Kd.int .i64) w A0 l0.length l0) (hc0 : l0.length <= c0) (h : slices_Clone_int.f l0 = some r) :
 Calls Try.prog 65 #[.slice A0 l0.length c0] w fun e w' => ∃ v0_ : Value, e = .returned (v0_) /\ Kd.R (Kd.int .i64) 3 w' w.heap.size (fun _ => True) v0_ r /\ Below w.heap.size w w' := by
 unfold slices_Clone_int.f at h
 by_cases hn : l0.length < 17592186044416
 case neg => rw [if_neg hn] at h; cases h
 rw [if_pos hn] at h
 obtain rfl := Option.some.inj h
 have HR := Az.mk hr0
 clear h hr0
 cases A0 with
 | none =>
  have hl0 : l0 = [] := by
   cases l0 with
   | nil => rfl
   | cons a l => obtain ⟨_, _, h3⟩ := HR.1; obtain ⟨ad, e, _⟩ := h3 (by simp); cases e
  subst hl0
  have hq := Lib.run_eql_slice_nil (P := Try.prog) w 55 3 none 0 c0 0 0 Try.underlying55
  go_enter Try.func65, Try.ntmps65
  go_wp2
  go_ret
  exact ⟨_, rfl, Kd.R_nil _ _ _ _ _, Below.refl _ _⟩
 | some ad =>
  have OW := Az.mk (Kd.R_of_own (h1 := fun _ => rfl) (enc := Value.int .i64) (xs := []) (base := w.heap.size) (ok := fun _ => True) (e := 3) (w := w.alloc (.cells #[] 3)) (v := .slice (some ⟨w.heap.size, 0, none⟩) 0 0) ⟨by simp [encs], .inr ⟨w.heap.size, 0, #[], rfl, Nat.le_refl _, blk_new w _, Nat.le_refl _, Nat.zero_le _, by simp, by simp [encs]⟩⟩ (fun _ _ => trivial))
  have HC := Az.mk (Kd.C_below HR.1 (below_alloc (Below.refl w.heap.size w) (.cells #[] 3)))
  have hq := Lib.run_eql_slice_nil (P := Try.prog) w 55 3 (some ad) l0.length c0 0 0 Try.underlying55
  go_enter Try.func65, Try.ntmps65
  go_wp2_with ((with_reducible refine gate_builtin (b := .append) (xs := #[.tmp 5, .tmp 6]) rfl ?_); at_builtin; refine Kd.R_append_row (Value.int .i64) (0 : Int) (w0 := w) w.heap.size rfl (.tmp 5) (.tmp 6) 55 3 (.int .i64 0) 8 rfl Try.underlying55 info3 rfl (by decide) (.slice (some ⟨w.heap.size, 0, none⟩) 0 0) [] l0 (some ad) l0.length c0 (fun _ => True) rfl rfl (fun _ _ => trivial) OW.1 HC.1 (below_alloc (Below.refl w.heap.size w) _) (by simp) (by simp; omega) ?_)
  intro v1 w1 ho hb _ _
  have Ho := Az.mk ho
  have Hb := Az.mk hb
  clear ho hb
  obtain ⟨A1, q1, rfl⟩ := Kd.R_slice Ho.1
  go_wp2_with fail
  go_ret
  exact ⟨_, rfl, Ho.1, Hb.1⟩
end P
end Go.Proofs.Ytmadhaccjmakdaa
namespace Go.Proofs.Ytmadhaccjmakdaa.P
open Go.RowKit Go.Proofs.Yw.A Go.Proofs.Yw.A.Kd Go.Proofs.Yw.B Go.Proofs.Yw.C
attribute [local go_sem] str_gtr str_leq str_geq max2_int min2_int max_two min_two max_three min_three max_four min_four
noncomputable def g_reached.l0 : Nat -> List (List Int) -> List Bool -> List Int -> Option (List Bool)
 | 0, _, _, _ => none
 | k + 1, x0, x5, x6 => if (x6.length : Int) > 0 then (if 0 <= (wrap64 ((x6.length : Int) - 1)) then (if (wrap64 ((x6.length : Int) - 1)) < (x6.length : Int) then (if (wrap64 ((x6.length : Int) - 1)) <= (x6.length : Int) then ((some (x6.take ((wrap64 ((x6.length : Int) - 1)) : Int).toNat : List Int)).bind fun y235 => (if 0 <= (rd x6 (wrap64 ((x6.length : Int) - 1))) then (if (rd x6 (wrap64 ((x6.length : Int) - 1))) < (x5.length : Int) then (if (rdOf false x5 (rd x6 (wrap64 ((x6.length : Int) - 1))) = true) then (g_reached.l0 k x0 x5 y235) else (if (rd x6 (wrap64 ((x6.length : Int) - 1))) < (x0.length : Int) then (if y235.length + (rd_L11 x0 (rd x6 (wrap64 ((x6.length : Int) - 1)))).length < 17592186044416 then (g_reached.l0 k x0 (x5.set ((rd x6 (wrap64 ((x6.length : Int) - 1))) : Int).toNat true) (y235 ++ (rd_L11 x0 (rd x6 (wrap64 ((x6.length : Int) - 1)))))) else (none)) else (none))) else (none)) else (none))) else (none)) else (none)) else (none)) else (some x5)
noncomputable def g_reached.f (k : Nat) (l0 : List (List Int)) (l1 : List Int) : Option (List Bool) := if 0 <= (l0.length : Int) then (if ((l0.length : Int) : Int).toNat <= 281474976710656 then ((slices_Clone_int.f l1).bind fun t231 => (g_reached.l0 k l0 (List.replicate ((l0.length : Int) : Int).toNat false) t231)) else (none)) else (none)
theorem g_reached.calls (k : Nat) (A0 : Option Addr) (c0 : Nat) (l0 : List (List Int)) (A1 : Option Addr) (c1 : Nat) (l1 : List Int) (r : List Bool) (w : World) (hr0 : Kd.C (Kd.slice 3 (Kd.int .i64)) w A0 l0.length l0) (hc0 : l0.length <= c0) (hr1 : Kd.C (Kd.int .i64) w A1 l1.length l1) (hc1 : l1.length <= c1) (h : g_reached.f k l0 l1 = some r) :
 Calls Try.prog 58 #[.slice A0 l0.length c0, .slice A1 l1.length c1] w fun e w' => ∃ v0_ : Value, e = .returned (v0_) /\ Kd.R Kd.bool 4 w' w.heap.size (fun _ => True) v0_ r /\ Below w.heap.size w w' := by
 have HR0 := aM hr0
 have HC0 := aM hc0
 clear hr0 hc0
 have HR1 := aM hr1
 have HC1 := aM hc1
 clear hr1 hc1
 have HB := aM (Below.refl w.heap.size w)
 have H : (if 0 <= (l0.length : Int) then (if ((l0.length : Int) : Int).toNat <= 281474976710656 then ((slices_Clone_int.f l1).bind fun t231 => (g_reached.l0 k l0 (List.replicate ((l0.length : Int) : Int).toNat false) t231)) else (none)) else (none)) = some r := h
 clear h
 by_cases c3 : 0 <= (l0.length : Int)
 rotate_left
 · rw [if_neg c3] at H
   exact absurd H (by simp)
 rw [if_pos c3] at H
 have c3b0 := eq_true c3
 have c3b1 : decide (0 <= (l0.length : Int)) = true := decide_eq_true c3
 clear c3
 by_cases c4 : ((l0.length : Int) : Int).toNat <= 281474976710656
 rotate_left
 · rw [if_neg c4] at H
   exact absurd H (by simp)
 rw [if_pos c4] at H
 have c4b0 := eq_true c4
 have c4b1 : decide (((l0.length : Int) : Int).toNat <= 281474976710656) = true := decide_eq_true c4
 clear c4
 obtain ⟨y228, hy228⟩ : ∃ y_ : List Bool, y_ = (List.replicate ((l0.length : Int) : Int).toNat false) := ⟨_, rfl⟩
 replace H : ((slices_Clone_int.f l1).bind fun t231 => (g_reached.l0 k l0 y228 t231)) = some r := by first | (rw [hy228]; with_reducible exact H) | (have H2_ := (Option.bind_some _ _).symm.trans H; rw [hy228]; with_reducible exact H2_) | (have H2_ := (Option.bind_some _ _).symm.trans H; with_reducible exact H2_) | with_reducible exact H | (rw [hy228]; exact H) | exact H
 have Ny228 := aM hy228
 clear hy228
 replace H := Option.bind_eq_some_iff.mp H
 obtain ⟨t231, A50, H⟩ := H
 try dsimp only at H
 have A5 := aM A50
 clear A50
 have H' := aM H
 clear H
 go_enter Try.func58, Try.ntmps58
 go_wp2_with (first | ((with_reducible refine gate_dst (N := 10) rfl ?_); refine R_make Kd.bool _ 4 rfl (N := 10) rfl 92 _ _ rfl (l0.length : Int) rfl rfl Try.underlying92 (.bool false) 1 info4 rfl (by decide) (by omega) false (ok := fun _ => True) (okp := fun _ => True) rfl (fun _ hk => hk) trivial (dt) (Nat.le_trans (Nat.mul_le_mul_right _ (dt : (l0.length : Int).toNat <= 281474976710656)) (by omega)) (Below.refl _ _) (Nat.le_refl _) ?_; intro v229 w6 ho7 hb hg_ hnew_; clear hg_ hnew_; (first | rw [<- Ny228.1] at ho7 | (simp only [Int.reduceToNat] at ho7; rw [<- Ny228.1] at ho7)); have HO230 := aM (R_lower ho7 (below_size (hh HB))); replace HB := bs HB hb; clear hb ho7) | ((with_reducible refine gate_callee (f := 65) rfl ?_); refine gL (some 12) rfl rfl Try.func65 (by kernel_rfl) rfl #[.slice A1 l1.length c1] rfl ?_; (with_reducible refine (slices_Clone_int.calls _ _ l1 t231 _ ?side1 ?side2 A5.1).mono ?_); (case side1 => exact cb HR1 HB); (case side2 => exact HC1.1); rintro e w8 ⟨v232, rfl, ho0, hb⟩; refine ⟨_, rfl, ?_⟩; have HO233 := aM (R_lower ho0 (below_size (hh HB))); replace HO230 := rb HO230 hb; replace HB := bs HB hb; clear hb ho0))
 go_loopg [6] k (fun kq v6 w' => ∃ (x5_1 : List Bool) (x6_1 : List Int), Az (g_reached.l0 kq l0 x5_1 x6_1 = some r) /\ Az (kq <= k) /\ Az (Kd.R Kd.bool 4 w' w.heap.size (fun _ => True) v229 x5_1) /\ Az (Kd.R (Kd.int .i64) 3 w' w.heap.size (fun _ => True) v6 x6_1) /\ Az (Below w.heap.size w w'))
 case atStart => exact ⟨(y228), (t231), H', ⟨Nat.le_refl _⟩, ⟨rk HO230⟩, ⟨rk HO233⟩, ⟨hh HB⟩⟩
 case round =>
  clear H'
  clear c3b0 c3b1 c4b0 c4b1
  obtain ⟨x5_1, x6_1, HA, HK1, HO_5, HO_6, HB⟩ := hrel
  cases gk with
  | zero => exact absurd HA.1 (by simp [g_reached.l0])
  | succ k1 =>
   have H := HA.1
   clear HA
   simp only [g_reached.l0] at H
   by_cases c9 : (x6_1.length : Int) > 0
   rotate_left
   · rw [if_neg c9] at H
     have c9b0 : decide (0 < (x6_1.length : Int)) = false := decide_eq_false c9
     have c9b1 : decide (0 < x6_1.length) = false := decide_eq_false (by omega)
     clear c9
     obtain rfl := Option.some.inj H
     obtain ⟨Ao30, co30, eo30⟩ := R_slice HO_6.1
     subst eo30
     go_wp2
     go_ret
     exact ⟨_, by first | rfl | (simp [errW_none, errW_some] <;> rfl) | (simp [*, errW_none, errW_some] <;> rfl), rk HO_5, hh HB⟩
   rw [if_pos c9] at H
   have c9b0 : decide (0 < (x6_1.length : Int)) = true := decide_eq_true c9
   have c9b1 : decide (0 < x6_1.length) = true := decide_eq_true (by omega)
   clear c9
   obtain ⟨ji10, hji10⟩ : ∃ j_ : Int, (wrap64 ((x6_1.length : Int) - 1)) = j_ := ⟨_, rfl⟩
   replace H : (if 0 <= (ji10) then (if (ji10) < (x6_1.length : Int) then (if (ji10) <= (x6_1.length : Int) then ((some (x6_1.take ((ji10) : Int).toNat : List Int)).bind fun y235 => (if 0 <= (rd x6_1 (ji10)) then (if (rd x6_1 (ji10)) < (x5_1.length : Int) then (if (rdOf false x5_1 (rd x6_1 (ji10)) = true) then (g_reached.l0 k1 l0 x5_1 y235) else (if (rd x6_1 (ji10)) < (l0.length : Int) then (if y235.length + (rd_L11 l0 (rd x6_1 (ji10))).length < 17592186044416 then (g_reached.l0 k1 l0 (x5_1.set ((rd x6_1 (ji10)) : Int).toNat true) (y235 ++ (rd_L11 l0 (rd x6_1 (ji10))))) else (none)) else (none))) else (none)) else (none))) else (none)) else (none)) else (none)) = some r := by first | (rw [hji10] at H; exact H) | (simp only [hji10] at H ⊢; exact H)
   have hji10w : (IntKind.i64.wrap ((x6_1.length : Int) - 1)) = ji10 := (i64_w _).trans hji10
   by_cases c11 : 0 <= (ji10)
   rotate_left
   · rw [if_neg c11] at H
     exact absurd H (by simp)
   rw [if_pos c11] at H
   have c11b0 : decide (0 <= (ji10)) = true := decide_eq_true c11
   clear c11
   by_cases c12 : (ji10) < (x6_1.length : Int)
   rotate_left
   · rw [if_neg c12] at H
     exact absurd H (by simp)
   rw [if_pos c12] at H
   have c12b0 : decide ((ji10) < (x6_1.length : Int)) = true := decide_eq_true c12
   clear c12
   by_cases c13 : (ji10) <= (x6_1.length : Int)
   rotate_left
   · rw [if_neg c13] at H
     exact absurd H (by simp)
   rw [if_pos c13] at H
   have c13b0 := eq_true c13
   have c13b1 : decide ((ji10) <= (x6_1.length : Int)) = true := decide_eq_true c13
   clear c13
   obtain ⟨y235, hy235⟩ : ∃ y_ : List Int, y_ = (x6_1.take ((ji10) : Int).toNat) := ⟨_, rfl⟩
   replace H : (if 0 <= (rd x6_1 (ji10)) then (if (rd x6_1 (ji10)) < (x5_1.length : Int) then (if (rdOf false x5_1 (rd x6_1 (ji10)) = true) then (g_reached.l0 k1 l0 x5_1 y235) else (if (rd x6_1 (ji10)) < (l0.length : Int) then (if y235.length + (rd_L11 l0 (rd x6_1 (ji10))).length < 17592186044416 then (g_reached.l0 k1 l0 (x5_1.set ((rd x6_1 (ji10)) : Int).toNat true) (y235 ++ (rd_L11 l0 (rd x6_1 (ji10))))) else (none)) else (none))) else (none)) else (none)) = some r := by first | (rw [hy235]; with_reducible exact H) | (have H2_ := (Option.bind_some _ _).symm.trans H; rw [hy235]; with_reducible exact H2_) | (have H2_ := (Option.bind_some _ _).symm.trans H; with_reducible exact H2_) | with_reducible exact H | (rw [hy235]; exact H) | exact H
   have Ny235 := aM hy235
   clear hy235
   by_cases c14 : 0 <= (rd x6_1 (ji10))
   rotate_left
   · rw [if_neg c14] at H
     exact absurd H (by simp)
   rw [if_pos c14] at H
   have c14b0 : decide (0 <= (rd x6_1 (ji10))) = true := decide_eq_true c14
   clear c14
   by_cases c15 : (rd x6_1 (ji10)) < (x5_1.length : Int)
   rotate_left
   · rw [if_neg c15] at H
     exact absurd H (by simp)
   rw [if_pos c15] at H
   have c15b0 : decide ((rd x6_1 (ji10)) < (x5_1.length : Int)) = true := decide_eq_true c15
   clear c15
   obtain ⟨bq16, hbq16⟩ : ∃ b_ : Bool, b_ = (rdOf false x5_1 (rd x6_1 (ji10))) := ⟨_, rfl⟩
   replace H : (if (bq16 = true) then (g_reached.l0 k1 l0 x5_1 y235) else (if (rd x6_1 (ji10)) < (l0.length : Int) then (if y235.length + (rd_L11 l0 (rd x6_1 (ji10))).length < 17592186044416 then (g_reached.l0 k1 l0 (x5_1.set ((rd x6_1 (ji10)) : Int).toNat true) (y235 ++ (rd_L11 l0 (rd x6_1 (ji10))))) else (none)) else (none))) = some r := by rw [<- hbq16] at H; exact H
   have Nbq16 := aM hbq16
   clear hbq16
   by_cases c17 : (bq16 = true)
   · subst c17
     rw [if_pos rfl] at H
     have H' := aM H
     clear H
     obtain ⟨Ao18, co18, eo18⟩ := R_slice HO_6.1
     subst eo18
     have p234 : 0 <= ((ji10) : Int) := dt
     have q234 : (ji10) < (x6_1.length : Int) := dt
     obtain ⟨ad234, e234, hx234_0⟩ := Kd.at_int (R_reads' HO_6.1).2.2 (ji10) p234 q234
     cases e234
     replace p234 := eq_true p234
     replace q234 := eq_true q234
     have q19 : ((ji10) : Int) <= ((x6_1.length : Int) : Int) := dt
     obtain ⟨i019, hi019, _, hsz19, _⟩ := info_parts info3
     have hcut19 := cut_to (P := Try.prog) 55 3 .i64 Try.underlying55 hi019 (some ad234) x6_1.length co18 (ji10) (dt) q19 (R_reads' HO_6.1).2.1
     have hr19 := R_take (m := ((ji10) : Int).toNat) HO_6.1 (by omega)
     have hy19 : y235.length = ((ji10) : Int).toNat := (by rw [Ny235.1, List.length_take]; omega)
     rw [<- Ny235.1] at hr19
     rw [<- hy19] at hr19 hcut19
     clear hy19 hi019 hsz19 HO_6
     have HO237 := aM hr19
     clear hr19
     replace q19 := eq_true q19
     obtain ⟨Ao20, co20, eo20⟩ := R_slice HO_5.1
     subst eo20
     have p238 : 0 <= ((rd x6_1 (ji10)) : Int) := dt
     have q238 : (rd x6_1 (ji10)) < (x5_1.length : Int) := dt
     obtain ⟨ad238, e238, hx238_0⟩ := Kd.at_bool (R_reads' HO_5.1).2.2 (rd x6_1 (ji10)) p238 q238
     (try rw [<- Nbq16.1] at hx238_0)
     cases e238
     replace p238 := eq_true p238
     replace q238 := eq_true q238
     go_wp2
     go_roundg k1
     case measure => have := HK1.1; omega
     case rel => exact ⟨(x5_1), (y235), H', ⟨by have := HK1.1; omega⟩, ⟨rk HO_5⟩, ⟨rk HO237⟩, ⟨hh HB⟩⟩
   replace c17 := Bool.eq_false_iff.mpr c17
   subst c17
   rw [if_neg (show ¬ (false = true) by decide)] at H
   obtain ⟨y239, hy239⟩ : ∃ y_ : List Bool, y_ = (x5_1.set ((rd x6_1 (ji10)) : Int).toNat true) := ⟨_, rfl⟩
   replace H : (if (rd x6_1 (ji10)) < (l0.length : Int) then (if y235.length + (rd_L11 l0 (rd x6_1 (ji10))).length < 17592186044416 then (g_reached.l0 k1 l0 y239 (y235 ++ (rd_L11 l0 (rd x6_1 (ji10))))) else (none)) else (none)) = some r := by first | (rw [hy239]; with_reducible exact H) | (have H2_ := (Option.bind_some _ _).symm.trans H; rw [hy239]; with_reducible exact H2_) | (have H2_ := (Option.bind_some _ _).symm.trans H; with_reducible exact H2_) | with_reducible exact H | (rw [hy239]; exact H) | exact H
   have Ny239 := aM hy239
   clear hy239
   by_cases c22 : (rd x6_1 (ji10)) < (l0.length : Int)
   rotate_left
   · rw [if_neg c22] at H
     exact absurd H (by simp)
   rw [if_pos c22] at H
   have c22b0 : decide ((rd x6_1 (ji10)) < (l0.length : Int)) = true := decide_eq_true c22
   clear c22
   by_cases c23 : y235.length + (rd_L11 l0 (rd x6_1 (ji10))).length < 17592186044416
   rotate_left
   · rw [if_neg c23] at H
     exact absurd H (by simp)
   rw [if_pos c23] at H
   have LMc23 := aM c23
   clear c23
   obtain ⟨y241, hy241⟩ : ∃ y_ : List Int, y_ = (y235 ++ (rd_L11 l0 (rd x6_1 (ji10)))) := ⟨_, rfl⟩
   replace H : (g_reached.l0 k1 l0 y239 y241) = some r := by first | (rw [hy241]; with_reducible exact H) | (have H2_ := (Option.bind_some _ _).symm.trans H; rw [hy241]; with_reducible exact H2_) | (have H2_ := (Option.bind_some _ _).symm.trans H; with_reducible exact H2_) | with_reducible exact H | (rw [hy241]; exact H) | exact H
   have Ny241 := aM hy241
   clear hy241
   have H' := aM H
   clear H
   obtain ⟨Ao24, co24, eo24⟩ := R_slice HO_6.1
   subst eo24
   have p234 : 0 <= ((ji10) : Int) := dt
   have q234 : (ji10) < (x6_1.length : Int) := dt
   obtain ⟨ad234, e234, hx234_0⟩ := Kd.at_int (R_reads' HO_6.1).2.2 (ji10) p234 q234
   cases e234
   replace p234 := eq_true p234
   replace q234 := eq_true q234
   have q25 : ((ji10) : Int) <= ((x6_1.length : Int) : Int) := dt
   obtain ⟨i025, hi025, _, hsz25, _⟩ := info_parts info3
   have hcut25 := cut_to (P := Try.prog) 55 3 .i64 Try.underlying55 hi025 (some ad234) x6_1.length co24 (ji10) (dt) q25 (R_reads' HO_6.1).2.1
   have hr25 := R_take (m := ((ji10) : Int).toNat) HO_6.1 (by omega)
   have hy25 : y235.length = ((ji10) : Int).toNat := (by rw [Ny235.1, List.length_take]; omega)
   rw [<- Ny235.1] at hr25
   rw [<- hy25] at hr25 hcut25
   clear hy25 hi025 hsz25 HO_6
   have HO237 := aM hr25
   clear hr25
   replace q25 := eq_true q25
   obtain ⟨Ao26, co26, eo26⟩ := R_slice HO_5.1
   subst eo26
   have p238 : 0 <= ((rd x6_1 (ji10)) : Int) := dt
   have q238 : (rd x6_1 (ji10)) < (x5_1.length : Int) := dt
   obtain ⟨ad238, e238, hx238_0⟩ := Kd.at_bool (R_reads' HO_5.1).2.2 (rd x6_1 (ji10)) p238 q238
   (try rw [<- Nbq16.1] at hx238_0)
   cases e238
   replace p238 := eq_true p238
   replace q238 := eq_true q238
   have p21 : 0 <= ((rd x6_1 (ji10)) : Int) := dt
   have q21 : ((rd x6_1 (ji10)) : Int) < ((x5_1.length : Int) : Int) := dt
   obtain ⟨go21, co21, eo21, gb21, gl21, cl21, HG21⟩ := R_form HO_5.1 (by omega)
   (first | cases eo21 | (injection eo21 with ea_ en_ ec_; (first | subst ea_ | (injection ea_ with ea_; subst ea_)); subst ec_; clear en_))
   have GB21 := aM gb21
   have GG21 := aM HG21
   clear gb21 gl21 HG21
   (first | simp only [add_plain] at hx238_0 | skip)
   obtain ⟨hx21_0, hf21_0⟩ := R_celln false HO_5.1 ((rd x6_1 (ji10)) : Int) p21 q21
   replace p21 := eq_true p21
   replace q21 := eq_true q21
   have HP27 := R_putg HO_5.1 ((rd x6_1 (ji10)) : Int) true
   go_wp2_with (first | ((with_reducible refine gate_store (t := 4) (p := 34) rfl ?_); refine store_event (t := 4) (p := 34) (v := ?vo_w28) (w1 := (wr.setCell ⟨go21, ((rd x6_1 (ji10)) : Int).toNat, none⟩ (.bool true))) ?hg ?ho ?hn ?hr ?_; (case ho => rfl); (case hg => rfl); (case hn => rfl); (case hr => first | (go_simp; done) | (go_simp; rfl)); intro w28 hw; have hg : wr.grownBy w28 (some go21) := (by rw [hw]; exact HP27.2); have hp_ : Kd.R Kd.bool 4 w28 w.heap.size (fun _ => True) (.slice (some ⟨go21, 0, none⟩) x5_1.length co26) y239 := (by rw [hw, Ny239.1]; exact HP27.1); clear HP27; replace HO237 := aM (R_over' (v := (.slice (some ⟨go21, 0, none⟩) x5_1.length co26)) (rk HO237) (R_typed HO_5.1) (by decide) hg); replace HO_5 := aM (hp_); replace HB := aM ((by rw [hw]; exact below_set (HB.1) GB21.1 : Below w.heap.size w w28)); clear hg hw hp_; have p240 : 0 <= ((rd x6_1 (ji10)) : Int) := dt; have q240 : (rd x6_1 (ji10)) < (l0.length : Int) := dt; obtain ⟨ad240, A240_0, c240_0, e240, hx240_0, hl240_0, hi240_0⟩ := at_L11 HR0.1 (rd x6_1 (ji10)) p240 q240; cases e240; replace hx240_0 := hx HB hx240_0; have HR240_0 := aM hi240_0; have HC240_0 := aM hl240_0; clear hi240_0 hl240_0; replace p240 := eq_true p240; replace q240 := eq_true q240) | ((with_reducible refine gate_builtin (b := .append) (xs := #[.tmp 35, .tmp 39]) rfl ?_); at_builtin; refine R_append_rows (Kd.int .i64) (w0 := w) w.heap.size rfl (.tmp 35) (.tmp 39) 55 3 (.int .i64 0) 8 rfl Try.underlying55 info3 rfl (by decide) (by omega) (.slice (some ad234) y235.length co24) y235 (rd_L11 l0 (rd x6_1 (ji10))) _ _ _ (fun _ => True) (fun _ => False) rfl rfl ?aO ?aR (fun _ _ h => h) (fun _ h => h.elim) ?aF ?aB ?aS ?aL ?_; (case aR => exact cb HR240_0 HB); (case aB => exact (hh HB)); (case aF => exact (fun _ _ => trivial)); (case aO => exact (rk HO237)); (case aS => exact (below_size (hh HB))); (case aL => have := LMc23.1; omega); intro v242 w29 ho hb hg hat; rw [<- Ny241.1] at ho; have HO243 := aM (ho); replace HO_5 := aM (R_over' (rk HO_5) (R_typed (rk HO237)) (by decide) hg); replace HB := aM (hb); clear HO237; clear ho hb hg hat))
   go_roundg k1
   case measure => have := HK1.1; omega
   case rel => exact ⟨(y239), (y241), H', ⟨by have := HK1.1; omega⟩, ⟨rk HO_5⟩, ⟨rk HO243⟩, ⟨hh HB⟩⟩
mutual
noncomputable def g_Reach.j0 : Nat -> Int -> Bool -> List (List Int) -> Option (List Int)
 | 0, _, _, _ => none
 | k + 1, x1, x21, x245000 => if x21 = true then (some ([] : List Int)) else ((g_reached.f k x245000 (([x1] : List Int))).bind fun t249 => (g_Reach.l0 k ([] : List Int) t249 (t249.length : Int) 0))
noncomputable def g_Reach.l0 : Nat -> List Int -> List Bool -> Int -> Int -> Option (List Int)
 | 0, _, _, _, _ => none
 | k + 1, x5, x26, x27, x28 => if x28 < x27 then (if 0 <= x28 then (if x28 < (x26.length : Int) then (if rdOf false x26 x28 = true then (if x5.length < 17592186044416 then (g_Reach.l0 k (x5 ++ [x28]) x26 x27 (wrap64 (x28 + 1))) else (none)) else (g_Reach.l0 k x5 x26 x27 (wrap64 (x28 + 1)))) else (none)) else (none)) else (some x5)
end
noncomputable def g_Reach.f (k : Nat) (l0_0 : List (List Int)) (a1 : Int) : Option (List Int) := (g_valid.f k l0_0).bind fun t245 => (if t245 = true then (if a1 < 0 then (g_Reach.j0 k a1 true l0_0) else (g_Reach.j0 k a1 (decide (a1 >= (l0_0.length : Int))) l0_0)) else (g_Reach.j0 k a1 true l0_0))
theorem g_Reach.calls (k : Nat) (A0_0 : Option Addr) (c0_0 : Nat) (l0_0 : List (List Int)) (a1 : Int) (r : List Int) (w : World) (hr0_0 : Kd.C (Kd.slice 3 (Kd.int .i64)) w A0_0 l0_0.length l0_0) (hc0_0 : l0_0.length <= c0_0) (h : g_Reach.f k l0_0 a1 = some r) :
 Calls Try.prog 43 #[.agg #[.slice A0_0 l0_0.length c0_0], .int .i64 a1] w fun e w' => ∃ v0_ : Value, e = .returned (v0_) /\ Kd.R (Kd.int .i64) 3 w' w.heap.size (fun _ => True) v0_ r /\ Below w.heap.size w w' := by
 have hu49 := Try.underlying49
 have HR0_0 := aM hr0_0
 have HC0_0 := aM hc0_0
 clear hr0_0 hc0_0
 have HB := aM (Below.refl w.heap.size w)
 have H : ((g_valid.f k l0_0).bind fun t245 => (if t245 = true then (if a1 < 0 then (g_Reach.j0 k a1 true l0_0) else (g_Reach.j0 k a1 (decide (a1 >= (l0_0.length : Int))) l0_0)) else (g_Reach.j0 k a1 true l0_0))) = some r := h
 clear h
 have HC3 := aM H
 clear H
 go_enter Try.func43, Try.ntmps43
 go_upto_region 1 with (first | ((with_reducible refine gate_dst (N := 2) rfl ?_); (try (refine gate_guard (by rfl) ?_; dsimp only)); refine be 2 rfl rfl #[.slice A0_0 l0_0.length c0_0] 49 ?_; intro gb244 hg w4 hbox hb; have BK244 := aM hbox; have GE244 := gs hg HB; replace HB := bs HB hb; clear hb hbox hg))
 (try simp only [Act.put, sA, sZ, sS])
 go_cut [21] (fun v21 wc => ∃ (kq : Nat) (x21_2 : Bool), v21 = .bool x21_2 /\ Az (g_Reach.j0 kq a1 x21_2 l0_0 = some r) /\ Az (kq <= k) /\ Az (wc.heap[gb244]? = some (.cells #[(.slice A0_0 l0_0.length c0_0)] 49 (0, 0))) /\ Az (Below w.heap.size w wc))
 case first =>
  have H := HC3.1
  clear HC3
  replace H := Option.bind_eq_some_iff.mp H
  obtain ⟨t245, A50, H⟩ := H
  try dsimp only at H
  have A5 := aM A50
  clear A50
  by_cases c6 : t245 = true
  rotate_left
  · replace c6 := Bool.eq_false_iff.mpr c6
    subst c6
    rw [if_neg (show ¬ (false = true) by decide)] at H
    have H' := aM H
    clear H
    have hcz13_0 : w4.cell? ⟨gb244, 0, none⟩ = some (.slice A0_0 l0_0.length c0_0) := (blk_cell BK244.1 0).trans rfl
    have hfz13_0 := blk_frozen BK244.1 0
    go_wp2_with (first | ((with_reducible refine gate_callee (f := 39) rfl ?_); refine gL (some 9) rfl rfl Try.func39 (by kernel_rfl) rfl #[.agg #[.slice A0_0 l0_0.length c0_0]] rfl ?_; (with_reducible refine (g_valid.calls k _ _ l0_0 false _ ?side1 ?side2 A5.1).mono ?_); (case side1 => exact cb HR0_0 HB); (case side2 => exact HC0_0.1); rintro e w14 ⟨rfl, hb⟩; refine ⟨_, rfl, ?_⟩; replace BK244 := kb BK244 hb; replace HB := bs HB hb; clear hb))
    go_meet
    case rel => exact ⟨_, (true), rr, H', ⟨by first | omega | exact Nat.le_refl _⟩, ⟨kk BK244⟩, ⟨hh HB⟩⟩
  subst c6
  rw [if_pos rfl] at H
  by_cases c7 : a1 < 0
  · rw [if_pos c7] at H
    have c7b0 : decide (a1 < 0) = true := decide_eq_true c7
    clear c7
    (first | rw [c7b0] | (simp only [i64_w, i32_w]; rw [c7b0]) | skip)
    have H' := aM H
    clear H
    have hcz8_0 : w4.cell? ⟨gb244, 0, none⟩ = some (.slice A0_0 l0_0.length c0_0) := (blk_cell BK244.1 0).trans rfl
    have hfz8_0 := blk_frozen BK244.1 0
    go_wp2_with (first | ((with_reducible refine gate_callee (f := 39) rfl ?_); refine gL (some 9) rfl rfl Try.func39 (by kernel_rfl) rfl #[.agg #[.slice A0_0 l0_0.length c0_0]] rfl ?_; (with_reducible refine (g_valid.calls k _ _ l0_0 true _ ?side1 ?side2 A5.1).mono ?_); (case side1 => exact cb HR0_0 HB); (case side2 => exact HC0_0.1); rintro e w9 ⟨rfl, hb⟩; refine ⟨_, rfl, ?_⟩; replace BK244 := kb BK244 hb; replace HB := bs HB hb; clear hb))
    go_meet
    case rel => exact ⟨_, (true), rr, H', ⟨by first | omega | exact Nat.le_refl _⟩, ⟨kk BK244⟩, ⟨hh HB⟩⟩
  rw [if_neg c7] at H
  have c7b0 : decide (a1 < 0) = false := decide_eq_false c7
  clear c7
  (first | rw [c7b0] | (simp only [i64_w, i32_w]; rw [c7b0]) | skip)
  have H' := aM H
  clear H
  have hcz10_0 : w4.cell? ⟨gb244, 0, none⟩ = some (.slice A0_0 l0_0.length c0_0) := (blk_cell BK244.1 0).trans rfl
  have hfz10_0 := blk_frozen BK244.1 0
  go_wp2_with (first | ((with_reducible refine gate_callee (f := 39) rfl ?_); refine gL (some 9) rfl rfl Try.func39 (by kernel_rfl) rfl #[.agg #[.slice A0_0 l0_0.length c0_0]] rfl ?_; (with_reducible refine (g_valid.calls k _ _ l0_0 true _ ?side1 ?side2 A5.1).mono ?_); (case side1 => exact cb HR0_0 HB); (case side2 => exact HC0_0.1); rintro e w11 ⟨rfl, hb⟩; refine ⟨_, rfl, ?_⟩; replace BK244 := kb BK244 hb; replace HB := bs HB hb; clear hb; have hcz12_0 : w11.cell? ⟨gb244, 0, none⟩ = some (.slice A0_0 l0_0.length c0_0) := (blk_cell BK244.1 0).trans rfl; have hfz12_0 := blk_frozen BK244.1 0))
  go_meet
  case rel => exact ⟨_, (decide (a1 >= (l0_0.length : Int))), rr, H', ⟨by first | omega | exact Nat.le_refl _⟩, ⟨kk BK244⟩, ⟨hh HB⟩⟩
 case rest =>
  clear HC3
  obtain ⟨kq, x21_2, rfl, HA, HJ2, BK244, HB⟩ := hcut
  cases kq with
  | zero => exact absurd HA.1 (by simp [g_Reach.j0])
  | succ kj2 =>
   have H := HA.1
   clear HA
   simp only [g_Reach.j0] at H
   by_cases c15 : x21_2 = true
   · subst c15
     rw [if_pos rfl] at H
     obtain rfl := Option.some.inj H
     go_wp2
     go_ret
     exact ⟨_, by first | rfl | (simp [errW_none, errW_some] <;> rfl) | (simp [*, errW_none, errW_some] <;> rfl), by first | exact R_nil _ _ _ _ _ | exact N_nil _ _ _ _ _ | exact V_nil _ _ _ _ _ | exact Q_nil _ _ _ _ _ | exact S_nil _ _ _ _ _, hh HB⟩
   replace c15 := Bool.eq_false_iff.mpr c15
   subst c15
   rw [if_neg (show ¬ (false = true) by decide)] at H
   obtain ⟨y246, hy246⟩ : ∃ y_ : List Int, y_ = (([a1] : List Int)) := ⟨_, rfl⟩
   replace H : ((g_reached.f kj2 l0_0 y246).bind fun t249 => (g_Reach.l0 kj2 ([] : List Int) t249 (t249.length : Int) 0)) = some r := by first | (rw [hy246]; with_reducible exact H) | (have H2_ := (Option.bind_some _ _).symm.trans H; rw [hy246]; with_reducible exact H2_) | (have H2_ := (Option.bind_some _ _).symm.trans H; with_reducible exact H2_) | with_reducible exact H | (rw [hy246]; exact H) | exact H
   have Ny246 := aM hy246
   clear hy246
   replace H := Option.bind_eq_some_iff.mp H
   obtain ⟨t249, A160, H⟩ := H
   try dsimp only at H
   have A16 := aM A160
   clear A160
   have H' := aM H
   clear H
   have hcz17_0 : wc.cell? ⟨gb244, 0, none⟩ = some (.slice A0_0 l0_0.length c0_0) := (blk_cell BK244.1 0).trans rfl
   have hfz17_0 := blk_frozen BK244.1 0
   go_wp2_with (first | ((with_reducible refine gate_dst (N := 25) rfl ?_); (try (refine gate_guard (by rfl) ?_; dsimp only)); refine R_lit (Kd.int .i64) _ 3 ?hg (N := 25) ?hd (xs := ([a1] : List Int)) (inner := [.int .i64 a1]) (ok := fun _ => True) (okp := fun _ => True) ?hr ?hp (fun _ hk => hk) trivial (Below.refl _ _) (Nat.le_refl _) (by simp) ?_; (case hd => rfl); (case hg => rfl); (case hr => first | (go_simp; done) | (go_simp; rfl)); (case hp => exact (Reps.one (show Kd.M (Kd.int .i64) _ _ _ a1 [.int .i64 a1] from rfl) (Reps.none _ _))); intro v247 w18 ho19 hb hg_ hnew_; clear hg_ hnew_; (first | rw [<- Ny246.1] at ho19 | (simp only [Int.reduceToNat] at ho19; rw [<- Ny246.1] at ho19)); have HO248 := aM (R_lower ho19 (below_size (hh HB))); replace BK244 := kb BK244 hb; replace HB := bs HB hb; clear hb ho19; obtain ⟨Ao20, co20, eo20⟩ := R_slice HO248.1; subst eo20) | ((with_reducible refine gate_callee (f := 58) rfl ?_); refine gL (some 26) rfl rfl Try.func58 (by kernel_rfl) rfl #[.slice A0_0 l0_0.length c0_0, .slice Ao20 y246.length co20] rfl ?_; (with_reducible refine (g_reached.calls kj2 _ _ l0_0 _ _ y246 t249 _ ?side1 ?side2 ?side3 ?side4 A16.1).mono ?_); (case side1 => exact cb HR0_0 HB); (case side2 => exact HC0_0.1); (case side3 => exact cr HO248); (case side4 => exact (R_reads' HO248.1).2.1); rintro e w21 ⟨v250, rfl, ho0, hb⟩; refine ⟨_, rfl, ?_⟩; have HO251 := aM (R_lower ho0 (below_size (hh HB))); replace HO248 := rb HO248 hb; replace BK244 := kb BK244 hb; replace HB := bs HB hb; clear hb ho0; obtain ⟨Ao22, co22, eo22⟩ := R_slice HO251.1; subst eo22))
   go_loopg [5, 28] kj2 (fun kq v5 v28 w' => ∃ (x5_2 : List Int) (x28_2 : Int), v28 = .int .i64 x28_2 /\ Az (g_Reach.l0 kq x5_2 t249 (t249.length : Int) x28_2 = some r) /\ Az (kq <= kj2) /\ Az (Kd.R (Kd.int .i64) 3 w' w.heap.size (fun _ => True) v5 x5_2) /\ Az (Kd.R Kd.bool 4 w' w.heap.size (fun _ => True) (.slice Ao22 t249.length co22) t249) /\ Az (w'.heap[gb244]? = some (.cells #[(.slice A0_0 l0_0.length c0_0)] 49 (0, 0))) /\ Az (Below w.heap.size w w'))
   case atStart => exact ⟨(([] : List Int)), (0), rr, H', ⟨Nat.le_refl _⟩, ⟨by first | exact R_nil _ _ _ _ _ | exact N_nil _ _ _ _ _ | exact V_nil _ _ _ _ _ | exact Q_nil _ _ _ _ _ | exact S_nil _ _ _ _ _⟩, ⟨rk HO251⟩, ⟨kk BK244⟩, ⟨hh HB⟩⟩
   case round =>
    clear H'
    clear hcz17_0 hfz17_0
    obtain ⟨x5_2, x28_2, rfl, HA, HK2, HO_5, HO_26, BK244, HB⟩ := hrel
    cases gk with
    | zero => exact absurd HA.1 (by simp [g_Reach.l0])
    | succ k2 =>
     have H := HA.1
     clear HA
     simp only [g_Reach.l0] at H
     by_cases c23 : x28_2 < (t249.length : Int)
     rotate_left
     · rw [if_neg c23] at H
       have c23b0 : decide (x28_2 < (t249.length : Int)) = false := decide_eq_false c23
       clear c23
       obtain rfl := Option.some.inj H
       go_wp2
       go_ret
       exact ⟨_, by first | rfl | (simp [errW_none, errW_some] <;> rfl) | (simp [*, errW_none, errW_some] <;> rfl), rk HO_5, hh HB⟩
     rw [if_pos c23] at H
     have c23b0 : decide (x28_2 < (t249.length : Int)) = true := decide_eq_true c23
     clear c23
     by_cases c24 : 0 <= x28_2
     rotate_left
     · rw [if_neg c24] at H
       exact absurd H (by simp)
     rw [if_pos c24] at H
     have c24b0 : decide (0 <= x28_2) = true := decide_eq_true c24
     clear c24
     by_cases c25 : x28_2 < (t249.length : Int)
     rotate_left
     · rw [if_neg c25] at H
       exact absurd H (by simp)
     rw [if_pos c25] at H
     have c25b0 : decide (x28_2 < (t249.length : Int)) = true := decide_eq_true c25
     clear c25
     obtain ⟨bq26, hbq26⟩ : ∃ b_ : Bool, b_ = (rdOf false t249 x28_2) := ⟨_, rfl⟩
     replace H : (if bq26 = true then (if x5_2.length < 17592186044416 then (g_Reach.l0 k2 (x5_2 ++ [x28_2]) t249 (t249.length : Int) (wrap64 (x28_2 + 1))) else (none)) else (g_Reach.l0 k2 x5_2 t249 (t249.length : Int) (wrap64 (x28_2 + 1)))) = some r := by rw [<- hbq26] at H; exact H
     have Nbq26 := aM hbq26
     clear hbq26
     by_cases c27 : bq26 = true
     rotate_left
     · replace c27 := Bool.eq_false_iff.mpr c27
       subst c27
       rw [if_neg (show ¬ (false = true) by decide)] at H
       have H' := aM H
       clear H
       have p252 : 0 <= (x28_2 : Int) := dt
       have q252 : x28_2 < (t249.length : Int) := dt
       obtain ⟨ad252, e252, hx252_0⟩ := Kd.at_bool (R_reads' HO_26.1).2.2 x28_2 p252 q252
       (try rw [<- Nbq26.1] at hx252_0)
       cases e252
       replace p252 := eq_true p252
       replace q252 := eq_true q252
       go_wp2
       go_roundg k2
       case measure => have := HJ2.1; have := HK2.1; omega
       case rel => exact ⟨(x5_2), (wrap64 (x28_2 + 1)), rr, H', ⟨by have := HJ2.1; have := HK2.1; omega⟩, ⟨rk HO_5⟩, ⟨rk HO_26⟩, ⟨kk BK244⟩, ⟨hh HB⟩⟩
     subst c27
     rw [if_pos rfl] at H
     by_cases c28 : x5_2.length < 17592186044416
     rotate_left
     · rw [if_neg c28] at H
       exact absurd H (by simp)
     rw [if_pos c28] at H
     have LMc28 := aM c28
     clear c28
     obtain ⟨y253, hy253⟩ : ∃ y_ : List Int, y_ = (x5_2 ++ [x28_2]) := ⟨_, rfl⟩
     replace H : (g_Reach.l0 k2 y253 t249 (t249.length : Int) (wrap64 (x28_2 + 1))) = some r := by first | (rw [hy253]; with_reducible exact H) | (have H2_ := (Option.bind_some _ _).symm.trans H; rw [hy253]; with_reducible exact H2_) | (have H2_ := (Option.bind_some _ _).symm.trans H; with_reducible exact H2_) | with_reducible exact H | (rw [hy253]; exact H) | exact H
     have Ny253 := aM hy253
     clear hy253
     have H' := aM H
     clear H
     have p252 : 0 <= (x28_2 : Int) := dt
     have q252 : x28_2 < (t249.length : Int) := dt
     obtain ⟨ad252, e252, hx252_0⟩ := Kd.at_bool (R_reads' HO_26.1).2.2 x28_2 p252 q252
     (try rw [<- Nbq26.1] at hx252_0)
     cases e252
     replace p252 := eq_true p252
     replace q252 := eq_true q252
     go_wp2_with (first | ((with_reducible refine gate_builtin (b := .append) (xs := #[.tmp 34, .tmp 36]) rfl ?_); (try (refine gate_guard (by rfl) ?_; dsimp only)); at_builtin; refine R_append (Kd.int .i64) (w0 := w) w.heap.size rfl (.tmp 34) (.tmp 36) 55 3 (.int .i64 0) 8 rfl Try.underlying55 info3 rfl (by decide) (by omega) u5 x5_2 x28_2 [.int .i64 x28_2] (fun _ => True) (fun _ => False) rfl rfl ?aP (fun _ hk => hk.elim) ?aF ?aO ?aB ?aS ?aL ?_; (case aP => exact rfl); (case aB => exact (hh HB)); (case aF => exact (fun _ _ => trivial)); (case aO => exact (rk HO_5)); (case aS => exact (below_size (hh HB))); (case aL => have := LMc28.1; omega); intro v254 w29 ho hb hg hat; rw [<- Ny253.1] at ho; have HO255 := aM (ho); replace HO_26 := aM (R_over' (rk HO_26) (R_typed (rk HO_5)) (by decide) hg); replace BK244 := aM (blk_grown (g := gb244) (o := .cells #[.slice A0_0 l0_0.length c0_0] 49 (0, 0)) (kk BK244) hg (R_ne HO_5.1 BK244.1 (by decide))); replace HB := aM (hb); clear HO_5; clear ho hb hg hat))
     go_roundg k2
     case measure => have := HJ2.1; have := HK2.1; omega
     case rel => exact ⟨(y253), (wrap64 (x28_2 + 1)), rr, H', ⟨by have := HJ2.1; have := HK2.1; omega⟩, ⟨rk HO255⟩, ⟨rk HO_26⟩, ⟨kk BK244⟩, ⟨hh HB⟩⟩
end Go.Proofs.Ytmadhaccjmakdaa.P
namespace Go.Proofs.Ytmadhaccjmakdaa
open Go.Shelf Go.Lib Go.RowKit Go.Maps Go.Sort Go.Proofs.Yw.A Go.Proofs.Yw.B Go.Proofs.Yw.C
attribute [local go_sem] max2_int min2_int max_two min_two max_three min_three max_four min_four
open P Mg
namespace P
open Classical in
noncomputable def m_reached.f (l0 : List ByteArray) (l1 l2 : List (List Int)) (s : ByteArray) : Option (List ByteArray × Int × ByteArray × Int × Int) :=
 if (l0.map dat).Pairwise (fun a b => a <= b) /\ l0.length <= 100 then
  if dat s ∈ l0.map dat then
   (Od.lim fun k => (g_Reach.f k l2 (rank (l0.map dat) (dat s) : Nat)).bind fun t => p_named.f k l0 l1 t).bind fun out => some (out.filter (fun x => !but s x), 0, ⟨#[]⟩, 0, 0)
  else some ([], 16, s, 0, 0)
 else none
end P
namespace Mg
def ReachPost (w : World) (r1 : List ByteArray) (r2 : Int) (r3 : ByteArray) (e : Ending) (w' : World) : Prop :=
 ∃ v0_ : Value, e = .returned (.tuple #[v0_, .agg #[.int .i64 r2, .string r3, .int .i64 0, .int .i64 0]]) /\ Kd.R Kd.string 9 w' w.heap.size (fun _ => True) v0_ r1 /\ Below w.heap.size w w'
def ReachAll (w : World) (l0 out : List ByteArray) (s : ByteArray) (e : Ending) (w' : World) : Prop := if dat s ∈ l0.map dat then ReachPost w (out.filter (fun x => !but s x)) 0 ⟨#[]⟩ e w' else ReachPost w [] 16 s e w'
def fst28 (w : World) (g : Nat) (c : Int) (x : ByteArray) : World := (((w.setCell ⟨g, 0, none⟩ (.int .i64 c)).setCell ⟨g, 1, none⟩ (.string x)).setCell ⟨g, 2, none⟩ (.int .i64 0)).setCell ⟨g, 3, none⟩ (.int .i64 0)
theorem fst28_f {w : World} {g : Nat} (h : w.heap[g]? = some (Obj.cells #[Value.int .i64 0, Value.string ⟨#[]⟩, Value.int .i64 0, Value.int .i64 0] 28 (0, 0))) (c : Int) (x : ByteArray) : (fst28 w g c x).heap[g]? = some (Obj.cells #[.int .i64 c, .string x, .int .i64 0, .int .i64 0] 28 (0, 0)) :=
 blk_put (blk_put (blk_put (blk_put h 0 _ rfl) 1 _ rfl) 2 _ rfl) 3 _ rfl
theorem fst28_below {w W : World} {B g : Nat} (h : Below B w W) (hg : B <= g) (c : Int) (x : ByteArray) : Below B w (fst28 W g c x) := by
 unfold fst28
 exact (((h.setCell hg _).setCell hg _).setCell hg _).setCell hg _
theorem fst28_heap (w : World) (g : Nat) (c : Int) (x : ByteArray) (k : Nat) (h : k ≠ g) : (fst28 w g c x).heap[k]? = w.heap[k]? := by
 unfold fst28
 rw [Below.heap_setCell _ _ _ k h, Below.heap_setCell _ _ _ k h, Below.heap_setCell _ _ _ k h, Below.heap_setCell _ _ _ k h]
theorem reached_walk (k : Nat) (A0 : Option Addr) (c0 : Nat) (l0 : List ByteArray) (A1 : Option Addr) (c1 : Nat) (l1 : List (List Int)) (A2 : Option Addr) (c2 : Nat) (l2 : List (List Int)) (s : ByteArray) (w : World)
 (hr0 : Kd.C Kd.string w A0 l0.length l0) (hA0 : PlainA A0) (hc0 : l0.length <= c0) (hr1 : Kd.C (Kd.slice 3 (Kd.int .i64)) w A1 l1.length l1) (hc1 : l1.length <= c1) (hr2 : Kd.C (Kd.slice 3 (Kd.int .i64)) w A2 l2.length l2) (hc2 : l2.length <= c2)
 (hp : (l0.map dat).Pairwise (fun a b => a <= b)) (hl : l0.length <= 100) (t : List Int) (out : List ByteArray)
 (h : dat s ∈ l0.map dat -> g_Reach.f k l2 (rank (l0.map dat) (dat s) : Nat) = some t /\ p_named.f k l0 l1 t = some out) :
 Calls Try.prog 31 #[.agg #[.slice A0 l0.length c0, .slice A1 l1.length c1], .agg #[.slice A2 l2.length c2], .string s] w (ReachAll w l0 out s) := by
 have hu51 := Try.underlying51
 have hu49 := Try.underlying49
 have hu28 := Try.underlying28
 have HR0 := Az.mk hr0
 have HA0 := Az.mk hA0
 have HC0 := Az.mk hc0
 have HR1 := Az.mk hr1
 have HC1 := Az.mk hc1
 have HR2 := Az.mk hr2
 have HC2 := Az.mk hc2
 have HP := Az.mk hp
 have HL := Az.mk hl
 have H := Az.mk h
 clear hr0 hA0 hc0 hr1 hc1 hr2 hc2 hp hl h
 go_enter Try.func31, Try.ntmps31
 go_upto_region 1 with fail
 obtain ⟨o1, ho1⟩ : ∃ o, o = Obj.cells #[Value.slice A0 l0.length c0, Value.slice A1 l1.length c1] 51 (0, 0) := ⟨_, rfl⟩
 obtain ⟨o2, ho2⟩ : ∃ o, o = Obj.cells #[Value.slice A2 l2.length c2] 49 (0, 0) := ⟨_, rfl⟩
 obtain ⟨o3, ho3⟩ : ∃ o, o = Obj.cells #[Value.string s] 9 (0, 0) := ⟨_, rfl⟩
 obtain ⟨o4, ho4⟩ : ∃ o, o = Obj.cells #[Value.int .i64 0, Value.string ⟨#[]⟩, Value.int .i64 0, Value.int .i64 0] 28 (0, 0) := ⟨_, rfl⟩
 have b1 := (MapKept.heap_alloc w o1).1
 have z1 : (w.alloc o1).heap.size = w.heap.size + 1 := by simp
 have b2 := (MapKept.heap_alloc (w.alloc o1) o2).1
 have z2 : ((w.alloc o1).alloc o2).heap.size = w.heap.size + 1 + 1 := by simp
 have b3 := (MapKept.heap_alloc ((w.alloc o1).alloc o2) o3).1
 have z3 : (((w.alloc o1).alloc o2).alloc o3).heap.size = w.heap.size + 1 + 1 + 1 := by simp
 have b4 := (MapKept.heap_alloc (((w.alloc o1).alloc o2).alloc o3) o4).1
 have z4 : ((((w.alloc o1).alloc o2).alloc o3).alloc o4).heap.size = w.heap.size + 1 + 1 + 1 + 1 := by simp
 have f1 := blk_alloc (blk_alloc (blk_alloc b1 o2) o3) o4
 rw [z1] at b2
 have f2 := blk_alloc (blk_alloc b2 o3) o4
 rw [z2] at b3
 have f3 := blk_alloc b3 o4
 rw [z3] at b4
 have hb := below_alloc (below_alloc (below_alloc (below_alloc (Below.refl w.heap.size w) o1) o2) o3) o4
 rw [<- ho1, <- ho2, <- ho3, <- ho4]
 clear b1 b2 b3 z1 z2 z3
 generalize (((w.alloc o1).alloc o2).alloc o3).alloc o4 = w4 at *
 rw [ho1] at f1
 rw [ho2] at f2
 rw [ho3] at f3
 rw [ho4] at b4
 have F1 := Az.mk f1
 have F2 := Az.mk f2
 have F3 := Az.mk f3
 have F4 := Az.mk b4
 have HB := Az.mk hb
 have Z4 := Az.mk z4
 clear f1 f2 f3 b4 z4 hb ho1 ho2 ho3 ho4 o1 o2 o3 o4
 have HN4 := Az.mk (Kd.C_below HR0.1 HB.1)
 have c1a := blk_cell F1.1 0
 have c3a := blk_cell F3.1 0
 by_cases hm : dat s ∈ l0.map dat
 rotate_left
 · have hdm := decide_eq_false hm
   have HM := Az.mk hm
   generalize hrk : rank (l0.map dat) (dat s) = n at *
   clear hm
   go_upto_region 3 with (go_at_call 42; (refine (search2 _ _ _ l0 s HN4.1 HA0.1 HP.1 HL.1).mono ?_); rintro e w5 ⟨he, hd⟩; rw [hdm, hrk] at he; subst he; have HD := Az.mk hd; clear hd)
   clear hrk hdm c1a c3a
   have hd5 := HD.1.below
   have hb5 : Below w.heap.size w w5 := HB.1.trans (hd5.mono HB.1.size)
   have HB5 := Az.mk hb5
   have G3 := blk_below F3.1 hd5
   have G4 := blk_below F4.1 hd5
   have HF8 := Az.mk G4
   have c3a := blk_cell G3 0
   have y0 := blk_cell G4 0
   have y1 := blk_cell G4 1
   have y2 := blk_cell G4 2
   have y3 := blk_cell G4 3
   have e0 := blk_frozen G4 0
   have e1 := blk_frozen G4 1
   have e2 := blk_frozen G4 2
   have e3 := blk_frozen G4 3
   clear hd5 hb5 G3 G4
   go_region
   all_goals go_wp2
   all_goals
    refine bodyPost_ret (results_tc rfl _ _ (w.heap.size + 1 + 1 + 1) 28 #[.int .i64 16, .string s, .int .i64 0, .int .i64 0] (0, 0) _ rfl (by first | exact fst28_f HF8.1 16 s | exact blk_drew (fst28_f HF8.1 16 s) | exact fst28_f (blk_drew HF8.1) 16 s) Try.underlying28 rfl hi28) rfl ?_
    show ReachAll _ _ _ _ _ _
    unfold ReachAll
    rw [if_neg HM.1]
    exact ⟨_, rfl, Kd.R_nil _ _ _ _ _, by first | exact fst28_below HB5.1 (by omega) 16 s | exact below_drew (fst28_below HB5.1 (by omega) 16 s) | exact fst28_below (below_drew HB5.1) (by omega) 16 s⟩
 have HT := Az.mk (H.1 hm)
 have HM := Az.mk hm
 have hdm := decide_eq_true hm
 generalize hrk : rank (l0.map dat) (dat s) = n at *
 clear hm
 go_upto_region 4 with (go_at_call 42; (refine (search2 _ _ _ l0 s HN4.1 HA0.1 HP.1 HL.1).mono ?_); rintro e w5 ⟨he, hd⟩; rw [hdm, hrk] at he; subst he; have HD := Az.mk hd; clear hd)
 clear hrk hdm c1a c3a
 have hd5 := HD.1.below
 have hb5 : Below w.heap.size w w5 := HB.1.trans (hd5.mono HB.1.size)
 have G1 := Az.mk (blk_below F1.1 hd5)
 have G2 := Az.mk (blk_below F2.1 hd5)
 have G3 := Az.mk (blk_below F3.1 hd5)
 have G4 := Az.mk (blk_below F4.1 hd5)
 have HB5 := Az.mk hb5
 have HR05 := Az.mk (Kd.C_below HR0.1 hb5)
 have HR15 := Az.mk (Kd.C_below HR1.1 hb5)
 have HR25 := Az.mk (Kd.C_below HR2.1 hb5)
 have c1a := blk_cell G1.1 0
 have c1b := blk_cell G1.1 1
 have c2a := blk_cell G2.1 0
 clear hd5 hb5
 go_region_with (first | (go_at_call 43; (refine (g_Reach.calls k _ _ l2 n t _ ?s1 HC2.1 HT.1.1).mono ?_); (case s1 => repeat (first | exact HR25.1 | (with_reducible refine Kd.C_alloc ?_ _) | (with_reducible refine Kd.C_drewN ?_ _) | (with_reducible refine Kd.C_drew ?_))); rintro e w6 ⟨v6, rfl, hr6, hb6⟩; obtain ⟨A6, c6, rfl⟩ := Kd.R_slice hr6; have HB6 : Az (Below w5.heap.size w5 w6) := ⟨by first | exact hb6 | exact below_step (below_drew (Below.refl _ _)) hb6 | exact below_step (pw_below_drewN (Below.refl _ _) _) hb6 | exact below_step (below_drew (below_drew (Below.refl _ _))) hb6⟩; have HR6 := Az.mk hr6; have c1a6 := blk_cell (blk_below G1.1 HB6.1) 0; have c1b6 := blk_cell (blk_below G1.1 HB6.1) 1; clear hr6 hb6 c1a c1b c2a) | (go_at_call 26; (refine (p_named.calls k _ _ l0 _ _ l1 _ _ t out _ ?s1 HC0.1 ?s2 HC1.1 ?s3 (Kd.R_reads' HR6.1).2.1 HT.1.2).mono ?_); (case s1 => repeat (first | exact (Kd.C_below HR05.1 HB6.1) | (with_reducible refine Kd.C_alloc ?_ _) | (with_reducible refine Kd.C_drewN ?_ _) | (with_reducible refine Kd.C_drew ?_))); (case s2 => repeat (first | exact (Kd.C_below HR15.1 HB6.1) | (with_reducible refine Kd.C_alloc ?_ _) | (with_reducible refine Kd.C_drewN ?_ _) | (with_reducible refine Kd.C_drew ?_))); (case s3 => repeat (first | exact (Kd.R_reads' HR6.1).2.2 | (with_reducible refine Kd.C_alloc ?_ _) | (with_reducible refine Kd.C_drewN ?_ _) | (with_reducible refine Kd.C_drew ?_))); rintro e w7 ⟨v7, rfl, hr7, hb7⟩; obtain ⟨A7, c7, rfl⟩ := Kd.R_slice hr7; have HR7 := Az.mk hr7; have HB7 : Az (Below w6.heap.size w6 w7) := ⟨by first | exact hb7 | exact below_step (below_drew (Below.refl _ _)) hb7 | exact below_step (pw_below_drewN (Below.refl _ _) _) hb7 | exact below_step (below_drew (below_drew (Below.refl _ _))) hb7⟩; clear hr7 hb7))
 all_goals
  have hb6 := HB6.1
  have hb7 := HB7.1
  have hs6 := hb6.size
  have hs7 := hb7.size
  have hs5 := HD.1.below.size
  have hz4 := Z4.1
  have hlt : w.heap.size + 1 + 1 < w6.heap.size := by omega
  have hle : w6.heap.size <= w7.heap.size := hs7
  have c3 : w7.cell? ⟨w.heap.size + 1 + 1, 0, none⟩ = some (.string s) := blk_cell (blk_below (blk_below G3.1 hb6) hb7) 0
  have hf7 := blk_below (blk_below G4.1 hb6) hb7
  have HF7 := Az.mk hf7
  have hbw : Below w.heap.size w w7 := (HB5.1.trans (hb6.mono HB5.1.size)).trans (hb7.mono (by have := HB5.1.size; omega))
  have HBW := Az.mk hbw
  have HLT := Az.mk (show w.heap.size + 1 + 1 + 1 < w6.heap.size by omega)
  clear hb6 hb7 hs6 hs7 hs5 hz4 hf7 hbw c1a6 c1b6
 all_goals go_wp2_with (first | (go_at_call 44; (refine (del_any _ w6.heap.size (w.heap.size + 1 + 1) out s _ ?s1 hlt ?s3 ?s4).mono ?_); (case s1 => repeat (first | exact HR7.1 | (with_reducible refine Kd.R_alloc ?_ _) | (with_reducible refine Kd.R_drewN ?_ _) | (with_reducible refine Kd.R_drew ?_))); (case s3 => first | exact hle | (simp; exact hle)); (case s4 => first | exact c3 | (simp; exact c3)); rintro e w8 ⟨v8, rfl, hr8, hb8⟩; have HR8 := Az.mk hr8; have HB8 : Az (Below w6.heap.size w7 w8) := ⟨by first | exact hb8 | exact (below_drew (Below.refl _ _)).trans hb8⟩; have hf8 := (HB8.1.block _ HLT.1).trans HF7.1; have HF8 := Az.mk hf8; have y0 := blk_cell hf8 0; have y1 := blk_cell hf8 1; have y2 := blk_cell hf8 2; have y3 := blk_cell hf8 3; have e0 := blk_frozen hf8 0; have e1 := blk_frozen hf8 1; have e2 := blk_frozen hf8 2; have e3 := blk_frozen hf8 3; clear hr8 hb8 hf8 hlt hle c3))
 all_goals
  refine bodyPost_ret (results_tc rfl _ _ (w.heap.size + 1 + 1 + 1) 28 #[.int .i64 0, .string ⟨#[]⟩, .int .i64 0, .int .i64 0] (0, 0) _ rfl (by first | exact fst28_f HF8.1 0 ⟨#[]⟩ | exact blk_drew (fst28_f HF8.1 0 ⟨#[]⟩) | exact fst28_f (blk_drew HF8.1) 0 ⟨#[]⟩) Try.underlying28 rfl hi28) rfl ?_
  show ReachAll _ _ _ _ _ _
  unfold ReachAll
  rw [if_pos HM.1]
  have hw6 : w.heap.size <= w6.heap.size := by have := HLT.1; omega
  have hlt3 := HLT.1
  refine ⟨_, rfl, ?_, by first | exact fst28_below (HBW.1.trans (HB8.1.mono hw6)) (by omega) 0 ⟨#[]⟩ | exact below_drew (fst28_below (HBW.1.trans (HB8.1.mono hw6)) (by omega) 0 ⟨#[]⟩)⟩
  refine Kd.R_lower ?_ hw6
  first
   | exact Kd.R_mono (Kd.R_move (Kd.R_bound HR8.1) (fun k hk => fst28_heap w8 _ 0 ⟨#[]⟩ k (by have := hk.2.1; omega))) (fun _ _ => trivial)
   | exact Kd.R_drew (Kd.R_mono (Kd.R_move (Kd.R_bound HR8.1) (fun k hk => fst28_heap w8 _ 0 ⟨#[]⟩ k (by have := hk.2.1; omega))) (fun _ _ => trivial))
end Mg
namespace P
theorem m_reached.calls (A0_0 : Option Addr) (c0_0 : Nat) (l0_0 : List ByteArray) (A0_1 : Option Addr) (c0_1 : Nat) (l0_1 : List (List Int)) (A1_0 : Option Addr) (c1_0 : Nat) (l1_0 : List (List Int)) (a2 : ByteArray) (r1 : List ByteArray) (r2 : Int) (r3 : ByteArray) (r4 r5 : Int) (w : World)
 (hr0_0 : Kd.C Kd.string w A0_0 l0_0.length l0_0 /\ PlainA A0_0) (hc0_0 : l0_0.length <= c0_0) (hr0_1 : Kd.C (Kd.slice 3 (Kd.int .i64)) w A0_1 l0_1.length l0_1) (hc0_1 : l0_1.length <= c0_1) (hr1_0 : Kd.C (Kd.slice 3 (Kd.int .i64)) w A1_0 l1_0.length l1_0) (hc1_0 : l1_0.length <= c1_0) (h : m_reached.f l0_0 l0_1 l1_0 a2 = some (r1, r2, r3, r4, r5)) :
 Calls Try.prog 31 #[.agg #[.slice A0_0 l0_0.length c0_0, .slice A0_1 l0_1.length c0_1], .agg #[.slice A1_0 l1_0.length c1_0], .string a2] w fun e w' => ∃ v0_ : Value, e = .returned (.tuple #[v0_, .agg #[.int .i64 r2, .string r3, .int .i64 r4, .int .i64 r5]]) /\ Kd.R Kd.string 9 w' w.heap.size (fun _ => True) v0_ r1 /\ Below w.heap.size w w' := by
 unfold m_reached.f at h
 by_cases hg : (l0_0.map dat).Pairwise (fun a b => a <= b) /\ l0_0.length <= 100
 rotate_left
 · rw [if_neg hg] at h
   cases h
 rw [if_pos hg] at h
 by_cases hm : dat a2 ∈ l0_0.map dat
 rotate_left
 · rw [if_neg hm] at h
   simp only [Option.some.injEq, Prod.mk.injEq] at h
   obtain ⟨rfl, rfl, rfl, rfl, rfl⟩ := h
   refine (reached_walk 0 A0_0 c0_0 l0_0 A0_1 c0_1 l0_1 A1_0 c1_0 l1_0 a2 w hr0_0.1 hr0_0.2 hc0_0 hr0_1 hc0_1 hr1_0 hc1_0 hg.1 hg.2 [] [] (fun hx => absurd hx hm)).mono fun e w' hw => ?_
   unfold ReachAll at hw
   rw [if_neg hm] at hw
   exact hw
 rw [if_pos hm] at h
 obtain ⟨out, hout, h⟩ := Option.bind_eq_some_iff.mp h
 simp only [Option.some.injEq, Prod.mk.injEq] at h
 obtain ⟨rfl, rfl, rfl, rfl, rfl⟩ := h
 obtain ⟨k0, hk0⟩ := Od.lim_some hout
 obtain ⟨t, ht1, ht2⟩ := Option.bind_eq_some_iff.mp (hk0 k0 (Nat.le_refl _))
 refine (reached_walk k0 A0_0 c0_0 l0_0 A0_1 c0_1 l0_1 A1_0 c1_0 l1_0 a2 w hr0_0.1 hr0_0.2 hc0_0 hr0_1 hc0_1 hr1_0 hc1_0 hg.1 hg.2 t out (fun _ => ⟨ht1, ht2⟩)).mono fun e w' hw => ?_
 unfold ReachAll at hw
 rw [if_pos hm] at hw
 exact hw
end P
end Go.Proofs.Ytmadhaccjmakdaa
