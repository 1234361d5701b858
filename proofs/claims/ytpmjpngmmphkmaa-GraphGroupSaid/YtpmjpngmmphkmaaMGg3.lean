/- Part 3 of 5 of one proof: graph.Levels in the form in which printed texts call it -/
import Derived.DeepKeys4
import Derived.Laws.EntriesVeiled
import Derived.Lib.SliceRun
import Derived.Maps.OwnOps
import Derived.Maps.OwnSet
import Derived.Maps.Views
import Derived.WalkSpells
import Derived.Test.YtpmjpngmmphkmaaMGg1
import Derived.Test.YtpmjpngmmphkmaaMGg2
set_option linter.unusedVariables false
set_option linter.unusedSimpArgs false
set_option maxHeartbeats 8000000
set_option maxRecDepth 100000
namespace Go.Proofs.Ytpmjpngmmphkmaa
open Go.RowKit Go.Proofs.Yw.A Go.Proofs.Yw.B Go.Proofs.Yw.C Go.Proofs.Ytpmjpngmmphkmaa.P
namespace Od
open Tj Rw
theorem ordered_calls (k : Nat) (A : Option Addr) (c : Nat) (es : List (List Int)) (r : List (List Int)) (w : World) (hr : Kd.C KS w A es.length es) (hc : es.length <= c) (h : orderedF k es = some r) :
 Calls Try.prog 28 #[.slice A es.length c] w fun e w' => ∃ v, e = .returned v /\ Kd.V KS 32 w' w.heap.size (fun k_ => w.heap.size <= k_) v r /\ Below w.heap.size w w' := by
 unfold orderedF at h
 obtain ⟨⟨comp, n⟩, hs, h⟩ := Option.bind_eq_some_iff.1 h
 dsimp only at h
 by_cases hn : 0 <= n /\ n < 5864062014805
 case neg => rw [if_neg hn] at h; cases h
 rw [if_pos hn] at h
 obtain ⟨n0, n1⟩ := hn
 obtain ⟨n, rfl⟩ := Int.eq_ofNat_of_zero_le n0
 rw [Int.toNat_natCast] at h
 obtain ⟨ms, hms, h⟩ := Option.bind_eq_some_iff.1 h
 obtain ⟨u, hu, h⟩ := Option.bind_eq_some_iff.1 h
 obtain ⟨rd0, hrd, h⟩ := Option.bind_eq_some_iff.1 h
 have HS := Az.mk (strong_calls k A c es comp n w hr hc hs)
 have HMS := Az.mk hms
 have HU := Az.mk hu
 have HRD := Az.mk hrd
 have HDR := Az.mk h
 have HR := Az.mk hr
 clear hs hms hu hrd h hr
 generalize hL : es.length = L at *
 have HL := Az.mk hL
 clear hL
 go_enter Try.func28, Try.ntmps28
 go_upto_region 2 with (go_at_call 36; refine HS.1.mono ?_; rintro e w1 ⟨vc, rfl, hcm, hb1⟩; obtain ⟨Ac, cc, rfl, hlc, hCC⟩ := Kd.R_reads hcm; have HCC := Az.mk hCC; have HB1 := Az.mk hb1; clear hcm hCC hb1 HS)
 obtain ⟨i0, e0, e1, e2, e3⟩ := info_parts info32
 have hmk := run_make w1 22 32 i0 _ Try.underlying22 e0 e1 .i64 .i64 n n (by omega) (by omega) (by rw [e3]; omega) (by omega)
 rw [Int.toNat_natCast, e2, Nat.mul_one] at hmk
 clear e0 e1 e2 e3
 go_upto_region 3 with fail
 have hb2 := below_alloc (below_alloc (Below.refl w1.heap.size w1) (.cells (madeCells #[.slice none 0 0] n) 32)) (.cells #[.slice (some ⟨w1.heap.size, 0, none⟩) n n] 22)
 have hgm := blk_alloc (blk_new w1 (.cells (madeCells #[.slice none 0 0] n) 32)) (.cells #[.slice (some ⟨w1.heap.size, 0, none⟩) n n] 22)
 have hbm := blk_new (w1.alloc (.cells (madeCells #[.slice none 0 0] n) 32)) (.cells #[.slice (some ⟨w1.heap.size, 0, none⟩) n n] 22)
 have hs1 : (w1.alloc (.cells (madeCells #[.slice none 0 0] n) 32)).heap.size = w1.heap.size + 1 := by simp
 rw [hs1] at hbm
 have B2 := Az.mk hb2
 have S2 := Az.mk (S_made (base := w1.heap.size) (ok := fun _ => True) hgm (Nat.le_refl _) (by unfold maxLen; omega) trivial)
 have V2 := Az.mk hbm
 clear hb2 hgm hbm hs1 hmk
 generalize ((w1.alloc (.cells (madeCells #[.slice none 0 0] n) 32)).alloc (.cells #[.slice (some ⟨w1.heap.size, 0, none⟩) n n] 22)) = w2 at B2 S2 V2 ⊢
 generalize hgm : w1.heap.size = gm at B2 S2 V2 ⊢
 have HG := Az.mk hgm
 clear hgm
 go_wp2_with fail
 have hml : comp.length <= 9223372036854775807 := HCC.1.2.1
 go_loopg [34] k (fun kq v34 w' => ∃ (v : Int) (m : List (List Int)), v34 = .int .i64 v /\ Az (0 <= v) /\ Az (m.length = n) /\ Az (grp kq comp v m = some ms) /\ Az (kq <= k) /\ Az (Kd.S KS 32 w' gm (fun _ => True) (.slice (some ⟨gm, 0, none⟩) n n) m) /\ Az (w'.heap[gm + 1]? = some (.cells #[.slice (some ⟨gm, 0, none⟩) n n] 22 (0, 0))) /\ Az (Below gm w1 w'))
 case atStart => exact ⟨0, _, rfl, ⟨by omega⟩, ⟨by simp⟩, HMS, ⟨Nat.le_refl _⟩, S2, V2, B2⟩
 case round => as_aux_lemma =>
  clear HMS S2 V2 B2
  obtain ⟨v, m, rfl, HV, HML, HA, HK1, S, V, B⟩ := hrel
  cases gk with
  | zero => exact absurd HA.1 (by simp [grp])
  | succ k1 =>
   have H := HA.1
   clear HA
   rw [grp] at H
   by_cases ci : v < comp.length
   · as_aux_lemma =>
     rw [if_pos ci] at H
     by_cases cx : 0 <= rd comp v /\ rd comp v < m.length /\ (row m (rd comp v)).length < 17592186044415
     case neg => rw [if_neg cx] at H; cases H
     rw [if_pos cx] at H
     obtain ⟨cx0, cx1, cx2⟩ := cx
     have cb : decide (v < (comp.length : Int)) = true := decide_eq_true ci
     have hv0 := HV.1
     have q1 := eq_true hv0
     have q2 := eq_true ci
     obtain ⟨ad, rfl, hx⟩ := Kd.at_int HCC.1 v hv0 ci
     have hB := B.1
     rw [<- HG.1] at hB
     have hx1 := (hB.cell (World.block_lt_of_cell? _ _ hx)).trans hx
     clear hx hB
     generalize rd comp v = x at H cx0 cx1 cx2 hx1
     have H' := Az.mk H
     clear H
     go_upto_region 6 with fail
     rw [HML.1] at cx1
     obtain ⟨v0, oki, u1, u2, u3, u4, u5⟩ := S_upd S.1 (fun _ _ => trivial) x cx0 cx1
     have U2 := Az.mk u2
     have U3 := Az.mk u3
     have U4 := Az.mk u4
     have U5 := Az.mk (@u5)
     have q3 := eq_true cx0
     have q4 := eq_true cx1
     have c1 := cell_of_one V.1
     clear u2 u3 u4 u5 hx1
     have hH0 := True.intro
     refine start_ (n := 11) (S := fun w' => w'.cell? ⟨gm + 1, 0, none⟩ = some (.slice (some ⟨gm, 0, none⟩) n n) /\ w'.cell? ⟨gm, x.toNat, none⟩ = some v0) (ds := [10]) #[false, false, false, false, false, false, false, false, false, false, false] (by kernel_rfl) rfl rfl ⟨c1, u1⟩ (fun hHeld => ?_)
     generalize hwd : wr.drew = wd at hHeld ⊢
     refine pure_ (i := 1) (N := some 40) (v := ?_) (a' := ?_) #[false, true, false, false, false, false, false, false, false, false, false] rfl rfl (by kernel_rfl) (fun _ _ _ h => h) (Or.inl ⟨by rfl, ?_⟩) ?_ ?_
     rotate_left
     · intro w'
       go_simp
       with_reducible rfl
     rotate_left
     · simp only [Act.put, List.setIfInBounds_toArray, List.set_cons_zero, List.set_cons_succ, i64_w, i32_w]
       rfl
     refine pure_ (i := 3) (N := some 42) (v := ?_) (a' := ?_) #[false, true, false, true, false, false, false, false, false, false, false] rfl rfl (by kernel_rfl) (fun _ _ _ h => h) (Or.inl ⟨by rfl, ?_⟩) ?_ ?_
     rotate_left
     · intro w'
       go_simp
       with_reducible rfl
     rotate_left
     · simp only [Act.put, List.setIfInBounds_toArray, List.set_cons_zero, List.set_cons_succ, i64_w, i32_w]
       rfl
     refine pure_ (i := 6) (N := some 45) (v := ?_) (a' := ?_) #[false, true, false, true, false, false, true, false, false, false, false] rfl rfl (by kernel_rfl) (fun _ _ _ h => h) (Or.inl ⟨by rfl, ?_⟩) ?_ ?_
     rotate_left
     · intro w'
       go_simp
       with_reducible rfl
     rotate_left
     · simp only [Act.put, List.setIfInBounds_toArray, List.set_cons_zero, List.set_cons_succ, i64_w, i32_w]
       rfl
     refine take_ (i := 0) (N := some 39) (v := ?_) (a' := ?_) #[true, true, false, true, false, false, true, false, false, false, false] rfl rfl (by kernel_rfl) (fun _ _ _ h => h) (Or.inl ⟨by rfl, ?_⟩) hHeld ?_ ?_
     rotate_left
     · rintro w' ⟨s0, s1⟩
       go_simp
       with_reducible rfl
     rotate_left
     · simp only [Act.put, List.setIfInBounds_toArray, List.set_cons_zero, List.set_cons_succ, i64_w, i32_w]
       rfl
     refine take_ (i := 2) (N := some 41) (v := ?_) (a' := ?_) #[true, true, true, true, false, false, true, false, false, false, false] rfl rfl (by kernel_rfl) (fun _ _ _ h => h) (Or.inl ⟨by rfl, ?_⟩) hHeld ?_ ?_
     rotate_left
     · rintro w' ⟨s0, s1⟩
       go_simp
       with_reducible rfl
     rotate_left
     · simp only [Act.put, List.setIfInBounds_toArray, List.set_cons_zero, List.set_cons_succ, i64_w, i32_w]
       rfl
     refine pure_ (i := 4) (N := some 43) (v := ?_) (a' := ?_) #[true, true, true, true, true, false, true, false, false, false, false] rfl rfl (by kernel_rfl) (fun _ _ _ h => h) (Or.inl ⟨by rfl, ?_⟩) ?_ ?_
     rotate_left
     · intro w'
       go_simp
       with_reducible rfl
     rotate_left
     · simp only [Act.put, List.setIfInBounds_toArray, List.set_cons_zero, List.set_cons_succ, i64_w, i32_w]
       rfl
     refine take_ (i := 5) (N := some 44) (v := ?_) (a' := ?_) #[true, true, true, true, true, true, true, false, false, false, false] rfl rfl (by kernel_rfl) (fun _ _ _ h => h) (Or.inl ⟨by rfl, ?_⟩) hHeld ?_ ?_
     rotate_left
     · rintro w' ⟨s0, s1⟩
       go_simp
       with_reducible rfl
     rotate_left
     · simp only [Act.put, List.setIfInBounds_toArray, List.set_cons_zero, List.set_cons_succ, i64_w, i32_w]
       rfl
     refine one_ (i := 7) (N := some 46) #[true, true, true, true, true, true, true, true, false, false, false] rfl rfl (by kernel_rfl) (by decide) (fun K hK => ?_)
     refine event_step (w1 := wd.alloc (.cells #[.int .i64 v] 3)) (v := .slice (some ⟨wd.heap.size, 0, none⟩) 1 1) rfl (by go_simp; first | done | rfl) (hK.out _ _ ?_ (fun hHeld => ?_))
     · exact ⟨((below_alloc (Below.refl _ _) _).cell (World.block_lt_of_cell? _ _ hHeld.1)).trans hHeld.1, ((below_alloc (Below.refl _ _) _).cell (World.block_lt_of_cell? _ _ hHeld.2)).trans hHeld.2⟩
     refine norm_ (a' := ?_) ?_ ?_
     rotate_left
     · show Act.put _ (some 46) _ = _
       simp only [Act.put, List.setIfInBounds_toArray, List.set_cons_zero, List.set_cons_succ, i64_w, i32_w]
       rfl
     have hsd : wd.heap.size = wr.heap.size := by rw [<- hwd]; rfl
     have hRd : Kd.R (Kd.int .i64) 3 wd gm (fun k => oki k \/ wr.heap.size <= k) v0 (row m x) := by rw [<- hwd]; exact Kd.R_mono (Kd.R_drew U3.1) (fun k hk => .inl hk)
     have hBd : Below gm w1 wd := by rw [<- hwd]; exact below_drew B.1
     have hVd : wd.heap[gm + 1]? = some (.cells #[.slice (some ⟨gm, 0, none⟩) n n] 22 (0, 0)) := by rw [<- hwd]; exact V.1
     have hgmb : gm <= wd.heap.size := by have := blk_lt hVd; omega
     refine one_ (i := 8) (N := some 47) #[true, true, true, true, true, true, true, true, true, false, false] rfl rfl (by kernel_rfl) (by decide) (fun K hK => ?_)
     refine Kd.R_append_step (Kd.int .i64) (w0 := w1) gm rfl (.tmp 44) (.tmp 46) 32 3 (.int .i64 0) 8 rfl Try.underlying32 info3 rfl (by decide) (by omega) v0 (row m x) v [.int .i64 v] (fun k => oki k \/ wr.heap.size <= k) (fun _ => False) rfl rfl rfl (fun _ hk => hk.elim) (fun k hk => .inr (by omega)) hRd hBd hgmb (by omega) ?_
     intro v1 w3 ho hb hg hat
     obtain ⟨A1, q1c, rfl⟩ := Kd.R_slice ho
     have hown : ∀ k, v0.ownBlock = some k -> oki k := fun k hk => U3.1.1 k hk
     have hnm : v0.ownBlock ≠ some (gm + 1) := fun e => Kd.R_ne hRd hVd (by decide) e.symm
     have hng : v0.ownBlock ≠ some gm := fun e => (U4.1 gm (hown gm e)).2 rfl
     have hgl : gm < wd.heap.size := by have := blk_lt hVd; omega
     have w1c : wd.cell? ⟨gm + 1, 0, none⟩ = some (.slice (some ⟨gm, 0, none⟩) n n) := by rw [<- hwd]; exact c1
     have w2c : wd.cell? ⟨gm, x.toNat, none⟩ = some v0 := by rw [<- hwd]; exact u1
     have w2f : wd.frozen? ⟨gm, x.toNat, none⟩ = false := by rw [<- hwd]; exact U2.1
     have k1 : w3.cell? ⟨gm + 1, 0, none⟩ = some (.slice (some ⟨gm, 0, none⟩) n n) := (World.cell?_of_block (hg.block _ (blk_lt hVd) (fun e => hnm e.symm))).trans w1c
     have k2 : w3.cell? ⟨gm, x.toNat, none⟩ = some v0 := (World.cell?_of_block (hg.block gm hgl (fun e => hng e.symm))).trans w2c
     have k3 : w3.frozen? ⟨gm, x.toNat, none⟩ = false := (World.frozen?_of_block (hg.block gm hgl (fun e => hng e.symm))).trans w2f
     have G3 := Az.mk hg
     have R3 := Az.mk ho
     have B3 := Az.mk hb
     have V3 := Az.mk ((hg.block _ (blk_lt hVd) (fun e => hnm e.symm)).trans hVd)
     clear hg ho hb hat w1c w2c w2f hown hnm hng hRd hBd hVd
     refine hK.out _ _ ⟨k1, k2⟩ (fun hHeld => ?_)
     refine norm_ (a' := ?_) ?_ ?_
     rotate_left
     · show Act.put _ (some 47) _ = _
       simp only [Act.put, List.setIfInBounds_toArray, List.set_cons_zero, List.set_cons_succ, i64_w, i32_w]
       rfl
     refine pure_ (i := 9) (N := some 48) (v := ?_) (a' := ?_) #[true, true, true, true, true, true, true, true, true, true, false] rfl rfl (by kernel_rfl) (fun _ _ _ h => h) (Or.inl ⟨by rfl, ?_⟩) ?_ ?_
     rotate_left
     · intro w'
       go_simp
       with_reducible rfl
     rotate_left
     · simp only [Act.put, List.setIfInBounds_toArray, List.set_cons_zero, List.set_cons_succ, i64_w, i32_w]
       rfl
     refine last_ (i := 10) (N := none) #[true, true, true, true, true, true, true, true, true, true, true] rfl rfl (by kernel_rfl) (by decide) (fun K hK => ?_)
     refine skip_step (w1 := w3.setCell ⟨gm, x.toNat, none⟩ (.slice A1 (row m x ++ [v]).length q1c)) rfl rfl (by go_simp; first | done | rfl) (hK.out _ _ ?_)
     refine done_ (by kernel_rfl) ?_
     obtain ⟨S4, g4⟩ := U5.1 w3 _ _ (by rw [<- hwd] at G3; exact World.grownBy.trans (grown_of_below (below_drew (Below.refl _ _)) _) G3.1) R3.1
     have S5 := Az.mk S4
     have V5 := Az.mk (blk_grown V3.1 g4 (by simp))
     have B5 := Az.mk ((B3.1.grown g4 (by have := B.1.size; have := blk_lt V3.1; omega) (fun k hk => by cases hk; exact Nat.le_refl _)))
     clear S4 g4 k1 k2 k3 hHeld hK hH0 V3 B3 G3 R3 U5 U4 U3 U2
     generalize w3.setCell ⟨gm, x.toNat, none⟩ (.slice A1 (row m x ++ [v]).length q1c) = w5 at S5 V5 B5 ⊢
     go_wp2_with fail
     go_roundg k1
     case measure => omega
     case rel => exact ⟨v + 1, _, rfl, ⟨by omega⟩, ⟨by unfold app; rw [List.length_set]; exact HML.1⟩, H', ⟨by have := HK1.1; omega⟩, S5, V5, B5⟩
   as_aux_lemma =>
   rw [if_neg ci] at H
   obtain rfl := Option.some.inj H
   have cb : decide (v < (comp.length : Int)) = false := decide_eq_false ci
   have MM : MsAt wr (gm + 1) m := by
    obtain ⟨A5, c5, e5, l5, r5⟩ := Kd.S_reads S.1
    injection e5 with e6 e7 e8
    exact ⟨some ⟨gm, 0, none⟩, n, by rw [HML.1]; exact V.1, by rw [HML.1, e6]; rw [HML.1] at r5; exact r5⟩
   have M := Az.mk MM
   have MF := Az.mk (show Kd.F KS wr (fun k => gm <= k) (some ⟨gm, 0, none⟩) n m from Kd.S_F (Kd.S_mono (Kd.S_bound S.1) (fun k hk => hk.2.1)))
   clear H MM S
   go_upto_region 8 with fail
   obtain ⟨i0, e0, e1, e2, e3⟩ := info_parts info3
   have hmk := run_make wr 32 3 i0 _ Try.underlying32 e0 e1 .i64 .i64 n n (by omega) (by omega) (by rw [e3]; omega) (by omega)
   rw [Int.toNat_natCast, e2, Nat.mul_one] at hmk
   obtain ⟨i1, f0, f1, f2, f3⟩ := info_parts info32
   have hmk2 := run_make (wr.alloc (.cells (madeCells (Value.int .i64 0).cells n) 3)) 22 32 i1 _ Try.underlying22 f0 f1 .i64 .i64 n n (by omega) (by omega) (by rw [f3]; omega) (by omega)
   rw [Int.toNat_natCast, f2, Nat.mul_one] at hmk2
   clear e0 e1 e2 e3 f0 f1 f2 f3
   have hz0 : (Value.int .i64 0).cells = #[.int .i64 0] := rfl
   have hz1 : (Value.slice none 0 0).cells = #[.slice none 0 0] := rfl
   rw [hz0] at hmk hmk2
   rw [hz1] at hmk2
   clear hz0 hz1
   go_upto_region 10 with fail
   obtain ⟨W1, rfl⟩ : ∃ W1 : World, W1 = wr := ⟨_, rfl⟩
   have hgo1 := blk_alloc (blk_new W1 (.cells (madeCells #[.int .i64 0] n) 3)) (.cells (madeCells #[.slice none 0 0] n) 32)
   have hgu1 := blk_new (W1.alloc (.cells (madeCells #[.int .i64 0] n) 3)) (.cells (madeCells #[.slice none 0 0] n) 32)
   have hs1 : (W1.alloc (.cells (madeCells #[.int .i64 0] n) 3)).heap.size = W1.heap.size + 1 := by simp
   rw [hs1] at hgu1
   have B2 := Az.mk (below_alloc (below_alloc (Below.refl W1.heap.size W1) (.cells (madeCells #[.int .i64 0] n) 3)) (.cells (madeCells #[.slice none 0 0] n) 32))
   have O2 := Az.mk (arr_made hgo1)
   have S2 := Az.mk (S_made (base := W1.heap.size + 1) (ok := fun _ => True) hgu1 (Nat.le_refl _) (by unfold maxLen; omega) trivial)
   clear hgo1 hgu1 hs1 hmk hmk2
   generalize ((W1.alloc (.cells (madeCells #[.int .i64 0] n) 3)).alloc (.cells (madeCells #[.slice none 0 0] n) 32)) = W2 at B2 O2 S2 ⊢
   generalize hgo : W1.heap.size = go at B2 O2 S2 ⊢
   have HGO := Az.mk hgo
   clear hgo
   have cm := cell_of_one (blk_below V.1 (by rw [HGO.1]; exact B2.1))
   go_wp2_with fail
   clear cm
   go_loopg [56] k (fun kq v56 w' => ∃ (ci : Int) (u1 : US), v56 = .int .i64 ci /\ Az (0 <= ci) /\ Az (u1.opn.length = n /\ u1.users.length = n) /\ Az (ed1 kq es comp m ci u1 = some u) /\ Az (kq <= k) /\ Az (Below go W1 w') /\ Az (w'.heap[go]? = some (arr u1.opn)) /\ Az (Kd.S KS 32 w' (go + 1) (fun _ => True) (.slice (some ⟨go + 1, 0, none⟩) n n) u1.users))
   case atStart => exact ⟨0, _, rfl, ⟨by omega⟩, ⟨by simp, by simp⟩, HU, ⟨Nat.le_refl _⟩, B2, O2, S2⟩
   case round => as_aux_lemma =>
    clear HU B2 O2 S2
    obtain ⟨ci, u1, rfl, HC0, HL1, HA, HK2, B2, O2, S2⟩ := hrel
    obtain ⟨W2b, rfl⟩ : ∃ W2b : World, W2b = wr := ⟨_, rfl⟩
    cases gk with
    | zero => exact absurd HA.1 (by simp [ed1])
    | succ k2 =>
     have H := HA.1
     clear HA
     rw [ed1] at H
     have hml2 : m.length <= 9223372036854775807 := by rw [HML.1]; omega
     by_cases cc1 : ci < m.length
     · as_aux_lemma =>
       rw [if_pos cc1] at H
       by_cases cw : (Lit.int .i64 ci).wf = true
       case neg => rw [if_neg cw] at H; cases H
       rw [if_pos cw] at H
       have CW := Az.mk cw
       clear cw
       obtain ⟨u2, hu2, H⟩ := Option.bind_eq_some_iff.1 H
       have H' := Az.mk H
       have HU2 := Az.mk hu2
       clear H hu2
       have hc0 := HC0.1
       have hcn : ci < (n : Int) := by rw [<- HML.1]; exact cc1
       have cb2 : decide (ci < (n : Int)) = true := decide_eq_true hcn
       obtain ⟨Am, cm, km1, km2⟩ := M.1.cell
       have eA : Am = some ⟨gm, 0, none⟩ := by
        have e9 := V.1.symm.trans km1
        simp at e9
        exact e9.1.symm
       subst eA
       obtain ⟨adm, Ar, cr, er, hx, hxl, hxi⟩ := at_L1 km2 ci hc0 cc1
       cases er
       have hx1 := (B2.1.cell (by rw [<- HGO.1]; exact World.block_lt_of_cell? _ _ hx)).trans hx
       have el : rd_L1 m ci = row m ci := rfl
       rw [el] at hx1 hxi hxl
       have HXI := Az.mk hxi
       clear hx hxi hxl km1 km2 el
       rw [Addr.add_lit, Nat.zero_add] at hx1
       have q1 := eq_true hc0
       have q2 := eq_true hcn
       have q1b := eq_true cc1
       go_upto_region 13 with fail
       have hmm := @run_makeMap Try.prog
       obtain ⟨w6, hput, hseen, hg6⟩ := (SeenAt.made W2b).put (by unfold maxLen; simp) ci CW.1
       have hput1 := hput
       have HG6 := Az.mk hg6
       have HSE := Az.mk hseen
       clear hput hg6 hseen hx1
       go_upto_region 14 with fail
       have hgs : go + 1 < W2b.heap.size := Kd.S_lt S2.1 (go + 1) (by simp [Value.ownBlock])
       have B6 := Az.mk (show Below go W1 w6 from (B2.1.alloc (by omega) (.map #[] 0)).grown HG6.1 (by simp; omega) (fun k hk => by cases hk; omega))
       have O6 := Az.mk (blk_grown (blk_alloc O2.1 (.map #[] 0)) HG6.1 (by intro e; injection e with e; omega))
       have S6 := Az.mk (S_mapstep (Kd.S_alloc S2.1 (.map #[] 0)) (blk_new W2b _) HG6.1)
       have Q6 := Az.mk (show SeenAt w6 W2b.heap.size [ci] from HSE.1)
       have HXL : Az ((row m ci).length <= 9223372036854775807) := ⟨HXI.1.2.1⟩
       clear hmm hput1 HG6 HSE
       generalize hgs2 : W2b.heap.size = gs at hgs B6 O6 S6 Q6 ⊢
       have HGS := Az.mk (show go + 1 < gs from hgs)
       clear hgs2 hgs O2 S2 B2
       have hxl := HXL.1
       go_wp2_with fail
       go_loopg [66] k2 (fun kq v66 w' => ∃ (i : Int) (u3 : US), v66 = .int .i64 i /\ Az (0 <= i) /\ Az (u3.opn.length = n /\ u3.users.length = n) /\ Az (ed2 kq es comp ci (row m ci) i u3 = some u2) /\ Az (kq <= k2) /\ Az (Below go W1 w') /\ Az (w'.heap[go]? = some (arr u3.opn)) /\ Az (Kd.S KS 32 w' (go + 1) (fun _ => True) (.slice (some ⟨go + 1, 0, none⟩) n n) u3.users) /\ Az (SeenAt w' gs u3.seen))
       case atStart => exact ⟨0, { opn := u1.opn, users := u1.users, seen := [ci] }, rfl, ⟨by omega⟩, HL1, HU2, ⟨Nat.le_refl _⟩, B6, O6, S6, Q6⟩
       case round => as_aux_lemma =>
        clear HU2 B6 O6 S6 Q6
        obtain ⟨i, u3, rfl, HI0, HL3, HA, HK3, B6, O6, S6, Q6⟩ := hrel
        obtain ⟨W3b, rfl⟩ : ∃ W3b : World, W3b = wr := ⟨_, rfl⟩
        cases gk with
        | zero => exact absurd HA.1 (by simp [ed2])
        | succ k3 =>
         have H := HA.1
         clear HA
         rw [ed2] at H
         by_cases ci3 : i < (row m ci).length
         rotate_left
         · as_aux_lemma =>
           rw [if_neg ci3] at H
           obtain rfl := Option.some.inj H
           have cb3 : decide (i < ((row m ci).length : Int)) = false := decide_eq_false ci3
           go_wp2_with fail
           go_roundg k2
           case measure => omega
           case rel => exact ⟨ci + 1, _, rfl, ⟨by have := HC0.1; omega⟩, HL3, H', ⟨by have := HK2.1; omega⟩, B6, O6, S6⟩
         as_aux_lemma =>
         rw [if_pos ci3] at H
         have hi0 := HI0.1
         obtain ⟨ad3, e3, hx⟩ := Kd.at_int HXI.1 i hi0 ci3
         subst e3
         have hx3 := (B6.1.cell (by rw [<- HGO.1]; exact World.block_lt_of_cell? _ _ hx)).trans hx
         clear hx
         generalize rd (row m ci) i = y at H hx3
         by_cases cy : 0 <= y /\ y < es.length
         case neg => rw [if_neg cy] at H; cases H
         rw [if_pos cy] at H
         obtain ⟨cy0, cy1⟩ := cy
         obtain ⟨u4, hu4, H⟩ := Option.bind_eq_some_iff.1 H
         have H' := Az.mk H
         have HU4 := Az.mk hu4
         clear H hu4
         have hrr := HR.1
         rw [<- HL.1] at hrr
         obtain ⟨adE, Ay, cyy, eE, hy, hyl, hyi⟩ := at_L1 hrr y cy0 cy1
         subst eE
         have hW1 : Below w.heap.size w W3b := (HB1.1.trans (B.1.mono (by rw [<- HG.1]; exact HB1.1.size))).trans (B6.1.mono (by rw [<- HGO.1]; have h1 := B.1.size; have h2 := HB1.1.size; have h3 := HG.1; omega))
         have hy1 := (hW1.cell (World.block_lt_of_cell? _ _ hy)).trans hy
         have el : rd_L1 es y = row es y := rfl
         rw [el] at hy1 hyi hyl
         have HYI := Az.mk hyi
         have hyl2 : (row es y).length <= 9223372036854775807 := hyi.2.1
         rw [HL.1] at cy1
         have cb3 : decide (i < ((row m ci).length : Int)) = true := decide_eq_true ci3
         have q3 := eq_true hi0
         have q4 := eq_true ci3
         have q5 := eq_true cy0
         have q6 := eq_true cy1
         clear hy hyi hyl hrr el
         go_upto_region 17 with fail
         go_wp2_with fail
         have HYL := Az.mk hyl2
         clear hy1 hx3
         go_loopg [75] k3 (fun kq v75 w' => ∃ (j : Int) (u5 : US), v75 = .int .i64 j /\ Az (0 <= j) /\ Az (u5.opn.length = n /\ u5.users.length = n) /\ Az (ed3 kq comp ci (row es y) j u5 = some u4) /\ Az (kq <= k3) /\ Az (Below go W1 w') /\ Az (w'.heap[go]? = some (arr u5.opn)) /\ Az (Kd.S KS 32 w' (go + 1) (fun _ => True) (.slice (some ⟨go + 1, 0, none⟩) n n) u5.users) /\ Az (SeenAt w' gs u5.seen))
         case atStart => exact ⟨0, _, rfl, ⟨by omega⟩, HL3, HU4, ⟨Nat.le_refl _⟩, B6, O6, S6, Q6⟩
         case round => as_aux_lemma =>
          clear HU4 B6 O6 S6 Q6 HL3
          obtain ⟨j, u5, rfl, HJ0, HL5, HA, HK4, B6, O6, S6, Q6⟩ := hrel
          obtain ⟨W4b, rfl⟩ : ∃ W4b : World, W4b = wr := ⟨_, rfl⟩
          cases gk with
          | zero => exact absurd HA.1 (by simp [ed3])
          | succ k4 =>
           have H := HA.1
           clear HA
           rw [ed3] at H
           by_cases cj : j < (row es y).length
           rotate_left
           · as_aux_lemma =>
             rw [if_neg cj] at H
             obtain rfl := Option.some.inj H
             have cb4 : decide (j < ((row es y).length : Int)) = false := decide_eq_false cj
             go_wp2_with fail
             go_roundg k3
             case measure => omega
             case rel => exact ⟨i + 1, _, rfl, ⟨by have := HI0.1; omega⟩, HL5, H', ⟨by have := HK3.1; omega⟩, B6, O6, S6, Q6⟩
           as_aux_lemma =>
           rw [if_pos cj] at H
           have hj0 := HJ0.1
           obtain ⟨ad4, e4, hx⟩ := Kd.at_int HYI.1 j hj0 cj
           subst e4
           have hWw : Below w.heap.size w W4b := (HB1.1.trans (B.1.mono (by rw [<- HG.1]; exact HB1.1.size))).trans (B6.1.mono (by rw [<- HGO.1]; have h1 := B.1.size; have h2 := HB1.1.size; have h3 := HG.1; omega))
           have hx4 := (hWw.cell (World.block_lt_of_cell? _ _ hx)).trans hx
           clear hx hWw
           generalize rd (row es y) j = z at H hx4
           by_cases cz : 0 <= z /\ z < comp.length /\ (Lit.int .i64 (rd comp z)).wf = true
           case neg => rw [if_neg cz] at H; cases H
           rw [if_pos cz] at H
           obtain ⟨cz0, cz1, cz2⟩ := cz
           obtain ⟨ad5, e5, hx⟩ := Kd.at_int HCC.1 z cz0 cz1
           subst e5
           have hWc : Below w1.heap.size w1 W4b := by
            have h1 := B.1
            rw [<- HG.1] at h1
            exact h1.trans (B6.1.mono (by rw [<- HGO.1]; exact h1.size))
           have hx5 := (hWc.cell (World.block_lt_of_cell? _ _ hx)).trans hx
           clear hx hWc
           generalize rd comp z = d at H hx5 cz2
           have CZ := Az.mk cz2
           clear cz2
           have cb4 : decide (j < ((row es y).length : Int)) = true := decide_eq_true cj
           have q1 := eq_true hj0
           have q2 := eq_true cj
           have q5 := eq_true cz0
           have q6 := eq_true cz1
           have hyl3 := HYL.1
           have hlook := Q6.1.look d CZ.1
           by_cases cs : u5.seen.contains d = true
           · as_aux_lemma =>
             rw [if_pos cs] at H
             have H' := Az.mk H
             clear H
             rw [cs] at hlook
             clear cs
             go_wp2_with fail
             go_roundg k4
             case measure => omega
             case rel => exact ⟨j + 1, _, rfl, ⟨by omega⟩, HL5, H', ⟨by have := HK4.1; omega⟩, B6, O6, S6, Q6⟩
           as_aux_lemma =>
           rw [if_neg cs] at H
           have cs2 : u5.seen.contains d = false := by simpa using cs
           rw [cs2] at hlook
           clear cs
           by_cases ca : 0 <= ci /\ ci < u5.opn.length /\ 0 <= d /\ d < u5.users.length /\ (row u5.users d).length < 17592186044415 /\ u5.seen.length < 17592186044415
           case neg => rw [if_neg ca] at H; cases H
           rw [if_pos ca] at H
           obtain ⟨ca0, ca1, ca2, ca3, ca4, ca5⟩ := ca
           have H' := Az.mk H
           clear H cs2
           go_upto_region 22 with fail
           obtain ⟨w7, hput, hq7, hg7⟩ := Q6.1.put (by unfold maxLen; omega) d CZ.1
           have hput1 := hput
           clear hput hlook hx4 hx5
           go_upto_region 23 with fail
           obtain ⟨mes, mc, hmo⟩ := Q6.1.obj
           have hgl := blk_lt O6.1
           have hgg := HGS.1
           have B7 := Az.mk (B6.1.grown hg7 (by omega) (fun k hk => by cases hk; omega))
           have O7 := Az.mk (blk_grown O6.1 hg7 (by intro e; injection e with e; omega))
           have S7 := Az.mk (S_mapstep S6.1 hmo hg7)
           have Q7 := Az.mk hq7
           clear hput1 hq7 hg7 hmo B6 O6 S6 Q6 hgl
           have c1 := arr_cell O7.1 ci ca0 ca1
           have f1 := arr_free O7.1 ci.toNat
           have q7 := eq_true ca0
           have q8 : (ci < (n : Int)) = True := by rw [<- HL5.1.1]; exact eq_true ca1
           go_upto_region 24 with fail
           have hgr : w7.grownBy (w7.setCell ⟨go, ci.toNat, none⟩ (.int .i64 (wrap64 (rd u5.opn ci + 1)))) (some go) := ⟨rfl, rfl, rfl, by simp, fun i hi hne => Below.heap_setCell w7 _ _ i (fun e => hne (by rw [e]))⟩
           have B8 := Az.mk (B7.1.setCell (show go <= (⟨go, ci.toNat, none⟩ : Addr).block from Nat.le_refl go) (.int .i64 (wrap64 (rd u5.opn ci + 1))))
           have O8 := Az.mk (show (w7.setCell ⟨go, ci.toNat, none⟩ (.int .i64 (wrap64 (rd u5.opn ci + 1)))).heap[go]? = some (arr (u5.opn.set ci.toNat (wrap64 (rd u5.opn ci + 1)))) from by unfold arr; rw [<- nums_set]; exact blk_set O7.1 ci.toNat _)
           have S8 := Az.mk (Kd.S_mono (ok' := fun k => go + 1 <= k) (Kd.S_far (p := ⟨go, ci.toNat, none⟩) (Kd.S_bound S7.1) (fun k hk => by have := hk.2.1; show k ≠ go; omega) (.int .i64 (wrap64 (rd u5.opn ci + 1)))) (fun k hk => hk.2.1))
           have Q8 := Az.mk (Q7.1.kept hgr (by intro e; injection e with e; omega))
           clear hgr B7 O7 S7 Q7 c1 f1
           generalize w7.setCell ⟨go, ci.toNat, none⟩ (.int .i64 (wrap64 (rd u5.opn ci + 1))) = w8 at B8 O8 S8 Q8 ⊢
           have hs8 := blk_lt O8.1
           rw [HL5.1.2] at ca3
           obtain ⟨v0, oki, x1, x2, x3, x4, x5⟩ := S_upd S8.1 (fun k hk => by omega) d ca2 ca3
           have X3 := Az.mk (Kd.R_mono (ok' := fun k => oki k \/ w8.heap.size <= k) x3 (fun k hk => .inl hk))
           have X4 := Az.mk x4
           have X5 := Az.mk (@x5)
           have X6 := Az.mk x3
           have q9 := eq_true ca2
           have q10 := eq_true ca3
           clear x3 x4 x5 hgg
           go_wp2_with ((with_reducible refine gate_builtin (b := .append) (xs := #[.tmp 100, .tmp 102]) rfl ?_); at_builtin; refine Kd.R_append (Kd.int .i64) (w0 := w8) (go + 1) rfl (.tmp 100) (.tmp 102) 32 3 (.int .i64 0) 8 rfl Try.underlying32 info3 rfl (by decide) (by omega) v0 (row u5.users d) ci [.int .i64 ci] (fun k => oki k \/ w8.heap.size <= k) (fun _ => False) rfl rfl rfl (fun _ hk => hk.elim) (fun k hk => .inr hk) X3.1 (Below.refl _ _) ?hs ?hl ?_)
           (case hs => omega)
           (case hl => omega)
           intro v1 w9 ho hb hg hat
           obtain ⟨A9, q9c, rfl⟩ := Kd.R_slice ho
           have hown : ∀ k, v0.ownBlock = some k -> go + 1 <= k /\ k ≠ go + 1 := fun k hk => X4.1 k (X6.1.1 k hk)
           obtain ⟨mes2, mc2, hmo2⟩ := Q8.1.obj
           have hqn : some gs ≠ v0.ownBlock := by
            intro e
            obtain ⟨inner, hi⟩ := Kd.R_own X6.1
            obtain ⟨cells, hc⟩ := own_typed hi gs e.symm
            rw [hmo2] at hc
            cases hc
           have O9 := Az.mk (blk_grown O8.1 hg (fun e => by have := (hown go e.symm).1; omega))
           have B9 := Az.mk (B8.1.grown hg (by omega) (fun k hk => by have := (hown k hk).1; omega))
           have Q9 := Az.mk (Q8.1.kept hg hqn)
           have hgu : go + 1 < w8.heap.size := Kd.S_lt S8.1 (go + 1) (by simp [Value.ownBlock])
           have hne9 : some (go + 1) ≠ v0.ownBlock := fun e => (hown _ e.symm).2 rfl
           have k2 : w9.cell? ⟨go + 1, d.toNat, none⟩ = some v0 := (World.cell?_of_block (hg.block (go + 1) hgu hne9)).trans x1
           have k3 : w9.frozen? ⟨go + 1, d.toNat, none⟩ = false := (World.frozen?_of_block (hg.block (go + 1) hgu hne9)).trans x2
           have hs9 := hg.size
           have G9 := Az.mk hg
           have R9 := Az.mk ho
           clear hg ho hb hat hown hqn hmo2 x1 x2 hne9 B8 O8 S8 Q8 X3 X4 X6
           go_upto_region 25 with fail
           obtain ⟨S10, g10⟩ := X5.1 w9 _ _ G9.1 R9.1
           have S11 := Az.mk (Kd.S_mono (ok' := fun _ => True) S10 (fun _ _ => trivial))
           have O11 := Az.mk (blk_grown O9.1 g10 (by intro e; injection e with e; omega))
           have B11 := Az.mk (B9.1.grown g10 (by omega) (fun k hk => by cases hk; omega))
           have Q11 := Az.mk (Q9.1.kept g10 (by have := HGS.1; intro e; injection e with e; omega))
           have HL11 : Az ((link ci d u5).opn.length = n /\ (link ci d u5).users.length = n) := ⟨by unfold link app; simp only [List.length_set]; exact HL5.1⟩
           clear S10 g10 k2 k3 hs9 G9 R9 X5 O9 B9 Q9 hs8 hgu
           have e9 : (row u5.users d ++ [ci]).length = (row u5.users d).length + 1 := by simp
           rw [e9] at S11 O11 B11 Q11
           clear e9
           generalize w9.setCell ⟨go + 1, d.toNat, none⟩ (.slice A9 ((row u5.users d).length + 1) q9c) = w11 at S11 O11 B11 Q11 ⊢
           go_wp2_with fail
           go_roundg k4
           case measure => omega
           case rel => exact ⟨j + 1, link ci d u5, rfl, ⟨by omega⟩, HL11, H', ⟨by have := HK4.1; omega⟩, B11, O11, S11, Q11⟩
     as_aux_lemma =>
     rw [if_neg cc1] at H
     obtain rfl := Option.some.inj H
     have hcn : ¬ ci < (n : Int) := by rw [<- HML.1]; exact cc1
     have cb2 : decide (ci < (n : Int)) = false := decide_eq_false hcn
     clear H
     go_upto_region 28 with fail
     obtain ⟨W2, rfl⟩ : ∃ W2 : World, W2 = W2b := ⟨_, rfl⟩
     have hbr := blk_new W2 (.cells #[.slice none 0 0] 32)
     have B3 := Az.mk (B2.1.alloc (by have := blk_lt O2.1; omega) (.cells #[.slice none 0 0] 32))
     have O3 := Az.mk (blk_alloc O2.1 (.cells #[.slice none 0 0] 32))
     have S3 := Az.mk (Kd.S_alloc (Kd.S_mono (ok' := fun k => go + 1 <= k /\ k < W2.heap.size) (Kd.S_bound S2.1) (fun k hk => ⟨hk.2.1, hk.2.2.1⟩)) (.cells #[.slice none 0 0] 32))
     have R3 := Az.mk (show ReadyAt (W2.alloc (.cells #[.slice none 0 0] 32)) W2.heap.size [] from ⟨_, hbr, .inl ⟨rfl, rfl⟩⟩)
     have Z3 := Az.mk (show W2.heap.size + 1 <= (W2.alloc (.cells #[.slice none 0 0] 32)).heap.size by simp)
     have HGB := Az.mk (show go < W2.heap.size from blk_lt O2.1)
     clear hbr B2 O2 S2
     go_upto_region 29 with fail
     generalize (W2.alloc (.cells #[.slice none 0 0] 32)) = W3 at B3 O3 S3 R3 Z3 ⊢
     generalize W2.heap.size = br at S3 R3 Z3 HGB ⊢
     go_wp2_with fail
     have hgB := HGO.1
     go_loopg [110] k (fun kq v110 w' => ∃ (cI : Int) (ready : List Int), v110 = .int .i64 cI /\ Az (0 <= cI) /\ Az (starts kq m n cI u1.opn ready = some rd0) /\ Az (kq <= k) /\ Az (Below go W1 w') /\ Az (w'.heap[go]? = some (arr u1.opn)) /\ Az (Kd.S KS 32 w' (go + 1) (fun k => go + 1 <= k /\ k < br) (.slice (some ⟨go + 1, 0, none⟩) n n) u1.users) /\ Az (ReadyAt w' br ready) /\ Az (br + 1 <= w'.heap.size))
     case atStart => exact ⟨0, _, rfl, ⟨by omega⟩, HRD, ⟨Nat.le_refl _⟩, B3, O3, S3, R3, Z3⟩
     case round => as_aux_lemma =>
      clear HRD B3 O3 S3 R3 Z3
      obtain ⟨cI, ready, rfl, HC0, HA, HK5, B3, O3, S3, R3, Z3⟩ := hrel
      obtain ⟨W4, rfl⟩ : ∃ W4 : World, W4 = wr := ⟨_, rfl⟩
      cases gk with
      | zero => exact absurd HA.1 (by simp [starts])
      | succ k5 =>
       have H := HA.1
       clear HA
       rw [starts] at H
       by_cases cc5 : cI < (n : Int)
       · as_aux_lemma =>
         rw [if_pos cc5] at H
         by_cases cx : 0 <= cI /\ cI < u1.opn.length
         case neg => rw [if_neg cx] at H; cases H
         rw [if_pos cx] at H
         obtain ⟨cx0, cx1⟩ := cx
         have c1 := arr_cell O3.1 cI cx0 cx1
         have q1 := eq_true cx0
         have q2 := eq_true cc5
         have cb5 : decide (cI < (n : Int)) = true := decide_eq_true cc5
         by_cases cz : rd u1.opn cI = 0
         rotate_left
         · as_aux_lemma =>
           rw [if_neg cz] at H
           have H' := Az.mk H
           have cz1 : (rd u1.opn cI == 0) = false := beq_eq_false_iff_ne.2 cz
           clear cz H
           go_wp2_with fail
           go_roundg k5
           case measure => omega
           case rel => exact ⟨cI + 1, _, rfl, ⟨by omega⟩, H', ⟨by have := HK5.1; omega⟩, B3, O3, S3, R3, Z3⟩
         as_aux_lemma =>
         rw [if_pos cz] at H
         obtain ⟨ready2, hent, H⟩ := Option.bind_eq_some_iff.1 H
         have H' := Az.mk H
         have HE := Az.mk hent
         have cz1 : (rd u1.opn cI == 0) = true := beq_iff_eq.2 cz
         clear cz H hent
         obtain ⟨vr, hv, hra⟩ := R3.1
         have HRA := Az.mk hra
         have hB4 : Below W1.heap.size W1 W4 := by rw [HGO.1]; exact B3.1
         have ENT := Az.mk (enter_calls W1 W4 (gm + 1) br m cI (br + 1) vr ready ready2 M.1 hB4 (by have := HGB.1; omega) (by have := HGB.1; omega) Z3.1 hv hra HE.1)
         clear hv hra hB4
         go_wp2_with (go_at_call 37; refine ENT.1.mono ?_; clear ENT c1; intro e w9 hen; obtain ⟨rfl, e1, e2, e3, e4, e5⟩ := hen.keeps HRA.1; rw [HGO.1] at e1; have E1 := Az.mk e1; have E2 := Az.mk e2; have E3 := Az.mk e3; have E4 := Az.mk e4; clear e1 e2 e3 e4 e5 hen)
         have O9 := Az.mk ((E4.1 go HGB.1 (blk_lt O3.1)).trans O3.1)
         have S9 := Az.mk (Kd.S_step S3.1 (fun k hk hlt => E4.1 k hk.2 hlt))
         go_roundg k5
         case measure => omega
         case rel => exact ⟨cI + 1, _, rfl, ⟨by omega⟩, H', ⟨by have := HK5.1; omega⟩, E1, O9, S9, E3, ⟨by have := Z3.1; have := E2.1; omega⟩⟩
       as_aux_lemma =>
       rw [if_neg cc5] at H
       obtain rfl := Option.some.inj H
       have cb5 : decide (cI < (n : Int)) = false := decide_eq_false cc5
       clear H
       obtain ⟨W5, rfl⟩ : ∃ W5 : World, W5 = W4 := ⟨_, rfl⟩
       have X3 := Az.mk (show OutR W1 gm W5 (br + 1) (.slice none 0 0) [] from Kd.R_nil _ _ _ _ _)
       have HU1 := Az.mk HL1.1
       go_upto_region 37 with fail
       go_loopg [21] k (fun kq v21 w' => ∃ (ready opn : List Int) (out : List (List Int)), Az (drain kq m u1.users opn ready out = some r) /\ Az (kq <= k) /\ Az (opn.length = n) /\ Az (Below go W1 w') /\ Az (w'.heap[go]? = some (arr opn)) /\ Az (Kd.S KS 32 w' (go + 1) (fun k => go + 1 <= k /\ k < br) (.slice (some ⟨go + 1, 0, none⟩) n n) u1.users) /\ Az (ReadyAt w' br ready) /\ Az (br + 1 <= w'.heap.size) /\ Az (OutR W1 gm w' (br + 1) v21 out))
       case atStart => exact ⟨_, _, _, HDR, ⟨Nat.le_refl _⟩, ⟨HL1.1.1⟩, B3, O3, S3, R3, Z3, X3⟩
       case round => as_aux_lemma =>
        clear HDR B3 O3 S3 R3 Z3 X3
        obtain ⟨ready, opn, out, HA, HK6, HLO, B3, O3, S3, R3, Z3, X3⟩ := hrel
        obtain ⟨W6, rfl⟩ : ∃ W6 : World, W6 = wr := ⟨_, rfl⟩
        obtain ⟨Ao, co, rfl⟩ := Kd.R_slice X3.1
        cases gk with
        | zero => exact absurd HA.1 (by simp [drain])
        | succ k6 =>
         have H := HA.1
         clear HA
         rw [drain] at H
         obtain ⟨vr, hv, hra⟩ := R3.1
         have HV := Az.mk hv
         have HRA := Az.mk hra
         clear hv hra R3
         by_cases ce : 0 < ready.length
         rotate_left
         · as_aux_lemma =>
           rw [if_neg ce] at H
           obtain rfl := Option.some.inj H
           obtain ⟨A2, c2, rfl, _, _⟩ := HRA.1.slice
           have c1 := cell_of_one HV.1
           have cb : decide ((0 : Int) < (ready.length : Int)) = false := decide_eq_false (by omega)
           go_wp2_with fail
           go_ret
           have e1 : w.heap.size <= gm := by rw [<- HG.1]; exact HB1.1.size
           have e2 : gm + 1 < go := by rw [<- HGO.1]; exact blk_lt V.1
           refine ⟨_, rfl, ?_, ?_⟩
           · exact outK_V X3.1 (by rw [HGO.1]; exact B3.1) (by have := HGB.1; omega) (g0 := w.heap.size) e1
           · exact HB1.1.trans ((B.1.mono e1).trans (B3.1.mono (by omega)))
         as_aux_lemma =>
         rw [if_pos ce] at H
         obtain ⟨gr, off, cap, A1, rfl, hg1, hg2, hcp, hc0, hif, hcut⟩ := HRA.1.cut ce
         have c1 := cell_of_one HV.1
         have cb : decide ((0 : Int) < (ready.length : Int)) = true := decide_eq_true (by omega)
         by_cases cx : 0 <= rd ready 0 /\ rd ready 0 < m.length /\ rd ready 0 < u1.users.length /\ out.length < 5864062014805
         case neg => rw [if_neg cx] at H; cases H
         rw [if_pos cx] at H
         obtain ⟨⟨opn2, ready2⟩, hdec, H2⟩ := Option.bind_eq_some_iff.1 H
         have HDC := Az.mk hdec
         have H' := Az.mk H2
         clear hdec H2 H
         have f1 := free_of_one HV.1
         have q1 : (1 <= (ready.length : Int)) = True := eq_true (by omega)
         go_upto_region 40 with fail
         have hr7 : ∀ k, (Value.slice A1 (ready.length - 1) (cap - 1)).ownBlock = some k -> k ≠ br := fun k hk => by have := (hcut.lt k hk).1; omega
         have B7 := Az.mk (B3.1.setCell (show go <= (⟨br, 0, none⟩ : Addr).block from Nat.le_of_lt HGB.1) (.slice A1 (ready.length - 1) (cap - 1)))
         have O7 := Az.mk (blk_far O3.1 (p := ⟨br, 0, none⟩) (show go ≠ br from Nat.ne_of_lt HGB.1) (.slice A1 (ready.length - 1) (cap - 1)))
         have S7 := Az.mk (Kd.S_far (p := ⟨br, 0, none⟩) S3.1 (fun k hk => show k ≠ br from Nat.ne_of_lt hk.2) (.slice A1 (ready.length - 1) (cap - 1)))
         have R7 := Az.mk (show ReadyAt (W6.setCell ⟨br, 0, none⟩ (.slice A1 (ready.length - 1) (cap - 1))) br (ready.drop 1) from ⟨_, one_setCell HV.1, hcut.kept (fun k hk => Below.heap_setCell _ _ _ _ (hr7 k hk))⟩)
         have Z7 := Az.mk (show br + 1 <= (W6.setCell ⟨br, 0, none⟩ (.slice A1 (ready.length - 1) (cap - 1))).heap.size by simpa using Z3.1)
         have X7 := Az.mk (X3.1.kept (w1 := W6.setCell ⟨br, 0, none⟩ (.slice A1 (ready.length - 1) (cap - 1))) (fun k hk => Below.heap_setCell _ _ _ _ (show k ≠ br from fun e => by have := (X3.1.typed k hk).1; omega)))
         clear hr7 hcut hg1 hg2 hcp hc0 c1 f1 q1 hif B3 O3 S3 Z3 X3 HV HRA cb
         generalize W6.setCell ⟨br, 0, none⟩ (.slice A1 (ready.length - 1) (cap - 1)) = W7 at B7 O7 S7 R7 Z7 X7 ⊢
         have BW := Az.mk (show Below W1.heap.size W1 W7 by rw [HGO.1]; exact B7.1)
         have c1 := cell_of_one (blk_below V.1 BW.1)
         obtain ⟨cx0, cx1, cx2, cx3⟩ := cx
         obtain ⟨adm, cm, er, hcl, hfk, hcc, _⟩ := Kd.F_get MF.1 ([] : List Int) (rd ready 0) cx0 (by rw [<- HML.1]; exact cx1)
         cases er
         obtain ⟨Ar, cr, rfl, hlr, hF⟩ := Kd.FK_slice_open hfk
         have hFK := Az.mk hfk
         have hx := hcc 0 _ rfl
         have hx1 := (BW.1.cell (World.block_lt_of_cell? _ _ hx)).trans hx
         have ek : KS.sz = 1 := rfl
         have el : m.getD (rd ready 0).toNat [] = row m (rd ready 0) := rfl
         rw [ek, Nat.mul_one, Nat.add_zero] at hx1
         rw [el] at hx1 hFK
         rw [Addr.add_lit, Nat.zero_add] at hx1
         have q1 := eq_true cx0
         have q2 : (rd ready 0 < (n : Int)) = True := eq_true (by rw [<- HML.1]; exact cx1)
         have HCX := Az.mk (And.intro cx0 (And.intro cx1 (And.intro cx2 cx3)))
         clear cx0 cx1 cx2 cx3 ce
         clear hcc hcl hlr hF hx ek el hfk
         go_wp2_with ((with_reducible refine gate_builtin (b := .append) (xs := #[.tmp 130, .tmp 135]) rfl ?_); at_builtin; refine Kd.R_append (outK W1 (fun k => gm <= k)) (w0 := W7) (br + 1) rfl (.tmp 130) (.tmp 135) 22 32 (.slice none 0 0) 24 rfl Try.underlying22 info32 rfl Nat.zero_lt_one (by omega) (.slice Ao out.length co) out (row m (rd ready 0)) [.slice Ar (row m (rd ready 0)).length cr] (fun _ => True) (fun _ => False) rfl rfl hFK.1 (fun _ hk => hk.elim) (fun k hk => trivial) X7.1 (Below.refl _ _) Z7.1 ?hl ?_)
         (case hl => have := HCX.1.2.2.2; omega)
         intro v1 w9 ho hb hg hat
         obtain ⟨A9, q9c, rfl⟩ := Kd.R_slice ho
         have hty := X7.1.typed
         obtain ⟨vr7, hv7, hra7⟩ := R7.1
         have hroe := row_out_ne X7.1 hra7
         have B9 := Az.mk (B7.1.grown hg (by have := HGB.1; have := Z7.1; omega) (fun k hk => by have := (hty k hk).1; have := HGB.1; omega))
         have O9 := Az.mk (blk_grown O7.1 hg (fun e => by have := (hty go e.symm).1; have := HGB.1; omega))
         have S9 := Az.mk (Kd.S_grown S7.1 hg (fun k hk e => by have := (hty k e.symm).1; have := hk.2; omega))
         have R9 := Az.mk (show ReadyAt w9 br (ready.drop 1) from ⟨vr7, (hg.block br (blk_lt hv7) (fun e => by have := (hty br e.symm).1; omega)).trans hv7, hra7.kept (fun k hk => hg.block k (hra7.lt k hk).2.1 (hroe k hk))⟩)
         have Z9 := Az.mk (Nat.le_trans Z7.1 hg.size)
         have X9 := Az.mk ho
         clear ho hb hg hat hty hv7 hra7 hroe vr7 B7 O7 S7 R7 Z7 X7 BW hx1 c1 hFK
         have e9 : (out ++ [row m (rd ready 0)]).length = out.length + 1 := by simp
         rw [e9] at X9 ⊢
         clear e9
         obtain ⟨adu, cu, er, hcl, hfk, hcc, hrst⟩ := Kd.F_get (Kd.S_F S9.1) ([] : List Int) (rd ready 0) HCX.1.1 (by rw [<- HU1.1.2]; exact HCX.1.2.2.1)
         cases er
         obtain ⟨Au, cu, rfl, hlu, hF⟩ := Kd.FK_slice_open hfk
         have hx := hcc 0 _ rfl
         have ek : KS.sz = 1 := rfl
         have el : u1.users.getD (rd ready 0).toNat [] = row u1.users (rd ready 0) := rfl
         simp only [ek, Nat.mul_one, Nat.add_zero, Addr.add_lit, Nat.zero_add] at hx
         rw [el] at hx hF
         have F9 := Az.mk hF
         have HUL : Az ((row u1.users (rd ready 0)).length <= 9223372036854775807) := ⟨Kd.F_max hF⟩
         clear hcc hcl hlu hF hfk ek el hrst
         go_upto_region 41 with fail
         have hul := HUL.1
         go_wp2_with fail
         go_loopg [142] k6 (fun kq v142 w' => ∃ (i : Int) (opn3 ready3 : List Int), v142 = .int .i64 i /\ Az (0 <= i) /\ Az (opn3.length = n) /\ Az (dec kq m (row u1.users (rd ready 0)) i opn3 ready3 = some (opn2, ready2)) /\ Az (kq <= k6) /\ Az (Below go W1 w') /\ Az (w'.heap[go]? = some (arr opn3)) /\ Az (Kd.S KS 32 w' (go + 1) (fun k => go + 1 <= k /\ k < br) (.slice (some ⟨go + 1, 0, none⟩) n n) u1.users) /\ Az (Kd.F (Kd.int .i64) w' (fun k => go + 1 <= k /\ k < br) Au (row u1.users (rd ready 0)).length (row u1.users (rd ready 0))) /\ Az (ReadyAt w' br ready3) /\ Az (br + 1 <= w'.heap.size) /\ Az (OutR W1 gm w' (br + 1) (.slice A9 (out.length + 1) q9c) (out ++ [row m (rd ready 0)])))
         case atStart => exact ⟨0, _, _, rfl, ⟨by omega⟩, HLO, HDC, ⟨Nat.le_refl _⟩, B9, O9, S9, F9, R9, Z9, X9⟩
         case round => as_aux_lemma =>
          clear HDC B9 O9 S9 F9 R9 Z9 X9 hx q1 q2
          obtain ⟨i, opn3, ready3, rfl, HI, HLO3, HA, HK7, B3, O3, S3, F3, R3, Z3, X3⟩ := hrel
          obtain ⟨W8, rfl⟩ : ∃ W8 : World, W8 = wr := ⟨_, rfl⟩
          cases gk with
          | zero => exact absurd HA.1 (by simp [dec])
          | succ k7 =>
           have H := HA.1
           clear HA
           rw [dec] at H
           by_cases ci : i < (row u1.users (rd ready 0)).length
           rotate_left
           · as_aux_lemma =>
             rw [if_neg ci] at H
             obtain ⟨rfl, rfl⟩ := Prod.mk.inj (Option.some.inj H)
             have cb7 : decide (i < ((row u1.users (rd ready 0)).length : Int)) = false := decide_eq_false ci
             clear H
             go_wp2_with fail
             go_roundg k6
             case measure => omega
             case rel => exact ⟨_, _, _, H', ⟨by have := HK6.1; omega⟩, HLO3, B3, O3, S3, R3, Z3, X3⟩
           as_aux_lemma =>
           rw [if_pos ci] at H
           have hi0 := HI.1
           obtain ⟨ad4, e4, hx4⟩ := Kd.at_int (Kd.F_now F3.1) i hi0 ci
           subst e4
           generalize rd (row u1.users (rd ready 0)) i = d at H hx4
           by_cases cd : 0 <= d /\ d < opn3.length
           case neg => rw [if_neg cd] at H; cases H
           rw [if_pos cd] at H
           obtain ⟨cd0, cd1⟩ := cd
           have cb7 : decide (i < ((row u1.users (rd ready 0)).length : Int)) = true := decide_eq_true ci
           have q0 := eq_true hi0
           have q1 := eq_true cd0
           have q2 : (d < (n : Int)) = True := eq_true (by rw [<- HLO3.1]; exact cd1)
           have c1 := arr_cell O3.1 d cd0 cd1
           have f1 := arr_free O3.1 d.toNat
           have HH := Az.mk H
           clear H
           go_upto_region 45 with fail
           have B10 := Az.mk (B3.1.setCell (show go <= (⟨go, d.toNat, none⟩ : Addr).block from Nat.le_refl go) (.int .i64 (wrap64 (rd opn3 d - 1))))
           have O10 := Az.mk (show (W8.setCell ⟨go, d.toNat, none⟩ (.int .i64 (wrap64 (rd opn3 d - 1)))).heap[go]? = some (arr (opn3.set d.toNat (wrap64 (rd opn3 d - 1)))) from by unfold arr; rw [<- nums_set]; exact blk_set O3.1 d.toNat _)
           have S10 := Az.mk (Kd.S_far (p := ⟨go, d.toNat, none⟩) S3.1 (fun k hk => by have := hk.1; show k ≠ go; omega) (.int .i64 (wrap64 (rd opn3 d - 1))))
           have F10 := Az.mk (Kd.F_far (p := ⟨go, d.toNat, none⟩) F3.1 (fun k hk => by have := hk.1; show k ≠ go; omega) (.int .i64 (wrap64 (rd opn3 d - 1))))
           have R10 := Az.mk (R3.1.kept (w1 := W8.setCell ⟨go, d.toNat, none⟩ (.int .i64 (wrap64 (rd opn3 d - 1)))) (fun k hk hlt => Below.heap_setCell _ _ _ _ (show k ≠ go by have := HGB.1; omega)))
           have Z10 := Az.mk (show br + 1 <= (W8.setCell ⟨go, d.toNat, none⟩ (.int .i64 (wrap64 (rd opn3 d - 1)))).heap.size by simpa using Z3.1)
           have X10 := Az.mk (X3.1.kept (w1 := W8.setCell ⟨go, d.toNat, none⟩ (.int .i64 (wrap64 (rd opn3 d - 1)))) (fun k hk => Below.heap_setCell _ _ _ _ (show k ≠ go from fun e => by have := (X3.1.typed k hk).1; have := HGB.1; omega)))
           have L10 : Az ((opn3.set d.toNat (wrap64 (rd opn3 d - 1))).length = n) := ⟨by rw [List.length_set]; exact HLO3.1⟩
           clear B3 O3 S3 F3 R3 Z3 X3 c1 f1 hx4 HLO3
           generalize W8.setCell ⟨go, d.toNat, none⟩ (.int .i64 (wrap64 (rd opn3 d - 1))) = W10 at B10 O10 S10 F10 R10 Z10 X10 ⊢
           generalize (opn3.set d.toNat (wrap64 (rd opn3 d - 1))) = opn4 at HH O10 L10
           clear cd1
           have c1 := arr_cell O10.1 d cd0 (by rw [L10.1]; exact of_eq_true q2)
           by_cases cz : rd opn4 d = 0
           rotate_left
           · as_aux_lemma =>
             have H := HH.1
             clear HH
             rw [if_neg cz] at H
             have H3 := Az.mk H
             have cz1 : (rd opn4 d == 0) = false := beq_eq_false_iff_ne.2 cz
             clear cz H
             go_wp2_with fail
             go_roundg k7
             case measure => omega
             case rel => exact ⟨i + 1, _, _, rfl, ⟨by have := HI.1; omega⟩, L10, H3, ⟨by have := HK7.1; omega⟩, B10, O10, S10, F10, R10, Z10, X10⟩
           as_aux_lemma =>
           have H := HH.1
           clear HH
           rw [if_pos cz] at H
           obtain ⟨ready4, hent, H⟩ := Option.bind_eq_some_iff.1 H
           have H3 := Az.mk H
           have HE := Az.mk hent
           have cz1 : (rd opn4 d == 0) = true := beq_iff_eq.2 cz
           clear cz H hent
           obtain ⟨vr, hv, hra⟩ := R10.1
           have HRA := Az.mk hra
           have hB4 : Below W1.heap.size W1 W10 := by rw [HGO.1]; exact B10.1
           have ENT := Az.mk (enter_calls W1 W10 (gm + 1) br m d (br + 1) vr ready3 ready4 M.1 hB4 (by have := HGB.1; omega) (by have := HGB.1; omega) Z10.1 hv hra HE.1)
           clear hv hra hB4
           go_wp2_with (go_at_call 37; refine ENT.1.mono ?_; clear ENT c1; intro e w9 hen; obtain ⟨rfl, e1, e2, e3, e4, e5⟩ := hen.keeps HRA.1; rw [HGO.1] at e1; have E1 := Az.mk e1; have E2 := Az.mk e2; have E3 := Az.mk e3; have E4 := Az.mk e4; have E5 := Az.mk e5; clear e1 e2 e3 e4 e5 hen)
           have O12 := Az.mk ((E4.1 go HGB.1 (blk_lt O10.1)).trans O10.1)
           have S12 := Az.mk (Kd.S_step S10.1 (fun k hk hlt => E4.1 k hk.2 hlt))
           have F12 := Az.mk (Kd.F_step F10.1 (fun k hk hlt => E4.1 k hk.2 hlt))
           have X12 := Az.mk (X10.1.kept (fun k hk => by obtain ⟨x1, x2, cells, x3⟩ := X10.1.typed k hk; exact E5.1 k 32 cells (by omega) x3 (by decide)))
           go_roundg k7
           case measure => omega
           case rel => exact ⟨i + 1, _, _, rfl, ⟨by have := HI.1; omega⟩, L10, H3, ⟨by have := HK7.1; omega⟩, E1, O12, S12, F12, E3, ⟨by have := Z10.1; have := E2.1; omega⟩, X12⟩
end Od
end Go.Proofs.Ytpmjpngmmphkmaa
namespace Go.Proofs.Ytpmjpngmmphkmaa
open Go.RowKit Go.Proofs.Yw.A Go.Proofs.Yw.B Go.Proofs.Yw.C Go.Proofs.Ytpmjpngmmphkmaa.P
namespace Od
noncomputable def lim {α : Type} (F : Nat -> Option α) : Option α :=
  open Classical in if h : ∃ (r : α) (k0 : Nat), ∀ k, k0 <= k -> F k = some r then some h.choose else none
theorem lim_of {α : Type} {F : Nat -> Option α} {r : α} {k0 : Nat} (h : ∀ k, k0 <= k -> F k = some r) : lim F = some r := by
  have hx : ∃ (r : α) (k0 : Nat), ∀ k, k0 <= k -> F k = some r := ⟨r, k0, h⟩
  unfold lim
  rw [dif_pos hx]
  obtain ⟨k1, h1⟩ := hx.choose_spec
  have e1 := h1 (max k0 k1) (by omega)
  rw [h _ (by omega)] at e1
  exact e1.symm
theorem lim_some {α : Type} {F : Nat -> Option α} {r : α} (h : lim F = some r) : ∃ k0, ∀ k, k0 <= k -> F k = some r := by
  unfold lim at h
  split at h
  · rename_i hx
    obtain rfl := Option.some.inj h
    exact hx.choose_spec
  · cases h
end Od
namespace P
noncomputable def graph_ordered.f (l : List (List Int)) : Option (List (List Int)) := Od.lim fun k => Od.orderedF k l
theorem graph_ordered.calls (A0 : Option Addr) (c0 : Nat) (l0 : List (List Int)) (r : List (List Int)) (w : World) (hr0 : Kd.C (Kd.slice 3 (Kd.int .i64)) w A0 l0.length l0) (hc0 : l0.length <= c0) (h : graph_ordered.f l0 = some r) :
    Calls Try.prog 28 #[.slice A0 l0.length c0] w fun e w' => ∃ v0_, e = .returned v0_ /\ Kd.V (Kd.slice 3 (Kd.int .i64)) 32 w' w.heap.size (fun k_ => w.heap.size <= k_) v0_ r /\ Below w.heap.size w w' := by
  obtain ⟨k0, h0⟩ := Od.lim_some h
  exact Od.ordered_calls k0 A0 c0 l0 r w hr0 hc0 (h0 k0 (Nat.le_refl _))
end P
end Go.Proofs.Ytpmjpngmmphkmaa
namespace Go.Proofs.Ytpmjpngmmphkmaa
open Go.RowKit Go.Proofs.Yw.A Go.Proofs.Yw.B Go.Proofs.Yw.C Go.Proofs.Ytpmjpngmmphkmaa.P
namespace Gp
open Od
def eqK (a b : S40) : Bool := a.f0 == b.f0 && a.f1 == b.f1
theorem eqK_iff {a b : S40} : eqK a b = true ↔ a = b := by
 cases a; cases b; simp [eqK]
def posK (L : List S40) (x : S40) : Option Nat := L.findIdx? (fun y => eqK y x)
def posD (L : List S40) (x : S40) : Int := match posK L x with | none => 0 | some i => i
def firstsA : List S40 -> List S40 -> List S40
 | [], acc => acc
 | x :: l, acc => if (posK acc x).isSome then firstsA l acc else firstsA l (acc ++ [x])
def firsts (l : List S40) : List S40 := firstsA l []
def okK (x : S40) : Bool := (Lit.int .i64 x.f0).wf && (Lit.int .i64 x.f1).wf
def okR (ys : List S40) : Bool := decide (ys.length <= 1000) && ys.all okK
def outs (L : List S40) (ys : List S40) : List Int := ys.filterMap (fun y => (posK L y).map (fun i : Nat => (i : Int)))
noncomputable def usesF (k : Nat) (L : List S40) (x : S40) : Option (List Int) := (lazyclaw09_Uses.f k x.f0 x.f1).bind fun ys => if okR ys = true then some (outs L ys) else none
def okC (n : Nat) (C : List (List Int)) : Bool := decide (C.length <= 1000000) && C.all (fun c => decide (c.length <= 1000000) && c.all (fun i => decide (0 <= i) && decide (i < (n : Int))))
noncomputable def told (L : List S40) (E : List (List Int)) : Option (List (List S40)) := (graph_ordered.f E).bind fun C => if okC L.length C = true then some (C.map (fun c => c.map (rd_T40 L))) else none
noncomputable def groupF (k : Nat) (l : List S40) : Option (List (List S40)) :=
 if okR l = true then ((firsts l).mapM (usesF k (firsts l))).bind (told (firsts l)) else none
noncomputable def groupN (l : List S40) : Option (List (List S40)) :=
 if okR l = true then told (firsts l) (List.replicate (firsts l).length []) else none
theorem posK_snoc {L : List S40} {x : S40} (h : posK L x = none) (y : S40) : posK (L ++ [x]) y = if eqK x y = true then some L.length else posK L y := by
 unfold posK at *
 rw [List.findIdx?_append]
 by_cases hxy : eqK x y = true
 · have : y = x := (eqK_iff.1 hxy).symm
   subst this
   rw [h, if_pos hxy]
   simp [List.findIdx?_cons, hxy]
 rw [if_neg hxy]
 cases hc : L.findIdx? (fun z => eqK z y) with
 | none => simp [List.findIdx?_cons, hxy]
 | some i => simp
theorem posK_lt {L : List S40} {x : S40} {i : Nat} (h : posK L x = some i) : i < L.length := by
 unfold posK at h
 exact (List.findIdx?_eq_some_iff_findIdx_eq.1 h).1
theorem firstsA_length : ∀ (l acc : List S40), (firstsA l acc).length <= l.length + acc.length := by
 intro l
 induction l with
 | nil => intro acc; simp [firstsA]
 | cons x l ih =>
  intro acc
  unfold firstsA
  split
  · have := ih acc; simp; omega
  · have := ih (acc ++ [x]); simp at this ⊢; omega
theorem firsts_length (l : List S40) : (firsts l).length <= l.length := by have := firstsA_length l []; simpa [firsts] using this
abbrev keyV (x : S40) : Value := .agg #[.int .i64 x.f0, .int .i64 x.f1]
theorem laidOut : laidOutB Try.prog = true := by kernel_rfl
theorem wide40 : (match Try.prog.underlying 40 with | some (.array _ _) | some (.struct _) => true | _ => false) = true := by rw [Try.underlying40]
theorem row40 : (40 : TypeId) < Try.prog.types.size := of_decide_eq_true (by kernel_rfl)
theorem keys40 : Maps.Keyed Try.prog 40 := Maps.Keyed.of_law (deep_law_laid laidOut (m := 2) (by omega) row40 (by kernel_rfl) wide40)
noncomputable def lk (x : S40) : Lit := (keyOf Try.prog 40 (keyV x)).getD (.bool false)
theorem formed40 (x : S40) : (keyV x).formed Try.prog 40 = true := by
 have hc : Try.prog.cellsOf 40 = 2 := by kernel_rfl
 simp [Value.formed, Try.underlying40, hc]
theorem size40 : ∃ n, Try.prog.types.size = n + 1 := Nat.exists_eq_succ_of_ne_zero (Nat.ne_of_gt (Nat.lt_of_le_of_lt (Nat.zero_le _) row40))
theorem lits3 (d : Nat) (a : Int) (h : (Lit.int .i64 a).wf = true) : Try.prog.keyLits (d + 1) 3 [.int .i64 a] = some [.int .i64 a] := by
 simp [Program.keyLits, Try.underlying3, h]
theorem keyOf_lk {x : S40} (h : okK x = true) : keyOf Try.prog 40 (keyV x) = some (lk x) := by
 have hs : (keyOf Try.prog 40 (keyV x)).isSome = true := by
  obtain ⟨n, hn⟩ := size40
  have hk : Try.prog.keyType 40 = true := by kernel_rfl
  have hc : Try.prog.cellsOf 40 = 2 := by kernel_rfl
  have hc3 : Try.prog.cellsOf 3 = 1 := by kernel_rfl
  rw [okK, Bool.and_eq_true] at h
  unfold keyOf
  rw [Try.underlying40]
  simp only [hk, formed40, Bool.and_self, if_true, hn]
  unfold Program.keyLits
  simp only [Try.underlying40]
  simp [Value.cells, hc, hc3, lits3, h.1, h.2]
 unfold lk
 cases hq : keyOf Try.prog 40 (keyV x) with
 | none => rw [hq] at hs; cases hs
 | some l => rfl
theorem lk_inj {x y : S40} (hx : okK x = true) (hy : okK y = true) (h : lk x = lk y) : x = y := by
 have := keys40.inj (keyOf_lk hx) (h ▸ keyOf_lk hy)
 cases x; cases y
 simp only [keyV, Value.agg.injEq, Array.mk.injEq, List.cons.injEq, Value.int.injEq, true_and, and_true] at this
 simpa using this
theorem make54 (w : World) : Sem.run Try.prog (Instr.makeMap 54 none) w = .ok (.map (some w.heap.size)) (w.alloc (.map #[] 0)) := rfl
theorem zero3 (w : World) : (zeroValue 3).run Try.prog w = .ok (.int .i64 0) w := by kernel_rfl
def IxAt (w : World) (b : Nat) (L : List S40) : Prop := ∃ (n : Nat) (D : DataW Unit), w.ownsMap Try.prog 40 (plainElem Try.prog 3) b n D /\ n <= L.length /\ Maps.IsMap D /\
 ∀ x : S40, okK x = true -> D.atKey (lk x) (.lit (.int .i64 0)) = .lit (.int .i64 (posD L x)) /\ Maps.has D (lk x) = (posK L x).isSome
theorem IxAt.made (w : World) : IxAt (w.alloc (.map #[] 0)) w.heap.size [] :=
 ⟨0, .map [], World.ownsMap_made _ _ _ _, Nat.le_refl _, Maps.isMap_empty, fun x _ => by simp [DataW.atKey, posD, posK, Maps.has]⟩
theorem IxAt.kept {w w' : World} {b : Nat} {L : List S40} {row : Option Nat} (h : IxAt w b L) (hg : w.grownBy w' row) (hne : some b ≠ row) : IxAt w' b L := by
 obtain ⟨n, D, h1, h2⟩ := h
 exact ⟨n, D, h1.kept hg hne, h2⟩
theorem IxAt.lt {w : World} {b : Nat} {L : List S40} (h : IxAt w b L) : b < w.heap.size := by
 obtain ⟨n, D, h1, h2⟩ := h
 exact h1.lt
theorem IxAt.obj {w : World} {b : Nat} {L : List S40} (h : IxAt w b L) : ∃ es c, w.heap[b]? = some (.map es c) := by
 obtain ⟨n, D, ⟨es, c, h1, _⟩, _⟩ := h
 exact ⟨es, c, h1⟩
theorem IxAt.same {w w' : World} {b : Nat} {L : List S40} (h : IxAt w b L) (hb : w'.heap[b]? = w.heap[b]?) : IxAt w' b L := by
 obtain ⟨n, D, ⟨es, c, h1, h2⟩, h3⟩ := h
 exact ⟨n, D, ⟨es, c, hb.trans h1, h2⟩, h3⟩
theorem IxAt.below {w w' : World} {b : Nat} {L : List S40} (h : IxAt w b L) (hb : Below w.heap.size w w') : IxAt w' b L := h.same (hb.block b h.lt)
theorem IxAt.look {w : World} {b : Nat} {L : List S40} (h : IxAt w b L) (x : S40) (hx : okK x = true) : (Instr.lookup 54 (.map (some b)) (.agg #[.int .i64 x.f0, .int .i64 x.f1]) true).run Try.prog w = .ok (.tuple #[.int .i64 (posD L x), .bool (posK L x).isSome]) w := by
 obtain ⟨n, D, h1, h2, _, h3⟩ := h
 obtain ⟨v, ps, hrun, hv⟩ := h1.look_ok keys40 Try.underlying54 (zero3 w) (plainElem_int Try.underlying3 (a := 0) (by decide)) (keyOf_lk hx)
 rw [(h3 x hx).1] at hv
 rw [(h3 x hx).2] at hrun
 rw [hrun]
 obtain ⟨c, rfl, hc, _⟩ := plainElem_int_inv Try.underlying3 hv
 simp at hc
 rw [hc.1]
theorem wf_nat {n : Nat} (h : n < 100000) : (Lit.int .i64 (n : Int)).wf = true := by
 have h1 : IntKind.i64.min = -9223372036854775808 := by decide
 have h2 : IntKind.i64.max = 9223372036854775807 := by decide
 simp only [Lit.wf, h1, h2, Bool.and_eq_true, decide_eq_true_eq]
 omega
theorem posD_snoc {L : List S40} {x : S40} (h : posK L x = none) (y : S40) : posD (L ++ [x]) y = if eqK x y = true then (L.length : Int) else posD L y := by
 unfold posD
 rw [posK_snoc h]
 by_cases hxy : eqK x y = true
 rotate_left
 · rw [if_neg hxy, if_neg hxy]
 rw [if_pos hxy, if_pos hxy]
theorem IxAt.put {w : World} {b : Nat} {L : List S40} (h : IxAt w b L) (hn : L.length < 100000) (x : S40) (hx : okK x = true) (hnew : posK L x = none) :
 ∃ w', (Instr.mapUpdate 54 (.map (some b)) (.agg #[.int .i64 x.f0, .int .i64 x.f1]) (.int .i64 L.length)).run Try.prog w = .ok () w' /\ IxAt w' b (L ++ [x]) /\ w.grownBy w' (some b) := by
 obtain ⟨n, D, h1, h2, hm, h3⟩ := h
 obtain ⟨w', hrun, h4, hg⟩ := h1.update keys40 Try.underlying54 (by unfold maxLen; omega) (keyOf_lk hx) (plainElem_int Try.underlying3 (a := (L.length : Int)) (wf_nat hn))
 refine ⟨w', hrun, ⟨n + 1, _, h4, by simp; omega, hm.put _ _, fun y hy => ?_⟩, hg⟩
 rw [posD_snoc hnew, posK_snoc hnew]
 by_cases hxy : eqK x y = true
 rotate_left
 · have hne : lk y ≠ lk x := fun e => hxy (eqK_iff.2 (lk_inj hy hx e).symm)
   rw [if_neg hxy, if_neg hxy, Maps.atKey_put_other hne, Maps.has_put_other hne]
   exact h3 y hy
 have : x = y := eqK_iff.1 hxy
 subst this
 rw [if_pos hxy, if_pos hxy, Maps.atKey_put_same hm (keys40.key (keyOf_lk hx)), Maps.has_put_same hm (keys40.key (keyOf_lk hx))]
 simp
end Gp
end Go.Proofs.Ytpmjpngmmphkmaa
namespace Go.Proofs.Ytpmjpngmmphkmaa
open Go.RowKit Go.Proofs.Yw.A Go.Proofs.Yw.B Go.Proofs.Yw.C Go.Proofs.Ytpmjpngmmphkmaa.P
attribute [local go_sem] max2_int min2_int max_two min_two max_three min_three max_four min_four
namespace Gp
open Od Tj Rw
def Uz (k : Nat) (L : List S40) (u : Value) (E : List (List Int)) : Prop :=
  E.length = L.length /\ ((u = .nilFunc /\ ∀ i, row E i = []) \/ (u = .func (.func 24) #[] #[] /\ ∀ i : Nat, i < L.length -> usesF k L (rd_T40 L (i : Int)) = some (row E (i : Int))))
theorem drop_rd (l : List S40) (x : Int) (h0 : 0 <= x) (h1 : x < l.length) : l.drop x.toNat = rd_T40 l x :: l.drop (x.toNat + 1) := by
  have hi : x.toNat < l.length := by omega
  rw [List.drop_eq_getElem_cons hi]
  simp [rd_T40, List.getD_eq_getElem?_getD, List.getElem?_eq_getElem hi]
theorem mem_rd (l : List S40) (x : Int) (h0 : 0 <= x) (h1 : x < l.length) : rd_T40 l x ∈ l := by
  have hi : x.toNat < l.length := by omega
  have : rd_T40 l x = l[x.toNat] := by simp [rd_T40, List.getD_eq_getElem?_getD, List.getElem?_eq_getElem hi]
  rw [this]; exact List.getElem_mem hi
theorem okR_mem {l : List S40} (h : okR l = true) {x : S40} (hx : x ∈ l) : okK x = true := by
  rw [okR, Bool.and_eq_true] at h
  exact List.all_eq_true.1 h.2 x hx
theorem okR_len {l : List S40} (h : okR l = true) : l.length <= 1000 := by
  rw [okR, Bool.and_eq_true] at h
  exact of_decide_eq_true h.1
def EdAt (n i : Nat) (E Ed : List (List Int)) : Prop := Ed.length = n /\ ∀ j : Nat, j < n -> row Ed (j : Int) = if j < i then row E (j : Int) else []
def EdT (n i : Nat) (E : List (List Int)) (T : List Int) (Ed : List (List Int)) : Prop := Ed.length = n /\ ∀ j : Nat, j < n -> row Ed (j : Int) = if j < i then row E (j : Int) else if j = i then T else []
theorem row_ext {n : Nat} {E Ed : List (List Int)} (h1 : Ed.length = n) (h2 : E.length = n) (h : ∀ j : Nat, j < n -> row Ed (j : Int) = row E (j : Int)) : Ed = E := by
  apply List.ext_getElem (by rw [h1, h2])
  intro j a b
  have := h j (by omega)
  simpa [row, List.getD_eq_getElem?_getD, List.getElem?_eq_getElem a, List.getElem?_eq_getElem b] using this
theorem EdAt.all {n i : Nat} {E Ed : List (List Int)} (h : EdAt n i E Ed) (hE : E.length = n) (hi : n <= i) : Ed = E :=
  row_ext h.1 hE fun j hj => by rw [h.2 j hj, if_pos (by omega)]
theorem EdAt.nil {n i : Nat} {E Ed : List (List Int)} (h : EdAt n i E Ed) (hE : E.length = n) (he : ∀ j, row E j = []) : Ed = E :=
  row_ext h.1 hE fun j hj => by rw [h.2 j hj, he]; simp
theorem EdAt.start {n i : Nat} {E Ed : List (List Int)} (h : EdAt n i E Ed) : EdT n i E [] Ed :=
  ⟨h.1, fun j hj => by rw [h.2 j hj]; simp⟩
theorem EdT.done {n i : Nat} {E Ed : List (List Int)} {T : List Int} (h : EdT n i E T Ed) (hT : T = row E (i : Int)) : EdAt n (i + 1) E Ed :=
  ⟨h.1, fun j hj => by
    rw [h.2 j hj]
    by_cases h1 : j < i
    · rw [if_pos h1, if_pos (by omega)]
    · rw [if_neg h1]
      by_cases h2 : j = i
      · subst h2; rw [if_pos rfl, if_pos (by omega), hT]
      · rw [if_neg h2, if_neg (by omega)]⟩
theorem EdT.row {n i : Nat} {E Ed : List (List Int)} {T : List Int} (h : EdT n i E T Ed) (hi : i < n) : row Ed (i : Int) = T := by
  rw [h.2 i hi, if_neg (by omega), if_pos rfl]
theorem EdT.put {n i : Nat} {E Ed : List (List Int)} {T T' : List Int} (h : EdT n i E T Ed) (hi : i < n) : EdT n i E T' (Ed.set i T') :=
  ⟨by rw [List.length_set]; exact h.1, fun j hj => by
    have hl := h.1
    by_cases h2 : j = i
    · subst h2
      simp [Tj.row, List.getD_eq_getElem?_getD, hl, hj]
    · have := h.2 j hj
      simp only [Tj.row, List.getD_eq_getElem?_getD, Int.toNat_natCast] at this ⊢
      rw [List.getElem?_set_ne (by omega), this]
      simp [h2]⟩
theorem outs_more (L ys : List S40) (z : Int) (h0 : 0 <= z) (h1 : z < ys.length) : outs L (ys.take (z.toNat + 1)) = outs L (ys.take z.toNat) ++ (match posK L (rd_T40 ys z) with | none => [] | some p => [(p : Int)]) := by
  have hi : z.toNat < ys.length := by omega
  have e : rd_T40 ys z = ys[z.toNat] := by simp [rd_T40, List.getD_eq_getElem?_getD, List.getElem?_eq_getElem hi]
  rw [List.take_add_one, List.getElem?_eq_getElem hi, e]
  unfold outs
  rw [List.filterMap_append]
  congr 1
  cases hq : posK L ys[z.toNat] <;> simp [hq]
theorem eqF (w : World) : Sem.run Try.prog (binOp BinOp.eql 42 (.func (.func 24) #[] #[]) .nilFunc) w = .ok (.bool false) w := by kernel_rfl
theorem eqN (w : World) : Sem.run Try.prog (binOp BinOp.eql 42 .nilFunc .nilFunc) w = .ok (.bool true) w := by kernel_rfl
theorem info38 : (Try.prog.info? 38).map (fun i => (i.zero, i.size, i.bytes)) = some (some (.slice none 0 0), 1, 24) := by kernel_rfl
theorem okC_len {n : Nat} {C : List (List Int)} (h : okC n C = true) : C.length <= 1000000 := by
  rw [okC, Bool.and_eq_true] at h
  exact of_decide_eq_true h.1
theorem okC_row {n : Nat} {C : List (List Int)} (h : okC n C = true) (a : Int) (h0 : 0 <= a) (h1 : a < C.length) : (rd_L1 C a).length <= 1000000 /\ ∀ i ∈ rd_L1 C a, 0 <= i /\ i < (n : Int) := by
  rw [okC, Bool.and_eq_true] at h
  have hi : a.toNat < C.length := by omega
  have e : rd_L1 C a = C[a.toNat] := by simp [rd_L1, List.getD_eq_getElem?_getD, List.getElem?_eq_getElem hi]
  have h2 := List.all_eq_true.1 h.2 _ (List.getElem_mem hi)
  rw [<- e, Bool.and_eq_true] at h2
  refine ⟨of_decide_eq_true h2.1, fun i hm => ?_⟩
  have h3 := List.all_eq_true.1 h2.2 i hm
  rw [Bool.and_eq_true] at h3
  exact ⟨of_decide_eq_true h3.1, of_decide_eq_true h3.2⟩
theorem take_C (C : List (List Int)) (a : Int) (h0 : 0 <= a) (h1 : a < C.length) : C.take (a.toNat + 1) = C.take a.toNat ++ [rd_L1 C a] := by
  have hi : a.toNat < C.length := by omega
  rw [List.take_add_one, List.getElem?_eq_getElem hi]
  simp [rd_L1, List.getD_eq_getElem?_getD, List.getElem?_eq_getElem hi]
theorem take_I (l : List Int) (a : Int) (h0 : 0 <= a) (h1 : a < l.length) : l.take (a.toNat + 1) = l.take a.toNat ++ [Go.Proofs.Yw.A.rd l a] /\ Go.Proofs.Yw.A.rd l a ∈ l := by
  have hi : a.toNat < l.length := by omega
  have e : Go.Proofs.Yw.A.rd l a = l[a.toNat] := by simp [Go.Proofs.Yw.A.rd, rdOf, List.getD_eq_getElem?_getD, List.getElem?_eq_getElem hi]
  rw [List.take_add_one, List.getElem?_eq_getElem hi, e]
  exact ⟨rfl, List.getElem_mem hi⟩
theorem firsts_step (m : S40) (l L F : List S40) (h : firstsA (m :: l) L = F) : (if (posK L m).isSome = true then firstsA l L else firstsA l (L ++ [m])) = F := h
theorem group_walk (k : Nat) (u : Value) (A0 : Option Addr) (c0 : Nat) (l : List S40) (E C : List (List Int)) (w : World) (hr0 : Kd.C k40 w A0 l.length l) (hc0 : l.length <= c0) (hok : okR l = true)
    (hu : Uz k (firsts l) u E) (hC : graph_ordered.f E = some C) (hoc : okC (firsts l).length C = true) :
    Calls Try.prog 26 #[.slice A0 l.length c0, u] w fun e w' => ∃ v0_, e = .returned v0_ /\ Kd.V (Kd.slice 40 k40) 38 w' w.heap.size (fun k_ => w.heap.size <= k_) v0_ (C.map (fun c => c.map (rd_T40 (firsts l)))) /\ Below w.heap.size w w' := by
  have HR0 := Az.mk hr0
  have HC0 := Az.mk hc0
  have HOK := Az.mk hok
  have HUZ := Az.mk hu
  have HCC := Az.mk hC
  have HOC := Az.mk hoc
  have HLN := Az.mk (okR_len hok)
  clear hr0 hc0 hok hu hC hoc
  obtain ⟨F, hF⟩ : ∃ F, F = firsts l := ⟨_, rfl⟩
  rw [<- hF] at HUZ HOC ⊢
  have HF := Az.mk hF
  clear hF
  go_enter Try.func26, Try.ntmps26
  have hm1 := fun w => make54 w
  go_wp2
  clear hm1
  have HI0 := Az.mk (IxAt.made w)
  have HB0 := Az.mk (below_alloc (Below.refl w.heap.size w) (Obj.map #[] 0))
  generalize w.alloc (Obj.map #[] 0) = w1 at *
  go_loopg [6, 27] l.length (fun kq v6 v27 w' => ∃ (x : Int) (L : List S40), v27 = .int .i64 x /\ Az (0 <= x /\ x.toNat + kq = l.length) /\ Az (L.length <= x.toNat /\ firstsA (l.drop x.toNat) L = F /\ IxAt w' w.heap.size L /\ Kd.R k40 40 w' w.heap.size (fun k => w.heap.size < k) v6 L /\ Below w.heap.size w w'))
  case atStart => exact ⟨0, [], rfl, ⟨by decide, by simp⟩, ⟨by simp, by rw [HF.1]; rfl, HI0.1, Kd.R_nil _ _ _ _ _, HB0.1⟩⟩
  case round =>
    obtain ⟨x, L, rfl, hk, hI⟩ := hrel
    clear HI0 HB0
    have hk0 := hk.1.1
    by_cases hx : x < (l.length : Int)
    · have q1 : decide (x < (l.length : Int)) = true := decide_eq_true hx
      have HX := Az.mk hx
      obtain ⟨ad, rfl, g0, g1⟩ := at_T40 (Kd.C_below HR0.1 hI.1.2.2.2.2) x hk0 hx
      have hmk := okR_mem HOK.1 (mem_rd l x hk0 hx)
      have hfs := hI.1.2.1
      rw [drop_rd l x hk0 hx] at hfs
      have hfs := firsts_step _ _ _ _ hfs
      generalize rd_T40 l x = m at *
      have HFS := Az.mk hfs
      have HMK := Az.mk hmk
      have p1 := eq_true hk0
      have p2 := eq_true hx
      obtain ⟨A6, c6, rfl⟩ := Kd.R_slice hI.1.2.2.2.1
      clear hfs hmk hx hk0
      go_upto_region 6 with fail
      have hB2 := below_alloc (Below.refl wr.heap.size wr) (Obj.cells #[Value.int .i64 m.f0, Value.int .i64 m.f1] 40)
      have hb6 := (MapKept.heap_alloc wr (Obj.cells #[Value.int .i64 m.f0, Value.int .i64 m.f1] 40)).1
      have HI2 := Az.mk (hI.1.2.2.1.below hB2)
      have HR2 := Az.mk (Kd.R_below hI.1.2.2.2.1 hB2)
      have HB2 := Az.mk (below_step hI.1.2.2.2.2 hB2)
      clear hB2 g0 g1
      generalize wr.alloc (Obj.cells #[Value.int .i64 m.f0, Value.int .i64 m.f1] 40) = w2 at *
      have d0 : w2.cell? ⟨wr.heap.size, 0, none⟩ = some (.int .i64 m.f0) := blk_cell hb6 0
      have d1 : w2.cell? ⟨wr.heap.size, 1, none⟩ = some (.int .i64 m.f1) := blk_cell hb6 1
      have hlk := HI2.1.look m HMK.1
      by_cases hcn : (posK L m).isSome = true
      · have hfs := HFS.1
        rw [if_pos hcn] at hfs
        have HT := Az.mk hfs
        rw [hcn] at hlk
        clear hcn hfs hb6
        go_wp2
        go_roundg (gk - 1)
        case measure => have := hk.1; have := HX.1; omega
        case rel =>
          have h1 := hk.1
          have h2 := HX.1
          have h3 := HLN.1
          have et : (x + 1).toNat = x.toNat + 1 := by omega
          exact ⟨x + 1, L, by rw [show wrap64 (x + 1) = x + 1 from by unfold wrap64; omega], ⟨by omega, by omega⟩, ⟨by have := hI.1.1; omega, by rw [et]; exact HT.1, HI2.1, HR2.1, HB2.1⟩⟩
      · have hcf : (posK L m).isSome = false := by simpa using hcn
        have hnn : posK L m = none := by simpa using hcn
        have hfs := HFS.1
        rw [if_neg hcn] at hfs
        have HT := Az.mk hfs
        rw [hcf] at hlk
        obtain ⟨w3, hrun, hix, hg⟩ := HI2.1.put (by have := hk.1; have := HX.1; have := HLN.1; have := hI.1.1; omega) m HMK.1 hnn
        have hb63 := blk_grown hb6 hg (by intro e; injection e with e; have := hI.1.2.2.1.lt; omega)
        have e0 : w3.cell? ⟨wr.heap.size, 0, none⟩ = some (.int .i64 m.f0) := blk_cell hb63 0
        have e1 : w3.cell? ⟨wr.heap.size, 1, none⟩ = some (.int .i64 m.f1) := blk_cell hb63 1
        have HR3 := Az.mk (Kd.R_grown HR2.1 hg (fun k hk e => by injection e with e; omega))
        have HI3 := Az.mk hix
        have HB3 := Az.mk (HB2.1.grown hg HB2.1.size (fun k hk => by injection hk with hk; omega))
        have HLL : Az (L.length <= 1000) := ⟨by have := hk.1; have := HX.1; have := HLN.1; have := hI.1.1; omega⟩
        clear hcn hcf hnn hfs hb6 hb63 hix hg
        go_wp2_with ((with_reducible refine gate_builtin (b := .append) (xs := #[.tmp 43, .tmp 45]) rfl ?_); at_builtin; refine Kd.R_append k40 (w0 := w) w.heap.size rfl (.tmp 43) (.tmp 45) 38 40 (.agg #[(.int .i64 0), (.int .i64 0)]) 16 rfl Try.underlying38 info40 rfl (by decide) (by omega) (.slice A6 L.length c6) L m [.int .i64 m.f0, .int .i64 m.f1] (fun k => w.heap.size < k) (fun _ => False) rfl rfl (k40_mkM _ _ _ m) (fun _ hk => hk.elim) (fun k hk => by have := HI3.1.lt; omega) HR3.1 HB3.1 HB3.1.size ?hl ?_)
        (case hl => have := HLL.1; omega)
        intro v1 w4 ho hb hg hat
        have HR4 := Az.mk ho
        have HB4 := Az.mk hb
        have HI4 := Az.mk (HI3.1.kept hg (fun e => by have := HR3.1.1 _ e.symm; omega))
        clear ho hb hg hat HI3 HB3 HR3 HI2 HB2 HR2
        go_wp2
        go_roundg (gk - 1)
        case measure => have := hk.1; have := HX.1; omega
        case rel =>
          have h1 := hk.1
          have h2 := HX.1
          have h3 := HLN.1
          have et : (x + 1).toNat = x.toNat + 1 := by omega
          exact ⟨x + 1, L ++ [m], by rw [show wrap64 (x + 1) = x + 1 from by unfold wrap64; omega], ⟨by omega, by omega⟩, ⟨by have := hI.1.1; simp; omega, by rw [et]; exact HT.1, HI4.1, HR4.1, HB4.1⟩⟩
    · have q1 : decide (x < (l.length : Int)) = false := decide_eq_false hx
      have hdl : l.drop x.toNat = [] := List.drop_of_length_le (by have := hk.1; omega)
      have hI2 := hI.1
      rw [hdl] at hI2
      obtain ⟨hl1, hl2, hl3, hl4, hl5⟩ := hI2
      have hl2 : L = F := hl2
      subst hl2
      have hll : L.length <= 1000 := by have := hk.1; have := HLN.1; omega
      obtain ⟨A6, c6, rfl⟩ := Kd.R_slice hl4
      have HIX := Az.mk hl3
      have HRL := Az.mk hl4
      have HBL := Az.mk hl5
      have HLL := Az.mk hll
      clear hdl hl1 hl3 hl4 hl5 hll hI hk hk0 hx
      obtain ⟨i0, e0, e1, e2, e3⟩ := info_parts info32
      have hmk := run_make wr 22 32 i0 _ Try.underlying22 e0 e1 .i64 .i64 L.length L.length (by have := HLL.1; omega) (by have := HLL.1; omega) (by rw [e3]; have := HLL.1; omega) (by have := HLL.1; omega)
      rw [Int.toNat_natCast, e2, Nat.mul_one] at hmk
      clear e0 e1 e2 e3
      go_upto_region 12 with fail
      have hgm := blk_new wr (.cells (madeCells #[.slice none 0 0] L.length) 32)
      have hb2 := below_alloc (Below.refl wr.heap.size wr) (.cells (madeCells #[.slice none 0 0] L.length) 32)
      have HS2 := Az.mk (S_made (base := w.heap.size) (ok := fun k => wr.heap.size <= k) hgm HBL.1.size (by have := HLL.1; unfold maxLen; omega) (Nat.le_refl _))
      have HI2 := Az.mk (HIX.1.below hb2)
      have HR2 := Az.mk (Kd.R_mono (ok' := fun k => w.heap.size < k /\ k < wr.heap.size) (Kd.R_below (Kd.R_bound HRL.1) hb2) (fun k hk => ⟨hk.1, hk.2.2.1⟩))
      have HB2 := Az.mk (below_step HBL.1 hb2)
      have HGO := Az.mk HIX.1.lt
      clear hgm hb2 HIX HRL HBL hmk
      generalize wr.alloc (.cells (madeCells #[.slice none 0 0] L.length) 32) = w2 at *
      generalize wr.heap.size = go at *
      go_wp2
      go_loopg [53] L.length (fun kq v53 w' => ∃ (i : Int) (Ed : List (List Int)), v53 = .int .i64 i /\ Az (0 <= i /\ i.toNat + kq = L.length) /\ Az (EdAt L.length i.toNat E Ed /\ Kd.S KS 32 w' w.heap.size (fun k => go <= k) (.slice (some ⟨go, 0, none⟩) L.length L.length) Ed /\ IxAt w' w.heap.size L /\ Kd.R k40 40 w' w.heap.size (fun k => w.heap.size < k /\ k < go) (.slice A6 L.length c6) L /\ Below w.heap.size w w'))
      case atStart => exact ⟨0, _, rfl, ⟨by decide, by simp⟩, ⟨⟨List.length_replicate .., fun j hj => by
        rw [if_neg (by simp)]
        simp [row, List.getD_eq_getElem?_getD, List.getElem?_replicate, hj]⟩, HS2.1, HI2.1, HR2.1, HB2.1⟩⟩
      case round =>
        obtain ⟨i, Ed, rfl, hk, hI⟩ := hrel
        clear HS2 HI2 HR2 HB2
        have hk0 := hk.1.1
        obtain ⟨gk1, rfl⟩ : ∃ g, g = gk := ⟨_, rfl⟩
        obtain ⟨wo, rfl⟩ : ∃ wo, wo = wr := ⟨_, rfl⟩
        by_cases hi : i < (L.length : Int)
        · have q1 : decide (i < (L.length : Int)) = true := decide_eq_true hi
          have HX := Az.mk hi
          obtain ⟨ad, had, g0, g1⟩ := at_T40 (Kd.R_reads' hI.1.2.2.2.1).2.2 i hk0 hi
          subst had
          generalize hmd : rd_T40 L i = m at *
          have HMD := Az.mk hmd
          have p1 := eq_true hk0
          have p2 := eq_true hi
          clear hi hk0 hmd
          rcases HUZ.1.2 with ⟨hu, hE⟩ | ⟨hu, hE⟩
          · subst hu
            have HE := Az.mk hE
            clear hE
            go_upto_region 15 with fail
            have hB2 := below_alloc (Below.refl wo.heap.size wo) (Obj.cells #[Value.int .i64 m.f0, Value.int .i64 m.f1] 40)
            have HS3 := Az.mk (Kd.S_below hI.1.2.1 hB2)
            have HR3 := Az.mk (Kd.R_below hI.1.2.2.2.1 hB2)
            have HB3 := Az.mk (below_step hI.1.2.2.2.2 hB2)
            have hee := hI.1.1.nil HUZ.1.1 HE.1
            rw [hee] at HS3
            clear g0 g1 hB2 hee
            generalize wo.alloc (Obj.cells #[Value.int .i64 m.f0, Value.int .i64 m.f1] 40) = w5 at *
            have hnf := eqN
            go_upto_region 25 with fail
            have hcall := graph_ordered.calls (some ⟨go, 0, none⟩) L.length E C w5 (Kd.S_reads' HS3.1).2.2 (Nat.le_of_eq HUZ.1.1) HCC.1
            rw [HUZ.1.1] at hcall
            have hnc := (Kd.R_reads' HR3.1).2.2
            have HNC := Az.mk hnc
            clear hnc
            try clear hnf
            go_wp2_with (go_at_call 28; refine hcall.mono ?_; rintro e w6 ⟨vc, rfl, hV, hb⟩; obtain ⟨Ac, cc, rfl⟩ := Kd.V_slice hV; have HVC := Az.mk (Kd.V_reads' hV).2.2; have HNC6 := Az.mk (Kd.C_below HNC.1 hb); have HB6 := Az.mk (below_step HB3.1 hb); clear hV hb)
            clear hcall HNC HB3 HS3 HR3
            have hcl := okC_len HOC.1
            have HCL := Az.mk hcl
            clear hcl
            go_loopg [18, 90] C.length (fun kq v18 v90 w' => ∃ (a : Int), v90 = .int .i64 a /\ Az (0 <= a /\ a.toNat + kq = C.length) /\ Az (Kd.S (Kd.slice 40 k40) 38 w' w6.heap.size (fun k => w6.heap.size <= k) v18 ((C.take a.toNat).map (fun c => c.map (rd_T40 L))) /\ Below w6.heap.size w6 w'))
            case atStart => exact ⟨0, rfl, ⟨by decide, by simp⟩, ⟨Kd.S_nil _ _ _ _ _, Below.refl _ _⟩⟩
            case round =>
              obtain ⟨a, rfl, hka, hM⟩ := hrel
              have hka0 := hka.1.1
              obtain ⟨gk2, rfl⟩ : ∃ g, g = gk := ⟨_, rfl⟩
              obtain ⟨wq, rfl⟩ : ∃ wq, wq = wr := ⟨_, rfl⟩
              by_cases hac : a < (C.length : Int)
              · have q5 : decide (a < (C.length : Int)) = true := decide_eq_true hac
                have HAX := Az.mk hac
                obtain ⟨ad3, A3, c3, rfl, g4, g5, g6⟩ := at_L1 HVC.1 a hka0 hac
                have g4 := (hM.1.2.cell (World.block_lt_of_cell? _ _ g4)).trans g4
                have hcr := okC_row HOC.1 a hka0 hac
                have htc := take_C C a hka0 hac
                generalize rd_L1 C a = rw1 at *
                have HCR := Az.mk hcr
                have HTC := Az.mk htc
                have HC3 := Az.mk (Kd.C_below g6 hM.1.2)
                have p5 := eq_true hka0
                have p6 := eq_true hac
                obtain ⟨Q, hQ⟩ : ∃ Q, Q = (C.take a.toNat).map (fun c => c.map (rd_T40 L)) := ⟨_, rfl⟩
                rw [<- hQ] at hM
                have HQ := Az.mk hQ
                clear hQ
                obtain ⟨Ao, co, rfl⟩ := Kd.S_slice hM.1.1
                clear hcr htc g5 g6 hka0 hac
                go_wp2
                clear g4
                go_loopg [21, 96] rw1.length (fun kq v21 v96 w' => ∃ (z : Int), v96 = .int .i64 z /\ Az (0 <= z /\ z.toNat + kq = rw1.length) /\ Az (Kd.R k40 40 w' wq.heap.size (fun k => wq.heap.size <= k) v21 ((rw1.take z.toNat).map (rd_T40 L)) /\ Below wq.heap.size wq w'))
                case atStart => exact ⟨0, rfl, ⟨by decide, by simp⟩, ⟨Kd.R_nil _ _ _ _ _, Below.refl _ _⟩⟩
                case round =>
                  obtain ⟨z, rfl, hkz, hN⟩ := hrel
                  have hkz0 := hkz.1.1
                  by_cases hz : z < (rw1.length : Int)
                  · have q6 : decide (z < (rw1.length : Int)) = true := decide_eq_true hz
                    have HZX := Az.mk hz
                    obtain ⟨ad4, had4, y0⟩ := Kd.at_int (Kd.C_below HC3.1 hN.1.2) z hkz0 hz
                    cases had4
                    obtain ⟨hti, hmi⟩ := take_I rw1 z hkz0 hz
                    have hdd := HCR.1.2 _ hmi
                    generalize Go.Proofs.Yw.A.rd rw1 z = d at *
                    obtain ⟨ad5, had5, n0, n1⟩ := at_T40 (Kd.C_below (Kd.C_below HNC6.1 hM.1.2) hN.1.2) d hdd.1 hdd.2
                    cases had5
                    have HTI := Az.mk hti
                    generalize hmd2 : rd_T40 L d = m2 at *
                    have HMD2 := Az.mk hmd2
                    have p7 := eq_true hkz0
                    have p8 := eq_true hz
                    have p9 := eq_true hdd.1
                    have p10 := eq_true hdd.2
                    obtain ⟨A21, c21, rfl⟩ := Kd.R_slice hN.1.1
                    have hrl : ((rw1.take z.toNat).map (rd_T40 L)).length <= 1000000 := by
                      rw [List.length_map, List.length_take]
                      have := HCR.1.1
                      omega
                    have HRL2 := Az.mk hrl
                    generalize hT : (rw1.take z.toNat).map (rd_T40 L) = T at *
                    have HT := Az.mk hT
                    clear hT hrl hti hmi hdd hmd2 hz hkz0
                    go_wp2_with ((with_reducible refine gate_builtin (b := .append) (xs := #[.tmp 100, .tmp 105]) rfl ?_); at_builtin; refine Kd.R_append k40 (w0 := wq) wq.heap.size rfl (.tmp 100) (.tmp 105) 38 40 (.agg #[(.int .i64 0), (.int .i64 0)]) 16 rfl Try.underlying38 info40 rfl (by decide) (by omega) (.slice A21 T.length c21) T m2 [.int .i64 m2.f0, .int .i64 m2.f1] (fun k => wq.heap.size <= k) (fun _ => False) rfl rfl (k40_mkM _ _ _ m2) (fun _ hk => hk.elim) (fun k hk => Nat.le_trans hN.1.2.size hk) hN.1.1 hN.1.2 hN.1.2.size ?hl ?_)
                    (case hl => have := HRL2.1; omega)
                    intro v1 w7 ho hb hg hat
                    have HO7 := Az.mk ho
                    have HB7 := Az.mk hb
                    clear ho hb hg hat y0 n0 n1
                    go_wp2
                    go_roundg (gk - 1)
                    case measure => have := hkz.1; have := HZX.1; omega
                    case rel =>
                      have h1 := hkz.1
                      have h2 := HZX.1
                      have h3 := HCR.1.1
                      have et : (z + 1).toNat = z.toNat + 1 := by omega
                      exact ⟨z + 1, by rw [show wrap64 (z + 1) = z + 1 from by unfold wrap64; omega], ⟨by omega, by omega⟩, ⟨by rw [et, HTI.1, List.map_append, HT.1, List.map_singleton, HMD2.1]; exact HO7.1, HB7.1⟩⟩
                  · have q6 : decide (z < (rw1.length : Int)) = false := decide_eq_false hz
                    have hzt : rw1.take z.toNat = rw1 := List.take_of_length_le (by have := hkz.1; omega)
                    have hN2 := hN.1
                    rw [hzt] at hN2
                    obtain ⟨A21, c21, rfl⟩ := Kd.R_slice hN2.1
                    generalize hT : rw1.map (rd_T40 L) = T at *
                    have HT := Az.mk hT
                    have HN2 := Az.mk hN2
                    have hsz := hM.1.2.size
                    have hlt := Kd.S_lt hM.1.1
                    have hql : Q.length <= 1000000 := by
                      rw [HQ.1, List.length_map, List.length_take]
                      have := HCL.1
                      omega
                    have HQL := Az.mk hql
                    have HS7 := Az.mk (Kd.S_mono (ok' := fun k => w6.heap.size <= k /\ ¬ wq.heap.size <= k) (Kd.S_below (Kd.S_bound hM.1.1) HN2.1.2) (fun k hk => ⟨hk.1, by have := hk.2.2.1; omega⟩))
                    have HM7 : Az ((Kd.slice 40 k40).M wr w6.heap.size (fun k => wq.heap.size <= k) T [Value.slice A21 T.length c21]) := ⟨⟨_, rfl, Kd.R_lower HN2.1.1 hsz⟩⟩
                    have hokp : ∀ k, wq.heap.size <= k -> w6.heap.size <= k /\ some k ≠ (Value.slice Ao Q.length co).ownBlock := fun k hk => ⟨by omega, fun he => by have := hlt k he.symm; omega⟩
                    have HB7 := Az.mk (hM.1.2.trans (HN2.1.2.mono hsz))
                    have hsz7 := HB7.1.size
                    clear hzt hN2 hlt hT hql hsz
                    go_wp2_with ((with_reducible refine gate_builtin (b := .append) (xs := #[.tmp 108, .tmp 110]) rfl ?_); at_builtin; refine Kd.S_append (Kd.slice 40 k40) (w0 := w6) w6.heap.size rfl (.tmp 108) (.tmp 110) 44 38 (.slice none 0 0) 24 rfl Try.underlying44 info38 rfl Nat.zero_lt_one (by omega) (.slice Ao Q.length co) Q T [.slice A21 T.length c21] (fun k => w6.heap.size <= k) (fun k => wq.heap.size <= k) rfl rfl HM7.1 hokp (fun k hk => by omega) HS7.1 HB7.1 hsz7 ?hl ?_)
                    (case hl => have := HQL.1; omega)
                    intro v1 w8 ho hb hg hat
                    have HO8 := Az.mk ho
                    have HB8 := Az.mk hb
                    clear ho hb hg hat hokp hsz7
                    go_wp2
                    go_roundg (gk2 - 1)
                    case measure => have := hka.1; have := HAX.1; omega
                    case rel =>
                      have h1 := hka.1
                      have h2 := HAX.1
                      have h3 := HCL.1
                      have et : (a + 1).toNat = a.toNat + 1 := by omega
                      exact ⟨a + 1, by rw [show wrap64 (a + 1) = a + 1 from by unfold wrap64; omega], ⟨by omega, by omega⟩, ⟨by rw [et, HTC.1, List.map_append, <- HQ.1, List.map_singleton, HT.1]; exact HO8.1, HB8.1⟩⟩
              · have q5 : decide (a < (C.length : Int)) = false := decide_eq_false hac
                have hat : C.take a.toNat = C := List.take_of_length_le (by have := hka.1; omega)
                have hM2 := hM.1
                rw [hat] at hM2
                have HM2 := Az.mk hM2
                have hwb : w.heap.size <= w6.heap.size := HB6.1.size
                have HWB := Az.mk hwb
                clear hat hM2 hM hka0 hac hwb
                go_wp2
                go_ret
                exact ⟨_, rfl, Kd.V_mono (Kd.S_V HM2.1.1) (fun k hk => Nat.le_trans HWB.1 hk), HB6.1.trans (HM2.1.2.mono HWB.1)⟩
          · subst hu
            have hEi := hE i.toNat (by have := hk.1; have := HX.1; omega)
            have HE := Az.mk hE
            clear hE
            have hii : ((i.toNat : Nat) : Int) = i := by have := hk.1; omega
            rw [hii, HMD.1] at hEi
            obtain ⟨ys, hys, hEi⟩ := Option.bind_eq_some_iff.1 hEi
            by_cases hoy : okR ys = true
            case neg => rw [if_neg hoy] at hEi; cases hEi
            rw [if_pos hoy] at hEi
            have HEI : Az (outs L ys = row E i) := ⟨Option.some.inj hEi⟩
            have HYS := Az.mk hys
            have HOY := Az.mk hoy
            clear hEi hys hoy hii
            go_upto_region 15 with fail
            have hB2 := below_alloc (Below.refl wo.heap.size wo) (Obj.cells #[Value.int .i64 m.f0, Value.int .i64 m.f1] 40)
            have hb6 := (MapKept.heap_alloc wo (Obj.cells #[Value.int .i64 m.f0, Value.int .i64 m.f1] 40)).1
            have HS3 := Az.mk (Kd.S_below hI.1.2.1 hB2)
            have HI3 := Az.mk (hI.1.2.2.1.below hB2)
            have HR3 := Az.mk (Kd.R_below hI.1.2.2.2.1 hB2)
            have HB3 := Az.mk (below_step hI.1.2.2.2.2 hB2)
            clear g0 g1 hB2
            generalize wo.alloc (Obj.cells #[Value.int .i64 m.f0, Value.int .i64 m.f1] 40) = w3 at *
            have d0 : w3.cell? ⟨wo.heap.size, 0, none⟩ = some (.int .i64 m.f0) := blk_cell hb6 0
            have d1 : w3.cell? ⟨wo.heap.size, 1, none⟩ = some (.int .i64 m.f1) := blk_cell hb6 1
            clear hb6
            have hnf := eqF
            go_wp2_with (go_at_call 24; refine (lazyclaw09_Uses.calls k m.f0 m.f1 ys _ HYS.1).mono ?_; rintro e w4 ⟨vy, rfl, hRY, hb⟩; obtain ⟨Ay, cy, rfl⟩ := Kd.R_slice hRY; have HRY := Az.mk hRY; have HBY := Az.mk hb; clear hRY hb)
            clear hnf
            have hw3 := HGO.1
            have hyl := okR_len HOY.1
            have HYL := Az.mk hyl
            have HS4 := Az.mk (Kd.S_mono (ok' := fun k => go <= k /\ ¬ (w3.heap.size <= k /\ k < w4.heap.size)) (Kd.S_below (Kd.S_bound HS3.1) HBY.1) (fun k hk => ⟨hk.1, by have := hk.2.2.1; omega⟩))
            have HRY4 := Az.mk (Kd.R_mono (ok' := fun k => w3.heap.size <= k /\ k < w4.heap.size) (Kd.R_bound HRY.1) (fun k hk => ⟨hk.2.1, hk.2.2.1⟩))
            have HI4 := Az.mk (HI3.1.below HBY.1)
            have HR4 := Az.mk (Kd.R_below HR3.1 HBY.1)
            have HB4 := Az.mk (below_step HB3.1 HBY.1)
            have HZ3 : Az (go < w3.heap.size /\ w3.heap.size <= w4.heap.size) := ⟨Kd.S_lt HS3.1 go rfl, HBY.1.size⟩
            have hii : ((i.toNat : Nat) : Int) = i := by have := hk.1; omega
            have hin : i.toNat < L.length := by have := hk.1; have := HX.1; omega
            have HII := Az.mk (And.intro hii hin)
            clear hw3 hyl HS3 HRY HI3 HR3 HB3 HBY d0 d1 hii hin
            go_loopg [64] ys.length (fun kq v64 w' => ∃ (z : Int) (Ed2 : List (List Int)), v64 = .int .i64 z /\ Az (0 <= z /\ z.toNat + kq = ys.length) /\ Az (EdT L.length i.toNat E (outs L (ys.take z.toNat)) Ed2 /\ Kd.S KS 32 w' w.heap.size (fun k => go <= k /\ ¬ (w3.heap.size <= k /\ k < w4.heap.size)) (.slice (some ⟨go, 0, none⟩) L.length L.length) Ed2 /\ IxAt w' w.heap.size L /\ Kd.R k40 40 w' w.heap.size (fun k => w.heap.size < k /\ k < go) (.slice (some ad) L.length c6) L /\ Kd.R k40 40 w' w3.heap.size (fun k => w3.heap.size <= k /\ k < w4.heap.size) (.slice Ay ys.length cy) ys /\ Below w.heap.size w w' /\ w4.heap.size <= w'.heap.size))
            case atStart => exact ⟨0, Ed, rfl, ⟨by decide, by simp⟩, ⟨hI.1.1.start, HS4.1, HI4.1, HR4.1, HRY4.1, HB4.1, Nat.le_refl _⟩⟩
            case round =>
              obtain ⟨z, Ed2, rfl, hk2, hJ⟩ := hrel
              clear HS4 HI4 HR4 HB4 HRY4
              have hk20 := hk2.1.1
              by_cases hz : z < (ys.length : Int)
              · have q3 : decide (z < (ys.length : Int)) = true := decide_eq_true hz
                have HZX := Az.mk hz
                obtain ⟨ad2, had, g2, g3⟩ := at_T40 (Kd.R_reads' hJ.1.2.2.2.2.1).2.2 z hk20 hz
                subst had
                have hmo := outs_more L ys z hk20 hz
                have hmy := okR_mem HOY.1 (mem_rd ys z hk20 hz)
                generalize rd_T40 ys z = y at *
                have HMO := Az.mk hmo
                have HMY := Az.mk hmy
                have p3 := eq_true hk20
                have p4 := eq_true hz
                clear hz hk20 hmo hmy
                go_upto_region 19 with fail
                have hB5 := below_alloc (Below.refl wr.heap.size wr) (Obj.cells #[Value.int .i64 y.f0, Value.int .i64 y.f1] 40)
                have hb7 := (MapKept.heap_alloc wr (Obj.cells #[Value.int .i64 y.f0, Value.int .i64 y.f1] 40)).1
                have HS5 := Az.mk (Kd.S_below hJ.1.2.1 hB5)
                have HI5 := Az.mk (hJ.1.2.2.1.below hB5)
                have HR5 := Az.mk (Kd.R_below hJ.1.2.2.2.1 hB5)
                have HY5 := Az.mk (Kd.R_below hJ.1.2.2.2.2.1 hB5)
                have HB5 := Az.mk (below_step hJ.1.2.2.2.2.2.1 hB5)
                have HZ5 : Az (w4.heap.size <= (wr.alloc (Obj.cells #[Value.int .i64 y.f0, Value.int .i64 y.f1] 40)).heap.size) := ⟨Nat.le_trans hJ.1.2.2.2.2.2.2 hB5.size⟩
                clear hB5 g2 g3
                generalize wr.alloc (Obj.cells #[Value.int .i64 y.f0, Value.int .i64 y.f1] 40) = w5 at *
                have d2 : w5.cell? ⟨wr.heap.size, 0, none⟩ = some (.int .i64 y.f0) := blk_cell hb7 0
                have d3 : w5.cell? ⟨wr.heap.size, 1, none⟩ = some (.int .i64 y.f1) := blk_cell hb7 1
                have hlk := HI5.1.look y HMY.1
                cases hp : posK L y with
                | none =>
                  have hpn : (posK L y).isSome = false := by rw [hp]; rfl
                  rw [hpn] at hlk
                  have hmo := HMO.1
                  rw [hp] at hmo
                  have HMP := Az.mk hmo
                  clear hmo hp hpn hb7
                  go_wp2
                  go_roundg (gk - 1)
                  case measure => have := hk2.1; have := HZX.1; omega
                  case rel =>
                    have h1 := hk2.1
                    have h2 := HZX.1
                    have h3 := HYL.1
                    have et : (z + 1).toNat = z.toNat + 1 := by omega
                    exact ⟨z + 1, Ed2, by rw [show wrap64 (z + 1) = z + 1 from by unfold wrap64; omega], ⟨by omega, by omega⟩, ⟨by rw [et, HMP.1, List.append_nil]; exact hJ.1.1, HS5.1, HI5.1, HR5.1, HY5.1, HB5.1, HZ5.1⟩⟩
                | some p =>
                  have hpn : (posK L y).isSome = true := by rw [hp]; rfl
                  have hpd : posD L y = (p : Int) := by unfold posD; rw [hp]
                  rw [hpn, hpd] at hlk
                  have hmo := HMO.1
                  rw [hp] at hmo
                  have HMP := Az.mk hmo
                  have hi1 := HX.1
                  have hi0 := hk.1.1
                  obtain ⟨v0, oki, x1, x2, x3, x4, x5⟩ := S_upd HS5.1 (fun k hk => by have := HZ5.1; have := HZ3.1; omega) i hi0 hi1
                  have hrw : row Ed2 i = outs L (ys.take z.toNat) := by have := hJ.1.1.row HII.1.2; rwa [HII.1.1] at this
                  have hrl : (row Ed2 i).length <= 1000 := by
                    rw [hrw]
                    refine Nat.le_trans (List.length_filterMap_le ..) ?_
                    rw [List.length_take]
                    have := HYL.1
                    omega
                  have HRW := Az.mk hrw
                  have X3 := Az.mk (Kd.R_mono (ok' := fun k => oki k \/ w5.heap.size <= k) x3 (fun k hk => .inl hk))
                  have X4 := Az.mk x4
                  have X5 := Az.mk (@x5)
                  have X6 := Az.mk x3
                  have X2 := Az.mk x2
                  have q9 := eq_true hi0
                  have q10 := eq_true hi1
                  clear x2 x3 x4 x5 hmo hp hpn hpd hb7 hi1 hi0 hrw
                  go_wp2_with ((with_reducible refine gate_builtin (b := .append) (xs := #[.tmp 80, .tmp 82]) rfl ?_); at_builtin; refine Kd.R_append (Kd.int .i64) (w0 := w) w.heap.size rfl (.tmp 80) (.tmp 82) 32 3 (.int .i64 0) 8 rfl Try.underlying32 info3 rfl (by decide) (by omega) v0 (row Ed2 i) (p : Int) [.int .i64 (p : Int)] (fun k => oki k \/ w5.heap.size <= k) (fun _ => False) rfl rfl rfl (fun _ hk => hk.elim) (fun k hk => .inr hk) X3.1 HB5.1 HB5.1.size ?hl ?_)
                  (case hl => omega)
                  intro v1 w6 ho hb hg hat
                  obtain ⟨A9, q9c, rfl⟩ := Kd.R_slice ho
                  have hown : ∀ k, v0.ownBlock = some k -> (go <= k /\ ¬ (w3.heap.size <= k /\ k < w4.heap.size)) /\ k ≠ go := fun k hk => X4.1 k (X6.1.1 k hk)
                  have hgl : go < w5.heap.size := Kd.S_lt HS5.1 go rfl
                  have hne9 : some go ≠ v0.ownBlock := fun e => (hown _ e.symm).2 rfl
                  have k2 : w6.cell? ⟨go, i.toNat, none⟩ = some v0 := (World.cell?_of_block (hg.block go hgl hne9)).trans x1
                  have k3 : w6.frozen? ⟨go, i.toNat, none⟩ = false := (World.frozen?_of_block (hg.block go hgl hne9)).trans X2.1
                  have HI6 := Az.mk (HI5.1.kept hg (fun e => by have := (hown _ e.symm).1.1; have := HGO.1; omega))
                  have HR6 := Az.mk (Kd.R_grown HR5.1 hg (fun k hk e => by have := (hown k e.symm).1.1; omega))
                  have HY6 := Az.mk (Kd.R_grown HY5.1 hg (fun k hk e => (hown k e.symm).1.2 hk))
                  have HG6 := Az.mk hg
                  have HO6 := Az.mk ho
                  have HB6 := Az.mk hb
                  clear ho hb hg hat hown hne9 x1 d2 d3
                  go_wp2
                  have e9 : (row Ed2 i ++ [(p : Int)]).length = (row Ed2 i).length + 1 := by simp
                  obtain ⟨S7, g7⟩ := X5.1 w6 _ _ HG6.1 HO6.1
                  rw [e9] at S7 g7
                  have HS7 := Az.mk S7
                  have HG7 := Az.mk g7
                  clear S7 g7 e9 k2 k3
                  go_roundg (gk - 1)
                  case measure => have := hk2.1; have := HZX.1; omega
                  case rel =>
                    have h1 := hk2.1
                    have h2 := HZX.1
                    have h3 := HYL.1
                    have h4 := HGO.1
                    have h5 := HG6.1.size
                    have h6 := HG7.1.size
                    have h7 := HZ5.1
                    have et : (z + 1).toNat = z.toNat + 1 := by omega
                    have hed := EdT.put (T' := row Ed2 i ++ [(p : Int)]) hJ.1.1 HII.1.2
                    have hout : row Ed2 i ++ [(p : Int)] = outs L (ys.take (z + 1).toNat) := by rw [HRW.1, et, HMP.1]
                    have HS8 := HS7.1
                    rw [hout] at hed HS8
                    exact ⟨z + 1, _, by rw [show wrap64 (z + 1) = z + 1 from by unfold wrap64; omega], ⟨by omega, by omega⟩, ⟨hed, HS8, HI6.1.kept HG7.1 (fun e => by injection e with e; omega), Kd.R_grown HR6.1 HG7.1 (fun k hk e => by injection e with e; omega), Kd.R_grown HY6.1 HG7.1 (fun k hk e => by injection e with e; have := HZ3.1; omega), HB6.1.grown HG7.1 HB6.1.size (fun k hk => by injection hk with hk; omega), by omega⟩⟩
              · have q3 : decide (z < (ys.length : Int)) = false := decide_eq_false hz
                have hyt : ys.take z.toNat = ys := List.take_of_length_le (by have := hk2.1; omega)
                have hJ2 := hJ.1
                rw [hyt] at hJ2
                have HJ2 := Az.mk hJ2
                clear hyt hJ2 hz hk20 hJ
                go_wp2
                go_roundg (gk1 - 1)
                case measure => have := hk.1; have := HX.1; omega
                case rel =>
                  have h1 := hk.1
                  have h2 := HX.1
                  have h3 := HLL.1
                  have et : (i + 1).toNat = i.toNat + 1 := by omega
                  have hed := HJ2.1.1.done (by rw [HEI.1, HII.1.1])
                  exact ⟨i + 1, Ed2, by rw [show wrap64 (i + 1) = i + 1 from by unfold wrap64; omega], ⟨by omega, by omega⟩, ⟨by rw [et]; exact hed, Kd.S_mono HJ2.1.2.1 (fun k hk => hk.1), HJ2.1.2.2.1, HJ2.1.2.2.2.1, HJ2.1.2.2.2.2.2.1⟩⟩
        · have q1 : decide (i < (L.length : Int)) = false := decide_eq_false hi
          have hee := hI.1.1.all HUZ.1.1 (by have := hk.1; omega)
          have HS3 := Az.mk hI.1.2.1
          rw [hee] at HS3
          have HR3 := Az.mk hI.1.2.2.2.1
          have HB3 := Az.mk hI.1.2.2.2.2
          clear hee hI hk hk0 hi
          generalize wo = w5 at *
          go_upto_region 25 with fail
          have hcall := graph_ordered.calls (some ⟨go, 0, none⟩) L.length E C w5 (Kd.S_reads' HS3.1).2.2 (Nat.le_of_eq HUZ.1.1) HCC.1
          rw [HUZ.1.1] at hcall
          have hnc := (Kd.R_reads' HR3.1).2.2
          have HNC := Az.mk hnc
          clear hnc
          try clear hnf
          go_wp2_with (go_at_call 28; refine hcall.mono ?_; rintro e w6 ⟨vc, rfl, hV, hb⟩; obtain ⟨Ac, cc, rfl⟩ := Kd.V_slice hV; have HVC := Az.mk (Kd.V_reads' hV).2.2; have HNC6 := Az.mk (Kd.C_below HNC.1 hb); have HB6 := Az.mk (below_step HB3.1 hb); clear hV hb)
          clear hcall HNC HB3 HS3 HR3
          have hcl := okC_len HOC.1
          have HCL := Az.mk hcl
          clear hcl
          go_loopg [18, 90] C.length (fun kq v18 v90 w' => ∃ (a : Int), v90 = .int .i64 a /\ Az (0 <= a /\ a.toNat + kq = C.length) /\ Az (Kd.S (Kd.slice 40 k40) 38 w' w6.heap.size (fun k => w6.heap.size <= k) v18 ((C.take a.toNat).map (fun c => c.map (rd_T40 L))) /\ Below w6.heap.size w6 w'))
          case atStart => exact ⟨0, rfl, ⟨by decide, by simp⟩, ⟨Kd.S_nil _ _ _ _ _, Below.refl _ _⟩⟩
          case round =>
            obtain ⟨a, rfl, hka, hM⟩ := hrel
            have hka0 := hka.1.1
            obtain ⟨gk2, rfl⟩ : ∃ g, g = gk := ⟨_, rfl⟩
            obtain ⟨wq, rfl⟩ : ∃ wq, wq = wr := ⟨_, rfl⟩
            by_cases hac : a < (C.length : Int)
            · have q5 : decide (a < (C.length : Int)) = true := decide_eq_true hac
              have HAX := Az.mk hac
              obtain ⟨ad3, A3, c3, rfl, g4, g5, g6⟩ := at_L1 HVC.1 a hka0 hac
              have g4 := (hM.1.2.cell (World.block_lt_of_cell? _ _ g4)).trans g4
              have hcr := okC_row HOC.1 a hka0 hac
              have htc := take_C C a hka0 hac
              generalize rd_L1 C a = rw1 at *
              have HCR := Az.mk hcr
              have HTC := Az.mk htc
              have HC3 := Az.mk (Kd.C_below g6 hM.1.2)
              have p5 := eq_true hka0
              have p6 := eq_true hac
              obtain ⟨Q, hQ⟩ : ∃ Q, Q = (C.take a.toNat).map (fun c => c.map (rd_T40 L)) := ⟨_, rfl⟩
              rw [<- hQ] at hM
              have HQ := Az.mk hQ
              clear hQ
              obtain ⟨Ao, co, rfl⟩ := Kd.S_slice hM.1.1
              clear hcr htc g5 g6 hka0 hac
              go_wp2
              clear g4
              go_loopg [21, 96] rw1.length (fun kq v21 v96 w' => ∃ (z : Int), v96 = .int .i64 z /\ Az (0 <= z /\ z.toNat + kq = rw1.length) /\ Az (Kd.R k40 40 w' wq.heap.size (fun k => wq.heap.size <= k) v21 ((rw1.take z.toNat).map (rd_T40 L)) /\ Below wq.heap.size wq w'))
              case atStart => exact ⟨0, rfl, ⟨by decide, by simp⟩, ⟨Kd.R_nil _ _ _ _ _, Below.refl _ _⟩⟩
              case round =>
                obtain ⟨z, rfl, hkz, hN⟩ := hrel
                have hkz0 := hkz.1.1
                by_cases hz : z < (rw1.length : Int)
                · have q6 : decide (z < (rw1.length : Int)) = true := decide_eq_true hz
                  have HZX := Az.mk hz
                  obtain ⟨ad4, had4, y0⟩ := Kd.at_int (Kd.C_below HC3.1 hN.1.2) z hkz0 hz
                  cases had4
                  obtain ⟨hti, hmi⟩ := take_I rw1 z hkz0 hz
                  have hdd := HCR.1.2 _ hmi
                  generalize Go.Proofs.Yw.A.rd rw1 z = d at *
                  obtain ⟨ad5, had5, n0, n1⟩ := at_T40 (Kd.C_below (Kd.C_below HNC6.1 hM.1.2) hN.1.2) d hdd.1 hdd.2
                  cases had5
                  have HTI := Az.mk hti
                  generalize hmd2 : rd_T40 L d = m2 at *
                  have HMD2 := Az.mk hmd2
                  have p7 := eq_true hkz0
                  have p8 := eq_true hz
                  have p9 := eq_true hdd.1
                  have p10 := eq_true hdd.2
                  obtain ⟨A21, c21, rfl⟩ := Kd.R_slice hN.1.1
                  have hrl : ((rw1.take z.toNat).map (rd_T40 L)).length <= 1000000 := by
                    rw [List.length_map, List.length_take]
                    have := HCR.1.1
                    omega
                  have HRL2 := Az.mk hrl
                  generalize hT : (rw1.take z.toNat).map (rd_T40 L) = T at *
                  have HT := Az.mk hT
                  clear hT hrl hti hmi hdd hmd2 hz hkz0
                  go_wp2_with ((with_reducible refine gate_builtin (b := .append) (xs := #[.tmp 100, .tmp 105]) rfl ?_); at_builtin; refine Kd.R_append k40 (w0 := wq) wq.heap.size rfl (.tmp 100) (.tmp 105) 38 40 (.agg #[(.int .i64 0), (.int .i64 0)]) 16 rfl Try.underlying38 info40 rfl (by decide) (by omega) (.slice A21 T.length c21) T m2 [.int .i64 m2.f0, .int .i64 m2.f1] (fun k => wq.heap.size <= k) (fun _ => False) rfl rfl (k40_mkM _ _ _ m2) (fun _ hk => hk.elim) (fun k hk => Nat.le_trans hN.1.2.size hk) hN.1.1 hN.1.2 hN.1.2.size ?hl ?_)
                  (case hl => have := HRL2.1; omega)
                  intro v1 w7 ho hb hg hat
                  have HO7 := Az.mk ho
                  have HB7 := Az.mk hb
                  clear ho hb hg hat y0 n0 n1
                  go_wp2
                  go_roundg (gk - 1)
                  case measure => have := hkz.1; have := HZX.1; omega
                  case rel =>
                    have h1 := hkz.1
                    have h2 := HZX.1
                    have h3 := HCR.1.1
                    have et : (z + 1).toNat = z.toNat + 1 := by omega
                    exact ⟨z + 1, by rw [show wrap64 (z + 1) = z + 1 from by unfold wrap64; omega], ⟨by omega, by omega⟩, ⟨by rw [et, HTI.1, List.map_append, HT.1, List.map_singleton, HMD2.1]; exact HO7.1, HB7.1⟩⟩
                · have q6 : decide (z < (rw1.length : Int)) = false := decide_eq_false hz
                  have hzt : rw1.take z.toNat = rw1 := List.take_of_length_le (by have := hkz.1; omega)
                  have hN2 := hN.1
                  rw [hzt] at hN2
                  obtain ⟨A21, c21, rfl⟩ := Kd.R_slice hN2.1
                  generalize hT : rw1.map (rd_T40 L) = T at *
                  have HT := Az.mk hT
                  have HN2 := Az.mk hN2
                  have hsz := hM.1.2.size
                  have hlt := Kd.S_lt hM.1.1
                  have hql : Q.length <= 1000000 := by
                    rw [HQ.1, List.length_map, List.length_take]
                    have := HCL.1
                    omega
                  have HQL := Az.mk hql
                  have HS7 := Az.mk (Kd.S_mono (ok' := fun k => w6.heap.size <= k /\ ¬ wq.heap.size <= k) (Kd.S_below (Kd.S_bound hM.1.1) HN2.1.2) (fun k hk => ⟨hk.1, by have := hk.2.2.1; omega⟩))
                  have HM7 : Az ((Kd.slice 40 k40).M wr w6.heap.size (fun k => wq.heap.size <= k) T [Value.slice A21 T.length c21]) := ⟨⟨_, rfl, Kd.R_lower HN2.1.1 hsz⟩⟩
                  have hokp : ∀ k, wq.heap.size <= k -> w6.heap.size <= k /\ some k ≠ (Value.slice Ao Q.length co).ownBlock := fun k hk => ⟨by omega, fun he => by have := hlt k he.symm; omega⟩
                  have HB7 := Az.mk (hM.1.2.trans (HN2.1.2.mono hsz))
                  have hsz7 := HB7.1.size
                  clear hzt hN2 hlt hT hql hsz
                  go_wp2_with ((with_reducible refine gate_builtin (b := .append) (xs := #[.tmp 108, .tmp 110]) rfl ?_); at_builtin; refine Kd.S_append (Kd.slice 40 k40) (w0 := w6) w6.heap.size rfl (.tmp 108) (.tmp 110) 44 38 (.slice none 0 0) 24 rfl Try.underlying44 info38 rfl Nat.zero_lt_one (by omega) (.slice Ao Q.length co) Q T [.slice A21 T.length c21] (fun k => w6.heap.size <= k) (fun k => wq.heap.size <= k) rfl rfl HM7.1 hokp (fun k hk => by omega) HS7.1 HB7.1 hsz7 ?hl ?_)
                  (case hl => have := HQL.1; omega)
                  intro v1 w8 ho hb hg hat
                  have HO8 := Az.mk ho
                  have HB8 := Az.mk hb
                  clear ho hb hg hat hokp hsz7
                  go_wp2
                  go_roundg (gk2 - 1)
                  case measure => have := hka.1; have := HAX.1; omega
                  case rel =>
                    have h1 := hka.1
                    have h2 := HAX.1
                    have h3 := HCL.1
                    have et : (a + 1).toNat = a.toNat + 1 := by omega
                    exact ⟨a + 1, by rw [show wrap64 (a + 1) = a + 1 from by unfold wrap64; omega], ⟨by omega, by omega⟩, ⟨by rw [et, HTC.1, List.map_append, <- HQ.1, List.map_singleton, HT.1]; exact HO8.1, HB8.1⟩⟩
            · have q5 : decide (a < (C.length : Int)) = false := decide_eq_false hac
              have hat : C.take a.toNat = C := List.take_of_length_le (by have := hka.1; omega)
              have hM2 := hM.1
              rw [hat] at hM2
              have HM2 := Az.mk hM2
              have hwb : w.heap.size <= w6.heap.size := HB6.1.size
              have HWB := Az.mk hwb
              clear hat hM2 hM hka0 hac hwb
              go_wp2
              go_ret
              exact ⟨_, rfl, Kd.V_mono (Kd.S_V HM2.1.1) (fun k hk => Nat.le_trans HWB.1 hk), HB6.1.trans (HM2.1.2.mono HWB.1)⟩
end Gp
end Go.Proofs.Ytpmjpngmmphkmaa
namespace Go.Proofs.Ytpmjpngmmphkmaa
open Go.RowKit Go.Proofs.Yw.A Go.Proofs.Yw.B Go.Proofs.Yw.C Go.Proofs.Ytpmjpngmmphkmaa.P
namespace Gp
theorem mapM_get {α β : Type} {f : α -> Option β} : ∀ {L : List α} {E : List β}, L.mapM f = some E -> E.length = L.length /\ ∀ (i : Nat) (x : α), L[i]? = some x -> ∃ y, f x = some y /\ E[i]? = some y := by
 intro L
 induction L with
 | nil => intro E h; simp at h; subst h; simp
 | cons a L ih =>
  intro E h
  rw [List.mapM_cons] at h
  obtain ⟨b, hb, h⟩ := Option.bind_eq_some_iff.1 h
  obtain ⟨E', hE, h⟩ := Option.bind_eq_some_iff.1 h
  obtain rfl := Option.some.inj h
  obtain ⟨h1, h2⟩ := ih hE
  refine ⟨by simp [h1], fun i x hx => ?_⟩
  cases i with
  | zero => simp at hx; subst hx; exact ⟨b, hb, rfl⟩
  | succ i => simpa using h2 i x (by simpa using hx)
theorem told_some {L : List S40} {E : List (List Int)} {r : List (List S40)} (h : told L E = some r) : ∃ C, graph_ordered.f E = some C /\ okC L.length C = true /\ r = C.map (fun c => c.map (rd_T40 L)) := by
 obtain ⟨C, hC, h⟩ := Option.bind_eq_some_iff.1 h
 by_cases hc : okC L.length C = true
 rotate_left
 · rw [if_neg hc] at h; cases h
 rw [if_pos hc] at h
 exact ⟨C, hC, hc, (Option.some.inj h).symm⟩
end Gp
namespace P
open Gp
noncomputable def graph_Group_Uses.f (l : List S40) : Option (List (List S40)) := Od.lim fun k => groupF k l
noncomputable def graph_Group_nil.f (l : List S40) : Option (List (List S40)) := groupN l
theorem graph_Group_Uses.calls (A0 : Option Addr) (c0 : Nat) (l0 : List S40) (r : List (List S40)) (w : World) (hr0 : Kd.C k40 w A0 l0.length l0) (hc0 : l0.length <= c0) (h : graph_Group_Uses.f l0 = some r) :
 Calls Try.prog 26 #[.slice A0 l0.length c0, .func (.func 24) #[] #[]] w fun e w' => ∃ v0_, e = .returned v0_ /\ Kd.V (Kd.slice 40 k40) 38 w' w.heap.size (fun k_ => w.heap.size <= k_) v0_ r /\ Below w.heap.size w w' := by
 obtain ⟨k0, h0⟩ := Od.lim_some h
 have h1 := h0 k0 (Nat.le_refl _)
 unfold groupF at h1
 by_cases hok : okR l0 = true
 rotate_left
 · rw [if_neg hok] at h1; cases h1
 rw [if_pos hok] at h1
 obtain ⟨E, hE, h1⟩ := Option.bind_eq_some_iff.1 h1
 obtain ⟨C, hC, hc, rfl⟩ := told_some h1
 obtain ⟨g1, g2⟩ := mapM_get hE
 refine group_walk k0 _ A0 c0 l0 E C w hr0 hc0 hok ⟨g1, .inr ⟨rfl, fun i hi => ?_⟩⟩ hC hc
 obtain ⟨y, hy, he⟩ := g2 i _ (List.getElem?_eq_getElem hi)
 have e1 : rd_T40 (firsts l0) (i : Int) = (firsts l0)[i] := by simp [rd_T40, List.getD_eq_getElem?_getD, List.getElem?_eq_getElem hi]
 have e2 : Tj.row E (i : Int) = y := by simp [Tj.row, List.getD_eq_getElem?_getD, he]
 rw [e1, e2, hy]
theorem graph_Group_nil.calls (A0 : Option Addr) (c0 : Nat) (l0 : List S40) (r : List (List S40)) (w : World) (hr0 : Kd.C k40 w A0 l0.length l0) (hc0 : l0.length <= c0) (h : graph_Group_nil.f l0 = some r) :
 Calls Try.prog 26 #[.slice A0 l0.length c0, .nilFunc] w fun e w' => ∃ v0_, e = .returned v0_ /\ Kd.V (Kd.slice 40 k40) 38 w' w.heap.size (fun k_ => w.heap.size <= k_) v0_ r /\ Below w.heap.size w w' := by
 have h1 : groupN l0 = some r := h
 unfold groupN at h1
 by_cases hok : okR l0 = true
 rotate_left
 · rw [if_neg hok] at h1; cases h1
 rw [if_pos hok] at h1
 obtain ⟨C, hC, hc, rfl⟩ := told_some h1
 refine group_walk 0 _ A0 c0 l0 _ C w hr0 hc0 hok ⟨List.length_replicate .., .inl ⟨rfl, fun i => ?_⟩⟩ hC hc
 unfold Tj.row
 rw [List.getD_eq_getElem?_getD]
 by_cases hi : i.toNat < (firsts l0).length
 · rw [List.getElem?_replicate_of_lt hi]; rfl
 rw [List.getElem?_eq_none (by rw [List.length_replicate]; omega)]; rfl
end P
end Go.Proofs.Ytpmjpngmmphkmaa
namespace Go.Proofs.Ytpmjpngmmphkmaa.P
open Go.RowKit Go.Proofs.Yw.A Go.Proofs.Yw.B Go.Proofs.Yw.C
theorem resay_ {P : Program} {md : Region.Mode} {ops : Array Oper} {Q : Exit -> Act -> World -> Prop} {S S2 : World -> Prop} : ∀ {fuel : Nat} {l : Array Bool} {a : Act} {w : World},
    S2 w -> (∀ w, S2 w -> S w) -> wpAnyLast P md ops Q S2 [] fuel l a w -> wpAnyLast P md ops Q S [] fuel l a w
  | 0, _, _, _, _, _, h => h
  | _ + 1, _, _, _, h2, hi, h => ⟨h.1, fun i hm => wpOp_mono (fun _ _ h' => ⟨fun hn _ => hi _ (h'.1 hn h2), resay_ (h'.1 (by simp) h2) hi h'.2⟩) (h.2 i hm)⟩
end Go.Proofs.Ytpmjpngmmphkmaa.P
namespace Go.Proofs.Ytpmjpngmmphkmaa.P
open Go.RowKit Go.Proofs.Yw.A Go.Proofs.Yw.A.Kd Go.Proofs.Yw.B Go.Proofs.Yw.C
attribute [local go_sem] max2_int min2_int max_two min_two max_three min_three max_four min_four
noncomputable def lazycref09_SameInts.l0 : Nat -> List Int -> List Int -> Int -> Option (Bool)
 | 0, _, _, _ => none
 | k + 1, x0, x1, x5 => if x5 < (x0.length : Int) then (if 0 <= x5 then (if x5 < (x1.length : Int) then (if (rd x0 x5) = (rd x1 x5) then (lazycref09_SameInts.l0 k x0 x1 (wrap64 (x5 + 1))) else (some false)) else (none)) else (none)) else (some true)
noncomputable def lazycref09_SameInts.f (k : Nat) (l0 : List Int) (l1 : List Int) : Option (Bool) := if (l0.length : Int) = (l1.length : Int) then (lazycref09_SameInts.l0 k l0 l1 0) else (some false)
theorem lazycref09_SameInts.calls (k : Nat) (A0 : Option Addr) (c0 : Nat) (l0 : List Int) (A1 : Option Addr) (c1 : Nat) (l1 : List Int) (r : Bool) (w : World) (hr0 : Kd.C (Kd.int .i64) w A0 l0.length l0) (hc0 : l0.length <= c0) (hr1 : Kd.C (Kd.int .i64) w A1 l1.length l1) (hc1 : l1.length <= c1) (h : lazycref09_SameInts.f k l0 l1 = some r) :
 Calls Try.prog 17 #[.slice A0 l0.length c0, .slice A1 l1.length c1] w fun e w' => e = .returned (.bool r) /\ Drawn0 w w' := by
 have HR0 := aM hr0
 have HC0 := aM hc0
 clear hr0 hc0
 have HR1 := aM hr1
 have HC1 := aM hc1
 clear hr1 hc1
 have H : (if (l0.length : Int) = (l1.length : Int) then (lazycref09_SameInts.l0 k l0 l1 0) else (some false)) = some r := h
 clear h
 by_cases c3 : (l0.length : Int) = (l1.length : Int)
 rotate_left
 · rw [if_neg c3] at H
   have c3b0 : ((l0.length : Int) == (l1.length : Int)) = false := beq_eq_false_iff_ne.mpr c3
   have c3b1 : ((l0.length : Int) != (l1.length : Int)) = true := bne_iff_ne.mpr c3
   have c3b2 : (l0.length == l1.length) = false := by first | simpa using c3 | (simp at c3 ⊢; omega)
   obtain rfl := Option.some.inj H
   go_enter Try.func17, Try.ntmps17
   go_wp2
   repeat (go_quiet (fail); try go_wp2)
   go_ret
   exact ⟨by first | rfl | (simp; done) | (simp [*]; done), by repeat (first | exact Drawn0.refl _ | apply Drawn0.step)⟩
 rw [if_pos c3] at H
 have c3b0 : ((l0.length : Int) == (l1.length : Int)) = true := beq_iff_eq.mpr c3
 have c3b1 : ((l0.length : Int) != (l1.length : Int)) = false := bne_eq_false_iff_eq.mpr c3
 have c3b2 : (l0.length == l1.length) = true := by first | simpa using c3 | (simp at c3 ⊢; omega)
 clear c3
 have H' := aM H
 clear H
 go_enter Try.func17, Try.ntmps17
 go_wp2
 repeat (go_quiet (fail); try go_wp2)
 go_loopg [5] k (fun kq v5 w' => ∃ (x5_1 : Int), v5 = .int .i64 x5_1 /\ Az (lazycref09_SameInts.l0 kq l0 l1 x5_1 = some r) /\ Az (kq <= k) /\ Drawn0 w w')
 case atStart => exact ⟨(0), (by first | rfl | (simp; done) | (simp [*]; done)), H', ⟨Nat.le_refl _⟩, by repeat (first | exact Drawn0.refl _ | apply Drawn0.step)⟩
 case round =>
  clear H'
  try clear c1
  try clear p2
  try clear c3
  try clear c3b0
  try clear c3b1
  try clear c3b2
  obtain ⟨x5_1, rfl, HA, HK1, ⟨m1, rfl⟩⟩ := hrel
  cases gk with
  | zero => exact absurd HA.1 (by simp [lazycref09_SameInts.l0])
  | succ k1 =>
   have H := HA.1
   clear HA
   simp only [lazycref09_SameInts.l0] at H
   by_cases c4 : x5_1 < (l0.length : Int)
   rotate_left
   · rw [if_neg c4] at H
     have c4b0 : decide (x5_1 < (l0.length : Int)) = false := decide_eq_false c4
     clear c4
     obtain rfl := Option.some.inj H
     go_wp2
     repeat (go_quiet (fail); try go_wp2)
     go_ret
     exact ⟨by first | rfl | (simp; done) | (simp [*]; done), by repeat (first | exact Drawn0.refl _ | apply Drawn0.step)⟩
   rw [if_pos c4] at H
   have c4b0 : decide (x5_1 < (l0.length : Int)) = true := decide_eq_true c4
   clear c4
   by_cases c5 : 0 <= x5_1
   rotate_left
   · rw [if_neg c5] at H
     exact absurd H (by simp)
   rw [if_pos c5] at H
   have c5b0 : decide (0 <= x5_1) = true := decide_eq_true c5
   clear c5
   by_cases c6 : x5_1 < (l1.length : Int)
   rotate_left
   · rw [if_neg c6] at H
     exact absurd H (by simp)
   rw [if_pos c6] at H
   have c6b0 : decide (x5_1 < (l1.length : Int)) = true := decide_eq_true c6
   clear c6
   by_cases c7 : (rd l0 x5_1) = (rd l1 x5_1)
   rotate_left
   · rw [if_neg c7] at H
     have c7b0 : ((rd l0 x5_1) == (rd l1 x5_1)) = false := beq_eq_false_iff_ne.mpr c7
     have c7b1 : ((rd l0 x5_1) != (rd l1 x5_1)) = true := bne_iff_ne.mpr c7
     obtain rfl := Option.some.inj H
     have p103 : 0 <= (x5_1 : Int) := of_decide_eq_true (by first | (with_reducible assumption) | assumption)
     have q103 : x5_1 < (l0.length : Int) := of_decide_eq_true (by first | (with_reducible assumption) | assumption)
     obtain ⟨ad103, e103, hx103_0⟩ := Kd.at_int HR0.1 x5_1 p103 q103
     cases e103
     replace p103 := eq_true p103
     replace q103 := eq_true q103
     have p104 : 0 <= (x5_1 : Int) := of_decide_eq_true (by first | (with_reducible assumption) | assumption)
     have q104 : x5_1 < (l1.length : Int) := of_decide_eq_true (by first | (with_reducible assumption) | assumption)
     obtain ⟨ad104, e104, hx104_0⟩ := Kd.at_int HR1.1 x5_1 p104 q104
     cases e104
     replace p104 := eq_true p104
     replace q104 := eq_true q104
     go_wp2
     repeat (go_quiet (fail); try go_wp2)
     go_ret
     exact ⟨by first | rfl | (simp; done) | (simp [*]; done), by repeat (first | exact Drawn0.refl _ | apply Drawn0.step)⟩
   rw [if_pos c7] at H
   have c7b0 : ((rd l0 x5_1) == (rd l1 x5_1)) = true := beq_iff_eq.mpr c7
   have c7b1 : ((rd l0 x5_1) != (rd l1 x5_1)) = false := bne_eq_false_iff_eq.mpr c7
   clear c7
   have H' := aM H
   clear H
   have p103 : 0 <= (x5_1 : Int) := of_decide_eq_true (by first | (with_reducible assumption) | assumption)
   have q103 : x5_1 < (l0.length : Int) := of_decide_eq_true (by first | (with_reducible assumption) | assumption)
   obtain ⟨ad103, e103, hx103_0⟩ := Kd.at_int HR0.1 x5_1 p103 q103
   cases e103
   replace p103 := eq_true p103
   replace q103 := eq_true q103
   have p104 : 0 <= (x5_1 : Int) := of_decide_eq_true (by first | (with_reducible assumption) | assumption)
   have q104 : x5_1 < (l1.length : Int) := of_decide_eq_true (by first | (with_reducible assumption) | assumption)
   obtain ⟨ad104, e104, hx104_0⟩ := Kd.at_int HR1.1 x5_1 p104 q104
   cases e104
   replace p104 := eq_true p104
   replace q104 := eq_true q104
   go_wp2
   repeat (go_quiet (fail); try go_wp2)
   go_roundg k1
   case measure => have := HK1.1; omega
   case rel => exact ⟨(wrap64 (x5_1 + 1)), (by first | rfl | (simp; done) | (simp [*]; done)), H', ⟨by have := HK1.1; omega⟩, by repeat (first | exact Drawn0.refl _ | apply Drawn0.step)⟩
noncomputable def lazycref09_Same.l0 : Nat -> List (List Int) -> List (List Int) -> Int -> Option (Bool)
 | 0, _, _, _ => none
 | k + 1, x0, x1, x5 => if x5 < (x0.length : Int) then (if 0 <= x5 then (if x5 < (x1.length : Int) then ((lazycref09_SameInts.f k (rd_L1 x0 x5) (rd_L1 x1 x5)).bind fun t107 => (if t107 = true then (lazycref09_Same.l0 k x0 x1 (wrap64 (x5 + 1))) else (some false))) else (none)) else (none)) else (some true)
noncomputable def lazycref09_Same.f (k : Nat) (l0 : List (List Int)) (l1 : List (List Int)) : Option (Bool) := if (l0.length : Int) = (l1.length : Int) then (lazycref09_Same.l0 k l0 l1 0) else (some false)
theorem lazycref09_Same.calls (k : Nat) (A0 : Option Addr) (c0 : Nat) (l0 : List (List Int)) (A1 : Option Addr) (c1 : Nat) (l1 : List (List Int)) (r : Bool) (w : World) (hr0 : Kd.C (Kd.slice 3 (Kd.int .i64)) w A0 l0.length l0) (hc0 : l0.length <= c0) (hr1 : Kd.C (Kd.slice 3 (Kd.int .i64)) w A1 l1.length l1) (hc1 : l1.length <= c1) (h : lazycref09_Same.f k l0 l1 = some r) :
 Calls Try.prog 11 #[.slice A0 l0.length c0, .slice A1 l1.length c1] w fun e w' => e = .returned (.bool r) /\ Drawn0 w w' := by
 have HR0 := aM hr0
 have HC0 := aM hc0
 clear hr0 hc0
 have HR1 := aM hr1
 have HC1 := aM hc1
 clear hr1 hc1
 have H : (if (l0.length : Int) = (l1.length : Int) then (lazycref09_Same.l0 k l0 l1 0) else (some false)) = some r := h
 clear h
 by_cases c3 : (l0.length : Int) = (l1.length : Int)
 rotate_left
 · rw [if_neg c3] at H
   have c3b0 : ((l0.length : Int) == (l1.length : Int)) = false := beq_eq_false_iff_ne.mpr c3
   have c3b1 : ((l0.length : Int) != (l1.length : Int)) = true := bne_iff_ne.mpr c3
   have c3b2 : (l0.length == l1.length) = false := by first | simpa using c3 | (simp at c3 ⊢; omega)
   obtain rfl := Option.some.inj H
   go_enter Try.func11, Try.ntmps11
   go_wp2
   repeat (go_quiet (fail); try go_wp2)
   go_ret
   exact ⟨by first | rfl | (simp; done) | (simp [*]; done), by repeat (first | exact Drawn0.refl _ | apply Drawn0.step)⟩
 rw [if_pos c3] at H
 have c3b0 : ((l0.length : Int) == (l1.length : Int)) = true := beq_iff_eq.mpr c3
 have c3b1 : ((l0.length : Int) != (l1.length : Int)) = false := bne_eq_false_iff_eq.mpr c3
 have c3b2 : (l0.length == l1.length) = true := by first | simpa using c3 | (simp at c3 ⊢; omega)
 clear c3
 have H' := aM H
 clear H
 go_enter Try.func11, Try.ntmps11
 go_wp2
 repeat (go_quiet (fail); try go_wp2)
 go_loopg [5] k (fun kq v5 w' => ∃ (x5_1 : Int), v5 = .int .i64 x5_1 /\ Az (lazycref09_Same.l0 kq l0 l1 x5_1 = some r) /\ Az (kq <= k) /\ Drawn0 w w')
 case atStart => exact ⟨(0), (by first | rfl | (simp; done) | (simp [*]; done)), H', ⟨Nat.le_refl _⟩, by repeat (first | exact Drawn0.refl _ | apply Drawn0.step)⟩
 case round =>
  clear H'
  try clear c1
  try clear p2
  try clear c3
  try clear c3b0
  try clear c3b1
  try clear c3b2
  obtain ⟨x5_1, rfl, HA, HK1, ⟨m1, rfl⟩⟩ := hrel
  cases gk with
  | zero => exact absurd HA.1 (by simp [lazycref09_Same.l0])
  | succ k1 =>
   have H := HA.1
   clear HA
   simp only [lazycref09_Same.l0] at H
   by_cases c4 : x5_1 < (l0.length : Int)
   rotate_left
   · rw [if_neg c4] at H
     have c4b0 : decide (x5_1 < (l0.length : Int)) = false := decide_eq_false c4
     clear c4
     obtain rfl := Option.some.inj H
     go_wp2
     repeat (go_quiet (fail); try go_wp2)
     go_ret
     exact ⟨by first | rfl | (simp; done) | (simp [*]; done), by repeat (first | exact Drawn0.refl _ | apply Drawn0.step)⟩
   rw [if_pos c4] at H
   have c4b0 : decide (x5_1 < (l0.length : Int)) = true := decide_eq_true c4
   clear c4
   by_cases c5 : 0 <= x5_1
   rotate_left
   · rw [if_neg c5] at H
     exact absurd H (by simp)
   rw [if_pos c5] at H
   have c5b0 : decide (0 <= x5_1) = true := decide_eq_true c5
   clear c5
   by_cases c6 : x5_1 < (l1.length : Int)
   rotate_left
   · rw [if_neg c6] at H
     exact absurd H (by simp)
   rw [if_pos c6] at H
   have c6b0 : decide (x5_1 < (l1.length : Int)) = true := decide_eq_true c6
   clear c6
   replace H := Option.bind_eq_some_iff.mp H
   obtain ⟨t107, A70, H⟩ := H
   replace H : (if t107 = true then (lazycref09_Same.l0 k1 l0 l1 (wrap64 (x5_1 + 1))) else (some false)) = some r := H
   have A7 := aM A70
   clear A70
   by_cases c8 : t107 = true
   rotate_left
   · replace c8 := Bool.eq_false_iff.mpr c8
     subst c8
     have H1 : (some false) = some r := by rw [if_neg (show ¬ (false = true) by decide)] at H; exact H
     clear H
     have H := H1
     clear H1
     obtain rfl := Option.some.inj H
     have p105 : 0 <= (x5_1 : Int) := of_decide_eq_true (by first | (with_reducible assumption) | assumption)
     have q105 : x5_1 < (l0.length : Int) := of_decide_eq_true (by first | (with_reducible assumption) | assumption)
     obtain ⟨ad105, A105_0, c105_0, e105, hx105_0, hl105_0, hi105_0⟩ := at_L1 HR0.1 x5_1 p105 q105
     cases e105
     have HR105_0 := aM hi105_0
     have HC105_0 := aM hl105_0
     clear hi105_0 hl105_0
     replace p105 := eq_true p105
     replace q105 := eq_true q105
     have p106 : 0 <= (x5_1 : Int) := of_decide_eq_true (by first | (with_reducible assumption) | assumption)
     have q106 : x5_1 < (l1.length : Int) := of_decide_eq_true (by first | (with_reducible assumption) | assumption)
     obtain ⟨ad106, A106_0, c106_0, e106, hx106_0, hl106_0, hi106_0⟩ := at_L1 HR1.1 x5_1 p106 q106
     cases e106
     have HR106_0 := aM hi106_0
     have HC106_0 := aM hl106_0
     clear hi106_0 hl106_0
     replace p106 := eq_true p106
     replace q106 := eq_true q106
     go_wp2_with (first | (go_at_call 17; (with_reducible refine (lazycref09_SameInts.calls k1 _ _ (rd_L1 l0 x5_1) _ _ (rd_L1 l1 x5_1) false _ ?side1 ?side2 ?side3 ?side4 A7.1).mono ?_); (case side1 => repeat (first | exact HR105_0.1 | (with_reducible refine C_alloc ?_ _) | (with_reducible refine C_drewN ?_ _) | (with_reducible refine C_drew ?_))); (case side2 => exact HC105_0.1); (case side3 => repeat (first | exact HR106_0.1 | (with_reducible refine C_alloc ?_ _) | (with_reducible refine C_drewN ?_ _) | (with_reducible refine C_drew ?_))); (case side4 => exact HC106_0.1); rintro e w' ⟨rfl, ⟨nd, rfl⟩⟩; (try first | exact ⟨rfl, _, World.drewN_drewN _ _ _⟩ | exact ⟨rfl, _, Eq.trans (World.drewN_drewN _ _ _) (congrArg (World.drewN _) (Nat.add_assoc _ _ _))⟩)))
     repeat (go_quiet (first | (go_at_call 17; (with_reducible refine (lazycref09_SameInts.calls k1 _ _ (rd_L1 l0 x5_1) _ _ (rd_L1 l1 x5_1) false _ ?side1 ?side2 ?side3 ?side4 A7.1).mono ?_); (case side1 => repeat (first | exact HR105_0.1 | (with_reducible refine C_alloc ?_ _) | (with_reducible refine C_drewN ?_ _) | (with_reducible refine C_drew ?_))); (case side2 => exact HC105_0.1); (case side3 => repeat (first | exact HR106_0.1 | (with_reducible refine C_alloc ?_ _) | (with_reducible refine C_drewN ?_ _) | (with_reducible refine C_drew ?_))); (case side4 => exact HC106_0.1); rintro e w' ⟨rfl, ⟨nd, rfl⟩⟩; (try first | exact ⟨rfl, _, World.drewN_drewN _ _ _⟩ | exact ⟨rfl, _, Eq.trans (World.drewN_drewN _ _ _) (congrArg (World.drewN _) (Nat.add_assoc _ _ _))⟩))); try go_wp2_with (first | (go_at_call 17; (with_reducible refine (lazycref09_SameInts.calls k1 _ _ (rd_L1 l0 x5_1) _ _ (rd_L1 l1 x5_1) false _ ?side1 ?side2 ?side3 ?side4 A7.1).mono ?_); (case side1 => repeat (first | exact HR105_0.1 | (with_reducible refine C_alloc ?_ _) | (with_reducible refine C_drewN ?_ _) | (with_reducible refine C_drew ?_))); (case side2 => exact HC105_0.1); (case side3 => repeat (first | exact HR106_0.1 | (with_reducible refine C_alloc ?_ _) | (with_reducible refine C_drewN ?_ _) | (with_reducible refine C_drew ?_))); (case side4 => exact HC106_0.1); rintro e w' ⟨rfl, ⟨nd, rfl⟩⟩; (try first | exact ⟨rfl, _, World.drewN_drewN _ _ _⟩ | exact ⟨rfl, _, Eq.trans (World.drewN_drewN _ _ _) (congrArg (World.drewN _) (Nat.add_assoc _ _ _))⟩))))
     go_ret
     exact ⟨by first | rfl | (simp; done) | (simp [*]; done), by repeat (first | exact Drawn0.refl _ | apply Drawn0.step)⟩
   subst c8
   have H1 : (lazycref09_Same.l0 k1 l0 l1 (wrap64 (x5_1 + 1))) = some r := by rw [if_pos rfl] at H; exact H
   clear H
   have H := H1
   clear H1
   have H' := aM H
   clear H
   have p105 : 0 <= (x5_1 : Int) := of_decide_eq_true (by first | (with_reducible assumption) | assumption)
   have q105 : x5_1 < (l0.length : Int) := of_decide_eq_true (by first | (with_reducible assumption) | assumption)
   obtain ⟨ad105, A105_0, c105_0, e105, hx105_0, hl105_0, hi105_0⟩ := at_L1 HR0.1 x5_1 p105 q105
   cases e105
   have HR105_0 := aM hi105_0
   have HC105_0 := aM hl105_0
   clear hi105_0 hl105_0
   replace p105 := eq_true p105
   replace q105 := eq_true q105
   have p106 : 0 <= (x5_1 : Int) := of_decide_eq_true (by first | (with_reducible assumption) | assumption)
   have q106 : x5_1 < (l1.length : Int) := of_decide_eq_true (by first | (with_reducible assumption) | assumption)
   obtain ⟨ad106, A106_0, c106_0, e106, hx106_0, hl106_0, hi106_0⟩ := at_L1 HR1.1 x5_1 p106 q106
   cases e106
   have HR106_0 := aM hi106_0
   have HC106_0 := aM hl106_0
   clear hi106_0 hl106_0
   replace p106 := eq_true p106
   replace q106 := eq_true q106
   go_wp2_with (first | (go_at_call 17; (with_reducible refine (lazycref09_SameInts.calls k1 _ _ (rd_L1 l0 x5_1) _ _ (rd_L1 l1 x5_1) true _ ?side1 ?side2 ?side3 ?side4 A7.1).mono ?_); (case side1 => repeat (first | exact HR105_0.1 | (with_reducible refine C_alloc ?_ _) | (with_reducible refine C_drewN ?_ _) | (with_reducible refine C_drew ?_))); (case side2 => exact HC105_0.1); (case side3 => repeat (first | exact HR106_0.1 | (with_reducible refine C_alloc ?_ _) | (with_reducible refine C_drewN ?_ _) | (with_reducible refine C_drew ?_))); (case side4 => exact HC106_0.1); rintro e w' ⟨rfl, ⟨nd, rfl⟩⟩; (try first | exact ⟨rfl, _, World.drewN_drewN _ _ _⟩ | exact ⟨rfl, _, Eq.trans (World.drewN_drewN _ _ _) (congrArg (World.drewN _) (Nat.add_assoc _ _ _))⟩)))
   repeat (go_quiet (first | (go_at_call 17; (with_reducible refine (lazycref09_SameInts.calls k1 _ _ (rd_L1 l0 x5_1) _ _ (rd_L1 l1 x5_1) true _ ?side1 ?side2 ?side3 ?side4 A7.1).mono ?_); (case side1 => repeat (first | exact HR105_0.1 | (with_reducible refine C_alloc ?_ _) | (with_reducible refine C_drewN ?_ _) | (with_reducible refine C_drew ?_))); (case side2 => exact HC105_0.1); (case side3 => repeat (first | exact HR106_0.1 | (with_reducible refine C_alloc ?_ _) | (with_reducible refine C_drewN ?_ _) | (with_reducible refine C_drew ?_))); (case side4 => exact HC106_0.1); rintro e w' ⟨rfl, ⟨nd, rfl⟩⟩; (try first | exact ⟨rfl, _, World.drewN_drewN _ _ _⟩ | exact ⟨rfl, _, Eq.trans (World.drewN_drewN _ _ _) (congrArg (World.drewN _) (Nat.add_assoc _ _ _))⟩))); try go_wp2_with (first | (go_at_call 17; (with_reducible refine (lazycref09_SameInts.calls k1 _ _ (rd_L1 l0 x5_1) _ _ (rd_L1 l1 x5_1) true _ ?side1 ?side2 ?side3 ?side4 A7.1).mono ?_); (case side1 => repeat (first | exact HR105_0.1 | (with_reducible refine C_alloc ?_ _) | (with_reducible refine C_drewN ?_ _) | (with_reducible refine C_drew ?_))); (case side2 => exact HC105_0.1); (case side3 => repeat (first | exact HR106_0.1 | (with_reducible refine C_alloc ?_ _) | (with_reducible refine C_drewN ?_ _) | (with_reducible refine C_drew ?_))); (case side4 => exact HC106_0.1); rintro e w' ⟨rfl, ⟨nd, rfl⟩⟩; (try first | exact ⟨rfl, _, World.drewN_drewN _ _ _⟩ | exact ⟨rfl, _, Eq.trans (World.drewN_drewN _ _ _) (congrArg (World.drewN _) (Nat.add_assoc _ _ _))⟩))))
   go_roundg k1
   case measure => have := HK1.1; omega
   case rel => exact ⟨(wrap64 (x5_1 + 1)), (by first | rfl | (simp; done) | (simp [*]; done)), H', ⟨by have := HK1.1; omega⟩, by repeat (first | exact Drawn0.refl _ | apply Drawn0.step)⟩
mutual
noncomputable def graph_valid.l0 : Nat -> List (List Int) -> Int -> Int -> List (List Int) -> Option (Bool)
 | 0, _, _, _, _ => none
 | k + 1, x8, x9, x10, x109000 => if x10 < x9 then (if 0 <= x10 then (if x10 < (x8.length : Int) then (graph_valid.l1 k x8 x9 x10 (rd_L1 x8 x10) ((rd_L1 x8 x10).length : Int) 0 x109000) else (none)) else (none)) else (some true)
noncomputable def graph_valid.l1 : Nat -> List (List Int) -> Int -> Int -> List Int -> Int -> Int -> List (List Int) -> Option (Bool)
 | 0, _, _, _, _, _, _, _ => none
 | k + 1, x8, x9, x10, x14, x15, x16, x109000 => if x16 < x15 then (if 0 <= x16 then (if x16 < (x14.length : Int) then (if (rd x14 x16) < 0 then (some false) else (if (rd x14 x16) >= (x109000.length : Int) then (some false) else (graph_valid.l1 k x8 x9 x10 x14 x15 (wrap64 (x16 + 1)) x109000))) else (none)) else (none)) else (graph_valid.l0 k x8 x9 (wrap64 (x10 + 1)) x109000)
end
noncomputable def graph_valid.f (k : Nat) (l0_0 : List (List Int)) : Option (Bool) := graph_valid.l0 k l0_0 (l0_0.length : Int) 0 l0_0
theorem graph_valid.calls (k : Nat) (A0_0 : Option Addr) (c0_0 : Nat) (l0_0 : List (List Int)) (r : Bool) (w : World) (hr0_0 : Kd.C (Kd.slice 3 (Kd.int .i64)) w A0_0 l0_0.length l0_0) (hc0_0 : l0_0.length <= c0_0) (h : graph_valid.f k l0_0 = some r) :
 Calls Try.prog 27 #[.agg #[.slice A0_0 l0_0.length c0_0]] w fun e w' => e = .returned (.bool r) /\ Below w.heap.size w w' := by
 have hu24 := Try.underlying24
 have HR0_0 := aM hr0_0
 have HC0_0 := aM hc0_0
 clear hr0_0 hc0_0
 have HB := aM (Below.refl w.heap.size w)
 have H : (graph_valid.l0 k l0_0 (l0_0.length : Int) 0 l0_0) = some r := h
 clear h
 have H' := aM H
 clear H
 go_enter Try.func27, Try.ntmps27
 go_wp2_with (first | ((with_reducible refine gate_dst (N := 1) rfl ?_); (try (refine gate_guard (by rfl) ?_; dsimp only)); refine box_event ?hg (N := 1) ?hd (cs := #[.slice A0_0 l0_0.length c0_0]) (t := 24) ?hr ?_; (case hd => rfl); (case hg => rfl); (case hr => first | (go_simp; done) | (go_simp; rfl)); intro gb108 hg w2 hbox hb; have n0_ := aM (below_step (by repeat (first | (with_reducible first | exact HB.1 | apply bA | apply bN | apply bD) | exact HB.1)) hb); have n1_ := aM (hbox); have n2_ := aM ((by rw [hg]; exact (below_size (by repeat (first | (with_reducible first | exact HB.1 | apply bA | apply bN | apply bD) | exact HB.1))) : w.heap.size <= gb108)); have n3_ := aM ((by rw [hg]; exact (below_size (by repeat (first | (with_reducible first | exact HB.1 | apply bA | apply bN | apply bD) | exact HB.1))) : w.heap.size <= gb108)); clear HB; have HB := n0_; have BK108 := n1_; have GW108 := n2_; have GE108 := n3_; clear n0_ n1_ n2_ n3_; clear hb hbox hg; have hcz3_0 : w2.cell? ⟨gb108, 0, none⟩ = some (.slice A0_0 l0_0.length c0_0) := (blk_cell BK108.1 0).trans rfl; have hfz3_0 := blk_frozen BK108.1 0))
 go_loopg [10] k (fun kq v10 w' => ∃ (x10_1 : Int), v10 = .int .i64 x10_1 /\ Az (graph_valid.l0 kq l0_0 (l0_0.length : Int) x10_1 l0_0 = some r) /\ Az (kq <= k) /\ Az (w'.heap[gb108]? = some (.cells #[(.slice A0_0 l0_0.length c0_0)] 24 (0, 0))) /\ Az (Below w.heap.size w w'))
 case atStart => exact ⟨(0), (by first | rfl | (simp; done) | (simp [*]; done)), H', ⟨Nat.le_refl _⟩, ⟨by (with_reducible repeat (first | refine kN ?_ _ | refine kD ?_ | refine kA ?_ _)); exact BK108.1⟩, ⟨by repeat (first | (with_reducible first | exact HB.1 | apply bA | apply bN | apply bD | refine below_set ?_ GE108.1) | exact HB.1)⟩⟩
 case round =>
  clear H'
  try clear c2
  try clear p2
  try clear hcz3_0
  try clear hfz3_0
  obtain ⟨x10_1, rfl, HA, HK1, BK108, HB⟩ := hrel
  cases gk with
  | zero => exact absurd HA.1 (by simp [graph_valid.l0])
  | succ k1 =>
   have H := HA.1
   clear HA
   simp only [graph_valid.l0] at H
   by_cases c4 : x10_1 < (l0_0.length : Int)
   rotate_left
   · rw [if_neg c4] at H
     have c4b0 : decide (x10_1 < (l0_0.length : Int)) = false := decide_eq_false c4
     clear c4
     obtain rfl := Option.some.inj H
     go_wp2
     go_ret
     exact ⟨by first | rfl | (simp [errW_none, errW_some] <;> rfl) | (simp [*, errW_none, errW_some] <;> rfl), by repeat (first | (with_reducible first | exact HB.1 | apply bA | apply bN | apply bD | refine below_set ?_ GE108.1) | exact HB.1)⟩
   rw [if_pos c4] at H
   have c4b0 : decide (x10_1 < (l0_0.length : Int)) = true := decide_eq_true c4
   clear c4
   by_cases c5 : 0 <= x10_1
   rotate_left
   · rw [if_neg c5] at H
     exact absurd H (by simp)
   rw [if_pos c5] at H
   have c5b0 : decide (0 <= x10_1) = true := decide_eq_true c5
   clear c5
   by_cases c6 : x10_1 < (l0_0.length : Int)
   rotate_left
   · rw [if_neg c6] at H
     exact absurd H (by simp)
   rw [if_pos c6] at H
   have c6b0 : decide (x10_1 < (l0_0.length : Int)) = true := decide_eq_true c6
   clear c6
   have H' := aM H
   clear H
   have p109 : 0 <= (x10_1 : Int) := of_decide_eq_true (by first | (with_reducible assumption) | assumption)
   have q109 : x10_1 < (l0_0.length : Int) := of_decide_eq_true (by first | (with_reducible assumption) | assumption)
   obtain ⟨ad109, A109_0, c109_0, e109, hx109_0, hl109_0, hi109_0⟩ := at_L1 HR0_0.1 x10_1 p109 q109
   cases e109
   replace hx109_0 := (HB.1.cell (World.block_lt_of_cell? w _ hx109_0)).trans hx109_0
   have HR109_0 := aM hi109_0
   have HC109_0 := aM hl109_0
   clear hi109_0 hl109_0
   replace p109 := eq_true p109
   replace q109 := eq_true q109
   go_wp2
   go_loopg [16] k1 (fun kq v16 w' => ∃ (x16_2 : Int), v16 = .int .i64 x16_2 /\ Az (graph_valid.l1 kq l0_0 (l0_0.length : Int) x10_1 (rd_L1 l0_0 x10_1) ((rd_L1 l0_0 x10_1).length : Int) x16_2 l0_0 = some r) /\ Az (kq <= k1) /\ Az (w'.heap[gb108]? = some (.cells #[(.slice (some ad109) l0_0.length c0_0)] 24 (0, 0))) /\ Az (Below w.heap.size w w'))
   case atStart => exact ⟨(0), (by first | rfl | (simp; done) | (simp [*]; done)), H', ⟨Nat.le_refl _⟩, ⟨by (with_reducible repeat (first | refine kN ?_ _ | refine kD ?_ | refine kA ?_ _)); exact BK108.1⟩, ⟨by repeat (first | (with_reducible first | exact HB.1 | apply bA | apply bN | apply bD | refine below_set ?_ GE108.1) | exact HB.1)⟩⟩
   case round =>
    clear H'
    try clear c1
    try clear p1
    try clear q1
    try clear hx1
    try clear c2
    try clear p2
    try clear c4
    try clear c4b0
    try clear c5
    try clear c5b0
    try clear c6
    try clear c6b0
    try clear hcz3_0
    try clear hfz3_0
    try clear hx109_0
    try clear p109
    try clear p2
    try clear q109
    obtain ⟨x16_2, rfl, HA, HK2, BK108, HB⟩ := hrel
    cases gk with
    | zero => exact absurd HA.1 (by simp [graph_valid.l1])
    | succ k2 =>
     have H := HA.1
     clear HA
     simp only [graph_valid.l1] at H
     by_cases c7 : x16_2 < ((rd_L1 l0_0 x10_1).length : Int)
     rotate_left
     · rw [if_neg c7] at H
       have c7b0 : decide (x16_2 < ((rd_L1 l0_0 x10_1).length : Int)) = false := decide_eq_false c7
       clear c7
       have H' := aM H
       clear H
       go_wp2
       go_roundg k2
       case measure => have := HK1.1; have := HK2.1; omega
       case rel => exact ⟨(wrap64 (x10_1 + 1)), (by first | rfl | (simp; done) | (simp [*]; done)), H', ⟨by have := HK1.1; have := HK2.1; omega⟩, ⟨by (with_reducible repeat (first | refine kN ?_ _ | refine kD ?_ | refine kA ?_ _)); exact BK108.1⟩, ⟨by repeat (first | (with_reducible first | exact HB.1 | apply bA | apply bN | apply bD | refine below_set ?_ GE108.1) | exact HB.1)⟩⟩
     rw [if_pos c7] at H
     have c7b0 : decide (x16_2 < ((rd_L1 l0_0 x10_1).length : Int)) = true := decide_eq_true c7
     clear c7
     by_cases c8 : 0 <= x16_2
     rotate_left
     · rw [if_neg c8] at H
       exact absurd H (by simp)
     rw [if_pos c8] at H
     have c8b0 : decide (0 <= x16_2) = true := decide_eq_true c8
     clear c8
     by_cases c9 : x16_2 < ((rd_L1 l0_0 x10_1).length : Int)
     rotate_left
     · rw [if_neg c9] at H
       exact absurd H (by simp)
     rw [if_pos c9] at H
     have c9b0 : decide (x16_2 < ((rd_L1 l0_0 x10_1).length : Int)) = true := decide_eq_true c9
     clear c9
     by_cases c10 : (rd (rd_L1 l0_0 x10_1) x16_2) < 0
     · rw [if_pos c10] at H
       have c10b0 : decide ((rd (rd_L1 l0_0 x10_1) x16_2) < 0) = true := decide_eq_true c10
       clear c10
       obtain rfl := Option.some.inj H
       have p110 : 0 <= (x16_2 : Int) := of_decide_eq_true (by first | (with_reducible assumption) | assumption)
       have q110 : x16_2 < ((rd_L1 l0_0 x10_1).length : Int) := of_decide_eq_true (by first | (with_reducible assumption) | assumption)
       obtain ⟨ad110, e110, hx110_0⟩ := Kd.at_int HR109_0.1 x16_2 p110 q110
       cases e110
       replace hx110_0 := (HB.1.cell (World.block_lt_of_cell? w _ hx110_0)).trans hx110_0
       replace p110 := eq_true p110
       replace q110 := eq_true q110
       go_wp2
       go_ret
       exact ⟨by first | rfl | (simp [errW_none, errW_some] <;> rfl) | (simp [*, errW_none, errW_some] <;> rfl), by repeat (first | (with_reducible first | exact HB.1 | apply bA | apply bN | apply bD | refine below_set ?_ GE108.1) | exact HB.1)⟩
     rw [if_neg c10] at H
     have c10b0 : decide ((rd (rd_L1 l0_0 x10_1) x16_2) < 0) = false := decide_eq_false c10
     clear c10
     by_cases c11 : (rd (rd_L1 l0_0 x10_1) x16_2) >= (l0_0.length : Int)
     · rw [if_pos c11] at H
       have c11b0 : decide ((l0_0.length : Int) <= (rd (rd_L1 l0_0 x10_1) x16_2)) = true := decide_eq_true c11
       clear c11
       obtain rfl := Option.some.inj H
       have p110 : 0 <= (x16_2 : Int) := of_decide_eq_true (by first | (with_reducible assumption) | assumption)
       have q110 : x16_2 < ((rd_L1 l0_0 x10_1).length : Int) := of_decide_eq_true (by first | (with_reducible assumption) | assumption)
       obtain ⟨ad110, e110, hx110_0⟩ := Kd.at_int HR109_0.1 x16_2 p110 q110
       cases e110
       replace hx110_0 := (HB.1.cell (World.block_lt_of_cell? w _ hx110_0)).trans hx110_0
       replace p110 := eq_true p110
       replace q110 := eq_true q110
       have hcz12_0 : wr.cell? ⟨gb108, 0, none⟩ = some (.slice (some ad109) l0_0.length c0_0) := (blk_cell BK108.1 0).trans rfl
       have hfz12_0 := blk_frozen BK108.1 0
       go_wp2
       go_ret
       exact ⟨by first | rfl | (simp [errW_none, errW_some] <;> rfl) | (simp [*, errW_none, errW_some] <;> rfl), by repeat (first | (with_reducible first | exact HB.1 | apply bA | apply bN | apply bD | refine below_set ?_ GE108.1) | exact HB.1)⟩
     rw [if_neg c11] at H
     have c11b0 : decide ((l0_0.length : Int) <= (rd (rd_L1 l0_0 x10_1) x16_2)) = false := decide_eq_false c11
     clear c11
     have H' := aM H
     clear H
     have p110 : 0 <= (x16_2 : Int) := of_decide_eq_true (by first | (with_reducible assumption) | assumption)
     have q110 : x16_2 < ((rd_L1 l0_0 x10_1).length : Int) := of_decide_eq_true (by first | (with_reducible assumption) | assumption)
     obtain ⟨ad110, e110, hx110_0⟩ := Kd.at_int HR109_0.1 x16_2 p110 q110
     cases e110
     replace hx110_0 := (HB.1.cell (World.block_lt_of_cell? w _ hx110_0)).trans hx110_0
     replace p110 := eq_true p110
     replace q110 := eq_true q110
     have hcz13_0 : wr.cell? ⟨gb108, 0, none⟩ = some (.slice (some ad109) l0_0.length c0_0) := (blk_cell BK108.1 0).trans rfl
     have hfz13_0 := blk_frozen BK108.1 0
     go_wp2
     go_roundg k2
     case measure => have := HK1.1; have := HK2.1; omega
     case rel => exact ⟨(wrap64 (x16_2 + 1)), (by first | rfl | (simp; done) | (simp [*]; done)), H', ⟨by have := HK1.1; have := HK2.1; omega⟩, ⟨by (with_reducible repeat (first | refine kN ?_ _ | refine kD ?_ | refine kA ?_ _)); exact BK108.1⟩, ⟨by repeat (first | (with_reducible first | exact HB.1 | apply bA | apply bN | apply bD | refine below_set ?_ GE108.1) | exact HB.1)⟩⟩
noncomputable def graph_Components.f (k : Nat) (l0_0 : List (List Int)) : Option ((List (List Int))) := (graph_valid.f k l0_0).bind fun t112 => (if t112 = true then ((graph_ordered.f l0_0).bind fun t113 => (some t113)) else (some ([] : List (List Int))))
theorem graph_Components.calls (k : Nat) (A0_0 : Option Addr) (c0_0 : Nat) (l0_0 : List (List Int)) (r : List (List Int)) (w : World) (hr0_0 : Kd.C (Kd.slice 3 (Kd.int .i64)) w A0_0 l0_0.length l0_0) (hc0_0 : l0_0.length <= c0_0) (h : graph_Components.f k l0_0 = some r) :
 Calls Try.prog 12 #[.agg #[.slice A0_0 l0_0.length c0_0]] w fun e w' => ∃ v0_ : Value, e = .returned (v0_) /\ Kd.V (Kd.slice 3 (Kd.int .i64)) 32 w' w.heap.size (fun k_ => (w.heap.size <= k_)) v0_ r /\ Below w.heap.size w w' := by
 have hu24 := Try.underlying24
 have HR0_0 := aM hr0_0
 have HC0_0 := aM hc0_0
 clear hr0_0 hc0_0
 have HB := aM (Below.refl w.heap.size w)
 have H : ((graph_valid.f k l0_0).bind fun t112 => (if t112 = true then ((graph_ordered.f l0_0).bind fun t113 => (some t113)) else (some ([] : List (List Int))))) = some r := h
 clear h
 replace H := Option.bind_eq_some_iff.mp H
 obtain ⟨t112, A20, H⟩ := H
 replace H : (if t112 = true then ((graph_ordered.f l0_0).bind fun t113 => (some t113)) else (some ([] : List (List Int)))) = some r := H
 have A2 := aM A20
 clear A20
 by_cases c3 : t112 = true
 rotate_left
 · replace c3 := Bool.eq_false_iff.mpr c3
   subst c3
   have H1 : (some ([] : List (List Int))) = some r := by rw [if_neg (show ¬ (false = true) by decide)] at H; exact H
   clear H
   have H := H1
   clear H1
   obtain rfl := Option.some.inj H
   go_enter Try.func12, Try.ntmps12
   go_wp2_with (first | ((with_reducible refine gate_dst (N := 1) rfl ?_); refine box_event ?hg (N := 1) ?hd (cs := #[.slice A0_0 l0_0.length c0_0]) (t := 24) ?hr ?_; (case hd => rfl); (case hg => rfl); (case hr => first | (go_simp; done) | (go_simp; rfl)); intro gb111 hg w10 hbox hb; have n0_ := aM (below_step (by repeat (first | (with_reducible first | exact HB.1 | apply bA | apply bN | apply bD) | exact HB.1)) hb); have n1_ := aM (hbox); have n2_ := aM ((by rw [hg]; exact (below_size (by repeat (first | (with_reducible first | exact HB.1 | apply bA | apply bN | apply bD) | exact HB.1))) : w.heap.size <= gb111)); have n3_ := aM ((by rw [hg]; exact (below_size (by repeat (first | (with_reducible first | exact HB.1 | apply bA | apply bN | apply bD) | exact HB.1))) : w.heap.size <= gb111)); clear HB; have HB := n0_; have BK111 := n1_; have GW111 := n2_; have GE111 := n3_; clear n0_ n1_ n2_ n3_; clear hb hbox hg; have hcz11_0 : w10.cell? ⟨gb111, 0, none⟩ = some (.slice A0_0 l0_0.length c0_0) := (blk_cell BK111.1 0).trans rfl; have hfz11_0 := blk_frozen BK111.1 0) | ((with_reducible refine gate_callee (f := 27) rfl ?_); refine goesL_ (some 4) rfl rfl Try.func27 (by kernel_rfl) rfl #[.agg #[.slice A0_0 l0_0.length c0_0]] rfl (by (try simp only [List.map_toArray, List.map_cons, List.map_nil]); first | done | rfl | (simp only [List.length_drop, List.length_take]; rfl)) ?_; (with_reducible refine (graph_valid.calls k _ _ l0_0 false _ ?side1 ?side2 A2.1).mono ?_); (case side1 => repeat (first | exact (C_below HR0_0.1 HB.1) | (with_reducible refine C_alloc ?_ _) | (with_reducible refine C_drewN ?_ _) | (with_reducible refine C_drew ?_))); (case side2 => exact HC0_0.1); rintro e w12 ⟨rfl, hb⟩; refine ⟨_, rfl, ?_⟩; have n0_ := aM (blk_below (g := gb111) (o := .cells #[.slice A0_0 l0_0.length c0_0] 24 (0, 0)) (by (with_reducible repeat (first | refine kN ?_ _ | refine kD ?_ | refine kA ?_ _)); exact BK111.1) hb); have n1_ := aM (below_step (by repeat (first | (with_reducible first | exact HB.1 | apply bA | apply bN | apply bD | refine below_set ?_ GE111.1) | exact HB.1)) hb); clear BK111; clear HB; have BK111 := n0_; have HB := n1_; clear n0_ n1_; (try clear hb); (try clear hb2); (try clear hk); (try clear hi)))
   go_ret
   exact ⟨_, by first | rfl | (simp [errW_none, errW_some] <;> rfl) | (simp [*, errW_none, errW_some] <;> rfl), (by first | exact V_nil _ _ _ _ _ | exact S_V (S_nil _ _ 0 _ _) | exact N_nil _ _ _ _ _ | exact V_nil _ _ _ _ _ | exact Q_nil _ _ _ _ _ | exact R_nil _ _ _ _ _), by repeat (first | (with_reducible first | exact HB.1 | apply bA | apply bN | apply bD | refine below_set ?_ GE111.1) | exact HB.1)⟩
 subst c3
 have H1 : ((graph_ordered.f l0_0).bind fun t113 => (some t113)) = some r := by rw [if_pos rfl] at H; exact H
 clear H
 have H := H1
 clear H1
 replace H := Option.bind_eq_some_iff.mp H
 obtain ⟨t113, A40, H⟩ := H
 replace H : (some t113) = some r := H
 have A4 := aM A40
 clear A40
 obtain rfl := Option.some.inj H
 go_enter Try.func12, Try.ntmps12
 go_wp2_with (first | ((with_reducible refine gate_dst (N := 1) rfl ?_); refine box_event ?hg (N := 1) ?hd (cs := #[.slice A0_0 l0_0.length c0_0]) (t := 24) ?hr ?_; (case hd => rfl); (case hg => rfl); (case hr => first | (go_simp; done) | (go_simp; rfl)); intro gb111 hg w5 hbox hb; have n0_ := aM (below_step (by repeat (first | (with_reducible first | exact HB.1 | apply bA | apply bN | apply bD) | exact HB.1)) hb); have n1_ := aM (hbox); have n2_ := aM ((by rw [hg]; exact (below_size (by repeat (first | (with_reducible first | exact HB.1 | apply bA | apply bN | apply bD) | exact HB.1))) : w.heap.size <= gb111)); have n3_ := aM ((by rw [hg]; exact (below_size (by repeat (first | (with_reducible first | exact HB.1 | apply bA | apply bN | apply bD) | exact HB.1))) : w.heap.size <= gb111)); clear HB; have HB := n0_; have BK111 := n1_; have GW111 := n2_; have GE111 := n3_; clear n0_ n1_ n2_ n3_; clear hb hbox hg; have hcz6_0 : w5.cell? ⟨gb111, 0, none⟩ = some (.slice A0_0 l0_0.length c0_0) := (blk_cell BK111.1 0).trans rfl; have hfz6_0 := blk_frozen BK111.1 0) | ((with_reducible refine gate_callee (f := 27) rfl ?_); refine goesL_ (some 4) rfl rfl Try.func27 (by kernel_rfl) rfl #[.agg #[.slice A0_0 l0_0.length c0_0]] rfl (by (try simp only [List.map_toArray, List.map_cons, List.map_nil]); first | done | rfl | (simp only [List.length_drop, List.length_take]; rfl)) ?_; (with_reducible refine (graph_valid.calls k _ _ l0_0 true _ ?side1 ?side2 A2.1).mono ?_); (case side1 => repeat (first | exact (C_below HR0_0.1 HB.1) | (with_reducible refine C_alloc ?_ _) | (with_reducible refine C_drewN ?_ _) | (with_reducible refine C_drew ?_))); (case side2 => exact HC0_0.1); rintro e w7 ⟨rfl, hb⟩; refine ⟨_, rfl, ?_⟩; have n0_ := aM (blk_below (g := gb111) (o := .cells #[.slice A0_0 l0_0.length c0_0] 24 (0, 0)) (by (with_reducible repeat (first | refine kN ?_ _ | refine kD ?_ | refine kA ?_ _)); exact BK111.1) hb); have n1_ := aM (below_step (by repeat (first | (with_reducible first | exact HB.1 | apply bA | apply bN | apply bD | refine below_set ?_ GE111.1) | exact HB.1)) hb); clear BK111; clear HB; have BK111 := n0_; have HB := n1_; clear n0_ n1_; (try clear hb); (try clear hb2); (try clear hk); (try clear hi); have hcz8_0 : w7.cell? ⟨gb111, 0, none⟩ = some (.slice A0_0 l0_0.length c0_0) := (blk_cell BK111.1 0).trans rfl; have hfz8_0 := blk_frozen BK111.1 0) | ((with_reducible refine gate_callee (f := 28) rfl ?_); refine goesL_ (some 8) rfl rfl Try.func28 (by kernel_rfl) rfl #[.slice A0_0 l0_0.length c0_0] rfl (by (try simp only [List.map_toArray, List.map_cons, List.map_nil]); first | done | rfl | (simp only [List.length_drop, List.length_take]; rfl)) ?_; (with_reducible refine (graph_ordered.calls _ _ l0_0 t113 _ ?side1 ?side2 A4.1).mono ?_); (case side1 => repeat (first | exact (C_below HR0_0.1 HB.1) | (with_reducible refine C_alloc ?_ _) | (with_reducible refine C_drewN ?_ _) | (with_reducible refine C_drew ?_))); (case side2 => exact HC0_0.1); rintro e w9 ⟨v114, rfl, ho0, hb⟩; refine ⟨_, rfl, ?_⟩; have n0_ := aM (V_lower (V_mono (ok' := fun k_ => (w.heap.size <= k_) /\ k_ ≠ gb111) ho0 (fun k_ hk_ => ⟨(Nat.le_trans (below_size (by repeat (first | (with_reducible first | exact HB.1 | apply bA | apply bN | apply bD | refine below_set ?_ GE111.1) | exact HB.1))) hk_), (Kd.freshB (g := gb111) (o := .cells #[.slice A0_0 l0_0.length c0_0] 24 (0, 0)) (by (with_reducible repeat (first | refine kN ?_ _ | refine kD ?_ | refine kA ?_ _)); exact BK111.1) k_ hk_)⟩)) (below_size (by repeat (first | (with_reducible first | exact HB.1 | apply bA | apply bN | apply bD | refine below_set ?_ GE111.1) | exact HB.1)))); have n1_ := aM (blk_below (g := gb111) (o := .cells #[.slice A0_0 l0_0.length c0_0] 24 (0, 0)) (by (with_reducible repeat (first | refine kN ?_ _ | refine kD ?_ | refine kA ?_ _)); exact BK111.1) hb); have n2_ := aM (below_step (by repeat (first | (with_reducible first | exact HB.1 | apply bA | apply bN | apply bD | refine below_set ?_ GE111.1) | exact HB.1)) hb); clear BK111; clear HB; have HO115 := n0_; have BK111 := n1_; have HB := n2_; clear n0_ n1_ n2_; (try clear hb); (try clear hb2); (try clear hk); (try clear hi); (try clear ho0)))
 go_ret
 exact ⟨_, by first | rfl | (simp [errW_none, errW_some] <;> rfl) | (simp [*, errW_none, errW_some] <;> rfl), by (with_reducible repeat (first | apply V_alloc | apply V_drewN | apply V_drew)); exact V_mono HO115.1 (fun _ hk => hk.1), by repeat (first | (with_reducible first | exact HB.1 | apply bA | apply bN | apply bD | refine below_set ?_ GE111.1) | exact HB.1)⟩
noncomputable def slices_Index_int_int.l0 : Nat -> List Int -> Int -> Int -> Int -> Option (Int)
 | 0, _, _, _, _ => none
 | k + 1, x0, x1, x7, x8 => if x8 < x7 then (if 0 <= x8 then (if x8 < (x0.length : Int) then (if x1 = (rd x0 x8) then (some x8) else (slices_Index_int_int.l0 k x0 x1 x7 (wrap64 (x8 + 1)))) else (none)) else (none)) else (some (-1))
noncomputable def slices_Index_int_int.f (k : Nat) (l0 : List Int) (a1 : Int) : Option (Int) := slices_Index_int_int.l0 k l0 a1 (l0.length : Int) 0
theorem slices_Index_int_int.calls (k : Nat) (A0 : Option Addr) (c0 : Nat) (l0 : List Int) (a1 : Int) (r : Int) (w : World) (hr0 : Kd.C (Kd.int .i64) w A0 l0.length l0) (hc0 : l0.length <= c0) (h : slices_Index_int_int.f k l0 a1 = some r) :
 Calls Try.prog 42 #[.slice A0 l0.length c0, .int .i64 a1] w fun e w' => e = .returned (.int .i64 r) /\ Drawn0 w w' := by
 have HR0 := aM hr0
 have HC0 := aM hc0
 clear hr0 hc0
 have H : (slices_Index_int_int.l0 k l0 a1 (l0.length : Int) 0) = some r := h
 clear h
 have H' := aM H
 clear H
 go_enter Try.func42, Try.ntmps42
 go_wp2
 go_loopg [8] k (fun kq v8 w' => ∃ (x8_1 : Int), v8 = .int .i64 x8_1 /\ Az (slices_Index_int_int.l0 kq l0 a1 (l0.length : Int) x8_1 = some r) /\ Az (kq <= k) /\ Drawn0 w w')
 case atStart => exact ⟨(0), (by first | rfl | (simp; done) | (simp [*]; done)), H', ⟨Nat.le_refl _⟩, by repeat (first | exact Drawn0.refl _ | apply Drawn0.step)⟩
 case round =>
  clear H'
  try clear p2
  obtain ⟨x8_1, rfl, HA, HK1, ⟨m1, rfl⟩⟩ := hrel
  cases gk with
  | zero => exact absurd HA.1 (by simp [slices_Index_int_int.l0])
  | succ k1 =>
   have H := HA.1
   clear HA
   simp only [slices_Index_int_int.l0] at H
   by_cases c3 : x8_1 < (l0.length : Int)
   rotate_left
   · rw [if_neg c3] at H
     have c3b0 : decide (x8_1 < (l0.length : Int)) = false := decide_eq_false c3
     clear c3
     obtain rfl := Option.some.inj H
     go_wp2
     go_ret
     exact ⟨by first | rfl | (simp; done) | (simp [*]; done), by repeat (first | exact Drawn0.refl _ | apply Drawn0.step)⟩
   rw [if_pos c3] at H
   have c3b0 : decide (x8_1 < (l0.length : Int)) = true := decide_eq_true c3
   clear c3
   by_cases c4 : 0 <= x8_1
   rotate_left
   · rw [if_neg c4] at H
     exact absurd H (by simp)
   rw [if_pos c4] at H
   have c4b0 : decide (0 <= x8_1) = true := decide_eq_true c4
   clear c4
   by_cases c5 : x8_1 < (l0.length : Int)
   rotate_left
   · rw [if_neg c5] at H
     exact absurd H (by simp)
   rw [if_pos c5] at H
   have c5b0 : decide (x8_1 < (l0.length : Int)) = true := decide_eq_true c5
   clear c5
   by_cases c6 : a1 = (rd l0 x8_1)
   · rw [if_pos c6] at H
     have c6b0 : (a1 == (rd l0 x8_1)) = true := beq_iff_eq.mpr c6
     have c6b1 : (a1 != (rd l0 x8_1)) = false := bne_eq_false_iff_eq.mpr c6
     clear c6
     obtain rfl := Option.some.inj H
     have p116 : 0 <= (x8_1 : Int) := of_decide_eq_true (by first | (with_reducible assumption) | assumption)
     have q116 : x8_1 < (l0.length : Int) := of_decide_eq_true (by first | (with_reducible assumption) | assumption)
     obtain ⟨ad116, e116, hx116_0⟩ := Kd.at_int HR0.1 x8_1 p116 q116
     cases e116
     replace p116 := eq_true p116
     replace q116 := eq_true q116
     go_wp2
     go_ret
     exact ⟨by first | rfl | (simp; done) | (simp [*]; done), by repeat (first | exact Drawn0.refl _ | apply Drawn0.step)⟩
   rw [if_neg c6] at H
   have c6b0 : (a1 == (rd l0 x8_1)) = false := beq_eq_false_iff_ne.mpr c6
   have c6b1 : (a1 != (rd l0 x8_1)) = true := bne_iff_ne.mpr c6
   have H' := aM H
   clear H
   have p116 : 0 <= (x8_1 : Int) := of_decide_eq_true (by first | (with_reducible assumption) | assumption)
   have q116 : x8_1 < (l0.length : Int) := of_decide_eq_true (by first | (with_reducible assumption) | assumption)
   obtain ⟨ad116, e116, hx116_0⟩ := Kd.at_int HR0.1 x8_1 p116 q116
   cases e116
   replace p116 := eq_true p116
   replace q116 := eq_true q116
   go_wp2
   go_roundg k1
   case measure => have := HK1.1; omega
   case rel => exact ⟨(wrap64 (x8_1 + 1)), (by first | rfl | (simp; done) | (simp [*]; done)), H', ⟨by have := HK1.1; omega⟩, by repeat (first | exact Drawn0.refl _ | apply Drawn0.step)⟩
end Go.Proofs.Ytpmjpngmmphkmaa.P
namespace Go.Proofs.Ytpmjpngmmphkmaa
namespace P
open Go.RowKit Go.Proofs.Yw.A Go.Proofs.Yw.B Go.Proofs.Yw.C
def slices_Clone_int.f (l : List Int) : Option (List Int) := if l.length < 17592186044416 then some l else none
theorem slices_Clone_int.calls (A0 : Option Addr) (c0 : Nat) (l0 : List Int) (r : List Int) (w : World) (hr0 : Kd.C (Kd.int .i64) w A0 l0.length l0) (hc0 : l0.length <= c0) (h : slices_Clone_int.f l0 = some r) :
 Calls Try.prog 43 #[.slice A0 l0.length c0] w fun e w' => ∃ v0_ : Value, e = .returned (v0_) /\ Kd.R (Kd.int .i64) 3 w' w.heap.size (fun _ => True) v0_ r /\ Below w.heap.size w w' := by
 unfold slices_Clone_int.f at h
 by_cases hn : l0.length < 17592186044416
 case neg => rw [if_neg hn] at h; cases h
 rw [if_pos hn] at h
 obtain rfl := Option.some.inj h
 have HR := Az.mk hr0
 clear h hr0
 cases A0 with
 | none =>
  have hl0 : l0 = [] := by
   cases l0 with
   | nil => rfl
   | cons a l => obtain ⟨_, _, h3⟩ := HR.1; obtain ⟨ad, e, _⟩ := h3 (by simp); cases e
  subst hl0
  have hq := Lib.run_eql_slice_nil (P := Try.prog) w 32 3 none 0 c0 0 0 Try.underlying32
  go_enter Try.func43, Try.ntmps43
  go_wp2
  go_ret
  exact ⟨_, rfl, Kd.R_nil _ _ _ _ _, Below.refl _ _⟩
 | some ad =>
  have OW := Az.mk (Kd.R_of_own (h1 := fun _ => rfl) (enc := Value.int .i64) (xs := []) (base := w.heap.size) (ok := fun _ => True) (e := 3) (w := w.alloc (.cells #[] 3)) (v := .slice (some ⟨w.heap.size, 0, none⟩) 0 0) ⟨by simp [encs], .inr ⟨w.heap.size, 0, #[], rfl, Nat.le_refl _, blk_new w _, Nat.le_refl _, Nat.zero_le _, by simp, by simp [encs]⟩⟩ (fun _ _ => trivial))
  have HC := Az.mk (Kd.C_below HR.1 (below_alloc (Below.refl w.heap.size w) (.cells #[] 3)))
  have hq := Lib.run_eql_slice_nil (P := Try.prog) w 32 3 (some ad) l0.length c0 0 0 Try.underlying32
  go_enter Try.func43, Try.ntmps43
  go_wp2_with ((with_reducible refine gate_builtin (b := .append) (xs := #[.tmp 5, .tmp 6]) rfl ?_); at_builtin; refine Kd.R_append_row (Value.int .i64) (0 : Int) (w0 := w) w.heap.size rfl (.tmp 5) (.tmp 6) 32 3 (.int .i64 0) 8 rfl Try.underlying32 info3 rfl (by decide) (.slice (some ⟨w.heap.size, 0, none⟩) 0 0) [] l0 (some ad) l0.length c0 (fun _ => True) rfl rfl (fun _ _ => trivial) OW.1 HC.1 (below_alloc (Below.refl w.heap.size w) _) (by simp) (by simp; omega) ?_)
  intro v1 w1 ho hb _ _
  have Ho := Az.mk ho
  have Hb := Az.mk hb
  clear ho hb
  obtain ⟨A1, q1, rfl⟩ := Kd.R_slice Ho.1
  go_wp2_with fail
  go_ret
  exact ⟨_, rfl, Ho.1, Hb.1⟩
end P
end Go.Proofs.Ytpmjpngmmphkmaa
namespace Go.Proofs.Ytpmjpngmmphkmaa.P
open Go.RowKit Go.Proofs.Yw.A Go.Proofs.Yw.A.Kd Go.Proofs.Yw.B Go.Proofs.Yw.C
attribute [local go_sem] max2_int min2_int max_two min_two max_three min_three max_four min_four
noncomputable def slices_Contains_int_int.f (k : Nat) (l0 : List Int) (a1 : Int) : Option (Bool) := (slices_Index_int_int.f k l0 a1).bind fun t117 => (some (decide (t117 >= 0)))
theorem slices_Contains_int_int.calls (k : Nat) (A0 : Option Addr) (c0 : Nat) (l0 : List Int) (a1 : Int) (r : Bool) (w : World) (hr0 : Kd.C (Kd.int .i64) w A0 l0.length l0) (hc0 : l0.length <= c0) (h : slices_Contains_int_int.f k l0 a1 = some r) :
 Calls Try.prog 31 #[.slice A0 l0.length c0, .int .i64 a1] w fun e w' => e = .returned (.bool r) /\ Drawn0 w w' := by
 have HR0 := aM hr0
 have HC0 := aM hc0
 clear hr0 hc0
 have H : ((slices_Index_int_int.f k l0 a1).bind fun t117 => (some (decide (t117 >= 0)))) = some r := h
 clear h
 replace H := Option.bind_eq_some_iff.mp H
 obtain ⟨t117, A30, H⟩ := H
 replace H : (some (decide (t117 >= 0))) = some r := H
 have A3 := aM A30
 clear A30
 obtain rfl := Option.some.inj H
 go_enter Try.func31, Try.ntmps31
 go_wp2_with (first | ((with_reducible refine gate_callee (f := 42) rfl ?_); refine goesL_ (some 7) rfl rfl Try.func42 (by kernel_rfl) rfl #[.slice A0 l0.length c0, .int .i64 a1] rfl (by (try simp only [List.map_toArray, List.map_cons, List.map_nil]); first | done | rfl | (simp only [List.length_drop, List.length_take]; rfl)) ?_; (with_reducible refine (slices_Index_int_int.calls k _ _ l0 a1 t117 _ ?side1 ?side2 A3.1).mono ?_); (case side1 => repeat (first | exact HR0.1 | (with_reducible refine C_alloc ?_ _) | (with_reducible refine C_drewN ?_ _) | (with_reducible refine C_drew ?_))); (case side2 => exact HC0.1); rintro e w' ⟨rfl, ⟨nd, rfl⟩⟩; refine ⟨_, rfl, ?_⟩))
 go_ret
 exact ⟨by first | rfl | (simp; done) | (simp [*]; done), by repeat (first | exact Drawn0.refl _ | apply Drawn0.step)⟩
noncomputable def graph_reached.l0 : Nat -> List (List Int) -> List Bool -> List Int -> Option (List Bool)
 | 0, _, _, _ => none
 | k + 1, x0, x5, x6 => if (x6.length : Int) > 0 then (if 0 <= (wrap64 ((x6.length : Int) - 1)) then (if (wrap64 ((x6.length : Int) - 1)) < (x6.length : Int) then (if (wrap64 ((x6.length : Int) - 1)) <= (x6.length : Int) then ((some (x6.take ((wrap64 ((x6.length : Int) - 1)) : Int).toNat : List Int)).bind fun y125 => (if 0 <= (rd x6 (wrap64 ((x6.length : Int) - 1))) then (if (rd x6 (wrap64 ((x6.length : Int) - 1))) < (x5.length : Int) then (if (rdOf false x5 (rd x6 (wrap64 ((x6.length : Int) - 1))) = true) then (graph_reached.l0 k x0 x5 y125) else (if (rd x6 (wrap64 ((x6.length : Int) - 1))) < (x0.length : Int) then (if y125.length + (rd_L1 x0 (rd x6 (wrap64 ((x6.length : Int) - 1)))).length < 17592186044416 then (graph_reached.l0 k x0 (x5.set ((rd x6 (wrap64 ((x6.length : Int) - 1))) : Int).toNat true) (y125 ++ (rd_L1 x0 (rd x6 (wrap64 ((x6.length : Int) - 1)))))) else (none)) else (none))) else (none)) else (none))) else (none)) else (none)) else (none)) else (some x5)
noncomputable def graph_reached.f (k : Nat) (l0 : List (List Int)) (l1 : List Int) : Option (List Bool) := if 0 <= (l0.length : Int) then (if ((l0.length : Int) : Int).toNat <= 281474976710656 then ((slices_Clone_int.f l1).bind fun t121 => (graph_reached.l0 k l0 (List.replicate ((l0.length : Int) : Int).toNat false) t121)) else (none)) else (none)
theorem graph_reached.calls (k : Nat) (A0 : Option Addr) (c0 : Nat) (l0 : List (List Int)) (A1 : Option Addr) (c1 : Nat) (l1 : List Int) (r : List Bool) (w : World) (hr0 : Kd.C (Kd.slice 3 (Kd.int .i64)) w A0 l0.length l0) (hc0 : l0.length <= c0) (hr1 : Kd.C (Kd.int .i64) w A1 l1.length l1) (hc1 : l1.length <= c1) (h : graph_reached.f k l0 l1 = some r) :
 Calls Try.prog 33 #[.slice A0 l0.length c0, .slice A1 l1.length c1] w fun e w' => ∃ v0_ : Value, e = .returned (v0_) /\ Kd.R Kd.bool 4 w' w.heap.size (fun _ => True) v0_ r /\ Below w.heap.size w w' := by
 have HR0 := aM hr0
 have HC0 := aM hc0
 clear hr0 hc0
 have HR1 := aM hr1
 have HC1 := aM hc1
 clear hr1 hc1
 have HB := aM (Below.refl w.heap.size w)
 have H : (if 0 <= (l0.length : Int) then (if ((l0.length : Int) : Int).toNat <= 281474976710656 then ((slices_Clone_int.f l1).bind fun t121 => (graph_reached.l0 k l0 (List.replicate ((l0.length : Int) : Int).toNat false) t121)) else (none)) else (none)) = some r := h
 clear h
 by_cases c3 : 0 <= (l0.length : Int)
 rotate_left
 · rw [if_neg c3] at H
   exact absurd H (by simp)
 rw [if_pos c3] at H
 have c3b0 := eq_true c3
 have c3b1 : decide (0 <= (l0.length : Int)) = true := decide_eq_true c3
 clear c3
 by_cases c4 : ((l0.length : Int) : Int).toNat <= 281474976710656
 rotate_left
 · rw [if_neg c4] at H
   exact absurd H (by simp)
 rw [if_pos c4] at H
 have c4b0 := eq_true c4
 have c4b1 : decide (((l0.length : Int) : Int).toNat <= 281474976710656) = true := decide_eq_true c4
 clear c4
 obtain ⟨y118, hy118⟩ : ∃ y_ : List Bool, y_ = (List.replicate ((l0.length : Int) : Int).toNat false) := ⟨_, rfl⟩
 replace H : ((slices_Clone_int.f l1).bind fun t121 => (graph_reached.l0 k l0 y118 t121)) = some r := by first | (rw [hy118]; with_reducible exact H) | (have H2_ := (Option.bind_some _ _).symm.trans H; rw [hy118]; with_reducible exact H2_) | (have H2_ := (Option.bind_some _ _).symm.trans H; with_reducible exact H2_) | with_reducible exact H | (rw [hy118]; exact H) | exact H
 have Ny118 := aM hy118
 clear hy118
 replace H := Option.bind_eq_some_iff.mp H
 obtain ⟨t121, A50, H⟩ := H
 replace H : (graph_reached.l0 k l0 y118 t121) = some r := H
 have A5 := aM A50
 clear A50
 have H' := aM H
 clear H
 go_enter Try.func33, Try.ntmps33
 go_wp2_with (first | ((with_reducible refine gate_dst (N := 10) rfl ?_); refine R_make Kd.bool _ 4 rfl (N := 10) rfl 48 _ _ rfl (l0.length : Int) rfl rfl Try.underlying48 (.bool false) 1 info4 rfl (by decide) (by omega) false (ok := fun _ => True) (okp := fun _ => True) rfl (fun _ hk => hk) trivial (of_decide_eq_true (by first | (with_reducible assumption) | assumption)) (Nat.le_trans (Nat.mul_le_mul_right _ (of_decide_eq_true (by first | (with_reducible assumption) | assumption) : (l0.length : Int).toNat <= 281474976710656)) (by omega)) (Below.refl _ _) (Nat.le_refl _) ?_; intro v119 w6 ho7 hb hg_ hnew_; clear hg_ hnew_; (first | rw [<- Ny118.1] at ho7 | (simp only [Int.reduceToNat] at ho7; rw [<- Ny118.1] at ho7)); have n0_ := aM (R_lower ho7 (below_size (by repeat (first | (with_reducible first | exact HB.1 | apply bA | apply bN | apply bD) | exact HB.1)))); have n1_ := aM (below_step (by repeat (first | (with_reducible first | exact HB.1 | apply bA | apply bN | apply bD) | exact HB.1)) hb); clear HB; have HO120 := n0_; have HB := n1_; clear n0_ n1_; clear hb ho7) | ((with_reducible refine gate_callee (f := 43) rfl ?_); refine goesL_ (some 12) rfl rfl Try.func43 (by kernel_rfl) rfl #[.slice A1 l1.length c1] rfl (by (try simp only [List.map_toArray, List.map_cons, List.map_nil]); first | done | rfl | (simp only [List.length_drop, List.length_take]; rfl)) ?_; (with_reducible refine (slices_Clone_int.calls _ _ l1 t121 _ ?side1 ?side2 A5.1).mono ?_); (case side1 => repeat (first | exact (C_below HR1.1 HB.1) | (with_reducible refine C_alloc ?_ _) | (with_reducible refine C_drewN ?_ _) | (with_reducible refine C_drew ?_))); (case side2 => exact HC1.1); rintro e w8 ⟨v122, rfl, ho0, hb⟩; refine ⟨_, rfl, ?_⟩; have n0_ := aM (R_below (by (with_reducible repeat (first | apply R_alloc | apply R_drewN | apply R_drew)); exact HO120.1) hb); have n1_ := aM (R_lower ho0 (below_size (by repeat (first | (with_reducible first | exact HB.1 | apply bA | apply bN | apply bD) | exact HB.1)))); have n2_ := aM (below_step (by repeat (first | (with_reducible first | exact HB.1 | apply bA | apply bN | apply bD) | exact HB.1)) hb); clear HO120; clear HB; have HO120 := n0_; have HO123 := n1_; have HB := n2_; clear n0_ n1_ n2_; (try clear hb); (try clear hb2); (try clear hk); (try clear hi); (try clear ho0)))
 go_loopg [6] k (fun kq v6 w' => ∃ (x5_1 : List Bool) (x6_1 : List Int), Az (graph_reached.l0 kq l0 x5_1 x6_1 = some r) /\ Az (kq <= k) /\ Az (Kd.R Kd.bool 4 w' w.heap.size (fun _ => True) v119 x5_1) /\ Az (Kd.R (Kd.int .i64) 3 w' w.heap.size (fun _ => True) v6 x6_1) /\ Az (Below w.heap.size w w'))
 case atStart => exact ⟨(y118), (t121), H', ⟨Nat.le_refl _⟩, ⟨by (with_reducible repeat (first | apply R_alloc | apply R_drewN | apply R_drew)); exact HO120.1⟩, ⟨by (with_reducible repeat (first | apply R_alloc | apply R_drewN | apply R_drew)); exact HO123.1⟩, ⟨by repeat (first | (with_reducible first | exact HB.1 | apply bA | apply bN | apply bD) | exact HB.1)⟩⟩
 case round =>
  clear H'
  try clear c1
  try clear p2
  try clear c3
  try clear c3b0
  try clear c3b1
  try clear c4
  try clear c4b0
  try clear c4b1
  obtain ⟨x5_1, x6_1, HA, HK1, HO_5, HO_6, HB⟩ := hrel
  cases gk with
  | zero => exact absurd HA.1 (by simp [graph_reached.l0])
  | succ k1 =>
   have H := HA.1
   clear HA
   simp only [graph_reached.l0] at H
   by_cases c9 : (x6_1.length : Int) > 0
   rotate_left
   · rw [if_neg c9] at H
     have c9b0 : decide (0 < (x6_1.length : Int)) = false := decide_eq_false c9
     have c9b1 : decide (0 < x6_1.length) = false := decide_eq_false (by omega)
     clear c9
     obtain rfl := Option.some.inj H
     obtain ⟨Ao30, co30, eo30⟩ := R_slice HO_6.1
     subst eo30
     go_wp2
     go_ret
     exact ⟨_, by first | rfl | (simp [errW_none, errW_some] <;> rfl) | (simp [*, errW_none, errW_some] <;> rfl), by (with_reducible repeat (first | apply R_alloc | apply R_drewN | apply R_drew)); exact HO_5.1, by repeat (first | (with_reducible first | exact HB.1 | apply bA | apply bN | apply bD) | exact HB.1)⟩
   rw [if_pos c9] at H
   have c9b0 : decide (0 < (x6_1.length : Int)) = true := decide_eq_true c9
   have c9b1 : decide (0 < x6_1.length) = true := decide_eq_true (by omega)
   clear c9
   obtain ⟨ji10, hji10⟩ : ∃ j_ : Int, (wrap64 ((x6_1.length : Int) - 1)) = j_ := ⟨_, rfl⟩
   replace H : (if 0 <= (ji10) then (if (ji10) < (x6_1.length : Int) then (if (ji10) <= (x6_1.length : Int) then ((some (x6_1.take ((ji10) : Int).toNat : List Int)).bind fun y125 => (if 0 <= (rd x6_1 (ji10)) then (if (rd x6_1 (ji10)) < (x5_1.length : Int) then (if (rdOf false x5_1 (rd x6_1 (ji10)) = true) then (graph_reached.l0 k1 l0 x5_1 y125) else (if (rd x6_1 (ji10)) < (l0.length : Int) then (if y125.length + (rd_L1 l0 (rd x6_1 (ji10))).length < 17592186044416 then (graph_reached.l0 k1 l0 (x5_1.set ((rd x6_1 (ji10)) : Int).toNat true) (y125 ++ (rd_L1 l0 (rd x6_1 (ji10))))) else (none)) else (none))) else (none)) else (none))) else (none)) else (none)) else (none)) = some r := by first | (rw [hji10] at H; exact H) | (simp only [hji10] at H ⊢; exact H)
   have hji10w : (IntKind.i64.wrap ((x6_1.length : Int) - 1)) = ji10 := (i64_w _).trans hji10
   by_cases c11 : 0 <= (ji10)
   rotate_left
   · rw [if_neg c11] at H
     exact absurd H (by simp)
   rw [if_pos c11] at H
   have c11b0 : decide (0 <= (ji10)) = true := decide_eq_true c11
   clear c11
   by_cases c12 : (ji10) < (x6_1.length : Int)
   rotate_left
   · rw [if_neg c12] at H
     exact absurd H (by simp)
   rw [if_pos c12] at H
   have c12b0 : decide ((ji10) < (x6_1.length : Int)) = true := decide_eq_true c12
   clear c12
   by_cases c13 : (ji10) <= (x6_1.length : Int)
   rotate_left
   · rw [if_neg c13] at H
     exact absurd H (by simp)
   rw [if_pos c13] at H
   have c13b0 := eq_true c13
   have c13b1 : decide ((ji10) <= (x6_1.length : Int)) = true := decide_eq_true c13
   clear c13
   obtain ⟨y125, hy125⟩ : ∃ y_ : List Int, y_ = (x6_1.take ((ji10) : Int).toNat) := ⟨_, rfl⟩
   replace H : (if 0 <= (rd x6_1 (ji10)) then (if (rd x6_1 (ji10)) < (x5_1.length : Int) then (if (rdOf false x5_1 (rd x6_1 (ji10)) = true) then (graph_reached.l0 k1 l0 x5_1 y125) else (if (rd x6_1 (ji10)) < (l0.length : Int) then (if y125.length + (rd_L1 l0 (rd x6_1 (ji10))).length < 17592186044416 then (graph_reached.l0 k1 l0 (x5_1.set ((rd x6_1 (ji10)) : Int).toNat true) (y125 ++ (rd_L1 l0 (rd x6_1 (ji10))))) else (none)) else (none))) else (none)) else (none)) = some r := by first | (rw [hy125]; with_reducible exact H) | (have H2_ := (Option.bind_some _ _).symm.trans H; rw [hy125]; with_reducible exact H2_) | (have H2_ := (Option.bind_some _ _).symm.trans H; with_reducible exact H2_) | with_reducible exact H | (rw [hy125]; exact H) | exact H
   have Ny125 := aM hy125
   clear hy125
   by_cases c14 : 0 <= (rd x6_1 (ji10))
   rotate_left
   · rw [if_neg c14] at H
     exact absurd H (by simp)
   rw [if_pos c14] at H
   have c14b0 : decide (0 <= (rd x6_1 (ji10))) = true := decide_eq_true c14
   clear c14
   by_cases c15 : (rd x6_1 (ji10)) < (x5_1.length : Int)
   rotate_left
   · rw [if_neg c15] at H
     exact absurd H (by simp)
   rw [if_pos c15] at H
   have c15b0 : decide ((rd x6_1 (ji10)) < (x5_1.length : Int)) = true := decide_eq_true c15
   clear c15
   obtain ⟨bq16, hbq16⟩ : ∃ b_ : Bool, b_ = (rdOf false x5_1 (rd x6_1 (ji10))) := ⟨_, rfl⟩
   replace H : (if (bq16 = true) then (graph_reached.l0 k1 l0 x5_1 y125) else (if (rd x6_1 (ji10)) < (l0.length : Int) then (if y125.length + (rd_L1 l0 (rd x6_1 (ji10))).length < 17592186044416 then (graph_reached.l0 k1 l0 (x5_1.set ((rd x6_1 (ji10)) : Int).toNat true) (y125 ++ (rd_L1 l0 (rd x6_1 (ji10))))) else (none)) else (none))) = some r := by rw [<- hbq16] at H; exact H
   have Nbq16 := aM hbq16
   clear hbq16
   by_cases c17 : (bq16 = true)
   · subst c17
     have H1 : (graph_reached.l0 k1 l0 x5_1 y125) = some r := by rw [if_pos rfl] at H; exact H
     clear H
     have H := H1
     clear H1
     have H' := aM H
     clear H
     obtain ⟨Ao18, co18, eo18⟩ := R_slice HO_6.1
     subst eo18
     have p124 : 0 <= ((ji10) : Int) := of_decide_eq_true (by first | (with_reducible assumption) | assumption)
     have q124 : (ji10) < (x6_1.length : Int) := of_decide_eq_true (by first | (with_reducible assumption) | assumption)
     obtain ⟨ad124, e124, hx124_0⟩ := Kd.at_int (R_reads' HO_6.1).2.2 (ji10) p124 q124
     cases e124
     replace p124 := eq_true p124
     replace q124 := eq_true q124
     have q19 : ((ji10) : Int) <= ((x6_1.length : Int) : Int) := of_decide_eq_true (by first | (with_reducible assumption) | assumption)
     obtain ⟨i019, hi019, _, hsz19, _⟩ := info_parts info3
     have hcut19 := cut_to (P := Try.prog) 32 3 .i64 Try.underlying32 hi019 (some ad124) x6_1.length co18 (ji10) (of_decide_eq_true (by first | (with_reducible assumption) | assumption)) q19 (R_reads' HO_6.1).2.1
     have hr19 := R_take (m := ((ji10) : Int).toNat) HO_6.1 (by omega)
     have hy19 : y125.length = ((ji10) : Int).toNat := (by rw [Ny125.1, List.length_take]; omega)
     rw [<- Ny125.1] at hr19
     rw [<- hy19] at hr19 hcut19
     clear hy19 hi019 hsz19 HO_6
     have HO127 := aM hr19
     clear hr19
     replace q19 := eq_true q19
     obtain ⟨Ao20, co20, eo20⟩ := R_slice HO_5.1
     subst eo20
     have p128 : 0 <= ((rd x6_1 (ji10)) : Int) := of_decide_eq_true (by first | (with_reducible assumption) | assumption)
     have q128 : (rd x6_1 (ji10)) < (x5_1.length : Int) := of_decide_eq_true (by first | (with_reducible assumption) | assumption)
     obtain ⟨ad128, e128, hx128_0⟩ := Kd.at_bool (R_reads' HO_5.1).2.2 (rd x6_1 (ji10)) p128 q128
     (try rw [<- Nbq16.1] at hx128_0)
     cases e128
     replace p128 := eq_true p128
     replace q128 := eq_true q128
     go_wp2
     go_roundg k1
     case measure => have := HK1.1; omega
     case rel => exact ⟨(x5_1), (y125), H', ⟨by have := HK1.1; omega⟩, ⟨by (with_reducible repeat (first | apply R_alloc | apply R_drewN | apply R_drew)); exact HO_5.1⟩, ⟨by (with_reducible repeat (first | apply R_alloc | apply R_drewN | apply R_drew)); exact HO127.1⟩, ⟨by repeat (first | (with_reducible first | exact HB.1 | apply bA | apply bN | apply bD) | exact HB.1)⟩⟩
   replace c17 := Bool.eq_false_iff.mpr c17
   subst c17
   have H1 : (if (rd x6_1 (ji10)) < (l0.length : Int) then (if y125.length + (rd_L1 l0 (rd x6_1 (ji10))).length < 17592186044416 then (graph_reached.l0 k1 l0 (x5_1.set ((rd x6_1 (ji10)) : Int).toNat true) (y125 ++ (rd_L1 l0 (rd x6_1 (ji10))))) else (none)) else (none)) = some r := by rw [if_neg (show ¬ (false = true) by decide)] at H; exact H
   clear H
   have H := H1
   clear H1
   obtain ⟨y129, hy129⟩ : ∃ y_ : List Bool, y_ = (x5_1.set ((rd x6_1 (ji10)) : Int).toNat true) := ⟨_, rfl⟩
   replace H : (if (rd x6_1 (ji10)) < (l0.length : Int) then (if y125.length + (rd_L1 l0 (rd x6_1 (ji10))).length < 17592186044416 then (graph_reached.l0 k1 l0 y129 (y125 ++ (rd_L1 l0 (rd x6_1 (ji10))))) else (none)) else (none)) = some r := by first | (rw [hy129]; with_reducible exact H) | (have H2_ := (Option.bind_some _ _).symm.trans H; rw [hy129]; with_reducible exact H2_) | (have H2_ := (Option.bind_some _ _).symm.trans H; with_reducible exact H2_) | with_reducible exact H | (rw [hy129]; exact H) | exact H
   have Ny129 := aM hy129
   clear hy129
   by_cases c22 : (rd x6_1 (ji10)) < (l0.length : Int)
   rotate_left
   · rw [if_neg c22] at H
     exact absurd H (by simp)
   rw [if_pos c22] at H
   have c22b0 : decide ((rd x6_1 (ji10)) < (l0.length : Int)) = true := decide_eq_true c22
   clear c22
   by_cases c23 : y125.length + (rd_L1 l0 (rd x6_1 (ji10))).length < 17592186044416
   rotate_left
   · rw [if_neg c23] at H
     exact absurd H (by simp)
   rw [if_pos c23] at H
   have LMc23 := aM c23
   clear c23
   obtain ⟨y131, hy131⟩ : ∃ y_ : List Int, y_ = (y125 ++ (rd_L1 l0 (rd x6_1 (ji10)))) := ⟨_, rfl⟩
   replace H : (graph_reached.l0 k1 l0 y129 y131) = some r := by first | (rw [hy131]; with_reducible exact H) | (have H2_ := (Option.bind_some _ _).symm.trans H; rw [hy131]; with_reducible exact H2_) | (have H2_ := (Option.bind_some _ _).symm.trans H; with_reducible exact H2_) | with_reducible exact H | (rw [hy131]; exact H) | exact H
   have Ny131 := aM hy131
   clear hy131
   have H' := aM H
   clear H
   obtain ⟨Ao24, co24, eo24⟩ := R_slice HO_6.1
   subst eo24
   have p124 : 0 <= ((ji10) : Int) := of_decide_eq_true (by first | (with_reducible assumption) | assumption)
   have q124 : (ji10) < (x6_1.length : Int) := of_decide_eq_true (by first | (with_reducible assumption) | assumption)
   obtain ⟨ad124, e124, hx124_0⟩ := Kd.at_int (R_reads' HO_6.1).2.2 (ji10) p124 q124
   cases e124
   replace p124 := eq_true p124
   replace q124 := eq_true q124
   have q25 : ((ji10) : Int) <= ((x6_1.length : Int) : Int) := of_decide_eq_true (by first | (with_reducible assumption) | assumption)
   obtain ⟨i025, hi025, _, hsz25, _⟩ := info_parts info3
   have hcut25 := cut_to (P := Try.prog) 32 3 .i64 Try.underlying32 hi025 (some ad124) x6_1.length co24 (ji10) (of_decide_eq_true (by first | (with_reducible assumption) | assumption)) q25 (R_reads' HO_6.1).2.1
   have hr25 := R_take (m := ((ji10) : Int).toNat) HO_6.1 (by omega)
   have hy25 : y125.length = ((ji10) : Int).toNat := (by rw [Ny125.1, List.length_take]; omega)
   rw [<- Ny125.1] at hr25
   rw [<- hy25] at hr25 hcut25
   clear hy25 hi025 hsz25 HO_6
   have HO127 := aM hr25
   clear hr25
   replace q25 := eq_true q25
   obtain ⟨Ao26, co26, eo26⟩ := R_slice HO_5.1
   subst eo26
   have p128 : 0 <= ((rd x6_1 (ji10)) : Int) := of_decide_eq_true (by first | (with_reducible assumption) | assumption)
   have q128 : (rd x6_1 (ji10)) < (x5_1.length : Int) := of_decide_eq_true (by first | (with_reducible assumption) | assumption)
   obtain ⟨ad128, e128, hx128_0⟩ := Kd.at_bool (R_reads' HO_5.1).2.2 (rd x6_1 (ji10)) p128 q128
   (try rw [<- Nbq16.1] at hx128_0)
   cases e128
   replace p128 := eq_true p128
   replace q128 := eq_true q128
   have p21 : 0 <= ((rd x6_1 (ji10)) : Int) := of_decide_eq_true (by first | (with_reducible assumption) | assumption)
   have q21 : ((rd x6_1 (ji10)) : Int) < ((x5_1.length : Int) : Int) := of_decide_eq_true (by first | (with_reducible assumption) | assumption)
   obtain ⟨go21, co21, eo21, gb21, gl21, cl21, HG21⟩ := R_form HO_5.1 (by omega)
   (first | cases eo21 | (injection eo21 with ea_ en_ ec_; (first | subst ea_ | (injection ea_ with ea_; subst ea_)); subst ec_; clear en_))
   have GB21 := aM gb21
   have GG21 := aM HG21
   clear gb21 gl21 HG21
   (first | simp only [add_plain] at hx128_0 | skip)
   obtain ⟨hx21_0, hf21_0⟩ := R_celln false HO_5.1 ((rd x6_1 (ji10)) : Int) p21 q21
   replace p21 := eq_true p21
   replace q21 := eq_true q21
   have HP27 := R_putg HO_5.1 ((rd x6_1 (ji10)) : Int) true
   go_wp2_with (first | ((with_reducible refine gate_store (t := 4) (p := 34) rfl ?_); refine store_event (t := 4) (p := 34) (v := ?vo_w28) (w1 := (wr.setCell ⟨go21, ((rd x6_1 (ji10)) : Int).toNat, none⟩ (.bool true))) ?hg ?ho ?hn ?hr ?_; (case ho => rfl); (case hg => rfl); (case hn => rfl); (case hr => first | (go_simp; done) | (go_simp; rfl)); intro w28 hw; have hg : wr.grownBy w28 (some go21) := (by rw [hw]; exact HP27.2); have hp_ : Kd.R Kd.bool 4 w28 w.heap.size (fun _ => True) (.slice (some ⟨go21, 0, none⟩) x5_1.length co26) y129 := (by rw [hw, Ny129.1]; exact HP27.1); clear HP27; have n0_ := aM (hp_); have n1_ := aM (R_over' (v := (.slice (some ⟨go21, 0, none⟩) x5_1.length co26)) (by (with_reducible repeat (first | apply R_alloc | apply R_drewN | apply R_drew)); exact HO127.1) (R_typed HO_5.1) (by decide) hg); have n2_ := aM ((by rw [hw]; exact below_set (HB.1) GB21.1 : Below w.heap.size w w28)); clear HO_5; clear HO127; clear HB; have HO_5 := n0_; have HO127 := n1_; have HB := n2_; clear n0_ n1_ n2_; clear hg hw hp_; have p130 : 0 <= ((rd x6_1 (ji10)) : Int) := of_decide_eq_true (by first | (with_reducible assumption) | assumption); have q130 : (rd x6_1 (ji10)) < (l0.length : Int) := of_decide_eq_true (by first | (with_reducible assumption) | assumption); obtain ⟨ad130, A130_0, c130_0, e130, hx130_0, hl130_0, hi130_0⟩ := at_L1 HR0.1 (rd x6_1 (ji10)) p130 q130; cases e130; replace hx130_0 := (HB.1.cell (World.block_lt_of_cell? w _ hx130_0)).trans hx130_0; have HR130_0 := aM hi130_0; have HC130_0 := aM hl130_0; clear hi130_0 hl130_0; replace p130 := eq_true p130; replace q130 := eq_true q130) | ((with_reducible refine gate_builtin (b := .append) (xs := #[.tmp 35, .tmp 39]) rfl ?_); at_builtin; refine R_append_rows (Kd.int .i64) (w0 := w) w.heap.size rfl (.tmp 35) (.tmp 39) 32 3 (.int .i64 0) 8 rfl Try.underlying32 info3 rfl (by decide) (by omega) (.slice (some ad124) y125.length co24) y125 (rd_L1 l0 (rd x6_1 (ji10))) _ _ _ (fun _ => True) (fun _ => False) rfl rfl ?aO ?aR (fun _ _ h => h) (fun _ h => h.elim) ?aF ?aB ?aS ?aL ?_; (case aR => repeat (first | exact (C_below HR130_0.1 HB.1) | (with_reducible refine C_alloc ?_ _) | (with_reducible refine C_drewN ?_ _) | (with_reducible refine C_drew ?_))); (case aB => exact (by repeat (first | (with_reducible first | exact HB.1 | apply bA | apply bN | apply bD) | exact HB.1))); (case aF => exact (fun _ _ => trivial)); (case aO => exact (by (with_reducible repeat (first | apply R_alloc | apply R_drewN | apply R_drew)); exact HO127.1)); (case aS => exact (below_size (by repeat (first | (with_reducible first | exact HB.1 | apply bA | apply bN | apply bD) | exact HB.1)))); (case aL => have := LMc23.1; omega); intro v132 w29 ho hb hg hat; rw [<- Ny131.1] at ho; have n0_ := aM (R_over' (by (with_reducible repeat (first | apply R_alloc | apply R_drewN | apply R_drew)); exact HO_5.1) (R_typed (by (with_reducible repeat (first | apply R_alloc | apply R_drewN | apply R_drew)); exact HO127.1)) (by decide) hg); have n1_ := aM (hb); have n2_ := aM (ho); clear HO_5; clear HB; clear HO127; have HO_5 := n0_; have HB := n1_; have HO133 := n2_; clear n0_ n1_ n2_; clear ho hb hg hat))
   go_roundg k1
   case measure => have := HK1.1; omega
   case rel => exact ⟨(y129), (y131), H', ⟨by have := HK1.1; omega⟩, ⟨by (with_reducible repeat (first | apply R_alloc | apply R_drewN | apply R_drew)); exact HO_5.1⟩, ⟨by (with_reducible repeat (first | apply R_alloc | apply R_drewN | apply R_drew)); exact HO133.1⟩, ⟨by repeat (first | (with_reducible first | exact HB.1 | apply bA | apply bN | apply bD) | exact HB.1)⟩⟩
noncomputable def graph_Cyclic.f (k : Nat) (l0_0 : List (List Int)) (a1 : Int) : Option (Bool) := (graph_valid.f k l0_0).bind fun t135 => (if t135 = true then (if a1 < 0 then (some false) else (if a1 >= (l0_0.length : Int) then (some false) else (if 0 <= a1 then (if a1 < (l0_0.length : Int) then ((graph_reached.f k l0_0 (rd_L1 l0_0 a1)).bind fun t137 => (if a1 < (t137.length : Int) then (some (rdOf false t137 a1)) else (none))) else (none)) else (none)))) else (some false))
noncomputable def graph_Cyclic.T3 : Bool × List (List Nat × List Nat) := (true, [([], []), ([0], [0]), ([], []), ([2], [2]), ([], []), ([3, 4], [3, 4]), ([5], [5]), ([1, 6], [1, 6]), ([], []), ([7, 8], [7, 8]), ([9], [9]), ([10, 7, 0, 1, 2, 3, 4, 5, 6, 7, 8, 9, 10], [10])])
noncomputable def graph_Cyclic.B3 : List Nat := [0, 1, 0, 4, 0, 28, 60, 127, 0, 511, 1023, 2047]
theorem graph_Cyclic.tab3 : rtab .any (opsOf Try.f20 3) = graph_Cyclic.T3 := by kernel_rfl
theorem graph_Cyclic.bits3 : waitsOk graph_Cyclic.T3.2 graph_Cyclic.B3 = true := by kernel_rfl
theorem graph_Cyclic.calls (k : Nat) (A0_0 : Option Addr) (c0_0 : Nat) (l0_0 : List (List Int)) (a1 : Int) (r : Bool) (w : World) (hr0_0 : Kd.C (Kd.slice 3 (Kd.int .i64)) w A0_0 l0_0.length l0_0) (hc0_0 : l0_0.length <= c0_0) (h : graph_Cyclic.f k l0_0 a1 = some r) :
 Calls Try.prog 20 #[.agg #[.slice A0_0 l0_0.length c0_0], .int .i64 a1] w fun e w' => e = .returned (.bool r) /\ Below w.heap.size w w' := by
 have hu24 := Try.underlying24
 have HR0_0 := aM hr0_0
 have HC0_0 := aM hc0_0
 clear hr0_0 hc0_0
 have HB := aM (Below.refl w.heap.size w)
 have H : ((graph_valid.f k l0_0).bind fun t135 => (if t135 = true then (if a1 < 0 then (some false) else (if a1 >= (l0_0.length : Int) then (some false) else (if 0 <= a1 then (if a1 < (l0_0.length : Int) then ((graph_reached.f k l0_0 (rd_L1 l0_0 a1)).bind fun t137 => (if a1 < (t137.length : Int) then (some (rdOf false t137 a1)) else (none))) else (none)) else (none)))) else (some false))) = some r := h
 clear h
 replace H := Option.bind_eq_some_iff.mp H
 obtain ⟨t135, A30, H⟩ := H
 replace H : (if t135 = true then (if a1 < 0 then (some false) else (if a1 >= (l0_0.length : Int) then (some false) else (if 0 <= a1 then (if a1 < (l0_0.length : Int) then ((graph_reached.f k l0_0 (rd_L1 l0_0 a1)).bind fun t137 => (if a1 < (t137.length : Int) then (some (rdOf false t137 a1)) else (none))) else (none)) else (none)))) else (some false)) = some r := H
 have A3 := aM A30
 clear A30
 by_cases c4 : t135 = true
 rotate_left
 · replace c4 := Bool.eq_false_iff.mpr c4
   subst c4
   have H1 : (some false) = some r := by rw [if_neg (show ¬ (false = true) by decide)] at H; exact H
   clear H
   have H := H1
   clear H1
   obtain rfl := Option.some.inj H
   go_enter Try.func20, Try.ntmps20
   go_wp2_with (first | ((with_reducible refine gate_dst (N := 2) rfl ?_); (try (refine gate_guard (by rfl) ?_; dsimp only)); refine box_event ?hg (N := 2) ?hd (cs := #[.slice A0_0 l0_0.length c0_0]) (t := 24) ?hr ?_; (case hd => rfl); (case hg => rfl); (case hr => first | (go_simp; done) | (go_simp; rfl)); intro gb134 hg w25 hbox hb; have n0_ := aM (below_step (by repeat (first | (with_reducible first | exact HB.1 | apply bA | apply bN | apply bD) | exact HB.1)) hb); have n1_ := aM (hbox); have n2_ := aM ((by rw [hg]; exact (below_size (by repeat (first | (with_reducible first | exact HB.1 | apply bA | apply bN | apply bD) | exact HB.1))) : w.heap.size <= gb134)); have n3_ := aM ((by rw [hg]; exact (below_size (by repeat (first | (with_reducible first | exact HB.1 | apply bA | apply bN | apply bD) | exact HB.1))) : w.heap.size <= gb134)); clear HB; have HB := n0_; have BK134 := n1_; have GW134 := n2_; have GE134 := n3_; clear n0_ n1_ n2_ n3_; clear hb hbox hg; have hcz26_0 : w25.cell? ⟨gb134, 0, none⟩ = some (.slice A0_0 l0_0.length c0_0) := (blk_cell BK134.1 0).trans rfl; have hfz26_0 := blk_frozen BK134.1 0) | ((with_reducible refine gate_callee (f := 27) rfl ?_); refine goesL_ (some 6) rfl rfl Try.func27 (by kernel_rfl) rfl #[.agg #[.slice A0_0 l0_0.length c0_0]] rfl (by (try simp only [List.map_toArray, List.map_cons, List.map_nil]); first | done | rfl | (simp only [List.length_drop, List.length_take]; rfl)) ?_; (with_reducible refine (graph_valid.calls k _ _ l0_0 false _ ?side1 ?side2 A3.1).mono ?_); (case side1 => repeat (first | exact (C_below HR0_0.1 HB.1) | (with_reducible refine C_alloc ?_ _) | (with_reducible refine C_drewN ?_ _) | (with_reducible refine C_drew ?_))); (case side2 => exact HC0_0.1); rintro e w27 ⟨rfl, hb⟩; refine ⟨_, rfl, ?_⟩; have n0_ := aM (blk_below (g := gb134) (o := .cells #[.slice A0_0 l0_0.length c0_0] 24 (0, 0)) (by (with_reducible repeat (first | refine kN ?_ _ | refine kD ?_ | refine kA ?_ _)); exact BK134.1) hb); have n1_ := aM (below_step (by repeat (first | (with_reducible first | exact HB.1 | apply bA | apply bN | apply bD | refine below_set ?_ GE134.1) | exact HB.1)) hb); clear BK134; clear HB; have BK134 := n0_; have HB := n1_; clear n0_ n1_; (try clear hb); (try clear hb2); (try clear hk); (try clear hi)))
   go_ret
   exact ⟨by first | rfl | (simp [errW_none, errW_some] <;> rfl) | (simp [*, errW_none, errW_some] <;> rfl), by repeat (first | (with_reducible first | exact HB.1 | apply bA | apply bN | apply bD | refine below_set ?_ GE134.1) | exact HB.1)⟩
 subst c4
 have H1 : (if a1 < 0 then (some false) else (if a1 >= (l0_0.length : Int) then (some false) else (if 0 <= a1 then (if a1 < (l0_0.length : Int) then ((graph_reached.f k l0_0 (rd_L1 l0_0 a1)).bind fun t137 => (if a1 < (t137.length : Int) then (some (rdOf false t137 a1)) else (none))) else (none)) else (none)))) = some r := by rw [if_pos rfl] at H; exact H
 clear H
 have H := H1
 clear H1
 by_cases c5 : a1 < 0
 · rw [if_pos c5] at H
   have c5b0 : decide (a1 < 0) = true := decide_eq_true c5
   clear c5
   obtain rfl := Option.some.inj H
   go_enter Try.func20, Try.ntmps20
   go_wp2_with (first | ((with_reducible refine gate_dst (N := 2) rfl ?_); (try (refine gate_guard (by rfl) ?_; dsimp only)); refine box_event ?hg (N := 2) ?hd (cs := #[.slice A0_0 l0_0.length c0_0]) (t := 24) ?hr ?_; (case hd => rfl); (case hg => rfl); (case hr => first | (go_simp; done) | (go_simp; rfl)); intro gb134 hg w6 hbox hb; have n0_ := aM (below_step (by repeat (first | (with_reducible first | exact HB.1 | apply bA | apply bN | apply bD) | exact HB.1)) hb); have n1_ := aM (hbox); have n2_ := aM ((by rw [hg]; exact (below_size (by repeat (first | (with_reducible first | exact HB.1 | apply bA | apply bN | apply bD) | exact HB.1))) : w.heap.size <= gb134)); have n3_ := aM ((by rw [hg]; exact (below_size (by repeat (first | (with_reducible first | exact HB.1 | apply bA | apply bN | apply bD) | exact HB.1))) : w.heap.size <= gb134)); clear HB; have HB := n0_; have BK134 := n1_; have GW134 := n2_; have GE134 := n3_; clear n0_ n1_ n2_ n3_; clear hb hbox hg; have hcz7_0 : w6.cell? ⟨gb134, 0, none⟩ = some (.slice A0_0 l0_0.length c0_0) := (blk_cell BK134.1 0).trans rfl; have hfz7_0 := blk_frozen BK134.1 0) | ((with_reducible refine gate_callee (f := 27) rfl ?_); refine goesL_ (some 6) rfl rfl Try.func27 (by kernel_rfl) rfl #[.agg #[.slice A0_0 l0_0.length c0_0]] rfl (by (try simp only [List.map_toArray, List.map_cons, List.map_nil]); first | done | rfl | (simp only [List.length_drop, List.length_take]; rfl)) ?_; (with_reducible refine (graph_valid.calls k _ _ l0_0 true _ ?side1 ?side2 A3.1).mono ?_); (case side1 => repeat (first | exact (C_below HR0_0.1 HB.1) | (with_reducible refine C_alloc ?_ _) | (with_reducible refine C_drewN ?_ _) | (with_reducible refine C_drew ?_))); (case side2 => exact HC0_0.1); rintro e w8 ⟨rfl, hb⟩; refine ⟨_, rfl, ?_⟩; have n0_ := aM (blk_below (g := gb134) (o := .cells #[.slice A0_0 l0_0.length c0_0] 24 (0, 0)) (by (with_reducible repeat (first | refine kN ?_ _ | refine kD ?_ | refine kA ?_ _)); exact BK134.1) hb); have n1_ := aM (below_step (by repeat (first | (with_reducible first | exact HB.1 | apply bA | apply bN | apply bD | refine below_set ?_ GE134.1) | exact HB.1)) hb); clear BK134; clear HB; have BK134 := n0_; have HB := n1_; clear n0_ n1_; (try clear hb); (try clear hb2); (try clear hk); (try clear hi)))
   go_ret
   exact ⟨by first | rfl | (simp [errW_none, errW_some] <;> rfl) | (simp [*, errW_none, errW_some] <;> rfl), by repeat (first | (with_reducible first | exact HB.1 | apply bA | apply bN | apply bD | refine below_set ?_ GE134.1) | exact HB.1)⟩
 rw [if_neg c5] at H
 have c5b0 : decide (a1 < 0) = false := decide_eq_false c5
 clear c5
 by_cases c9 : a1 >= (l0_0.length : Int)
 · rw [if_pos c9] at H
   have c9b0 : decide ((l0_0.length : Int) <= a1) = true := decide_eq_true c9
   clear c9
   obtain rfl := Option.some.inj H
   go_enter Try.func20, Try.ntmps20
   go_wp2_with (first | ((with_reducible refine gate_dst (N := 2) rfl ?_); (try (refine gate_guard (by rfl) ?_; dsimp only)); refine box_event ?hg (N := 2) ?hd (cs := #[.slice A0_0 l0_0.length c0_0]) (t := 24) ?hr ?_; (case hd => rfl); (case hg => rfl); (case hr => first | (go_simp; done) | (go_simp; rfl)); intro gb134 hg w10 hbox hb; have n0_ := aM (below_step (by repeat (first | (with_reducible first | exact HB.1 | apply bA | apply bN | apply bD) | exact HB.1)) hb); have n1_ := aM (hbox); have n2_ := aM ((by rw [hg]; exact (below_size (by repeat (first | (with_reducible first | exact HB.1 | apply bA | apply bN | apply bD) | exact HB.1))) : w.heap.size <= gb134)); have n3_ := aM ((by rw [hg]; exact (below_size (by repeat (first | (with_reducible first | exact HB.1 | apply bA | apply bN | apply bD) | exact HB.1))) : w.heap.size <= gb134)); clear HB; have HB := n0_; have BK134 := n1_; have GW134 := n2_; have GE134 := n3_; clear n0_ n1_ n2_ n3_; clear hb hbox hg; have hcz11_0 : w10.cell? ⟨gb134, 0, none⟩ = some (.slice A0_0 l0_0.length c0_0) := (blk_cell BK134.1 0).trans rfl; have hfz11_0 := blk_frozen BK134.1 0) | ((with_reducible refine gate_callee (f := 27) rfl ?_); refine goesL_ (some 6) rfl rfl Try.func27 (by kernel_rfl) rfl #[.agg #[.slice A0_0 l0_0.length c0_0]] rfl (by (try simp only [List.map_toArray, List.map_cons, List.map_nil]); first | done | rfl | (simp only [List.length_drop, List.length_take]; rfl)) ?_; (with_reducible refine (graph_valid.calls k _ _ l0_0 true _ ?side1 ?side2 A3.1).mono ?_); (case side1 => repeat (first | exact (C_below HR0_0.1 HB.1) | (with_reducible refine C_alloc ?_ _) | (with_reducible refine C_drewN ?_ _) | (with_reducible refine C_drew ?_))); (case side2 => exact HC0_0.1); rintro e w12 ⟨rfl, hb⟩; refine ⟨_, rfl, ?_⟩; have n0_ := aM (blk_below (g := gb134) (o := .cells #[.slice A0_0 l0_0.length c0_0] 24 (0, 0)) (by (with_reducible repeat (first | refine kN ?_ _ | refine kD ?_ | refine kA ?_ _)); exact BK134.1) hb); have n1_ := aM (below_step (by repeat (first | (with_reducible first | exact HB.1 | apply bA | apply bN | apply bD | refine below_set ?_ GE134.1) | exact HB.1)) hb); clear BK134; clear HB; have BK134 := n0_; have HB := n1_; clear n0_ n1_; (try clear hb); (try clear hb2); (try clear hk); (try clear hi); have hcz13_0 : w12.cell? ⟨gb134, 0, none⟩ = some (.slice A0_0 l0_0.length c0_0) := (blk_cell BK134.1 0).trans rfl; have hfz13_0 := blk_frozen BK134.1 0))
   go_ret
   exact ⟨by first | rfl | (simp [errW_none, errW_some] <;> rfl) | (simp [*, errW_none, errW_some] <;> rfl), by repeat (first | (with_reducible first | exact HB.1 | apply bA | apply bN | apply bD | refine below_set ?_ GE134.1) | exact HB.1)⟩
 rw [if_neg c9] at H
 have c9b0 : decide ((l0_0.length : Int) <= a1) = false := decide_eq_false c9
 clear c9
 by_cases c14 : 0 <= a1
 rotate_left
 · rw [if_neg c14] at H
   exact absurd H (by simp)
 rw [if_pos c14] at H
 have c14b0 : decide (0 <= a1) = true := decide_eq_true c14
 clear c14
 by_cases c15 : a1 < (l0_0.length : Int)
 rotate_left
 · rw [if_neg c15] at H
   exact absurd H (by simp)
 rw [if_pos c15] at H
 have c15b0 : decide (a1 < (l0_0.length : Int)) = true := decide_eq_true c15
 clear c15
 replace H := Option.bind_eq_some_iff.mp H
 obtain ⟨t137, A160, H⟩ := H
 replace H : (if a1 < (t137.length : Int) then (some (rdOf false t137 a1)) else (none)) = some r := H
 have A16 := aM A160
 clear A160
 by_cases c17 : a1 < (t137.length : Int)
 rotate_left
 · rw [if_neg c17] at H
   exact absurd H (by simp)
 rw [if_pos c17] at H
 have c17b0 : decide (a1 < (t137.length : Int)) = true := decide_eq_true c17
 clear c17
 obtain rfl := Option.some.inj H
 go_enter Try.func20, Try.ntmps20
 try go_wp2_with (first | ((with_reducible refine gate_dst (N := 2) rfl ?_); (try (refine gate_guard (by rfl) ?_; dsimp only)); refine box_event ?hg (N := 2) ?hd (cs := #[.slice A0_0 l0_0.length c0_0]) (t := 24) ?hr ?_; (case hd => rfl); (case hg => rfl); (case hr => first | (go_simp; done) | (go_simp; rfl)); intro gb134 hg w18 hbox hb; have n0_ := aM (below_step (by repeat (first | (with_reducible first | exact HB.1 | apply bA | apply bN | apply bD) | exact HB.1)) hb); have n1_ := aM (hbox); have n2_ := aM ((by rw [hg]; exact (below_size (by repeat (first | (with_reducible first | exact HB.1 | apply bA | apply bN | apply bD) | exact HB.1))) : w.heap.size <= gb134)); have n3_ := aM ((by rw [hg]; exact (below_size (by repeat (first | (with_reducible first | exact HB.1 | apply bA | apply bN | apply bD) | exact HB.1))) : w.heap.size <= gb134)); clear HB; have HB := n0_; have BK134 := n1_; have GW134 := n2_; have GE134 := n3_; clear n0_ n1_ n2_ n3_; clear hb hbox hg; have hcz19_0 : w18.cell? ⟨gb134, 0, none⟩ = some (.slice A0_0 l0_0.length c0_0) := (blk_cell BK134.1 0).trans rfl; have hfz19_0 := blk_frozen BK134.1 0) | ((with_reducible refine gate_callee (f := 27) rfl ?_); refine goesL_ (some 6) rfl rfl Try.func27 (by kernel_rfl) rfl #[.agg #[.slice A0_0 l0_0.length c0_0]] rfl (by (try simp only [List.map_toArray, List.map_cons, List.map_nil]); first | done | rfl | (simp only [List.length_drop, List.length_take]; rfl)) ?_; (with_reducible refine (graph_valid.calls k _ _ l0_0 true _ ?side1 ?side2 A3.1).mono ?_); (case side1 => repeat (first | exact (C_below HR0_0.1 HB.1) | (with_reducible refine C_alloc ?_ _) | (with_reducible refine C_drewN ?_ _) | (with_reducible refine C_drew ?_))); (case side2 => exact HC0_0.1); rintro e w20 ⟨rfl, hb⟩; refine ⟨_, rfl, ?_⟩; have n0_ := aM (blk_below (g := gb134) (o := .cells #[.slice A0_0 l0_0.length c0_0] 24 (0, 0)) (by (with_reducible repeat (first | refine kN ?_ _ | refine kD ?_ | refine kA ?_ _)); exact BK134.1) hb); have n1_ := aM (below_step (by repeat (first | (with_reducible first | exact HB.1 | apply bA | apply bN | apply bD | refine below_set ?_ GE134.1) | exact HB.1)) hb); clear BK134; clear HB; have BK134 := n0_; have HB := n1_; clear n0_ n1_; (try clear hb); (try clear hb2); (try clear hk); (try clear hi); have hcz21_0 : w20.cell? ⟨gb134, 0, none⟩ = some (.slice A0_0 l0_0.length c0_0) := (blk_cell BK134.1 0).trans rfl; have hfz21_0 := blk_frozen BK134.1 0))
 have n0_ := aM (blk_drew BK134.1)
 have n1_ := aM (below_drew1 HB.1)
 clear BK134
 clear HB
 have BK134 := n0_
 have HB := n1_
 clear n0_ n1_
 have p136 : 0 <= (a1 : Int) := of_decide_eq_true (by first | (with_reducible assumption) | assumption)
 have q136 : a1 < (l0_0.length : Int) := of_decide_eq_true (by first | (with_reducible assumption) | assumption)
 obtain ⟨ad136, A136_0, c136_0, e136, hx136_0, hl136_0, hi136_0⟩ := at_L1 HR0_0.1 a1 p136 q136
 have hw136_0 := hx136_0
 cases e136
 replace hx136_0 := (HB.1.cell (World.block_lt_of_cell? w _ hx136_0)).trans hx136_0
 have HR136_0 := aM hi136_0
 have HC136_0 := aM hl136_0
 clear hi136_0 hl136_0
 replace p136 := eq_true p136
 replace q136 := eq_true q136
 refine start_ (n := 12) (S := fun w' => w'.cell? ⟨gb134, 0, none⟩ = some (.slice (some ad136) l0_0.length c0_0) /\ w'.cell? (ad136.add (a1).toNat) = some (.slice A136_0 (rd_L1 l0_0 a1).length c136_0)) (ds := []) #[false, false, false, false, false, false, false, false, false, false, false, false] (by kernel_rfl) rfl rfl ⟨(blk_cell BK134.1 0).trans rfl, ((HB.1.cell (World.block_lt_of_cell? w _ hw136_0)).trans hw136_0)⟩ (fun hHeld => ?_); refine with_tabW graph_Cyclic.tab3 graph_Cyclic.bits3 (fun HT_ HW_ => ?_)
 generalize w20.drew = w22 at BK134 HB HR136_0 hx136_0 hHeld ⊢
 refine pure_ (i := 0) (N := some 19) (v := ?_) (a' := ?_) #[true, false, false, false, false, false, false, false, false, false, false, false] rfl rfl (any_of HT_.1 (by kernel_rfl)) (fun _ _ _ h => h) (Or.inl ⟨by rfl, ?_⟩) ?_ ?_
 rotate_left
 · intro w'
   go_simp
   with_reducible rfl
 rotate_left
 · simp only [Act.put, List.setIfInBounds_toArray, List.set_cons_zero, List.set_cons_succ, i64_w, i32_w]
   rfl
 refine pure_ (i := 2) (N := some 21) (v := ?_) (a' := ?_) #[true, false, true, false, false, false, false, false, false, false, false, false] rfl rfl (any_of HT_.1 (by kernel_rfl)) (fun _ _ _ h => h) (Or.inl ⟨by rfl, ?_⟩) ?_ ?_
 rotate_left
 · intro w'
   go_simp
   with_reducible rfl
 rotate_left
 · simp only [Act.put, List.setIfInBounds_toArray, List.set_cons_zero, List.set_cons_succ, i64_w, i32_w]
   rfl
 refine pure_ (i := 4) (N := some 23) (v := ?_) (a' := ?_) #[true, false, true, false, true, false, false, false, false, false, false, false] rfl rfl (any_of HT_.1 (by kernel_rfl)) (fun _ _ _ h => h) (Or.inl ⟨by rfl, ?_⟩) ?_ ?_
 rotate_left
 · intro w'
   go_simp
   with_reducible rfl
 rotate_left
 · simp only [Act.put, List.setIfInBounds_toArray, List.set_cons_zero, List.set_cons_succ, i64_w, i32_w]
   rfl
 refine pure_ (i := 8) (N := some 27) (v := ?_) (a' := ?_) #[true, false, true, false, true, false, false, false, true, false, false, false] rfl rfl (any_of HT_.1 (by kernel_rfl)) (fun _ _ _ h => h) (Or.inl ⟨by rfl, ?_⟩) ?_ ?_
 rotate_left
 · intro w'
   go_simp
   with_reducible rfl
 rotate_left
 · simp only [Act.put, List.setIfInBounds_toArray, List.set_cons_zero, List.set_cons_succ, i64_w, i32_w]
   rfl
 refine take_ (i := 1) (N := some 20) (v := ?_) (a' := ?_) #[true, true, true, false, true, false, false, false, true, false, false, false] rfl rfl (take_ofW HT_.1 HW_.1 (by kernel_rfl)) (fun _ _ _ h => h) (Or.inl ⟨by rfl, ?_⟩) hHeld ?_ ?_
 rotate_left
 · rintro w' ⟨s0, s1⟩
   go_simp
   with_reducible rfl
 rotate_left
 · simp only [Act.put, List.setIfInBounds_toArray, List.set_cons_zero, List.set_cons_succ, i64_w, i32_w]
   rfl
 refine take_ (i := 3) (N := some 22) (v := ?_) (a' := ?_) #[true, true, true, true, true, false, false, false, true, false, false, false] rfl rfl (take_ofW HT_.1 HW_.1 (by kernel_rfl)) (fun _ _ _ h => h) (Or.inl ⟨by rfl, ?_⟩) hHeld ?_ ?_
 rotate_left
 · rintro w' ⟨s0, s1⟩
   go_simp
   with_reducible rfl
 rotate_left
 · simp only [Act.put, List.setIfInBounds_toArray, List.set_cons_zero, List.set_cons_succ, i64_w, i32_w]
   rfl
 refine pure_ (i := 5) (N := some 24) (v := ?_) (a' := ?_) #[true, true, true, true, true, true, false, false, true, false, false, false] rfl rfl (any_of HT_.1 (by kernel_rfl)) (fun _ _ _ h => h) (Or.inl ⟨by rfl, ?_⟩) ?_ ?_
 rotate_left
 · intro w'
   go_simp
   with_reducible rfl
 rotate_left
 · simp only [Act.put, List.setIfInBounds_toArray, List.set_cons_zero, List.set_cons_succ, i64_w, i32_w]
   rfl
 refine take_ (i := 6) (N := some 25) (v := ?_) (a' := ?_) #[true, true, true, true, true, true, true, false, true, false, false, false] rfl rfl (take_ofW HT_.1 HW_.1 (by kernel_rfl)) (fun _ _ _ h => h) (Or.inl ⟨by rfl, ?_⟩) hHeld ?_ ?_
 rotate_left
 · rintro w' ⟨s0, s1⟩
   go_simp
   with_reducible rfl
 rotate_left
 · simp only [Act.put, List.setIfInBounds_toArray, List.set_cons_zero, List.set_cons_succ, i64_w, i32_w]
   rfl
 refine one_ (i := 7) (N := some 26) #[true, true, true, true, true, true, true, true, true, false, false, false] rfl rfl (one_of HT_.1 (by kernel_rfl)) (by decide) (fun K hK => ?_)
 refine goes_ Try.func33 (by kernel_rfl) rfl #[.slice (some ad136) l0_0.length c0_0, .slice A136_0 (rd_L1 l0_0 a1).length c136_0] (by rfl) rfl rfl (by (try simp only [List.map_toArray, List.map_cons, List.map_nil]); first | done | rfl | (simp only [List.length_drop, List.length_take]; rfl)) ?_
 with_reducible refine (graph_reached.calls k _ _ l0_0 _ _ (rd_L1 l0_0 a1) t137 _ ?side1 ?side2 ?side3 ?side4 A16.1).mono ?_
 (case side1 => repeat (first | exact (C_below HR0_0.1 HB.1) | (with_reducible refine C_alloc ?_ _) | (with_reducible refine C_drewN ?_ _) | (with_reducible refine C_drew ?_)))
 (case side2 => exact HC0_0.1)
 (case side3 => repeat (first | exact (C_below HR136_0.1 HB.1) | (with_reducible refine C_alloc ?_ _) | (with_reducible refine C_drewN ?_ _) | (with_reducible refine C_drew ?_)))
 (case side4 => exact HC136_0.1)
 rintro e w23 ⟨v138, rfl, ho0, hb⟩
 skip
 refine ⟨_, rfl, ?_⟩
 have n0_ := aM (R_lower ho0 (below_size (by repeat (first | (with_reducible first | exact HB.1 | apply bA | apply bN | apply bD | refine below_set ?_ GE134.1) | exact HB.1))))
 have n1_ := aM (blk_below (g := gb134) (o := .cells #[.slice (some ad136) l0_0.length c0_0] 24 (0, 0)) (by (with_reducible repeat (first | refine kN ?_ _ | refine kD ?_ | refine kA ?_ _)); exact BK134.1) hb)
 have n2_ := aM (below_step (by repeat (first | (with_reducible first | exact HB.1 | apply bA | apply bN | apply bD | refine below_set ?_ GE134.1) | exact HB.1)) hb)
 clear BK134
 clear HB
 have HO139 := n0_
 have BK134 := n1_
 have HB := n2_
 clear n0_ n1_ n2_
 (try clear hb)
 (try clear hb2)
 (try clear hk)
 (try clear hi)
 (try clear ho0)
 obtain ⟨Ao24, co24, eo24⟩ := R_slice HO139.1
 (first | subst eo24 | (injection eo24 with f1_ f2_ f3_; have f4_ := f1_.symm; have f5_ := f3_.symm; clear f1_ f2_ f3_; subst f4_; subst f5_))
 have p140 : 0 <= (a1 : Int) := of_decide_eq_true (by first | (with_reducible assumption) | assumption)
 have q140 : a1 < (t137.length : Int) := of_decide_eq_true (by first | (with_reducible assumption) | assumption)
 obtain ⟨ad140, e140, hx140_0⟩ := Kd.at_bool (R_reads' HO139.1).2.2 a1 p140 q140
 cases e140
 replace p140 := eq_true p140
 replace q140 := eq_true q140
 refine hK.out _ _ ⟨(blk_cell BK134.1 0).trans rfl, ((HB.1.cell (World.block_lt_of_cell? w _ hw136_0)).trans hw136_0)⟩ (fun hHeld => ?_)
 have hHeld2 := hHeld
 refine resay_ (S2 := fun w' => w'.cell? ⟨gb134, 0, none⟩ = some (.slice (some ad136) l0_0.length c0_0) /\ w'.cell? (ad136.add (a1).toNat) = some (.slice A136_0 (rd_L1 l0_0 a1).length c136_0) /\ w'.cell? (ad140.add (a1).toNat) = some (.bool (rdOf false t137 a1))) ⟨hHeld.1, hHeld.2, hx140_0⟩ (fun _ h_ => ⟨h_.1, h_.2.1⟩) ?_
 clear hHeld
 have hHeld := (show _ /\ _ /\ _ from ⟨hHeld2.1, hHeld2.2, hx140_0⟩)
 clear hHeld2
 clear hK K
 refine norm_ (a' := ?_) ?_ ?_
 rotate_left
 · show Act.put _ (some 26) _ = _
   simp only [Act.put, List.setIfInBounds_toArray, List.set_cons_zero, List.set_cons_succ, i64_w, i32_w]
   rfl
 refine pure_ (i := 9) (N := some 28) (v := ?_) (a' := ?_) #[true, true, true, true, true, true, true, true, true, true, false, false] rfl rfl (any_of HT_.1 (by kernel_rfl)) (fun _ _ _ h => h) (Or.inl ⟨by rfl, ?_⟩) ?_ ?_
 rotate_left
 · intro w'
   go_simp
   with_reducible rfl
 rotate_left
 · simp only [Act.put, List.setIfInBounds_toArray, List.set_cons_zero, List.set_cons_succ, i64_w, i32_w]
   rfl
 refine take_ (i := 10) (N := some 29) (v := ?_) (a' := ?_) #[true, true, true, true, true, true, true, true, true, true, true, false] rfl rfl (take_ofW HT_.1 HW_.1 (by kernel_rfl)) (fun _ _ _ h => h) (Or.inl ⟨by rfl, ?_⟩) hHeld ?_ ?_
 rotate_left
 · rintro w' ⟨s0, s1, s2⟩
   go_simp
   with_reducible rfl
 rotate_left
 · simp only [Act.put, List.setIfInBounds_toArray, List.set_cons_zero, List.set_cons_succ, i64_w, i32_w]
   rfl
 refine pure_ (i := 11) (N := some 4) (v := ?_) (a' := ?_) #[true, true, true, true, true, true, true, true, true, true, true, true] rfl rfl (any_of HT_.1 (by kernel_rfl)) (fun _ _ _ h => h) (Or.inl ⟨by rfl, ?_⟩) ?_ ?_
 rotate_left
 · intro w'
   go_simp
   with_reducible rfl
 rotate_left
 · simp only [Act.put, List.setIfInBounds_toArray, List.set_cons_zero, List.set_cons_succ, i64_w, i32_w]
   rfl
 refine done_ (done_of HT_.1 (by kernel_rfl)) ?_
 try go_wp2
 go_ret
 exact ⟨by first | rfl | (simp [errW_none, errW_some] <;> rfl) | (simp [*, errW_none, errW_some] <;> rfl), by repeat (first | (with_reducible first | exact HB.1 | apply bA | apply bN | apply bD | refine below_set ?_ GE134.1) | exact HB.1)⟩
end Go.Proofs.Ytpmjpngmmphkmaa.P
namespace Go.Proofs.Ytpmjpngmmphkmaa
open Go.RowKit Go.Proofs.Yw.A Go.Proofs.Yw.B Go.Proofs.Yw.C Go.Proofs.Ytpmjpngmmphkmaa.P
namespace Lv
open Tj Rw Od
def lv1 : Nat -> Int -> List Int -> Int -> List Int -> Option (List Int)
 | 0, _, _, _, _ => none
 | k + 1, v, l, i, lv =>
  if i < l.length then
   if 0 <= rd l i /\ rd l i < lv.length then lv1 k v l (i + 1) (lv.set v.toNat (max (rd lv v) (wrap64 (rd lv (rd l i) + 1)))) else none
  else some lv
def lv0 : Nat -> List (List Int) -> List (List Int) -> Int -> List Int -> Int -> Option (Option (List Int × Int))
 | 0, _, _, _, _, _ => none
 | k + 1, es, comps, i, lv, top =>
  if i < comps.length then
   if 0 < (row comps i).length /\ 0 <= rd (row comps i) 0 /\ rd (row comps i) 0 < es.length then
    if 1 < (row comps i).length \/ (row es (rd (row comps i) 0)).contains (rd (row comps i) 0) = true then some none
    else (lv1 k (rd (row comps i) 0) (row es (rd (row comps i) 0)) 0 lv).bind fun lv2 => lv0 k es comps (i + 1) lv2 (max top (rd lv2 (rd (row comps i) 0)))
   else none
  else some (some (lv, top))
def lv3 : Nat -> List Int -> Int -> List (List Int) -> Option (List (List Int))
 | 0, _, _, _ => none
 | k + 1, lv, i, out =>
  if i < lv.length then
   if 0 <= rd lv i /\ rd lv i < out.length /\ (row out (rd lv i)).length < 17592186044415 then lv3 k lv (i + 1) (app out (rd lv i) i) else none
  else some out
noncomputable def levelsF (k : Nat) (es : List (List Int)) : Option (List (List Int) × Int) :=
 (graph_valid.f k es).bind fun b =>
  if b = true then
   (graph_ordered.f es).bind fun comps =>
    if es.length < 17592186044416 then
     (lv0 k es comps 0 (List.replicate es.length 0) (-1)).bind fun o =>
      match o with
      | none => some ([], 18)
      | some (lv, top) => if 0 <= wrap64 (top + 1) /\ wrap64 (top + 1) < 5864062014805 then (lv3 k lv 0 (List.replicate (wrap64 (top + 1)).toNat [])).map fun out => (out, 0) else none
    else none
  else some ([], 1)
theorem wrap_small (x : Int) (h0 : -9223372036854775808 <= x) (h1 : x < 9223372036854775808) : wrap64 x = x := by
 unfold wrap64
 omega
theorem index_run (l : List Int) (a : Int) (hl : l.length <= 9223372036854775807) : ∀ (m : Nat) (i : Nat), i + m = l.length -> (l.take i).contains a = false -> ∃ r : Int, slices_Index_int_int.l0 (m + 1) l a l.length i = some r /\ (decide (r >= 0)) = l.contains a := by
 intro m
 induction m with
 | zero =>
  intro i hi hc
  have : i = l.length := by omega
  subst this
  rw [List.take_length] at hc
  refine ⟨-1, ?_, by rw [hc]; decide⟩
  unfold slices_Index_int_int.l0
  rw [if_neg (by omega)]
 | succ m ih =>
  intro i hi hc
  unfold slices_Index_int_int.l0
  rw [if_pos (by omega), if_pos (by omega), if_pos (by omega)]
  have hil : i < l.length := by omega
  have hrd : rd l (i : Int) = l[i] := by
   show l.getD (i : Int).toNat 0 = l[i]
   rw [Int.toNat_natCast, List.getD_eq_getElem?_getD, List.getElem?_eq_getElem hil]
   rfl
  rw [hrd]
  by_cases he : a = l[i]
  · rw [if_pos he]
    refine ⟨i, rfl, ?_⟩
    have h1 : l.contains a = true := by
     rw [List.contains_iff_mem, he]
     exact List.getElem_mem hil
    rw [h1]
    exact decide_eq_true (by omega)
  rw [if_neg he]
  have hw : wrap64 ((i : Int) + 1) = ((i + 1 : Nat) : Int) := by
   rw [wrap_small _ (by omega) (by omega)]
   omega
  rw [hw]
  refine ih (i + 1) (by omega) ?_
  rw [List.take_succ_eq_append_getElem hil, List.contains_append, hc]
  simp [he]
theorem contains_run (l : List Int) (a : Int) (hl : l.length <= 9223372036854775807) : slices_Contains_int_int.f (l.length + 1) l a = some (l.contains a) := by
 obtain ⟨r, h1, h2⟩ := index_run l a hl l.length 0 (by omega) rfl
 unfold slices_Contains_int_int.f slices_Index_int_int.f
 rw [show ((0 : Int)) = ((0 : Nat) : Int) from rfl, h1]
 show some (decide (r >= 0)) = _
 rw [h2]
theorem levels_calls (k : Nat) (A : Option Addr) (c : Nat) (es : List (List Int)) (r1 : List (List Int)) (r2 : Int) (w : World) (hr : Kd.C KS w A es.length es) (hc : es.length <= c) (h : levelsF k es = some (r1, r2)) :
 Calls Try.prog 14 #[.agg #[.slice A es.length c]] w fun e w' => ∃ v, e = .returned (.tuple #[v, .int .i64 r2]) /\ Kd.S KS 32 w' w.heap.size (fun _ => True) v r1 /\ Below w.heap.size w w' := by
 have hu24 := Try.underlying24
 unfold levelsF at h
 obtain ⟨b, hb, h⟩ := Option.bind_eq_some_iff.1 h
 have HR := Az.mk hr
 have HC := Az.mk hc
 clear hr hc
 cases b with
 | false =>
  have HVA := Az.mk hb
  rw [if_neg (by decide)] at h
  obtain ⟨rfl, rfl⟩ := Prod.mk.inj (Option.some.inj h)
  clear hb h
  go_enter Try.func14, Try.ntmps14
  go_wp2_with (first | ((with_reducible refine gate_dst (N := 1) rfl ?_); refine box_event ?hg (N := 1) ?hd (cs := #[.slice A es.length c]) (t := 24) ?hr ?_; (case hd => rfl); (case hg => rfl); (case hr => first | (go_simp; done) | (go_simp; rfl)); intro gb hg w5 hbox hb; have B5 := Az.mk (below_step (Below.refl w.heap.size w) hb); have K5 := Az.mk hbox; have GE : Az (w.heap.size <= gb) := Az.mk (by rw [hg]; exact Nat.le_refl _); have hcz : w5.cell? ⟨gb, 0, none⟩ = some (.slice A es.length c) := (blk_cell K5.1 0).trans rfl; clear hb hbox hg) | (go_at_call 27; refine (graph_valid.calls k A c es false _ (Kd.C_below HR.1 B5.1) HC.1 HVA.1).mono ?_; rintro e w7 ⟨rfl, hb7⟩; have B7 := Az.mk (below_step B5.1 hb7); have K7 := Az.mk (blk_below K5.1 hb7); clear hb7 hcz B5 K5; have hcz : w7.cell? ⟨gb, 0, none⟩ = some (.slice A es.length c) := (blk_cell K7.1 0).trans rfl) | fail)
  go_ret2
  exact ⟨_, rfl, Kd.S_nil _ _ _ _ _, B7.1⟩
 | true =>
  have HVA := Az.mk hb
  rw [if_pos rfl] at h
  obtain ⟨comps, ho, h⟩ := Option.bind_eq_some_iff.1 h
  have HO := Az.mk ho
  by_cases hL : es.length < 17592186044416
  case neg => rw [if_neg hL] at h; cases h
  rw [if_pos hL] at h
  obtain ⟨o, hlv, h⟩ := Option.bind_eq_some_iff.1 h
  have HLV := Az.mk hlv
  have HH := Az.mk h
  have HLL := Az.mk hL
  clear hb ho h hlv hL
  go_enter Try.func14, Try.ntmps14
  go_upto_region 4 with (first | ((with_reducible refine gate_dst (N := 1) rfl ?_); refine box_event ?hg (N := 1) ?hd (cs := #[.slice A es.length c]) (t := 24) ?hr ?_; (case hd => rfl); (case hg => rfl); (case hr => first | (go_simp; done) | (go_simp; rfl)); intro gb hg w5 hbox hb; have B5 := Az.mk (below_step (Below.refl w.heap.size w) hb); have K5 := Az.mk hbox; have GE : Az (w.heap.size <= gb) := Az.mk (by rw [hg]; exact Nat.le_refl _); have hcz : w5.cell? ⟨gb, 0, none⟩ = some (.slice A es.length c) := (blk_cell K5.1 0).trans rfl; clear hb hbox hg) | (go_at_call 27; refine (graph_valid.calls k A c es true _ (Kd.C_below HR.1 B5.1) HC.1 HVA.1).mono ?_; rintro e w7 ⟨rfl, hb7⟩; have B7 := Az.mk (below_step B5.1 hb7); have K7 := Az.mk (blk_below K5.1 hb7); clear hb7 hcz B5 K5; have hcz : w7.cell? ⟨gb, 0, none⟩ = some (.slice A es.length c) := (blk_cell K7.1 0).trans rfl) | (go_at_call 28; refine (graph_ordered.calls A c es comps _ (Kd.C_below HR.1 B7.1) HC.1 HO.1).mono ?_; rintro e w9 ⟨vc, rfl, hV, hb9⟩; obtain ⟨Ac, cc, rfl, hlc, hF⟩ := hV; have V9 := Az.mk (Kd.F_bound hF); have B9 := Az.mk (below_step B7.1 hb9); have K9 := Az.mk (blk_below K7.1 hb9); have S7 := Az.mk (B7.1.size); have LC := Az.mk (Kd.F_max hF); clear hF hb9 hcz B7 K7 hlc; have hcz : w9.cell? ⟨gb, 0, none⟩ = some (.slice A es.length c) := (blk_cell K9.1 0).trans rfl) | fail)
  obtain ⟨i0, e0, e1, e2, e3⟩ := info_parts info3
  have hll := HLL.1
  have hmk := run_make w9 32 3 i0 _ Try.underlying32 e0 e1 .i64 .i64 es.length es.length (by omega) (by omega) (by rw [e3]; omega) (by omega)
  rw [Int.toNat_natCast, e2, Nat.mul_one] at hmk
  have hz0 : (Value.int .i64 0).cells = #[.int .i64 0] := rfl
  rw [hz0] at hmk
  clear e0 e1 e2 e3 hz0
  go_upto_region 6 with fail
  have hb0 := B9.1.size
  have O3 := Az.mk (arr_made (blk_new w9 (.cells (madeCells #[.int .i64 0] es.length) 3)))
  have B3 := Az.mk (below_alloc B9.1 (.cells (madeCells #[.int .i64 0] es.length) 3))
  have K3 := Az.mk (blk_alloc K9.1 (.cells (madeCells #[.int .i64 0] es.length) 3))
  have F3 := Az.mk (Kd.F_alloc V9.1 (.cells (madeCells #[.int .i64 0] es.length) 3))
  have HGA : Az (w.heap.size <= w9.heap.size /\ gb < w9.heap.size) := ⟨hb0, blk_lt K9.1⟩
  clear hmk B9 K9 V9 hb0 hcz
  generalize w9.alloc (.cells (madeCells #[.int .i64 0] es.length) 3) = w10 at O3 B3 K3 F3 ⊢
  generalize w9.heap.size = ga at O3 B3 K3 F3 HGA ⊢
  have hlc := LC.1
  have hll2 : Az ((List.replicate es.length (0 : Int)).length = es.length) := ⟨by simp⟩
  go_wp2_with fail
  go_loopg [6, 27] k (fun kq v6 v27 w' => ∃ (i top : Int) (lv : List Int), v27 = .int .i64 i /\ v6 = .int .i64 top /\ Az (0 <= i) /\ Az (lv.length = es.length) /\ Az (lv0 kq es comps i lv top = some o) /\ Az (kq <= k) /\ Az (Below w.heap.size w w') /\ Az (w'.heap[gb]? = some (.cells #[.slice A es.length c] 24 (0, 0))) /\ Az (w'.heap[ga]? = some (arr lv)) /\ Az (Kd.F KS w' (fun k => w7.heap.size <= k /\ k < ga) Ac comps.length comps))
  case atStart => exact ⟨0, -1, _, rfl, rfl, ⟨by omega⟩, hll2, HLV, ⟨Nat.le_refl _⟩, B3, K3, O3, F3⟩
  case round => as_aux_lemma =>
   clear HLV B3 K3 O3 F3 hll2
   obtain ⟨i, top, lv, rfl, rfl, HI, HLEN, HA, HK1, B3, K3, O3, F3⟩ := hrel
   cases gk with
   | zero => exact absurd HA.1 (by simp [lv0])
   | succ k1 =>
    have H := HA.1
    clear HA
    rw [lv0] at H
    by_cases ci : i < comps.length
    rotate_left
    · as_aux_lemma =>
      rw [if_neg ci] at H
      obtain rfl := Option.some.inj H
      have cb : decide (i < (comps.length : Int)) = false := decide_eq_false ci
      clear H
      by_cases ct : 0 <= wrap64 (top + 1) /\ wrap64 (top + 1) < 5864062014805
      case neg => have := HH.1; simp only at this; rw [if_neg ct] at this; cases this
      have HH1 := HH.1
      simp only at HH1
      rw [if_pos ct] at HH1
      obtain ⟨out0, h3, h4⟩ := Option.map_eq_some_iff.1 HH1
      obtain ⟨rfl, rfl⟩ := Prod.mk.inj h4
      have H3 := Az.mk h3
      obtain ⟨ct0, ct1⟩ := ct
      obtain ⟨n, hn⟩ := Int.eq_ofNat_of_zero_le ct0
      rw [hn] at ct1
      rw [hn, Int.toNat_natCast] at H3
      have HN := Az.mk hn
      clear HH HH1 h3 h4 ct0 hn
      go_upto_region 19 with fail
      have hn := HN.1
      obtain ⟨i0, e0, e1, e2, e3⟩ := info_parts info32
      have hmk := run_make wr 22 32 i0 _ Try.underlying22 e0 e1 .i64 .i64 n n (by omega) (by omega) (by rw [e3]; omega) (by omega)
      rw [Int.toNat_natCast, e2, Nat.mul_one] at hmk
      have hz0 : (Value.slice none 0 0).cells = #[.slice none 0 0] := rfl
      rw [hz0] at hmk
      clear e0 e1 e2 e3 hz0
      go_upto_region 20 with fail
      obtain ⟨W3, rfl⟩ : ∃ W3 : World, W3 = wr := ⟨_, rfl⟩
      have O6 := Az.mk (show (W3.alloc (.cells (madeCells #[.slice none 0 0] n) 32)).heap[ga]? = some (arr lv) from blk_alloc O3.1 (.cells (madeCells #[.slice none 0 0] n) 32))
      have B6 := Az.mk (below_alloc B3.1 (.cells (madeCells #[.slice none 0 0] n) 32))
      have hbs := B3.1.size
      have S6 := Az.mk (S_made (base := w.heap.size) (ok := fun k => W3.heap.size <= k) (blk_new W3 (.cells (madeCells #[.slice none 0 0] n) 32)) hbs (by unfold maxLen; omega) (Nat.le_refl _))
      have HGO : Az (w.heap.size <= W3.heap.size /\ ga < W3.heap.size) := ⟨hbs, blk_lt O3.1⟩
      have hll2 : Az ((List.replicate n ([] : List Int)).length = n) := ⟨by simp⟩
      have HLE : Az (lv.length <= 9223372036854775807) := ⟨by have := HLL.1; rw [HLEN.1]; omega⟩
      clear hmk hn hbs K3 O3 B3 F3
      generalize W3.alloc (.cells (madeCells #[.slice none 0 0] n) 32) = W4 at O6 B6 S6 ⊢
      generalize W3.heap.size = go at S6 HGO ⊢
      have hle := HLE.1
      have hel := HLEN.1
      go_wp2_with fail
      go_loopg [82] k (fun kq v82 w' => ∃ (j : Int) (out : List (List Int)), v82 = .int .i64 j /\ Az (0 <= j) /\ Az (out.length = n) /\ Az (lv3 kq lv j out = some out0) /\ Az (kq <= k) /\ Az (Below w.heap.size w w') /\ Az (w'.heap[ga]? = some (arr lv)) /\ Az (Kd.S KS 32 w' w.heap.size (fun k => go <= k) (.slice (some ⟨go, 0, none⟩) n n) out))
      case atStart => exact ⟨0, _, rfl, ⟨by omega⟩, hll2, H3, ⟨Nat.le_refl _⟩, B6, O6, S6⟩
      case round => as_aux_lemma =>
       clear H3 B6 O6 S6 hll2
       obtain ⟨j, out, rfl, HJ, HLO, HA, HK2, B6, O6, S6⟩ := hrel
       obtain ⟨W5, rfl⟩ : ∃ W5 : World, W5 = wr := ⟨_, rfl⟩
       cases gk with
       | zero => exact absurd HA.1 (by simp [lv3])
       | succ k2 =>
        have H := HA.1
        clear HA
        rw [lv3] at H
        by_cases cj : j < lv.length
        rotate_left
        · as_aux_lemma =>
          rw [if_neg cj] at H
          obtain rfl := Option.some.inj H
          have cbj : decide (j < (es.length : Int)) = false := decide_eq_false (by rw [<- hel]; exact cj)
          clear H
          go_wp2_with fail
          go_ret2
          exact ⟨_, rfl, Kd.S_mono S6.1 (fun _ _ => trivial), B6.1⟩
        as_aux_lemma =>
        rw [if_pos cj] at H
        by_cases cd : 0 <= rd lv j /\ rd lv j < out.length /\ (row out (rd lv j)).length < 17592186044415
        case neg => rw [if_neg cd] at H; cases H
        rw [if_pos cd] at H
        have hj0 := HJ.1
        have cx := arr_cell O6.1 j hj0 cj
        have cj2 : j < (es.length : Int) := by rw [<- hel]; exact cj
        have cbj : decide (j < (es.length : Int)) = true := decide_eq_true cj2
        have qj := eq_true hj0
        generalize rd lv j = d at H cd cx
        obtain ⟨cd0, cd1, cd2⟩ := cd
        rw [HLO.1] at cd1
        have H' := Az.mk H
        clear H
        have q9 := eq_true cd0
        have q10 := eq_true cd1
        go_upto_region 23 with fail
        have hgo := Kd.S_lt S6.1 go (by simp [Value.ownBlock])
        have hgs := B6.1.size
        obtain ⟨v0, oki, x1, x2, x3, x4, x5⟩ := S_upd S6.1 (fun k hk => by omega) d cd0 cd1
        have X3 := Az.mk (Kd.R_mono (ok' := fun k => oki k \/ W5.heap.size <= k) x3 (fun k hk => .inl hk))
        have X4 := Az.mk x4
        have X5 := Az.mk (@x5)
        have X6 := Az.mk x3
        clear x3 x4 x5 cx
        go_wp2_with ((with_reducible refine gate_builtin (b := .append) (xs := #[.tmp 92, .tmp 94]) rfl ?_); at_builtin; refine Kd.R_append (Kd.int .i64) (w0 := W5) w.heap.size rfl (.tmp 92) (.tmp 94) 32 3 (.int .i64 0) 8 rfl Try.underlying32 info3 rfl (by decide) (by omega) v0 (row out d) j [.int .i64 j] (fun k => oki k \/ W5.heap.size <= k) (fun _ => False) rfl rfl rfl (fun _ hk => hk.elim) (fun k hk => .inr hk) X3.1 (Below.refl _ _) ?hs ?hl ?_)
        (case hs => omega)
        (case hl => omega)
        intro v1 w9 ho hb hg hat
        obtain ⟨A9, q9c, rfl⟩ := Kd.R_slice ho
        have hown : ∀ k, v0.ownBlock = some k -> go <= k /\ k ≠ go := fun k hk => X4.1 k (X6.1.1 k hk)
        have hga := HGO.1.2
        have hgw := HGO.1.1
        have O9 := Az.mk (blk_grown O6.1 hg (fun e => by have := (hown ga e.symm).1; omega))
        have B9 := Az.mk (B6.1.grown hg (by omega) (fun k hk => by have := (hown k hk).1; omega))
        have hne9 : some go ≠ v0.ownBlock := fun e => (hown _ e.symm).2 rfl
        have k2 : w9.cell? ⟨go, d.toNat, none⟩ = some v0 := (World.cell?_of_block (hg.block go hgo hne9)).trans x1
        have k3 : w9.frozen? ⟨go, d.toNat, none⟩ = false := (World.frozen?_of_block (hg.block go hgo hne9)).trans x2
        have G9 := Az.mk hg
        have R9 := Az.mk ho
        clear hg ho hb hat hown x1 x2 hne9 B6 O6 S6 X3 X4 X6 hga hgw
        go_upto_region 24 with fail
        obtain ⟨S10, g10⟩ := X5.1 w9 _ _ G9.1 R9.1
        have S11 := Az.mk S10
        have O11 := Az.mk (blk_grown O9.1 g10 (by have := HGO.1.2; intro e; injection e with e; omega))
        have B11 := Az.mk (B9.1.grown g10 (by have := G9.1.size; omega) (fun k hk => by cases hk; exact HGO.1.1))
        have HL11 : Az ((app out d j).length = n) := ⟨by unfold app; simp only [List.length_set]; exact HLO.1⟩
        clear S10 g10 k2 k3 G9 R9 X5 O9 B9 hgs hgo
        have e9 : (row out d ++ [j]).length = (row out d).length + 1 := by simp
        rw [e9] at S11 O11 B11
        clear e9
        generalize w9.setCell ⟨go, d.toNat, none⟩ (.slice A9 ((row out d).length + 1) q9c) = w11 at S11 O11 B11 ⊢
        go_wp2_with fail
        go_roundg k2
        case measure => omega
        case rel => exact ⟨j + 1, _, rfl, ⟨by omega⟩, HL11, H', ⟨by have := HK2.1; omega⟩, B11, O11, S11⟩
    as_aux_lemma =>
    rw [if_pos ci] at H
    by_cases cx : 0 < (row comps i).length /\ 0 <= rd (row comps i) 0 /\ rd (row comps i) 0 < es.length
    case neg => rw [if_neg cx] at H; cases H
    rw [if_pos cx] at H
    obtain ⟨cx0, cx1, cx2⟩ := cx
    have hi0 := HI.1
    obtain ⟨adc, Ar, cr, er, hx, hxl, hxi⟩ := at_L1 (Kd.F_now F3.1) i hi0 ci
    subst er
    have el : rd_L1 comps i = row comps i := rfl
    rw [el] at hx hxl hxi
    have HXI := Az.mk hxi
    have HXL := Az.mk hxl
    obtain ⟨ad0, e0, hy⟩ := Kd.at_int hxi 0 (by omega) (by omega)
    subst e0
    rw [show ((0 : Int)).toNat = 0 from rfl, Addr.add_zero'] at hy
    clear hxi hxl el
    have cb : decide (i < (comps.length : Int)) = true := decide_eq_true ci
    have q0 := eq_true hi0
    have cz : (0 < (row comps i).length) = True := eq_true cx0
    have H' := Az.mk H
    clear H
    go_upto_region 10 with fail
    clear hy hx cz cb q0
    generalize rd (row comps i) 0 = v at H' cx1 cx2 ⊢
    have hcz := (blk_cell K3.1 0)
    have hcy : wr.cell? ⟨gb, 0, none⟩ = some (.slice A es.length c) := hcz.trans rfl
    clear hcz
    by_cases c1 : 1 < (row comps i).length
    · as_aux_lemma =>
      have H := H'.1
      clear H'
      rw [if_pos (Or.inl c1)] at H
      obtain rfl := Option.some.inj H
      obtain ⟨rfl, rfl⟩ := Prod.mk.inj (Option.some.inj HH.1)
      have cb1 : decide ((1 : Int) < ((row comps i).length : Int)) = true := decide_eq_true (by omega)
      clear H HH
      go_wp2_with fail
      go_ret2
      exact ⟨_, rfl, Kd.S_nil _ _ _ _ _, B3.1⟩
    as_aux_lemma =>
    have cb1 : decide ((1 : Int) < ((row comps i).length : Int)) = false := decide_eq_false (by omega)
    obtain ⟨adE, Ae, ce, er, hx, hxl, hxi⟩ := at_L1 HR.1 v cx1 cx2
    subst er
    have el : rd_L1 es v = row es v := rfl
    rw [el] at hx hxl hxi
    have hx1 := (B3.1.cell (World.block_lt_of_cell? _ _ hx)).trans hx
    have HXE := Az.mk hx
    have EXI := Az.mk hxi
    have EXL := Az.mk hxl
    clear hx hxi hxl el
    have q1 := eq_true cx1
    have q2 := eq_true cx2
    have CON := Az.mk (fun (wq : World) (hq : Below w.heap.size w wq) => slices_Contains_int_int.calls ((row es v).length + 1) Ae ce (row es v) v _ wq (Kd.C_below EXI.1 hq) EXL.1 (contains_run _ _ (EXI.1.2.1)))
    by_cases cc1 : (row es v).contains v = true
    · as_aux_lemma =>
      have H := H'.1
      clear H'
      rw [if_pos (Or.inr cc1)] at H
      obtain rfl := Option.some.inj H
      obtain ⟨rfl, rfl⟩ := Prod.mk.inj (Option.some.inj HH.1)
      clear H HH
      rw [cc1] at CON
      go_wp2_with (go_at_call 31; refine (CON.1 wr B3.1).mono ?_; rintro e w11 ⟨rfl, hd11⟩; obtain ⟨⟨nq, rfl⟩⟩ := hd11)
      go_ret2
      exact ⟨_, rfl, Kd.S_nil _ _ _ _ _, pw_below_drewN B3.1 nq⟩
    as_aux_lemma =>
    have cc2 : (row es v).contains v = false := by simpa using cc1
    rw [cc2] at CON
    have H := H'.1
    clear H'
    rw [if_neg (by rintro (h | h); exact c1 h; exact cc1 h)] at H
    obtain ⟨lv2, hl2, H⟩ := Option.bind_eq_some_iff.1 H
    have HL2 := Az.mk hl2
    have H' := Az.mk H
    clear H hl2
    go_upto_region 12 with (go_at_call 31; refine (CON.1 wr B3.1).mono ?_; rintro e w11 ⟨rfl, hd11⟩; obtain ⟨⟨nq, rfl⟩⟩ := hd11)
    have B4 := Az.mk (pw_below_drewN B3.1 nq)
    have K4 := Az.mk (blk_drewN K3.1 nq)
    have O4 := Az.mk (show (wr.drewN nq).heap[ga]? = some (arr lv) from blk_drewN O3.1 nq)
    have F4 := Az.mk (Kd.F_drewN F3.1 nq)
    clear B3 K3 O3 F3 CON hcy hx1
    generalize wr.drewN nq = w12 at B4 K4 O4 F4 ⊢
    have hcy : w12.cell? ⟨gb, 0, none⟩ = some (.slice (some adE) es.length c) := (blk_cell K4.1 0).trans rfl
    have hx1 := (B4.1.cell (World.block_lt_of_cell? _ _ HXE.1)).trans HXE.1
    have hel := EXI.1.2.1
    go_wp2_with fail
    clear hx1 hcy q1 q2
    go_loopg [52] k1 (fun kq v52 w' => ∃ (j : Int) (lv3 : List Int), v52 = .int .i64 j /\ Az (0 <= j) /\ Az (lv3.length = es.length) /\ Az (lv1 kq v (row es v) j lv3 = some lv2) /\ Az (kq <= k1) /\ Az (Below w.heap.size w w') /\ Az (w'.heap[gb]? = some (.cells #[.slice (some adE) es.length c] 24 (0, 0))) /\ Az (w'.heap[ga]? = some (arr lv3)) /\ Az (Kd.F KS w' (fun k => w7.heap.size <= k /\ k < ga) (some adc) comps.length comps))
    case atStart => exact ⟨0, _, rfl, ⟨by omega⟩, HLEN, HL2, ⟨Nat.le_refl _⟩, B4, K4, O4, F4⟩
    case round => as_aux_lemma =>
     clear HL2 B4 K4 O4 F4
     obtain ⟨j, lv3, rfl, HJ, HLEN3, HA, HK2, B4, K4, O4, F4⟩ := hrel
     obtain ⟨W2, rfl⟩ : ∃ W2 : World, W2 = wr := ⟨_, rfl⟩
     cases gk with
     | zero => exact absurd HA.1 (by simp [lv1])
     | succ k2 =>
      have H := HA.1
      clear HA
      rw [lv1] at H
      by_cases cj : j < (row es v).length
      rotate_left
      · as_aux_lemma =>
        rw [if_neg cj] at H
        obtain rfl := Option.some.inj H
        have cbj : decide (j < ((row es v).length : Int)) = false := decide_eq_false cj
        clear H
        have q1 := eq_true cx1
        have q2 := eq_true cx2
        have cv := arr_cell O4.1 v cx1 (by rw [HLEN3.1]; exact cx2)
        go_wp2_with fail
        go_roundg k1
        case measure => omega
        case rel => exact ⟨i + 1, _, _, rfl, rfl, ⟨by have := HI.1; omega⟩, HLEN3, H', ⟨by have := HK1.1; omega⟩, B4, K4, O4, F4⟩
      as_aux_lemma =>
      rw [if_pos cj] at H
      by_cases cd : 0 <= rd (row es v) j /\ rd (row es v) j < lv3.length
      case neg => rw [if_neg cd] at H; cases H
      rw [if_pos cd] at H
      have hj0 := HJ.1
      obtain ⟨adj, ej, hx⟩ := Kd.at_int EXI.1 j hj0 cj
      subst ej
      have hxj := (B4.1.cell (World.block_lt_of_cell? _ _ hx)).trans hx
      clear hx
      generalize rd (row es v) j = d at H cd hxj
      obtain ⟨cd0, cd1⟩ := cd
      have H' := Az.mk H
      clear H
      have cbj : decide (j < ((row es v).length : Int)) = true := decide_eq_true cj
      have qj := eq_true hj0
      have q1 := eq_true cx1
      have q2 := eq_true cx2
      have q3 := eq_true cd0
      have q4 : (d < (es.length : Int)) = True := eq_true (by rw [<- HLEN3.1]; exact cd1)
      have cv := arr_cell O4.1 v cx1 (by rw [HLEN3.1]; exact cx2)
      have cdd := arr_cell O4.1 d cd0 cd1
      have fv := arr_free O4.1 v.toNat
      go_upto_region 15 with fail
      go_region
      have B5 := Az.mk (below_drew (B4.1.setCell (show w.heap.size <= (⟨ga, v.toNat, none⟩ : Addr).block from HGA.1.1) (.int .i64 (max (rd lv3 v) (wrap64 (rd lv3 d + 1))))))
      have K5 := Az.mk (blk_drew (blk_far K4.1 (p := ⟨ga, v.toNat, none⟩) (show gb ≠ ga from Nat.ne_of_lt HGA.1.2) (.int .i64 (max (rd lv3 v) (wrap64 (rd lv3 d + 1))))))
      have O5 := Az.mk (show (W2.setCell ⟨ga, v.toNat, none⟩ (.int .i64 (max (rd lv3 v) (wrap64 (rd lv3 d + 1))))).drew.heap[ga]? = some (arr (lv3.set v.toNat (max (rd lv3 v) (wrap64 (rd lv3 d + 1))))) from by unfold arr; rw [<- nums_set]; exact blk_drew (blk_set O4.1 v.toNat _))
      have F5 := Az.mk (Kd.F_drew (Kd.F_far (p := ⟨ga, v.toNat, none⟩) F4.1 (fun k hk => show k ≠ ga from Nat.ne_of_lt hk.2) (.int .i64 (max (rd lv3 v) (wrap64 (rd lv3 d + 1))))))
      have L5 : Az ((lv3.set v.toNat (max (rd lv3 v) (wrap64 (rd lv3 d + 1)))).length = es.length) := ⟨by rw [List.length_set]; exact HLEN3.1⟩
      clear B4 K4 O4 F4 cv cdd fv hxj HLEN3
      generalize (W2.setCell ⟨ga, v.toNat, none⟩ (.int .i64 (max (rd lv3 v) (wrap64 (rd lv3 d + 1))))).drew = w13 at B5 K5 O5 F5 ⊢
      go_wp2_with fail
      go_roundg k2
      case measure => omega
      case rel => exact ⟨j + 1, _, rfl, ⟨by omega⟩, L5, H', ⟨by have := HK2.1; omega⟩, B5, K5, O5, F5⟩
end Lv
end Go.Proofs.Ytpmjpngmmphkmaa
namespace Go.Proofs.Ytpmjpngmmphkmaa
open Go.RowKit Go.Proofs.Yw.A Go.Proofs.Yw.B Go.Proofs.Yw.C Go.Proofs.Ytpmjpngmmphkmaa.P
namespace P
noncomputable def graph_Levels.f (l : List (List Int)) : Option (List (List Int) × Int) := Od.lim fun k => Lv.levelsF k l
theorem graph_Levels.calls (A0_0 : Option Addr) (c0_0 : Nat) (l0_0 : List (List Int)) (r1 : List (List Int)) (r2 : Int) (w : World) (hr0_0 : Kd.C (Kd.slice 3 (Kd.int .i64)) w A0_0 l0_0.length l0_0) (hc0_0 : l0_0.length <= c0_0) (h : graph_Levels.f l0_0 = some (r1, r2)) :
    Calls Try.prog 14 #[.agg #[.slice A0_0 l0_0.length c0_0]] w fun e w' => ∃ v0_ : Value, e = .returned (.tuple #[v0_, .int .i64 r2]) /\ Kd.S (Kd.slice 3 (Kd.int .i64)) 32 w' w.heap.size (fun _ => True) v0_ r1 /\ Below w.heap.size w w' := by
  obtain ⟨k0, h0⟩ := Od.lim_some h
  exact Lv.levels_calls k0 A0_0 c0_0 l0_0 r1 r2 w hr0_0 hc0_0 (h0 k0 (Nat.le_refl _))
end P
end Go.Proofs.Ytpmjpngmmphkmaa
