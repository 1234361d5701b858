/- Part 6 of 6 of one proof: The law ModgraphSorted holds: for every input it returns true, and the input reads as it did -/
import Derived.Below
import Derived.ChangeOld
import Derived.OpenShut
import Derived.ProofKit
import Derived.ShutString
import Derived.SizedLaws
import Derived.Test.YtmadhaccjmakdaaRows
import Derived.WalkKit
import Derived.Test.YtmadhaccjmakdaaMSorted1
import Derived.Test.YtmadhaccjmakdaaMSorted2
import Derived.Test.YtmadhaccjmakdaaMSorted3
import Derived.Test.YtmadhaccjmakdaaMSorted4
import Derived.Test.YtmadhaccjmakdaaMSorted5
set_option linter.unusedVariables false
set_option linter.unusedSimpArgs false
set_option maxHeartbeats 8000000
set_option maxRecDepth 100000
namespace Go.Proofs.Ytmadhaccjmakdaa
open Go.Maps Go.Sort Go.RowKit Go.Proofs.Yw.A Go.Proofs.Yw.B Go.Proofs.Yw.C Go.Proofs.Ytmadhaccjmakdaa.P
namespace Tp
open Tj Rw Od Mg
open Classical
section
variable {es : List (List Int)}
def Cy (es : List (List Int)) (v : Int) (m : Nat) : Prop := 1 <= m /\ Wk es m v v
theorem cy_iff {v : Int} {m : Nat} : Cy es v m ↔ ∃ q, m = q + 1 /\ ∃ w ∈ row es v, Wk es q w v := by
 constructor
 · rintro ⟨h1, h2⟩
   obtain ⟨q, rfl⟩ : ∃ q, m = q + 1 := ⟨m - 1, by omega⟩
   exact ⟨q, rfl, h2⟩
 · rintro ⟨q, rfl, h⟩
   exact ⟨by omega, h⟩
structure Gi (es : List (List Int)) (b : Nat) (s : Int) : Prop where
 nds : nd es s
 cyc : Cy es s b
 min : ∀ u, nd es u -> ∀ m, Cy es u m -> b <= m /\ (m = b -> s <= u)
def CI (es : List (List Int)) (v : Nat) (b s : Int) : Prop :=
 (s = -1 /\ ∀ u, nd es u -> u < v -> ∀ m, ¬ Cy es u m) \/
 (nd es s /\ s < v /\ 1 <= b /\ b <= es.length /\ Cy es s b.toNat /\ ∀ u, nd es u -> u < v -> ∀ m, Cy es u m -> b <= m /\ (m = b -> s <= u))
def CJ (es : List (List Int)) (v j : Nat) (b s : Int) : Prop :=
 (s = -1 /\ (∀ u, nd es u -> u < v -> ∀ m, ¬ Cy es u m) /\ ∀ w ∈ (row es v).take j, ∀ m, ¬ Wk es m w v) \/
 (nd es s /\ s <= v /\ 1 <= b /\ b <= es.length /\ Cy es s b.toNat /\ (∀ u, nd es u -> u < v -> ∀ m, Cy es u m -> b <= m /\ (m = b -> s <= u)) /\ ∀ w ∈ (row es v).take j, ∀ m : Nat, Wk es m w v -> b <= m + 1)
def chn (es : List (List Int)) (dl : List Int) : Nat -> Int -> List Int
 | 0, _ => []
 | q + 1, v => ((row es v).find? (fun w => rd dl w == ((q + 1 : Nat) : Int))).getD v :: chn es dl q (((row es v).find? (fun w => rd dl w == ((q + 1 : Nat) : Int))).getD v)
theorem chn_len (dl : List Int) : ∀ (q : Nat) (v : Int), (chn es dl q v).length = q := by
 intro q
 induction q with
 | zero => intro v; rfl
 | succ q ih => intro v; rw [chn, List.length_cons, ih]
theorem chain_ev (names : List ByteArray) (hvld : Vld es) (hn : es.length <= 60) (hr : ∀ v, nd es v -> (row es v).length <= 2000) {dl : List Int} (hdl : dl.length = es.length) :
 ∀ (q : Nat) (v : Int) (out : List Int), nd es v -> q <= 60 -> out.length + q <= 1000 -> Ev (fun k => p_cycle.l2 k dl out v (q : Int) names es) (out ++ chn es dl q v) := by
 intro q
 induction q with
 | zero =>
  intro v out hv _ _
  rw [chn, List.append_nil]
  refine Ev.step (fun k => ?_) (Ev.now _)
  simp only [p_cycle.l2]
  rw [if_neg (by omega)]
 | succ q ih =>
  intro v out hv hq ho
  have hrv := hr v hv
  have hwq : wrap64 (((q + 1 : Nat) : Int) - 1) = (q : Int) := by rw [w64 _ (by omega) (by omega)]; omega
  have inner : ∀ (m j : Nat), j + m = (row es v).length -> Ev (fun k => p_cycle.l3 k dl out v ((q + 1 : Nat) : Int) (row es v) ((row es v).length : Int) j names es)
   (out ++ (((row es v).drop j).find? (fun w => rd dl w == ((q + 1 : Nat) : Int))).getD v :: chn es dl q ((((row es v).drop j).find? (fun w => rd dl w == ((q + 1 : Nat) : Int))).getD v)) := by
   intro m
   induction m with
   | zero =>
    intro j hj
    rw [List.drop_eq_nil_of_le (by omega), List.find?_nil, Option.getD_none]
    have h := ih v (out ++ [v]) hv (by omega) (by rw [List.length_append, List.length_singleton]; omega)
    rw [List.append_assoc, List.singleton_append] at h
    refine Ev.step (fun k => ?_) h
    simp only [p_cycle.l3]
    rw [if_neg (by omega), if_pos (by omega), hwq]
   | succ m ihm =>
    intro j hj
    have hwm : rd (row es v) j ∈ row es v := by rw [rd_at _ j (by omega)]; exact List.getElem_mem _
    have hw := hvld v hv _ hwm
    have hwl : rd (row es v) j < (dl.length : Int) := by rw [hdl]; exact hw.2
    rw [drop_row _ j (by omega)]
    by_cases c : rd dl (rd (row es v) j) = ((q + 1 : Nat) : Int)
    rotate_left
    · rw [List.find?_cons_of_neg (by simpa using c)]
      refine Ev.step (fun k => ?_) (ihm (j + 1) (by omega))
      simp only [p_cycle.l3]
      rw [if_pos (by omega), if_pos (by omega), if_pos (by omega), if_pos hw.1, if_pos hwl, if_neg c, succ_cast j (by omega)]
    rw [List.find?_cons_of_pos (by simpa using c), Option.getD_some]
    have h := ih (rd (row es v) j) (out ++ [rd (row es v) j]) hw (by omega) (by rw [List.length_append, List.length_singleton]; omega)
    rw [List.append_assoc, List.singleton_append] at h
    refine Ev.step (fun k => ?_) h
    simp only [p_cycle.l3]
    rw [if_pos (by omega), if_pos (by omega), if_pos (by omega), if_pos hw.1, if_pos hwl, if_pos c, if_pos (by omega), hwq]
  have h := inner (row es v).length 0 (by omega)
  rw [List.drop_zero] at h
  refine Ev.step (fun k => ?_) h
  simp only [p_cycle.l2]
  rw [if_pos (by omega), if_pos hv.1, if_pos hv.2, L1_row]
  rfl
theorem cycle_ev (names : List ByteArray) (hvld : Vld es) (hn : es.length <= 60) (hr : ∀ v, nd es v -> (row es v).length <= 2000) (hnl : names.length = es.length) :
 ((∀ u, nd es u -> ∀ m, ¬ Cy es u m) /\ Ev (fun k => p_cycle.f k names es) []) \/
 ∃ b s dl, Gi es b s /\ b <= es.length /\ DL es s dl /\ Ev (fun k => p_cycle.f k names es) (s :: chn es dl (b - 1) s) := by
 have outer : ∀ (m v : Nat), v + m = es.length -> ∀ b s, CI es v b s ->
  ((∀ u, nd es u -> ∀ m, ¬ Cy es u m) /\ Ev (fun k => p_cycle.l0 k b s (es.length : Int) v names es) []) \/
  ∃ b' s' dl, Gi es b' s' /\ b' <= es.length /\ DL es s' dl /\ Ev (fun k => p_cycle.l0 k b s (es.length : Int) v names es) (s' :: chn es dl (b' - 1) s') := by
  intro m
  induction m with
  | zero =>
   intro v hv b s h
   rcases h with ⟨rfl, h⟩ | ⟨h1, h2, h3, h4, h5, h6⟩
   · refine .inl ⟨fun u hu => h u hu (by have := hu.2; omega), Ev.step (fun k => ?_) (Ev.now _)⟩
     simp only [p_cycle.l0]
     rw [if_neg (by omega), if_pos (by omega)]
   · obtain ⟨dl, g1, g2⟩ := dist_ev names hvld hn hr hnl h1
     refine .inr ⟨b.toNat, s, dl, ⟨h1, h5, fun u hu m hm => ?_⟩, by omega, g1, ?_⟩
     · obtain ⟨k1, k2⟩ := h6 u hu (by have := hu.2; omega) m hm
       exact ⟨by omega, fun e => k2 (by omega)⟩
     · have h := chain_ev names hvld hn hr g1.len (b.toNat - 1) s [s] h1 (by omega) (by simp; omega)
       rw [List.singleton_append] at h
       refine Ev.step (fun k => ?_) (Ev.bind g2 (f := fun k t => p_cycle.l2 k t [s] s ((b.toNat - 1 : Nat) : Int) names es) h)
       simp only [p_cycle.l0]
       rw [if_neg (by omega), if_neg (by have := h1.1; omega), w64 (b - 1) (by omega) (by omega), show ((b.toNat - 1 : Nat) : Int) = b - 1 by omega]
  | succ m ih =>
   intro v hv b s h
   have hvn : nd es (v : Int) := ⟨by omega, by omega⟩
   have hrv := hr v hvn
   obtain ⟨d, D, De⟩ := dist_ev names hvld hn hr hnl hvn
   have inner : ∀ (q j : Nat), j + q = (row es v).length -> ∀ b s, CJ es v j b s ->
    ((∀ u, nd es u -> ∀ m, ¬ Cy es u m) /\ Ev (fun k => p_cycle.l1 k b s v d (es.length : Int) v (row es v) ((row es v).length : Int) j names es) []) \/
    ∃ b' s' dl, Gi es b' s' /\ b' <= es.length /\ DL es s' dl /\ Ev (fun k => p_cycle.l1 k b s v d (es.length : Int) v (row es v) ((row es v).length : Int) j names es) (s' :: chn es dl (b' - 1) s') := by
    intro q
    induction q with
    | zero =>
     intro j hj b s h
     have hci : CI es (v + 1) b s := by
      rcases h with ⟨rfl, h1, h2⟩ | ⟨h1, h2, h3, h4, h5, h6, h7⟩
      · refine .inl ⟨rfl, fun u hu huv m hm => ?_⟩
        by_cases e : u < v
        · exact h1 u hu e m hm
        have e2 : u = v := by omega
        subst e2
        obtain ⟨q, rfl, w, hw, hq⟩ := cy_iff.1 hm
        exact h2 w (by rw [List.take_of_length_le (by omega)]; exact hw) q hq
      · refine .inr ⟨h1, by omega, h3, h4, h5, fun u hu huv m hm => ?_⟩
        by_cases e : u < v
        · exact h6 u hu e m hm
        have e2 : u = v := by omega
        subst e2
        obtain ⟨q, rfl, w, hw, hq⟩ := cy_iff.1 hm
        have := h7 w (by rw [List.take_of_length_le (by omega)]; exact hw) q hq
        exact ⟨by omega, fun _ => by omega⟩
     have hstep : ∀ r, Ev (fun k => p_cycle.l0 k b s (es.length : Int) ((v + 1 : Nat) : Int) names es) r -> Ev (fun k => p_cycle.l1 k b s v d (es.length : Int) v (row es v) ((row es v).length : Int) j names es) r := fun r h => by
      refine Ev.step (fun k => ?_) h
      simp only [p_cycle.l1]
      rw [if_neg (by omega), succ_cast v (by omega)]
     rcases ih (v + 1) (by omega) b s hci with ⟨g1, g2⟩ | ⟨b', s', dl, g1, g2, g3, g4⟩
     · exact .inl ⟨g1, hstep _ g2⟩
     · exact .inr ⟨b', s', dl, g1, g2, g3, hstep _ g4⟩
    | succ q ihq =>
     intro j hj b s h
     have hwm : rd (row es v) j ∈ row es v := by rw [rd_at _ j (by omega)]; exact List.getElem_mem _
     have hw := hvld v hvn _ hwm
     have hwl : rd (row es v) j < (d.length : Int) := by rw [D.len]; exact hw.2
     have hup := D.up _ hw
     have htk : (row es v).take (j + 1) = (row es v).take j ++ [rd (row es v) j] := by
      rw [List.take_succ_eq_append_getElem (by omega), rd_at _ j (by omega)]
     have go : ∀ (b2 s2 : Int), CJ es v (j + 1) b2 s2 -> (∀ k, p_cycle.l1 (k + 1) b s v d (es.length : Int) v (row es v) ((row es v).length : Int) j names es = p_cycle.l1 k b2 s2 v d (es.length : Int) v (row es v) ((row es v).length : Int) ((j + 1 : Nat) : Int) names es) ->
      ((∀ u, nd es u -> ∀ m, ¬ Cy es u m) /\ Ev (fun k => p_cycle.l1 k b s v d (es.length : Int) v (row es v) ((row es v).length : Int) j names es) []) \/
      ∃ b' s' dl, Gi es b' s' /\ b' <= es.length /\ DL es s' dl /\ Ev (fun k => p_cycle.l1 k b s v d (es.length : Int) v (row es v) ((row es v).length : Int) j names es) (s' :: chn es dl (b' - 1) s') := by
      intro b2 s2 hc hs
      rcases ihq (j + 1) (by omega) b2 s2 hc with ⟨g1, g2⟩ | ⟨b', s', dl, g1, g2, g3, g4⟩
      · exact .inl ⟨g1, Ev.step hs g2⟩
      · exact .inr ⟨b', s', dl, g1, g2, g3, Ev.step hs g4⟩
     by_cases c1 : rd d (rd (row es v) j) >= 0
     rotate_left
     · have d1 := (D.non _ hw (by omega)).2
       refine go b s ?_ (fun k => ?_)
       · rcases h with ⟨rfl, h1, h2⟩ | ⟨h1, h2, h3, h4, h5, h6, h7⟩
         · refine .inl ⟨rfl, h1, fun w hw2 m hm => ?_⟩
           rw [htk, List.mem_append, List.mem_singleton] at hw2
           rcases hw2 with hw2 | rfl
           · exact h2 w hw2 m hm
           · exact d1 m hm
         · refine .inr ⟨h1, h2, h3, h4, h5, h6, fun w hw2 m hm => ?_⟩
           rw [htk, List.mem_append, List.mem_singleton] at hw2
           rcases hw2 with hw2 | rfl
           · exact h7 w hw2 m hm
           · exact absurd hm (d1 m)
       · simp only [p_cycle.l1]
         rw [if_pos (by omega), if_pos (by omega), if_pos (by omega), if_pos hw.1, if_pos hwl, if_neg c1, succ_cast j (by omega)]
     have hw64 : wrap64 (rd d (rd (row es v) j) + 1) = rd d (rd (row es v) j) + 1 := w64 _ (by omega) (by omega)
     obtain ⟨d1, d2⟩ := D.has _ hw c1
     have hcy : Cy es v (rd d (rd (row es v) j) + 1).toNat := cy_iff.2 ⟨(rd d (rd (row es v) j)).toNat, by omega, _, hwm, d1⟩
     by_cases c2 : s < 0
     · have hs : s = -1 /\ (∀ u, nd es u -> u < v -> ∀ m, ¬ Cy es u m) /\ ∀ w ∈ (row es v).take j, ∀ m, ¬ Wk es m w v := by
        rcases h with h | ⟨h1, _⟩
        · exact h
        · have := h1.1; omega
       refine go (rd d (rd (row es v) j) + 1) v (.inr ⟨hvn, Int.le_refl _, by omega, by omega, hcy, fun u hu huv m hm => absurd hm (hs.2.1 u hu huv m), fun w hw2 m hm => ?_⟩) (fun k => ?_)
       · rw [htk, List.mem_append, List.mem_singleton] at hw2
         rcases hw2 with hw2 | rfl
         · exact absurd hm (hs.2.2 w hw2 m)
         · have := d2 m hm; omega
       · simp only [p_cycle.l1]
         rw [if_pos (by omega), if_pos (by omega), if_pos (by omega), if_pos hw.1, if_pos hwl, if_pos c1, if_pos c2, hw64, succ_cast j (by omega)]
     have hs : nd es s /\ s <= v /\ 1 <= b /\ b <= es.length /\ Cy es s b.toNat /\ (∀ u, nd es u -> u < v -> ∀ m, Cy es u m -> b <= m /\ (m = b -> s <= u)) /\ ∀ w ∈ (row es v).take j, ∀ m : Nat, Wk es m w v -> b <= m + 1 := by
      rcases h with ⟨h, _⟩ | h
      · omega
      · exact h
     obtain ⟨h1, h2, h3, h4, h5, h6, h7⟩ := hs
     by_cases c3 : rd d (rd (row es v) j) + 1 < b
     rotate_left
     · refine go b s (.inr ⟨h1, h2, h3, h4, h5, h6, fun w hw2 m hm => ?_⟩) (fun k => ?_)
       · rw [htk, List.mem_append, List.mem_singleton] at hw2
         rcases hw2 with hw2 | rfl
         · exact h7 w hw2 m hm
         · have := d2 m hm; omega
       · simp only [p_cycle.l1]
         rw [if_pos (by omega), if_pos (by omega), if_pos (by omega), if_pos hw.1, if_pos hwl, if_pos c1, if_neg c2, hw64, if_neg c3, succ_cast j (by omega)]
     refine go (rd d (rd (row es v) j) + 1) v (.inr ⟨hvn, Int.le_refl _, by omega, by omega, hcy, fun u hu huv m hm => ?_, fun w hw2 m hm => ?_⟩) (fun k => ?_)
     · have := (h6 u hu huv m hm).1
       exact ⟨by omega, fun e => by omega⟩
     · rw [htk, List.mem_append, List.mem_singleton] at hw2
       rcases hw2 with hw2 | rfl
       · have := h7 w hw2 m hm; omega
       · have := d2 m hm; omega
     · simp only [p_cycle.l1]
       rw [if_pos (by omega), if_pos (by omega), if_pos (by omega), if_pos hw.1, if_pos hwl, if_pos c1, if_neg c2, hw64, if_pos c3, succ_cast j (by omega)]
   have hcj : CJ es v 0 b s := by
    rcases h with ⟨rfl, h⟩ | ⟨h1, h2, h3, h4, h5, h6⟩
    · exact .inl ⟨rfl, h, fun w hw => by simp at hw⟩
    · exact .inr ⟨h1, by omega, h3, h4, h5, h6, fun w hw => by simp at hw⟩
   have hstep : ∀ r, Ev (fun k => p_cycle.l1 k b s v d (es.length : Int) v (row es v) ((row es v).length : Int) ((0 : Nat) : Int) names es) r -> Ev (fun k => p_cycle.l0 k b s (es.length : Int) v names es) r := fun r h => by
    refine Ev.step (fun k => ?_) (Ev.bind De (f := fun k t => p_cycle.l1 k b s v t (es.length : Int) v (row es v) ((row es v).length : Int) ((0 : Nat) : Int) names es) h)
    simp only [p_cycle.l0]
    rw [if_pos (by omega)]
    congr 1
    funext t
    rw [if_pos (by omega), if_pos (by omega), L1_row]
    rfl
   rcases inner (row es v).length 0 (by omega) b s hcj with ⟨g1, g2⟩ | ⟨b', s', dl, g1, g2, g3, g4⟩
   · exact .inl ⟨g1, hstep _ g2⟩
   · exact .inr ⟨b', s', dl, g1, g2, g3, hstep _ g4⟩
 have hf : ∀ k, p_cycle.f k names es = p_cycle.l0 k 0 (-1) (es.length : Int) ((0 : Nat) : Int) names es := fun k => by
  unfold p_cycle.f
  rw [hnl]
  rfl
 rcases outer es.length 0 (by omega) 0 (-1) (.inl ⟨rfl, fun u hu h0 => by have := hu.1; omega⟩) with ⟨g1, g2⟩ | ⟨b', s', dl, g1, g2, g3, g4⟩
 · exact .inl ⟨g1, Ev.congr hf g2⟩
 · exact .inr ⟨b', s', dl, g1, g2, g3, Ev.congr hf g4⟩
end
end Tp
end Go.Proofs.Ytmadhaccjmakdaa
namespace Go.Proofs.Ytmadhaccjmakdaa.P
open Go.RowKit Go.Proofs.Yw.A Go.Proofs.Yw.A.Kd Go.Proofs.Yw.B Go.Proofs.Yw.C
attribute [local go_sem] str_gtr str_leq str_geq max2_int min2_int max_two min_two max_three min_three max_four min_four
mutual
noncomputable def r_paths.l0 : Nat -> List (S42) -> List ByteArray -> Int -> List ByteArray -> Int -> Option (List ByteArray)
 | 0, _, _, _, _, _ => none
 | k + 1, x0, x1, x2, x7, x8 => if x8 < (x7.length : Int) then (r_paths.j1 k x0 x1 x2 x7 x8 (decide ((x1.length : Int) < x2))) else (r_paths.j1 k x0 x1 x2 x7 x8 false)
noncomputable def r_paths.j1 : Nat -> List (S42) -> List ByteArray -> Int -> List ByteArray -> Int -> Bool -> Option (List ByteArray)
 | 0, _, _, _, _, _, _ => none
 | k + 1, x0, x1, x2, x7, x8, x34 => if x34 = true then (if 0 <= x8 then (if x8 < (x7.length : Int) then ((q_Has.f k x1 (rdOf ByteArray.empty x7 x8)).bind fun t369 => (if t369 = true then (r_paths.j2 k x0 x1 x2 x7 x8 true) else (if 0 < (x1.length : Int) then ((r_back.f k x0 (rdOf ByteArray.empty x7 x8) (rdOf ByteArray.empty x1 0) (wrap64 ((wrap64 (x2 - (x1.length : Int))) - 1))).bind fun t372 => (r_paths.j2 k x0 x1 x2 x7 x8 (!t372))) else (none)))) else (none)) else (none)) else (some ([] : List ByteArray))
noncomputable def r_paths.j2 : Nat -> List (S42) -> List ByteArray -> Int -> List ByteArray -> Int -> Bool -> Option (List ByteArray)
 | 0, _, _, _, _, _, _ => none
 | k + 1, x0, x1, x2, x7, x8, x59 => if x59 = true then (r_paths.l0 k x0 x1 x2 x7 (wrap64 (x8 + 1))) else (if ([] : List ByteArray).length + x1.length < 8796093022208 then ((some (([] : List ByteArray) ++ x1 : List ByteArray)).bind fun y373 => (if 0 <= x8 then (if x8 < (x7.length : Int) then (if y373.length < 8796093022208 then ((r_paths.f k x0 (y373 ++ [rdOf ByteArray.empty x7 x8]) x2).bind fun t380 => (if (t380.length : Int) > 0 then (some t380) else (r_paths.l0 k x0 x1 x2 x7 (wrap64 (x8 + 1))))) else (none)) else (none)) else (none))) else (none))
noncomputable def r_paths.f : Nat -> List (S42) -> List ByteArray -> Int -> Option (List ByteArray)
 | 0, _, _, _ => none
 | k + 1, l0, l1, a2 => if 0 <= (wrap64 ((l1.length : Int) - 1)) then (if (wrap64 ((l1.length : Int) - 1)) < (l1.length : Int) then ((r_Imports.f k l0 (rdOf ByteArray.empty l1 (wrap64 ((l1.length : Int) - 1)))).bind fun t363 => (if 0 < (l1.length : Int) then ((q_Has.f k t363 (rdOf ByteArray.empty l1 0)).bind fun t367 => (if t367 = true then (some l1) else (r_paths.l0 k l0 l1 a2 t363 0))) else (none))) else (none)) else (none)
end
end Go.Proofs.Ytmadhaccjmakdaa.P
namespace Go.Proofs.Ytmadhaccjmakdaa
open Go.RowKit Go.Proofs.Yw.A Go.Proofs.Yw.B Go.Proofs.Yw.C
@[go_sem] theorem field28_0 (a c d : Int) (b : ByteArray) (w : World) : Sem.run Try.prog (Instr.field 28 (.agg #[.int .i64 a, .string b, .int .i64 c, .int .i64 d]) 0) w = .ok (.int .i64 a) w := by
  have h := Try.underlying28
  simp [Instr.field, asAgg, go_sem, h]
@[go_sem] theorem field28_1 (a c d : Int) (b : ByteArray) (w : World) : Sem.run Try.prog (Instr.field 28 (.agg #[.int .i64 a, .string b, .int .i64 c, .int .i64 d]) 1) w = .ok (.string b) w := by
  have h := Try.underlying28
  simp [Instr.field, asAgg, go_sem, h]
@[go_sem] theorem field28_2 (a c d : Int) (b : ByteArray) (w : World) : Sem.run Try.prog (Instr.field 28 (.agg #[.int .i64 a, .string b, .int .i64 c, .int .i64 d]) 2) w = .ok (.int .i64 c) w := by
  have h := Try.underlying28
  simp [Instr.field, asAgg, go_sem, h]
@[go_sem] theorem field28_3 (a c d : Int) (b : ByteArray) (w : World) : Sem.run Try.prog (Instr.field 28 (.agg #[.int .i64 a, .string b, .int .i64 c, .int .i64 d]) 3) w = .ok (.int .i64 d) w := by
  have h := Try.underlying28
  simp [Instr.field, asAgg, go_sem, h]
end Go.Proofs.Ytmadhaccjmakdaa
namespace Go.Proofs.Ytmadhaccjmakdaa.P
open Go.RowKit Go.Proofs.Yw.A Go.Proofs.Yw.A.Kd Go.Proofs.Yw.B Go.Proofs.Yw.C
attribute [local go_sem] str_gtr str_leq str_geq max2_int min2_int max_two min_two max_three min_three max_four min_four
mutual
noncomputable def r_Cycle.l0 : Nat -> List (S42) -> List ByteArray -> Int -> Option (List ByteArray)
 | 0, _, _, _ => none
 | k + 1, x0, x3, x4 => if x4 <= (x3.length : Int) then (r_Cycle.l1 k x0 x3 x4 0) else (some ([] : List ByteArray))
noncomputable def r_Cycle.l1 : Nat -> List (S42) -> List ByteArray -> Int -> Int -> Option (List ByteArray)
 | 0, _, _, _, _ => none
 | k + 1, x0, x3, x4, x5 => if x5 < (x3.length : Int) then (if 0 <= x5 then ((r_paths.f k x0 (([rdOf ByteArray.empty x3 x5] : List ByteArray)) x4).bind fun t394 => (if (t394.length : Int) > 0 then (some t394) else (r_Cycle.l1 k x0 x3 x4 (wrap64 (x5 + 1))))) else (none)) else (r_Cycle.l0 k x0 x3 (wrap64 (x4 + 1)))
end
noncomputable def r_Cycle.f (k : Nat) (l0 : List (S42)) : Option (List ByteArray) := (r_consistent.f k l0).bind fun bt383 => (if bt383.1 = 0 then ((r_Names.f k l0).bind fun t387 => (r_Cycle.l0 k l0 t387 1)) else (some ([] : List ByteArray)))
noncomputable def r_fault.f (k : Nat) (l0 : List (S42)) : Option (Int × ByteArray × Int × Int) := (r_consistent.f k l0).bind fun bt398 => (if bt398.1 = 0 then ((r_Cycle.f k l0).bind fun t403 => (if (t403.length : Int) > 0 then (if 0 < (t403.length : Int) then (some (18, rdOf ByteArray.empty t403 0, 0, 0)) else (none)) else (some (bt398.1, bt398.2.1, bt398.2.2.1, bt398.2.2.2)))) else (some (bt398.1, bt398.2.1, bt398.2.2.1, bt398.2.2.2)))
noncomputable def r_within.l0 : Nat -> List ByteArray -> List ByteArray -> Int -> Option (Bool)
 | 0, _, _, _ => none
 | k + 1, x0, x1, x5 => if x5 < (x0.length : Int) then (if 0 <= x5 then ((q_Has.f k x1 (rdOf ByteArray.empty x0 x5)).bind fun t408 => (if t408 = true then (r_within.l0 k x0 x1 (wrap64 (x5 + 1))) else (some false))) else (none)) else (some true)
noncomputable def r_within.f (k : Nat) (l0 : List ByteArray) (l1 : List ByteArray) : Option (Bool) := r_within.l0 k l0 l1 0
mutual
noncomputable def r_Order.l0 : Nat -> List (S42) -> List ByteArray -> List ByteArray -> Int -> ByteArray -> Int -> Int -> Option (List ByteArray × Int × ByteArray × Int × Int)
 | 0, _, _, _, _, _, _, _ => none
 | k + 1, x0, x5, x6, x415000, x415001, x415002, x415003 => if (x5.length : Int) < (x6.length : Int) then (r_Order.l1 k x0 x5 x6 0 x415000 x415001 x415002 x415003) else (some (x5, x415000, x415001, x415002, x415003))
noncomputable def r_Order.l1 : Nat -> List (S42) -> List ByteArray -> List ByteArray -> Int -> Int -> ByteArray -> Int -> Int -> Option (List ByteArray × Int × ByteArray × Int × Int)
 | 0, _, _, _, _, _, _, _, _ => none
 | k + 1, x0, x5, x6, x7, x415000, x415001, x415002, x415003 => if x7 < (x6.length : Int) then (if 0 <= x7 then ((q_Has.f k x5 (rdOf ByteArray.empty x6 x7)).bind fun t419 => (if t419 = true then (r_Order.l1 k x0 x5 x6 (wrap64 (x7 + 1)) x415000 x415001 x415002 x415003) else ((r_Imports.f k x0 (rdOf ByteArray.empty x6 x7)).bind fun t421 => ((r_within.f k t421 x5).bind fun t424 => (if t424 = true then (if x5.length < 8796093022208 then (r_Order.l0 k x0 (x5 ++ [rdOf ByteArray.empty x6 x7]) x6 x415000 x415001 x415002 x415003) else (none)) else (r_Order.l1 k x0 x5 x6 (wrap64 (x7 + 1)) x415000 x415001 x415002 x415003)))))) else (none)) else (r_Order.l0 k x0 x5 x6 x415000 x415001 x415002 x415003)
end
noncomputable def r_Order.f (k : Nat) (l0 : List (S42)) : Option (List ByteArray × Int × ByteArray × Int × Int) := (r_fault.f k l0).bind fun bt410 => (if bt410.1 = 0 then ((r_Names.f k l0).bind fun t415 => (r_Order.l0 k l0 ([] : List ByteArray) t415 bt410.1 bt410.2.1 bt410.2.2.1 bt410.2.2.2)) else (some (([] : List ByteArray), bt410.1, bt410.2.1, bt410.2.2.1, bt410.2.2.2)))
end Go.Proofs.Ytmadhaccjmakdaa.P
namespace Go.Proofs.Ytmadhaccjmakdaa
open Go.Maps Go.Sort Go.RowKit Go.Proofs.Yw.A Go.Proofs.Yw.B Go.Proofs.Yw.C Go.Proofs.Ytmadhaccjmakdaa.P
namespace Tp
open Tj Rw Od Mg
open Classical
section
variable {l : List S42}
theorem VL.len (G : Good l) {L : List Int} (hL : VL l L) (hp : L.Pairwise (· < ·)) : L.length <= l.length :=
 nodup_le l.length L (hp.imp (fun h e => by subst e; omega)) hL
theorem back_l2 (G : Good l) {b : Int} (hb0 : 0 <= b) (hb1 : b < l.length) {x : Int} (hx0 : 0 <= x) (hx1 : x < l.length) (N i c : Int) (R : List ByteArray) (r : Bool) : ∀ (m j : Nat) (T : List Int), j + m = (row (edgesOf l) x).length -> VL l T -> T.Pairwise (· < ·) ->
 (b ∈ (row (edgesOf l) x).drop j -> r = true) ->
 (b ∉ (row (edgesOf l) x).drop j -> ∀ T', VL l T' -> T'.Pairwise (· < ·) -> (∀ y, y ∈ T' ↔ y ∈ T \/ y ∈ (row (edgesOf l) x).drop j) -> Ev (fun k => r_back.l1 k l (nb l b) N R i (T'.map (nb l)) (wrap64 (c + 1))) r) ->
 Ev (fun k => r_back.l2 k l (nb l b) N R i (T.map (nb l)) c ((row (edgesOf l) x).map (nb l)) j) r := by
 have hr := row_len G hx0 hx1
 have hvr := VL.row G hx0 hx1
 intro m
 induction m with
 | zero =>
  intro j T hj hT hp _ h2
  rw [List.drop_eq_nil_of_le (by omega)] at h2
  refine Ev.step (fun k => ?_) (h2 (by simp) T hT hp (by simp))
  simp only [r_back.l2]
  rw [if_neg (by rw [List.length_map]; omega)]
 | succ m ih =>
  intro j T hj hT hp h1 h2
  have hj2 : j < (row (edgesOf l) x).length := by omega
  have hw := hvr (rd (row (edgesOf l) x) j) (by rw [rd_at _ j hj2]; exact List.getElem_mem _)
  rw [drop_row _ j hj2] at h1 h2
  by_cases e : rd (row (edgesOf l) x) j = b
  · rw [h1 (by rw [e]; simp)]
    refine Ev.step (fun k => ?_) (Ev.now _)
    simp only [r_back.l2]
    rw [if_pos (by rw [List.length_map]; omega), if_pos (by omega), rd_strs j hj2, if_pos (by rw [e])]
  have hi := ins_at G hT hw.1 hw.2 (by have := VL.len G hT hp; have := G.len; omega)
  have hne : (nb l (rd (row (edgesOf l) x) j)).toList ≠ (nb l b).toList := fun h => e (nb_inj G hw.1 hw.2 hb0 hb1 ((toL_iff _ _).1 h))
  have hrec := ih (j + 1) (insI (rd (row (edgesOf l) x) j) T) (by omega) (hT.insI hw.1 hw.2) (insI_lt _ hp) (fun h => h1 (List.mem_cons_of_mem _ h)) (fun h T' hT' hp' hm' => h2 (by
   rw [List.mem_cons, not_or]; exact ⟨fun h => e h.symm, h⟩) T' hT' hp' (fun y => by
    rw [hm' y, mem_insI, List.mem_cons]
    constructor
    · rintro ((h | h) | h)
      · exact .inr (.inl h)
      · exact .inl h
      · exact .inr (.inr h)
    · rintro (h | h | h)
      · exact .inl (.inr h)
      · exact .inl (.inl h)
      · exact .inr h))
  refine Ev.step (fun k => ?_) (Ev.bind hi (f := fun k t => r_back.l2 k l (nb l b) N R i t c ((row (edgesOf l) x).map (nb l)) ((j + 1 : Nat) : Int)) hrec)
  simp only [r_back.l2]
  rw [if_pos (by rw [List.length_map]; omega), if_pos (by omega), rd_strs j hj2, if_neg hne, succ_cast j (by omega)]
theorem back_ev (G : Good l) {a b : Int} (ha0 : 0 <= a) (ha1 : a < l.length) (hb0 : 0 <= b) (hb1 : b < l.length) (N : Int) (hN : N <= 100) :
 Ev (fun k => r_back.f k l (nb l a) (nb l b) N) (decide (∃ m : Nat, 1 <= m /\ (m : Int) <= N + 1 /\ Wk (edgesOf l) m a b)) := by
 have hlen := G.len
 have outer : ∀ (M i : Nat) (R : List Int), (i : Int) + M = max (i : Int) (N + 1) -> VL l R -> R.Pairwise (· < ·) -> (∀ y, y ∈ R ↔ ∃ m ≤ i, Wk (edgesOf l) m a y) -> (∀ m : Nat, 1 <= m -> m <= i -> ¬ Wk (edgesOf l) m a b) ->
  Ev (fun k => r_back.l0 k l (nb l b) N (R.map (nb l)) i) (decide (∃ m : Nat, 1 <= m /\ (m : Int) <= N + 1 /\ Wk (edgesOf l) m a b)) := by
  intro M
  induction M with
  | zero =>
   intro i R hi hR hp hm hno
   rw [decide_eq_false (by rintro ⟨m, h1, h2, h3⟩; exact hno m h1 (by omega) h3)]
   refine Ev.step (fun k => ?_) (Ev.now _)
   simp only [r_back.l0]
   rw [if_neg (by omega)]
  | succ M ih =>
   intro i R hi hR hp hm hno
   have hRl := VL.len G hR hp
   have mid : ∀ (q c : Nat) (T : List Int), c + q = R.length -> VL l T -> T.Pairwise (· < ·) -> (∀ y, y ∈ T ↔ ∃ x ∈ R.take c, y = x \/ y ∈ row (edgesOf l) x) -> (∀ x ∈ R.take c, b ∉ row (edgesOf l) x) ->
    Ev (fun k => r_back.l1 k l (nb l b) N (R.map (nb l)) i (T.map (nb l)) c) (decide (∃ m : Nat, 1 <= m /\ (m : Int) <= N + 1 /\ Wk (edgesOf l) m a b)) := by
    intro q
    induction q with
    | zero =>
     intro c T hc hT hTp hTm hTb
     rw [List.take_of_length_le (by omega)] at hTm hTb
     refine Ev.step (fun k => ?_) (ih (i + 1) T (by omega) hT hTp (fun y => ?_) (fun m h1 h2 h3 => ?_))
     · simp only [r_back.l1]
       rw [if_neg (by rw [List.length_map]; omega), succ_cast i (by omega)]
     · rw [hTm y]
       constructor
       · rintro ⟨x, hx, h⟩
         obtain ⟨m, h1, h2⟩ := (hm x).1 hx
         rcases h with rfl | h
         · exact ⟨m, by omega, h2⟩
         · exact ⟨m + 1, by omega, wk_add h2 (wk_one h)⟩
       · rintro ⟨m, h1, h2⟩
         by_cases e : m <= i
         · exact ⟨y, (hm y).2 ⟨m, e, h2⟩, .inl rfl⟩
         obtain ⟨p, rfl⟩ : ∃ p, m = p + 1 := ⟨m - 1, by omega⟩
         obtain ⟨x, h3, h4⟩ := wk_split h2
         obtain ⟨z, hz, h5⟩ := h4
         have h6 : z = y := h5
         exact ⟨x, (hm x).2 ⟨p, by omega, h3⟩, .inr (h6 ▸ hz)⟩
     · by_cases e : m <= i
       · exact hno m h1 e h3
       · obtain ⟨p, rfl⟩ : ∃ p, m = p + 1 := ⟨m - 1, by omega⟩
         obtain ⟨x, h4, z, hz, h5⟩ := wk_split h3
         have h6 : z = b := h5
         exact hTb x ((hm x).2 ⟨p, by omega, h4⟩) (h6 ▸ hz)
    | succ q ihq =>
     intro c T hc hT hTp hTm hTb
     have hc2 : c < R.length := by omega
     have hxm : rd R c ∈ R := by rw [rd_at _ c hc2]; exact List.getElem_mem _
     have hx := hR _ hxm
     have htk : R.take (c + 1) = R.take c ++ [rd R c] := by rw [List.take_succ_eq_append_getElem hc2, rd_at _ c hc2]
     have hi1 := ins_at G hT hx.1 hx.2 (by have := VL.len G hT hTp; omega)
     have hi2 := imps_at G hx.1 hx.2
     have hi3 := back_l2 G hb0 hb1 hx.1 hx.2 N i c (R.map (nb l)) (decide (∃ m : Nat, 1 <= m /\ (m : Int) <= N + 1 /\ Wk (edgesOf l) m a b)) (row (edgesOf l) (rd R c)).length 0 (insI (rd R c) T) (by omega) (hT.insI hx.1 hx.2) (insI_lt _ hTp)
      (fun h => by
       rw [List.drop_zero] at h
       obtain ⟨m, h1, h2⟩ := (hm _).1 hxm
       exact decide_eq_true ⟨m + 1, by omega, by omega, wk_add h2 (wk_one h)⟩)
      (fun h T' hT' hp' hm' => by
       rw [List.drop_zero] at h hm'
       have := ihq (c + 1) T' (by omega) hT' hp' (fun y => by
        rw [hm' y, mem_insI, hTm y, htk]
        simp only [List.mem_append, List.mem_singleton]
        constructor
        · rintro ((h | ⟨x, hx, h⟩) | h)
          · exact ⟨_, .inr rfl, .inl h⟩
          · exact ⟨x, .inl hx, h⟩
          · exact ⟨_, .inr rfl, .inr h⟩
        · rintro ⟨x, hx | rfl, h⟩
          · exact .inl (.inr ⟨x, hx, h⟩)
          · rcases h with h | h
            · exact .inl (.inl h)
            · exact .inr h) (fun x hx2 => by
        rw [htk, List.mem_append, List.mem_singleton] at hx2
        rcases hx2 with hx2 | rfl
        · exact hTb x hx2
        · exact h)
       rw [succ_cast c (by omega)]
       exact this)
     refine Ev.step (fun k => ?_) (Ev.bind hi1 (f := fun k t => (r_Imports.f k l (nb l (rd R c))).bind fun t2 => r_back.l2 k l (nb l b) N (R.map (nb l)) i t c t2 0) (Ev.bind hi2 (f := fun k t2 => r_back.l2 k l (nb l b) N (R.map (nb l)) i ((insI (rd R c) T).map (nb l)) c t2 0) hi3))
     simp only [r_back.l1]
     rw [if_pos (by rw [List.length_map]; omega), if_pos (by omega), rd_strs c hc2]
   refine Ev.step (fun k => ?_) (mid R.length 0 [] (by omega) (fun x hx => by cases hx) List.Pairwise.nil (by simp) (by simp))
   simp only [r_back.l0]
   rw [if_pos (by omega)]
   rfl
 have h := outer (N + 1).toNat 0 [a] (by omega) (fun x hx => by rw [List.mem_singleton] at hx; subst hx; exact ⟨ha0, ha1⟩) (by simp) (fun y => by
  rw [List.mem_singleton]
  constructor
  · rintro rfl; exact ⟨0, Nat.le_refl _, rfl⟩
  · rintro ⟨m, h1, h2⟩
    obtain rfl : m = 0 := by omega
    have h3 : a = y := h2
    exact h3.symm) (fun m h1 h2 => by omega)
 exact h
end
section
variable {l : List S42}
theorem paths_none (G : Good l) {s : Int} (h0 : 0 <= s) (h1 : s < l.length) (N : Nat) (hN1 : 1 <= N) (hN : N <= 40) (hno : ∀ m : Nat, 1 <= m -> m <= N -> ¬ Wk (edgesOf l) m s s) :
 Ev (fun k => r_paths.f k l [nb l s] (N : Int)) [] := by
 have hlen := G.len
 have hr := row_len G h0 h1
 have hvr := VL.row G h0 h1
 have hsn : s ∉ row (edgesOf l) s := fun h => hno 1 (by omega) hN1 (wk_one h)
 have loop : ∀ (m j : Nat), j + m = (row (edgesOf l) s).length -> Ev (fun k => r_paths.l0 k l [nb l s] (N : Int) ((row (edgesOf l) s).map (nb l)) j) [] := by
  intro m
  induction m with
  | zero =>
   intro j hj
   refine Ev.step (fun k => ?_) (Ev.step (g := fun k => r_paths.j1 k l [nb l s] (N : Int) ((row (edgesOf l) s).map (nb l)) j false) (fun k => ?_) (Ev.now _))
   · simp only [r_paths.l0]
     rw [if_neg (by rw [List.length_map]; omega)]
   · simp only [r_paths.j1]
     rw [if_neg (by simp)]
  | succ m ih =>
   intro j hj
   have hj2 : j < (row (edgesOf l) s).length := by omega
   have hwm : rd (row (edgesOf l) s) j ∈ row (edgesOf l) s := by rw [rd_at _ j hj2]; exact List.getElem_mem _
   have hw := hvr _ hwm
   have hhas := has_at G (L := [s]) (fun x hx => by rw [List.mem_singleton] at hx; subst hx; exact ⟨h0, h1⟩) hw.1 hw.2 (by simp)
   rw [decide_eq_false (by rw [List.mem_singleton]; intro e; have h' := hwm; rw [e] at h'; exact hsn h')] at hhas
   have hback := back_ev G hw.1 hw.2 h0 h1 ((N : Int) - 1 - 1) (by omega)
   rw [decide_eq_false (by rintro ⟨q, q1, q2, q3⟩; exact hno (q + 1) (by omega) (by omega) ⟨_, hwm, q3⟩)] at hback
   by_cases hN2 : N = 1
   · refine Ev.step (fun k => ?_) (Ev.step (g := fun k => r_paths.j1 k l [nb l s] (N : Int) ((row (edgesOf l) s).map (nb l)) j false) (fun k => ?_) (Ev.now _))
     · simp only [r_paths.l0]
       rw [if_pos (by rw [List.length_map]; omega), decide_eq_false (by simp; omega)]
     · simp only [r_paths.j1]
       rw [if_neg (by simp)]
   have hj2' : Ev (fun k => r_paths.j2 k l [nb l s] (N : Int) ((row (edgesOf l) s).map (nb l)) j true) [] := by
    refine Ev.step (fun k => ?_) (ih (j + 1) (by omega))
    simp only [r_paths.j2]
    rw [if_pos trivial, succ_cast j (by omega)]
   refine Ev.step (fun k => ?_) (Ev.step (g := fun k => r_paths.j1 k l [nb l s] (N : Int) ((row (edgesOf l) s).map (nb l)) j true) (fun k => ?_) (Ev.bind hhas (f := fun k t => if t = true then r_paths.j2 k l [nb l s] (N : Int) ((row (edgesOf l) s).map (nb l)) j true else (r_back.f k l (nb l (rd (row (edgesOf l) s) j)) (nb l s) ((N : Int) - 1 - 1)).bind fun t2 => r_paths.j2 k l [nb l s] (N : Int) ((row (edgesOf l) s).map (nb l)) j (!t2)) (Ev.bind hback (f := fun k t2 => r_paths.j2 k l [nb l s] (N : Int) ((row (edgesOf l) s).map (nb l)) j (!t2)) hj2')))
   · simp only [r_paths.l0]
     rw [if_pos (by rw [List.length_map]; omega), decide_eq_true (by simp; omega)]
   · simp only [r_paths.j1]
     rw [if_pos trivial, if_pos (by omega), if_pos (by rw [List.length_map]; omega), rd_strs j hj2]
     congr 1
     funext t
     have e1 : wrap64 ((wrap64 ((N : Int) - ((([nb l s] : List ByteArray).length : Nat) : Int))) - 1) = (N : Int) - 1 - 1 := by
      rw [List.length_singleton, w64 ((N : Int) - (1 : Nat)) (by omega) (by omega), w64 _ (by omega) (by omega)]
      omega
     rw [e1, if_pos (show (0 : Int) < ((([nb l s] : List ByteArray).length : Nat) : Int) by simp)]
     rfl
 have hh := has_at G hvr h0 h1 (by omega)
 rw [decide_eq_false hsn] at hh
 refine Ev.step (fun k => ?_) (Ev.bind (imps_at G h0 h1) (f := fun k t => (q_Has.f k t (nb l s)).bind fun t2 => if t2 = true then some [nb l s] else r_paths.l0 k l [nb l s] (N : Int) t ((0 : Nat) : Int)) (Ev.bind hh (f := fun k t2 => if t2 = true then some [nb l s] else r_paths.l0 k l [nb l s] (N : Int) ((row (edgesOf l) s).map (nb l)) ((0 : Nat) : Int)) (loop _ 0 (Nat.zero_add _))))
 simp only [r_paths.f]
 have e0 : wrap64 (((([nb l s] : List ByteArray).length : Nat) : Int) - 1) = 0 := by rw [List.length_singleton, w64 _ (by omega) (by omega)]; omega
 rw [e0, if_pos (by omega), if_pos (by simp)]
 have e1 : rdOf ByteArray.empty [nb l s] 0 = nb l s := rfl
 rw [e1]
 congr 1
theorem paths_walk (G : Good l) {b : Nat} {s : Int} (g : Gi (edgesOf l) b s) (hb : b <= l.length) {dl : List Int} (D : DL (edgesOf l) s dl) :
 ∀ (q : Nat) (path : List Int) (v : Int), path.length + q = b -> VL l path -> path.head? = some s -> path.getLast? = some v -> (∀ i : Nat, (h : i < path.length) -> Wk (edgesOf l) i s path[i]) -> Wk (edgesOf l) (q + 1) v s ->
  Ev (fun k => r_paths.f k l (path.map (nb l)) (b : Int)) ((path ++ chn (edgesOf l) dl q v).map (nb l)) := by
 have hlen := G.len
 have hvld := es_vld G
 have hsn := g.nds
 have hs0 : 0 <= s := hsn.1
 have hs1 : s < l.length := by have := hsn.2; rw [es_len G] at this; exact this
 have hmin : ∀ m : Nat, 1 <= m -> Wk (edgesOf l) m s s -> b <= m := fun m h1 h2 => (g.min s hsn m ⟨h1, h2⟩).1
 intro q
 induction q with
 | zero =>
  intro path v hq hv hhd hlast hwk hend
  have hpl : 0 < path.length := by cases path with | nil => cases hhd | cons => simp
  have hvm : v ∈ path := List.mem_of_getLast? hlast
  have hv2 := hv v hvm
  obtain ⟨c, hc, hcs⟩ := hend
  have hcs2 : c = s := hcs
  rw [hcs2] at hc
  have hh := has_at G (VL.row G hv2.1 hv2.2) hs0 hs1 (by have := row_len G hv2.1 hv2.2; omega)
  rw [decide_eq_true hc] at hh
  rw [chn, List.append_nil]
  have eL : rdOf ByteArray.empty (path.map (nb l)) ((path.length : Int) - 1) = nb l v := by
   rw [show ((path.length : Int) - 1) = ((path.length - 1 : Nat) : Int) by omega, rd_strs _ (by omega), rd_at _ _ (by omega)]
   rw [List.getLast?_eq_getElem?, List.getElem?_eq_getElem (by omega)] at hlast
   rw [Option.some.inj hlast]
  have e0 : rdOf ByteArray.empty (path.map (nb l)) 0 = nb l s := by
   have := rd_strs (l := l) (L := path) 0 hpl
   rw [rd_at _ 0 hpl] at this
   cases path with
   | nil => cases hhd
   | cons p path => simp at hhd; subst hhd; exact this
  have ew : wrap64 (((path.map (nb l)).length : Int) - 1) = (path.length : Int) - 1 := by rw [List.length_map, w64 _ (by omega) (by omega)]
  refine Ev.step (fun k => ?_) (Ev.bind (imps_at G hv2.1 hv2.2) (f := fun k t => (q_Has.f k t (nb l s)).bind fun t2 => if t2 = true then some (path.map (nb l)) else r_paths.l0 k l (path.map (nb l)) (b : Int) t 0) (Ev.bind hh (f := fun k t2 => if t2 = true then some (path.map (nb l)) else r_paths.l0 k l (path.map (nb l)) (b : Int) ((row (edgesOf l) v).map (nb l)) 0) (Ev.now _)))
  simp only [r_paths.f]
  rw [ew, if_pos (by omega), if_pos (by rw [List.length_map]; omega), eL, e0]
  congr 1
  funext t
  rw [if_pos (by rw [List.length_map]; omega)]
 | succ q ih =>
  intro path v hq hv hhd hlast hwk hend
  have hpl : 0 < path.length := by cases path with | nil => cases hhd | cons => simp
  have hvm : v ∈ path := List.mem_of_getLast? hlast
  have hv2 := hv v hvm
  have hr := row_len G hv2.1 hv2.2
  have hvr := VL.row G hv2.1 hv2.2
  have hlast2 : path[path.length - 1]'(by omega) = v := by
   rw [List.getLast?_eq_getElem?, List.getElem?_eq_getElem (by omega)] at hlast
   exact Option.some.inj hlast
  have hwv : Wk (edgesOf l) (path.length - 1) s v := by
   have := hwk (path.length - 1) (by omega)
   rw [hlast2] at this
   exact this
  have hsnv : s ∉ row (edgesOf l) v := fun h => by
   have := hmin (path.length - 1 + 1) (by omega) (wk_add hwv (wk_one h))
   omega
  have hh := has_at G hvr hs0 hs1 (by omega)
  rw [decide_eq_false hsnv] at hh
  have eL : rdOf ByteArray.empty (path.map (nb l)) ((path.length : Int) - 1) = nb l v := by
   rw [show ((path.length : Int) - 1) = ((path.length - 1 : Nat) : Int) by omega, rd_strs _ (by omega), rd_at _ _ (by omega), hlast2]
  have e0 : rdOf ByteArray.empty (path.map (nb l)) 0 = nb l s := by
   have := rd_strs (l := l) (L := path) 0 hpl
   rw [rd_at _ 0 hpl] at this
   cases path with
   | nil => cases hhd
   | cons p path => simp at hhd; subst hhd; exact this
  have ew : wrap64 (((path.map (nb l)).length : Int) - 1) = (path.length : Int) - 1 := by rw [List.length_map, w64 _ (by omega) (by omega)]
  have hge : ∀ w ∈ row (edgesOf l) v, 0 <= rd dl w -> ((q + 1 : Nat) : Int) <= rd dl w := by
   intro w hw h0
   have hwn := hvld v ⟨hv2.1, by rw [es_len G]; exact hv2.2⟩ w hw
   obtain ⟨d1, d2⟩ := D.has w hwn h0
   have hpos : 0 < (rd dl w).toNat := by
    rcases Nat.eq_zero_or_pos (rd dl w).toNat with e | e
    · rw [e] at d1
      have e2 : w = s := d1
      exact absurd (e2 ▸ hw) hsnv
    · exact e
   have := hmin (path.length - 1 + 1 + (rd dl w).toNat) (by omega) (wk_add (wk_add hwv (wk_one hw)) d1)
   omega
  have hskip : ∀ w ∈ row (edgesOf l) v, rd dl w ≠ ((q + 1 : Nat) : Int) -> ¬ ∃ m : Nat, 1 <= m /\ (m : Int) <= ((b : Int) - path.length - 1) + 1 /\ Wk (edgesOf l) m w s := by
   rintro w hw hne ⟨m, m1, m2, m3⟩
   have hwn := hvld v ⟨hv2.1, by rw [es_len G]; exact hv2.2⟩ w hw
   by_cases h0 : rd dl w < 0
   · exact (D.non w hwn h0).2 m m3
   have h1 := hge w hw (by omega)
   have h2 := (D.has w hwn (by omega)).2 m m3
   omega
  have htake : ∀ w ∈ row (edgesOf l) v, rd dl w = ((q + 1 : Nat) : Int) -> w ∉ path /\ Wk (edgesOf l) (q + 1) w s := by
   intro w hw e
   have hwn := hvld v ⟨hv2.1, by rw [es_len G]; exact hv2.2⟩ w hw
   have d1 := (D.has w hwn (by omega)).1
   rw [e] at d1
   have d2 : Wk (edgesOf l) (q + 1) w s := by simpa using d1
   refine ⟨fun hp => ?_, d2⟩
   obtain ⟨i, hi, rfl⟩ := List.mem_iff_getElem.1 hp
   have := hmin (i + (q + 1)) (by omega) (wk_add (hwk i hi) d2)
   omega
  have hex : ∃ w ∈ row (edgesOf l) v, rd dl w = ((q + 1 : Nat) : Int) := by
   obtain ⟨c, hc, hcs⟩ := hend
   have hcn := hvld v ⟨hv2.1, by rw [es_len G]; exact hv2.2⟩ c hc
   have hc0 : 0 <= rd dl c := by
    rcases Int.lt_or_le (rd dl c) 0 with e | e
    · exact absurd hcs ((D.non c hcn e).2 _)
    · exact e
   have h1 := hge c hc hc0
   have h2 := (D.has c hcn hc0).2 _ hcs
   exact ⟨c, hc, by omega⟩
  have loop : ∀ (m j : Nat), j + m = (row (edgesOf l) v).length -> (∃ w ∈ (row (edgesOf l) v).drop j, rd dl w = ((q + 1 : Nat) : Int)) ->
   Ev (fun k => r_paths.l0 k l (path.map (nb l)) (b : Int) ((row (edgesOf l) v).map (nb l)) j)
    ((path ++ ((((row (edgesOf l) v).drop j).find? (fun w => rd dl w == ((q + 1 : Nat) : Int))).getD v :: chn (edgesOf l) dl q ((((row (edgesOf l) v).drop j).find? (fun w => rd dl w == ((q + 1 : Nat) : Int))).getD v))).map (nb l)) := by
   intro m
   induction m with
   | zero =>
    rintro j hj ⟨w, hw, _⟩
    rw [List.drop_eq_nil_of_le (by omega)] at hw
    cases hw
   | succ m ihm =>
    rintro j hj hw
    have hj2 : j < (row (edgesOf l) v).length := by omega
    have hwm : rd (row (edgesOf l) v) j ∈ row (edgesOf l) v := by rw [rd_at _ j hj2]; exact List.getElem_mem _
    have hwv2 := hvr _ hwm
    have hhas := has_at G hv hwv2.1 hwv2.2 (by omega)
    have hback := back_ev G hwv2.1 hwv2.2 hs0 hs1 ((b : Int) - path.length - 1) (by omega)
    have e1 : wrap64 ((wrap64 ((b : Int) - (((path.map (nb l)).length : Nat) : Int))) - 1) = (b : Int) - path.length - 1 := by
     rw [List.length_map, w64 ((b : Int) - (path.length : Nat)) (by omega) (by omega), w64 _ (by omega) (by omega)]
    have enter : ∀ r, Ev (fun k => r_paths.j2 k l (path.map (nb l)) (b : Int) ((row (edgesOf l) v).map (nb l)) j (if rd (row (edgesOf l) v) j ∈ path then true else !(decide (∃ m : Nat, 1 <= m /\ (m : Int) <= ((b : Int) - path.length - 1) + 1 /\ Wk (edgesOf l) m (rd (row (edgesOf l) v) j) s)))) r ->
     Ev (fun k => r_paths.l0 k l (path.map (nb l)) (b : Int) ((row (edgesOf l) v).map (nb l)) j) r := by
     intro r hrr
     have h2 : Ev (fun k => if decide (rd (row (edgesOf l) v) j ∈ path) = true then r_paths.j2 k l (path.map (nb l)) (b : Int) ((row (edgesOf l) v).map (nb l)) j true else (r_back.f k l (nb l (rd (row (edgesOf l) v) j)) (nb l s) ((b : Int) - path.length - 1)).bind fun t2 => r_paths.j2 k l (path.map (nb l)) (b : Int) ((row (edgesOf l) v).map (nb l)) j (!t2)) r := by
      by_cases hp : rd (row (edgesOf l) v) j ∈ path
      · rw [if_pos hp] at hrr
        simpa only [decide_eq_true hp, if_true] using hrr
      rw [if_neg hp] at hrr
      refine Ev.congr (fun k => ?_) (Ev.bind hback (f := fun k t2 => r_paths.j2 k l (path.map (nb l)) (b : Int) ((row (edgesOf l) v).map (nb l)) j (!t2)) hrr)
      rw [if_neg (by simpa using hp)]
     refine Ev.step (fun k => ?_) (Ev.step (g := fun k => r_paths.j1 k l (path.map (nb l)) (b : Int) ((row (edgesOf l) v).map (nb l)) j true) (fun k => ?_) (Ev.bind hhas (f := fun k t => if t = true then r_paths.j2 k l (path.map (nb l)) (b : Int) ((row (edgesOf l) v).map (nb l)) j true else (r_back.f k l (nb l (rd (row (edgesOf l) v) j)) (nb l s) ((b : Int) - path.length - 1)).bind fun t2 => r_paths.j2 k l (path.map (nb l)) (b : Int) ((row (edgesOf l) v).map (nb l)) j (!t2)) h2))
     · simp only [r_paths.l0]
       rw [if_pos (by rw [List.length_map]; omega), decide_eq_true (by rw [List.length_map]; omega)]
     · simp only [r_paths.j1]
       rw [if_pos trivial, if_pos (by omega), if_pos (by rw [List.length_map]; omega), rd_strs j hj2, e0, e1]
       congr 1
       funext t
       rw [if_pos (show (0 : Int) < (((path.map (nb l)).length : Nat) : Int) by rw [List.length_map]; omega)]
    rw [drop_row _ j hj2] at hw ⊢
    by_cases c : rd dl (rd (row (edgesOf l) v) j) = ((q + 1 : Nat) : Int)
    rotate_left
    · have hw2 : ∃ w ∈ (row (edgesOf l) v).drop (j + 1), rd dl w = ((q + 1 : Nat) : Int) := by
       obtain ⟨w, hw, e⟩ := hw
       rcases List.mem_cons.1 hw with rfl | hw
       · exact absurd e c
       · exact ⟨w, hw, e⟩
      rw [List.find?_cons_of_neg (by simpa using c)]
      refine enter _ ?_
      have hT : (if rd (row (edgesOf l) v) j ∈ path then true else !(decide (∃ m : Nat, 1 <= m /\ (m : Int) <= ((b : Int) - path.length - 1) + 1 /\ Wk (edgesOf l) m (rd (row (edgesOf l) v) j) s))) = true := by
       split
       · rfl
       · rw [decide_eq_false (hskip _ hwm c)]; rfl
      rw [hT]
      refine Ev.step (fun k => ?_) (ihm (j + 1) (by omega) hw2)
      simp only [r_paths.j2]
      rw [if_pos trivial, succ_cast j (by omega)]
    obtain ⟨t1, t2⟩ := htake _ hwm c
    rw [List.find?_cons_of_pos (by simpa using c), Option.getD_some]
    have hrec := ih (path ++ [rd (row (edgesOf l) v) j]) (rd (row (edgesOf l) v) j) (by rw [List.length_append, List.length_singleton]; omega) (fun x hx => by
     rw [List.mem_append, List.mem_singleton] at hx
     rcases hx with hx | rfl
     · exact hv x hx
     · exact hwv2) (by cases path with | nil => cases hhd | cons p path => simpa using hhd) (by simp) (fun i hi => by
       rw [List.length_append, List.length_singleton] at hi
       by_cases e : i < path.length
       · rw [List.getElem_append_left e]; exact hwk i e
       have e2 : i = path.length := by omega
       subst e2
       rw [List.getElem_append_right (Nat.le_refl _)]
       simp only [Nat.sub_self, List.getElem_cons_zero]
       have := wk_add hwv (wk_one hwm)
       rw [show path.length - 1 + 1 = path.length by omega] at this
       exact this) t2
    rw [List.append_assoc, List.singleton_append, List.map_append, List.map_cons, List.map_nil] at hrec
    refine enter _ ?_
    rw [if_neg t1, decide_eq_true ⟨q + 1, by omega, by omega, t2⟩]
    refine Ev.step (fun k => ?_) (Ev.bind hrec (f := fun k t => if (t.length : Int) > 0 then some t else r_paths.l0 k l (path.map (nb l)) (b : Int) ((row (edgesOf l) v).map (nb l)) ((j + 1 : Nat) : Int)) (Ev.congr (fun k => ?_) (Ev.now _)))
    · simp only [r_paths.j2]
      rw [if_neg (by simp), if_pos (by simp; omega), Option.bind_some, if_pos (by omega), if_pos (by rw [List.length_map]; omega), List.nil_append, if_pos (by rw [List.length_map]; omega), rd_strs j hj2, succ_cast j (by omega)]
    · rw [if_pos (by simp; omega)]
  have hloop := loop (row (edgesOf l) v).length 0 (by omega) (by rw [List.drop_zero]; exact hex)
  rw [List.drop_zero] at hloop
  rw [chn]
  refine Ev.step (fun k => ?_) (Ev.bind (imps_at G hv2.1 hv2.2) (f := fun k t => (q_Has.f k t (nb l s)).bind fun t2 => if t2 = true then some (path.map (nb l)) else r_paths.l0 k l (path.map (nb l)) (b : Int) t ((0 : Nat) : Int)) (Ev.bind hh (f := fun k t2 => if t2 = true then some (path.map (nb l)) else r_paths.l0 k l (path.map (nb l)) (b : Int) ((row (edgesOf l) v).map (nb l)) ((0 : Nat) : Int)) hloop))
  simp only [r_paths.f]
  rw [ew, if_pos (by omega), if_pos (by rw [List.length_map]; omega), eL, e0]
  congr 1
  funext t
  rw [if_pos (by rw [List.length_map]; omega)]
  rfl
end
section
variable {l : List S42}
theorem chn_vl (G : Good l) (dl : List Int) : ∀ (q : Nat) (v : Int), 0 <= v -> v < l.length -> VL l (chn (edgesOf l) dl q v) := by
 intro q
 induction q with
 | zero => intro v _ _ x hx; cases hx
 | succ q ih =>
  intro v h0 h1 x hx
  have hw : 0 <= (((row (edgesOf l) v).find? (fun w => rd dl w == ((q + 1 : Nat) : Int))).getD v) /\ (((row (edgesOf l) v).find? (fun w => rd dl w == ((q + 1 : Nat) : Int))).getD v) < l.length := by
   cases h : (row (edgesOf l) v).find? (fun w => rd dl w == ((q + 1 : Nat) : Int)) with
   | none => exact ⟨h0, h1⟩
   | some w => exact VL.row G h0 h1 w (List.mem_of_find?_eq_some h)
  rw [chn] at hx
  rcases List.mem_cons.1 hx with rfl | hx
  · exact hw
  · exact ih _ hw.1 hw.2 x hx
theorem refcycle_of (G : Good l) (C : List Int) (h : ((∀ u, nd (edgesOf l) u -> ∀ m, ¬ Cy (edgesOf l) u m) /\ C = []) \/ ∃ b s dl, Gi (edgesOf l) b s /\ b <= (edgesOf l).length /\ DL (edgesOf l) s dl /\ C = s :: chn (edgesOf l) dl (b - 1) s) (h0 : (consF l).1 = 0) :
 Ev (fun k => r_Cycle.f k l) (C.map (nb l)) := by
 have hlen := G.len
 have hil : (iota l.length).length = l.length := iota_length _
 have hrdi : ∀ i : Nat, i < l.length -> rdOf ByteArray.empty ((iota l.length).map (nb l)) (i : Int) = nb l (i : Int) := fun i hi => by
  rw [rd_strs i (by rw [hil]; exact hi), rd_at _ i (by rw [hil]; exact hi)]
  simp [iota]
 have hmain : Ev (fun k => r_Cycle.l0 k l ((iota l.length).map (nb l)) 1) (C.map (nb l)) := by
  have skip : ∀ (N : Nat), 1 <= N -> N <= l.length -> ∀ (m i t : Nat), i + m = t -> t <= l.length -> (∀ u : Nat, i <= u -> u < t -> ∀ q : Nat, 1 <= q -> q <= N -> ¬ Wk (edgesOf l) q u u) -> ∀ r, Ev (fun k => r_Cycle.l1 k l ((iota l.length).map (nb l)) (N : Int) t) r ->
   Ev (fun k => r_Cycle.l1 k l ((iota l.length).map (nb l)) (N : Int) i) r := by
   intro N hN1 hN m
   induction m with
   | zero => intro i t hi _ _ r hr; obtain rfl : i = t := (by omega); exact hr
   | succ m ih =>
    intro i t hi ht hno r hr
    have hp := paths_none G (s := (i : Int)) (by omega) (by omega) N hN1 (by omega) (hno i (Nat.le_refl _) (by omega))
    have hrec := ih (i + 1) t (by omega) ht (fun u hu hut => hno u (by omega) hut) r hr
    refine Ev.step (fun k => ?_) (Ev.bind hp (f := fun k t => if (t.length : Int) > 0 then some t else r_Cycle.l1 k l ((iota l.length).map (nb l)) (N : Int) ((i + 1 : Nat) : Int)) (Ev.congr (fun k => ?_) hrec))
    · simp only [r_Cycle.l1]
      rw [if_pos (by rw [List.length_map, hil]; omega), if_pos (by omega), hrdi i (by omega), succ_cast i (by omega)]
    · rw [if_neg (by simp)]
  have done : ∀ (N : Nat), N <= l.length -> ∀ r, Ev (fun k => r_Cycle.l0 k l ((iota l.length).map (nb l)) ((N + 1 : Nat) : Int)) r -> Ev (fun k => r_Cycle.l1 k l ((iota l.length).map (nb l)) (N : Int) (l.length : Nat)) r := by
   intro N hN r hr
   refine Ev.step (fun k => ?_) hr
   simp only [r_Cycle.l1]
   rw [if_neg (by rw [List.length_map, hil]; omega), succ_cast N (by omega)]
  have enter : ∀ (N : Nat), N <= l.length -> ∀ r, Ev (fun k => r_Cycle.l1 k l ((iota l.length).map (nb l)) (N : Int) ((0 : Nat) : Int)) r -> Ev (fun k => r_Cycle.l0 k l ((iota l.length).map (nb l)) (N : Int)) r := by
   intro N hN r hr
   refine Ev.step (fun k => ?_) hr
   simp only [r_Cycle.l0]
   rw [if_pos (by rw [List.length_map, hil]; omega)]
   rfl
  rcases h with ⟨hno, rfl⟩ | ⟨b, s, dl, g, gb, D, rfl⟩
  · have all : ∀ (m N : Nat), N + m = l.length + 1 -> 1 <= N -> Ev (fun k => r_Cycle.l0 k l ((iota l.length).map (nb l)) (N : Int)) [] := by
     intro m
     induction m with
     | zero =>
      intro N hN _
      refine Ev.step (fun k => ?_) (Ev.now _)
      simp only [r_Cycle.l0]
      rw [if_neg (by rw [List.length_map, hil]; omega)]
     | succ m ih =>
      intro N hN hN1
      refine enter N (by omega) _ (skip N hN1 (by omega) l.length 0 l.length (by omega) (Nat.le_refl _) (fun u _ hu q h1 h2 h3 => hno u ⟨by omega, by rw [es_len G]; omega⟩ q ⟨h1, h3⟩) _ (done N (by omega) _ (ih (N + 1) (by omega) (by omega))))
    exact all l.length 1 (by omega) (by omega)
  · rw [es_len G] at gb
    have hb1 := g.cyc.1
    have hs0 : 0 <= s := g.nds.1
    have hs1 : s < l.length := by have := g.nds.2; rw [es_len G] at this; exact this
    obtain ⟨sn, rfl⟩ : ∃ sn : Nat, s = sn := ⟨s.toNat, by omega⟩
    have all : ∀ (m N : Nat), N + m = b -> 1 <= N -> Ev (fun k => r_Cycle.l0 k l ((iota l.length).map (nb l)) (N : Int)) (((sn : Int) :: chn (edgesOf l) dl (b - 1) sn).map (nb l)) := by
     intro m
     induction m with
     | zero =>
      intro N hN _
      obtain rfl : N = b := by omega
      have hw := paths_walk G g gb D (N - 1) [(sn : Int)] sn (by simp; omega) (fun x hx => by rw [List.mem_singleton] at hx; subst hx; exact ⟨hs0, hs1⟩) rfl rfl (fun i hi => by
       have : i = 0 := by simp at hi; exact hi
       subst this; rfl) (by rw [show N - 1 + 1 = N by omega]; exact g.cyc.2)
      refine enter N gb _ (skip N hb1 gb sn 0 sn (by omega) (by omega) (fun u _ hu q h1 h2 h3 => ?_) _ ?_)
      · have := g.min u ⟨by omega, by rw [es_len G]; omega⟩ q ⟨h1, h3⟩
        have := this.2 (by omega)
        omega
      · refine Ev.step (fun k => ?_) (Ev.bind hw (f := fun k t => if (t.length : Int) > 0 then some t else r_Cycle.l1 k l ((iota l.length).map (nb l)) (N : Int) ((sn + 1 : Nat) : Int)) (Ev.congr (fun k => ?_) (Ev.now _)))
        · simp only [r_Cycle.l1]
          rw [if_pos (by rw [List.length_map, hil]; omega), if_pos (by omega), hrdi sn (by omega), succ_cast sn (by omega)]
          rfl
        · rw [if_pos (by simp)]
          rfl
     | succ m ih =>
      intro N hN hN1
      refine enter N (by omega) _ (skip N hN1 (by omega) l.length 0 l.length (by omega) (Nat.le_refl _) (fun u _ hu q h1 h2 h3 => ?_) _ (done N (by omega) _ (ih (N + 1) (by omega) (by omega))))
      have := (g.min u ⟨by omega, by rw [es_len G]; omega⟩ q ⟨h1, h3⟩).1
      omega
    exact all (b - 1) 1 (by omega) (by omega)
 refine Ev.congr (fun k => ?_) (Ev.bind (cons_ev l (fun m hm => by have := G.few m hm; omega)) (f := fun k bt => if bt.1 = 0 then ((r_Names.f k l).bind fun t => r_Cycle.l0 k l t 1) else some []) (Ev.congr (fun k => ?_) (Ev.bind (names_at G) (f := fun k t => r_Cycle.l0 k l t 1) hmain)))
 · rfl
 · rw [if_pos h0]
structure Cyc (l : List S42) (C : List Int) : Prop where
 vl : VL l C
 len : C.length <= 32
 prog : Ev (fun k => p_cycle.f k (namesOf l) (edgesOf l)) C
 ref : Ev (fun k => r_Cycle.f k l) (C.map (nb l))
 told : ((∀ u, nd (edgesOf l) u -> ∀ m, ¬ Cy (edgesOf l) u m) /\ C = []) \/ ∃ b s dl, Gi (edgesOf l) b s /\ b <= (edgesOf l).length /\ DL (edgesOf l) s dl /\ C = s :: chn (edgesOf l) dl (b - 1) s
theorem cyc_ex (G : Good l) (h0 : (consF l).1 = 0) : ∃ C, Cyc l C := by
 have hlen := G.len
 have hc := cycle_ev (namesOf l) (es_vld G) (by rw [es_len G]; omega) (fun v hv => by have := row_len G hv.1 (by have := hv.2; rw [es_len G] at this; exact this); omega) (by rw [names_len G, es_len G])
 rcases hc with ⟨h1, h2⟩ | ⟨b, s, dl, g1, g2, g3, g4⟩
 · exact ⟨[], ⟨fun x hx => (by cases hx), by simp, h2, refcycle_of G [] (.inl ⟨h1, rfl⟩) h0, .inl ⟨h1, rfl⟩⟩⟩
 · have hs1 : s < l.length := by have := g1.nds.2; rw [es_len G] at this; exact this
   refine ⟨_, ⟨fun x hx => ?_, ?_, g4, refcycle_of G _ (.inr ⟨b, s, dl, g1, g2, g3, rfl⟩) h0, .inr ⟨b, s, dl, g1, g2, g3, rfl⟩⟩⟩
   · rcases List.mem_cons.1 hx with rfl | hx
     · exact ⟨g1.nds.1, hs1⟩
     · exact chn_vl G dl _ s g1.nds.1 hs1 x hx
   · rw [List.length_cons, chn_len]
     rw [es_len G] at g2
     have := g1.cyc.1
     omega
end
theorem okSizes_of {l : List S42} (h : ∀ x ∈ l, x.f0.size <= maxLen /\ ∀ i ∈ x.f3, i.f0.size <= maxLen) (hf : ∀ m ∈ l, m.f3.length <= 12) : okSizes l :=
 fun m hm => ⟨(h m hm).1, by have := hf m hm; omega, (h m hm).2⟩
section
variable {es : List (List Int)}
theorem rc_wk {a b : Int} (h : Rc es a b) : ∃ m, Wk es m a b := by
 induction h with
 | refl => exact ⟨0, rfl⟩
 | @tail b c h1 h2 ih =>
  obtain ⟨m, hm⟩ := ih
  exact ⟨m + 1, wk_add hm (wk_one h2)⟩
theorem wk_rc : ∀ {m : Nat} {a b : Int}, Wk es m a b -> Rc es a b := by
 intro m
 induction m with
 | zero => intro a b h; have e : a = b := h; subst e; exact .refl _
 | succ m ih =>
  rintro a b ⟨c, hc, h⟩
  exact (Rc.edge hc).trans (ih h)
def Acy (es : List (List Int)) : Prop := ∀ u, nd es u -> ∀ m, ¬ Cy es u m
theorem acy_anti (A : Acy es) {a b : Int} (ha : nd es a) (h : Rc es a b) (h2 : Rc es b a) : a = b := by
 obtain ⟨m, hm⟩ := rc_wk h
 obtain ⟨q, hq⟩ := rc_wk h2
 rcases Nat.eq_zero_or_pos (m + q) with e | e
 · obtain rfl : m = 0 := by omega
   exact hm
 · exact absurd ⟨e, wk_add hm hq⟩ (A a ha (m + q))
theorem acy_self (A : Acy es) {a : Int} (ha : nd es a) : a ∉ row es a := fun h => A a ha 1 ⟨Nat.le_refl _, wk_one h⟩
theorem acy_edge (A : Acy es) {a w : Int} (ha : nd es a) (h : w ∈ row es a) : ¬ Rc es w a := fun h2 => by
 have := acy_anti A ha (Rc.edge h) h2
 subst this
 exact acy_self A ha h
theorem scc_one (A : Acy es) {m : Int} (hm : nd es m) : scc es m = [m] := by
 have h1 : ∀ x, x ∈ scc es m ↔ x = m := fun x => by
  rw [mem_scc]
  constructor
  · rintro ⟨_, h, h2⟩; exact (acy_anti A hm h h2).symm
  · rintro rfl; exact ⟨hm, .refl _, .refl _⟩
 have h2 := scc_lt es m
 cases h : scc es m with
 | nil => rw [h] at h1; exact absurd ((h1 m).2 rfl) (by simp)
 | cons x r =>
  rw [h] at h1 h2
  have hx := (h1 x).1 (by simp)
  cases r with
  | nil => rw [hx]
  | cons y r =>
   have hy := (h1 y).1 (by simp)
   rw [List.pairwise_cons] at h2
   have := h2.1 y (by simp)
   omega
theorem kahn_take {o : List (List Int)} (h : Kahn es o) : ∀ i, i <= o.length -> Kahn es (o.take i) := by
 intro i
 induction i with
 | zero => intro _; exact .nil
 | succ i ih =>
  intro hi
  rw [List.take_succ_eq_append_getElem (by omega)]
  exact .snoc (ih (by omega)) (kahn_next h i (by omega))
theorem kahn_closed {o : List (List Int)} (hv : Vld es) (h : Kahn es o) {u w : Int} (hu : u ∈ o.flatten) (hw : w ∈ row es u) : w ∈ o.flatten := by
 obtain ⟨c, hc, huc⟩ := List.mem_flatten.1 hu
 obtain ⟨i, hi, rfl⟩ := List.mem_iff_getElem.1 hc
 obtain ⟨j, d, _, hd, hwd⟩ := (kahn_parts hv h).back i _ (List.getElem?_eq_getElem hi) u huc w hw
 exact List.mem_flatten.2 ⟨d, List.mem_of_getElem? hd, hwd⟩
theorem kahn_closed' {o : List (List Int)} (hv : Vld es) (h : Kahn es o) {u w : Int} (hu : u ∈ o.flatten) (hw : Rc es u w) : w ∈ o.flatten := by
 induction hw with
 | refl => exact hu
 | tail _ h2 ih => exact kahn_closed hv h ih h2
theorem ready_iff {o : List (List Int)} (hv : Vld es) (A : Acy es) (h : Kahn es o) {x : Int} (hx : nd es x) : Ready es o x ↔ ∀ w ∈ row es x, w ∈ o.flatten := by
 constructor
 · intro hr w hw
   rcases hr w (Rc.edge hw) with e | e
   · exact e
   · exact absurd e (acy_edge A hx hw)
 · intro hr y hy
   obtain ⟨m, hm⟩ := rc_wk hy
   cases m with
   | zero => have e : x = y := hm; subst e; exact .inr (.refl _)
   | succ m =>
    obtain ⟨c, hc, h2⟩ := hm
    exact .inl (kahn_closed' hv h (hr c hc) (wk_rc h2))
structure Seqn (es : List (List Int)) (D : List Int) : Prop where
 nod : D.Nodup
 all : ∀ v, nd es v ↔ v ∈ D
 nxt : ∀ i (h : i < D.length), (∀ w ∈ row es D[i], w ∈ D.take i) /\ ∀ x, nd es x -> x ∉ D.take i -> (∀ w ∈ row es x, w ∈ D.take i) -> D[i] <= x
theorem flat_ones {o : List (List Int)} (h : ∀ c ∈ o, c.length = 1) : ∀ i, (o.take i).flatten = o.flatten.take i := by
 induction o with
 | nil => intro i; simp
 | cons c o ih =>
  intro i
  have hc := h c (by simp)
  cases i with
  | zero => simp
  | succ i =>
   obtain ⟨x, rfl⟩ := List.length_eq_one_iff.1 hc
   simp only [List.take_succ_cons, List.flatten_cons, List.singleton_append]
   rw [ih (fun c hc => h c (by simp [hc]))]
theorem seqn_of {o : List (List Int)} (hv : Vld es) (A : Acy es) (ho : Full es o) : (∀ c ∈ o, c.length = 1) /\ Seqn es o.flatten := by
 have P := kahn_parts hv ho.1
 have h1 : ∀ c ∈ o, c.length = 1 := fun c hc => by
  obtain ⟨m, hm, rfl⟩ := P.scc c hc
  rw [scc_one A hm]; rfl
 have hlen : o.flatten.length = o.length := by
  have : ∀ q : List (List Int), (∀ c ∈ q, c.length = 1) -> q.flatten.length = q.length := by
   intro q
   induction q with
   | nil => intro _; rfl
   | cons c q ih => intro h; rw [List.flatten_cons, List.length_append, h c (by simp), ih (fun c hc => h c (by simp [hc])), List.length_cons]; omega
  exact this o h1
 refine ⟨h1, P.one, fun v => ⟨ho.2 v, fun hvm => ?_⟩, fun i hi => ?_⟩
 · obtain ⟨c, hc, hvc⟩ := List.mem_flatten.1 hvm
   obtain ⟨m, hm, rfl⟩ := P.scc c hc
   exact (mem_scc.1 hvc).1
 · have hio : i < o.length := by omega
   obtain ⟨m, m1, m2, m3, m4, m5⟩ := kahn_next ho.1 i hio
   have hK := kahn_take ho.1 i (by omega)
   rw [scc_one A m1] at m5
   have hD : o.flatten[i] = m := by
    have e1 := flat_ones h1 (i + 1)
    rw [List.take_succ_eq_append_getElem hio, m5, List.take_succ_eq_append_getElem hi, List.flatten_append, flat_ones h1 i] at e1
    simp only [List.flatten_cons, List.flatten_nil, List.append_nil] at e1
    exact (List.cons.inj (List.append_cancel_left e1)).1.symm
   rw [hD, <- flat_ones h1 i]
   exact ⟨(ready_iff hv A hK m1).1 m3, fun x hx hxn hr => m4 x hx hxn ((ready_iff hv A hK hx).2 hr)⟩
end
theorem within_r {l : List S42} (G : Good l) {a b : List Int} (ha : VL l a) (hb : VL l b) (hal : a.length < 1000000) (hbl : b.length < 1000000) (r : Bool) (hr : r = true ↔ ∀ x ∈ a, x ∈ b) : Ev (fun k => r_within.f k (a.map (nb l)) (b.map (nb l))) r := by
 have key : ∀ (m j : Nat), j + m = a.length -> ∀ r : Bool, (r = true ↔ ∀ x ∈ a.drop j, x ∈ b) -> Ev (fun k => r_within.l0 k (a.map (nb l)) (b.map (nb l)) j) r := by
  intro m
  induction m with
  | zero =>
   intro j hj r hr
   rw [List.drop_eq_nil_of_le (by omega)] at hr
   rw [hr.2 (by simp)]
   refine Ev.step (fun k => ?_) (Ev.now _)
   simp only [r_within.l0]
   rw [if_neg (by rw [List.length_map]; omega)]
  | succ m ih =>
   intro j hj r hr
   have hj2 : j < a.length := by omega
   have hx := ha (rd a j) (by rw [rd_at _ j hj2]; exact List.getElem_mem _)
   have hh := has_at G hb hx.1 hx.2 hbl
   rw [drop_row a j hj2] at hr
   by_cases c : rd a j ∈ b
   · rw [decide_eq_true c] at hh
     refine Ev.step (fun k => ?_) (Ev.bind hh (f := fun k t => if t = true then r_within.l0 k (a.map (nb l)) (b.map (nb l)) ((j + 1 : Nat) : Int) else some false) (ih (j + 1) (by omega) r (by rw [hr, List.forall_mem_cons]; exact ⟨fun h => h.2, fun h => ⟨c, h⟩⟩)))
     simp only [r_within.l0]
     rw [if_pos (by rw [List.length_map]; omega), if_pos (by omega), rd_strs j hj2, succ_cast j (by omega)]
   rw [decide_eq_false c] at hh
   have hf : r = false := Bool.eq_false_iff.2 fun e => c (hr.1 e _ (by simp))
   rw [hf]
   refine Ev.step (fun k => ?_) (Ev.bind hh (f := fun k t => if t = true then r_within.l0 k (a.map (nb l)) (b.map (nb l)) ((j + 1 : Nat) : Int) else some false) (Ev.now _))
   simp only [r_within.l0]
   rw [if_pos (by rw [List.length_map]; omega), if_pos (by omega), rd_strs j hj2, succ_cast j (by omega)]
 exact key a.length 0 (by omega) r (by rw [List.drop_zero]; exact hr)
theorem within_ev {l : List S42} (G : Good l) {a b : List Int} (ha : VL l a) (hb : VL l b) (hal : a.length < 1000000) (hbl : b.length < 1000000) : Ev (fun k => r_within.f k (a.map (nb l)) (b.map (nb l))) (decide (∀ x ∈ a, x ∈ b)) :=
 within_r G ha hb hal hbl _ (by rw [decide_eq_true_iff])
def fltC (l : List S42) (C : List Int) : Int × ByteArray × Int × Int := if C = [] then (0, ⟨#[]⟩, 0, 0) else (18, nb l (rd C 0), 0, 0)
theorem acyclic_ev {l : List S42} (G : Good l) (hs : okSizes l) (h0 : (consF l).1 = 0) {C : List Int} (hC : Cyc l C) :
 Ev (fun k => m_acyclic.f k l) (if C = [] then (namesOf l, edgesOf l, 0, ⟨#[]⟩, 0, 0) else ([], [], fltC l C)) := by
 have hm := made_consF l hs
 rw [if_pos h0] at hm
 refine Ev.congr (fun k => ?_) (Ev.bind hC.prog (f := fun k t => if (t.length : Int) > 0 then (if 0 < (t.length : Int) then (if 0 <= rd t 0 then (if rd t 0 < ((namesOf l).length : Int) then some (([] : List ByteArray), ([] : List (List Int)), 18, rdOf ByteArray.empty (namesOf l) (rd t 0), 0, 0) else none) else none) else none) else some (namesOf l, edgesOf l, 0, ⟨#[]⟩, 0, 0)) (Ev.congr (fun k => ?_) (Ev.now _)))
 · unfold m_acyclic.f
   rw [hm, Option.bind_some, if_pos rfl]
 · cases C with
   | nil => rfl
   | cons c C =>
    have hc := hC.vl c (by simp)
    have e : rd (c :: C) 0 = c := rfl
    have ht : (0 : Int) < ((c :: C).length : Int) := by rw [List.length_cons]; omega
    rw [if_pos ht, if_pos ht, e, if_pos hc.1, if_pos (by rw [names_len G]; exact hc.2), if_neg (by simp)]
    unfold fltC
    rw [if_neg (by simp), e]
    rfl
theorem acyclic_bad {l : List S42} (hs : okSizes l) (h0 : ¬ (consF l).1 = 0) : Ev (fun k => m_acyclic.f k l) ([], [], (consF l).1, (consF l).2, 0, 0) := by
 have hm := made_consF l hs
 rw [if_neg h0] at hm
 refine Ev.congr (fun k => ?_) (Ev.now _)
 unfold m_acyclic.f
 rw [hm, Option.bind_some, if_neg h0]
theorem fault_ev {l : List S42} (G : Good l) (h0 : (consF l).1 = 0) {C : List Int} (hC : Cyc l C) : Ev (fun k => r_fault.f k l) (fltC l C) := by
 have h2 := good_fault h0
 refine Ev.congr (fun k => ?_) (Ev.bind (cons_ev l (fun m hm => by have := G.few m hm; omega)) (f := fun k bt => if bt.1 = 0 then ((r_Cycle.f k l).bind fun t => (if (t.length : Int) > 0 then (if 0 < (t.length : Int) then (some (18, rdOf ByteArray.empty t 0, 0, 0)) else (none)) else (some (bt.1, bt.2.1, bt.2.2.1, bt.2.2.2)))) else some (bt.1, bt.2.1, bt.2.2.1, bt.2.2.2)) (Ev.congr (fun k => ?_) (Ev.bind hC.ref (f := fun k t => if (t.length : Int) > 0 then (if 0 < (t.length : Int) then (some (18, rdOf ByteArray.empty t 0, 0, 0)) else (none)) else (some (0, ⟨#[]⟩, 0, 0))) (Ev.congr (fun k => ?_) (Ev.now _)))))
 · rfl
 · rw [if_pos h0, h0, h2]
 · cases C with
   | nil => rfl
   | cons c C =>
    have ht : (0 : Int) < (((c :: C).map (nb l)).length : Int) := by rw [List.length_map, List.length_cons]; omega
    rw [if_pos ht, if_pos ht]
    unfold fltC
    rw [if_neg (by simp)]
    rfl
theorem fault_bad {l : List S42} (hf : ∀ m ∈ l, m.f3.length <= 100000) (h0 : ¬ (consF l).1 = 0) : Ev (fun k => r_fault.f k l) ((consF l).1, (consF l).2, 0, 0) := by
 refine Ev.congr (fun k => ?_) (Ev.bind (cons_ev l hf) (f := fun k bt => if bt.1 = 0 then ((r_Cycle.f k l).bind fun t => (if (t.length : Int) > 0 then (if 0 < (t.length : Int) then (some (18, rdOf ByteArray.empty t 0, 0, 0)) else (none)) else (some (bt.1, bt.2.1, bt.2.2.1, bt.2.2.2)))) else some (bt.1, bt.2.1, bt.2.2.1, bt.2.2.2)) (Ev.congr (fun k => ?_) (Ev.now _)))
 · rfl
 · rw [if_neg h0]
theorem acy_of {l : List S42} {C : List Int} (hC : Cyc l C) (h : C = []) : Acy (edgesOf l) := by
 rcases hC.told with ⟨h1, _⟩ | ⟨b, s, dl, _, _, _, h1⟩
 · exact h1
 · rw [h] at h1; cases h1
section
variable {l : List S42}
theorem iota_rd (n i : Nat) (h : i < n) : rd (iota n) (i : Int) = i := by
 rw [rd_at _ i (by rw [iota_length]; exact h)]
 simp [iota]
theorem seqn_len (G : Good l) {D : List Int} (S : Seqn (edgesOf l) D) : D.length = l.length := by
 have h1 := nodup_sub D (iota l.length) S.nod (fun x hx => mem_iota.2 (by have := (S.all x).2 hx; unfold nd at this; rw [es_len G] at this; exact this))
 have h2 := nodup_sub (iota l.length) D ((iota_lt _).imp (fun h e => by subst e; omega)) (fun x hx => (S.all x).1 (by have := mem_iota.1 hx; exact ⟨this.1, by rw [es_len G]; exact this.2⟩))
 rw [iota_length] at h1 h2
 omega
theorem seqn_vl (G : Good l) {D : List Int} (S : Seqn (edgesOf l) D) : VL l D := fun x hx => by
 have := (S.all x).2 hx
 unfold nd at this
 rw [es_len G] at this
 exact this
theorem seqn_nd (G : Good l) {x : Int} : nd (edgesOf l) x ↔ 0 <= x /\ x < l.length := by unfold nd; rw [es_len G]
theorem reforder_loop (G : Good l) {D : List Int} (S : Seqn (edgesOf l) D) : ∀ (M i : Nat), i + M = l.length ->
 Ev (fun k => r_Order.l0 k l ((D.take i).map (nb l)) ((iota l.length).map (nb l)) 0 ⟨#[]⟩ 0 0) (D.map (nb l), 0, ⟨#[]⟩, 0, 0) := by
 have hlen := G.len
 have hDl := seqn_len G S
 have hDv := seqn_vl G S
 have hil : (iota l.length).length = l.length := iota_length _
 intro M
 induction M with
 | zero =>
  intro i hi
  rw [List.take_of_length_le (by omega)]
  refine Ev.step (fun k => ?_) (Ev.now _)
  simp only [r_Order.l0]
  rw [if_neg (by rw [List.length_map, List.length_map, hil]; omega)]
 | succ M ih =>
  intro i hi
  have hiD : i < D.length := by omega
  have hx := hDv D[i] (List.getElem_mem _)
  obtain ⟨n1, n2⟩ := S.nxt i hiD
  have hpv : VL l (D.take i) := fun x hx => hDv x (List.mem_of_mem_take hx)
  have hpl : (D.take i).length = i := by rw [List.length_take]; omega
  have hnot : D[i] ∉ D.take i := by
   intro h
   obtain ⟨j, hj, e⟩ := List.mem_iff_getElem.1 h
   rw [List.getElem_take] at e
   have hj2 : j < i := by omega
   exact (List.nodup_iff_pairwise_ne.1 S.nod |> List.pairwise_iff_getElem.1) j i (by omega) hiD hj2 e
  have htk : D.take (i + 1) = D.take i ++ [D[i]] := List.take_succ_eq_append_getElem hiD
  have scan : ∀ (m j : Nat), (j : Int) + m = D[i] -> Ev (fun k => r_Order.l1 k l ((D.take i).map (nb l)) ((iota l.length).map (nb l)) j 0 ⟨#[]⟩ 0 0) (D.map (nb l), 0, ⟨#[]⟩, 0, 0) := by
   intro m
   induction m with
   | zero =>
    intro j hj
    have hjl : j < l.length := by omega
    have hh := has_at G hpv (i := (j : Int)) (by omega) (by omega) (by omega)
    rw [decide_eq_false (by rw [show (j : Int) = D[i] by omega]; exact hnot)] at hh
    have hw := within_ev G (VL.row G (v := (j : Int)) (by omega) (by omega)) hpv (by have := row_len G (v := (j : Int)) (by omega) (by omega); omega) (by omega)
    rw [decide_eq_true (by rw [show (j : Int) = D[i] by omega]; exact n1)] at hw
    have hrec := ih (i + 1) (by omega)
    rw [htk, List.map_append, List.map_cons, List.map_nil, <- show (j : Int) = D[i] by omega] at hrec
    refine Ev.step (fun k => ?_) (Ev.bind hh (f := fun k t => if t = true then r_Order.l1 k l ((D.take i).map (nb l)) ((iota l.length).map (nb l)) ((j + 1 : Nat) : Int) 0 ⟨#[]⟩ 0 0 else ((r_Imports.f k l (nb l j)).bind fun t2 => (r_within.f k t2 ((D.take i).map (nb l))).bind fun t3 => if t3 = true then r_Order.l0 k l ((D.take i).map (nb l) ++ [nb l j]) ((iota l.length).map (nb l)) 0 ⟨#[]⟩ 0 0 else r_Order.l1 k l ((D.take i).map (nb l)) ((iota l.length).map (nb l)) ((j + 1 : Nat) : Int) 0 ⟨#[]⟩ 0 0))
     (Ev.congr (fun k => if_neg (by simp)) (Ev.bind (imps_at G (i := (j : Int)) (by omega) (by omega)) (f := fun k t2 => (r_within.f k t2 ((D.take i).map (nb l))).bind fun t3 => if t3 = true then r_Order.l0 k l ((D.take i).map (nb l) ++ [nb l j]) ((iota l.length).map (nb l)) 0 ⟨#[]⟩ 0 0 else r_Order.l1 k l ((D.take i).map (nb l)) ((iota l.length).map (nb l)) ((j + 1 : Nat) : Int) 0 ⟨#[]⟩ 0 0)
      (Ev.bind hw (f := fun k t3 => if t3 = true then r_Order.l0 k l ((D.take i).map (nb l) ++ [nb l j]) ((iota l.length).map (nb l)) 0 ⟨#[]⟩ 0 0 else r_Order.l1 k l ((D.take i).map (nb l)) ((iota l.length).map (nb l)) ((j + 1 : Nat) : Int) 0 ⟨#[]⟩ 0 0) (Ev.congr (fun k => if_pos rfl) hrec)))))
    simp only [r_Order.l1]
    rw [if_pos (by rw [List.length_map, hil]; omega), if_pos (by omega), rd_strs j (by rw [hil]; exact hjl), iota_rd _ _ hjl, succ_cast j (by omega)]
    have hbig : ((D.take i).map (nb l)).length < 8796093022208 := by rw [List.length_map]; omega
    simp only [if_pos hbig]
   | succ m ihm =>
    intro j hj
    have hjl : j < l.length := by omega
    have hrec := ihm (j + 1) (by omega)
    have hh := has_at G hpv (i := (j : Int)) (by omega) (by omega) (by omega)
    have hskip : ¬ ((j : Int) ∉ D.take i /\ ∀ w ∈ row (edgesOf l) j, w ∈ D.take i) := by
     rintro ⟨h1, h2⟩
     have := n2 j ((seqn_nd G).2 ⟨by omega, by omega⟩) h1 h2
     omega
    have hw := within_ev G (VL.row G (v := (j : Int)) (by omega) (by omega)) hpv (by have := row_len G (v := (j : Int)) (by omega) (by omega); omega) (by omega)
    have hgo : Ev (fun k => if decide ((j : Int) ∈ D.take i) = true then r_Order.l1 k l ((D.take i).map (nb l)) ((iota l.length).map (nb l)) ((j + 1 : Nat) : Int) 0 ⟨#[]⟩ 0 0 else ((r_Imports.f k l (nb l j)).bind fun t2 => (r_within.f k t2 ((D.take i).map (nb l))).bind fun t3 => if t3 = true then r_Order.l0 k l ((D.take i).map (nb l) ++ [nb l j]) ((iota l.length).map (nb l)) 0 ⟨#[]⟩ 0 0 else r_Order.l1 k l ((D.take i).map (nb l)) ((iota l.length).map (nb l)) ((j + 1 : Nat) : Int) 0 ⟨#[]⟩ 0 0)) (D.map (nb l), 0, ⟨#[]⟩, 0, 0) := by
     by_cases c : (j : Int) ∈ D.take i
     · exact Ev.congr (fun k => if_pos (decide_eq_true c)) hrec
     rw [decide_eq_false (fun h => hskip ⟨c, h⟩)] at hw
     exact Ev.congr (fun k => if_neg (by simpa using c)) (Ev.bind (imps_at G (i := (j : Int)) (by omega) (by omega)) (f := fun k t2 => (r_within.f k t2 ((D.take i).map (nb l))).bind fun t3 => if t3 = true then r_Order.l0 k l ((D.take i).map (nb l) ++ [nb l j]) ((iota l.length).map (nb l)) 0 ⟨#[]⟩ 0 0 else r_Order.l1 k l ((D.take i).map (nb l)) ((iota l.length).map (nb l)) ((j + 1 : Nat) : Int) 0 ⟨#[]⟩ 0 0)
      (Ev.bind hw (f := fun k t3 => if t3 = true then r_Order.l0 k l ((D.take i).map (nb l) ++ [nb l j]) ((iota l.length).map (nb l)) 0 ⟨#[]⟩ 0 0 else r_Order.l1 k l ((D.take i).map (nb l)) ((iota l.length).map (nb l)) ((j + 1 : Nat) : Int) 0 ⟨#[]⟩ 0 0) (Ev.congr (fun k => if_neg (by simp)) hrec)))
    refine Ev.step (fun k => ?_) (Ev.bind hh (f := fun k t => if t = true then r_Order.l1 k l ((D.take i).map (nb l)) ((iota l.length).map (nb l)) ((j + 1 : Nat) : Int) 0 ⟨#[]⟩ 0 0 else ((r_Imports.f k l (nb l j)).bind fun t2 => (r_within.f k t2 ((D.take i).map (nb l))).bind fun t3 => if t3 = true then r_Order.l0 k l ((D.take i).map (nb l) ++ [nb l j]) ((iota l.length).map (nb l)) 0 ⟨#[]⟩ 0 0 else r_Order.l1 k l ((D.take i).map (nb l)) ((iota l.length).map (nb l)) ((j + 1 : Nat) : Int) 0 ⟨#[]⟩ 0 0)) hgo)
    simp only [r_Order.l1]
    rw [if_pos (by rw [List.length_map, hil]; omega), if_pos (by omega), rd_strs j (by rw [hil]; exact hjl), iota_rd _ _ hjl, succ_cast j (by omega)]
    have hbig : ((D.take i).map (nb l)).length < 8796093022208 := by rw [List.length_map]; omega
    simp only [if_pos hbig]
  refine Ev.step (fun k => ?_) (scan D[i].toNat 0 (by omega))
  simp only [r_Order.l0]
  rw [if_pos (by rw [List.length_map, List.length_map, hil]; omega)]
  rfl
theorem progorder_loop (G : Good l) {o : List (List Int)} (h1 : ∀ c ∈ o, c.length = 1) (S : Seqn (edgesOf l) o.flatten) : ∀ (m i : Nat), i + m = o.length ->
 Ev (fun k => m_Order.l0 k (((o.take i).flatten).map (nb l)) o (o.length : Int) i (namesOf l) (edgesOf l)) (o.flatten.map (nb l), 0, ⟨#[]⟩, 0, 0) := by
 have hlen := G.len
 have hDl := seqn_len G S
 have hv := seqn_vl G S
 have hol : o.length = o.flatten.length := by
  have e := congrArg List.length (flat_ones h1 o.length)
  have : ∀ q : List (List Int), (∀ c ∈ q, c.length = 1) -> q.flatten.length = q.length := by
   intro q
   induction q with
   | nil => intro _; rfl
   | cons c q ih => intro h; rw [List.flatten_cons, List.length_append, h c (by simp), ih (fun c hc => h c (by simp [hc])), List.length_cons]; omega
  exact (this o h1).symm
 intro m
 induction m with
 | zero =>
  intro i hi
  rw [List.take_of_length_le (by omega)]
  refine Ev.step (fun k => ?_) (Ev.now _)
  simp only [m_Order.l0]
  rw [if_neg (by omega)]
 | succ m ih =>
  intro i hi
  have hio : i < o.length := by omega
  have hcm : o[i] ∈ o := List.getElem_mem _
  have hcv : VL l o[i] := fun x hx => hv x (List.mem_flatten.2 ⟨_, hcm, hx⟩)
  have hrow : row o (i : Int) = o[i] := row_mem o i hio
  have hnm := named_at G hcv (by rw [h1 _ hcm]; omega)
  have hrec := ih (i + 1) (by omega)
  rw [List.take_succ_eq_append_getElem hio, List.flatten_append, List.map_append, List.flatten_cons, List.flatten_nil, List.append_nil] at hrec
  have hfl : ((o.take i).flatten).length <= o.flatten.length := by
   rw [flat_ones h1, List.length_take]; omega
  refine Ev.step (fun k => ?_) (Ev.bind hnm (f := fun k t => if ((o.take i).flatten.map (nb l)).length + t.length < 8796093022208 then m_Order.l0 k ((o.take i).flatten.map (nb l) ++ t) o (o.length : Int) ((i + 1 : Nat) : Int) (namesOf l) (edgesOf l) else none) (Ev.congr (fun k => ?_) hrec))
  · simp only [m_Order.l0]
    rw [if_pos (by omega), if_pos (by omega), if_pos (by omega), L1_row, hrow, succ_cast i (by omega)]
  · rw [if_pos (by rw [List.length_map, List.length_map, h1 _ hcm]; omega)]
theorem order_both (G : Good l) (hs : okSizes l) (h0 : (consF l).1 = 0) {C : List Int} (hC : Cyc l C) (hn : C = []) : ∃ D, Seqn (edgesOf l) D /\ Ev (fun k => m_Order.f k l) (D.map (nb l), 0, ⟨#[]⟩, 0, 0) /\ Ev (fun k => r_Order.f k l) (D.map (nb l), 0, ⟨#[]⟩, 0, 0) := by
 have A := acy_of hC hn
 have hv := es_vld G
 obtain ⟨o, o1, o2⟩ := comps_ev (es_sm G) hv
 obtain ⟨h1, S⟩ := seqn_of hv A o1
 refine ⟨o.flatten, S, ?_, ?_⟩
 · have ha := acyclic_ev G hs h0 hC
   rw [if_pos hn] at ha
   have hp := progorder_loop G h1 S o.length 0 (by omega)
   rw [List.take_zero, List.flatten_nil, List.map_nil] at hp
   refine Ev.congr (fun k => ?_) (Ev.bind ha (f := fun k bt => if bt.2.2.1 = 0 then ((g_Components.f k bt.2.1).bind fun t => m_Order.l0 k ([] : List ByteArray) t (t.length : Int) 0 bt.1 bt.2.1) else some (([] : List ByteArray), bt.2.2.1, bt.2.2.2.1, bt.2.2.2.2.1, bt.2.2.2.2.2)) (Ev.congr (fun k => if_pos rfl) (Ev.bind o2 (f := fun k t => m_Order.l0 k ([] : List ByteArray) t (t.length : Int) 0 (namesOf l) (edgesOf l)) hp)))
   rfl
 · have hf := fault_ev G h0 hC
   unfold fltC at hf
   rw [if_pos hn] at hf
   have hp := reforder_loop G S l.length 0 (by omega)
   rw [List.take_zero, List.map_nil] at hp
   refine Ev.congr (fun k => ?_) (Ev.bind hf (f := fun k bt => if bt.1 = 0 then ((r_Names.f k l).bind fun t => r_Order.l0 k l ([] : List ByteArray) t bt.1 bt.2.1 bt.2.2.1 bt.2.2.2) else some (([] : List ByteArray), bt.1, bt.2.1, bt.2.2.1, bt.2.2.2)) (Ev.congr (fun k => if_pos rfl) (Ev.bind (names_at G) (f := fun k t => r_Order.l0 k l ([] : List ByteArray) t 0 ⟨#[]⟩ 0 0) hp)))
   rfl
theorem order_fault (G : Good l) (hs : okSizes l) (h0 : (consF l).1 = 0) {C : List Int} (hC : Cyc l C) (hn : ¬ C = []) : Ev (fun k => m_Order.f k l) ([], fltC l C) /\ Ev (fun k => r_Order.f k l) ([], fltC l C) := by
 have hne : ¬ (fltC l C).1 = 0 := by unfold fltC; rw [if_neg hn]; show ¬ (18 : Int) = 0; decide
 constructor
 · have ha := acyclic_ev G hs h0 hC
   rw [if_neg hn] at ha
   refine Ev.congr (fun k => ?_) (Ev.bind ha (f := fun k bt => if bt.2.2.1 = 0 then ((g_Components.f k bt.2.1).bind fun t => m_Order.l0 k ([] : List ByteArray) t (t.length : Int) 0 bt.1 bt.2.1) else some (([] : List ByteArray), bt.2.2.1, bt.2.2.2.1, bt.2.2.2.2.1, bt.2.2.2.2.2)) (Ev.congr (fun k => if_neg hne) (Ev.now _)))
   rfl
 · refine Ev.congr (fun k => ?_) (Ev.bind (fault_ev G h0 hC) (f := fun k bt => if bt.1 = 0 then ((r_Names.f k l).bind fun t => r_Order.l0 k l ([] : List ByteArray) t bt.1 bt.2.1 bt.2.2.1 bt.2.2.2) else some (([] : List ByteArray), bt.1, bt.2.1, bt.2.2.1, bt.2.2.2)) (Ev.congr (fun k => if_neg hne) (Ev.now _)))
   rfl
theorem order_bad (hs : okSizes l) (hf : ∀ m ∈ l, m.f3.length <= 100000) (h0 : ¬ (consF l).1 = 0) : Ev (fun k => m_Order.f k l) ([], (consF l).1, (consF l).2, 0, 0) /\ Ev (fun k => r_Order.f k l) ([], (consF l).1, (consF l).2, 0, 0) := by
 constructor
 · refine Ev.congr (fun k => ?_) (Ev.bind (acyclic_bad hs h0) (f := fun k bt => if bt.2.2.1 = 0 then ((g_Components.f k bt.2.1).bind fun t => m_Order.l0 k ([] : List ByteArray) t (t.length : Int) 0 bt.1 bt.2.1) else some (([] : List ByteArray), bt.2.2.1, bt.2.2.2.1, bt.2.2.2.2.1, bt.2.2.2.2.2)) (Ev.congr (fun k => if_neg h0) (Ev.now _)))
   rfl
 · refine Ev.congr (fun k => ?_) (Ev.bind (fault_bad hf h0) (f := fun k bt => if bt.1 = 0 then ((r_Names.f k l).bind fun t => r_Order.l0 k l ([] : List ByteArray) t bt.1 bt.2.1 bt.2.2.1 bt.2.2.2) else some (([] : List ByteArray), bt.1, bt.2.1, bt.2.2.1, bt.2.2.2)) (Ev.congr (fun k => if_neg h0) (Ev.now _)))
   rfl
end
theorem asc_rev (S : List Nm) : asc S.reverse = asc S :=
  Elems.asc (S := S) (ss := dd S.reverse) ⟨(dd_elems S.reverse).nodup, fun x => by rw [(dd_elems S.reverse).mem]; simp⟩
theorem nm_inj {l : List S42} (hn : (l.map nm).Nodup) {a b : S42} (ha : a ∈ l) (hb : b ∈ l) (e : nm a = nm b) : a = b := by
  induction l with
  | nil => cases ha
  | cons x l ih =>
    rw [List.map_cons, List.nodup_cons] at hn
    rcases List.mem_cons.1 ha with ha2 | ha2 <;> rcases List.mem_cons.1 hb with hb2 | hb2
    · rw [ha2, hb2]
    · exact absurd (List.mem_map.2 ⟨b, hb2, by rw [<- e, ha2]⟩) hn.1
    · exact absurd (List.mem_map.2 ⟨a, ha2, by rw [e, hb2]⟩) hn.1
    · exact ih hn.2 ha2 hb2
theorem find_rev {l : List S42} (hn : (l.map nm).Nodup) (n : Nm) : l.reverse.find? (fun m => nm m == n) = l.find? (fun m => nm m == n) := by
  cases h : l.find? (fun m => nm m == n) with
  | none =>
    rw [List.find?_eq_none] at h ⊢
    intro x hx
    exact h x (List.mem_reverse.1 hx)
  | some a =>
    cases h2 : l.reverse.find? (fun m => nm m == n) with
    | none =>
      rw [List.find?_eq_none] at h2
      exact absurd (List.find?_some h) (h2 a (List.mem_reverse.2 (List.mem_of_find?_eq_some h)))
    | some b =>
      have e1 : nm a = n := by simpa using List.find?_some h
      have e2 : nm b = n := by simpa using List.find?_some h2
      rw [nm_inj hn (List.mem_of_find?_eq_some h) (List.mem_reverse.1 (List.mem_of_find?_eq_some h2)) (e1.trans e2.symm)]
theorem names_rev (l : List S42) : namesOf l.reverse = namesOf l := by
  unfold namesOf
  rw [List.map_reverse, asc_rev]
theorem edges_rev {l : List S42} (hn : (l.map nm).Nodup) : edgesOf l.reverse = edgesOf l := by
  have e : edgeOf l.reverse = edgeOf l := by
    funext n
    unfold edgeOf impsL
    rw [find_rev hn, List.map_reverse, asc_rev]
  unfold edgesOf
  rw [e, List.map_reverse, asc_rev]
theorem good_rev {l : List S42} (G : Good l) : Good l.reverse :=
  ⟨by rw [List.length_reverse]; exact G.len, by rw [List.map_reverse]; exact (List.reverse_perm (l.map nm)).nodup_iff.2 G.nod, fun m hm i hi => by rw [List.map_reverse, List.mem_reverse]; exact G.imp m (List.mem_reverse.1 hm) i hi, fun m hm => G.few m (List.mem_reverse.1 hm)⟩
theorem missI_of (K : List Nm) : ∀ q : List S66, (∀ i ∈ q, im i ∈ K) -> missI K q = none := by
  intro q
  induction q with
  | nil => intro _; rfl
  | cons i q ih =>
    intro h
    unfold missI
    rw [if_pos (List.contains_iff_mem.2 (h i (by simp)))]
    exact ih (fun j hj => h j (by simp [hj]))
theorem miss_of (K : List Nm) : ∀ q : List S42, (∀ m ∈ q, ∀ i ∈ m.f3, im i ∈ K) -> miss K q = none := by
  intro q
  induction q with
  | nil => intro _; rfl
  | cons a q ih =>
    intro h
    unfold miss
    rw [missI_of K a.f3 (h a (by simp))]
    exact ih (fun m hm => h m (by simp [hm]))
theorem cons_good {l : List S42} (G : Good l) : (consF l).1 = 0 := by
  unfold consF
  have hl := G.len
  rw [if_neg (by omega), twice_of l [] (by simpa using G.nod), miss_of _ l G.imp]
theorem okSizes_rev {l : List S42} (h : okSizes l) : okSizes l.reverse := fun m hm => h m (List.mem_reverse.1 hm)
theorem made_rev {l : List S42} (G : Good l) (hs : okSizes l) : m_made.f l.reverse = m_made.f l := by
  rw [made_consF _ (okSizes_rev hs), made_consF _ hs, if_pos (cons_good (good_rev G)), if_pos (cons_good G), names_rev, edges_rev G.nod]
theorem order_rev {l : List S42} (G : Good l) (hs : okSizes l) (k : Nat) : m_Order.f k l.reverse = m_Order.f k l := by
  unfold m_Order.f m_acyclic.f
  rw [made_rev G hs]
section
variable {l : List S42}
theorem sorted_l2 (G : Good l) {D : List Int} (S : Seqn (edgesOf l) D) (i : Nat) (hi : i < D.length) (next : Ev (fun k => w_ModgraphSorted.l1 k l (D.map (nb l)) ((i + 1 : Nat) : Int)) true) :
    ∀ (m j : Nat), j + m = (row (edgesOf l) D[i]).length -> Ev (fun k => w_ModgraphSorted.l2 k l (D.map (nb l)) (i : Int) ((row (edgesOf l) D[i]).map (nb l)) (j : Int)) true := by
  have hlen := G.len
  have hDl := seqn_len G S
  have hDv := seqn_vl G S
  have hx := hDv D[i] (List.getElem_mem _)
  have hrl := row_len G hx.1 hx.2
  have hrv := VL.row G hx.1 hx.2
  have hpv : VL l (D.take i) := fun x hx => hDv x (List.mem_of_mem_take hx)
  have hpl : (D.take i).length = i := by rw [List.length_take]; omega
  obtain ⟨n1, n2⟩ := S.nxt i hi
  intro m
  induction m with
  | zero =>
    intro j hj
    refine Ev.step (fun k => ?_) next
    simp only [w_ModgraphSorted.l2]
    rw [if_neg (by rw [List.length_map]; omega), succ_cast i (by omega)]
  | succ m ih =>
    intro j hj
    have hw : rd (row (edgesOf l) D[i]) (j : Int) ∈ row (edgesOf l) D[i] := rd_mem _ _ (by omega) (by omega)
    have hwv := hrv _ hw
    have hb := has_at G hpv hwv.1 hwv.2 (by omega)
    rw [decide_eq_true (n1 _ hw)] at hb
    refine Ev.step (fun k => ?_) (Ev.bind hb (f := fun k t => if t = true then w_ModgraphSorted.l2 k l (D.map (nb l)) (i : Int) ((row (edgesOf l) D[i]).map (nb l)) ((j + 1 : Nat) : Int) else some false) (Ev.congr (fun k => if_pos rfl) (ih (j + 1) (by omega))))
    simp only [w_ModgraphSorted.l2]
    rw [if_pos (by rw [List.length_map]; omega), if_pos (by omega), if_pos (by rw [List.length_map]; omega), if_pos (by omega), rd_strs j (by omega), succ_cast j (by omega), Int.toNat_natCast, <- List.map_take]
theorem sorted_l1 (G : Good l) {D : List Int} (S : Seqn (edgesOf l) D) : ∀ (m i : Nat), i + m = D.length -> Ev (fun k => w_ModgraphSorted.l1 k l (D.map (nb l)) (i : Int)) true := by
  have hlen := G.len
  have hDl := seqn_len G S
  have hDv := seqn_vl G S
  intro m
  induction m with
  | zero =>
    intro i hi
    refine Ev.step (fun k => ?_) (Ev.now _)
    simp only [w_ModgraphSorted.l1]
    rw [if_neg (by rw [List.length_map]; omega), if_pos (by rw [List.length_map]; omega)]
    rfl
  | succ m ih =>
    intro i hi
    have hiD : i < D.length := by omega
    have hx := hDv D[i] (List.getElem_mem _)
    have hpv : VL l (D.take i) := fun x hx => hDv x (List.mem_of_mem_take hx)
    have hpl : (D.take i).length = i := by rw [List.length_take]; omega
    have hnot : D[i] ∉ D.take i := by
      intro h
      obtain ⟨j, hj, e⟩ := List.mem_iff_getElem.1 h
      rw [List.getElem_take] at e
      have hj2 : j < i := by omega
      exact (List.nodup_iff_pairwise_ne.1 S.nod |> List.pairwise_iff_getElem.1) j i (by omega) hiD hj2 e
    have hb := has_at G hpv hx.1 hx.2 (by omega)
    rw [decide_eq_false hnot] at hb
    have hin := sorted_l2 G S i hiD (ih (i + 1) (by omega)) (row (edgesOf l) D[i]).length 0 (by omega)
    refine Ev.step (fun k => ?_) (Ev.bind hb (f := fun k t => if t = true then some false else ((r_Imports.f k l (nb l D[i])).bind fun t2 => w_ModgraphSorted.l2 k l (D.map (nb l)) (i : Int) t2 0)) (Ev.congr (fun k => if_neg (by simp)) (Ev.bind (imps_at G hx.1 hx.2) (f := fun k t2 => w_ModgraphSorted.l2 k l (D.map (nb l)) (i : Int) t2 0) hin)))
    simp only [w_ModgraphSorted.l1]
    rw [if_pos (by rw [List.length_map]; omega), if_pos (by omega), if_pos (by rw [List.length_map]; omega), rd_strs i (by omega), rd_at D i hiD, Int.toNat_natCast, <- List.map_take]
end
theorem sorted_end (l : List S42) (hs : okSizes l) (h12 : ∀ m ∈ l, m.f3.length <= 12) (h32 : l.length <= 32) (x : Int) : Ev (fun k => w_ModgraphSorted.j1 k l l.reverse x false) true := by
  have key : ∃ (a : List ByteArray) (f : Int × ByteArray × Int × Int) (h : Int × ByteArray × Int × Int), a.length < 1000000 /\ Ev (fun k => m_Order.f k l) (a, f) /\ Ev (fun k => m_Order.f k l.reverse) (a, h) /\ (if f.1 = 0 then Ev (fun k => w_ModgraphSorted.l1 k l a 0) true else a = []) := by
    by_cases h0 : (consF l).1 = 0
    · have G := good_of h0 (fun m hm => by have := h12 m hm; omega)
      obtain ⟨C, hC⟩ := cyc_ex G h0
      by_cases hn : C = []
      · obtain ⟨D, S, o1, _⟩ := order_both G hs h0 hC hn
        have hDl := seqn_len G S
        refine ⟨_, _, (0, ⟨#[]⟩, 0, 0), by rw [List.length_map]; omega, o1, Ev.congr (fun k => order_rev G hs k) o1, ?_⟩
        rw [if_pos rfl]
        exact sorted_l1 G S D.length 0 (by omega)
      · have hne : ¬ (fltC l C).1 = 0 := by unfold fltC; rw [if_neg hn]; show ¬ (18 : Int) = 0; decide
        obtain ⟨o1, _⟩ := order_fault G hs h0 hC hn
        refine ⟨_, _, fltC l C, by simp, o1, Ev.congr (fun k => order_rev G hs k) o1, ?_⟩
        rw [if_neg hne]
    · have hf : ∀ m ∈ l, m.f3.length <= 100000 := fun m hm => by have := h12 m hm; omega
      have h0r : ¬ (consF l.reverse).1 = 0 := by
        intro e
        have G := good_rev (good_of e (fun m hm => by have := h12 m (List.mem_reverse.1 hm); omega))
        rw [List.reverse_reverse] at G
        exact h0 (cons_good G)
      obtain ⟨o1, _⟩ := order_bad hs hf h0
      obtain ⟨o2, _⟩ := order_bad (okSizes_rev hs) (fun m hm => hf m (List.mem_reverse.1 hm)) h0r
      refine ⟨[], _, _, by simp, o1, o2, ?_⟩
      rw [if_neg h0]
  obtain ⟨a, f, h, a0, o1, o2, a1⟩ := key
  have hsame := same_ev a a a0
  rw [decide_eq_true rfl] at hsame
  have hlast : Ev (fun k => if f.1 = 0 then w_ModgraphSorted.l1 k l a 0 else (if (a.length : Int) = 0 then (w_awake.f.bind fun t => some t) else some false)) true := by
    by_cases hf : f.1 = 0
    · rw [if_pos hf] at a1
      exact Ev.congr (fun k => if_pos hf) a1
    · rw [if_neg hf] at a1
      refine Ev.congr (fun k => ?_) (Ev.now _)
      rw [if_neg hf, a1]
      rfl
  refine Ev.step (fun k => ?_) (Ev.bind o1 (f := fun k bt => (m_Order.f k l.reverse).bind fun bt2 => (w_same.f k bt.1 bt2.1).bind fun t => if t = true then (if bt.2.1 = 0 then w_ModgraphSorted.l1 k l bt.1 0 else (if (bt.1.length : Int) = 0 then (w_awake.f.bind fun t => some t) else some false)) else some false) (Ev.bind o2 (f := fun k bt2 => (w_same.f k a bt2.1).bind fun t => if t = true then (if f.1 = 0 then w_ModgraphSorted.l1 k l a 0 else (if (a.length : Int) = 0 then (w_awake.f.bind fun t => some t) else some false)) else some false) (Ev.bind hsame (f := fun k t => if t = true then (if f.1 = 0 then w_ModgraphSorted.l1 k l a 0 else (if (a.length : Int) = 0 then (w_awake.f.bind fun t => some t) else some false)) else some false) (Ev.congr (fun k => if_pos rfl) hlast))))
  simp only [w_ModgraphSorted.j1]
  rw [if_neg (by simp), if_neg (by omega)]
theorem ModgraphSorted (l : List S42) (hz : ∀ x ∈ l, x.f0.size <= maxLen /\ ∀ i ∈ x.f3, i.f0.size <= maxLen) (hl : l.length <= 9223372036854775807) : ∃ k, w_ModgraphSorted.f k l = some true := by
  refine Ev.rounds (g := fun k => w_ModgraphSorted.f k l) ?_
  have hw : wrap64 ((l.length : Int) - 1) = (l.length : Int) - 1 := by rw [w64 _ (by omega) (by omega)]
  have hstart : Ev (fun k => w_ModgraphSorted.l0 k l [] ((l.length : Int) - 1)) true := by
    by_cases h32 : l.length <= 32
    · have loop : ∀ m : Nat, m <= l.length -> (∀ x ∈ l.drop m, x.f3.length <= 12) -> Ev (fun k => w_ModgraphSorted.l0 k l (l.drop m).reverse ((m : Int) - 1)) true := by
        intro m
        induction m with
        | zero =>
          intro _ h12
          rw [List.drop_zero] at h12 ⊢
          refine Ev.step (fun k => ?_) (sorted_end l (okSizes_of hz h12) h12 h32 (((0 : Nat) : Int) - 1))
          simp only [w_ModgraphSorted.l0]
          rw [if_neg (by omega)]
        | succ m ih =>
          intro hm h12
          have hd := drop_mods l m (by omega)
          have e1 : ((m + 1 : Nat) : Int) - 1 = (m : Int) := by omega
          have e2 : wrap64 ((m : Int) - 1) = (m : Int) - 1 := by rw [w64 _ (by omega) (by omega)]
          rw [e1]
          by_cases hi : (((rd_T42 l m).f3).length : Int) > 12
          · refine Ev.step (fun k => ?_) (Ev.step (fun k => ?_) (Ev.now (true)) : Ev (fun k => w_ModgraphSorted.j1 k l (l.drop (m + 1)).reverse m true) true)
            · simp only [w_ModgraphSorted.l0]
              rw [if_pos (by omega), decide_eq_true (by omega)]
            · simp only [w_ModgraphSorted.j1]
              rw [if_pos trivial, if_pos (by omega), if_pos (by omega), if_pos hi]
              rfl
          · have h := ih (by omega) (fun x hx => by
              rw [hd] at hx
              rcases List.mem_cons.1 hx with rfl | hx
              · omega
              · exact h12 x hx)
            rw [hd, List.reverse_cons] at h
            refine Ev.step (fun k => ?_) (Ev.step (fun k => ?_) h : Ev (fun k => w_ModgraphSorted.j1 k l (l.drop (m + 1)).reverse m true) true)
            · simp only [w_ModgraphSorted.l0]
              rw [if_pos (by omega), decide_eq_true (by omega)]
            · simp only [w_ModgraphSorted.j1]
              rw [if_pos trivial, if_pos (by omega), if_pos (by omega), if_neg hi, if_pos (by rw [List.length_reverse, List.length_drop]; omega), e2]
      have h := loop l.length (Nat.le_refl _) (by rw [List.drop_length]; intro x hx; cases hx)
      rw [List.drop_length, List.reverse_nil] at h
      exact h
    · have hj : Ev (fun k => w_ModgraphSorted.j1 k l [] ((l.length : Int) - 1) false) true := by
        refine Ev.step (fun k => ?_) (Ev.now _)
        simp only [w_ModgraphSorted.j1]
        rw [if_neg (by simp), if_pos (by omega)]
        rfl
      refine Ev.step (fun k => ?_) hj
      simp only [w_ModgraphSorted.l0]
      rw [if_pos (by omega), decide_eq_false (by omega)]
  refine Ev.congr (fun k => ?_) hstart
  unfold w_ModgraphSorted.f
  rw [hw]
end Tp
end Go.Proofs.Ytmadhaccjmakdaa
namespace Go.Proofs.Ytmadhaccjmakdaa.modgraphSorted
open Go.ChangeShapes Go.WideShapes Go.ChangeAt Go.RowKit Go.Proofs.Yw.A
theorem own : ownKnob Try.prog.godebug = none := by kernel_rfl
theorem laidOut : laidOutB Try.prog = true := by kernel_rfl
theorem lifted (os : Os) (started : os.Started) (H : Type) (enc : TypeId × Value -> H) :
    ReturnsInHanded {} Try.checked os 6 .any (Rows.modgraphSortedSpec.pre6 enc Try.prog Try.f6 Rows.modgraphSortedRow.domain false) (Rows.modgraphSortedSpec.post enc Try.prog Try.f6 false true false false) := by
  refine returnsInHanded_of_change_sized (C := Try.checked) own started (by kernel_rfl) Try.func6
    (ChangeSpec.witness6 (enc := enc) (C := Try.checked) false ⟨#[], #[.slice none 0 0], []⟩ 8 (by kernel_rfl) (by kernel_rfl) (by kernel_rfl) (by kernel_rfl)) ?_
  intro W base args ds gs before hval0 hW hcnd hsz0 _
  have hsz : (DataW.weightsEach Try.prog (Try.f6.params.toList ++ Rows.modgraphSortedSpec.plain.varTypes Try.prog) (ds ++ gs)).all (· <= reachBytes) = true := hsz0
  have hval : ∀ (j : Nat) t v, Try.f6.params[j]? = some t -> args[j]? = some v -> Value.okWide Try.prog W .any base t v := hval0
  have hW' := hW
  obtain ⟨p, q, hA0, hV, rfl, hfz, hnd⟩ := hW
  have hA : DataW.TrodAll enc Try.prog W 0 (fun _ => true) true Try.f6.params.toList args.toList ds p := hA0
  rw [Try.params6] at hA hval hsz
  obtain ⟨v0, vs0, d0, ds0, p0, q0, hargs, rfl, rfl, h0, r0⟩ := trodAll_cons hA
  obtain ⟨rfl, rfl, rfl⟩ := trodAll_nil r0
  obtain rfl : args = #[v0] := by cases args; simp_all
  obtain ⟨rfl, rfl⟩ := trodVars_none hV
  have k0 := h0
  have lt0 : ∀ x ∈ p0, x.block < W.heap.size := by obtain ⟨m, hm⟩ := k0; exact DataW.trod_lt m _ _ _ hm
  obtain ⟨A0, c0, l0, rfl, hc0, hr0, y0⟩ := Op.Opens.arg Try.underlying22 Op.opens22 (hval 0 22 v0 rfl rfl) h0
  clear hA0 hval0 hsz0 hsz
  obtain ⟨kr, hkr⟩ := Tp.ModgraphSorted l0 y0 (Kd.C_max hr0)
  refine (P.w_ModgraphSorted.calls kr A0 c0 l0 true W hr0 hc0 hkr).mono fun e W' ⟨he, bel⟩ => ?_
  subst he
  exact ⟨_, rfl, _, _, _, [], _, [], hW', trodAll_mk1 (shut_bool Try.underlying4 _), (trodAll_cons_mk (Below.trod laidOut (by kernel_rfl) (of_decide_eq_true (by kernel_rfl)) k0 bel lt0) trodAll_mk0), rfl, bel.frame _, fun h => by cases h⟩
theorem over : Rows.modgraphSortedRow.holds Try.pinned (OpenSpec.ofChange Rows.modgraphSortedSpec) :=
  OpenClaim.holds_of_wide 6 Try.f6 rfl rfl rfl rfl rfl rfl rfl ⟨rfl, rfl, rfl, rfl, rfl⟩ rfl rfl rfl rfl rfl (by kernel_rfl) Try.func6 (by kernel_rfl)
    (of_decide_eq_true (by kernel_rfl)) (by unfold Func.isWrapper; first | (rw [if_pos (by decide +kernel)]; kernel_rfl) | (rw [if_neg (by decide +kernel)]; exact ⟨rfl, rfl⟩))
    (fun os started H enc _ => lifted os started H enc)
theorem proved : Rows.ModgraphSortedSaid := over
#print axioms proved
end Go.Proofs.Ytmadhaccjmakdaa.modgraphSorted
namespace Go.Proofs.Ytmadhaccjmakdaa
theorem modgraphSorted_holds : Rows.ModgraphSortedSaid := modgraphSorted.proved
end Go.Proofs.Ytmadhaccjmakdaa
