/- Part 6 of 6 of one proof: The law ModgraphNeeds holds: for every input it returns true, and the input reads as it did -/
import Derived.Below
import Derived.ChangeOld
import Derived.OpenShut
import Derived.ProofKit
import Derived.ShutString
import Derived.SizedLaws
import Derived.Test.YtmadhaccjmakdaaRows
import Derived.WalkKit
import Derived.Test.YtmadhaccjmakdaaMNeeds1
import Derived.Test.YtmadhaccjmakdaaMNeeds2
import Derived.Test.YtmadhaccjmakdaaMNeeds3
import Derived.Test.YtmadhaccjmakdaaMNeeds4
import Derived.Test.YtmadhaccjmakdaaMNeeds5
set_option linter.unusedVariables false
set_option linter.unusedSimpArgs false
set_option maxHeartbeats 8000000
set_option maxRecDepth 100000
namespace Go.Proofs.Ytmadhaccjmakdaa
open Go.Maps Go.Sort Go.RowKit Go.Proofs.Yw.A Go.Proofs.Yw.B Go.Proofs.Yw.C Go.Proofs.Ytmadhaccjmakdaa.P
namespace Tp
open Tj Rw Od Mg
open Classical
theorem lt_ext : ∀ {a b : List Nm}, a.Pairwise (· < ·) -> b.Pairwise (· < ·) -> (∀ x, x ∈ a ↔ x ∈ b) -> a = b := by
 intro a
 induction a with
 | nil =>
  intro b _ _ h
  cases b with
  | nil => rfl
  | cons y b => exact absurd ((h y).2 (by simp)) (by simp)
 | cons x a ih =>
  intro b ha hb h
  cases b with
  | nil => exact absurd ((h x).1 (by simp)) (by simp)
  | cons y b =>
   rw [List.pairwise_cons] at ha hb
   have hxy : x = y := by
    rcases List.mem_cons.1 ((h x).1 (by simp)) with e | e
    · exact e
    · rcases List.mem_cons.1 ((h y).2 (by simp)) with e2 | e2
      · exact e2.symm
      · exact absurd (List.lt_trans (hb.1 x e) (ha.1 y e2)) (List.lt_irrefl _)
   subst hxy
   rw [ih ha.2 hb.2 (fun z => ?_)]
   have hz := h z
   simp only [List.mem_cons] at hz
   constructor
   · intro hza
     rcases hz.1 (.inr hza) with e | e
     · subst e; exact absurd (ha.1 z hza) (List.lt_irrefl _)
     · exact e
   · intro hzb
     rcases hz.2 (.inr hzb) with e | e
     · subst e; exact absurd (hb.1 z hzb) (List.lt_irrefl _)
     · exact e
theorem asc_lt (S : List Nm) : (asc S).Pairwise (· < ·) := by
 have h1 := asc_pair S
 have h2 : (asc S).Nodup := (asc_elems S).nodup
 refine (h1.and h2).imp ?_
 rintro a b ⟨h3, h4⟩
 rcases Std.lt_trichotomy a b with h | h | h
 · exact h
 · exact absurd h h4
 · exact absurd (List.lt_of_le_of_lt h3 h) (List.lt_irrefl _)
theorem insU_asc (S : List Nm) (x : Nm) : insU x (asc S) = asc (S ++ [x]) := by
 refine lt_ext (insU_lt x (asc_lt S)) (asc_lt _) (fun y => ?_)
 rw [mem_insU, mem_asc, mem_asc]
 simp [or_comm]
theorem asc_len (S : List Nm) : (asc S).length <= S.length := by
 have h1 : ∀ S : List Nm, (dd S).length <= S.length := by
  intro S
  induction S with
  | nil => simp [dd]
  | cons x S ih =>
   unfold dd
   split <;> simp <;> omega
 unfold asc
 rw [List.length_mergeSort]
 exact h1 S
theorem drop_mods (l : List S42) (i : Nat) (h : i < l.length) : l.drop i = rd_T42 l i :: l.drop (i + 1) := by
 have := drop_rd l (i : Int) (by omega) (by omega)
 simpa using this
theorem drop_imps (l : List S66) (i : Nat) (h : i < l.length) : l.drop i = rd_T66 l i :: l.drop (i + 1) := by
 have := drop_rdI l (i : Int) (by omega) (by omega)
 simpa using this
theorem names_ev (l : List S42) (hl : l.length < 100000) : Ev (fun k => r_Names.f k l) ((asc (l.map nm)).map bz) := by
 have key : ∀ (m j : Nat) (S : List Nm), j + m = l.length -> S.length = j -> Ev (fun k => r_Names.l0 k l ((asc S).map bz) j) ((asc (S ++ (l.drop j).map nm)).map bz) := by
  intro m
  induction m with
  | zero =>
   intro j S hj hS
   rw [List.drop_eq_nil_of_le (by omega), List.map_nil, List.append_nil]
   refine Ev.step (fun k => ?_) (Ev.now _)
   simp only [r_Names.l0]
   rw [if_neg (by omega)]
  | succ m ih =>
   intro j S hj hS
   have h1 := ins_ev (asc S) (rd_T42 l j).f0 (by have := asc_len S; omega)
   have h2 := ih (j + 1) (S ++ [nm (rd_T42 l j)]) (by omega) (by simp; omega)
   rw [drop_mods l j (by omega), List.map_cons, <- List.singleton_append, <- List.append_assoc]
   rw [<- insU_asc] at h2
   refine Ev.step (fun k => ?_) (Ev.bind h1 (f := fun k t => r_Names.l0 k l t ((j + 1 : Nat) : Int)) h2)
   simp only [r_Names.l0]
   rw [if_pos (by omega), if_pos (by omega), succ_cast j (by omega)]
 have h := key l.length 0 [] (by omega) rfl
 have e : asc ([] : List Nm) = [] := asc_self (by simp) (by simp)
 rw [e, List.drop_zero, List.nil_append] at h
 exact h
theorem imps_inner (l : List S42) (x : ByteArray) (hl : l.length < 100000) (hi : ∀ m ∈ l, m.f3.length <= 100000) (i : Nat) (hil : i < l.length) (hn : nm (rd_T42 l i) = dat x) (r : List ByteArray)
 (hk : Ev (fun k => r_Imports.l0 k l x ((asc ((rd_T42 l i).f3.map im)).map bz) ((i + 1 : Nat) : Int)) r) : Ev (fun k => r_Imports.l1 k l x [] i 0) r := by
 have hmem : (rd_T42 l i).f3.length <= 100000 := hi _ (Mg.mem_rd l i (by omega) (by omega))
 have key2 : ∀ (m j : Nat) (S : List Nm), j + m = (rd_T42 l i).f3.length -> (asc S).length <= j -> S = ((rd_T42 l i).f3.take j).map im -> Ev (fun k => r_Imports.l1 k l x ((asc S).map bz) i j) r := by
  intro m
  induction m with
  | zero =>
   intro j S hj hS hST
   rw [List.take_of_length_le (by omega)] at hST
   subst hST
   refine Ev.step (fun k => ?_) hk
   simp only [r_Imports.l1]
   rw [if_pos (by omega), if_pos (by omega), if_neg (by omega), succ_cast i (by omega)]
  | succ m ih =>
   intro j S hj hS hST
   have h1 := ins_ev (asc S) (rd_T66 (rd_T42 l i).f3 j).f0 (by omega)
   have h2 := ih (j + 1) (S ++ [im (rd_T66 (rd_T42 l i).f3 j)]) (by omega) (by rw [<- insU_asc]; have := insU_len (im (rd_T66 (rd_T42 l i).f3 j)) (asc S); omega) (by
    have := take_rdI (rd_T42 l i).f3 (j : Int) (by omega) (by omega)
    simp only [Int.toNat_natCast] at this
    rw [this, List.map_append, hST]
    simp)
   rw [<- insU_asc] at h2
   refine Ev.step (fun k => ?_) (Ev.bind h1 (f := fun k t => r_Imports.l1 k l x t i ((j + 1 : Nat) : Int)) h2)
   simp only [r_Imports.l1]
   rw [if_pos (by omega), if_pos (by omega), if_pos (by omega), if_pos (by rw [toL, toL]; exact hn), if_pos (by omega), succ_cast j (by omega)]
 have e : asc ([] : List Nm) = [] := asc_self (by simp) (by simp)
 have h := key2 (rd_T42 l i).f3.length 0 [] (by omega) (by rw [e]; exact Nat.le_refl _) (by simp)
 rw [e] at h
 exact h
theorem imps_skip (l : List S42) (x : ByteArray) (hl : l.length < 100000) (i : Nat) (hil : i < l.length) (hn : nm (rd_T42 l i) ≠ dat x) (R r : List ByteArray)
 (hk : Ev (fun k => r_Imports.l0 k l x R ((i + 1 : Nat) : Int)) r) : Ev (fun k => r_Imports.l1 k l x R i 0) r := by
 refine Ev.step (fun k => ?_) hk
 simp only [r_Imports.l1]
 rw [if_pos (by omega), if_pos (by omega)]
 by_cases h0 : (0 : Int) < (((rd_T42 l i).f3).length : Int)
 rotate_left
 · rw [if_neg h0, succ_cast i (by omega)]
 rw [if_pos h0, if_neg (by rw [toL, toL]; exact hn), succ_cast i (by omega)]
theorem impsL_cons_eq {m : S42} {l : List S42} {n : Nm} (h : nm m = n) : impsL (m :: l) n = m.f3.map im := by
 unfold impsL
 rw [List.find?_cons_of_pos (by simp [h])]
 rfl
theorem impsL_cons_ne {m : S42} {l : List S42} {n : Nm} (h : nm m ≠ n) : impsL (m :: l) n = impsL l n := by
 unfold impsL
 rw [List.find?_cons_of_neg (by simp [h])]
theorem imps_ev (l : List S42) (x : ByteArray) (hl : l.length < 100000) (hi : ∀ m ∈ l, m.f3.length <= 100000) (hnd : (l.map nm).Nodup) : Ev (fun k => r_Imports.f k l x) ((asc (impsL l (dat x))).map bz) := by
 have rest : ∀ (m j : Nat) (R : List ByteArray), j + m = l.length -> dat x ∉ (l.drop j).map nm -> Ev (fun k => r_Imports.l0 k l x R j) R := by
  intro m
  induction m with
  | zero =>
   intro j R hj _
   refine Ev.step (fun k => ?_) (Ev.now _)
   simp only [r_Imports.l0]
   rw [if_neg (by omega)]
  | succ m ih =>
   intro j R hj hx
   rw [drop_mods l j (by omega), List.map_cons, List.mem_cons, not_or] at hx
   refine Ev.step (fun k => ?_) (imps_skip l x hl j (by omega) (fun e => hx.1 e.symm) R R (ih (j + 1) R (by omega) hx.2))
   simp only [r_Imports.l0]
   rw [if_pos (by omega)]
 have e : asc ([] : List Nm) = [] := asc_self (by simp) (by simp)
 have key : ∀ (m j : Nat), j + m = l.length -> Ev (fun k => r_Imports.l0 k l x [] j) ((asc (impsL (l.drop j) (dat x))).map bz) := by
  intro m
  induction m with
  | zero =>
   intro j hj
   rw [List.drop_eq_nil_of_le (by omega)]
   have e2 : impsL ([] : List S42) (dat x) = [] := rfl
   rw [e2, e]
   refine Ev.step (fun k => ?_) (Ev.now _)
   simp only [r_Imports.l0]
   rw [if_neg (by omega)]
   rfl
  | succ m ih =>
   intro j hj
   rw [drop_mods l j (by omega)]
   by_cases hn : nm (rd_T42 l j) = dat x
   rotate_left
   · rw [impsL_cons_ne hn]
     refine Ev.step (fun k => ?_) (imps_skip l x hl j (by omega) hn [] _ (ih (j + 1) (by omega)))
     simp only [r_Imports.l0]
     rw [if_pos (by omega)]
   rw [impsL_cons_eq hn]
   have hx : dat x ∉ (l.drop (j + 1)).map nm := by
    have h1 : ((l.drop j).map nm).Nodup := by rw [List.map_drop]; exact (List.drop_sublist _ _).nodup hnd
    rw [drop_mods l j (by omega), List.map_cons, List.nodup_cons, hn] at h1
    exact h1.1
   refine Ev.step (fun k => ?_) (imps_inner l x hl hi j (by omega) hn _ (rest m (j + 1) _ (by omega) hx))
   simp only [r_Imports.l0]
   rw [if_pos (by omega)]
 have h := key l.length 0 (by omega)
 rw [List.drop_zero] at h
 exact h
def consF (l : List S42) : Int × ByteArray :=
 if (l.length : Int) > 32 then (3, ⟨#[]⟩) else match twice l [] with
  | some x => (13, x)
  | none => match miss (l.map nm) l with
   | some x => (16, x)
   | none => (0, ⟨#[]⟩)
theorem made_consF (l : List S42) (h : okSizes l) : m_made.f l = some (if (consF l).1 = 0 then (namesOf l, edgesOf l, 0, ⟨#[]⟩, 0, 0) else ([], [], (consF l).1, (consF l).2, 0, 0)) := by
 unfold m_made.f consF
 by_cases hl : (l.length : Int) > 32
 · rw [if_pos hl, if_pos hl]; rfl
 rw [if_neg hl, if_neg hl, if_pos h]
 cases twice l [] with
 | some x => rfl
 | none =>
  cases miss (l.map nm) l with
  | some x => rfl
  | none => rfl
theorem mem_nm (x : ByteArray) (S : List ByteArray) : (dat x ∈ S.map dat) ↔ x ∈ S :=
 ⟨fun h => by obtain ⟨y, hy, e⟩ := List.mem_map.1 h; exact dat_inj e ▸ hy, fun h => List.mem_map.2 ⟨x, h, rfl⟩⟩
theorem cons_ev (l : List S42) (hi : ∀ m ∈ l, m.f3.length <= 100000) : Ev (fun k => r_consistent.f k l) ((consF l).1, (consF l).2, 0, 0) := by
 unfold consF
 by_cases hl : (l.length : Int) > 32
 · rw [if_pos hl]
   refine Ev.congr (fun k => ?_) (Ev.now _)
   unfold r_consistent.f
   rw [if_pos hl]
 rw [if_neg hl]
 have hS : l.map nm = (l.map (fun m => m.f0)).map dat := by rw [List.map_map]; rfl
 have k2 : ∀ (i : Nat), i < l.length -> ∀ (m j : Nat) (r : Int × ByteArray × Int × Int), j + m = (rd_T42 l i).f3.length ->
  (∀ y, missI (l.map nm) ((rd_T42 l i).f3.drop j) = some y -> r = (16, y, 0, 0)) -> (missI (l.map nm) ((rd_T42 l i).f3.drop j) = none -> Ev (fun k => r_consistent.l1 k l (l.map (fun m => m.f0)) ((i + 1 : Nat) : Int)) r) ->
  Ev (fun k => r_consistent.l2 k l (l.map (fun m => m.f0)) i j) r := by
  intro i hil m
  have hmem : (rd_T42 l i).f3.length <= 100000 := hi _ (Mg.mem_rd l i (by omega) (by omega))
  induction m with
  | zero =>
   intro j r hj _ h2
   rw [List.drop_eq_nil_of_le (by omega)] at h2
   refine Ev.step (fun k => ?_) (h2 rfl)
   simp only [r_consistent.l2]
   rw [if_pos (by omega), if_pos (by omega), if_neg (by omega), succ_cast i (by omega)]
  | succ m ih =>
   intro j r hj h1 h2
   have hb := has_ev (l.map (fun m => m.f0)) (rd_T66 (rd_T42 l i).f3 j).f0 (by rw [List.length_map]; omega)
   rw [drop_imps _ j (by omega)] at h1 h2
   by_cases hc : (l.map nm).contains (im (rd_T66 (rd_T42 l i).f3 j)) = true
   · unfold missI at h1 h2
     rw [if_pos hc] at h1 h2
     rw [decide_eq_true ((mem_nm _ _).1 (by rw [<- hS]; exact List.contains_iff_mem.1 hc))] at hb
     refine Ev.step (fun k => ?_) (Ev.bind hb (f := fun k t => if t = true then r_consistent.l2 k l (l.map (fun m => m.f0)) i ((j + 1 : Nat) : Int) else some (16, (rd_T66 (rd_T42 l i).f3 j).f0, 0, 0)) (ih (j + 1) r (by omega) h1 h2))
     simp only [r_consistent.l2]
     rw [if_pos (by omega), if_pos (by omega), if_pos (by omega), if_pos (by omega), succ_cast j (by omega)]
   unfold missI at h1 h2
   rw [if_neg hc] at h1 h2
   rw [decide_eq_false (fun h => hc (List.contains_iff_mem.2 (by rw [hS]; exact (mem_nm _ _).2 h)))] at hb
   have hr := h1 _ rfl
   rw [hr]
   refine Ev.step (fun k => ?_) (Ev.bind hb (f := fun k t => if t = true then r_consistent.l2 k l (l.map (fun m => m.f0)) i ((j + 1 : Nat) : Int) else some (16, (rd_T66 (rd_T42 l i).f3 j).f0, 0, 0)) (Ev.now _))
   simp only [r_consistent.l2]
   rw [if_pos (by omega), if_pos (by omega), if_pos (by omega), if_pos (by omega), succ_cast j (by omega)]
 have k1 : ∀ (m i : Nat), i + m = l.length -> Ev (fun k => r_consistent.l1 k l (l.map (fun m => m.f0)) i) (match miss (l.map nm) (l.drop i) with | some x => (16, x, 0, 0) | none => (0, ⟨#[]⟩, 0, 0)) := by
  intro m
  induction m with
  | zero =>
   intro i hi2
   rw [List.drop_eq_nil_of_le (by omega)]
   refine Ev.step (fun k => ?_) (Ev.now _)
   simp only [r_consistent.l1]
   rw [if_neg (by omega)]
   rfl
  | succ m ih =>
   intro i hi2
   rw [drop_mods l i (by omega)]
   refine Ev.step (fun k => ?_) (k2 i (by omega) _ 0 _ (Nat.zero_add _) (fun y hy => ?_) (fun hn => ?_))
   · simp only [r_consistent.l1]
     rw [if_pos (by omega)]
     rfl
   · rw [List.drop_zero] at hy
     unfold miss
     rw [hy]
   · rw [List.drop_zero] at hn
     unfold miss
     rw [hn]
     exact ih (i + 1) (by omega)
 have k0 : ∀ (m i : Nat), i + m = l.length -> Ev (fun k => r_consistent.l0 k l ((l.take i).map (fun m => m.f0)) i) (match twice (l.drop i) ((l.take i).map nm) with | some x => (13, x, 0, 0) | none => (match miss (l.map nm) l with | some x => (16, x, 0, 0) | none => (0, ⟨#[]⟩, 0, 0))) := by
  intro m
  induction m with
  | zero =>
   intro i hi2
   have h1 := k1 l.length 0 (by omega)
   rw [List.drop_zero] at h1
   rw [List.drop_eq_nil_of_le (by omega), List.take_of_length_le (by omega)]
   refine Ev.step (fun k => ?_) h1
   simp only [r_consistent.l0]
   rw [if_neg (by omega)]
   rfl
  | succ m ih =>
   intro i hi2
   have hT : (l.take i).map nm = ((l.take i).map (fun m => m.f0)).map dat := by rw [List.map_map]; rfl
   have hb := has_ev ((l.take i).map (fun m => m.f0)) (rd_T42 l i).f0 (by rw [List.length_map, List.length_take]; omega)
   have htk : (l.take (i + 1)) = l.take i ++ [rd_T42 l i] := by
    have := take_rd l (i : Int) (by omega) (by omega)
    simpa using this
   rw [drop_mods l i (by omega)]
   unfold twice
   by_cases hc : ((l.take i).map nm).contains (nm (rd_T42 l i)) = true
   · rw [if_pos hc]
     rw [decide_eq_true ((mem_nm _ _).1 (by rw [<- hT]; exact List.contains_iff_mem.1 hc))] at hb
     refine Ev.step (fun k => ?_) (Ev.bind hb (f := fun k t => if t = true then some (13, (rd_T42 l i).f0, 0, 0) else r_consistent.l0 k l ((l.take i).map (fun m => m.f0) ++ [(rd_T42 l i).f0]) ((i + 1 : Nat) : Int)) (Ev.now _))
     simp only [r_consistent.l0]
     rw [if_pos (by omega), if_pos (by omega), succ_cast i (by omega)]
     congr 1
     funext t
     rw [if_pos (show ((l.take i).map (fun m => m.f0)).length < 8796093022208 by rw [List.length_map, List.length_take]; omega)]
   rw [if_neg hc]
   rw [decide_eq_false (fun h => hc (List.contains_iff_mem.2 (by rw [hT]; exact (mem_nm _ _).2 h)))] at hb
   have h2 := ih (i + 1) (by omega)
   rw [htk, List.map_append, List.map_append] at h2
   refine Ev.step (fun k => ?_) (Ev.bind hb (f := fun k t => if t = true then some (13, (rd_T42 l i).f0, 0, 0) else r_consistent.l0 k l ((l.take i).map (fun m => m.f0) ++ [(rd_T42 l i).f0]) ((i + 1 : Nat) : Int)) h2)
   simp only [r_consistent.l0]
   rw [if_pos (by omega), if_pos (by omega), succ_cast i (by omega)]
   congr 1
   funext t
   rw [if_pos (show ((l.take i).map (fun m => m.f0)).length < 8796093022208 by rw [List.length_map, List.length_take]; omega)]
 have h := k0 l.length 0 (by omega)
 rw [List.drop_zero, List.take_zero, List.map_nil, List.map_nil] at h
 refine Ev.congr (fun k => ?_) (g := fun k => r_consistent.f k l) (f := fun k => r_consistent.l0 k l [] 0) ?_
 · unfold r_consistent.f
   rw [if_neg hl]
 · cases h1 : twice l [] with
   | some x => rw [h1] at h; exact h
   | none =>
    rw [h1] at h
    cases h2 : miss (l.map nm) l with
    | some x => simp only [h2] at h; exact h
    | none => simp only [h2] at h; exact h
theorem missI_none (K : List Nm) : ∀ {q : List S66}, missI K q = none -> ∀ i ∈ q, im i ∈ K := by
 intro q
 induction q with
 | nil => intro _ i hi; cases hi
 | cons i q ih =>
  intro h j hj
  unfold missI at h
  by_cases hc : K.contains (im i) = true
  rotate_left
  · rw [if_neg hc] at h; cases h
  rw [if_pos hc] at h
  rcases List.mem_cons.1 hj with rfl | hj
  · exact List.contains_iff_mem.1 hc
  · exact ih h j hj
theorem miss_none (K : List Nm) : ∀ {q : List S42}, miss K q = none -> ∀ m ∈ q, ∀ i ∈ m.f3, im i ∈ K := by
 intro q
 induction q with
 | nil => intro _ i hi; cases hi
 | cons a q ih =>
  intro h m hm
  unfold miss at h
  cases h1 : missI K a.f3 with
  | some x => rw [h1] at h; cases h
  | none =>
   rw [h1] at h
   rcases List.mem_cons.1 hm with rfl | hm
   · exact missI_none K h1
   · exact ih h m hm
structure Good (l : List S42) : Prop where
 len : l.length <= 32
 nod : (l.map nm).Nodup
 imp : ∀ m ∈ l, ∀ i ∈ m.f3, im i ∈ l.map nm
 few : ∀ m ∈ l, m.f3.length <= 100
theorem good_of {l : List S42} (h : (consF l).1 = 0) (hf : ∀ m ∈ l, m.f3.length <= 100) : Good l := by
 unfold consF at h
 by_cases hl : (l.length : Int) > 32
 · rw [if_pos hl] at h; cases h
 rw [if_neg hl] at h
 cases h1 : twice l [] with
 | some x => rw [h1] at h; cases h
 | none =>
  rw [h1] at h
  cases h2 : miss (l.map nm) l with
  | some x => simp only [h2] at h; cases h
  | none =>
   have h3 := twice_none l [] (by simp) h1
   exact ⟨by omega, by simpa using h3, miss_none _ h2, hf⟩
theorem good_fault {l : List S42} (h : (consF l).1 = 0) : (consF l).2 = ⟨#[]⟩ := by
 unfold consF at h ⊢
 by_cases hl : (l.length : Int) > 32
 · rw [if_pos hl] at h; cases h
 rw [if_neg hl] at h ⊢
 cases h1 : twice l [] with
 | some x => rw [h1] at h; cases h
 | none =>
  rw [h1] at h
  cases h2 : miss (l.map nm) l with
  | some x => simp only [h2] at h; cases h
  | none => rfl
def nb (l : List S42) (i : Int) : ByteArray := rdOf ByteArray.empty (namesOf l) i
section
variable {l : List S42}
def NL (l : List S42) : List Nm := asc (l.map nm)
theorem NL_len (G : Good l) : (NL l).length = l.length := by
 have h1 := (asc_elems (l.map nm)).nodup
 have h2 : ∀ (a b : List Nm), a.Nodup -> (∀ x ∈ a, x ∈ b) -> a.length <= b.length := by
  intro a
  induction a with
  | nil => intro b _ _; simp
  | cons x a ih =>
   intro b hn hs
   rw [List.nodup_cons] at hn
   have hx := hs x (by simp)
   have := ih (b.erase x) hn.2 (fun y hy => (List.mem_erase_of_ne (by rintro rfl; exact hn.1 hy)).2 (hs y (by simp [hy])))
   rw [List.length_erase_of_mem hx] at this
   have := List.length_pos_of_mem hx
   rw [List.length_cons]; omega
 have h3 := h2 _ _ h1 (fun x hx => mem_asc.1 hx)
 have h4 := h2 _ _ G.nod (fun x hx => (mem_asc (S := l.map nm)).2 hx)
 rw [List.length_map] at h3 h4
 exact Nat.le_antisymm h3 h4
theorem es_len (G : Good l) : (edgesOf l).length = l.length := by
 unfold edgesOf; rw [List.length_map]; exact NL_len G
theorem nb_at (G : Good l) {i : Int} (h0 : 0 <= i) (h1 : i < l.length) : ∃ h : i.toNat < (NL l).length, nb l i = bz (NL l)[i.toNat] :=
 rd_bz (NL l) i h0 (by rw [NL_len G]; exact h1)
theorem nb_lt (G : Good l) {i j : Int} (h0 : 0 <= i) (h1 : i < j) (h2 : j < l.length) : dat (nb l i) < dat (nb l j) := by
 obtain ⟨a, ha⟩ := nb_at G h0 (by omega)
 obtain ⟨b, hb⟩ := nb_at G (by omega) h2
 rw [ha, hb, dat_bz, dat_bz]
 exact List.pairwise_iff_getElem.1 (asc_lt (l.map nm)) _ _ a b (by omega)
theorem nb_inj (G : Good l) {i j : Int} (h0 : 0 <= i) (h1 : i < l.length) (h2 : 0 <= j) (h3 : j < l.length) (h : nb l i = nb l j) : i = j := by
 rcases Int.lt_trichotomy i j with e | e | e
 · have := nb_lt G h0 e h3; rw [h] at this; exact absurd this (List.lt_irrefl _)
 · exact e
 · have := nb_lt G h2 e h1; rw [h] at this; exact absurd this (List.lt_irrefl _)
theorem rank_at (L : List Nm) (hp : L.Pairwise (· < ·)) (t : Nat) (ht : t < L.length) : rank L L[t] = t := by
 rcases Nat.lt_trichotomy (rank L L[t]) t with h | h | h
 · have h1 := rank_ge L L[t] (hp.imp (fun h => List.le_of_lt h)) (rank L L[t]) (by omega) (Nat.le_refl _)
   exact absurd (List.pairwise_iff_getElem.1 hp _ _ (by omega) ht h) h1
 · exact h
 · obtain ⟨h1, h2⟩ := rank_lt L L[t] t h
   exact absurd h2 (List.lt_irrefl _)
theorem nb_rank (G : Good l) {y : Nm} (hy : y ∈ l.map nm) : (0 : Int) <= (rank (NL l) y : Int) /\ (rank (NL l) y : Int) < l.length /\ nb l (rank (NL l) y : Int) = bz y := by
 obtain ⟨t, ht, rfl⟩ := List.mem_iff_getElem.1 ((mem_asc (S := l.map nm)).2 hy)
 have hr : rank (NL l) ((asc (l.map nm))[t]) = t := rank_at _ (asc_lt _) t ht
 rw [hr]
 have hl : t < l.length := by have := NL_len G; unfold NL at this; omega
 refine ⟨by omega, by omega, ?_⟩
 obtain ⟨h1, h2⟩ := nb_at G (i := (t : Int)) (by omega) (by omega)
 rw [h2]
 rfl
theorem rank_nb (G : Good l) {i : Int} (h0 : 0 <= i) (h1 : i < l.length) : (rank (NL l) (dat (nb l i)) : Int) = i := by
 obtain ⟨h, e⟩ := nb_at G h0 h1
 rw [e, dat_bz, rank_at (NL l) (asc_lt _) _ h]
 omega
theorem row_es (G : Good l) {i : Int} (h0 : 0 <= i) (h1 : i < l.length) : row (edgesOf l) i = edgeOf l (dat (nb l i)) := by
 obtain ⟨h, e⟩ := nb_at G h0 h1
 rw [e, dat_bz]
 obtain ⟨t, rfl⟩ : ∃ t : Nat, i = t := ⟨i.toNat, by omega⟩
 have ht : t < (edgesOf l).length := by rw [es_len G]; omega
 rw [row_mem _ t ht]
 exact List.getElem_map (edgeOf l) (l := NL l) (h := ht)
theorem imps_in (G : Good l) (n : Nm) : (∀ y ∈ impsL l n, y ∈ l.map nm) /\ (impsL l n).length <= 100 := by
 unfold impsL
 cases h : l.find? (fun m => nm m == n) with
 | none => simp
 | some m =>
  have hm := List.mem_of_find?_eq_some h
  simp only [Option.map_some, Option.getD_some]
  refine ⟨fun y hy => ?_, by rw [List.length_map]; exact G.few m hm⟩
  obtain ⟨i, hi, rfl⟩ := List.mem_map.1 hy
  exact G.imp m hm i hi
theorem row_nb (G : Good l) {i : Int} (h0 : 0 <= i) (h1 : i < l.length) : (row (edgesOf l) i).map (nb l) = (asc (impsL l (dat (nb l i)))).map bz := by
 rw [row_es G h0 h1]
 unfold edgeOf
 rw [List.map_map]
 refine List.map_congr_left fun y hy => ?_
 exact (nb_rank G ((imps_in G _).1 y (mem_asc.1 hy))).2.2
theorem es_vld (G : Good l) : Vld (edgesOf l) := by
 intro v hv w hw
 have hv' : v < l.length := by have := hv.2; rw [es_len G] at this; exact this
 rw [row_es G hv.1 hv'] at hw
 unfold edgeOf at hw
 obtain ⟨y, hy, rfl⟩ := List.mem_map.1 hw
 have := nb_rank G ((imps_in G _).1 y (mem_asc.1 hy))
 exact ⟨this.1, by rw [es_len G]; exact this.2.1⟩
theorem row_len (G : Good l) {v : Int} (h0 : 0 <= v) (h1 : v < l.length) : (row (edgesOf l) v).length <= 100 := by
 rw [row_es G h0 h1]
 unfold edgeOf
 rw [List.length_map]
 exact Nat.le_trans (asc_len _) (imps_in G _).2
theorem es_sm (G : Good l) : Sm (edgesOf l) := by
 refine ⟨by rw [es_len G]; have := G.len; omega, fun j hj => ?_⟩
 rw [es_len G] at hj
 have := row_len G (v := (j : Int)) (by omega) (by omega)
 omega
theorem names_iota (G : Good l) : namesOf l = (iota l.length).map (nb l) := by
 have hlen : (namesOf l).length = l.length := by unfold namesOf; rw [List.length_map]; exact NL_len G
 refine List.ext_getElem (by rw [hlen, List.length_map, iota_length]) (fun i h1 h2 => ?_)
 rw [List.getElem_map]
 have e : (iota l.length)[i]'(by rw [iota_length]; omega) = (i : Int) := by simp [iota]
 rw [e]
 unfold nb
 simp [rdOf, List.getElem?_eq_getElem h1]
theorem names_len (G : Good l) : (namesOf l).length = l.length := by unfold namesOf; rw [List.length_map]; exact NL_len G
def VL (l : List S42) (L : List Int) : Prop := ∀ x ∈ L, 0 <= x /\ x < l.length
theorem VL.row (G : Good l) {v : Int} (h0 : 0 <= v) (h1 : v < l.length) : VL l (row (edgesOf l) v) := fun x hx => by
 have := es_vld G v ⟨h0, by rw [es_len G]; exact h1⟩ x hx
 unfold nd at this
 rw [es_len G] at this
 exact this
theorem mem_nb (G : Good l) {L : List Int} (hL : VL l L) {i : Int} (h0 : 0 <= i) (h1 : i < l.length) : nb l i ∈ L.map (nb l) ↔ i ∈ L := by
 constructor
 · intro h
   obtain ⟨j, hj, e⟩ := List.mem_map.1 h
   exact nb_inj G (hL j hj).1 (hL j hj).2 h0 h1 e ▸ hj
 · intro h
   exact List.mem_map.2 ⟨i, h, rfl⟩
theorem has_at (G : Good l) {L : List Int} (hL : VL l L) {i : Int} (h0 : 0 <= i) (h1 : i < l.length) (hl : L.length < 1000000) : Ev (fun k => q_Has.f k (L.map (nb l)) (nb l i)) (decide (i ∈ L)) := by
 have h := has_ev (L.map (nb l)) (nb l i) (by rw [List.length_map]; exact hl)
 rw [show decide (nb l i ∈ L.map (nb l)) = decide (i ∈ L) from decide_eq_decide.2 (mem_nb G hL h0 h1)] at h
 exact h
theorem imps_at (G : Good l) {i : Int} (h0 : 0 <= i) (h1 : i < l.length) : Ev (fun k => r_Imports.f k l (nb l i)) ((row (edgesOf l) i).map (nb l)) := by
 rw [row_nb G h0 h1]
 exact imps_ev l (nb l i) (by have := G.len; omega) (fun m hm => by have := G.few m hm; omega) G.nod
theorem names_at (G : Good l) : Ev (fun k => r_Names.f k l) ((iota l.length).map (nb l)) := by
 rw [<- names_iota G]
 exact names_ev l (by have := G.len; omega)
def insI (s : Int) : List Int -> List Int
 | [] => [s]
 | x :: l => if s < x then s :: x :: l else if s = x then x :: l else x :: insI s l
theorem mem_insI {s x : Int} : ∀ {L : List Int}, x ∈ insI s L ↔ x = s \/ x ∈ L := by
 intro L
 induction L with
 | nil => simp [insI]
 | cons y L ih =>
  unfold insI
  split
  · simp
  · split
    · rename_i h; subst h; simp
    · simp only [List.mem_cons, ih]
      constructor
      · rintro (h | h | h)
        · exact .inr (.inl h)
        · exact .inl h
        · exact .inr (.inr h)
      · rintro (h | h | h)
        · exact .inr (.inl h)
        · exact .inl h
        · exact .inr (.inr h)
theorem insI_lt (s : Int) : ∀ {L : List Int}, L.Pairwise (· < ·) -> (insI s L).Pairwise (· < ·) := by
 intro L
 induction L with
 | nil => intro _; simp [insI]
 | cons y L ih =>
  intro h
  rw [List.pairwise_cons] at h
  unfold insI
  split
  · rename_i h1
    rw [List.pairwise_cons]
    refine ⟨fun z hz => ?_, List.pairwise_cons.2 h⟩
    rcases List.mem_cons.1 hz with rfl | hz
    · exact h1
    · have := h.1 z hz; omega
  · split
    · exact List.pairwise_cons.2 h
    · rename_i h1 h2
      rw [List.pairwise_cons]
      refine ⟨fun z hz => ?_, ih h.2⟩
      rcases mem_insI.1 hz with rfl | hz
      · omega
      · exact h.1 z hz
theorem VL.insI {L : List Int} (hL : VL l L) {i : Int} (h0 : 0 <= i) (h1 : i < l.length) : VL l (insI i L) := fun x hx => by
 rcases mem_insI.1 hx with rfl | hx
 · exact ⟨h0, h1⟩
 · exact hL x hx
theorem insU_nb (G : Good l) {i : Int} (h0 : 0 <= i) (h1 : i < l.length) : ∀ {L : List Int}, VL l L -> insU (dat (nb l i)) (L.map (fun x => dat (nb l x))) = (insI i L).map (fun x => dat (nb l x)) := by
 intro L
 induction L with
 | nil => intro _; rfl
 | cons x L ih =>
  intro hL
  have hx := hL x (by simp)
  rw [List.map_cons, insU, insI]
  rcases Int.lt_trichotomy i x with e | e | e
  · rw [if_pos (nb_lt G h0 e hx.2), if_pos e]; rfl
  · subst e
    rw [if_neg (List.lt_irrefl _), if_pos rfl, if_neg (by omega), if_pos rfl]; rfl
  · have h2 := nb_lt G hx.1 e h1
    rw [if_neg (fun h => List.lt_irrefl _ (List.lt_trans h h2)), if_neg (fun h => by rw [h] at h2; exact List.lt_irrefl _ h2), if_neg (by omega), if_neg (by omega), ih (fun y hy => hL y (by simp [hy]))]
    rfl
theorem ins_at (G : Good l) {L : List Int} (hL : VL l L) {i : Int} (h0 : 0 <= i) (h1 : i < l.length) (hl : L.length < 1000000) : Ev (fun k => r_Insert.f k (L.map (nb l)) (nb l i)) ((insI i L).map (nb l)) := by
 have e : ∀ q : List Int, q.map (nb l) = (q.map (fun x => dat (nb l x))).map bz := fun q => by
  rw [List.map_map]
  exact List.map_congr_left fun x _ => (bz_dat _).symm
 have h := ins_ev (L.map (fun x => dat (nb l x))) (nb l i) (by rw [List.length_map]; exact hl)
 rw [insU_nb G h0 h1 hL, <- e, <- e] at h
 exact h
theorem rd_strs {L : List Int} (j : Nat) (h : j < L.length) : rdOf ByteArray.empty (L.map (nb l)) (j : Int) = nb l (rd L j) := by
 rw [rd_at L j h]
 simp [rdOf, List.getElem?_eq_getElem h]
theorem named_at (G : Good l) {L : List Int} (hL : VL l L) (hl : L.length < 1000000) : Ev (fun k => p_named.f k (namesOf l) (edgesOf l) L) (L.map (nb l)) := by
 have key : ∀ (m j : Nat) (R : List ByteArray), j + m = L.length -> R.length = j -> Ev (fun k => p_named.l0 k R L (L.length : Int) j (namesOf l) (edgesOf l)) (R ++ (L.drop j).map (nb l)) := by
  intro m
  induction m with
  | zero =>
   intro j R hj hR
   rw [List.drop_eq_nil_of_le (by omega), List.map_nil, List.append_nil]
   refine Ev.step (fun k => ?_) (Ev.now _)
   simp only [p_named.l0]
   rw [if_neg (by omega)]
  | succ m ih =>
   intro j R hj hR
   have hv := hL (rd L j) (by rw [rd_at L j (by omega)]; exact List.getElem_mem _)
   have h2 := ih (j + 1) (R ++ [nb l (rd L j)]) (by omega) (by simp; omega)
   rw [drop_row L j (by omega), List.map_cons]
   rw [List.append_assoc, List.singleton_append] at h2
   refine Ev.step (fun k => ?_) h2
   simp only [p_named.l0]
   rw [if_pos (by omega), if_pos (by omega), if_pos (by omega), if_pos hv.1, if_pos (by rw [names_len G]; exact hv.2), if_pos (by omega), succ_cast j (by omega)]
   rfl
 have h := key L.length 0 [] (by omega) rfl
 rw [List.drop_zero, List.nil_append] at h
 exact h
end
def Wk (es : List (List Int)) : Nat -> Int -> Int -> Prop
 | 0, a, b => a = b
 | m + 1, a, b => ∃ c ∈ row es a, Wk es m c b
section
variable {es : List (List Int)}
theorem wk_add {m n : Nat} {a b c : Int} (h : Wk es m a b) (h2 : Wk es n b c) : Wk es (m + n) a c := by
 induction m generalizing a with
 | zero => have e : a = b := h; subst e; rw [Nat.zero_add]; exact h2
 | succ m ih =>
  obtain ⟨x, hx, h⟩ := h
  rw [Nat.succ_add]
  exact ⟨x, hx, ih h⟩
theorem wk_split {m n : Nat} {a c : Int} (h : Wk es (m + n) a c) : ∃ b, Wk es m a b /\ Wk es n b c := by
 induction m generalizing a with
 | zero => rw [Nat.zero_add] at h; exact ⟨a, rfl, h⟩
 | succ m ih =>
  rw [Nat.succ_add] at h
  obtain ⟨x, hx, h⟩ := h
  obtain ⟨b, h1, h2⟩ := ih h
  exact ⟨b, ⟨x, hx, h1⟩, h2⟩
theorem wk_one {a b : Int} (h : b ∈ row es a) : Wk es 1 a b := ⟨b, h, rfl⟩
theorem wk_nd (hv : Vld es) {m : Nat} {a b : Int} (h : Wk es m a b) (ha : nd es a) : nd es b := by
 induction m generalizing a with
 | zero => have e : a = b := h; subst e; exact ha
 | succ m ih =>
  obtain ⟨x, hx, h⟩ := h
  exact ih h (hv a ha x hx)
structure DL (es : List (List Int)) (t : Int) (dl : List Int) : Prop where
 len : dl.length = es.length
 non : ∀ v, nd es v -> rd dl v < 0 -> rd dl v = -1 /\ ∀ m, ¬ Wk es m v t
 has : ∀ v, nd es v -> 0 <= rd dl v -> Wk es (rd dl v).toNat v t /\ ∀ m, Wk es m v t -> rd dl v <= m
 up : ∀ v, nd es v -> rd dl v < es.length
structure DInv (es : List (List Int)) (t : Int) (d : List Int) : Prop where
 len : d.length = es.length
 nt : nd es t
 at0 : rd d t = 0
 low : ∀ v, nd es v -> -1 <= rd d v
 wk : ∀ v, nd es v -> 0 <= rd d v -> Wk es (rd d v).toNat v t
 up : ∀ v, nd es v -> rd d v + (d.count (-1) : Nat) < es.length
def mz (n : Nat) (x : Int) : Nat := if x < 0 then n else x.toNat
def Ms (n : Nat) (d : List Int) : Nat := (d.map (mz n)).sum
theorem ms_set (n : Nat) : ∀ (d : List Int) (i : Nat) (x : Int) (h : i < d.length), Ms n (d.set i x) + mz n d[i] = Ms n d + mz n x := by
 intro d
 induction d with
 | nil => intro i x h; cases h
 | cons y d ih =>
  intro i x h
  cases i with
  | zero => simp [Ms]; omega
  | succ i =>
   have := ih i x (by simpa using h)
   simp only [List.set_cons_succ, List.getElem_cons_succ]
   unfold Ms at this ⊢
   rw [List.map_cons, List.sum_cons, List.map_cons, List.sum_cons]
   omega
theorem count_set1 : ∀ (d : List Int) (i : Nat) (x : Int) (h : i < d.length), 0 <= x -> (d.set i x).count (-1) + (if d[i] = -1 then 1 else 0) = d.count (-1) := by
 intro d
 induction d with
 | nil => intro i x h; cases h
 | cons y d ih =>
  intro i x h hx
  cases i with
  | zero =>
   have hx1 : ¬ x = -1 := by omega
   simp [List.count_cons, hx1]
  | succ i =>
   have := ih i x (by simpa using h) hx
   simp only [List.set_cons_succ, List.getElem_cons_succ, List.count_cons]
   omega
theorem relax_inv {t : Int} {d : List Int} {v w : Int} (I : DInv es t d) (hv : nd es v) (hw : nd es w) (hvw : w ∈ row es v) (h0 : 0 <= rd d w) (h1 : rd d v < 0 \/ rd d v > rd d w + 1) :
 DInv es t (d.set v.toNat (rd d w + 1)) /\ Ms es.length (d.set v.toNat (rd d w + 1)) < Ms es.length d := by
 have hvl : v < d.length := by rw [I.len]; exact hv.2
 have hvn : v.toNat < d.length := by have := hv.1; omega
 have hrd : ∀ u, 0 <= u -> rd (d.set v.toNat (rd d w + 1)) u = if u = v then rd d w + 1 else rd d u := fun u hu => rd_set d v u _ hv.1 hvl hu
 have hgv : d[v.toNat] = rd d v := by
  rw [<- rd_at d v.toNat hvn, show ((v.toNat : Nat) : Int) = v by have := hv.1; omega]
 have hc := count_set1 d v.toNat (rd d w + 1) hvn (by omega)
 have hms := ms_set es.length d v.toNat (rd d w + 1) hvn
 rw [hgv] at hc hms
 have hlowv := I.low v hv
 have huw := I.up w hw
 have huv := I.up v hv
 refine ⟨⟨by rw [List.length_set]; exact I.len, I.nt, ?_, ?_, ?_, ?_⟩, ?_⟩
 · rw [hrd t I.nt.1, if_neg]
   · exact I.at0
   · rintro rfl
     have := I.at0
     omega
 · intro u hu
   rw [hrd u hu.1]
   split
   · omega
   · exact I.low u hu
 · intro u hu hu0
   rw [hrd u hu.1] at hu0 ⊢
   split
   · rename_i e
     subst e
     rw [show (rd d w + 1).toNat = (rd d w).toNat + 1 by omega]
     exact ⟨w, hvw, I.wk w hw h0⟩
   · rename_i e
     rw [if_neg e] at hu0
     exact I.wk u hu hu0
 · intro u hu
   have huu := I.up u hu
   rw [hrd u hu.1]
   split at hc
   · rename_i e
     split <;> omega
   · rename_i e
     split <;> omega
 · unfold mz at hms
   rw [if_neg (show ¬ rd d w + 1 < 0 by omega)] at hms
   split at hms
   · have : (rd d w + 1).toNat < es.length := by
      rw [if_pos (by omega)] at hc
      omega
     omega
   · omega
def okE (d : List Int) (u w : Int) : Prop := 0 <= rd d w -> 0 <= rd d u /\ rd d u <= rd d w + 1
theorem dl_of {t : Int} {d : List Int} (hvld : Vld es) (I : DInv es t d) (h : ∀ u, nd es u -> ∀ w ∈ row es u, okE d u w) : DL es t d := by
 have key : ∀ (m : Nat) (v : Int), nd es v -> Wk es m v t -> 0 <= rd d v /\ rd d v <= m := by
  intro m
  induction m with
  | zero =>
   intro v hv hw
   have e : v = t := hw
   rw [e, I.at0]
   omega
  | succ m ih =>
   rintro v hv ⟨c, hc, hw⟩
   obtain ⟨h1, h2⟩ := ih c (hvld v hv c hc) hw
   obtain ⟨h3, h4⟩ := h v hv c hc h1
   exact ⟨h3, by omega⟩
 refine ⟨I.len, fun v hv hn => ⟨by have := I.low v hv; omega, fun m hw => ?_⟩, fun v hv h0 => ⟨I.wk v hv h0, fun m hw => (key m v hv hw).2⟩, fun v hv => by have := I.up v hv; omega⟩
 have := (key m v hv hw).1
 omega
theorem pass_ev (names : List ByteArray) {t : Int} (hvld : Vld es) (hn : es.length <= 60) (hr : ∀ v, nd es v -> (row es v).length <= 2000) (M : Nat)
 (IH : ∀ d, DInv es t d -> Ms es.length d < M -> ∃ dl, DL es t dl /\ Ev (fun k => p_distances.l1 k d true names es) dl) :
 ∀ (m v : Nat), v + m = es.length -> ∀ (d : List Int) (b : Bool), DInv es t d -> (b = true -> Ms es.length d < M) -> (b = false -> Ms es.length d <= M /\ ∀ u, nd es u -> u < v -> ∀ w ∈ row es u, okE d u w) ->
  ∃ dl, DL es t dl /\ Ev (fun k => p_distances.l2 k d b es (es.length : Int) v names es) dl := by
 intro m
 induction m with
 | zero =>
  intro v hv d b I h1 h2
  cases b with
  | true =>
   obtain ⟨dl, g1, g2⟩ := IH d I (h1 rfl)
   refine ⟨dl, g1, Ev.step (fun k => ?_) g2⟩
   simp only [p_distances.l2]
   rw [if_neg (by omega)]
  | false =>
   refine ⟨d, dl_of hvld I (fun u hu => (h2 rfl).2 u hu (by have := hu.2; omega)), Ev.step (fun k => ?_) (Ev.step (g := fun k => p_distances.l1 k d false names es) (fun k => ?_) (Ev.now _))⟩
   · simp only [p_distances.l2]
     rw [if_neg (by omega)]
   · simp only [p_distances.l1]
     rw [if_neg (by simp)]
 | succ m ih =>
  intro v hv d b I h1 h2
  have hvn : nd es (v : Int) := ⟨by omega, by omega⟩
  have hrv := hr v hvn
  have inner : ∀ (q j : Nat), j + q = (row es v).length -> ∀ (d : List Int) (b : Bool), DInv es t d -> (b = true -> Ms es.length d < M) -> (b = false -> Ms es.length d <= M /\ (∀ u, nd es u -> u < v -> ∀ w ∈ row es u, okE d u w) /\ ∀ w ∈ (row es v).take j, okE d v w) ->
   ∃ dl, DL es t dl /\ Ev (fun k => p_distances.l3 k d b v es (es.length : Int) v (row es v) ((row es v).length : Int) j names es) dl := by
   intro q
   induction q with
   | zero =>
    intro j hj d b I h1 h2
    obtain ⟨dl, g1, g2⟩ := ih (v + 1) (by omega) d b I h1 (fun hb => ⟨(h2 hb).1, fun u hu huv w hw => by
     by_cases e : u < v
     · exact (h2 hb).2.1 u hu e w hw
     have e2 : u = v := by omega
     subst e2
     exact (h2 hb).2.2 w (by rw [List.take_of_length_le (by omega)]; exact hw)⟩)
    refine ⟨dl, g1, Ev.step (fun k => ?_) g2⟩
    simp only [p_distances.l3]
    rw [if_neg (by omega), succ_cast v (by omega)]
   | succ q ihq =>
    intro j hj d b I h1 h2
    have hwm : rd (row es v) j ∈ row es v := by rw [rd_at _ j (by omega)]; exact List.getElem_mem _
    have hw := hvld v hvn _ hwm
    have hdl := I.len
    have hwl : rd (row es v) j < (d.length : Int) := by rw [hdl]; exact hw.2
    have hup := I.up _ hw
    have htk : (row es v).take (j + 1) = (row es v).take j ++ [rd (row es v) j] := by
     rw [List.take_succ_eq_append_getElem (by omega), rd_at _ j (by omega)]
    by_cases c1 : rd d (rd (row es v) j) >= 0
    rotate_left
    · obtain ⟨dl, g1, g2⟩ := ihq (j + 1) (by omega) d b I h1 (fun hb => ⟨(h2 hb).1, (h2 hb).2.1, fun w hw2 => by
       rw [htk, List.mem_append, List.mem_singleton] at hw2
       rcases hw2 with hw2 | rfl
       · exact (h2 hb).2.2 w hw2
       · exact fun h => absurd h (by omega)⟩)
      refine ⟨dl, g1, Ev.step (fun k => ?_) g2⟩
      simp only [p_distances.l3]
      rw [if_pos (by omega), if_pos (by omega), if_pos (by omega), if_pos hw.1, if_pos hwl, if_neg c1, succ_cast j (by omega)]
    have hw64 : wrap64 (rd d (rd (row es v) j) + 1) = rd d (rd (row es v) j) + 1 := w64 _ (by omega) (by omega)
    by_cases c2 : rd d v < 0
    · obtain ⟨r1, r2⟩ := relax_inv I hvn hw hwm c1 (.inl c2)
      obtain ⟨dl, g1, g2⟩ := ihq (j + 1) (by omega) _ true r1 (fun _ => by
       cases b with
       | true => have := h1 rfl; omega
       | false => have := (h2 rfl).1; omega) (fun hb => by cases hb)
      refine ⟨dl, g1, Ev.step (fun k => ?_) g2⟩
      simp only [p_distances.l3]
      rw [if_pos (by omega), if_pos (by omega), if_pos (by omega), if_pos hw.1, if_pos hwl, if_pos c1, if_pos (by omega), if_pos (by omega), if_pos c2, succ_cast j (by omega), hw64]
    by_cases c3 : rd d v > rd d (rd (row es v) j) + 1
    · obtain ⟨r1, r2⟩ := relax_inv I hvn hw hwm c1 (.inr c3)
      obtain ⟨dl, g1, g2⟩ := ihq (j + 1) (by omega) _ true r1 (fun _ => by
       cases b with
       | true => have := h1 rfl; omega
       | false => have := (h2 rfl).1; omega) (fun hb => by cases hb)
      refine ⟨dl, g1, Ev.step (fun k => ?_) g2⟩
      simp only [p_distances.l3]
      rw [if_pos (by omega), if_pos (by omega), if_pos (by omega), if_pos hw.1, if_pos hwl, if_pos c1, if_pos (by omega), if_pos (by omega), if_neg c2, hw64, if_pos c3, succ_cast j (by omega)]
    obtain ⟨dl, g1, g2⟩ := ihq (j + 1) (by omega) d b I h1 (fun hb => ⟨(h2 hb).1, (h2 hb).2.1, fun w hw2 => by
     rw [htk, List.mem_append, List.mem_singleton] at hw2
     rcases hw2 with hw2 | rfl
     · exact (h2 hb).2.2 w hw2
     · exact fun _ => ⟨by omega, by omega⟩⟩)
    refine ⟨dl, g1, Ev.step (fun k => ?_) g2⟩
    simp only [p_distances.l3]
    rw [if_pos (by omega), if_pos (by omega), if_pos (by omega), if_pos hw.1, if_pos hwl, if_pos c1, if_pos (by omega), if_pos (by omega), if_neg c2, hw64, if_neg c3, succ_cast j (by omega)]
  obtain ⟨dl, g1, g2⟩ := inner (row es v).length 0 (by omega) d b I h1 (fun hb => ⟨(h2 hb).1, (h2 hb).2, fun w hw => by simp at hw⟩)
  refine ⟨dl, g1, Ev.step (fun k => ?_) g2⟩
  simp only [p_distances.l2]
  rw [if_pos (by omega), if_pos (by omega), if_pos (by omega), L1_row]
  rfl
theorem again_ev (names : List ByteArray) {t : Int} (hvld : Vld es) (hn : es.length <= 60) (hr : ∀ v, nd es v -> (row es v).length <= 2000) : ∀ (M : Nat) (d : List Int), DInv es t d -> Ms es.length d < M ->
 ∃ dl, DL es t dl /\ Ev (fun k => p_distances.l1 k d true names es) dl := by
 intro M
 induction M with
 | zero => intro d _ h; omega
 | succ M ih =>
  intro d I h
  obtain ⟨dl, g1, g2⟩ := pass_ev names hvld hn hr M ih es.length 0 (by omega) d false I (fun h => by cases h) (fun _ => ⟨by omega, fun u hu h0 => by have := hu.1; omega⟩)
  refine ⟨dl, g1, Ev.step (fun k => ?_) g2⟩
  simp only [p_distances.l1]
  rw [if_pos trivial]
  rfl
theorem init_dinv {t : Int} (ht : nd es t) : DInv es t ((List.replicate es.length (-1)).set t.toNat 0) := by
 have htl : t.toNat < (List.replicate es.length (-1 : Int)).length := by rw [List.length_replicate]; have := ht.1; have := ht.2; omega
 have hrd : ∀ u, nd es u -> rd ((List.replicate es.length (-1)).set t.toNat 0) u = if u = t then 0 else -1 := fun u hu => by
  rw [rd_set _ t u 0 ht.1 (by rw [List.length_replicate]; exact ht.2) hu.1, rd_rep _ _ u hu.1 hu.2]
 have hc := count_set1 (List.replicate es.length (-1)) t.toNat 0 htl (by omega)
 rw [List.getElem_replicate, if_pos rfl, List.count_replicate_self] at hc
 refine ⟨by rw [List.length_set, List.length_replicate], ht, by rw [hrd t ht, if_pos rfl], fun v hv => ?_, fun v hv h0 => ?_, fun v hv => ?_⟩
 · rw [hrd v hv]; split <;> omega
 · rw [hrd v hv] at h0 ⊢
   split at h0
   · rename_i e
     rw [if_pos e]
     exact e
   · omega
 · rw [hrd v hv]
   split <;> omega
theorem dist_ev (names : List ByteArray) {t : Int} (hvld : Vld es) (hn : es.length <= 60) (hr : ∀ v, nd es v -> (row es v).length <= 2000) (hnl : names.length = es.length) (ht : nd es t) :
 ∃ dl, DL es t dl /\ Ev (fun k => p_distances.f k names es t) dl := by
 obtain ⟨dl, g1, g2⟩ := again_ev names hvld hn hr _ _ (init_dinv ht) (Nat.lt_succ_self _)
 refine ⟨dl, g1, ?_⟩
 have fill : ∀ (m i : Nat), i + m = es.length -> Ev (fun k => p_distances.l0 k t (List.replicate i (-1) ++ List.replicate m 0) (es.length : Int) i names es) dl := by
  intro m
  induction m with
  | zero =>
   intro i hi
   rw [List.replicate_zero, List.append_nil]
   have e : i = es.length := by omega
   subst e
   refine Ev.step (fun k => ?_) g2
   simp only [p_distances.l0]
   rw [if_neg (by omega), if_pos ht.1, if_pos (by rw [List.length_replicate]; exact ht.2)]
  | succ m ih =>
   intro i hi
   refine Ev.step (fun k => ?_) (ih (i + 1) (by omega))
   simp only [p_distances.l0]
   rw [if_pos (by omega), if_pos (by omega), if_pos (by rw [List.length_append, List.length_replicate, List.length_replicate]; omega), succ_cast i (by omega)]
   congr 1
   rw [Int.toNat_natCast, List.set_append_right _ _ (by rw [List.length_replicate]; exact Nat.le_refl _), List.length_replicate, Nat.sub_self, List.replicate_succ, List.set_cons_zero, List.replicate_succ', List.append_assoc]
   rfl
 have h := fill es.length 0 (by omega)
 refine Ev.congr (fun k => ?_) h
 unfold p_distances.f
 rw [if_pos (by omega), if_pos (by omega), Option.bind_some, Int.toNat_natCast, List.length_replicate, hnl]
 rfl
end
section
variable {es : List (List Int)}
def Cy (es : List (List Int)) (v : Int) (m : Nat) : Prop := 1 <= m /\ Wk es m v v
theorem cy_iff {v : Int} {m : Nat} : Cy es v m ↔ ∃ q, m = q + 1 /\ ∃ w ∈ row es v, Wk es q w v := by
 constructor
 · rintro ⟨h1, h2⟩
   obtain ⟨q, rfl⟩ : ∃ q, m = q + 1 := ⟨m - 1, by omega⟩
   exact ⟨q, rfl, h2⟩
 · rintro ⟨q, rfl, h⟩
   exact ⟨by omega, h⟩
structure Gi (es : List (List Int)) (b : Nat) (s : Int) : Prop where
 nds : nd es s
 cyc : Cy es s b
 min : ∀ u, nd es u -> ∀ m, Cy es u m -> b <= m /\ (m = b -> s <= u)
def CI (es : List (List Int)) (v : Nat) (b s : Int) : Prop :=
 (s = -1 /\ ∀ u, nd es u -> u < v -> ∀ m, ¬ Cy es u m) \/
 (nd es s /\ s < v /\ 1 <= b /\ b <= es.length /\ Cy es s b.toNat /\ ∀ u, nd es u -> u < v -> ∀ m, Cy es u m -> b <= m /\ (m = b -> s <= u))
def CJ (es : List (List Int)) (v j : Nat) (b s : Int) : Prop :=
 (s = -1 /\ (∀ u, nd es u -> u < v -> ∀ m, ¬ Cy es u m) /\ ∀ w ∈ (row es v).take j, ∀ m, ¬ Wk es m w v) \/
 (nd es s /\ s <= v /\ 1 <= b /\ b <= es.length /\ Cy es s b.toNat /\ (∀ u, nd es u -> u < v -> ∀ m, Cy es u m -> b <= m /\ (m = b -> s <= u)) /\ ∀ w ∈ (row es v).take j, ∀ m : Nat, Wk es m w v -> b <= m + 1)
def chn (es : List (List Int)) (dl : List Int) : Nat -> Int -> List Int
 | 0, _ => []
 | q + 1, v => ((row es v).find? (fun w => rd dl w == ((q + 1 : Nat) : Int))).getD v :: chn es dl q (((row es v).find? (fun w => rd dl w == ((q + 1 : Nat) : Int))).getD v)
theorem chn_len (dl : List Int) : ∀ (q : Nat) (v : Int), (chn es dl q v).length = q := by
 intro q
 induction q with
 | zero => intro v; rfl
 | succ q ih => intro v; rw [chn, List.length_cons, ih]
theorem chain_ev (names : List ByteArray) (hvld : Vld es) (hn : es.length <= 60) (hr : ∀ v, nd es v -> (row es v).length <= 2000) {dl : List Int} (hdl : dl.length = es.length) :
 ∀ (q : Nat) (v : Int) (out : List Int), nd es v -> q <= 60 -> out.length + q <= 1000 -> Ev (fun k => p_cycle.l2 k dl out v (q : Int) names es) (out ++ chn es dl q v) := by
 intro q
 induction q with
 | zero =>
  intro v out hv _ _
  rw [chn, List.append_nil]
  refine Ev.step (fun k => ?_) (Ev.now _)
  simp only [p_cycle.l2]
  rw [if_neg (by omega)]
 | succ q ih =>
  intro v out hv hq ho
  have hrv := hr v hv
  have hwq : wrap64 (((q + 1 : Nat) : Int) - 1) = (q : Int) := by rw [w64 _ (by omega) (by omega)]; omega
  have inner : ∀ (m j : Nat), j + m = (row es v).length -> Ev (fun k => p_cycle.l3 k dl out v ((q + 1 : Nat) : Int) (row es v) ((row es v).length : Int) j names es)
   (out ++ (((row es v).drop j).find? (fun w => rd dl w == ((q + 1 : Nat) : Int))).getD v :: chn es dl q ((((row es v).drop j).find? (fun w => rd dl w == ((q + 1 : Nat) : Int))).getD v)) := by
   intro m
   induction m with
   | zero =>
    intro j hj
    rw [List.drop_eq_nil_of_le (by omega), List.find?_nil, Option.getD_none]
    have h := ih v (out ++ [v]) hv (by omega) (by rw [List.length_append, List.length_singleton]; omega)
    rw [List.append_assoc, List.singleton_append] at h
    refine Ev.step (fun k => ?_) h
    simp only [p_cycle.l3]
    rw [if_neg (by omega), if_pos (by omega), hwq]
   | succ m ihm =>
    intro j hj
    have hwm : rd (row es v) j ∈ row es v := by rw [rd_at _ j (by omega)]; exact List.getElem_mem _
    have hw := hvld v hv _ hwm
    have hwl : rd (row es v) j < (dl.length : Int) := by rw [hdl]; exact hw.2
    rw [drop_row _ j (by omega)]
    by_cases c : rd dl (rd (row es v) j) = ((q + 1 : Nat) : Int)
    rotate_left
    · rw [List.find?_cons_of_neg (by simpa using c)]
      refine Ev.step (fun k => ?_) (ihm (j + 1) (by omega))
      simp only [p_cycle.l3]
      rw [if_pos (by omega), if_pos (by omega), if_pos (by omega), if_pos hw.1, if_pos hwl, if_neg c, succ_cast j (by omega)]
    rw [List.find?_cons_of_pos (by simpa using c), Option.getD_some]
    have h := ih (rd (row es v) j) (out ++ [rd (row es v) j]) hw (by omega) (by rw [List.length_append, List.length_singleton]; omega)
    rw [List.append_assoc, List.singleton_append] at h
    refine Ev.step (fun k => ?_) h
    simp only [p_cycle.l3]
    rw [if_pos (by omega), if_pos (by omega), if_pos (by omega), if_pos hw.1, if_pos hwl, if_pos c, if_pos (by omega), hwq]
  have h := inner (row es v).length 0 (by omega)
  rw [List.drop_zero] at h
  refine Ev.step (fun k => ?_) h
  simp only [p_cycle.l2]
  rw [if_pos (by omega), if_pos hv.1, if_pos hv.2, L1_row]
  rfl
theorem cycle_ev (names : List ByteArray) (hvld : Vld es) (hn : es.length <= 60) (hr : ∀ v, nd es v -> (row es v).length <= 2000) (hnl : names.length = es.length) :
 ((∀ u, nd es u -> ∀ m, ¬ Cy es u m) /\ Ev (fun k => p_cycle.f k names es) []) \/
 ∃ b s dl, Gi es b s /\ b <= es.length /\ DL es s dl /\ Ev (fun k => p_cycle.f k names es) (s :: chn es dl (b - 1) s) := by
 have outer : ∀ (m v : Nat), v + m = es.length -> ∀ b s, CI es v b s ->
  ((∀ u, nd es u -> ∀ m, ¬ Cy es u m) /\ Ev (fun k => p_cycle.l0 k b s (es.length : Int) v names es) []) \/
  ∃ b' s' dl, Gi es b' s' /\ b' <= es.length /\ DL es s' dl /\ Ev (fun k => p_cycle.l0 k b s (es.length : Int) v names es) (s' :: chn es dl (b' - 1) s') := by
  intro m
  induction m with
  | zero =>
   intro v hv b s h
   rcases h with ⟨rfl, h⟩ | ⟨h1, h2, h3, h4, h5, h6⟩
   · refine .inl ⟨fun u hu => h u hu (by have := hu.2; omega), Ev.step (fun k => ?_) (Ev.now _)⟩
     simp only [p_cycle.l0]
     rw [if_neg (by omega), if_pos (by omega)]
   · obtain ⟨dl, g1, g2⟩ := dist_ev names hvld hn hr hnl h1
     refine .inr ⟨b.toNat, s, dl, ⟨h1, h5, fun u hu m hm => ?_⟩, by omega, g1, ?_⟩
     · obtain ⟨k1, k2⟩ := h6 u hu (by have := hu.2; omega) m hm
       exact ⟨by omega, fun e => k2 (by omega)⟩
     · have h := chain_ev names hvld hn hr g1.len (b.toNat - 1) s [s] h1 (by omega) (by simp; omega)
       rw [List.singleton_append] at h
       refine Ev.step (fun k => ?_) (Ev.bind g2 (f := fun k t => p_cycle.l2 k t [s] s ((b.toNat - 1 : Nat) : Int) names es) h)
       simp only [p_cycle.l0]
       rw [if_neg (by omega), if_neg (by have := h1.1; omega), w64 (b - 1) (by omega) (by omega), show ((b.toNat - 1 : Nat) : Int) = b - 1 by omega]
  | succ m ih =>
   intro v hv b s h
   have hvn : nd es (v : Int) := ⟨by omega, by omega⟩
   have hrv := hr v hvn
   obtain ⟨d, D, De⟩ := dist_ev names hvld hn hr hnl hvn
   have inner : ∀ (q j : Nat), j + q = (row es v).length -> ∀ b s, CJ es v j b s ->
    ((∀ u, nd es u -> ∀ m, ¬ Cy es u m) /\ Ev (fun k => p_cycle.l1 k b s v d (es.length : Int) v (row es v) ((row es v).length : Int) j names es) []) \/
    ∃ b' s' dl, Gi es b' s' /\ b' <= es.length /\ DL es s' dl /\ Ev (fun k => p_cycle.l1 k b s v d (es.length : Int) v (row es v) ((row es v).length : Int) j names es) (s' :: chn es dl (b' - 1) s') := by
    intro q
    induction q with
    | zero =>
     intro j hj b s h
     have hci : CI es (v + 1) b s := by
      rcases h with ⟨rfl, h1, h2⟩ | ⟨h1, h2, h3, h4, h5, h6, h7⟩
      · refine .inl ⟨rfl, fun u hu huv m hm => ?_⟩
        by_cases e : u < v
        · exact h1 u hu e m hm
        have e2 : u = v := by omega
        subst e2
        obtain ⟨q, rfl, w, hw, hq⟩ := cy_iff.1 hm
        exact h2 w (by rw [List.take_of_length_le (by omega)]; exact hw) q hq
      · refine .inr ⟨h1, by omega, h3, h4, h5, fun u hu huv m hm => ?_⟩
        by_cases e : u < v
        · exact h6 u hu e m hm
        have e2 : u = v := by omega
        subst e2
        obtain ⟨q, rfl, w, hw, hq⟩ := cy_iff.1 hm
        have := h7 w (by rw [List.take_of_length_le (by omega)]; exact hw) q hq
        exact ⟨by omega, fun _ => by omega⟩
     have hstep : ∀ r, Ev (fun k => p_cycle.l0 k b s (es.length : Int) ((v + 1 : Nat) : Int) names es) r -> Ev (fun k => p_cycle.l1 k b s v d (es.length : Int) v (row es v) ((row es v).length : Int) j names es) r := fun r h => by
      refine Ev.step (fun k => ?_) h
      simp only [p_cycle.l1]
      rw [if_neg (by omega), succ_cast v (by omega)]
     rcases ih (v + 1) (by omega) b s hci with ⟨g1, g2⟩ | ⟨b', s', dl, g1, g2, g3, g4⟩
     · exact .inl ⟨g1, hstep _ g2⟩
     · exact .inr ⟨b', s', dl, g1, g2, g3, hstep _ g4⟩
    | succ q ihq =>
     intro j hj b s h
     have hwm : rd (row es v) j ∈ row es v := by rw [rd_at _ j (by omega)]; exact List.getElem_mem _
     have hw := hvld v hvn _ hwm
     have hwl : rd (row es v) j < (d.length : Int) := by rw [D.len]; exact hw.2
     have hup := D.up _ hw
     have htk : (row es v).take (j + 1) = (row es v).take j ++ [rd (row es v) j] := by
      rw [List.take_succ_eq_append_getElem (by omega), rd_at _ j (by omega)]
     have go : ∀ (b2 s2 : Int), CJ es v (j + 1) b2 s2 -> (∀ k, p_cycle.l1 (k + 1) b s v d (es.length : Int) v (row es v) ((row es v).length : Int) j names es = p_cycle.l1 k b2 s2 v d (es.length : Int) v (row es v) ((row es v).length : Int) ((j + 1 : Nat) : Int) names es) ->
      ((∀ u, nd es u -> ∀ m, ¬ Cy es u m) /\ Ev (fun k => p_cycle.l1 k b s v d (es.length : Int) v (row es v) ((row es v).length : Int) j names es) []) \/
      ∃ b' s' dl, Gi es b' s' /\ b' <= es.length /\ DL es s' dl /\ Ev (fun k => p_cycle.l1 k b s v d (es.length : Int) v (row es v) ((row es v).length : Int) j names es) (s' :: chn es dl (b' - 1) s') := by
      intro b2 s2 hc hs
      rcases ihq (j + 1) (by omega) b2 s2 hc with ⟨g1, g2⟩ | ⟨b', s', dl, g1, g2, g3, g4⟩
      · exact .inl ⟨g1, Ev.step hs g2⟩
      · exact .inr ⟨b', s', dl, g1, g2, g3, Ev.step hs g4⟩
     by_cases c1 : rd d (rd (row es v) j) >= 0
     rotate_left
     · have d1 := (D.non _ hw (by omega)).2
       refine go b s ?_ (fun k => ?_)
       · rcases h with ⟨rfl, h1, h2⟩ | ⟨h1, h2, h3, h4, h5, h6, h7⟩
         · refine .inl ⟨rfl, h1, fun w hw2 m hm => ?_⟩
           rw [htk, List.mem_append, List.mem_singleton] at hw2
           rcases hw2 with hw2 | rfl
           · exact h2 w hw2 m hm
           · exact d1 m hm
         · refine .inr ⟨h1, h2, h3, h4, h5, h6, fun w hw2 m hm => ?_⟩
           rw [htk, List.mem_append, List.mem_singleton] at hw2
           rcases hw2 with hw2 | rfl
           · exact h7 w hw2 m hm
           · exact absurd hm (d1 m)
       · simp only [p_cycle.l1]
         rw [if_pos (by omega), if_pos (by omega), if_pos (by omega), if_pos hw.1, if_pos hwl, if_neg c1, succ_cast j (by omega)]
     have hw64 : wrap64 (rd d (rd (row es v) j) + 1) = rd d (rd (row es v) j) + 1 := w64 _ (by omega) (by omega)
     obtain ⟨d1, d2⟩ := D.has _ hw c1
     have hcy : Cy es v (rd d (rd (row es v) j) + 1).toNat := cy_iff.2 ⟨(rd d (rd (row es v) j)).toNat, by omega, _, hwm, d1⟩
     by_cases c2 : s < 0
     · have hs : s = -1 /\ (∀ u, nd es u -> u < v -> ∀ m, ¬ Cy es u m) /\ ∀ w ∈ (row es v).take j, ∀ m, ¬ Wk es m w v := by
        rcases h with h | ⟨h1, _⟩
        · exact h
        · have := h1.1; omega
       refine go (rd d (rd (row es v) j) + 1) v (.inr ⟨hvn, Int.le_refl _, by omega, by omega, hcy, fun u hu huv m hm => absurd hm (hs.2.1 u hu huv m), fun w hw2 m hm => ?_⟩) (fun k => ?_)
       · rw [htk, List.mem_append, List.mem_singleton] at hw2
         rcases hw2 with hw2 | rfl
         · exact absurd hm (hs.2.2 w hw2 m)
         · have := d2 m hm; omega
       · simp only [p_cycle.l1]
         rw [if_pos (by omega), if_pos (by omega), if_pos (by omega), if_pos hw.1, if_pos hwl, if_pos c1, if_pos c2, hw64, succ_cast j (by omega)]
     have hs : nd es s /\ s <= v /\ 1 <= b /\ b <= es.length /\ Cy es s b.toNat /\ (∀ u, nd es u -> u < v -> ∀ m, Cy es u m -> b <= m /\ (m = b -> s <= u)) /\ ∀ w ∈ (row es v).take j, ∀ m : Nat, Wk es m w v -> b <= m + 1 := by
      rcases h with ⟨h, _⟩ | h
      · omega
      · exact h
     obtain ⟨h1, h2, h3, h4, h5, h6, h7⟩ := hs
     by_cases c3 : rd d (rd (row es v) j) + 1 < b
     rotate_left
     · refine go b s (.inr ⟨h1, h2, h3, h4, h5, h6, fun w hw2 m hm => ?_⟩) (fun k => ?_)
       · rw [htk, List.mem_append, List.mem_singleton] at hw2
         rcases hw2 with hw2 | rfl
         · exact h7 w hw2 m hm
         · have := d2 m hm; omega
       · simp only [p_cycle.l1]
         rw [if_pos (by omega), if_pos (by omega), if_pos (by omega), if_pos hw.1, if_pos hwl, if_pos c1, if_neg c2, hw64, if_neg c3, succ_cast j (by omega)]
     refine go (rd d (rd (row es v) j) + 1) v (.inr ⟨hvn, Int.le_refl _, by omega, by omega, hcy, fun u hu huv m hm => ?_, fun w hw2 m hm => ?_⟩) (fun k => ?_)
     · have := (h6 u hu huv m hm).1
       exact ⟨by omega, fun e => by omega⟩
     · rw [htk, List.mem_append, List.mem_singleton] at hw2
       rcases hw2 with hw2 | rfl
       · have := h7 w hw2 m hm; omega
       · have := d2 m hm; omega
     · simp only [p_cycle.l1]
       rw [if_pos (by omega), if_pos (by omega), if_pos (by omega), if_pos hw.1, if_pos hwl, if_pos c1, if_neg c2, hw64, if_pos c3, succ_cast j (by omega)]
   have hcj : CJ es v 0 b s := by
    rcases h with ⟨rfl, h⟩ | ⟨h1, h2, h3, h4, h5, h6⟩
    · exact .inl ⟨rfl, h, fun w hw => by simp at hw⟩
    · exact .inr ⟨h1, by omega, h3, h4, h5, h6, fun w hw => by simp at hw⟩
   have hstep : ∀ r, Ev (fun k => p_cycle.l1 k b s v d (es.length : Int) v (row es v) ((row es v).length : Int) ((0 : Nat) : Int) names es) r -> Ev (fun k => p_cycle.l0 k b s (es.length : Int) v names es) r := fun r h => by
    refine Ev.step (fun k => ?_) (Ev.bind De (f := fun k t => p_cycle.l1 k b s v t (es.length : Int) v (row es v) ((row es v).length : Int) ((0 : Nat) : Int) names es) h)
    simp only [p_cycle.l0]
    rw [if_pos (by omega)]
    congr 1
    funext t
    rw [if_pos (by omega), if_pos (by omega), L1_row]
    rfl
   rcases inner (row es v).length 0 (by omega) b s hcj with ⟨g1, g2⟩ | ⟨b', s', dl, g1, g2, g3, g4⟩
   · exact .inl ⟨g1, hstep _ g2⟩
   · exact .inr ⟨b', s', dl, g1, g2, g3, hstep _ g4⟩
 have hf : ∀ k, p_cycle.f k names es = p_cycle.l0 k 0 (-1) (es.length : Int) ((0 : Nat) : Int) names es := fun k => by
  unfold p_cycle.f
  rw [hnl]
  rfl
 rcases outer es.length 0 (by omega) 0 (-1) (.inl ⟨rfl, fun u hu h0 => by have := hu.1; omega⟩) with ⟨g1, g2⟩ | ⟨b', s', dl, g1, g2, g3, g4⟩
 · exact .inl ⟨g1, Ev.congr hf g2⟩
 · exact .inr ⟨b', s', dl, g1, g2, g3, Ev.congr hf g4⟩
end
section
variable {l : List S42}
theorem VL.len (G : Good l) {L : List Int} (hL : VL l L) (hp : L.Pairwise (· < ·)) : L.length <= l.length :=
 nodup_le l.length L (hp.imp (fun h e => by subst e; omega)) hL
theorem back_l2 (G : Good l) {b : Int} (hb0 : 0 <= b) (hb1 : b < l.length) {x : Int} (hx0 : 0 <= x) (hx1 : x < l.length) (N i c : Int) (R : List ByteArray) (r : Bool) : ∀ (m j : Nat) (T : List Int), j + m = (row (edgesOf l) x).length -> VL l T -> T.Pairwise (· < ·) ->
 (b ∈ (row (edgesOf l) x).drop j -> r = true) ->
 (b ∉ (row (edgesOf l) x).drop j -> ∀ T', VL l T' -> T'.Pairwise (· < ·) -> (∀ y, y ∈ T' ↔ y ∈ T \/ y ∈ (row (edgesOf l) x).drop j) -> Ev (fun k => r_back.l1 k l (nb l b) N R i (T'.map (nb l)) (wrap64 (c + 1))) r) ->
 Ev (fun k => r_back.l2 k l (nb l b) N R i (T.map (nb l)) c ((row (edgesOf l) x).map (nb l)) j) r := by
 have hr := row_len G hx0 hx1
 have hvr := VL.row G hx0 hx1
 intro m
 induction m with
 | zero =>
  intro j T hj hT hp _ h2
  rw [List.drop_eq_nil_of_le (by omega)] at h2
  refine Ev.step (fun k => ?_) (h2 (by simp) T hT hp (by simp))
  simp only [r_back.l2]
  rw [if_neg (by rw [List.length_map]; omega)]
 | succ m ih =>
  intro j T hj hT hp h1 h2
  have hj2 : j < (row (edgesOf l) x).length := by omega
  have hw := hvr (rd (row (edgesOf l) x) j) (by rw [rd_at _ j hj2]; exact List.getElem_mem _)
  rw [drop_row _ j hj2] at h1 h2
  by_cases e : rd (row (edgesOf l) x) j = b
  · rw [h1 (by rw [e]; simp)]
    refine Ev.step (fun k => ?_) (Ev.now _)
    simp only [r_back.l2]
    rw [if_pos (by rw [List.length_map]; omega), if_pos (by omega), rd_strs j hj2, if_pos (by rw [e])]
  have hi := ins_at G hT hw.1 hw.2 (by have := VL.len G hT hp; have := G.len; omega)
  have hne : (nb l (rd (row (edgesOf l) x) j)).toList ≠ (nb l b).toList := fun h => e (nb_inj G hw.1 hw.2 hb0 hb1 ((toL_iff _ _).1 h))
  have hrec := ih (j + 1) (insI (rd (row (edgesOf l) x) j) T) (by omega) (hT.insI hw.1 hw.2) (insI_lt _ hp) (fun h => h1 (List.mem_cons_of_mem _ h)) (fun h T' hT' hp' hm' => h2 (by
   rw [List.mem_cons, not_or]; exact ⟨fun h => e h.symm, h⟩) T' hT' hp' (fun y => by
    rw [hm' y, mem_insI, List.mem_cons]
    constructor
    · rintro ((h | h) | h)
      · exact .inr (.inl h)
      · exact .inl h
      · exact .inr (.inr h)
    · rintro (h | h | h)
      · exact .inl (.inr h)
      · exact .inl (.inl h)
      · exact .inr h))
  refine Ev.step (fun k => ?_) (Ev.bind hi (f := fun k t => r_back.l2 k l (nb l b) N R i t c ((row (edgesOf l) x).map (nb l)) ((j + 1 : Nat) : Int)) hrec)
  simp only [r_back.l2]
  rw [if_pos (by rw [List.length_map]; omega), if_pos (by omega), rd_strs j hj2, if_neg hne, succ_cast j (by omega)]
theorem back_ev (G : Good l) {a b : Int} (ha0 : 0 <= a) (ha1 : a < l.length) (hb0 : 0 <= b) (hb1 : b < l.length) (N : Int) (hN : N <= 100) :
 Ev (fun k => r_back.f k l (nb l a) (nb l b) N) (decide (∃ m : Nat, 1 <= m /\ (m : Int) <= N + 1 /\ Wk (edgesOf l) m a b)) := by
 have hlen := G.len
 have outer : ∀ (M i : Nat) (R : List Int), (i : Int) + M = max (i : Int) (N + 1) -> VL l R -> R.Pairwise (· < ·) -> (∀ y, y ∈ R ↔ ∃ m ≤ i, Wk (edgesOf l) m a y) -> (∀ m : Nat, 1 <= m -> m <= i -> ¬ Wk (edgesOf l) m a b) ->
  Ev (fun k => r_back.l0 k l (nb l b) N (R.map (nb l)) i) (decide (∃ m : Nat, 1 <= m /\ (m : Int) <= N + 1 /\ Wk (edgesOf l) m a b)) := by
  intro M
  induction M with
  | zero =>
   intro i R hi hR hp hm hno
   rw [decide_eq_false (by rintro ⟨m, h1, h2, h3⟩; exact hno m h1 (by omega) h3)]
   refine Ev.step (fun k => ?_) (Ev.now _)
   simp only [r_back.l0]
   rw [if_neg (by omega)]
  | succ M ih =>
   intro i R hi hR hp hm hno
   have hRl := VL.len G hR hp
   have mid : ∀ (q c : Nat) (T : List Int), c + q = R.length -> VL l T -> T.Pairwise (· < ·) -> (∀ y, y ∈ T ↔ ∃ x ∈ R.take c, y = x \/ y ∈ row (edgesOf l) x) -> (∀ x ∈ R.take c, b ∉ row (edgesOf l) x) ->
    Ev (fun k => r_back.l1 k l (nb l b) N (R.map (nb l)) i (T.map (nb l)) c) (decide (∃ m : Nat, 1 <= m /\ (m : Int) <= N + 1 /\ Wk (edgesOf l) m a b)) := by
    intro q
    induction q with
    | zero =>
     intro c T hc hT hTp hTm hTb
     rw [List.take_of_length_le (by omega)] at hTm hTb
     refine Ev.step (fun k => ?_) (ih (i + 1) T (by omega) hT hTp (fun y => ?_) (fun m h1 h2 h3 => ?_))
     · simp only [r_back.l1]
       rw [if_neg (by rw [List.length_map]; omega), succ_cast i (by omega)]
     · rw [hTm y]
       constructor
       · rintro ⟨x, hx, h⟩
         obtain ⟨m, h1, h2⟩ := (hm x).1 hx
         rcases h with rfl | h
         · exact ⟨m, by omega, h2⟩
         · exact ⟨m + 1, by omega, wk_add h2 (wk_one h)⟩
       · rintro ⟨m, h1, h2⟩
         by_cases e : m <= i
         · exact ⟨y, (hm y).2 ⟨m, e, h2⟩, .inl rfl⟩
         obtain ⟨p, rfl⟩ : ∃ p, m = p + 1 := ⟨m - 1, by omega⟩
         obtain ⟨x, h3, h4⟩ := wk_split h2
         obtain ⟨z, hz, h5⟩ := h4
         have h6 : z = y := h5
         exact ⟨x, (hm x).2 ⟨p, by omega, h3⟩, .inr (h6 ▸ hz)⟩
     · by_cases e : m <= i
       · exact hno m h1 e h3
       · obtain ⟨p, rfl⟩ : ∃ p, m = p + 1 := ⟨m - 1, by omega⟩
         obtain ⟨x, h4, z, hz, h5⟩ := wk_split h3
         have h6 : z = b := h5
         exact hTb x ((hm x).2 ⟨p, by omega, h4⟩) (h6 ▸ hz)
    | succ q ihq =>
     intro c T hc hT hTp hTm hTb
     have hc2 : c < R.length := by omega
     have hxm : rd R c ∈ R := by rw [rd_at _ c hc2]; exact List.getElem_mem _
     have hx := hR _ hxm
     have htk : R.take (c + 1) = R.take c ++ [rd R c] := by rw [List.take_succ_eq_append_getElem hc2, rd_at _ c hc2]
     have hi1 := ins_at G hT hx.1 hx.2 (by have := VL.len G hT hTp; omega)
     have hi2 := imps_at G hx.1 hx.2
     have hi3 := back_l2 G hb0 hb1 hx.1 hx.2 N i c (R.map (nb l)) (decide (∃ m : Nat, 1 <= m /\ (m : Int) <= N + 1 /\ Wk (edgesOf l) m a b)) (row (edgesOf l) (rd R c)).length 0 (insI (rd R c) T) (by omega) (hT.insI hx.1 hx.2) (insI_lt _ hTp)
      (fun h => by
       rw [List.drop_zero] at h
       obtain ⟨m, h1, h2⟩ := (hm _).1 hxm
       exact decide_eq_true ⟨m + 1, by omega, by omega, wk_add h2 (wk_one h)⟩)
      (fun h T' hT' hp' hm' => by
       rw [List.drop_zero] at h hm'
       have := ihq (c + 1) T' (by omega) hT' hp' (fun y => by
        rw [hm' y, mem_insI, hTm y, htk]
        simp only [List.mem_append, List.mem_singleton]
        constructor
        · rintro ((h | ⟨x, hx, h⟩) | h)
          · exact ⟨_, .inr rfl, .inl h⟩
          · exact ⟨x, .inl hx, h⟩
          · exact ⟨_, .inr rfl, .inr h⟩
        · rintro ⟨x, hx | rfl, h⟩
          · exact .inl (.inr ⟨x, hx, h⟩)
          · rcases h with h | h
            · exact .inl (.inl h)
            · exact .inr h) (fun x hx2 => by
        rw [htk, List.mem_append, List.mem_singleton] at hx2
        rcases hx2 with hx2 | rfl
        · exact hTb x hx2
        · exact h)
       rw [succ_cast c (by omega)]
       exact this)
     refine Ev.step (fun k => ?_) (Ev.bind hi1 (f := fun k t => (r_Imports.f k l (nb l (rd R c))).bind fun t2 => r_back.l2 k l (nb l b) N (R.map (nb l)) i t c t2 0) (Ev.bind hi2 (f := fun k t2 => r_back.l2 k l (nb l b) N (R.map (nb l)) i ((insI (rd R c) T).map (nb l)) c t2 0) hi3))
     simp only [r_back.l1]
     rw [if_pos (by rw [List.length_map]; omega), if_pos (by omega), rd_strs c hc2]
   refine Ev.step (fun k => ?_) (mid R.length 0 [] (by omega) (fun x hx => by cases hx) List.Pairwise.nil (by simp) (by simp))
   simp only [r_back.l0]
   rw [if_pos (by omega)]
   rfl
 have h := outer (N + 1).toNat 0 [a] (by omega) (fun x hx => by rw [List.mem_singleton] at hx; subst hx; exact ⟨ha0, ha1⟩) (by simp) (fun y => by
  rw [List.mem_singleton]
  constructor
  · rintro rfl; exact ⟨0, Nat.le_refl _, rfl⟩
  · rintro ⟨m, h1, h2⟩
    obtain rfl : m = 0 := by omega
    have h3 : a = y := h2
    exact h3.symm) (fun m h1 h2 => by omega)
 exact h
end
section
variable {l : List S42}
theorem paths_none (G : Good l) {s : Int} (h0 : 0 <= s) (h1 : s < l.length) (N : Nat) (hN1 : 1 <= N) (hN : N <= 40) (hno : ∀ m : Nat, 1 <= m -> m <= N -> ¬ Wk (edgesOf l) m s s) :
 Ev (fun k => r_paths.f k l [nb l s] (N : Int)) [] := by
 have hlen := G.len
 have hr := row_len G h0 h1
 have hvr := VL.row G h0 h1
 have hsn : s ∉ row (edgesOf l) s := fun h => hno 1 (by omega) hN1 (wk_one h)
 have loop : ∀ (m j : Nat), j + m = (row (edgesOf l) s).length -> Ev (fun k => r_paths.l0 k l [nb l s] (N : Int) ((row (edgesOf l) s).map (nb l)) j) [] := by
  intro m
  induction m with
  | zero =>
   intro j hj
   refine Ev.step (fun k => ?_) (Ev.step (g := fun k => r_paths.j1 k l [nb l s] (N : Int) ((row (edgesOf l) s).map (nb l)) j false) (fun k => ?_) (Ev.now _))
   · simp only [r_paths.l0]
     rw [if_neg (by rw [List.length_map]; omega)]
   · simp only [r_paths.j1]
     rw [if_neg (by simp)]
  | succ m ih =>
   intro j hj
   have hj2 : j < (row (edgesOf l) s).length := by omega
   have hwm : rd (row (edgesOf l) s) j ∈ row (edgesOf l) s := by rw [rd_at _ j hj2]; exact List.getElem_mem _
   have hw := hvr _ hwm
   have hhas := has_at G (L := [s]) (fun x hx => by rw [List.mem_singleton] at hx; subst hx; exact ⟨h0, h1⟩) hw.1 hw.2 (by simp)
   rw [decide_eq_false (by rw [List.mem_singleton]; intro e; have h' := hwm; rw [e] at h'; exact hsn h')] at hhas
   have hback := back_ev G hw.1 hw.2 h0 h1 ((N : Int) - 1 - 1) (by omega)
   rw [decide_eq_false (by rintro ⟨q, q1, q2, q3⟩; exact hno (q + 1) (by omega) (by omega) ⟨_, hwm, q3⟩)] at hback
   by_cases hN2 : N = 1
   · refine Ev.step (fun k => ?_) (Ev.step (g := fun k => r_paths.j1 k l [nb l s] (N : Int) ((row (edgesOf l) s).map (nb l)) j false) (fun k => ?_) (Ev.now _))
     · simp only [r_paths.l0]
       rw [if_pos (by rw [List.length_map]; omega), decide_eq_false (by simp; omega)]
     · simp only [r_paths.j1]
       rw [if_neg (by simp)]
   have hj2' : Ev (fun k => r_paths.j2 k l [nb l s] (N : Int) ((row (edgesOf l) s).map (nb l)) j true) [] := by
    refine Ev.step (fun k => ?_) (ih (j + 1) (by omega))
    simp only [r_paths.j2]
    rw [if_pos trivial, succ_cast j (by omega)]
   refine Ev.step (fun k => ?_) (Ev.step (g := fun k => r_paths.j1 k l [nb l s] (N : Int) ((row (edgesOf l) s).map (nb l)) j true) (fun k => ?_) (Ev.bind hhas (f := fun k t => if t = true then r_paths.j2 k l [nb l s] (N : Int) ((row (edgesOf l) s).map (nb l)) j true else (r_back.f k l (nb l (rd (row (edgesOf l) s) j)) (nb l s) ((N : Int) - 1 - 1)).bind fun t2 => r_paths.j2 k l [nb l s] (N : Int) ((row (edgesOf l) s).map (nb l)) j (!t2)) (Ev.bind hback (f := fun k t2 => r_paths.j2 k l [nb l s] (N : Int) ((row (edgesOf l) s).map (nb l)) j (!t2)) hj2')))
   · simp only [r_paths.l0]
     rw [if_pos (by rw [List.length_map]; omega), decide_eq_true (by simp; omega)]
   · simp only [r_paths.j1]
     rw [if_pos trivial, if_pos (by omega), if_pos (by rw [List.length_map]; omega), rd_strs j hj2]
     congr 1
     funext t
     have e1 : wrap64 ((wrap64 ((N : Int) - ((([nb l s] : List ByteArray).length : Nat) : Int))) - 1) = (N : Int) - 1 - 1 := by
      rw [List.length_singleton, w64 ((N : Int) - (1 : Nat)) (by omega) (by omega), w64 _ (by omega) (by omega)]
      omega
     rw [e1, if_pos (show (0 : Int) < ((([nb l s] : List ByteArray).length : Nat) : Int) by simp)]
     rfl
 have hh := has_at G hvr h0 h1 (by omega)
 rw [decide_eq_false hsn] at hh
 refine Ev.step (fun k => ?_) (Ev.bind (imps_at G h0 h1) (f := fun k t => (q_Has.f k t (nb l s)).bind fun t2 => if t2 = true then some [nb l s] else r_paths.l0 k l [nb l s] (N : Int) t ((0 : Nat) : Int)) (Ev.bind hh (f := fun k t2 => if t2 = true then some [nb l s] else r_paths.l0 k l [nb l s] (N : Int) ((row (edgesOf l) s).map (nb l)) ((0 : Nat) : Int)) (loop _ 0 (Nat.zero_add _))))
 simp only [r_paths.f]
 have e0 : wrap64 (((([nb l s] : List ByteArray).length : Nat) : Int) - 1) = 0 := by rw [List.length_singleton, w64 _ (by omega) (by omega)]; omega
 rw [e0, if_pos (by omega), if_pos (by simp)]
 have e1 : rdOf ByteArray.empty [nb l s] 0 = nb l s := rfl
 rw [e1]
 congr 1
theorem paths_walk (G : Good l) {b : Nat} {s : Int} (g : Gi (edgesOf l) b s) (hb : b <= l.length) {dl : List Int} (D : DL (edgesOf l) s dl) :
 ∀ (q : Nat) (path : List Int) (v : Int), path.length + q = b -> VL l path -> path.head? = some s -> path.getLast? = some v -> (∀ i : Nat, (h : i < path.length) -> Wk (edgesOf l) i s path[i]) -> Wk (edgesOf l) (q + 1) v s ->
  Ev (fun k => r_paths.f k l (path.map (nb l)) (b : Int)) ((path ++ chn (edgesOf l) dl q v).map (nb l)) := by
 have hlen := G.len
 have hvld := es_vld G
 have hsn := g.nds
 have hs0 : 0 <= s := hsn.1
 have hs1 : s < l.length := by have := hsn.2; rw [es_len G] at this; exact this
 have hmin : ∀ m : Nat, 1 <= m -> Wk (edgesOf l) m s s -> b <= m := fun m h1 h2 => (g.min s hsn m ⟨h1, h2⟩).1
 intro q
 induction q with
 | zero =>
  intro path v hq hv hhd hlast hwk hend
  have hpl : 0 < path.length := by cases path with | nil => cases hhd | cons => simp
  have hvm : v ∈ path := List.mem_of_getLast? hlast
  have hv2 := hv v hvm
  obtain ⟨c, hc, hcs⟩ := hend
  have hcs2 : c = s := hcs
  rw [hcs2] at hc
  have hh := has_at G (VL.row G hv2.1 hv2.2) hs0 hs1 (by have := row_len G hv2.1 hv2.2; omega)
  rw [decide_eq_true hc] at hh
  rw [chn, List.append_nil]
  have eL : rdOf ByteArray.empty (path.map (nb l)) ((path.length : Int) - 1) = nb l v := by
   rw [show ((path.length : Int) - 1) = ((path.length - 1 : Nat) : Int) by omega, rd_strs _ (by omega), rd_at _ _ (by omega)]
   rw [List.getLast?_eq_getElem?, List.getElem?_eq_getElem (by omega)] at hlast
   rw [Option.some.inj hlast]
  have e0 : rdOf ByteArray.empty (path.map (nb l)) 0 = nb l s := by
   have := rd_strs (l := l) (L := path) 0 hpl
   rw [rd_at _ 0 hpl] at this
   cases path with
   | nil => cases hhd
   | cons p path => simp at hhd; subst hhd; exact this
  have ew : wrap64 (((path.map (nb l)).length : Int) - 1) = (path.length : Int) - 1 := by rw [List.length_map, w64 _ (by omega) (by omega)]
  refine Ev.step (fun k => ?_) (Ev.bind (imps_at G hv2.1 hv2.2) (f := fun k t => (q_Has.f k t (nb l s)).bind fun t2 => if t2 = true then some (path.map (nb l)) else r_paths.l0 k l (path.map (nb l)) (b : Int) t 0) (Ev.bind hh (f := fun k t2 => if t2 = true then some (path.map (nb l)) else r_paths.l0 k l (path.map (nb l)) (b : Int) ((row (edgesOf l) v).map (nb l)) 0) (Ev.now _)))
  simp only [r_paths.f]
  rw [ew, if_pos (by omega), if_pos (by rw [List.length_map]; omega), eL, e0]
  congr 1
  funext t
  rw [if_pos (by rw [List.length_map]; omega)]
 | succ q ih =>
  intro path v hq hv hhd hlast hwk hend
  have hpl : 0 < path.length := by cases path with | nil => cases hhd | cons => simp
  have hvm : v ∈ path := List.mem_of_getLast? hlast
  have hv2 := hv v hvm
  have hr := row_len G hv2.1 hv2.2
  have hvr := VL.row G hv2.1 hv2.2
  have hlast2 : path[path.length - 1]'(by omega) = v := by
   rw [List.getLast?_eq_getElem?, List.getElem?_eq_getElem (by omega)] at hlast
   exact Option.some.inj hlast
  have hwv : Wk (edgesOf l) (path.length - 1) s v := by
   have := hwk (path.length - 1) (by omega)
   rw [hlast2] at this
   exact this
  have hsnv : s ∉ row (edgesOf l) v := fun h => by
   have := hmin (path.length - 1 + 1) (by omega) (wk_add hwv (wk_one h))
   omega
  have hh := has_at G hvr hs0 hs1 (by omega)
  rw [decide_eq_false hsnv] at hh
  have eL : rdOf ByteArray.empty (path.map (nb l)) ((path.length : Int) - 1) = nb l v := by
   rw [show ((path.length : Int) - 1) = ((path.length - 1 : Nat) : Int) by omega, rd_strs _ (by omega), rd_at _ _ (by omega), hlast2]
  have e0 : rdOf ByteArray.empty (path.map (nb l)) 0 = nb l s := by
   have := rd_strs (l := l) (L := path) 0 hpl
   rw [rd_at _ 0 hpl] at this
   cases path with
   | nil => cases hhd
   | cons p path => simp at hhd; subst hhd; exact this
  have ew : wrap64 (((path.map (nb l)).length : Int) - 1) = (path.length : Int) - 1 := by rw [List.length_map, w64 _ (by omega) (by omega)]
  have hge : ∀ w ∈ row (edgesOf l) v, 0 <= rd dl w -> ((q + 1 : Nat) : Int) <= rd dl w := by
   intro w hw h0
   have hwn := hvld v ⟨hv2.1, by rw [es_len G]; exact hv2.2⟩ w hw
   obtain ⟨d1, d2⟩ := D.has w hwn h0
   have hpos : 0 < (rd dl w).toNat := by
    rcases Nat.eq_zero_or_pos (rd dl w).toNat with e | e
    · rw [e] at d1
      have e2 : w = s := d1
      exact absurd (e2 ▸ hw) hsnv
    · exact e
   have := hmin (path.length - 1 + 1 + (rd dl w).toNat) (by omega) (wk_add (wk_add hwv (wk_one hw)) d1)
   omega
  have hskip : ∀ w ∈ row (edgesOf l) v, rd dl w ≠ ((q + 1 : Nat) : Int) -> ¬ ∃ m : Nat, 1 <= m /\ (m : Int) <= ((b : Int) - path.length - 1) + 1 /\ Wk (edgesOf l) m w s := by
   rintro w hw hne ⟨m, m1, m2, m3⟩
   have hwn := hvld v ⟨hv2.1, by rw [es_len G]; exact hv2.2⟩ w hw
   by_cases h0 : rd dl w < 0
   · exact (D.non w hwn h0).2 m m3
   have h1 := hge w hw (by omega)
   have h2 := (D.has w hwn (by omega)).2 m m3
   omega
  have htake : ∀ w ∈ row (edgesOf l) v, rd dl w = ((q + 1 : Nat) : Int) -> w ∉ path /\ Wk (edgesOf l) (q + 1) w s := by
   intro w hw e
   have hwn := hvld v ⟨hv2.1, by rw [es_len G]; exact hv2.2⟩ w hw
   have d1 := (D.has w hwn (by omega)).1
   rw [e] at d1
   have d2 : Wk (edgesOf l) (q + 1) w s := by simpa using d1
   refine ⟨fun hp => ?_, d2⟩
   obtain ⟨i, hi, rfl⟩ := List.mem_iff_getElem.1 hp
   have := hmin (i + (q + 1)) (by omega) (wk_add (hwk i hi) d2)
   omega
  have hex : ∃ w ∈ row (edgesOf l) v, rd dl w = ((q + 1 : Nat) : Int) := by
   obtain ⟨c, hc, hcs⟩ := hend
   have hcn := hvld v ⟨hv2.1, by rw [es_len G]; exact hv2.2⟩ c hc
   have hc0 : 0 <= rd dl c := by
    rcases Int.lt_or_le (rd dl c) 0 with e | e
    · exact absurd hcs ((D.non c hcn e).2 _)
    · exact e
   have h1 := hge c hc hc0
   have h2 := (D.has c hcn hc0).2 _ hcs
   exact ⟨c, hc, by omega⟩
  have loop : ∀ (m j : Nat), j + m = (row (edgesOf l) v).length -> (∃ w ∈ (row (edgesOf l) v).drop j, rd dl w = ((q + 1 : Nat) : Int)) ->
   Ev (fun k => r_paths.l0 k l (path.map (nb l)) (b : Int) ((row (edgesOf l) v).map (nb l)) j)
    ((path ++ ((((row (edgesOf l) v).drop j).find? (fun w => rd dl w == ((q + 1 : Nat) : Int))).getD v :: chn (edgesOf l) dl q ((((row (edgesOf l) v).drop j).find? (fun w => rd dl w == ((q + 1 : Nat) : Int))).getD v))).map (nb l)) := by
   intro m
   induction m with
   | zero =>
    rintro j hj ⟨w, hw, _⟩
    rw [List.drop_eq_nil_of_le (by omega)] at hw
    cases hw
   | succ m ihm =>
    rintro j hj hw
    have hj2 : j < (row (edgesOf l) v).length := by omega
    have hwm : rd (row (edgesOf l) v) j ∈ row (edgesOf l) v := by rw [rd_at _ j hj2]; exact List.getElem_mem _
    have hwv2 := hvr _ hwm
    have hhas := has_at G hv hwv2.1 hwv2.2 (by omega)
    have hback := back_ev G hwv2.1 hwv2.2 hs0 hs1 ((b : Int) - path.length - 1) (by omega)
    have e1 : wrap64 ((wrap64 ((b : Int) - (((path.map (nb l)).length : Nat) : Int))) - 1) = (b : Int) - path.length - 1 := by
     rw [List.length_map, w64 ((b : Int) - (path.length : Nat)) (by omega) (by omega), w64 _ (by omega) (by omega)]
    have enter : ∀ r, Ev (fun k => r_paths.j2 k l (path.map (nb l)) (b : Int) ((row (edgesOf l) v).map (nb l)) j (if rd (row (edgesOf l) v) j ∈ path then true else !(decide (∃ m : Nat, 1 <= m /\ (m : Int) <= ((b : Int) - path.length - 1) + 1 /\ Wk (edgesOf l) m (rd (row (edgesOf l) v) j) s)))) r ->
     Ev (fun k => r_paths.l0 k l (path.map (nb l)) (b : Int) ((row (edgesOf l) v).map (nb l)) j) r := by
     intro r hrr
     have h2 : Ev (fun k => if decide (rd (row (edgesOf l) v) j ∈ path) = true then r_paths.j2 k l (path.map (nb l)) (b : Int) ((row (edgesOf l) v).map (nb l)) j true else (r_back.f k l (nb l (rd (row (edgesOf l) v) j)) (nb l s) ((b : Int) - path.length - 1)).bind fun t2 => r_paths.j2 k l (path.map (nb l)) (b : Int) ((row (edgesOf l) v).map (nb l)) j (!t2)) r := by
      by_cases hp : rd (row (edgesOf l) v) j ∈ path
      · rw [if_pos hp] at hrr
        simpa only [decide_eq_true hp, if_true] using hrr
      rw [if_neg hp] at hrr
      refine Ev.congr (fun k => ?_) (Ev.bind hback (f := fun k t2 => r_paths.j2 k l (path.map (nb l)) (b : Int) ((row (edgesOf l) v).map (nb l)) j (!t2)) hrr)
      rw [if_neg (by simpa using hp)]
     refine Ev.step (fun k => ?_) (Ev.step (g := fun k => r_paths.j1 k l (path.map (nb l)) (b : Int) ((row (edgesOf l) v).map (nb l)) j true) (fun k => ?_) (Ev.bind hhas (f := fun k t => if t = true then r_paths.j2 k l (path.map (nb l)) (b : Int) ((row (edgesOf l) v).map (nb l)) j true else (r_back.f k l (nb l (rd (row (edgesOf l) v) j)) (nb l s) ((b : Int) - path.length - 1)).bind fun t2 => r_paths.j2 k l (path.map (nb l)) (b : Int) ((row (edgesOf l) v).map (nb l)) j (!t2)) h2))
     · simp only [r_paths.l0]
       rw [if_pos (by rw [List.length_map]; omega), decide_eq_true (by rw [List.length_map]; omega)]
     · simp only [r_paths.j1]
       rw [if_pos trivial, if_pos (by omega), if_pos (by rw [List.length_map]; omega), rd_strs j hj2, e0, e1]
       congr 1
       funext t
       rw [if_pos (show (0 : Int) < (((path.map (nb l)).length : Nat) : Int) by rw [List.length_map]; omega)]
    rw [drop_row _ j hj2] at hw ⊢
    by_cases c : rd dl (rd (row (edgesOf l) v) j) = ((q + 1 : Nat) : Int)
    rotate_left
    · have hw2 : ∃ w ∈ (row (edgesOf l) v).drop (j + 1), rd dl w = ((q + 1 : Nat) : Int) := by
       obtain ⟨w, hw, e⟩ := hw
       rcases List.mem_cons.1 hw with rfl | hw
       · exact absurd e c
       · exact ⟨w, hw, e⟩
      rw [List.find?_cons_of_neg (by simpa using c)]
      refine enter _ ?_
      have hT : (if rd (row (edgesOf l) v) j ∈ path then true else !(decide (∃ m : Nat, 1 <= m /\ (m : Int) <= ((b : Int) - path.length - 1) + 1 /\ Wk (edgesOf l) m (rd (row (edgesOf l) v) j) s))) = true := by
       split
       · rfl
       · rw [decide_eq_false (hskip _ hwm c)]; rfl
      rw [hT]
      refine Ev.step (fun k => ?_) (ihm (j + 1) (by omega) hw2)
      simp only [r_paths.j2]
      rw [if_pos trivial, succ_cast j (by omega)]
    obtain ⟨t1, t2⟩ := htake _ hwm c
    rw [List.find?_cons_of_pos (by simpa using c), Option.getD_some]
    have hrec := ih (path ++ [rd (row (edgesOf l) v) j]) (rd (row (edgesOf l) v) j) (by rw [List.length_append, List.length_singleton]; omega) (fun x hx => by
     rw [List.mem_append, List.mem_singleton] at hx
     rcases hx with hx | rfl
     · exact hv x hx
     · exact hwv2) (by cases path with | nil => cases hhd | cons p path => simpa using hhd) (by simp) (fun i hi => by
       rw [List.length_append, List.length_singleton] at hi
       by_cases e : i < path.length
       · rw [List.getElem_append_left e]; exact hwk i e
       have e2 : i = path.length := by omega
       subst e2
       rw [List.getElem_append_right (Nat.le_refl _)]
       simp only [Nat.sub_self, List.getElem_cons_zero]
       have := wk_add hwv (wk_one hwm)
       rw [show path.length - 1 + 1 = path.length by omega] at this
       exact this) t2
    rw [List.append_assoc, List.singleton_append, List.map_append, List.map_cons, List.map_nil] at hrec
    refine enter _ ?_
    rw [if_neg t1, decide_eq_true ⟨q + 1, by omega, by omega, t2⟩]
    refine Ev.step (fun k => ?_) (Ev.bind hrec (f := fun k t => if (t.length : Int) > 0 then some t else r_paths.l0 k l (path.map (nb l)) (b : Int) ((row (edgesOf l) v).map (nb l)) ((j + 1 : Nat) : Int)) (Ev.congr (fun k => ?_) (Ev.now _)))
    · simp only [r_paths.j2]
      rw [if_neg (by simp), if_pos (by simp; omega), Option.bind_some, if_pos (by omega), if_pos (by rw [List.length_map]; omega), List.nil_append, if_pos (by rw [List.length_map]; omega), rd_strs j hj2, succ_cast j (by omega)]
    · rw [if_pos (by simp; omega)]
  have hloop := loop (row (edgesOf l) v).length 0 (by omega) (by rw [List.drop_zero]; exact hex)
  rw [List.drop_zero] at hloop
  rw [chn]
  refine Ev.step (fun k => ?_) (Ev.bind (imps_at G hv2.1 hv2.2) (f := fun k t => (q_Has.f k t (nb l s)).bind fun t2 => if t2 = true then some (path.map (nb l)) else r_paths.l0 k l (path.map (nb l)) (b : Int) t ((0 : Nat) : Int)) (Ev.bind hh (f := fun k t2 => if t2 = true then some (path.map (nb l)) else r_paths.l0 k l (path.map (nb l)) (b : Int) ((row (edgesOf l) v).map (nb l)) ((0 : Nat) : Int)) hloop))
  simp only [r_paths.f]
  rw [ew, if_pos (by omega), if_pos (by rw [List.length_map]; omega), eL, e0]
  congr 1
  funext t
  rw [if_pos (by rw [List.length_map]; omega)]
  rfl
end
section
variable {l : List S42}
theorem chn_vl (G : Good l) (dl : List Int) : ∀ (q : Nat) (v : Int), 0 <= v -> v < l.length -> VL l (chn (edgesOf l) dl q v) := by
 intro q
 induction q with
 | zero => intro v _ _ x hx; cases hx
 | succ q ih =>
  intro v h0 h1 x hx
  have hw : 0 <= (((row (edgesOf l) v).find? (fun w => rd dl w == ((q + 1 : Nat) : Int))).getD v) /\ (((row (edgesOf l) v).find? (fun w => rd dl w == ((q + 1 : Nat) : Int))).getD v) < l.length := by
   cases h : (row (edgesOf l) v).find? (fun w => rd dl w == ((q + 1 : Nat) : Int)) with
   | none => exact ⟨h0, h1⟩
   | some w => exact VL.row G h0 h1 w (List.mem_of_find?_eq_some h)
  rw [chn] at hx
  rcases List.mem_cons.1 hx with rfl | hx
  · exact hw
  · exact ih _ hw.1 hw.2 x hx
theorem refcycle_of (G : Good l) (C : List Int) (h : ((∀ u, nd (edgesOf l) u -> ∀ m, ¬ Cy (edgesOf l) u m) /\ C = []) \/ ∃ b s dl, Gi (edgesOf l) b s /\ b <= (edgesOf l).length /\ DL (edgesOf l) s dl /\ C = s :: chn (edgesOf l) dl (b - 1) s) (h0 : (consF l).1 = 0) :
 Ev (fun k => r_Cycle.f k l) (C.map (nb l)) := by
 have hlen := G.len
 have hil : (iota l.length).length = l.length := iota_length _
 have hrdi : ∀ i : Nat, i < l.length -> rdOf ByteArray.empty ((iota l.length).map (nb l)) (i : Int) = nb l (i : Int) := fun i hi => by
  rw [rd_strs i (by rw [hil]; exact hi), rd_at _ i (by rw [hil]; exact hi)]
  simp [iota]
 have hmain : Ev (fun k => r_Cycle.l0 k l ((iota l.length).map (nb l)) 1) (C.map (nb l)) := by
  have skip : ∀ (N : Nat), 1 <= N -> N <= l.length -> ∀ (m i t : Nat), i + m = t -> t <= l.length -> (∀ u : Nat, i <= u -> u < t -> ∀ q : Nat, 1 <= q -> q <= N -> ¬ Wk (edgesOf l) q u u) -> ∀ r, Ev (fun k => r_Cycle.l1 k l ((iota l.length).map (nb l)) (N : Int) t) r ->
   Ev (fun k => r_Cycle.l1 k l ((iota l.length).map (nb l)) (N : Int) i) r := by
   intro N hN1 hN m
   induction m with
   | zero => intro i t hi _ _ r hr; obtain rfl : i = t := (by omega); exact hr
   | succ m ih =>
    intro i t hi ht hno r hr
    have hp := paths_none G (s := (i : Int)) (by omega) (by omega) N hN1 (by omega) (hno i (Nat.le_refl _) (by omega))
    have hrec := ih (i + 1) t (by omega) ht (fun u hu hut => hno u (by omega) hut) r hr
    refine Ev.step (fun k => ?_) (Ev.bind hp (f := fun k t => if (t.length : Int) > 0 then some t else r_Cycle.l1 k l ((iota l.length).map (nb l)) (N : Int) ((i + 1 : Nat) : Int)) (Ev.congr (fun k => ?_) hrec))
    · simp only [r_Cycle.l1]
      rw [if_pos (by rw [List.length_map, hil]; omega), if_pos (by omega), hrdi i (by omega), succ_cast i (by omega)]
    · rw [if_neg (by simp)]
  have done : ∀ (N : Nat), N <= l.length -> ∀ r, Ev (fun k => r_Cycle.l0 k l ((iota l.length).map (nb l)) ((N + 1 : Nat) : Int)) r -> Ev (fun k => r_Cycle.l1 k l ((iota l.length).map (nb l)) (N : Int) (l.length : Nat)) r := by
   intro N hN r hr
   refine Ev.step (fun k => ?_) hr
   simp only [r_Cycle.l1]
   rw [if_neg (by rw [List.length_map, hil]; omega), succ_cast N (by omega)]
  have enter : ∀ (N : Nat), N <= l.length -> ∀ r, Ev (fun k => r_Cycle.l1 k l ((iota l.length).map (nb l)) (N : Int) ((0 : Nat) : Int)) r -> Ev (fun k => r_Cycle.l0 k l ((iota l.length).map (nb l)) (N : Int)) r := by
   intro N hN r hr
   refine Ev.step (fun k => ?_) hr
   simp only [r_Cycle.l0]
   rw [if_pos (by rw [List.length_map, hil]; omega)]
   rfl
  rcases h with ⟨hno, rfl⟩ | ⟨b, s, dl, g, gb, D, rfl⟩
  · have all : ∀ (m N : Nat), N + m = l.length + 1 -> 1 <= N -> Ev (fun k => r_Cycle.l0 k l ((iota l.length).map (nb l)) (N : Int)) [] := by
     intro m
     induction m with
     | zero =>
      intro N hN _
      refine Ev.step (fun k => ?_) (Ev.now _)
      simp only [r_Cycle.l0]
      rw [if_neg (by rw [List.length_map, hil]; omega)]
     | succ m ih =>
      intro N hN hN1
      refine enter N (by omega) _ (skip N hN1 (by omega) l.length 0 l.length (by omega) (Nat.le_refl _) (fun u _ hu q h1 h2 h3 => hno u ⟨by omega, by rw [es_len G]; omega⟩ q ⟨h1, h3⟩) _ (done N (by omega) _ (ih (N + 1) (by omega) (by omega))))
    exact all l.length 1 (by omega) (by omega)
  · rw [es_len G] at gb
    have hb1 := g.cyc.1
    have hs0 : 0 <= s := g.nds.1
    have hs1 : s < l.length := by have := g.nds.2; rw [es_len G] at this; exact this
    obtain ⟨sn, rfl⟩ : ∃ sn : Nat, s = sn := ⟨s.toNat, by omega⟩
    have all : ∀ (m N : Nat), N + m = b -> 1 <= N -> Ev (fun k => r_Cycle.l0 k l ((iota l.length).map (nb l)) (N : Int)) (((sn : Int) :: chn (edgesOf l) dl (b - 1) sn).map (nb l)) := by
     intro m
     induction m with
     | zero =>
      intro N hN _
      obtain rfl : N = b := by omega
      have hw := paths_walk G g gb D (N - 1) [(sn : Int)] sn (by simp; omega) (fun x hx => by rw [List.mem_singleton] at hx; subst hx; exact ⟨hs0, hs1⟩) rfl rfl (fun i hi => by
       have : i = 0 := by simp at hi; exact hi
       subst this; rfl) (by rw [show N - 1 + 1 = N by omega]; exact g.cyc.2)
      refine enter N gb _ (skip N hb1 gb sn 0 sn (by omega) (by omega) (fun u _ hu q h1 h2 h3 => ?_) _ ?_)
      · have := g.min u ⟨by omega, by rw [es_len G]; omega⟩ q ⟨h1, h3⟩
        have := this.2 (by omega)
        omega
      · refine Ev.step (fun k => ?_) (Ev.bind hw (f := fun k t => if (t.length : Int) > 0 then some t else r_Cycle.l1 k l ((iota l.length).map (nb l)) (N : Int) ((sn + 1 : Nat) : Int)) (Ev.congr (fun k => ?_) (Ev.now _)))
        · simp only [r_Cycle.l1]
          rw [if_pos (by rw [List.length_map, hil]; omega), if_pos (by omega), hrdi sn (by omega), succ_cast sn (by omega)]
          rfl
        · rw [if_pos (by simp)]
          rfl
     | succ m ih =>
      intro N hN hN1
      refine enter N (by omega) _ (skip N hN1 (by omega) l.length 0 l.length (by omega) (Nat.le_refl _) (fun u _ hu q h1 h2 h3 => ?_) _ (done N (by omega) _ (ih (N + 1) (by omega) (by omega))))
      have := (g.min u ⟨by omega, by rw [es_len G]; omega⟩ q ⟨h1, h3⟩).1
      omega
    exact all (b - 1) 1 (by omega) (by omega)
 refine Ev.congr (fun k => ?_) (Ev.bind (cons_ev l (fun m hm => by have := G.few m hm; omega)) (f := fun k bt => if bt.1 = 0 then ((r_Names.f k l).bind fun t => r_Cycle.l0 k l t 1) else some []) (Ev.congr (fun k => ?_) (Ev.bind (names_at G) (f := fun k t => r_Cycle.l0 k l t 1) hmain)))
 · rfl
 · rw [if_pos h0]
structure Cyc (l : List S42) (C : List Int) : Prop where
 vl : VL l C
 len : C.length <= 32
 prog : Ev (fun k => p_cycle.f k (namesOf l) (edgesOf l)) C
 ref : Ev (fun k => r_Cycle.f k l) (C.map (nb l))
 told : ((∀ u, nd (edgesOf l) u -> ∀ m, ¬ Cy (edgesOf l) u m) /\ C = []) \/ ∃ b s dl, Gi (edgesOf l) b s /\ b <= (edgesOf l).length /\ DL (edgesOf l) s dl /\ C = s :: chn (edgesOf l) dl (b - 1) s
theorem cyc_ex (G : Good l) (h0 : (consF l).1 = 0) : ∃ C, Cyc l C := by
 have hlen := G.len
 have hc := cycle_ev (namesOf l) (es_vld G) (by rw [es_len G]; omega) (fun v hv => by have := row_len G hv.1 (by have := hv.2; rw [es_len G] at this; exact this); omega) (by rw [names_len G, es_len G])
 rcases hc with ⟨h1, h2⟩ | ⟨b, s, dl, g1, g2, g3, g4⟩
 · exact ⟨[], ⟨fun x hx => (by cases hx), by simp, h2, refcycle_of G [] (.inl ⟨h1, rfl⟩) h0, .inl ⟨h1, rfl⟩⟩⟩
 · have hs1 : s < l.length := by have := g1.nds.2; rw [es_len G] at this; exact this
   refine ⟨_, ⟨fun x hx => ?_, ?_, g4, refcycle_of G _ (.inr ⟨b, s, dl, g1, g2, g3, rfl⟩) h0, .inr ⟨b, s, dl, g1, g2, g3, rfl⟩⟩⟩
   · rcases List.mem_cons.1 hx with rfl | hx
     · exact ⟨g1.nds.1, hs1⟩
     · exact chn_vl G dl _ s g1.nds.1 hs1 x hx
   · rw [List.length_cons, chn_len]
     rw [es_len G] at g2
     have := g1.cyc.1
     omega
end
theorem succ_max (j : Nat) (h : j < 9223372036854775807) : wrap64 ((j : Int) + 1) = ((j + 1 : Nat) : Int) := by
 rw [w64 _ (by omega) (by omega)]
 omega
theorem small_ev (l : List S42) (hl : l.length <= 9223372036854775807) : ∃ b, Ev (fun k => w_small.f k l) b /\ (b = true -> (∀ m ∈ l, m.f3.length <= 12) /\ (l.length <= 12 \/ 32 < l.length)) := by
 have key : ∀ (m j : Nat), j + m = l.length -> ∃ b, Ev (fun k => w_small.l0 k l j) b /\ (b = true -> (∀ q ∈ l.drop j, q.f3.length <= 12) /\ (l.length <= 12 \/ 32 < l.length)) := by
  intro m
  induction m with
  | zero =>
   intro j hj
   rw [List.drop_eq_nil_of_le (by omega)]
   by_cases h1 : l.length <= 12
   · refine ⟨true, Ev.step (fun k => ?_) (Ev.now _), fun _ => ⟨by simp, .inl h1⟩⟩
     simp only [w_small.l0]
     rw [if_neg (by omega), if_pos (by omega)]
   by_cases h2 : 32 < l.length
   rotate_left
   · refine ⟨false, Ev.step (fun k => ?_) (Ev.now _), fun h => by cases h⟩
     simp only [w_small.l0]
     rw [if_neg (by omega), if_neg (by omega), if_neg (by omega)]
   refine ⟨decide ((l.length : Int) <= 100), Ev.step (fun k => ?_) (Ev.now _), fun _ => ⟨by simp, .inr h2⟩⟩
   simp only [w_small.l0]
   rw [if_neg (by omega), if_neg (by omega), if_pos (by omega)]
  | succ m ih =>
   intro j hj
   obtain ⟨b, b1, b2⟩ := ih (j + 1) (by omega)
   rw [drop_mods l j (by omega)]
   by_cases h : (((rd_T42 l j).f3).length : Int) > 12
   · refine ⟨false, Ev.step (fun k => ?_) (Ev.now _), fun h => by cases h⟩
     simp only [w_small.l0]
     rw [if_pos (by omega), if_pos (by omega), if_pos h]
   refine ⟨b, Ev.step (fun k => ?_) b1, fun hb => ⟨fun q hq => ?_, (b2 hb).2⟩⟩
   · simp only [w_small.l0]
     rw [if_pos (by omega), if_pos (by omega), if_neg h, succ_max j (by omega)]
   · rcases List.mem_cons.1 hq with rfl | hq
     · omega
     · exact (b2 hb).1 q hq
 obtain ⟨b, b1, b2⟩ := key l.length 0 (by omega)
 exact ⟨b, b1, by rw [List.drop_zero] at b2; exact b2⟩
theorem okSizes_of {l : List S42} (h : ∀ x ∈ l, x.f0.size <= maxLen /\ ∀ i ∈ x.f3, i.f0.size <= maxLen) (hf : ∀ m ∈ l, m.f3.length <= 12) : okSizes l :=
 fun m hm => ⟨(h m hm).1, by have := hf m hm; omega, (h m hm).2⟩
section
variable {es : List (List Int)}
theorem rc_wk {a b : Int} (h : Rc es a b) : ∃ m, Wk es m a b := by
 induction h with
 | refl => exact ⟨0, rfl⟩
 | @tail b c h1 h2 ih =>
  obtain ⟨m, hm⟩ := ih
  exact ⟨m + 1, wk_add hm (wk_one h2)⟩
theorem wk_rc : ∀ {m : Nat} {a b : Int}, Wk es m a b -> Rc es a b := by
 intro m
 induction m with
 | zero => intro a b h; have e : a = b := h; subst e; exact .refl _
 | succ m ih =>
  rintro a b ⟨c, hc, h⟩
  exact (Rc.edge hc).trans (ih h)
def Acy (es : List (List Int)) : Prop := ∀ u, nd es u -> ∀ m, ¬ Cy es u m
theorem acy_anti (A : Acy es) {a b : Int} (ha : nd es a) (h : Rc es a b) (h2 : Rc es b a) : a = b := by
 obtain ⟨m, hm⟩ := rc_wk h
 obtain ⟨q, hq⟩ := rc_wk h2
 rcases Nat.eq_zero_or_pos (m + q) with e | e
 · obtain rfl : m = 0 := by omega
   exact hm
 · exact absurd ⟨e, wk_add hm hq⟩ (A a ha (m + q))
theorem acy_self (A : Acy es) {a : Int} (ha : nd es a) : a ∉ row es a := fun h => A a ha 1 ⟨Nat.le_refl _, wk_one h⟩
theorem acy_edge (A : Acy es) {a w : Int} (ha : nd es a) (h : w ∈ row es a) : ¬ Rc es w a := fun h2 => by
 have := acy_anti A ha (Rc.edge h) h2
 subst this
 exact acy_self A ha h
theorem scc_one (A : Acy es) {m : Int} (hm : nd es m) : scc es m = [m] := by
 have h1 : ∀ x, x ∈ scc es m ↔ x = m := fun x => by
  rw [mem_scc]
  constructor
  · rintro ⟨_, h, h2⟩; exact (acy_anti A hm h h2).symm
  · rintro rfl; exact ⟨hm, .refl _, .refl _⟩
 have h2 := scc_lt es m
 cases h : scc es m with
 | nil => rw [h] at h1; exact absurd ((h1 m).2 rfl) (by simp)
 | cons x r =>
  rw [h] at h1 h2
  have hx := (h1 x).1 (by simp)
  cases r with
  | nil => rw [hx]
  | cons y r =>
   have hy := (h1 y).1 (by simp)
   rw [List.pairwise_cons] at h2
   have := h2.1 y (by simp)
   omega
theorem kahn_take {o : List (List Int)} (h : Kahn es o) : ∀ i, i <= o.length -> Kahn es (o.take i) := by
 intro i
 induction i with
 | zero => intro _; exact .nil
 | succ i ih =>
  intro hi
  rw [List.take_succ_eq_append_getElem (by omega)]
  exact .snoc (ih (by omega)) (kahn_next h i (by omega))
theorem kahn_closed {o : List (List Int)} (hv : Vld es) (h : Kahn es o) {u w : Int} (hu : u ∈ o.flatten) (hw : w ∈ row es u) : w ∈ o.flatten := by
 obtain ⟨c, hc, huc⟩ := List.mem_flatten.1 hu
 obtain ⟨i, hi, rfl⟩ := List.mem_iff_getElem.1 hc
 obtain ⟨j, d, _, hd, hwd⟩ := (kahn_parts hv h).back i _ (List.getElem?_eq_getElem hi) u huc w hw
 exact List.mem_flatten.2 ⟨d, List.mem_of_getElem? hd, hwd⟩
theorem kahn_closed' {o : List (List Int)} (hv : Vld es) (h : Kahn es o) {u w : Int} (hu : u ∈ o.flatten) (hw : Rc es u w) : w ∈ o.flatten := by
 induction hw with
 | refl => exact hu
 | tail _ h2 ih => exact kahn_closed hv h ih h2
theorem ready_iff {o : List (List Int)} (hv : Vld es) (A : Acy es) (h : Kahn es o) {x : Int} (hx : nd es x) : Ready es o x ↔ ∀ w ∈ row es x, w ∈ o.flatten := by
 constructor
 · intro hr w hw
   rcases hr w (Rc.edge hw) with e | e
   · exact e
   · exact absurd e (acy_edge A hx hw)
 · intro hr y hy
   obtain ⟨m, hm⟩ := rc_wk hy
   cases m with
   | zero => have e : x = y := hm; subst e; exact .inr (.refl _)
   | succ m =>
    obtain ⟨c, hc, h2⟩ := hm
    exact .inl (kahn_closed' hv h (hr c hc) (wk_rc h2))
structure Seqn (es : List (List Int)) (D : List Int) : Prop where
 nod : D.Nodup
 all : ∀ v, nd es v ↔ v ∈ D
 nxt : ∀ i (h : i < D.length), (∀ w ∈ row es D[i], w ∈ D.take i) /\ ∀ x, nd es x -> x ∉ D.take i -> (∀ w ∈ row es x, w ∈ D.take i) -> D[i] <= x
theorem flat_ones {o : List (List Int)} (h : ∀ c ∈ o, c.length = 1) : ∀ i, (o.take i).flatten = o.flatten.take i := by
 induction o with
 | nil => intro i; simp
 | cons c o ih =>
  intro i
  have hc := h c (by simp)
  cases i with
  | zero => simp
  | succ i =>
   obtain ⟨x, rfl⟩ := List.length_eq_one_iff.1 hc
   simp only [List.take_succ_cons, List.flatten_cons, List.singleton_append]
   rw [ih (fun c hc => h c (by simp [hc]))]
theorem seqn_of {o : List (List Int)} (hv : Vld es) (A : Acy es) (ho : Full es o) : (∀ c ∈ o, c.length = 1) /\ Seqn es o.flatten := by
 have P := kahn_parts hv ho.1
 have h1 : ∀ c ∈ o, c.length = 1 := fun c hc => by
  obtain ⟨m, hm, rfl⟩ := P.scc c hc
  rw [scc_one A hm]; rfl
 have hlen : o.flatten.length = o.length := by
  have : ∀ q : List (List Int), (∀ c ∈ q, c.length = 1) -> q.flatten.length = q.length := by
   intro q
   induction q with
   | nil => intro _; rfl
   | cons c q ih => intro h; rw [List.flatten_cons, List.length_append, h c (by simp), ih (fun c hc => h c (by simp [hc])), List.length_cons]; omega
  exact this o h1
 refine ⟨h1, P.one, fun v => ⟨ho.2 v, fun hvm => ?_⟩, fun i hi => ?_⟩
 · obtain ⟨c, hc, hvc⟩ := List.mem_flatten.1 hvm
   obtain ⟨m, hm, rfl⟩ := P.scc c hc
   exact (mem_scc.1 hvc).1
 · have hio : i < o.length := by omega
   obtain ⟨m, m1, m2, m3, m4, m5⟩ := kahn_next ho.1 i hio
   have hK := kahn_take ho.1 i (by omega)
   rw [scc_one A m1] at m5
   have hD : o.flatten[i] = m := by
    have e1 := flat_ones h1 (i + 1)
    rw [List.take_succ_eq_append_getElem hio, m5, List.take_succ_eq_append_getElem hi, List.flatten_append, flat_ones h1 i] at e1
    simp only [List.flatten_cons, List.flatten_nil, List.append_nil] at e1
    exact (List.cons.inj (List.append_cancel_left e1)).1.symm
   rw [hD, <- flat_ones h1 i]
   exact ⟨(ready_iff hv A hK m1).1 m3, fun x hx hxn hr => m4 x hx hxn ((ready_iff hv A hK hx).2 hr)⟩
end
def fltC (l : List S42) (C : List Int) : Int × ByteArray × Int × Int := if C = [] then (0, ⟨#[]⟩, 0, 0) else (18, nb l (rd C 0), 0, 0)
theorem acyclic_ev {l : List S42} (G : Good l) (hs : okSizes l) (h0 : (consF l).1 = 0) {C : List Int} (hC : Cyc l C) :
 Ev (fun k => m_acyclic.f k l) (if C = [] then (namesOf l, edgesOf l, 0, ⟨#[]⟩, 0, 0) else ([], [], fltC l C)) := by
 have hm := made_consF l hs
 rw [if_pos h0] at hm
 refine Ev.congr (fun k => ?_) (Ev.bind hC.prog (f := fun k t => if (t.length : Int) > 0 then (if 0 < (t.length : Int) then (if 0 <= rd t 0 then (if rd t 0 < ((namesOf l).length : Int) then some (([] : List ByteArray), ([] : List (List Int)), 18, rdOf ByteArray.empty (namesOf l) (rd t 0), 0, 0) else none) else none) else none) else some (namesOf l, edgesOf l, 0, ⟨#[]⟩, 0, 0)) (Ev.congr (fun k => ?_) (Ev.now _)))
 · unfold m_acyclic.f
   rw [hm, Option.bind_some, if_pos rfl]
 · cases C with
   | nil => rfl
   | cons c C =>
    have hc := hC.vl c (by simp)
    have e : rd (c :: C) 0 = c := rfl
    have ht : (0 : Int) < ((c :: C).length : Int) := by rw [List.length_cons]; omega
    rw [if_pos ht, if_pos ht, e, if_pos hc.1, if_pos (by rw [names_len G]; exact hc.2), if_neg (by simp)]
    unfold fltC
    rw [if_neg (by simp), e]
    rfl
theorem acyclic_bad {l : List S42} (hs : okSizes l) (h0 : ¬ (consF l).1 = 0) : Ev (fun k => m_acyclic.f k l) ([], [], (consF l).1, (consF l).2, 0, 0) := by
 have hm := made_consF l hs
 rw [if_neg h0] at hm
 refine Ev.congr (fun k => ?_) (Ev.now _)
 unfold m_acyclic.f
 rw [hm, Option.bind_some, if_neg h0]
theorem fault_ev {l : List S42} (G : Good l) (h0 : (consF l).1 = 0) {C : List Int} (hC : Cyc l C) : Ev (fun k => r_fault.f k l) (fltC l C) := by
 have h2 := good_fault h0
 refine Ev.congr (fun k => ?_) (Ev.bind (cons_ev l (fun m hm => by have := G.few m hm; omega)) (f := fun k bt => if bt.1 = 0 then ((r_Cycle.f k l).bind fun t => (if (t.length : Int) > 0 then (if 0 < (t.length : Int) then (some (18, rdOf ByteArray.empty t 0, 0, 0)) else (none)) else (some (bt.1, bt.2.1, bt.2.2.1, bt.2.2.2)))) else some (bt.1, bt.2.1, bt.2.2.1, bt.2.2.2)) (Ev.congr (fun k => ?_) (Ev.bind hC.ref (f := fun k t => if (t.length : Int) > 0 then (if 0 < (t.length : Int) then (some (18, rdOf ByteArray.empty t 0, 0, 0)) else (none)) else (some (0, ⟨#[]⟩, 0, 0))) (Ev.congr (fun k => ?_) (Ev.now _)))))
 · rfl
 · rw [if_pos h0, h0, h2]
 · cases C with
   | nil => rfl
   | cons c C =>
    have ht : (0 : Int) < (((c :: C).map (nb l)).length : Int) := by rw [List.length_map, List.length_cons]; omega
    rw [if_pos ht, if_pos ht]
    unfold fltC
    rw [if_neg (by simp)]
    rfl
theorem fault_bad {l : List S42} (hf : ∀ m ∈ l, m.f3.length <= 100000) (h0 : ¬ (consF l).1 = 0) : Ev (fun k => r_fault.f k l) ((consF l).1, (consF l).2, 0, 0) := by
 refine Ev.congr (fun k => ?_) (Ev.bind (cons_ev l hf) (f := fun k bt => if bt.1 = 0 then ((r_Cycle.f k l).bind fun t => (if (t.length : Int) > 0 then (if 0 < (t.length : Int) then (some (18, rdOf ByteArray.empty t 0, 0, 0)) else (none)) else (some (bt.1, bt.2.1, bt.2.2.1, bt.2.2.2)))) else some (bt.1, bt.2.1, bt.2.2.1, bt.2.2.2)) (Ev.congr (fun k => ?_) (Ev.now _)))
 · rfl
 · rw [if_neg h0]
theorem acy_of {l : List S42} {C : List Int} (hC : Cyc l C) (h : C = []) : Acy (edgesOf l) := by
 rcases hC.told with ⟨h1, _⟩ | ⟨b, s, dl, _, _, _, h1⟩
 · exact h1
 · rw [h] at h1; cases h1
section
variable {l : List S42}
theorem iota_rd (n i : Nat) (h : i < n) : rd (iota n) (i : Int) = i := by
 rw [rd_at _ i (by rw [iota_length]; exact h)]
 simp [iota]
theorem seqn_nd (G : Good l) {x : Int} : nd (edgesOf l) x ↔ 0 <= x /\ x < l.length := by unfold nd; rw [es_len G]
end
end Tp
end Go.Proofs.Ytmadhaccjmakdaa
namespace Go.Proofs.Ytmadhaccjmakdaa.P
open Go.RowKit Go.Proofs.Yw.A Go.Proofs.Yw.A.Kd Go.Proofs.Yw.B Go.Proofs.Yw.C
attribute [local go_sem] str_gtr str_leq str_geq max2_int min2_int max_two min_two max_three min_three max_four min_four
end Go.Proofs.Ytmadhaccjmakdaa.P
namespace Go.Proofs.Ytmadhaccjmakdaa
open Go.Maps Go.Sort Go.RowKit Go.Proofs.Yw.A Go.Proofs.Yw.B Go.Proofs.Yw.C Go.Proofs.Ytmadhaccjmakdaa.P
namespace Tp
open Tj Rw Od Mg Lv
open Classical
theorem ev_lim {α : Type} {F : Nat -> Option α} {r : α} (h : Ev F r) : Od.lim F = some r := by
 obtain ⟨K, hK⟩ := h
 exact Od.lim_of (k0 := K) hK
def atL (lv : List Int) (i : Nat) (d : Int) : List Int := (iota i).filter fun x => rd lv x == d
theorem atL_succ (lv : List Int) (i : Nat) (d : Int) : atL lv (i + 1) d = atL lv i d ++ (if rd lv i = d then [(i : Int)] else []) := by
 unfold atL
 rw [filt_snoc]
 by_cases h : rd lv i = d <;> simp [h]
theorem atL_len (lv : List Int) (i : Nat) (d : Int) : (atL lv i d).length <= i := filt_len _ _
theorem lv3_ev (lv : List Int) (n : Nat) (hl : lv.length < 1000000) (hb : ∀ x : Nat, x < lv.length -> 0 <= rd lv x /\ rd lv x < n) : ∀ (m i : Nat) (out : List (List Int)), i + m = lv.length -> out.length = n -> (∀ d : Nat, d < n -> row out d = atL lv i d) ->
 ∃ out', Ev (fun k => lv3 k lv i out) out' /\ out'.length = n /\ ∀ d : Nat, d < n -> row out' d = atL lv lv.length d := by
 intro m
 induction m with
 | zero =>
  intro i out hi ho h
  obtain rfl : i = lv.length := by omega
  refine ⟨out, Ev.step (fun k => ?_) (Ev.now _), ho, h⟩
  rw [lv3, if_neg (by omega)]
 | succ m ih =>
  intro i out hi ho h
  obtain ⟨b0, b1⟩ := hb i (by omega)
  obtain ⟨dn, hdn⟩ := Int.eq_ofNat_of_zero_le b0
  have hrow := h dn (by omega)
  have hrl := atL_len lv i dn
  obtain ⟨out', a1, a2, a3⟩ := ih (i + 1) (app out (rd lv i) i) (by omega) (by rw [app_length]; exact ho) (fun d hd => by
   rw [row_app _ _ _ _ b0 (by omega) (by omega), atL_succ]
   by_cases e : (d : Int) = rd lv i
   · rw [if_pos e, if_pos e.symm, <- e, h d hd]
   rw [if_neg e, if_neg (fun h => e h.symm), List.append_nil, h d hd])
  refine ⟨out', Ev.step (fun k => ?_) a1, a2, a3⟩
  rw [lv3, if_pos (by omega), if_pos ⟨b0, by omega, by rw [hdn, hrow]; omega⟩, show (i : Int) + 1 = ((i + 1 : Nat) : Int) by omega]
theorem rows_ext {a b : List (List Int)} (hl : a.length = b.length) (h : ∀ d : Nat, d < a.length -> row a d = row b d) : a = b := by
 refine List.ext_getElem hl fun i h1 h2 => ?_
 rw [<- row_mem a i h1, <- row_mem b i h2]
 exact h i h1
def mxl (lv : List Int) (ws : List Int) (y : Int) : Int := ws.foldl (fun y w => max y (rd lv w + 1)) y
theorem mxl_spec (lv : List Int) : ∀ (ws : List Int) (y : Int), y <= mxl lv ws y /\ (∀ w ∈ ws, rd lv w + 1 <= mxl lv ws y) /\ (mxl lv ws y = y \/ ∃ w ∈ ws, mxl lv ws y = rd lv w + 1) := by
 intro ws
 induction ws with
 | nil => intro y; exact ⟨Int.le_refl _, by simp, .inl rfl⟩
 | cons w ws ih =>
  intro y
  obtain ⟨h1, h2, h3⟩ := ih (max y (rd lv w + 1))
  have e : mxl lv (w :: ws) y = mxl lv ws (max y (rd lv w + 1)) := rfl
  rw [e]
  refine ⟨by omega, fun u hu => ?_, ?_⟩
  · rcases List.mem_cons.1 hu with rfl | hu
    · omega
    · exact h2 u hu
  · rcases h3 with h3 | ⟨u, hu, h3⟩
    · rcases Int.le_total y (rd lv w + 1) with h4 | h4
      · exact .inr ⟨w, by simp, by omega⟩
      · exact .inl (by omega)
    · exact .inr ⟨u, List.mem_cons_of_mem _ hu, h3⟩
theorem lv1_ev {l : List (List Int)} (hs : Sm l) (hv : Vld l) {v : Int} (hn : nd l v) (hself : v ∉ row l v) {lv : List Int} (hlen : lv.length = l.length) (hb : ∀ x, nd l x -> 0 <= rd lv x /\ rd lv x <= 100) :
 Ev (fun k => lv1 k v (row l v) 0 lv) (lv.set v.toNat (mxl lv (row l v) (rd lv v))) := by
 have hr := hs.row v
 have key : ∀ (m q : Nat) (y : Int), q + m = (row l v).length -> Ev (fun k => lv1 k v (row l v) q (lv.set v.toNat y)) (lv.set v.toNat (mxl lv ((row l v).drop q) y)) := by
  intro m
  induction m with
  | zero =>
   intro q y hq
   rw [List.drop_eq_nil_of_le (by omega)]
   refine Ev.step (fun k => ?_) (Ev.now _)
   rw [lv1, if_neg (show ¬ (q : Int) < ((row l v).length : Int) by omega)]
   rfl
  | succ m ih =>
   intro q y hq
   have hql : q < (row l v).length := by omega
   have hwm : rd (row l v) q ∈ row l v := by rw [rd_at _ q hql]; exact List.getElem_mem _
   have hwn := hv v hn _ hwm
   have hwb := hb _ hwn
   have hne : rd (row l v) q ≠ v := fun e => hself (Eq.subst (motive := fun x => x ∈ row l v) e hwm)
   have e1 : rd (lv.set v.toNat y) (rd (row l v) q) = rd lv (rd (row l v) q) := by rw [rd_set _ _ _ _ hn.1 (by rw [hlen]; exact hn.2) hwn.1, if_neg hne]
   have e2 : rd (lv.set v.toNat y) v = y := by rw [rd_set _ _ _ _ hn.1 (by rw [hlen]; exact hn.2) hn.1, if_pos rfl]
   have e3 : wrap64 (rd lv (rd (row l v) q) + 1) = rd lv (rd (row l v) q) + 1 := w64 _ (by omega) (by omega)
   have h2 := ih (q + 1) (max y (rd lv (rd (row l v) q) + 1)) (by omega)
   rw [drop_row _ q hql]
   refine Ev.step (fun k => ?_) h2
   rw [lv1, if_pos (show (q : Int) < ((row l v).length : Int) by omega), if_pos ⟨hwn.1, by rw [List.length_set, hlen]; exact hwn.2⟩, e1, e2, e3, List.set_set, show (q : Int) + 1 = ((q + 1 : Nat) : Int) by omega]
 have hsame : lv.set v.toNat (rd lv v) = lv := by
  refine List.ext_getElem (by simp) fun i h1 h2 => ?_
  rw [List.getElem_set]
  split
  · rename_i e
    subst e
    obtain ⟨j, rfl⟩ := Int.eq_ofNat_of_zero_le hn.1
    exact rd_at lv j h2
  · rfl
 have x2 := key (row l v).length 0 (rd lv v) (by omega)
 rw [hsame, List.drop_zero] at x2
 exact x2
structure LvI (es : List (List Int)) (D : List Int) (i : Nat) (lv : List Int) (top : Int) : Prop where
 len : lv.length = es.length
 not : ∀ x, nd es x -> x ∉ D.take i -> rd lv x = 0
 lo : ∀ x ∈ D.take i, ∀ w ∈ row es x, rd lv w + 1 <= rd lv x
 at' : ∀ x ∈ D.take i, rd lv x = 0 \/ ∃ w ∈ row es x, rd lv x = rd lv w + 1
 rng : ∀ x, nd es x -> 0 <= rd lv x /\ rd lv x <= i
 tp : ∀ x ∈ D.take i, rd lv x <= top
 hit : (i = 0 /\ top = -1) \/ ∃ x ∈ D.take i, rd lv x = top
theorem lv_run {es o : List (List Int)} (hs : Sm es) (hv : Vld es) (A : Acy es) (h1 : ∀ c ∈ o, c.length = 1) (S : Seqn es o.flatten) (hol : o.length = o.flatten.length) (hoe : o.length <= es.length) : ∀ (m i : Nat) (lv : List Int) (top : Int), i + m = o.length -> LvI es o.flatten i lv top ->
 ∃ lv' top', Ev (fun k => lv0 k es o i lv top) (some (lv', top')) /\ LvI es o.flatten o.length lv' top' := by
 have h60 := hs.1
 intro m
 induction m with
 | zero =>
  intro i lv top hi I
  obtain rfl : i = o.length := by omega
  refine ⟨lv, top, Ev.step (fun k => ?_) (Ev.now _), I⟩
  rw [lv0, if_neg (by omega)]
 | succ m ih =>
  intro i lv top hi I
  have hio : i < o.length := by omega
  have hiD : i < o.flatten.length := by omega
  have hrow : row o (i : Int) = o[i] := row_mem o i hio
  have hci := h1 _ (List.getElem_mem hio)
  obtain ⟨v, hvo⟩ := List.length_eq_one_iff.1 hci
  have htk : o.flatten.take (i + 1) = o.flatten.take i ++ [v] := by
   rw [<- flat_ones h1, <- flat_ones h1, List.take_succ_eq_append_getElem hio, List.flatten_append, hvo]
   rfl
  have hDi : o.flatten[i] = v := by
   have := List.take_succ_eq_append_getElem hiD
   rw [htk] at this
   exact (List.cons.inj (List.append_cancel_left this)).1.symm
  have hvn : nd es v := (S.all v).2 (hDi ▸ List.getElem_mem hiD)
  obtain ⟨n1, n2⟩ := S.nxt i hiD
  rw [hDi] at n1
  have hvnot : v ∉ o.flatten.take i := by
   intro h
   obtain ⟨j, hj, e⟩ := List.mem_iff_getElem.1 h
   rw [List.getElem_take] at e
   have hj2 : j < i := by rw [List.length_take] at hj; omega
   exact (List.nodup_iff_pairwise_ne.1 S.nod |> List.pairwise_iff_getElem.1) j i (by omega) hiD hj2 (e.trans hDi.symm)
  have hself := acy_self A hvn
  have hv0 := I.not v hvn hvnot
  have hlv := lv1_ev hs hv hvn hself I.len (fun x hx => by have := I.rng x hx; omega)
  rw [hv0] at hlv
  obtain ⟨m1, m2, m3⟩ := mxl_spec lv (row es v) 0
  generalize mxl lv (row es v) 0 = z at *
  have hr2 : ∀ y, nd es y -> rd (lv.set v.toNat z) y = if y = v then z else rd lv y := fun y hy => rd_set _ _ _ _ hvn.1 (by rw [I.len]; exact hvn.2) hy.1
  have hzv : rd (lv.set v.toNat z) v = z := by rw [hr2 v hvn, if_pos rfl]
  have hold : ∀ x ∈ o.flatten.take i, rd (lv.set v.toNat z) x = rd lv x := fun x hx => by
   rw [hr2 x ((S.all x).2 (List.mem_of_mem_take hx)), if_neg (by rintro rfl; exact hvnot hx)]
  have hsucc : ∀ x ∈ o.flatten.take i, ∀ w ∈ row es x, w ∈ o.flatten.take i := by
   intro x hx w hw
   obtain ⟨j, hj, rfl⟩ := List.mem_iff_getElem.1 hx
   rw [List.length_take] at hj
   rw [List.getElem_take] at hw
   have := (S.nxt j (by omega)).1 w hw
   exact (List.take_sublist_take_left (show j <= i by omega)).subset this
  have hzi : z <= i + 1 := by
   rcases m3 with e | ⟨w, hw, e⟩
   · omega
   · have := (I.rng w (hv v hvn w hw)).2; omega
  obtain ⟨lv', top', q1, q2⟩ := ih (i + 1) (lv.set v.toNat z) (max top z) (by omega) ⟨by rw [List.length_set]; exact I.len, fun x hx hxn => by
   rw [htk, List.mem_append, List.mem_singleton, not_or] at hxn
   rw [hr2 x hx, if_neg hxn.2]
   exact I.not x hx hxn.1, fun x hx w hw => by
   rw [htk, List.mem_append, List.mem_singleton] at hx
   rcases hx with hx | rfl
   · rw [hold x hx, hold w (hsucc x hx w hw)]; exact I.lo x hx w hw
   · rw [hzv, hold w (n1 w hw)]; exact m2 w hw, fun x hx => by
   rw [htk, List.mem_append, List.mem_singleton] at hx
   rcases hx with hx | rfl
   · rw [hold x hx]
     rcases I.at' x hx with e | ⟨w, hw, e⟩
     · exact .inl e
     · exact .inr ⟨w, hw, by rw [hold w (hsucc x hx w hw)]; exact e⟩
   · rw [hzv]
     rcases m3 with e | ⟨w, hw, e⟩
     · exact .inl e
     · exact .inr ⟨w, hw, by rw [hold w (n1 w hw)]; exact e⟩, fun x hx => by
   rw [hr2 x hx]
   have := I.rng x hx
   split <;> omega, fun x hx => by
   rw [htk, List.mem_append, List.mem_singleton] at hx
   rcases hx with hx | rfl
   · rw [hold x hx]; have := I.tp x hx; omega
   · rw [hzv]; omega, by
   right
   by_cases hz : top <= z
   · exact ⟨v, by rw [htk]; simp, by rw [hzv]; omega⟩
   rcases I.hit with ⟨_, e⟩ | ⟨y, y1, y2⟩
   · omega
   · exact ⟨y, by rw [htk]; simp [y1], by rw [hold y y1]; omega⟩⟩
  refine ⟨lv', top', Ev.step (fun k => ?_) (Ev.bind hlv (f := fun k lv2 => lv0 k es o ((i + 1 : Nat) : Int) lv2 (max top (rd lv2 v))) (by rw [hzv]; exact q1)), q2⟩
  have e0 : rd [v] 0 = v := rfl
  rw [lv0, if_pos (show (i : Int) < (o.length : Int) by omega), hrow, hvo, e0, if_pos ⟨by simp, hvn.1, hvn.2⟩, if_neg (by
   rintro (h | h)
   · simp at h
   · exact hself (List.contains_iff_mem.1 h)), show (i : Int) + 1 = ((i + 1 : Nat) : Int) by omega]
def rowsT (lv : List Int) (n T : Nat) : List (List Int) := (List.range T).map fun (d : Nat) => atL lv n (d : Int)
theorem rowsT_len (lv : List Int) (n T : Nat) : (rowsT lv n T).length = T := by simp [rowsT]
structure LvOk (es : List (List Int)) (lv : List Int) (T : Nat) : Prop where
 len : lv.length = es.length
 lo : ∀ x, nd es x -> ∀ w ∈ row es x, rd lv w + 1 <= rd lv x
 at' : ∀ x, nd es x -> rd lv x = 0 \/ ∃ w ∈ row es x, rd lv x = rd lv w + 1
 rng : ∀ x, nd es x -> 0 <= rd lv x /\ rd lv x < T
 hit : T = 0 \/ ∃ x, nd es x /\ rd lv x + 1 = T
 T60 : T <= 60
theorem levels_ok {es : List (List Int)} (hs : Sm es) (hv : Vld es) (A : Acy es) : ∃ lv T, LvOk es lv T /\ g_Levels.f es = some (rowsT lv es.length T, 0) := by
 have h60 := hs.1
 have hb := gv_ev es hs
 rw [(vldB_iff es).2 hv] at hb
 obtain ⟨o, o1, o2⟩ := ordered_ev hv (L := 2000) hs.row (by omega)
 obtain ⟨f1, f2, f3⟩ := full_len hv o1
 obtain ⟨h1, S⟩ := seqn_of hv A o1
 have hol : o.length = o.flatten.length := by
  have : ∀ q : List (List Int), (∀ c ∈ q, c.length = 1) -> q.flatten.length = q.length := by
   intro q
   induction q with
   | nil => intro _; rfl
   | cons c q ih => intro h; rw [List.flatten_cons, List.length_append, h c (by simp), ih (fun c hc => h c (by simp [hc])), List.length_cons]; omega
  exact (this o h1).symm
 obtain ⟨lv, top, g1, I⟩ := lv_run hs hv A h1 S hol f2 o.length 0 (List.replicate es.length 0) (-1) (by omega) ⟨by simp, fun x hx _ => rd_rep0 _ _, by simp, by simp, fun x hx => by rw [rd_rep0]; omega, by simp, .inl ⟨rfl, rfl⟩⟩
 have hall : ∀ x, nd es x -> x ∈ o.flatten.take o.length := fun x hx => by rw [hol, List.take_length]; exact (S.all x).1 hx
 have htop : ∀ x, nd es x -> 0 <= rd lv x /\ rd lv x <= top /\ rd lv x <= o.length := fun x hx => ⟨(I.rng x hx).1, I.tp x (hall x hx), (I.rng x hx).2⟩
 have hnd : ∀ x ∈ o.flatten.take o.length, nd es x := fun x hx => (S.all x).2 (List.mem_of_mem_take hx)
 have htb : -1 <= top /\ top < o.length + 1 := by
  rcases I.hit with ⟨_, e⟩ | ⟨x, x1, x2⟩
  · omega
  · have := htop x (hnd x x1); omega
 have htb2 : top + 1 <= 60 := by
  rcases I.hit with ⟨_, e⟩ | ⟨x, x1, x2⟩
  · omega
  ·
   have hlt : ∀ (d : Nat) (x : Int), nd es x -> rd lv x = d -> ∃ L : List Int, L.Nodup /\ L.length = d + 1 /\ ∀ y ∈ L, nd es y /\ rd lv y <= d := by
    intro d
    induction d with
    | zero => intro x hx e; exact ⟨[x], by simp, rfl, fun y hy => by rw [List.mem_singleton] at hy; subst hy; exact ⟨hx, by omega⟩⟩
    | succ d ihd =>
     intro x hx e
     rcases I.at' x (hall x hx) with e2 | ⟨w, hw, e2⟩
     · omega
     · obtain ⟨L, l1, l2, l3⟩ := ihd w (hv x hx w hw) (by omega)
       refine ⟨x :: L, List.nodup_cons.2 ⟨fun h => by have := (l3 x h).2; omega, l1⟩, by rw [List.length_cons, l2], fun y hy => ?_⟩
       rcases List.mem_cons.1 hy with rfl | hy
       · exact ⟨hx, by omega⟩
       · exact ⟨(l3 y hy).1, by have := (l3 y hy).2; omega⟩
   have h0 := (htop x (hnd x x1)).1
   obtain ⟨L, l1, l2, l3⟩ := hlt (rd lv x).toNat x (hnd x x1) (by omega)
   have := nodup_le es.length L l1 (fun y hy => (l3 y hy).1)
   omega
 have hwt : wrap64 (top + 1) = top + 1 := w64 _ (by omega) (by omega)
 have hlen := I.len
 obtain ⟨a, a1, a2, a3⟩ := lv3_ev lv (top + 1).toNat (by omega) (fun x hx => by have := htop x ⟨by omega, by omega⟩; omega) lv.length 0 (List.replicate (top + 1).toNat []) (by omega) (by simp) (fun d hd => by rw [row_rep]; rfl)
 have ha : a = rowsT lv es.length (top + 1).toNat := by
  refine rows_ext (by rw [a2, rowsT_len]) (fun d hd => ?_)
  rw [a3 d (by omega), row_mem _ d (by rw [rowsT_len]; omega), hlen]
  simp [rowsT]
 subst ha
 refine ⟨lv, (top + 1).toNat, ⟨hlen, fun x hx => I.lo x (hall x hx), fun x hx => I.at' x (hall x hx), fun x hx => by have := htop x hx; omega, ?_, by omega⟩, ev_lim ?_⟩
 · rcases I.hit with ⟨_, e⟩ | ⟨x, x1, x2⟩
   · exact .inl (by omega)
   · exact .inr ⟨x, hnd x x1, by have := htop x (hnd x x1); omega⟩
 · unfold levelsF
   refine Ev.bind hb (f := fun k b => if b = true then _ else _) ?_
   refine Ev.congr (fun k => ?_) (Ev.bind g1 (f := fun k o' => match o' with
    | none => some (([] : List (List Int)), (18 : Int))
    | some (lv, top) => if 0 <= wrap64 (top + 1) /\ wrap64 (top + 1) < 5864062014805 then (lv3 k lv 0 (List.replicate (wrap64 (top + 1)).toNat [])).map fun out => (out, (0 : Int)) else none) ?_)
   · rw [if_pos rfl, o2, Option.bind_some, if_pos (by omega)]
     rfl
   · obtain ⟨K, hK⟩ := a1
     refine ⟨K, fun k hk => ?_⟩
     show (if 0 <= wrap64 (top + 1) /\ wrap64 (top + 1) < 5864062014805 then (lv3 k lv 0 (List.replicate (wrap64 (top + 1)).toNat [])).map fun out => (out, (0 : Int)) else none) = _
     rw [hwt, if_pos (by omega)]
     have e : lv3 k lv 0 (List.replicate (top + 1).toNat []) = some (rowsT lv es.length (top + 1).toNat) := hK k hk
     rw [e]
     rfl
section
variable {l : List S42}
end
end Tp
end Go.Proofs.Ytmadhaccjmakdaa
namespace Go.Proofs.Ytmadhaccjmakdaa
open Go.Maps Go.Sort Go.RowKit Go.Proofs.Yw.A Go.Proofs.Yw.B Go.Proofs.Yw.C Go.Proofs.Ytmadhaccjmakdaa.P
namespace Tp
open Tj Rw Od Mg
open Classical
theorem ltI_ext : ∀ {a b : List Int}, a.Pairwise (· < ·) -> b.Pairwise (· < ·) -> (∀ x, x ∈ a ↔ x ∈ b) -> a = b := by
 intro a
 induction a with
 | nil =>
  intro b _ _ h
  cases b with
  | nil => rfl
  | cons y b => exact absurd ((h y).2 (by simp)) (by simp)
 | cons x a ih =>
  intro b ha hb h
  cases b with
  | nil => exact absurd ((h x).1 (by simp)) (by simp)
  | cons y b =>
   rw [List.pairwise_cons] at ha hb
   have hxy : x = y := by
    rcases List.mem_cons.1 ((h x).1 (by simp)) with e | e
    · exact e
    · rcases List.mem_cons.1 ((h y).2 (by simp)) with e2 | e2
      · exact e2.symm
      · have h1 := hb.1 x e
        have h2 := ha.1 y e2
        omega
   subst hxy
   rw [ih ha.2 hb.2 (fun z => ?_)]
   have hz := h z
   simp only [List.mem_cons] at hz
   constructor
   · intro hza
     rcases hz.1 (.inr hza) with e | e
     · subst e; have := ha.1 z hza; omega
     · exact e
   · intro hzb
     rcases hz.2 (.inr hzb) with e | e
     · subst e; have := hb.1 z hzb; omega
     · exact e
def Rp (es : List (List Int)) (v x : Int) : Prop := ∃ m, 1 <= m /\ Wk es m v x
theorem rp_iff {es : List (List Int)} {v x : Int} : Rp es v x ↔ ∃ w ∈ row es v, w = x \/ Rp es w x := by
 constructor
 · rintro ⟨m, h1, h2⟩
   obtain ⟨q, rfl⟩ : ∃ q, m = q + 1 := ⟨m - 1, by omega⟩
   obtain ⟨w, hw, h3⟩ := h2
   refine ⟨w, hw, ?_⟩
   rcases Nat.eq_zero_or_pos q with e | e
   · subst e; exact .inl h3
   · exact .inr ⟨q, e, h3⟩
 · rintro ⟨w, hw, h | ⟨m, h1, h2⟩⟩
   · subst h; exact ⟨1, Nat.le_refl _, wk_one hw⟩
   · exact ⟨m + 1, by omega, w, hw, h2⟩
noncomputable def rpL (es : List (List Int)) (v : Int) : List Int := (iota es.length).filter fun x => decide (Rp es v x)
theorem mem_rpL {es : List (List Int)} {v x : Int} : x ∈ rpL es v ↔ nd es x /\ Rp es v x := by
 unfold rpL nd
 rw [List.mem_filter, mem_iota]
 simp
theorem rpL_lt (es : List (List Int)) (v : Int) : (rpL es v).Pairwise (· < ·) := (iota_lt _).filter _
theorem rp_rc {es : List (List Int)} (A : Acy es) {v x : Int} (hv : nd es v) : Rp es v x ↔ (Rc es v x /\ x ≠ v) := by
 constructor
 · rintro ⟨m, h1, h2⟩
   exact ⟨wk_rc h2, fun e => A v hv m ⟨h1, e ▸ h2⟩⟩
 · rintro ⟨h1, h2⟩
   obtain ⟨m, hm⟩ := rc_wk h1
   rcases Nat.eq_zero_or_pos m with e | e
   · subst e
     have h3 : v = x := hm
     exact absurd h3.symm h2
   · exact ⟨m, e, hm⟩
section
variable {l : List S42}
theorem rpL_vl (G : Good l) (v : Int) : VL l (rpL (edgesOf l) v) := fun x hx => (seqn_nd G).1 (mem_rpL.1 hx).1
theorem rpL_len (G : Good l) (v : Int) : (rpL (edgesOf l) v).length <= l.length := VL.len G (rpL_vl G v) (rpL_lt _ _)
theorem insAll_ev (G : Good l) (x6 : List ByteArray) (x7 : Int) (own : List Int) (hown : VL l own) (hol : own.length <= 1000) (r : List ByteArray) : ∀ (m j : Nat) (T : List Int), j + m = own.length -> VL l T -> T.Pairwise (· < ·) ->
 (∀ T', VL l T' -> T'.Pairwise (· < ·) -> (∀ y, y ∈ T' ↔ y ∈ T \/ y ∈ own.drop j) -> Ev (fun k => r_reach.l0 k l (T'.map (nb l)) x6 (wrap64 (x7 + 1))) r) ->
 Ev (fun k => r_reach.l1 k l (T.map (nb l)) x6 x7 (own.map (nb l)) j) r := by
 intro m
 induction m with
 | zero =>
  intro j T hj hT hp hk
  rw [List.drop_eq_nil_of_le (by omega)] at hk
  refine Ev.step (fun k => ?_) (hk T hT hp (by simp))
  simp only [r_reach.l1]
  rw [if_neg (by rw [List.length_map]; omega)]
 | succ m ih =>
  intro j T hj hT hp hk
  have hj2 : j < own.length := by omega
  have hw := hown (rd own j) (by rw [rd_at _ j hj2]; exact List.getElem_mem _)
  rw [drop_row _ j hj2] at hk
  have hi := ins_at G hT hw.1 hw.2 (by have := VL.len G hT hp; have := G.len; omega)
  have hrec := ih (j + 1) (insI (rd own j) T) (by omega) (hT.insI hw.1 hw.2) (insI_lt _ hp) (fun T' hT' hp' hm' => hk T' hT' hp' (fun y => by
   rw [hm' y, mem_insI, List.mem_cons]
   constructor
   · rintro ((h | h) | h)
     · exact .inr (.inl h)
     · exact .inl h
     · exact .inr (.inr h)
   · rintro (h | h | h)
     · exact .inl (.inr h)
     · exact .inl (.inl h)
     · exact .inr h))
  refine Ev.step (fun k => ?_) (Ev.bind hi (f := fun k t => r_reach.l1 k l t x6 x7 (own.map (nb l)) ((j + 1 : Nat) : Int)) hrec)
  simp only [r_reach.l1]
  rw [if_pos (by rw [List.length_map]; omega), if_pos (by omega), rd_strs j hj2, succ_cast j (by omega)]
theorem reach_at (G : Good l) {lv : List Int} {T : Nat} (L : LvOk (edgesOf l) lv T) : ∀ (d : Nat) (v : Int), 0 <= v -> v < l.length -> rd lv v < d -> Ev (fun k => r_reach.f k l (nb l v)) ((rpL (edgesOf l) v).map (nb l)) := by
 have hlen := G.len
 intro d
 induction d with
 | zero =>
  intro v h0 h1 hd
  have := (L.rng v ((seqn_nd G).2 ⟨h0, h1⟩)).1
  omega
 | succ d ih =>
  intro v h0 h1 hd
  have hvn := (seqn_nd G (x := v)).2 ⟨h0, h1⟩
  have hvr := VL.row G h0 h1
  have hr := row_len G h0 h1
  have loop : ∀ (m i : Nat) (O : List Int), i + m = (row (edgesOf l) v).length -> VL l O -> O.Pairwise (· < ·) -> (∀ y, y ∈ O ↔ ∃ w ∈ (row (edgesOf l) v).take i, w = y \/ y ∈ rpL (edgesOf l) w) ->
   Ev (fun k => r_reach.l0 k l (O.map (nb l)) ((row (edgesOf l) v).map (nb l)) i) ((rpL (edgesOf l) v).map (nb l)) := by
   intro m
   induction m with
   | zero =>
    intro i O hi hO hOp hOm
    rw [List.take_of_length_le (by omega)] at hOm
    have e : O = rpL (edgesOf l) v := ltI_ext hOp (rpL_lt _ _) (fun y => by
     rw [hOm y, mem_rpL]
     constructor
     · rintro ⟨w, hw, h | h⟩
       · subst h
         exact ⟨(seqn_nd G).2 (hvr _ hw), rp_iff.2 ⟨_, hw, .inl rfl⟩⟩
       · have h' := mem_rpL.1 h
         exact ⟨h'.1, rp_iff.2 ⟨w, hw, .inr h'.2⟩⟩
     · rintro ⟨hy, h⟩
       obtain ⟨w, hw, h⟩ := rp_iff.1 h
       exact ⟨w, hw, h.imp id (fun h => mem_rpL.2 ⟨hy, h⟩)⟩)
    rw [e]
    refine Ev.step (fun k => ?_) (Ev.now _)
    simp only [r_reach.l0]
    rw [if_neg (by rw [List.length_map]; omega)]
   | succ m ihm =>
    intro i O hi hO hOp hOm
    have hi2 : i < (row (edgesOf l) v).length := by omega
    have hwm : rd (row (edgesOf l) v) i ∈ row (edgesOf l) v := by rw [rd_at _ i hi2]; exact List.getElem_mem _
    have hw := hvr _ hwm
    have htk : (row (edgesOf l) v).take (i + 1) = (row (edgesOf l) v).take i ++ [rd (row (edgesOf l) v) i] := by rw [List.take_succ_eq_append_getElem hi2, rd_at _ i hi2]
    have h1 := ins_at G hO hw.1 hw.2 (by have := VL.len G hO hOp; omega)
    have h2 := ih (rd (row (edgesOf l) v) i) hw.1 hw.2 (by have := L.lo v hvn _ hwm; omega)
    have h3 := insAll_ev G ((row (edgesOf l) v).map (nb l)) (i : Int) (rpL (edgesOf l) (rd (row (edgesOf l) v) i)) (rpL_vl G _) (by have := rpL_len G (rd (row (edgesOf l) v) i); omega) ((rpL (edgesOf l) v).map (nb l)) (rpL (edgesOf l) (rd (row (edgesOf l) v) i)).length 0 (insI (rd (row (edgesOf l) v) i) O) (by omega) (hO.insI hw.1 hw.2) (insI_lt _ hOp) (fun T' hT' hp' hm' => by
     have := ihm (i + 1) T' (by omega) hT' hp' (fun y => by
      rw [hm' y, mem_insI, hOm y, htk, List.drop_zero]
      simp only [List.mem_append, List.mem_singleton]
      constructor
      · rintro ((h | ⟨w, hw, h⟩) | h)
        · exact ⟨_, .inr rfl, .inl h.symm⟩
        · exact ⟨w, .inl hw, h⟩
        · exact ⟨_, .inr rfl, .inr h⟩
      · rintro ⟨w, hw | rfl, h⟩
        · exact .inl (.inr ⟨w, hw, h⟩)
        · rcases h with h | h
          · exact .inl (.inl h.symm)
          · exact .inr h)
     rw [succ_cast i (by omega)]
     exact this)
    refine Ev.step (fun k => ?_) (Ev.bind h1 (f := fun k t => (r_reach.f k l (nb l (rd (row (edgesOf l) v) i))).bind fun t2 => r_reach.l1 k l t ((row (edgesOf l) v).map (nb l)) i t2 ((0 : Nat) : Int)) (Ev.bind h2 (f := fun k t2 => r_reach.l1 k l ((insI (rd (row (edgesOf l) v) i) O).map (nb l)) ((row (edgesOf l) v).map (nb l)) i t2 ((0 : Nat) : Int)) h3))
    simp only [r_reach.l0]
    rw [if_pos (by rw [List.length_map]; omega), if_pos (by omega), rd_strs i hi2]
    rfl
  have hl := loop (row (edgesOf l) v).length 0 [] (by omega) (fun x hx => by cases hx) List.Pairwise.nil (by simp)
  refine Ev.step (fun k => ?_) (Ev.bind (imps_at G h0 h1) (f := fun k t => r_reach.l0 k l ([] : List ByteArray) t ((0 : Nat) : Int)) hl)
  simp only [r_reach.f]
  rfl
theorem reach_all (G : Good l) (A : Acy (edgesOf l)) {v : Int} (h0 : 0 <= v) (h1 : v < l.length) : Ev (fun k => r_reach.f k l (nb l v)) ((rpL (edgesOf l) v).map (nb l)) := by
 obtain ⟨lv, T, L, _⟩ := levels_ok (es_sm G) (es_vld G) A
 have := L.rng v ((seqn_nd G).2 ⟨h0, h1⟩)
 exact reach_at G L T v h0 h1 (by omega)
theorem names_dat (G : Good l) : (namesOf l).map dat = NL l := by
 unfold namesOf NL
 rw [List.map_map]
 have : ∀ q : List Nm, q.map (dat ∘ bz) = q := fun q => by
  conv => rhs; rw [<- List.map_id q]
  exact List.map_congr_left fun x _ => dat_bz x
 exact this _
theorem mem_names (G : Good l) (s : ByteArray) : dat s ∈ (namesOf l).map dat ↔ s ∈ namesOf l := mem_nm s _
theorem name_ix (G : Good l) {s : ByteArray} (h : s ∈ namesOf l) : ∃ v : Int, 0 <= v /\ v < l.length /\ s = nb l v := by
 rw [names_iota G] at h
 obtain ⟨v, hv, e⟩ := List.mem_map.1 h
 exact ⟨v, (mem_iota.1 hv).1, (mem_iota.1 hv).2, e.symm⟩
theorem reached_of (G : Good l) {es2 : List (List Int)} (hs2 : Sm es2) (hv2 : Vld es2) (hl2 : es2.length = l.length) {v : Int} (h0 : 0 <= v) (h1 : v < l.length) :
 m_reached.f (namesOf l) (edgesOf l) es2 (nb l v) = some (((rchL es2 [v]).filter (fun x => decide (x ≠ v))).map (nb l), 0, ⟨#[]⟩, 0, 0) := by
 have hlen := G.len
 have hm : nb l v ∈ namesOf l := by rw [names_iota G]; exact List.mem_map.2 ⟨v, mem_iota.2 ⟨h0, h1⟩, rfl⟩
 have hvn : nd es2 v := ⟨h0, by rw [hl2]; exact h1⟩
 have hvl : VL l (rchL es2 [v]) := fun x hx => by have := (mem_rchL.1 hx).1; unfold nd at this; rw [hl2] at this; exact this
 have hrl : (rchL es2 [v]).length <= l.length := VL.len G hvl ((iota_lt _).filter _)
 unfold m_reached.f
 rw [if_pos ⟨by rw [names_dat G]; exact (asc_lt _).imp (fun h => List.le_of_lt h), by rw [names_len G]; omega⟩, if_pos ((mem_names G _).2 hm)]
 have hr : (rank ((namesOf l).map dat) (dat (nb l v)) : Int) = v := by rw [names_dat G]; exact rank_nb G h0 h1
 have e1 := reach_ev hs2 v
 rw [reachM_eq' hv2 hvn] at e1
 have hL : (Od.lim fun k => (g_Reach.f k es2 (rank ((namesOf l).map dat) (dat (nb l v)) : Nat)).bind fun t => p_named.f k (namesOf l) (edgesOf l) t) = some ((rchL es2 [v]).map (nb l)) := ev_lim (by
  rw [hr]
  exact Ev.bind e1 (f := fun k t => p_named.f k (namesOf l) (edgesOf l) t) (named_at G hvl (by omega)))
 rw [hL, Option.bind_some]
 congr 2
 have : ∀ q : List Int, VL l q -> (q.map (nb l)).filter (fun x => !but (nb l v) x) = (q.filter (fun x => decide (x ≠ v))).map (nb l) := by
  intro q
  induction q with
  | nil => intro _; rfl
  | cons x q ih =>
   intro hq
   have hx := hq x (by simp)
   have hbut : (!but (nb l v) (nb l x)) = decide (x ≠ v) := by
    unfold but
    by_cases e : x = v
    · subst e; simp
    have : ¬ (nb l x).toList = (nb l v).toList := fun h => e (nb_inj G hx.1 hx.2 h0 h1 ((toL_iff _ _).1 h))
    simp [e, this]
   rw [List.map_cons, List.filter_cons, List.filter_cons, hbut, ih (fun y hy => hq y (by simp [hy]))]
   split <;> rfl
 exact this _ hvl
theorem reached_not (G : Good l) {es2 : List (List Int)} {s : ByteArray} (h : s ∉ namesOf l) : m_reached.f (namesOf l) (edgesOf l) es2 s = some ([], 16, s, 0, 0) := by
 have hlen := G.len
 unfold m_reached.f
 rw [if_pos ⟨by rw [names_dat G]; exact (asc_lt _).imp (fun h => List.le_of_lt h), by rw [names_len G]; omega⟩, if_neg (fun h2 => h ((mem_names G s).1 h2))]
theorem rch_rp (G : Good l) (A : Acy (edgesOf l)) {v : Int} (h0 : 0 <= v) (h1 : v < l.length) : (rchL (edgesOf l) [v]).filter (fun x => decide (x ≠ v)) = rpL (edgesOf l) v := by
 refine ltI_ext (((iota_lt _).filter _).filter _) (rpL_lt _ _) (fun x => ?_)
 rw [List.mem_filter, mem_rchL, mem_rpL, decide_eq_true_iff]
 constructor
 · rintro ⟨⟨hx, s, hs, hr⟩, hne⟩
   rw [List.mem_singleton] at hs
   subst hs
   exact ⟨hx, (rp_rc A ((seqn_nd G).2 ⟨h0, h1⟩)).2 ⟨hr, hne⟩⟩
 · rintro ⟨hx, hr⟩
   obtain ⟨g1, g2⟩ := (rp_rc A ((seqn_nd G).2 ⟨h0, h1⟩)).1 hr
   exact ⟨⟨hx, v, by simp, g1⟩, g2⟩
theorem addAll_len (v : Int) : ∀ (ls : List Int) (U : List (List Int)), (addAll U v ls).length = U.length := by
 intro ls
 induction ls with
 | nil => intro U; rfl
 | cons x ls ih => intro U; rw [addAll, ih, List.length_set]
theorem addAll_row (v : Int) : ∀ (ls : List Int) (U : List (List Int)) (w : Int), (∀ x ∈ ls, 0 <= x /\ x < U.length) -> 0 <= w -> (∀ y, y ∈ row (addAll U v ls) w ↔ y ∈ row U w \/ (y = v /\ w ∈ ls)) /\ (row (addAll U v ls) w).length <= (row U w).length + ls.length := by
 intro ls
 induction ls with
 | nil => intro U w _ _; exact ⟨fun y => by simp [addAll], by simp [addAll]⟩
 | cons x ls ih =>
  intro U w hx hw
  have hxx := hx x (by simp)
  obtain ⟨h1, h2⟩ := ih (U.set x.toNat (U.getD x.toNat [] ++ [v])) w (fun y hy => by rw [List.length_set]; exact hx y (by simp [hy])) hw
  have hr := row_set U x w (U.getD x.toNat [] ++ [v]) hxx.1 hxx.2 hw
  have e : U.getD x.toNat [] = row U x := rfl
  rw [e] at h1 h2 hr
  rw [addAll, e]
  rw [hr] at h1 h2
  refine ⟨fun y => ?_, ?_⟩
  · rw [h1 y]
    by_cases c : w = x
    rotate_left
    · rw [if_neg c, List.mem_cons]
      constructor
      · rintro (h | h)
        · exact .inl h
        · exact .inr ⟨h.1, .inr h.2⟩
      · rintro (h | ⟨h, h3 | h3⟩)
        · exact .inl h
        · exact absurd h3 c
        · exact .inr ⟨h, h3⟩
    subst c
    rw [if_pos rfl, List.mem_append, List.mem_singleton, List.mem_cons]
    constructor
    · rintro ((h | h) | h)
      · exact .inl h
      · exact .inr ⟨h, .inl rfl⟩
      · exact .inr ⟨h.1, .inr h.2⟩
    · rintro (h | ⟨h, _⟩)
      · exact .inl (.inl h)
      · exact .inl (.inr h)
  · by_cases c : w = x
    · subst c
      rw [if_pos rfl, List.length_append, List.length_singleton] at h2
      rw [if_pos rfl, List.length_cons] at *
      omega
    · rw [if_neg c] at h2
      rw [List.length_cons]
      omega
theorem backL_row (n : Nat) : ∀ (E : List (List Int)) (U : List (List Int)) (v : Int), U.length = n -> (∀ r ∈ E, ∀ x ∈ r, 0 <= x /\ x < n) -> (∀ r ∈ E, r.length <= 12) -> 0 <= v ->
 (backL U v E).length = n /\ ∀ w, 0 <= w -> (∀ y, y ∈ row (backL U v E) w ↔ y ∈ row U w \/ ∃ i : Nat, ∃ h : i < E.length, y = v + i /\ w ∈ E[i]) /\ (row (backL U v E) w).length <= (row U w).length + 12 * E.length := by
 intro E
 induction E with
 | nil => intro U v hU _ _ _; exact ⟨hU, fun w hw => ⟨fun y => by simp [backL], by simp [backL]⟩⟩
 | cons r E ih =>
  intro U v hU hE hl hv
  have hr1 := hE r (by simp)
  have hr2 := hl r (by simp)
  obtain ⟨g1, g2⟩ := ih (addAll U v r) (v + 1) (by rw [addAll_len]; exact hU) (fun q hq => hE q (by simp [hq])) (fun q hq => hl q (by simp [hq])) (by omega)
  rw [backL]
  refine ⟨g1, fun w hw => ?_⟩
  obtain ⟨a1, a2⟩ := addAll_row v r U w (fun x hx => by rw [hU]; exact hr1 x hx) hw
  obtain ⟨b1, b2⟩ := g2 w hw
  refine ⟨fun y => ?_, ?_⟩
  · rw [b1 y, a1 y]
    constructor
    · rintro ((h | ⟨h, h3⟩) | ⟨i, hi, h, h3⟩)
      · exact .inl h
      · exact .inr ⟨0, by simp, by omega, h3⟩
      · exact .inr ⟨i + 1, by simpa using hi, by omega, by simpa using h3⟩
    · rintro (h | ⟨i, hi, h, h3⟩)
      · exact .inl (.inl h)
      · cases i with
        | zero => exact .inl (.inr ⟨by omega, by simpa using h3⟩)
        | succ i => exact .inr ⟨i, by simpa using hi, by omega, by simpa using h3⟩
  · rw [List.length_cons]; omega
def bk (l : List S42) : List (List Int) := backL (List.replicate l.length []) 0 (edgesOf l)
theorem rows12 (G : Good l) (h12 : ∀ m ∈ l, m.f3.length <= 12) : ∀ r ∈ edgesOf l, r.length <= 12 /\ ∀ x ∈ r, 0 <= x /\ x < (l.length : Int) := by
 intro r hr
 obtain ⟨i, hi, rfl⟩ := List.mem_iff_getElem.1 hr
 have hil : i < l.length := by rw [es_len G] at hi; exact hi
 rw [<- row_mem _ i hi]
 refine ⟨?_, VL.row G (by omega) (by omega)⟩
 rw [row_es G (by omega) (by omega)]
 unfold edgeOf
 rw [List.length_map]
 refine Nat.le_trans (asc_len _) ?_
 unfold impsL
 cases h : l.find? (fun m => nm m == dat (nb l i)) with
 | none => simp
 | some m =>
  simp only [Option.map_some, Option.getD_some]
  rw [List.length_map]
  exact h12 m (List.mem_of_find?_eq_some h)
theorem bk_spec (G : Good l) (h12 : ∀ m ∈ l, m.f3.length <= 12) : (bk l).length = l.length /\ (∀ w, 0 <= w -> ∀ y, y ∈ row (bk l) w ↔ (0 <= y /\ y < l.length) /\ w ∈ row (edgesOf l) y) /\ ∀ w, 0 <= w -> (row (bk l) w).length <= 2000 := by
 have hr := rows12 G h12
 obtain ⟨h1, h2⟩ := backL_row l.length (edgesOf l) (List.replicate l.length []) 0 (by simp) (fun r hr2 => (hr r hr2).2) (fun r hr2 => (hr r hr2).1) (Int.le_refl _)
 refine ⟨h1, fun w hw y => ?_, fun w hw => ?_⟩
 · unfold bk
   rw [(h2 w hw).1 y, row_rep]
   constructor
   · rintro (h | ⟨i, hi, h, h3⟩)
     · cases h
     · have hil : i < l.length := by rw [es_len G] at hi; exact hi
       have e : y = (i : Int) := by omega
       subst e
       exact ⟨⟨by omega, by omega⟩, by rw [row_mem _ i hi]; exact h3⟩
   · rintro ⟨⟨y0, y1⟩, h3⟩
     obtain ⟨i, rfl⟩ : ∃ i : Nat, y = i := ⟨y.toNat, by omega⟩
     have hi : i < (edgesOf l).length := by rw [es_len G]; omega
     exact .inr ⟨i, hi, by omega, by rw [<- row_mem _ i hi]; exact h3⟩
 · have := (h2 w hw).2
   rw [row_rep, es_len G] at this
   have := G.len
   unfold bk
   simp only [List.length_nil] at *
   omega
theorem bk_sm (G : Good l) (h12 : ∀ m ∈ l, m.f3.length <= 12) : Sm (bk l) /\ Vld (bk l) := by
 obtain ⟨h1, h2, h3⟩ := bk_spec G h12
 have hlen := G.len
 refine ⟨⟨by omega, fun j _ => h3 _ (by omega)⟩, fun v hv w hw => ?_⟩
 have := ((h2 v hv.1 w).1 hw).1
 exact ⟨this.1, by rw [h1]; exact this.2⟩
theorem bk_rc (G : Good l) (h12 : ∀ m ∈ l, m.f3.length <= 12) {a b : Int} (ha : 0 <= a /\ a < l.length) : Rc (bk l) a b -> Rc (edgesOf l) b a := by
 obtain ⟨h1, h2, h3⟩ := bk_spec G h12
 intro h
 induction h with
 | refl => exact .refl _
 | @tail b c g1 g2 ih =>
  have hb : nd (bk l) b := by
   obtain ⟨m, hm⟩ := rc_wk g1
   exact wk_nd (bk_sm G h12).2 hm ⟨ha.1, by rw [h1]; exact ha.2⟩
  exact (Rc.edge ((h2 b hb.1 c).1 g2).2).trans ih
theorem rc_bk (G : Good l) (h12 : ∀ m ∈ l, m.f3.length <= 12) {a b : Int} (hb : 0 <= b /\ b < l.length) : Rc (edgesOf l) b a -> Rc (bk l) a b := by
 obtain ⟨h1, h2, h3⟩ := bk_spec G h12
 intro h
 induction h with
 | refl => exact .refl _
 | @tail x c g1 g2 ih =>
  have hx : nd (edgesOf l) x := by
   obtain ⟨m, hm⟩ := rc_wk g1
   exact wk_nd (es_vld G) hm ((seqn_nd G).2 hb)
  have hc := es_vld G x hx c g2
  exact (Rc.edge ((h2 c hc.1 x).2 ⟨(seqn_nd G).1 hx, g2⟩)).trans ih
noncomputable def usL (l : List S42) (v : Int) : List Int := (iota l.length).filter fun x => decide (Rp (edgesOf l) x v)
theorem rch_us (G : Good l) (A : Acy (edgesOf l)) (h12 : ∀ m ∈ l, m.f3.length <= 12) {v : Int} (h0 : 0 <= v) (h1 : v < l.length) : (rchL (bk l) [v]).filter (fun x => decide (x ≠ v)) = usL l v := by
 obtain ⟨b1, _, _⟩ := bk_spec G h12
 refine ltI_ext (((iota_lt _).filter _).filter _) ((iota_lt _).filter _) (fun x => ?_)
 unfold usL
 rw [List.mem_filter, mem_rchL, List.mem_filter, mem_iota, decide_eq_true_iff, decide_eq_true_iff]
 constructor
 · rintro ⟨⟨hx, s, hs, hr⟩, hne⟩
   rw [List.mem_singleton] at hs
   subst hs
   have hx' : 0 <= x /\ x < (l.length : Int) := by unfold nd at hx; rw [b1] at hx; exact hx
   exact ⟨hx', (rp_rc A ((seqn_nd G).2 hx')).2 ⟨bk_rc G h12 ⟨h0, h1⟩ hr, fun e => hne e.symm⟩⟩
 · rintro ⟨hx, hr⟩
   obtain ⟨g1, g2⟩ := (rp_rc A ((seqn_nd G).2 hx)).1 hr
   exact ⟨⟨⟨hx.1, by rw [b1]; exact hx.2⟩, v, by simp, rc_bk G h12 hx g1⟩, fun e => g2 e.symm⟩
end
section
variable {l : List S42}
theorem named_in (G : Good l) (h0 : (consF l).1 = 0) {C : List Int} (hC : Cyc l C) (hn : C = []) {s : ByteArray} (hs : s ∈ namesOf l) : Ev (fun k => r_named.f k l s) (0, ⟨#[]⟩, 0, 0) := by
 have hf := fault_ev G h0 hC
 unfold fltC at hf
 rw [if_pos hn] at hf
 have hlen := G.len
 have hh := has_ev (namesOf l) s (by rw [names_len G]; omega)
 rw [decide_eq_true hs] at hh
 have hnm := names_at G
 rw [<- names_iota G] at hnm
 refine Ev.congr (fun k => ?_) (Ev.bind hf (f := fun k bt => if bt.1 = 0 then ((r_Names.f k l).bind fun t => (q_Has.f k t s).bind fun t2 => if t2 = true then some (bt.1, bt.2.1, bt.2.2.1, bt.2.2.2) else some (16, s, 0, 0)) else some (bt.1, bt.2.1, bt.2.2.1, bt.2.2.2)) (Ev.congr (fun k => if_pos rfl) (Ev.bind hnm (f := fun k t => (q_Has.f k t s).bind fun t2 => if t2 = true then some (0, ⟨#[]⟩, 0, 0) else some (16, s, 0, 0)) (Ev.bind hh (f := fun k t2 => if t2 = true then some ((0 : Int), (⟨#[]⟩ : ByteArray), (0 : Int), (0 : Int)) else some ((16 : Int), s, (0 : Int), (0 : Int))) (Ev.congr (fun k => if_pos rfl) (Ev.now _))))))
 rfl
theorem named_out (G : Good l) (h0 : (consF l).1 = 0) {C : List Int} (hC : Cyc l C) (hn : C = []) {s : ByteArray} (hs : s ∉ namesOf l) : Ev (fun k => r_named.f k l s) (16, s, 0, 0) := by
 have hf := fault_ev G h0 hC
 unfold fltC at hf
 rw [if_pos hn] at hf
 have hlen := G.len
 have hh := has_ev (namesOf l) s (by rw [names_len G]; omega)
 rw [decide_eq_false hs] at hh
 have hnm := names_at G
 rw [<- names_iota G] at hnm
 refine Ev.congr (fun k => ?_) (Ev.bind hf (f := fun k bt => if bt.1 = 0 then ((r_Names.f k l).bind fun t => (q_Has.f k t s).bind fun t2 => if t2 = true then some (bt.1, bt.2.1, bt.2.2.1, bt.2.2.2) else some (16, s, 0, 0)) else some (bt.1, bt.2.1, bt.2.2.1, bt.2.2.2)) (Ev.congr (fun k => if_pos rfl) (Ev.bind hnm (f := fun k t => (q_Has.f k t s).bind fun t2 => if t2 = true then some (0, ⟨#[]⟩, 0, 0) else some (16, s, 0, 0)) (Ev.bind hh (f := fun k t2 => if t2 = true then some ((0 : Int), (⟨#[]⟩ : ByteArray), (0 : Int), (0 : Int)) else some ((16 : Int), s, (0 : Int), (0 : Int))) (Ev.congr (fun k => if_neg (by simp)) (Ev.now _))))))
 rfl
theorem named_bad {f : Int × ByteArray × Int × Int} (hf : Ev (fun k => r_fault.f k l) f) (hne : ¬ f.1 = 0) (s : ByteArray) : Ev (fun k => r_named.f k l s) f := by
 refine Ev.congr (fun k => ?_) (Ev.bind hf (f := fun k bt => if bt.1 = 0 then ((r_Names.f k l).bind fun t => (q_Has.f k t s).bind fun t2 => if t2 = true then some (bt.1, bt.2.1, bt.2.2.1, bt.2.2.2) else some (16, s, 0, 0)) else some (bt.1, bt.2.1, bt.2.2.1, bt.2.2.2)) (Ev.congr (fun k => if_neg hne) (Ev.now _)))
 rfl
theorem refneeds_bad {f : Int × ByteArray × Int × Int} {s : ByteArray} (hf : Ev (fun k => r_named.f k l s) f) (hne : ¬ f.1 = 0) : Ev (fun k => r_Needs.f k l s) ([], f) /\ Ev (fun k => r_Users.f k l s) ([], f) := by
 constructor
 · refine Ev.congr (fun k => ?_) (Ev.bind hf (f := fun k bt => if bt.1 = 0 then ((r_reach.f k l s).bind fun t => some (t, bt.1, bt.2.1, bt.2.2.1, bt.2.2.2)) else some (([] : List ByteArray), bt.1, bt.2.1, bt.2.2.1, bt.2.2.2)) (Ev.congr (fun k => if_neg hne) (Ev.now _)))
   rfl
 · refine Ev.congr (fun k => ?_) (Ev.bind hf (f := fun k bt => if bt.1 = 0 then ((r_Names.f k l).bind fun t => r_Users.l0 k l s ([] : List ByteArray) t 0 bt.1 bt.2.1 bt.2.2.1 bt.2.2.2) else some (([] : List ByteArray), bt.1, bt.2.1, bt.2.2.1, bt.2.2.2)) (Ev.congr (fun k => if_neg hne) (Ev.now _)))
   rfl
theorem refneeds_ok (G : Good l) (A : Acy (edgesOf l)) {v : Int} (v0 : 0 <= v) (v1 : v < l.length) (hf : Ev (fun k => r_named.f k l (nb l v)) (0, ⟨#[]⟩, 0, 0)) : Ev (fun k => r_Needs.f k l (nb l v)) ((rpL (edgesOf l) v).map (nb l), 0, ⟨#[]⟩, 0, 0) := by
 refine Ev.congr (fun k => ?_) (Ev.bind hf (f := fun k bt => if bt.1 = 0 then ((r_reach.f k l (nb l v)).bind fun t => some (t, bt.1, bt.2.1, bt.2.2.1, bt.2.2.2)) else some (([] : List ByteArray), bt.1, bt.2.1, bt.2.2.1, bt.2.2.2)) (Ev.congr (fun k => if_pos rfl) (Ev.bind (reach_all G A v0 v1) (f := fun k t => some (t, 0, ⟨#[]⟩, 0, 0)) (Ev.now _))))
 rfl
theorem refusers_ok (G : Good l) (A : Acy (edgesOf l)) {v : Int} (v0 : 0 <= v) (v1 : v < l.length) (hf : Ev (fun k => r_named.f k l (nb l v)) (0, ⟨#[]⟩, 0, 0)) : Ev (fun k => r_Users.f k l (nb l v)) ((usL l v).map (nb l), 0, ⟨#[]⟩, 0, 0) := by
 have hlen := G.len
 have hil : (iota l.length).length = l.length := iota_length _
 have loop : ∀ (m i : Nat), i + m = l.length -> Ev (fun k => r_Users.l0 k l (nb l v) ((((iota i).filter fun x => decide (Rp (edgesOf l) x v))).map (nb l)) ((iota l.length).map (nb l)) i 0 ⟨#[]⟩ 0 0) ((usL l v).map (nb l), 0, ⟨#[]⟩, 0, 0) := by
  intro m
  induction m with
  | zero =>
   intro i hi
   obtain rfl : i = l.length := by omega
   refine Ev.step (fun k => ?_) (Ev.now _)
   simp only [r_Users.l0]
   rw [if_neg (by rw [List.length_map, hil]; omega)]
   rfl
  | succ m ih =>
   intro i hi
   have hil2 : i < l.length := by omega
   have hr := reach_all G A (v := (i : Int)) (by omega) (by omega)
   have hh := has_at G (rpL_vl G (i : Int)) v0 v1 (by have := rpL_len G (i : Int); omega)
   have hrec := ih (i + 1) (by omega)
   rw [filt_snoc] at hrec
   have hbl := filt_len (fun x => decide (Rp (edgesOf l) x v)) i
   have hiff : v ∈ rpL (edgesOf l) (i : Int) ↔ Rp (edgesOf l) i v := by rw [mem_rpL]; exact ⟨fun h => h.2, fun h => ⟨(seqn_nd G).2 ⟨v0, v1⟩, h⟩⟩
   refine Ev.step (fun k => ?_) (Ev.bind hr (f := fun k t => (q_Has.f k t (nb l v)).bind fun t2 => if t2 = true then r_Users.l0 k l (nb l v) (((iota i).filter fun x => decide (Rp (edgesOf l) x v)).map (nb l) ++ [nb l i]) ((iota l.length).map (nb l)) ((i + 1 : Nat) : Int) 0 ⟨#[]⟩ 0 0 else r_Users.l0 k l (nb l v) (((iota i).filter fun x => decide (Rp (edgesOf l) x v)).map (nb l)) ((iota l.length).map (nb l)) ((i + 1 : Nat) : Int) 0 ⟨#[]⟩ 0 0)
    (Ev.bind hh (f := fun k t2 => if t2 = true then r_Users.l0 k l (nb l v) (((iota i).filter fun x => decide (Rp (edgesOf l) x v)).map (nb l) ++ [nb l i]) ((iota l.length).map (nb l)) ((i + 1 : Nat) : Int) 0 ⟨#[]⟩ 0 0 else r_Users.l0 k l (nb l v) (((iota i).filter fun x => decide (Rp (edgesOf l) x v)).map (nb l)) ((iota l.length).map (nb l)) ((i + 1 : Nat) : Int) 0 ⟨#[]⟩ 0 0) ?_))
   · simp only [r_Users.l0]
     rw [if_pos (by rw [List.length_map, hil]; omega), if_pos (by omega), rd_strs i (by rw [hil]; exact hil2), iota_rd _ _ hil2, succ_cast i (by omega)]
     have hbig : (((iota i).filter fun x => decide (Rp (edgesOf l) x v)).map (nb l)).length < 8796093022208 := by rw [List.length_map]; omega
     simp only [if_pos hbig]
   · by_cases c : Rp (edgesOf l) i v
     · rw [if_pos (decide_eq_true c), List.map_append, List.map_cons, List.map_nil] at hrec
       exact Ev.congr (fun k => if_pos (decide_eq_true (hiff.2 c))) hrec
     · rw [if_neg (by simpa using c), List.append_nil] at hrec
       exact Ev.congr (fun k => if_neg (by simpa using fun h => c (hiff.1 h))) hrec
 have hl := loop l.length 0 (by omega)
 have e0 : (((iota 0).filter fun x => decide (Rp (edgesOf l) x v))).map (nb l) = [] := rfl
 rw [e0] at hl
 refine Ev.congr (fun k => ?_) (Ev.bind hf (f := fun k bt => if bt.1 = 0 then ((r_Names.f k l).bind fun t => r_Users.l0 k l (nb l v) ([] : List ByteArray) t ((0 : Nat) : Int) bt.1 bt.2.1 bt.2.2.1 bt.2.2.2) else some (([] : List ByteArray), bt.1, bt.2.1, bt.2.2.1, bt.2.2.2)) (Ev.congr (fun k => if_pos rfl) (Ev.bind (names_at G) (f := fun k t => r_Users.l0 k l (nb l v) ([] : List ByteArray) t ((0 : Nat) : Int) 0 ⟨#[]⟩ 0 0) hl)))
 rfl
theorem progneeds_of {bt : List ByteArray × List (List Int) × Int × ByteArray × Int × Int} (ha : Ev (fun k => m_acyclic.f k l) bt) (s : ByteArray) {r : List ByteArray × Int × ByteArray × Int × Int} (h : (if bt.2.2.1 = 0 then m_reached.f bt.1 bt.2.1 bt.2.1 s else some ([], bt.2.2.1, bt.2.2.2.1, bt.2.2.2.2.1, bt.2.2.2.2.2)) = some r) : Ev (fun k => m_Needs.f k l s) r := by
 refine Ev.congr (fun k => ?_) (Ev.bind ha (f := fun k bt => if bt.2.2.1 = 0 then ((m_reached.f bt.1 bt.2.1 bt.2.1 s).bind fun t => some (t.1, t.2.1, t.2.2.1, t.2.2.2.1, t.2.2.2.2)) else some (([] : List ByteArray), bt.2.2.1, bt.2.2.2.1, bt.2.2.2.2.1, bt.2.2.2.2.2)) (Ev.congr (fun k => ?_) (Ev.now r)))
 · rfl
 · by_cases c : bt.2.2.1 = 0
   · rw [if_pos c] at h ⊢
     rw [h]
     rfl
   · rw [if_neg c] at h ⊢
     exact h
theorem progusers_ok (G : Good l) (hs : okSizes l) (h0 : (consF l).1 = 0) {C : List Int} (hC : Cyc l C) (hn : C = []) (h12 : ∀ m ∈ l, m.f3.length <= 12) (s : ByteArray) : m_Users.f l s = m_reached.f (namesOf l) (edgesOf l) (bk l) s := by
 have ha := acyclic_ev G hs h0 hC
 rw [if_pos hn] at ha
 have hlen := G.len
 have hr := rows12 G h12
 unfold m_Users.f
 rw [ev_lim ha, Option.bind_some, if_pos rfl, if_pos ⟨by rw [names_len G]; omega, by rw [es_len G]; omega, fun r hr2 => ⟨by have := (hr r hr2).1; omega, fun x hx => by rw [names_len G]; exact (hr r hr2).2 x hx⟩⟩, names_len G]
 rfl
theorem progusers_bad {f : Int × ByteArray × Int × Int} (ha : Ev (fun k => m_acyclic.f k l) ([], [], f)) (hne : ¬ f.1 = 0) (s : ByteArray) : m_Users.f l s = some ([], f) := by
 unfold m_Users.f
 rw [ev_lim ha, Option.bind_some, if_neg hne]
theorem needs_users (l : List S42) (hs : okSizes l) (h12 : ∀ m ∈ l, m.f3.length <= 12) (s : ByteArray) : ∃ (a : List ByteArray) (f : Int × ByteArray × Int × Int) (c : List ByteArray) (h : Int × ByteArray × Int × Int), a.length < 1000000 /\ c.length < 1000000 /\
 Ev (fun k => m_Needs.f k l s) (a, f) /\ Ev (fun k => r_Needs.f k l s) (a, f) /\ m_Users.f l s = some (c, h) /\ Ev (fun k => r_Users.f k l s) (c, h) := by
 by_cases h0 : (consF l).1 = 0
 rotate_left
 · obtain ⟨q1, q2⟩ := refneeds_bad (named_bad (fault_bad (fun m hm => by have := h12 m hm; omega) h0) h0 s) h0
   have ha := acyclic_bad hs h0
   exact ⟨[], _, [], _, by simp, by simp, progneeds_of ha s (if_neg h0), q1, progusers_bad ha h0 s, q2⟩
 have G := good_of h0 (fun m hm => by have := h12 m hm; omega)
 have hlen := G.len
 obtain ⟨C, hC⟩ := cyc_ex G h0
 have ha := acyclic_ev G hs h0 hC
 by_cases hn : C = []
 rotate_left
 · rw [if_neg hn] at ha
   have hne : ¬ (fltC l C).1 = 0 := by unfold fltC; rw [if_neg hn]; show ¬ (18 : Int) = 0; decide
   obtain ⟨q1, q2⟩ := refneeds_bad (named_bad (fault_ev G h0 hC) hne s) hne
   exact ⟨[], _, [], _, by simp, by simp, progneeds_of ha s (if_neg hne), q1, progusers_bad ha hne s, q2⟩
 rw [if_pos hn] at ha
 have A := acy_of hC hn
 have hu := progusers_ok G hs h0 hC hn h12 s
 by_cases hm : s ∈ namesOf l
 rotate_left
 · have hnm := named_out G h0 hC hn hm
   obtain ⟨q1, q2⟩ := refneeds_bad hnm (by show ¬ (16 : Int) = 0; decide)
   exact ⟨[], _, [], _, by simp, by simp, progneeds_of ha s (by rw [if_pos rfl]; exact reached_not G hm), q1, hu.trans (reached_not G hm), q2⟩
 obtain ⟨v, v0, v1, rfl⟩ := name_ix G hm
 have hnm := named_in G h0 hC hn hm
 have r1 := reached_of G (es_sm G) (es_vld G) (es_len G) v0 v1
 rw [rch_rp G A v0 v1] at r1
 have r2 := reached_of G (bk_sm G h12).1 (bk_sm G h12).2 (bk_spec G h12).1 v0 v1
 rw [rch_us G A h12 v0 v1, <- hu] at r2
 refine ⟨_, _, _, _, ?_, ?_, progneeds_of ha _ (by rw [if_pos rfl]; exact r1), refneeds_ok G A v0 v1 hnm, r2, refusers_ok G A v0 v1 hnm⟩
 · rw [List.length_map]; have := rpL_len G v; omega
 · rw [List.length_map]; have := filt_len (fun x => decide (Rp (edgesOf l) x v)) l.length; unfold usL; omega
end
theorem ModgraphNeeds (l : List S42) (hz : ∀ x ∈ l, x.f0.size <= maxLen /\ ∀ i ∈ x.f3, i.f0.size <= maxLen) (hl : l.length <= 9223372036854775807) (s : ByteArray) : ∃ k, w_ModgraphNeeds.f k l s = some true := by
  refine Ev.rounds (g := fun k => w_ModgraphNeeds.f k l s) ?_
  obtain ⟨b, b1, b2⟩ := small_ev l hl
  cases b with
  | false =>
    obtain ⟨K0, k0⟩ := b1
    refine ⟨K0, fun k hk => ?_⟩
    have q0 : w_small.f k l = some false := k0 k hk
    show w_ModgraphNeeds.f k l s = some true
    unfold w_ModgraphNeeds.f
    rw [q0, Option.bind_some, if_neg (by simp)]
    rfl
  | true =>
    obtain ⟨hf, _⟩ := b2 rfl
    have hs := okSizes_of hz hf
    obtain ⟨a, f, c, h, a1, c1, e1, e2, e3, e4⟩ := needs_users l hs hf s
    have hs1 := same_ev a a a1
    have hs2 := same_ev c c c1
    rw [decide_eq_true rfl] at hs1 hs2
    obtain ⟨K0, k0⟩ := b1
    obtain ⟨K1, k1⟩ := e1
    obtain ⟨K2, k2⟩ := e2
    obtain ⟨K4, k4⟩ := e4
    obtain ⟨K5, k5⟩ := hs1
    obtain ⟨K6, k6⟩ := hs2
    refine ⟨K0 + K1 + K2 + K4 + K5 + K6, fun k hk => ?_⟩
    have q0 : w_small.f k l = some true := k0 k (by omega)
    have q1 : m_Needs.f k l s = some (a, f) := k1 k (by omega)
    have q2 : r_Needs.f k l s = some (a, f) := k2 k (by omega)
    have q4 : r_Users.f k l s = some (c, h) := k4 k (by omega)
    have q5 : w_same.f k a a = some true := k5 k (by omega)
    have q6 : w_same.f k c c = some true := k6 k (by omega)
    show w_ModgraphNeeds.f k l s = some true
    unfold w_ModgraphNeeds.f
    rw [q0, Option.bind_some, if_pos rfl, q1, Option.bind_some, q2, Option.bind_some, e3, Option.bind_some, q4, Option.bind_some]
    dsimp only
    rw [q5, Option.bind_some, if_pos rfl]
    simp only [beq_self_eq_true, Bool.and_self, if_true]
    rw [q6, Option.bind_some, if_pos rfl]
    rfl
end Tp
end Go.Proofs.Ytmadhaccjmakdaa
namespace Go.Proofs.Ytmadhaccjmakdaa.modgraphNeeds
open Go.ChangeShapes Go.WideShapes Go.ChangeAt Go.RowKit Go.Proofs.Yw.A
theorem own : ownKnob Try.prog.godebug = none := by kernel_rfl
theorem laidOut : laidOutB Try.prog = true := by kernel_rfl
theorem lifted (os : Os) (started : os.Started) (H : Type) (enc : TypeId × Value -> H) :
 ReturnsInHanded {} Try.checked os 4 .any (Rows.modgraphNeedsSpec.pre6 enc Try.prog Try.f4 Rows.modgraphNeedsRow.domain false) (Rows.modgraphNeedsSpec.post enc Try.prog Try.f4 false true false false) := by
 refine returnsInHanded_of_change_sized (C := Try.checked) own started (by kernel_rfl) Try.func4
  (ChangeSpec.witness6 (enc := enc) (C := Try.checked) false ⟨#[], #[.slice none 0 0, .string ByteArray.empty], []⟩ 8 (by kernel_rfl) (by kernel_rfl) (by kernel_rfl) (by kernel_rfl)) ?_
 intro W base args ds gs before hval0 hW hcnd hsz0 _
 have hsz : (DataW.weightsEach Try.prog (Try.f4.params.toList ++ Rows.modgraphNeedsSpec.plain.varTypes Try.prog) (ds ++ gs)).all (· <= reachBytes) = true := hsz0
 have hval : ∀ (j : Nat) t v, Try.f4.params[j]? = some t -> args[j]? = some v -> Value.okWide Try.prog W .any base t v := hval0
 have hW' := hW
 obtain ⟨p, q, hA0, hV, rfl, hfz, hnd⟩ := hW
 have hA : DataW.TrodAll enc Try.prog W 0 (fun _ => true) true Try.f4.params.toList args.toList ds p := hA0
 rw [Try.params4] at hA hval hsz
 obtain ⟨v0, vs0, d0, ds0, p0, q0, hargs, rfl, rfl, h0, r0⟩ := trodAll_cons hA
 obtain ⟨v1, vs1, d1, ds1, p1, q1, rfl, rfl, rfl, h1, r1⟩ := trodAll_cons r0
 obtain ⟨rfl, rfl, rfl⟩ := trodAll_nil r1
 obtain rfl : args = #[v0, v1] := by cases args; simp_all
 obtain ⟨rfl, rfl⟩ := trodVars_none hV
 have k0 := h0
 have lt0 : ∀ x ∈ p0, x.block < W.heap.size := by obtain ⟨m, hm⟩ := k0; exact DataW.trod_lt m _ _ _ hm
 obtain ⟨A0, c0, l0, rfl, hc0, hr0, y0⟩ := Op.Opens.arg Try.underlying22 Op.opens22 (hval 0 22 v0 rfl rfl) h0
 obtain ⟨a1, rfl, rfl, rfl, y1⟩ := Go.ChangeMaps.open_string Try.underlying9 (hval 1 9 v1 rfl rfl) h1
 clear hA0 hval0 hsz0 hsz
 obtain ⟨kr, hkr⟩ := Tp.ModgraphNeeds l0 y0 (Kd.C_max hr0) a1
 refine (P.w_ModgraphNeeds.calls kr A0 c0 l0 a1 true W hr0 hc0 hkr).mono fun e W' ⟨he, bel⟩ => ?_
 subst he
 exact ⟨_, rfl, _, _, _, [], _, [], hW', trodAll_mk1 (shut_bool Try.underlying4 _), (trodAll_cons_mk (Below.trod laidOut (by kernel_rfl) (of_decide_eq_true (by kernel_rfl)) k0 bel lt0) (trodAll_cons_mk (Go.ChangeMaps.shut_string Try.underlying9 y1) trodAll_mk0)), rfl, bel.frame _, fun h => by cases h⟩
theorem over : Rows.modgraphNeedsRow.holds Try.pinned (OpenSpec.ofChange Rows.modgraphNeedsSpec) :=
 OpenClaim.holds_of_wide 4 Try.f4 rfl rfl rfl rfl rfl rfl rfl ⟨rfl, rfl, rfl, rfl, rfl⟩ rfl rfl rfl rfl rfl (by kernel_rfl) Try.func4 (by kernel_rfl)
  (of_decide_eq_true (by kernel_rfl)) (by unfold Func.isWrapper; first | (rw [if_pos (by decide +kernel)]; kernel_rfl) | (rw [if_neg (by decide +kernel)]; exact ⟨rfl, rfl⟩))
  (fun os started H enc _ => lifted os started H enc)
theorem proved : Rows.ModgraphNeedsSaid := over
#print axioms proved
end Go.Proofs.Ytmadhaccjmakdaa.modgraphNeeds
namespace Go.Proofs.Ytmadhaccjmakdaa
theorem modgraphNeeds_holds : Rows.ModgraphNeedsSaid := modgraphNeeds.proved
end Go.Proofs.Ytmadhaccjmakdaa
