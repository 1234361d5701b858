/- Part 5 of 5 of one proof: The law GraphLevels of the graph chapter holds: for every input it returns true, and the input reads as it did -/
import Derived.Below
import Derived.ChangeOld
import Derived.OpenShut
import Derived.ProofKit
import Derived.ShutString
import Derived.SizedLaws
import Derived.Test.YtpmjpngmmphkmaaRows
import Derived.WalkKit
import Derived.Test.YtpmjpngmmphkmaaMLevels1
import Derived.Test.YtpmjpngmmphkmaaMLevels2
import Derived.Test.YtpmjpngmmphkmaaMLevels3
import Derived.Test.YtpmjpngmmphkmaaMLevels4
set_option linter.unusedVariables false
set_option linter.unusedSimpArgs false
/- GraphLevels as printed answers true for every graph whose rows have a bounded length. -/
namespace Go.Proofs.Ytpmjpngmmphkmaa
open Go.RowKit Go.Proofs.YtpmjpngmmphkmaaW.PrintWords Go.Proofs.YtpmjpngmmphkmaaW.PrintLast Go.Proofs.YtpmjpngmmphkmaaW.PrintMore Go.Proofs.Ytpmjpngmmphkmaa.P
namespace Tp
open Tj Rw Od Lv Lo Rl
open Classical
set_option linter.unusedVariables false

theorem ev_lim {α : Type} {F : Nat → Option α} {r : α} (h : Ev F r) : Od.lim F = some r := by
  obtain ⟨K, hK⟩ := h
  exact Od.lim_of (k0 := K) hK
theorem rc_first {es : List (List Int)} {a b : Int} (h : Rc es a b) : a = b ∨ ∃ s ∈ row es a, Rc es s b := by
  induction h with
  | refl => exact .inl rfl
  | @tail b c h1 h2 ih =>
    rcases ih with rfl | ⟨s, s1, s2⟩
    · exact .inr ⟨c, h2, .refl c⟩
    · exact .inr ⟨s, s1, s2.tail h2⟩

/-- A component with a cycle. -/
def Bad (l : List (List Int)) (c : List Int) : Prop := 1 < c.length ∨ (row l (rd c 0)).contains (rd c 0) = true
theorem bad_of_cyc {l o : List (List Int)} (hv : Vld l) (ho : Full l o) {i : Int} (h : cycM l i = true) : ∃ c ∈ o, Bad l c := by
  have P := kahn_parts hv ho.1
  obtain ⟨_, hi, s, hs, hr⟩ := of_decide_eq_true h
  obtain ⟨c, hc, hic⟩ := List.mem_flatten.1 (ho.2 i hi)
  refine ⟨c, hc, ?_⟩
  obtain ⟨m, m1, rfl⟩ := P.scc c hc
  obtain ⟨_, a1, a2⟩ := mem_scc.1 hic
  by_cases hl : 1 < (scc l m).length
  · exact .inl hl
  · right
    have hsm : s ∈ scc l m := mem_scc.2 ⟨hv i hi s hs, a1.trans (Rc.edge hs), hr.trans a2⟩
    have hone : ∀ x ∈ scc l m, x = rd (scc l m) 0 := by
      intro x hx
      obtain ⟨j, hj, rfl⟩ := mem_rd _ _ hx
      have : j = 0 := by omega
      subst this
      rfl
    rw [← hone i hic, List.contains_iff_mem]
    have e : s = i := (hone s hsm).trans (hone i hic).symm
    rw [e] at hs
    exact hs
theorem cyc_of_bad {l o : List (List Int)} (hv : Vld l) (ho : Full l o) {c : List Int} (hc : c ∈ o) (h : Bad l c) : ∃ i, nd l i ∧ cycM l i = true := by
  have P := kahn_parts hv ho.1
  have hasc := P.asc c hc
  obtain ⟨m, m1, rfl⟩ := P.scc c hc
  have hpos := List.length_pos_of_mem (mem_scc.2 ⟨m1, .refl m, .refl m⟩)
  have h0 : rd (scc l m) 0 ∈ scc l m := rd_mem _ _ (Int.le_refl _) (by omega)
  obtain ⟨n0, a1, a2⟩ := mem_scc.1 h0
  refine ⟨rd (scc l m) 0, n0, decide_eq_true ⟨hv, n0, ?_⟩⟩
  rcases h with h | h
  · have h1 : rd (scc l m) ((1 : Nat) : Int) ∈ scc l m := by rw [rd_at _ 1 h]; exact List.getElem_mem _
    obtain ⟨n1, b1, b2⟩ := mem_scc.1 h1
    have hne : rd (scc l m) 0 ≠ rd (scc l m) ((1 : Nat) : Int) := by
      have : rd (scc l m) ((0 : Nat) : Int) < rd (scc l m) ((1 : Nat) : Int) := by
        rw [rd_at _ 0 hpos, rd_at _ 1 h]
        exact List.pairwise_iff_getElem.1 hasc 0 1 hpos h (by omega)
      have e : rd (scc l m) ((0 : Nat) : Int) = rd (scc l m) 0 := rfl
      omega
    rcases rc_first (a2.trans b1) with e | ⟨s, s1, s2⟩
    · exact absurd e hne
    · exact ⟨s, s1, s2.trans (b2.trans a1)⟩
  · exact ⟨_, List.contains_iff_mem.1 h, .refl _⟩

/-- The loop over a node's edges sets that node's level alone. -/
theorem lv1_ev {l : List (List Int)} (hs : Sm l) (hv : Vld l) {v : Int} (hn : nd l v) (hself : v ∉ row l v) {B : Int} (hB0 : 0 ≤ B) (hB : B ≤ 100) {lv0' : List Int} (hlen : lv0'.length = l.length) (hb : ∀ x, nd l x → 0 ≤ rd lv0' x ∧ rd lv0' x ≤ B) :
    ∃ x, 0 ≤ x ∧ x ≤ B + 1 ∧ Ev (fun k => lv1 k v (row l v) 0 lv0') (lv0'.set v.toNat x) := by
  have hr := hs.row v
  have key : ∀ (m q : Nat) (y : Int), q + m = (row l v).length → 0 ≤ y → y ≤ B + 1 → ∃ x, 0 ≤ x ∧ x ≤ B + 1 ∧ Ev (fun k => lv1 k v (row l v) q (lv0'.set v.toNat y)) (lv0'.set v.toNat x) := by
    intro m
    induction m with
    | zero =>
      intro q y hq h0 h1
      refine ⟨y, h0, h1, Ev.step (fun k => ?_) (Ev.now _)⟩
      rw [lv1, if_neg (show ¬ (q : Int) < ((row l v).length : Int) by omega)]
    | succ m ih =>
      intro q y hq h0 h1
      have hql : q < (row l v).length := by omega
      have hwm : rd (row l v) q ∈ row l v := by rw [rd_at _ q hql]; exact List.getElem_mem _
      have hwn := hv v hn _ hwm
      have hwb := hb _ hwn
      have hne : rd (row l v) q ≠ v := fun e => hself (Eq.subst (motive := fun x => x ∈ row l v) e hwm)
      have e1 : rd (lv0'.set v.toNat y) (rd (row l v) q) = rd lv0' (rd (row l v) q) := by rw [rd_set _ _ _ _ hn.1 (by rw [hlen]; exact hn.2) hwn.1, if_neg hne]
      have e2 : rd (lv0'.set v.toNat y) v = y := by rw [rd_set _ _ _ _ hn.1 (by rw [hlen]; exact hn.2) hn.1, if_pos rfl]
      have e3 : wrap64 (rd lv0' (rd (row l v) q) + 1) = rd lv0' (rd (row l v) q) + 1 := w64 _ (by omega) (by omega)
      obtain ⟨x, x0, x1, x2⟩ := ih (q + 1) (max y (rd lv0' (rd (row l v) q) + 1)) (by omega) (by omega) (by omega)
      refine ⟨x, x0, x1, Ev.step (fun k => ?_) x2⟩
      rw [lv1, if_pos (show (q : Int) < ((row l v).length : Int) by omega), if_pos ⟨hwn.1, by rw [List.length_set, hlen]; exact hwn.2⟩, e1, e2, e3, List.set_set, show (q : Int) + 1 = ((q + 1 : Nat) : Int) by omega]
  have hsame : lv0'.set v.toNat (rd lv0' v) = lv0' := by
    refine List.ext_getElem (by simp) fun i h1 h2 => ?_
    rw [List.getElem_set]
    split
    · rename_i e
      subst e
      obtain ⟨j, rfl⟩ := Int.eq_ofNat_of_zero_le hn.1
      exact rd_at lv0' j h2
    · rfl
  obtain ⟨x, x0, x1, x2⟩ := key (row l v).length 0 (rd lv0' v) (by omega) (hb v hn).1 (by have := (hb v hn).2; omega)
  rw [hsame] at x2
  exact ⟨x, x0, x1, x2⟩

/-- Levels of what is processed. -/
structure Lvd (l o : List (List Int)) (i : Nat) (lv : List Int) (top : Int) : Prop where
  len : lv.length = l.length
  rng : ∀ x, nd l x → 0 ≤ rd lv x ∧ rd lv x ≤ i
  tp : ∀ x ∈ (o.take i).flatten, rd lv x ≤ top
  hit : (i = 0 ∧ top = -1) ∨ ∃ x ∈ (o.take i).flatten, rd lv x = top

theorem lev_loop {l o : List (List Int)} (hs : Sm l) (hv : Vld l) (ho : Full l o) (hok : ∀ c ∈ o, ¬ Bad l c) : ∀ (m i : Nat) (lv : List Int) (top : Int), i + m = o.length → Lvd l o i lv top →
    ∃ lv' top', Ev (fun k => lv0 k l o i lv top) (some (lv', top')) ∧ Ev (fun k => lng0 k l o i lv) lv' ∧ Lvd l o o.length lv' top' := by
  have P := kahn_parts hv ho.1
  have h60 := hs.1
  obtain ⟨f1, f2, f3⟩ := full_len hv ho
  intro m
  induction m with
  | zero =>
    intro i lv top hi h
    obtain rfl : i = o.length := by omega
    refine ⟨lv, top, Ev.step (fun k => ?_) (Ev.now _), Ev.step (fun k => ?_) (Ev.now _), h⟩
    · rw [lv0, if_neg (by omega)]
    · rw [lng0, if_neg (by omega)]
  | succ m ih =>
    intro i lv top hi h
    have hil : i < o.length := by omega
    have hcm := row_in o i hil
    have hbad := hok _ hcm
    obtain ⟨x, x1, hx⟩ := P.scc _ hcm
    have hpos : 0 < (row o (i : Int)).length := by rw [hx]; exact List.length_pos_of_mem (mem_scc.2 ⟨x1, .refl x, .refl x⟩)
    have hv0m : rd (row o (i : Int)) 0 ∈ row o (i : Int) := rd_mem _ _ (Int.le_refl _) (by omega)
    have hvn : nd l (rd (row o (i : Int)) 0) := by rw [hx] at hv0m; rw [hx]; exact (mem_scc.1 hv0m).1
    have hl1 : (row o (i : Int)).length = 1 := by unfold Bad at hbad; omega
    have hself : rd (row o (i : Int)) 0 ∉ row l (rd (row o (i : Int)) 0) := fun e => hbad (.inr (List.contains_iff_mem.2 e))
    have hone : ∀ y ∈ row o (i : Int), y = rd (row o (i : Int)) 0 := by
      intro y hy
      obtain ⟨j, hj, rfl⟩ := mem_rd _ _ hy
      have : j = 0 := by omega
      subst this
      rfl
    have hfl : ∀ y, y ∈ (o.take (i + 1)).flatten ↔ y ∈ (o.take i).flatten ∨ y = rd (row o (i : Int)) 0 := by
      intro y
      rw [List.take_succ_eq_append_getElem hil, List.flatten_append, List.mem_append, ← row_mem o i hil]
      simp only [List.flatten_cons, List.flatten_nil, List.append_nil]
      constructor
      · rintro (e | e)
        · exact .inl e
        · exact .inr (hone y e)
      · rintro (e | e)
        · exact .inl e
        · rw [e]; exact .inr hv0m
    obtain ⟨z, z0, z1, z2⟩ := lv1_ev hs hv hvn hself (B := i) (by omega) (by omega) h.len h.rng
    have hr2 : ∀ y, nd l y → rd (lv.set (rd (row o (i : Int)) 0).toNat z) y = if y = rd (row o (i : Int)) 0 then z else rd lv y := fun y hy => rd_set _ _ _ _ hvn.1 (by rw [h.len]; exact hvn.2) hy.1
    have hnd : ∀ y ∈ (o.take (i + 1)).flatten, nd l y := by
      intro y hy
      obtain ⟨c, hc, hyc⟩ := List.mem_flatten.1 hy
      obtain ⟨x', _, rfl⟩ := P.scc c (List.mem_of_mem_take hc)
      exact (mem_scc.1 hyc).1
    have hv2 := hr2 _ hvn
    rw [if_pos rfl] at hv2
    have hnot : rd (row o (i : Int)) 0 ∉ (o.take i).flatten := by
      intro hm
      obtain ⟨c, hc, hyc⟩ := List.mem_flatten.1 hm
      obtain ⟨j, hj, rfl⟩ := List.mem_iff_getElem.1 hc
      have hjl : j < i := by simp at hj; omega
      rw [List.getElem_take] at hyc
      have := (List.pairwise_iff_getElem.1 (List.pairwise_flatten.1 P.one).2) j i (by omega) hil hjl _ hyc _ (by rw [← row_mem o i hil]; exact hv0m)
      exact this rfl
    obtain ⟨lv', top', q1, q2, q3⟩ := ih (i + 1) (lv.set (rd (row o (i : Int)) 0).toNat z) (max top z) (by omega) ⟨by rw [List.length_set]; exact h.len, fun y hy => by
        rw [hr2 y hy]
        have := h.rng y hy
        split <;> omega, fun y hy => by
        rw [hr2 y (hnd y hy)]
        split
        · omega
        · rename_i hne
          rcases (hfl y).1 hy with e | e
          · have := h.tp y e; omega
          · exact absurd e hne, by
        right
        by_cases hz : top ≤ z
        · exact ⟨_, (hfl _).2 (.inr rfl), by rw [hv2]; omega⟩
        · rcases h.hit with ⟨_, e⟩ | ⟨y, y1, y2⟩
          · omega
          · refine ⟨y, (hfl y).2 (.inl y1), ?_⟩
            rw [hr2 y (hnd y ((hfl y).2 (.inl y1))), if_neg (show y ≠ rd (row o (i : Int)) 0 from fun e => hnot (Eq.subst (motive := fun z => z ∈ (o.take i).flatten) e y1))]
            omega⟩
    refine ⟨lv', top', Ev.step (fun k => ?_) (Ev.bind z2 (f := fun k lv2 => lv0 k l o ((i + 1 : Nat) : Int) lv2 (max top (rd lv2 (rd (row o (i : Int)) 0)))) (by rw [hv2]; exact q1)), Ev.step (fun k => ?_) (Ev.bind z2 (f := fun k lv2 => lng0 k l o ((i + 1 : Nat) : Int) lv2) q2), q3⟩
    · rw [lv0, if_pos (show (i : Int) < (o.length : Int) by omega), if_pos ⟨hpos, hvn.1, hvn.2⟩, if_neg (show ¬ (1 < (row o (i : Int)).length ∨ (row l (rd (row o (i : Int)) 0)).contains (rd (row o (i : Int)) 0) = true) from hbad), show (i : Int) + 1 = ((i + 1 : Nat) : Int) by omega]
    · rw [lng0, if_pos (show (i : Int) < (o.length : Int) by omega), if_pos ⟨hpos, hvn.1, hvn.2⟩, show (i : Int) + 1 = ((i + 1 : Nat) : Int) by omega]

theorem lev_bad {l o : List (List Int)} (hs : Sm l) (hv : Vld l) (ho : Full l o) : ∀ (m i : Nat) (lv : List Int) (top : Int), i + m = o.length → (∃ c ∈ o.drop i, Bad l c) → lv.length = l.length → (∀ x, nd l x → 0 ≤ rd lv x ∧ rd lv x ≤ i) →
    Ev (fun k => lv0 k l o i lv top) none := by
  have P := kahn_parts hv ho.1
  have h60 := hs.1
  obtain ⟨f1, f2, f3⟩ := full_len hv ho
  intro m
  induction m with
  | zero =>
    intro i lv top hi hb
    rw [List.drop_eq_nil_of_le (by omega)] at hb
    simp at hb
  | succ m ih =>
    intro i lv top hi hb hlen hrng
    have hil : i < o.length := by omega
    have hcm := row_in o i hil
    obtain ⟨x, x1, hx⟩ := P.scc _ hcm
    have hpos : 0 < (row o (i : Int)).length := by rw [hx]; exact List.length_pos_of_mem (mem_scc.2 ⟨x1, .refl x, .refl x⟩)
    have hv0m : rd (row o (i : Int)) 0 ∈ row o (i : Int) := rd_mem _ _ (Int.le_refl _) (by omega)
    have hvn : nd l (rd (row o (i : Int)) 0) := by rw [hx] at hv0m; rw [hx]; exact (mem_scc.1 hv0m).1
    by_cases hbad : Bad l (row o (i : Int))
    · refine Ev.step (fun k => ?_) (Ev.now _)
      rw [lv0, if_pos (show (i : Int) < (o.length : Int) by omega), if_pos ⟨hpos, hvn.1, hvn.2⟩, if_pos (show (1 < (row o (i : Int)).length ∨ (row l (rd (row o (i : Int)) 0)).contains (rd (row o (i : Int)) 0) = true) from hbad)]
    · have hself : rd (row o (i : Int)) 0 ∉ row l (rd (row o (i : Int)) 0) := fun e => hbad (.inr (List.contains_iff_mem.2 e))
      obtain ⟨z, z0, z1, z2⟩ := lv1_ev hs hv hvn hself (B := i) (by omega) (by omega) hlen hrng
      rw [drop_rows o i hil] at hb
      obtain ⟨c, hc, hcb⟩ := hb
      rcases List.mem_cons.1 hc with e | e
      · rw [e] at hcb; exact absurd hcb hbad
      · refine Ev.step (fun k => ?_) (Ev.bind z2 (f := fun k lv2 => lv0 k l o ((i + 1 : Nat) : Int) lv2 (max top (rd lv2 (rd (row o (i : Int)) 0)))) (ih (i + 1) _ _ (by omega) ⟨c, e, hcb⟩ (by rw [List.length_set]; exact hlen) (fun y hy => by
          rw [rd_set _ _ _ _ hvn.1 (by rw [hlen]; exact hvn.2) hy.1]
          have := hrng y hy
          split <;> omega)))
        rw [lv0, if_pos (show (i : Int) < (o.length : Int) by omega), if_pos ⟨hpos, hvn.1, hvn.2⟩, if_neg (show ¬ (1 < (row o (i : Int)).length ∨ (row l (rd (row o (i : Int)) 0)).contains (rd (row o (i : Int)) 0) = true) from hbad), show (i : Int) + 1 = ((i + 1 : Nat) : Int) by omega]

/-- The nodes of a level among the first i. -/
def atL (lv : List Int) (i : Nat) (d : Int) : List Int := (iota i).filter fun x => rd lv x == d
theorem atL_succ (lv : List Int) (i : Nat) (d : Int) : atL lv (i + 1) d = atL lv i d ++ (if rd lv i = d then [(i : Int)] else []) := by
  unfold atL
  rw [filt_snoc]
  by_cases h : rd lv i = d <;> simp [h]
theorem atL_len (lv : List Int) (i : Nat) (d : Int) : (atL lv i d).length ≤ i := filt_len _ _

theorem lv3_ev (lv : List Int) (n : Nat) (hl : lv.length < 1000000) (hb : ∀ x : Nat, x < lv.length → 0 ≤ rd lv x ∧ rd lv x < n) : ∀ (m i : Nat) (out : List (List Int)), i + m = lv.length → out.length = n → (∀ d : Nat, d < n → row out d = atL lv i d) →
    ∃ out', Ev (fun k => lv3 k lv i out) out' ∧ out'.length = n ∧ ∀ d : Nat, d < n → row out' d = atL lv lv.length d := by
  intro m
  induction m with
  | zero =>
    intro i out hi ho h
    obtain rfl : i = lv.length := by omega
    refine ⟨out, Ev.step (fun k => ?_) (Ev.now _), ho, h⟩
    rw [lv3, if_neg (by omega)]
  | succ m ih =>
    intro i out hi ho h
    obtain ⟨b0, b1⟩ := hb i (by omega)
    obtain ⟨dn, hdn⟩ := Int.eq_ofNat_of_zero_le b0
    have hrow := h dn (by omega)
    have hrl := atL_len lv i dn
    obtain ⟨out', a1, a2, a3⟩ := ih (i + 1) (app out (rd lv i) i) (by omega) (by rw [app_length]; exact ho) (fun d hd => by
      rw [row_app _ _ _ _ b0 (by omega) (by omega), atL_succ]
      by_cases e : (d : Int) = rd lv i
      · rw [if_pos e, if_pos e.symm, ← e, h d hd]
      · rw [if_neg e, if_neg (fun h => e h.symm), List.append_nil, h d hd])
    refine ⟨out', Ev.step (fun k => ?_) a1, a2, a3⟩
    rw [lv3, if_pos (by omega), if_pos ⟨b0, by omega, by rw [hdn, hrow]; omega⟩, show (i : Int) + 1 = ((i + 1 : Nat) : Int) by omega]

theorem ext_ev (d : Nat) (hd : d < 1000) : ∀ (m : Nat) (out : List (List Int)), out.length + m = max out.length (d + 1) → ∃ out', Ev (fun k => ext k d out) out' ∧ out'.length = max out.length (d + 1) ∧ ∀ e : Nat, row out' e = row out e := by
  intro m
  induction m with
  | zero =>
    intro out h
    refine ⟨out, Ev.step (fun k => ?_) (Ev.now _), by omega, fun e => rfl⟩
    rw [ext, if_neg (by omega)]
  | succ m ih =>
    intro out h
    obtain ⟨out', a1, a2, a3⟩ := ih (out ++ [[]]) (by rw [List.length_append, List.length_singleton]; omega)
    refine ⟨out', Ev.step (fun k => ?_) a1, by rw [a2, List.length_append, List.length_singleton]; omega, fun e => ?_⟩
    · rw [ext, if_pos (by omega), if_pos (by omega)]
    · rw [a3]
      unfold Tj.row
      rw [Int.toNat_natCast, List.getD_eq_getElem?_getD, List.getD_eq_getElem?_getD]
      by_cases hl : e < out.length
      · rw [List.getElem?_append_left hl]
      · rw [List.getElem?_append_right (by omega), List.getElem?_eq_none (show out.length ≤ e by omega)]
        by_cases h0 : e - out.length = 0
        · rw [h0]; rfl
        · rw [List.getElem?_eq_none (by simp; omega)]

theorem put_ev (lv : List Int) (hl : lv.length < 1000) (hb : ∀ x : Nat, x < lv.length → 0 ≤ rd lv x ∧ rd lv x < 1000) : ∀ (m i : Nat) (out : List (List Int)), i + m = lv.length → (∀ d : Nat, row out d = atL lv i d) → (∀ x : Nat, x < i → rd lv x < out.length) →
    (out.length = 0 ∨ ∃ x : Nat, x < i ∧ rd lv x + 1 = out.length) →
    ∃ out', Ev (fun k => put k lv i out) out' ∧ (∀ d : Nat, row out' d = atL lv lv.length d) ∧ (∀ x : Nat, x < lv.length → rd lv x < out'.length) ∧ (out'.length = 0 ∨ ∃ x : Nat, x < lv.length ∧ rd lv x + 1 = out'.length) := by
  intro m
  induction m with
  | zero =>
    intro i out hi h1 h2 h3
    obtain rfl : i = lv.length := by omega
    refine ⟨out, Ev.step (fun k => ?_) (Ev.now _), h1, h2, h3⟩
    rw [put, if_neg (by omega)]
  | succ m ih =>
    intro i out hi h1 h2 h3
    obtain ⟨b0, b1⟩ := hb i (by omega)
    obtain ⟨dn, hdn⟩ := Int.eq_ofNat_of_zero_le b0
    obtain ⟨o1, e1, e2, e3⟩ := ext_ev dn (by omega) (max out.length (dn + 1) - out.length) out (by omega)
    rw [← hdn] at e1
    have hrl := atL_len lv i dn
    obtain ⟨out', a1, a2, a3, a4⟩ := ih (i + 1) (app o1 (rd lv i) i) (by omega) (fun d => by
      rw [row_app _ _ _ _ b0 (by omega) (by omega), atL_succ]
      by_cases e : (d : Int) = rd lv i
      · rw [if_pos e, if_pos e.symm, ← e, e3 d, h1 d]
      · rw [if_neg e, if_neg (fun h => e h.symm), List.append_nil, e3 d, h1 d]) (fun x hx => by
      rw [app_length, e2]
      by_cases e : x = i
      · subst e; omega
      · have := h2 x (by omega); omega) (by
      right
      rw [app_length, e2]
      by_cases hle : dn + 1 ≤ out.length
      · rcases h3 with h3 | ⟨x, x1, x2⟩
        · omega
        · exact ⟨x, by omega, by omega⟩
      · exact ⟨i, by omega, by omega⟩)
    refine ⟨out', Ev.step (fun k => ?_) (Ev.bind e1 (f := fun k out1 => if 0 ≤ rd lv i ∧ rd lv i < out1.length ∧ (row out1 (rd lv i)).length < 17592186044415 then put k lv ((i + 1 : Nat) : Int) (app out1 (rd lv i) i) else none) (Ev.congr (fun k => ?_) a1)), a2, a3, a4⟩
    · rw [put, if_pos (by omega), show (i : Int) + 1 = ((i + 1 : Nat) : Int) by omega]
    · rw [if_pos ⟨b0, by omega, by rw [hdn, e3 dn, h1 dn]; omega⟩]

theorem rows_ext {a b : List (List Int)} (hl : a.length = b.length) (h : ∀ d : Nat, d < a.length → row a d = row b d) : a = b := by
  refine List.ext_getElem hl fun i h1 h2 => ?_
  rw [← row_mem a i h1, ← row_mem b i h2]
  exact h i h1

theorem anyc_ev {l : List (List Int)} (hs : Sm l) : ∀ (m i : Nat), i + m = l.length → Ev (fun k => anyc k l i) (decide (∃ x : Nat, i ≤ x ∧ x < l.length ∧ cycM l x = true)) := by
  have h60 := hs.1
  intro m
  induction m with
  | zero =>
    intro i hi
    rw [decide_eq_false (by rintro ⟨x, x1, x2, _⟩; omega)]
    refine Ev.step (fun k => ?_) (Ev.now _)
    rw [anyc, if_neg (by omega)]
  | succ m ih =>
    intro i hi
    have e := refcyc_ev hs (i : Int)
    by_cases hc : cycM l i = true
    · rw [decide_eq_true ⟨i, by omega, by omega, hc⟩]
      rw [hc] at e
      refine Ev.step (fun k => ?_) (Ev.bind e (f := fun k b => if b = true then some true else anyc k l ((i + 1 : Nat) : Int)) (Ev.now _))
      rw [anyc, if_pos (by omega), show (i : Int) + 1 = ((i + 1 : Nat) : Int) by omega]
    · have hf : cycM l i = false := by simpa using hc
      rw [hf] at e
      have h2 := ih (i + 1) (by omega)
      have he : (∃ x : Nat, i ≤ x ∧ x < l.length ∧ cycM l x = true) ↔ (∃ x : Nat, i + 1 ≤ x ∧ x < l.length ∧ cycM l x = true) := by
        constructor
        · rintro ⟨x, x1, x2, x3⟩
          by_cases e : x = i
          · subst e; exact absurd x3 hc
          · exact ⟨x, by omega, x2, x3⟩
        · rintro ⟨x, x1, x2, x3⟩
          exact ⟨x, by omega, x2, x3⟩
      rw [decide_eq_decide.2 he]
      refine Ev.step (fun k => ?_) (Ev.bind e (f := fun k b => if b = true then some true else anyc k l ((i + 1 : Nat) : Int)) h2)
      rw [anyc, if_pos (by omega), show (i : Int) + 1 = ((i + 1 : Nat) : Int) by omega]

/-- Levels of the program and of the reference answer the same. -/
theorem levels_same {l : List (List Int)} (hs : Sm l) : ∃ (a : List (List Int)) (e : Int), graph_Levels.f l = some (a, e) ∧ lazycref09_Levels.f l = some (a, e) ∧ a.length < 1000000 ∧ ∀ j : Nat, j < a.length → (row a j).length < 1000000 := by
  have h60 := hs.1
  have hb := gv_ev l hs
  have hb2 := rv_ev l hs
  by_cases hv : Vld l
  · rw [(vldB_iff l).2 hv] at hb hb2
    obtain ⟨o, o1, o2⟩ := ordered_ev hv (L := 2000) hs.row (by omega)
    obtain ⟨f1, f2, f3⟩ := full_len hv o1
    have ha := anyc_ev hs l.length 0 (by omega)
    by_cases hcy : ∃ x : Nat, 0 ≤ x ∧ x < l.length ∧ cycM l x = true
    · rw [decide_eq_true hcy] at ha
      obtain ⟨x, _, hx, hxc⟩ := hcy
      obtain ⟨c, hc, hcb⟩ := bad_of_cyc hv o1 hxc
      have h1 := lev_bad hs hv o1 o.length 0 (List.replicate l.length 0) (-1) (by omega) ⟨c, by simpa using hc, hcb⟩ (by simp) (fun y hy => by rw [rd_rep0]; omega)
      refine ⟨[], 18, ev_lim ?_, ev_lim ?_, by simp, fun j hj => by simp at hj⟩
      · unfold levelsF
        refine Ev.bind hb (f := fun k b => if b = true then _ else _) ?_
        refine Ev.congr (fun k => ?_) (Ev.bind h1 (f := fun k o' => match o' with
            | none => some (([] : List (List Int)), (18 : Int))
            | some (lv, top) => if 0 ≤ wrap64 (top + 1) ∧ wrap64 (top + 1) < 5864062014805 then (lv3 k lv 0 (List.replicate (wrap64 (top + 1)).toNat [])).map fun out => (out, (0 : Int)) else none) (Ev.now _))
        rw [if_pos rfl, o2, Option.bind_some, if_pos (by omega)]
        rfl
      · unfold reflevelsF
        refine Ev.bind hb2 (f := fun k b => if b = true then _ else _) ?_
        exact Ev.bind ha (f := fun k cy => if cy = true then some (([] : List (List Int)), (18 : Int)) else (lazycref09_longest.f l).bind fun lv => (put k lv 0 []).map fun out => (out, (0 : Int))) (Ev.now _)
    · rw [decide_eq_false hcy] at ha
      have hok : ∀ c ∈ o, ¬ Bad l c := fun c hc hbad => by
        obtain ⟨i, hi, hic⟩ := cyc_of_bad hv o1 hc hbad
        refine hcy ⟨i.toNat, by omega, by have := hi.1; have := hi.2; omega, ?_⟩
        rw [show ((i.toNat : Nat) : Int) = i by have := hi.1; omega]
        exact hic
      obtain ⟨lv, top, g1, g2, g3⟩ := lev_loop hs hv o1 hok o.length 0 (List.replicate l.length 0) (-1) (by omega) ⟨by simp, fun x hx => by rw [rd_rep0]; omega, by simp, .inl ⟨rfl, rfl⟩⟩
      have hlong : lazycref09_longest.f l = some lv := ev_lim (by
        unfold longestF
        refine Ev.congr (f := fun k => (lazycref09_Components.f k l).bind fun comps => lng0 k l comps 0 (List.replicate l.length 0)) (fun k => by rw [if_pos (by omega)]) (Ev.bind (refcomps_ev hs hv o1) (f := fun k comps => lng0 k l comps 0 (List.replicate l.length 0)) g2))
      have hlen := g3.len
      have htop : ∀ x : Nat, x < lv.length → 0 ≤ rd lv x ∧ rd lv x ≤ top ∧ rd lv x ≤ 60 := fun x hx => by
        have hn : nd l (x : Int) := ⟨by omega, by omega⟩
        have h1 := g3.rng x hn
        have h2 := g3.tp x (by rw [List.take_length]; exact o1.2 x hn)
        omega
      have htb : -1 ≤ top ∧ top ≤ 60 := by
        rcases g3.hit with ⟨_, e⟩ | ⟨x, x1, x2⟩
        · omega
        · rw [List.take_length] at x1
          obtain ⟨c, hc, hxc⟩ := List.mem_flatten.1 x1
          obtain ⟨y, _, rfl⟩ := (kahn_parts hv o1.1).scc c hc
          have := g3.rng x (mem_scc.1 hxc).1
          omega
      have hwt : wrap64 (top + 1) = top + 1 := w64 _ (by omega) (by omega)
      obtain ⟨a, a1, a2, a3⟩ := lv3_ev lv (top + 1).toNat (by omega) (fun x hx => by have := htop x hx; omega) lv.length 0 (List.replicate (top + 1).toNat []) (by omega) (by simp) (fun d hd => by rw [row_rep]; rfl)
      obtain ⟨b, b1, b2, b3, b4⟩ := put_ev lv (by omega) (fun x hx => by have := htop x hx; omega) lv.length 0 [] (by omega) (fun d => by
        rw [show atL lv 0 d = [] from rfl]
        unfold Tj.row
        simp) (fun x hx => by omega) (.inl rfl)
      have hab : a.length = b.length := by
        rw [a2]
        rcases b4 with b4 | ⟨x, x1, x2⟩
        · rcases g3.hit with ⟨_, e⟩ | ⟨y, y1, y2⟩
          · rw [b4, e]; rfl
          · rw [List.take_length] at y1
            obtain ⟨c, hc, hxc⟩ := List.mem_flatten.1 y1
            obtain ⟨z, _, rfl⟩ := (kahn_parts hv o1.1).scc c hc
            have hyn := (mem_scc.1 hxc).1
            obtain ⟨j, rfl⟩ := Int.eq_ofNat_of_zero_le hyn.1
            have := b3 j (by have := hyn.2; omega)
            have := htop j (by have := hyn.2; omega)
            omega
        · have h1 := htop x x1
          rcases g3.hit with ⟨e0, e⟩ | ⟨y, y1, y2⟩
          · omega
          · rw [List.take_length] at y1
            obtain ⟨c, hc, hxc⟩ := List.mem_flatten.1 y1
            obtain ⟨z, _, rfl⟩ := (kahn_parts hv o1.1).scc c hc
            have hyn := (mem_scc.1 hxc).1
            obtain ⟨j, rfl⟩ := Int.eq_ofNat_of_zero_le hyn.1
            have := b3 j (by have := hyn.2; omega)
            omega
      have heq : a = b := rows_ext hab (fun d hd => by rw [a3 d (by omega), b2 d])
      subst heq
      refine ⟨a, 0, ev_lim ?_, ev_lim ?_, by omega, fun j hj => ?_⟩
      · unfold levelsF
        refine Ev.bind hb (f := fun k b => if b = true then _ else _) ?_
        refine Ev.congr (fun k => ?_) (Ev.bind g1 (f := fun k o' => match o' with
            | none => some (([] : List (List Int)), (18 : Int))
            | some (lv, top) => if 0 ≤ wrap64 (top + 1) ∧ wrap64 (top + 1) < 5864062014805 then (lv3 k lv 0 (List.replicate (wrap64 (top + 1)).toNat [])).map fun out => (out, (0 : Int)) else none) ?_)
        · rw [if_pos rfl, o2, Option.bind_some, if_pos (by omega)]
          rfl
        · obtain ⟨K, hK⟩ := a1
          refine ⟨K, fun k hk => ?_⟩
          show (if 0 ≤ wrap64 (top + 1) ∧ wrap64 (top + 1) < 5864062014805 then (lv3 k lv 0 (List.replicate (wrap64 (top + 1)).toNat [])).map fun out => (out, (0 : Int)) else none) = _
          rw [hwt, if_pos (by omega)]
          have e : lv3 k lv 0 (List.replicate (top + 1).toNat []) = some a := hK k hk
          rw [e]
          rfl
      · unfold reflevelsF
        refine Ev.bind hb2 (f := fun k b => if b = true then _ else _) ?_
        refine Ev.bind ha (f := fun k cy => if cy = true then some (([] : List (List Int)), (18 : Int)) else (lazycref09_longest.f l).bind fun lv => (put k lv 0 []).map fun out => (out, (0 : Int))) ?_
        obtain ⟨K, hK⟩ := b1
        refine ⟨K, fun k hk => ?_⟩
        show (if false = true then _ else (lazycref09_longest.f l).bind fun lv => (put k lv 0 []).map fun out => (out, (0 : Int))) = _
        rw [if_neg (by decide), hlong, Option.bind_some]
        have e : put k lv 0 [] = some a := hK k hk
        rw [e]
        rfl
      · rw [a3 j (by omega)]
        have := atL_len lv lv.length j
        omega
  · have hf : vldB l = false := Bool.eq_false_iff.2 fun e => hv ((vldB_iff l).1 e)
    rw [hf] at hb hb2
    refine ⟨[], 1, ev_lim ?_, ev_lim ?_, by simp, fun j hj => by simp at hj⟩
    · unfold levelsF
      exact Ev.bind hb (f := fun k b => if b = true then _ else _) (Ev.now _)
    · unfold reflevelsF
      exact Ev.bind hb2 (f := fun k b => if b = true then _ else _) (Ev.now _)

theorem GraphLevels (l : List (List Int)) (h : ∀ r ∈ l, r.length * 8 ≤ 140737488351232) : ∃ k, lazyclaw09_GraphLevels.f k l = some true := by
  refine Ev.rounds (g := fun k => lazyclaw09_GraphLevels.f k l) ?_
  obtain ⟨b, b1, b2⟩ := small_ev l h
  refine Ev.bind b1 (f := fun k t => if t = true then _ else _) ?_
  cases b with
  | false => exact Ev.now true
  | true =>
    have hs := b2 rfl
    obtain ⟨a, e, a1, a2, a3, a4⟩ := levels_same hs
    refine Ev.congr (fun k => ?_) (Ev.bind (same_ev a a a3 a4) (f := fun k t => if t = true then (lazyclaw09_example.f).bind fun t => some t else some false) ?_)
    · rw [if_pos rfl, a1, a2, Option.bind_some, Option.bind_some, if_pos rfl]
    · rw [decide_eq_true rfl]
      exact Ev.now true
end Tp
end Go.Proofs.Ytpmjpngmmphkmaa
/- The law GraphLevels of the graph chapter holds: for every input it returns true, and the input reads as it did. -/
namespace Go.Proofs.Ytpmjpngmmphkmaa.graphLevels
open Go.ChangeShapes Go.WideShapes Go.ChangeAt Go.RowKit
set_option linter.unusedVariables false
theorem own : ownKnob Try.prog.godebug = none := by kernel_rfl
theorem laidOut : laidOutB Try.prog = true := by kernel_rfl
set_option maxRecDepth 100000 in
theorem lifted (os : Os) (started : os.Started) (H : Type) (enc : TypeId × Value → H) :
    ReturnsInHanded {} Try.checked os 4 .any (Rows.graphLevelsSpec.pre6 enc Try.prog Try.f4 Rows.graphLevelsRow.domain false) (Rows.graphLevelsSpec.post enc Try.prog Try.f4 false true false false) := by
  refine returnsInHanded_of_change_sized (C := Try.checked) own started (by kernel_rfl) Try.func4
    (ChangeSpec.witness6 (enc := enc) (C := Try.checked) false ⟨#[], #[.agg #[.slice none 0 0]], []⟩ 8 (by kernel_rfl) (by kernel_rfl) (by kernel_rfl) (by kernel_rfl)) ?_
  intro W base args ds gs before hval0 hW hcnd hsz0 _
  have hsz : (DataW.weightsEach Try.prog (Try.f4.params.toList ++ Rows.graphLevelsSpec.plain.varTypes Try.prog) (ds ++ gs)).all (· ≤ reachBytes) = true := hsz0
  have hval : ∀ (j : Nat) t v, Try.f4.params[j]? = some t → args[j]? = some v → Value.okWide Try.prog W .any base t v := hval0
  have hW' := hW
  obtain ⟨p, q, hA0, hV, rfl, hfz, hnd⟩ := hW
  have hA : DataW.TrodAll enc Try.prog W 0 (fun _ => true) true Try.f4.params.toList args.toList ds p := hA0
  rw [Try.params4] at hA hval hsz
  obtain ⟨v0, vs0, d0, ds0, p0, q0, hargs, rfl, rfl, h0, r0⟩ := trodAll_cons hA
  obtain ⟨rfl, rfl, rfl⟩ := trodAll_nil r0
  obtain rfl : args = #[v0] := by cases args; simp_all
  obtain ⟨rfl, rfl⟩ := trodVars_none hV
  have k0 := h0
  have lt0 : ∀ x ∈ p0, x.block < W.heap.size := by obtain ⟨m, hm⟩ := k0; exact DataW.trod_lt m _ _ _ hm
  obtain ⟨A0, c0, l0, rfl, hc0, hr0, y0⟩ := Gr.open_graph (hval 0 24 v0 rfl rfl) hsz (j := 0) rfl rfl h0
  clear hA0 hval0 hsz0 hsz
  obtain ⟨kr, hkr⟩ := Tp.GraphLevels l0 y0
  refine (P.lazyclaw09_GraphLevels.calls kr A0 c0 l0 true W hr0 hc0 hkr).mono fun e W' ⟨he, bel⟩ => ?_
  subst he
  exact ⟨_, rfl, _, _, _, [], _, [], hW', trodAll_mk1 (shut_bool Try.underlying4 _), (trodAll_cons_mk (Below.trod laidOut (by kernel_rfl) (of_decide_eq_true (by kernel_rfl)) k0 bel lt0) trodAll_mk0), rfl, bel.frame _, fun h => by cases h⟩
theorem over : Rows.graphLevelsRow.holds Try.pinned (OpenSpec.ofChange Rows.graphLevelsSpec) :=
  OpenClaim.holds_of_wide 4 Try.f4 rfl rfl rfl rfl rfl rfl rfl ⟨rfl, rfl, rfl, rfl, rfl⟩ rfl rfl rfl rfl rfl (by kernel_rfl) Try.func4 (by kernel_rfl)
    (of_decide_eq_true (by kernel_rfl)) (by unfold Func.isWrapper; first | (rw [if_pos (by decide +kernel)]; kernel_rfl) | (rw [if_neg (by decide +kernel)]; exact ⟨rfl, rfl⟩))
    (fun os started H enc _ => lifted os started H enc)
theorem proved : Rows.GraphLevelsSaid := over
#print axioms proved
end Go.Proofs.Ytpmjpngmmphkmaa.graphLevels
namespace Go.Proofs.Ytpmjpngmmphkmaa
/-- The row, under a short name, for the claim. -/
theorem graphLevels_holds : Rows.GraphLevelsSaid := graphLevels.proved
end Go.Proofs.Ytpmjpngmmphkmaa
