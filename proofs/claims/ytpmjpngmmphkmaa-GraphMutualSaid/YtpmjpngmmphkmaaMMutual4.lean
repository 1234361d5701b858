/- Part 4 of 4 of one proof: The law GraphMutual of the graph chapter holds: for every input it returns true, and the input reads as it did -/
import Derived.Below
import Derived.ChangeOld
import Derived.OpenShut
import Derived.ProofKit
import Derived.ShutString
import Derived.SizedLaws
import Derived.Test.YtpmjpngmmphkmaaRows
import Derived.WalkKit
import Derived.Test.YtpmjpngmmphkmaaMMutual1
import Derived.Test.YtpmjpngmmphkmaaMMutual2
import Derived.Test.YtpmjpngmmphkmaaMMutual3
set_option linter.unusedVariables false
set_option linter.unusedSimpArgs false
/- The list of components that graph.ordered hands back is the only one in which each component is the ready one with the smallest node: for every valid graph with less than 1000000 nodes. -/
namespace Go.Proofs.Ytpmjpngmmphkmaa
open Go.RowKit Go.Proofs.YtpmjpngmmphkmaaW.PrintWords Go.Proofs.YtpmjpngmmphkmaaW.PrintLast Go.Proofs.YtpmjpngmmphkmaaW.PrintMore Go.Proofs.Ytpmjpngmmphkmaa.P
namespace Tp
open Tj Rw Od
open Classical
set_option linter.unusedVariables false

theorem nodup_sub : ∀ (a b : List Int), a.Nodup → (∀ x ∈ a, x ∈ b) → a.length ≤ b.length := by
  intro a
  induction a with
  | nil => intro b _ _; exact Nat.zero_le _
  | cons x a ih =>
    intro b hd h
    obtain ⟨h1, h2⟩ := List.nodup_cons.1 hd
    have hx := h x (by simp)
    have := ih (b.erase x) h2 (fun y hy => by
      have hne : y ≠ x := by rintro rfl; exact h1 hy
      exact (List.mem_erase_of_ne hne).2 (h y (by simp [hy])))
    rw [List.length_erase_of_mem hx] at this
    have := List.length_pos_of_mem hx
    rw [List.length_cons]
    omega

/-- The component of a node, ascending. -/
noncomputable def scc (es : List (List Int)) (m : Int) : List Int := (iota es.length).filter fun x => decide (Rc es m x ∧ Rc es x m)
theorem mem_scc {es : List (List Int)} {m x : Int} : x ∈ scc es m ↔ nd es x ∧ Rc es m x ∧ Rc es x m := by
  unfold scc nd
  rw [List.mem_filter, mem_iota]
  simp
theorem scc_lt (es : List (List Int)) (m : Int) : (scc es m).Pairwise (· < ·) := (iota_lt _).filter _
theorem scc_eq {es : List (List Int)} {m m' : Int} (h : Rc es m m') (h2 : Rc es m' m) : scc es m = scc es m' := by
  unfold scc
  refine List.filter_congr fun x _ => ?_
  rw [decide_eq_decide]
  exact ⟨fun ⟨a, b⟩ => ⟨h2.trans a, b.trans h⟩, fun ⟨a, b⟩ => ⟨h.trans a, b.trans h2⟩⟩
/-- All that m can reach is there, or its own. -/
def Ready (es : List (List Int)) (o : List (List Int)) (m : Int) : Prop := ∀ x, Rc es m x → x ∈ o.flatten ∨ Rc es x m
/-- The component that comes next. -/
def Next (es : List (List Int)) (o : List (List Int)) (c : List Int) : Prop :=
  ∃ m, nd es m ∧ m ∉ o.flatten ∧ Ready es o m ∧ (∀ x, nd es x → x ∉ o.flatten → Ready es o x → m ≤ x) ∧ c = scc es m
inductive Kahn (es : List (List Int)) : List (List Int) → Prop
  | nil : Kahn es []
  | snoc {o : List (List Int)} {c : List Int} : Kahn es o → Next es o c → Kahn es (o ++ [c])
def Full (es : List (List Int)) (o : List (List Int)) : Prop := Kahn es o ∧ ∀ v, nd es v → v ∈ o.flatten

theorem next_unique {es o : List (List Int)} {c d : List Int} (h : Next es o c) (k : Next es o d) : c = d := by
  obtain ⟨m, m1, m2, m3, m4, rfl⟩ := h
  obtain ⟨x, x1, x2, x3, x4, rfl⟩ := k
  have h1 := m4 x x1 x2 x3
  have h2 := x4 m m1 m2 m3
  have : m = x := by omega
  rw [this]
theorem kahn_next {es o : List (List Int)} (h : Kahn es o) : ∀ i (hi : i < o.length), Next es (o.take i) o[i] := by
  induction h with
  | nil => intro i hi; cases hi
  | @snoc o c h1 h2 ih =>
    intro i hi
    rw [List.length_append, List.length_singleton] at hi
    by_cases e : i < o.length
    · rw [List.take_append_of_le_length (by omega), List.getElem_append_left e]
      exact ih i e
    · have : i = o.length := by omega
      subst this
      simp only [List.take_left, List.getElem_concat_length]
      exact h2
theorem kahn_prefix {es o : List (List Int)} (h : Kahn es o) : ∀ o', Kahn es o' → o.length ≤ o'.length → o = o'.take o.length := by
  induction h with
  | nil => intro o' _ _; simp
  | @snoc o c h1 h2 ih =>
    intro o' ho hl
    rw [List.length_append, List.length_singleton] at hl ⊢
    have e := ih o' ho (by omega)
    have hn := kahn_next ho o.length (by omega)
    rw [← e] at hn
    rw [List.take_succ_eq_append_getElem (by omega), ← e, next_unique h2 hn]
theorem full_unique {es o o' : List (List Int)} (h : Full es o) (k : Full es o') : o = o' := by
  have key : ∀ {a b : List (List Int)}, Full es a → Full es b → a.length ≤ b.length → a = b := by
    intro a b ha hb hl
    have e := kahn_prefix ha.1 b hb.1 hl
    by_cases h2 : a.length < b.length
    · obtain ⟨m, m1, m2, _⟩ := kahn_next hb.1 a.length h2
      rw [← e] at m2
      exact absurd (ha.2 m m1) m2
    · rw [e, List.take_of_length_le (by omega)]
  rcases Nat.le_total o.length o'.length with e | e
  · exact key h k e
  · exact (key k h e).symm

theorem rc_le {es : List (List Int)} {cm : List Int} {n : Int} (S : Sol es cm n) (hvld : Vld es) {a b : Int} (h : Rc es a b) (ha : nd es a) : rd cm b ≤ rd cm a := by
  induction h with
  | refl => exact Int.le_refl _
  | tail h1 h2 ih => exact Int.le_trans (S.back _ (rc_nd hvld h1 ha) _ h2) ih
theorem mut_iff {es : List (List Int)} {cm : List Int} {n : Int} (S : Sol es cm n) (hvld : Vld es) {a b : Int} (ha : nd es a) (hb : nd es b) : (Rc es a b ∧ Rc es b a) ↔ rd cm b = rd cm a := by
  constructor
  · rintro ⟨h1, h2⟩
    have := rc_le S hvld h1 ha
    have := rc_le S hvld h2 hb
    omega
  · intro h
    exact ⟨S.same a b ha hb h.symm, S.same b a hb ha h⟩
theorem mem_scc_eq {es : List (List Int)} {cm : List Int} {n : Int} (S : Sol es cm n) (hvld : Vld es) {m : Int} (hm : nd es m) : mem cm (rd cm m) = scc es m := by
  unfold mem scc
  rw [S.len]
  refine List.filter_congr fun x hx => ?_
  rw [mem_iota] at hx
  rw [Bool.eq_iff_iff, beq_iff_eq, decide_eq_true_iff]
  exact (mut_iff S hvld hm hx).symm

theorem kahn_of_seq {es : List (List Int)} {cm : List Int} {n : Int} {ms : List (List Int)} (S : Sol es cm n) (hn : es.length < 1000000) (R : Rows es cm n ms) (hvld : Vld es) {D : List Int} (h : Seq es cm n ms D) :
    Kahn es (D.map (row ms)) ∧ ∀ x, x ∈ (D.map (row ms)).flatten ↔ nd es x ∧ rd cm x ∈ D := by
  have flat : ∀ {D : List Int}, Seq es cm n ms D → ∀ x, x ∈ (D.map (row ms)).flatten ↔ nd es x ∧ rd cm x ∈ D := by
    intro D hD x
    have hr := hD.rng.2.1
    rw [List.mem_flatten]
    constructor
    · rintro ⟨l, hl, hx⟩
      obtain ⟨c, hc, rfl⟩ := List.mem_map.1 hl
      rw [R.row c (hr c hc).1 (hr c hc).2, mem_mem, S.len] at hx
      exact ⟨hx.1, by rw [hx.2]; exact hc⟩
    · rintro ⟨h1, h2⟩
      refine ⟨_, List.mem_map.2 ⟨_, h2, rfl⟩, ?_⟩
      rw [R.row _ (hr _ h2).1 (hr _ h2).2, mem_mem, S.len]
      exact ⟨h1, rfl⟩
  have ready : ∀ {D : List Int}, Seq es cm n ms D → ∀ m, nd es m → (Ready es (D.map (row ms)) m ↔ ∀ d, Dep es cm (rd cm m) d → d ∈ D) := by
    intro D hD m hm
    constructor
    · rintro h d ⟨hne, v, hv, w, hw, rfl⟩
      obtain ⟨v1, v2⟩ := mem_mem.1 hv
      rw [S.len] at v1
      have hwn := hvld v v1 w hw
      have hmv : Rc es m v := S.same m v hm v1 v2.symm
      rcases h w (hmv.tail hw) with e | e
      · exact ((flat hD w).1 e).2
      · have := (mut_iff S hvld hm hwn).1 ⟨hmv.tail hw, e⟩
        exact absurd this.symm hne
    · intro h x hx
      have key : nd es x ∧ (rd cm x = rd cm m ∨ rd cm x ∈ D) := by
        induction hx with
        | refl => exact ⟨hm, .inl rfl⟩
        | @tail b c h1 h2 ih =>
          obtain ⟨i1, i2⟩ := ih
          have hc := hvld _ i1 _ h2
          refine ⟨hc, ?_⟩
          by_cases e : rd cm c = rd cm b
          · rw [e]; exact i2
          · have hd : Dep es cm (rd cm b) (rd cm c) := ⟨fun e2 => e e2.symm, b, mem_mem.2 ⟨by rw [S.len]; exact i1, rfl⟩, c, h2, rfl⟩
            rcases i2 with i2 | i2
            · rw [i2] at hd; exact .inr (h _ hd)
            · exact .inr (hD.rng.2.2 _ i2 _ hd)
      rcases key.2 with e | e
      · exact .inr ((mut_iff S hvld hm key.1).2 e).2
      · exact .inl ((flat hD x).2 ⟨key.1, e⟩)
  refine ⟨?_, flat h⟩
  induction h with
  | nil => exact .nil
  | @snoc D c hD c0 c1 c2 c3 c4 ih =>
    rw [List.map_append]
    obtain ⟨f1, ⟨f2, f3⟩, f4⟩ := fine_of S hn R c0 c1
    refine .snoc ih ⟨first ms c, f2, fun e => ?_, (ready hD _ f2).2 (by rw [f3]; exact c3), fun x hx hxD hxr => ?_, ?_⟩
    · have := ((flat hD _).1 e).2
      rw [f3] at this
      exact c2 this
    · have hr := S.rng x hx
      obtain ⟨_, _, g4⟩ := fine_of S hn R hr.1 hr.2
      have h1 := c4 (rd cm x) hr.1 hr.2 (fun e => hxD ((flat hD x).2 ⟨hx, e⟩)) ((ready hD x hx).1 hxr)
      have h2 := g4 x hx rfl
      omega
    · rw [R.row c c0 c1, ← mem_scc_eq S hvld f2, f3]

theorem ordered_ev {es : List (List Int)} (hvld : Vld es) {L : Nat} (hL : ∀ v, (row es v).length ≤ L) (hn : es.length < 1000000) : ∃ o, Full es o ∧ graph_ordered.f es = some o := by
  have key : ∀ k, es.length * (L + 2) + 3 * es.length + L + 9 ≤ k → ∃ o, Full es o ∧ orderedF k es = some o := by
    intro k hk
    obtain ⟨cm, n, ms, D, S, R, h1, h2, h3⟩ := ordered_run hvld hL hn k hk
    obtain ⟨k1, k2⟩ := kahn_of_seq S hn R hvld h2
    exact ⟨_, ⟨k1, fun v hv => (k2 v).2 ⟨hv, h3 _ (S.rng v hv).1 (S.rng v hv).2⟩⟩, h1⟩
  obtain ⟨o, o1, o2⟩ := key _ (Nat.le_refl _)
  refine ⟨o, o1, Od.lim_of (k0 := es.length * (L + 2) + 3 * es.length + L + 9) fun k hk => ?_⟩
  obtain ⟨o', p1, p2⟩ := key k hk
  rw [p2, full_unique p1 o1]

/-- What is known of the components' list. -/
structure Parts (es o : List (List Int)) : Prop where
  asc : ∀ c ∈ o, c.Pairwise (· < ·)
  scc : ∀ c ∈ o, ∃ m, nd es m ∧ c = scc es m
  one : o.flatten.Nodup
  back : ∀ (i : Nat) (c : List Int), o[i]? = some c → ∀ u ∈ c, ∀ w ∈ row es u, ∃ (j : Nat) (d : List Int), j ≤ i ∧ o[j]? = some d ∧ w ∈ d
theorem kahn_parts {es o : List (List Int)} (hvld : Vld es) (h : Kahn es o) : Parts es o := by
  induction h with
  | nil => exact ⟨by simp, by simp, by simp, by simp⟩
  | @snoc o c h1 h2 ih =>
    obtain ⟨m, m1, m2, m3, m4, rfl⟩ := h2
    refine ⟨?_, ?_, ?_, ?_⟩
    · intro c hc
      rcases List.mem_append.1 hc with e | e
      · exact ih.asc c e
      · rw [List.mem_singleton] at e; rw [e]; exact scc_lt _ _
    · intro c hc
      rcases List.mem_append.1 hc with e | e
      · exact ih.scc c e
      · rw [List.mem_singleton] at e; exact ⟨m, m1, e⟩
    · rw [List.flatten_append, List.nodup_append]
      refine ⟨ih.one, by rw [List.flatten_cons, List.flatten_nil, List.append_nil]; exact (scc_lt es m).imp (fun h e => by subst e; omega), ?_⟩
      rintro a ha b hb rfl
      have hb' : a ∈ Tp.scc es m := by simpa using hb
      obtain ⟨_, b2, b3⟩ := mem_scc.1 hb'
      obtain ⟨d, hd, had⟩ := List.mem_flatten.1 ha
      obtain ⟨x, _, rfl⟩ := ih.scc d hd
      obtain ⟨_, a2, a3⟩ := mem_scc.1 had
      exact m2 (List.mem_flatten.2 ⟨_, hd, mem_scc.2 ⟨m1, a2.trans b3, b2.trans a3⟩⟩)
    · intro i c hi u hu w hw
      by_cases e : i < o.length
      · rw [List.getElem?_append_left e] at hi
        obtain ⟨j, d, j1, j2, j3⟩ := ih.back i c hi u hu w hw
        exact ⟨j, d, j1, by rw [List.getElem?_append_left (by omega)]; exact j2, j3⟩
      · have hil := (List.getElem?_eq_some_iff.1 hi).1
        rw [List.length_append, List.length_singleton] at hil
        have e2 : i = o.length := by omega
        subst e2
        rw [List.getElem?_append_right (Nat.le_refl _), Nat.sub_self, List.getElem?_cons_zero] at hi
        obtain rfl := Option.some.inj hi
        obtain ⟨u1, u2, u3⟩ := mem_scc.1 hu
        have hwn := hvld u u1 w hw
        rcases m3 w (u2.tail hw) with e | e
        · obtain ⟨d, hd, hwd⟩ := List.mem_flatten.1 e
          obtain ⟨j, hj, rfl⟩ := List.mem_iff_getElem.1 hd
          exact ⟨j, _, by omega, by rw [List.getElem?_append_left hj, List.getElem?_eq_getElem hj], hwd⟩
        · exact ⟨o.length, _, Nat.le_refl _, by rw [List.getElem?_append_right (Nat.le_refl _), Nat.sub_self, List.getElem?_cons_zero], mem_scc.2 ⟨hwn, u2.tail hw, e⟩⟩
/-- What Components answers. -/
theorem comps_ev {l : List (List Int)} (hs : Sm l) (hv : Vld l) : ∃ o, Full l o ∧ Ev (fun k => graph_Components.f k l) o := by
  have h60 := hs.1
  obtain ⟨o, o1, o2⟩ := ordered_ev hv (L := 2000) hs.row (by omega)
  have hb := gv_ev l hs
  rw [(vldB_iff l).2 hv] at hb
  refine ⟨o, o1, Ev.congr (fun k => ?_) (Ev.bind hb (f := fun k t => if t = true then some o else some []) (Ev.now _))⟩
  unfold graph_Components.f
  rw [o2]
  rfl
theorem full_len {l o : List (List Int)} (hv : Vld l) (h : Full l o) : o.flatten.length = l.length ∧ o.length ≤ l.length ∧ ∀ c ∈ o, c.length ≤ l.length := by
  have P := kahn_parts hv h.1
  have hsub : ∀ x ∈ o.flatten, x ∈ iota l.length := by
    intro x hx
    obtain ⟨c, hc, hxc⟩ := List.mem_flatten.1 hx
    obtain ⟨m, _, rfl⟩ := P.scc c hc
    exact mem_iota.2 (mem_scc.1 hxc).1
  have h1 := nodup_sub _ _ P.one hsub
  have h2 := nodup_sub (iota l.length) o.flatten ((iota_lt _).imp (fun h e => by subst e; omega)) (fun x hx => h.2 x (mem_iota.1 hx))
  rw [iota_length] at h1 h2
  refine ⟨by omega, ?_, fun c hc => ?_⟩
  · have key : ∀ (q : List (List Int)), (∀ c ∈ q, 0 < c.length) → q.length ≤ q.flatten.length := by
      intro q
      induction q with
      | nil => intro _; simp
      | cons a q ih =>
        intro hq
        have := hq a (by simp)
        have := ih (fun c hc => hq c (by simp [hc]))
        rw [List.flatten_cons, List.length_append, List.length_cons]
        omega
    have := key o (fun c hc => by
      obtain ⟨m, m1, rfl⟩ := P.scc c hc
      exact List.length_pos_of_mem (mem_scc.2 ⟨m1, .refl m, .refl m⟩))
    omega
  · obtain ⟨m, m1, rfl⟩ := P.scc c hc
    unfold scc
    exact Nat.le_trans (List.length_filter_le _ _) (by rw [iota_length]; exact Nat.le_refl _)

end Tp
end Go.Proofs.Ytpmjpngmmphkmaa
/- What has answers, for every list with less than 1000000 numbers. -/
namespace Go.Proofs.Ytpmjpngmmphkmaa
open Go.RowKit Go.Proofs.YtpmjpngmmphkmaaW.PrintWords Go.Proofs.YtpmjpngmmphkmaaW.PrintLast Go.Proofs.YtpmjpngmmphkmaaW.PrintMore Go.Proofs.Ytpmjpngmmphkmaa.P
namespace Tp
open Tj Rw Od
set_option linter.unusedVariables false

theorem lh_ev (l : List Int) (x : Int) (hl : l.length < 1000000) : Ev (fun k => lazyclaw09_has.f k l x) (l.contains x) := by
  have key : ∀ (m j : Nat), j + m = l.length → Ev (fun k => lazyclaw09_has.l0 k l x j) ((l.drop j).contains x) := by
    intro m
    induction m with
    | zero =>
      intro j hj
      rw [List.drop_eq_nil_of_le (by omega)]
      refine Ev.step (fun k => ?_) (Ev.now _)
      simp only [lazyclaw09_has.l0]
      rw [if_neg (by omega)]
      rfl
    | succ m ih =>
      intro j hj
      have hjl : j < l.length := by omega
      rw [drop_row l j hjl, List.contains_cons]
      by_cases h : rd l j = x
      · rw [show (x == rd l j) = true by simp [h], Bool.true_or]
        refine Ev.step (fun k => ?_) (Ev.now _)
        simp only [lazyclaw09_has.l0]
        rw [if_pos (by omega), if_pos (by omega), if_pos h]
      · rw [show (x == rd l j) = false by simpa using fun e => h e.symm, Bool.false_or]
        refine Ev.step (fun k => ?_) (ih (j + 1) (by omega))
        simp only [lazyclaw09_has.l0]
        rw [if_pos (by omega), if_pos (by omega), if_neg h, succ_cast j (by omega)]
  exact key l.length 0 (by omega)

end Tp
end Go.Proofs.Ytpmjpngmmphkmaa
/- GraphMutual as printed answers true for every graph whose rows have a bounded length. -/
namespace Go.Proofs.Ytpmjpngmmphkmaa
open Go.RowKit Go.Proofs.YtpmjpngmmphkmaaW.PrintWords Go.Proofs.YtpmjpngmmphkmaaW.PrintLast Go.Proofs.YtpmjpngmmphkmaaW.PrintMore Go.Proofs.Ytpmjpngmmphkmaa.P
namespace Tp
open Tj Rw Od
open Classical
set_option linter.unusedVariables false
section
variable {l o : List (List Int)} {i j : Int}

/-- Two nodes of one component. -/
theorem together_iff (hv : Vld l) (h : Full l o) (hi : nd l i) (hj : nd l j) : (o.any fun c => c.contains i && c.contains j) = decide (Rc l i j ∧ Rc l j i) := by
  have P := kahn_parts hv h.1
  rw [Bool.eq_iff_iff, decide_eq_true_iff, List.any_eq_true]
  constructor
  · rintro ⟨c, hc, h2⟩
    rw [Bool.and_eq_true, List.contains_iff_mem, List.contains_iff_mem] at h2
    obtain ⟨m, m1, rfl⟩ := P.scc c hc
    obtain ⟨_, a1, a2⟩ := mem_scc.1 h2.1
    obtain ⟨_, b1, b2⟩ := mem_scc.1 h2.2
    exact ⟨a2.trans b1, b2.trans a1⟩
  · rintro ⟨a, b⟩
    obtain ⟨c, hc, hic⟩ := List.mem_flatten.1 (h.2 i hi)
    refine ⟨c, hc, ?_⟩
    rw [Bool.and_eq_true, List.contains_iff_mem, List.contains_iff_mem]
    refine ⟨hic, ?_⟩
    obtain ⟨m, m1, rfl⟩ := P.scc c hc
    obtain ⟨_, a1, a2⟩ := mem_scc.1 hic
    exact mem_scc.2 ⟨hj, a1.trans a, b.trans a2⟩

theorem mut_l0 (hs : Sm l) (hv : Vld l) (ho : Full l o) (R : List Int) (hR : Ev (fun k => graph_Reach.f k l i) R) :
    ∀ (m p : Nat) (b : Bool), p + m = o.length → Ev (fun k => lazyclaw09_GraphMutual.l1 k i j (b || (o.drop p).any fun c => c.contains i && c.contains j) R 0 l) true →
      Ev (fun k => lazyclaw09_GraphMutual.l0 k i j b o p l) true := by
  have h60 := hs.1
  have hlen := full_len hv ho
  intro m
  induction m with
  | zero =>
    intro p b hp h
    rw [List.drop_eq_nil_of_le (by omega), List.any_nil, Bool.or_false] at h
    refine Ev.step (fun k => ?_) (Ev.bind hR (f := fun k t => lazyclaw09_GraphMutual.l1 k i j b t 0 l) h)
    simp only [lazyclaw09_GraphMutual.l0]
    rw [if_neg (show ¬ (p : Int) < (o.length : Int) by omega)]
  | succ m ih =>
    intro p b hp h
    have hpl : p < o.length := by omega
    rw [drop_rows o p hpl, List.any_cons] at h
    have hc : (row o p).length < 1000000 := by
      have := hlen.2.2 _ (row_in o p hpl)
      omega
    cases b with
    | true =>
      refine Ev.step (fun k => ?_) (ih (p + 1) true (by omega) (by simpa using h))
      simp only [lazyclaw09_GraphMutual.l0]
      rw [if_pos (show (p : Int) < (o.length : Int) by omega), succ_cast p (by omega)]
      rfl
    | false =>
      rw [Bool.false_or] at h
      by_cases h1 : (row o p).contains i = true
      · rw [h1, Bool.true_and] at h
        have e1 := lh_ev (row o p) i hc
        have e2 := lh_ev (row o p) j hc
        rw [h1] at e1
        refine Ev.step (fun k => ?_) (Ev.bind e1 (f := fun k t => if t = true then (lazyclaw09_has.f k (row o p) j).bind fun t2 => lazyclaw09_GraphMutual.l0 k i j t2 o ((p + 1 : Nat) : Int) l else lazyclaw09_GraphMutual.l0 k i j false o ((p + 1 : Nat) : Int) l)
          (Ev.bind e2 (f := fun k t2 => lazyclaw09_GraphMutual.l0 k i j t2 o ((p + 1 : Nat) : Int) l) (ih (p + 1) _ (by omega) h)))
        simp only [lazyclaw09_GraphMutual.l0]
        rw [if_pos (show (p : Int) < (o.length : Int) by omega), succ_cast p (by omega), if_neg (by simp), if_pos (show (0 : Int) ≤ p by omega)]
        rfl
      · have h1' : (row o p).contains i = false := by simpa using h1
        rw [h1', Bool.false_and, Bool.false_or] at h
        have e1 := lh_ev (row o p) i hc
        rw [h1'] at e1
        refine Ev.step (fun k => ?_) (Ev.bind e1 (f := fun k t => if t = true then (lazyclaw09_has.f k (row o p) j).bind fun t2 => lazyclaw09_GraphMutual.l0 k i j t2 o ((p + 1 : Nat) : Int) l else lazyclaw09_GraphMutual.l0 k i j false o ((p + 1 : Nat) : Int) l)
          (ih (p + 1) false (by omega) (by rw [Bool.false_or]; exact h)))
        simp only [lazyclaw09_GraphMutual.l0]
        rw [if_pos (show (p : Int) < (o.length : Int) by omega), succ_cast p (by omega), if_neg (by simp), if_pos (show (0 : Int) ≤ p by omega)]
        rfl

theorem contains_rchL (hi : nd l i) (x : Int) (hx : nd l x) : (rchL l [i]).contains x = decide (Rc l i x) := by
  rw [Bool.eq_iff_iff, List.contains_iff_mem, mem_rchL, decide_eq_true_iff]
  simp [hx]
theorem reachM_eq (hv : Vld l) (hi : nd l i) : reachM l i = rchL l [i] := by
  unfold reachM
  rw [if_pos ⟨hv, hi⟩]

/-- Behind the loops. -/
theorem mut_end (hs : Sm l) (hv : Vld l) (hi : nd l i) (hj : nd l j) (p : Int) (hp : ¬ p < ((rchL l [i]).length : Int)) : Ev (fun k => lazyclaw09_GraphMutual.l1 k i j (decide (Rc l i j ∧ Rc l j i)) (rchL l [i]) p l) true := by
  have h60 := hs.1
  have hl := rchL_len l [i]
  have hl2 := rchL_len l [j]
  have e1 := lh_ev (rchL l [i]) i (by omega)
  have e2 := lh_ev (rchL l [i]) j (by omega)
  rw [contains_rchL hi i hi, decide_eq_true (Rc.refl i)] at e1
  rw [contains_rchL hi j hj] at e2
  by_cases h : Rc l i j
  · rw [decide_eq_true h] at e2
    have e3 := reach_ev hs j
    rw [reachM_eq hv hj] at e3
    have e4 := lh_ev (rchL l [j]) i (by omega)
    rw [contains_rchL hj i hi] at e4
    have e5 : decide (Rc l i j ∧ Rc l j i) = decide (Rc l j i) := by simp [h]
    rw [e5]
    refine Ev.step (fun k => ?_) (Ev.bind e1 (f := fun k t => if t = true then (lazyclaw09_has.f k (rchL l [i]) j).bind fun t328 => if t328 = true then (graph_Reach.f k l j).bind fun t329 => (lazyclaw09_has.f k t329 i).bind fun t332 => if (decide (Rc l j i) == t332) = true then (lazyclaw09_example.f).bind fun t => some t else some false else if (decide (Rc l j i) == false) = true then (lazyclaw09_example.f).bind fun t => some t else some false else some false)
      (Ev.bind e2 (f := fun k t328 => if t328 = true then (graph_Reach.f k l j).bind fun t329 => (lazyclaw09_has.f k t329 i).bind fun t332 => if (decide (Rc l j i) == t332) = true then (lazyclaw09_example.f).bind fun t => some t else some false else if (decide (Rc l j i) == false) = true then (lazyclaw09_example.f).bind fun t => some t else some false)
        (Ev.bind e3 (f := fun k t329 => (lazyclaw09_has.f k t329 i).bind fun t332 => if (decide (Rc l j i) == t332) = true then (lazyclaw09_example.f).bind fun t => some t else some false)
          (Ev.bind e4 (f := fun k t332 => if (decide (Rc l j i) == t332) = true then (lazyclaw09_example.f).bind fun t => some t else some false) (Ev.congr (fun k => by rw [if_pos (by simp)]; rfl) (Ev.now true))))))
    simp only [lazyclaw09_GraphMutual.l1]
    rw [if_neg hp]
  · rw [decide_eq_false h] at e2
    have e5 : decide (Rc l i j ∧ Rc l j i) = false := by simp [h]
    rw [e5]
    refine Ev.step (fun k => ?_) (Ev.bind e1 (f := fun k t => if t = true then (lazyclaw09_has.f k (rchL l [i]) j).bind fun t328 => if t328 = true then (graph_Reach.f k l j).bind fun t329 => (lazyclaw09_has.f k t329 i).bind fun t332 => if (false == t332) = true then (lazyclaw09_example.f).bind fun t => some t else some false else if (false == false) = true then (lazyclaw09_example.f).bind fun t => some t else some false else some false)
      (Ev.bind e2 (f := fun k t328 => if t328 = true then (graph_Reach.f k l j).bind fun t329 => (lazyclaw09_has.f k t329 i).bind fun t332 => if (false == t332) = true then (lazyclaw09_example.f).bind fun t => some t else some false else if (false == false) = true then (lazyclaw09_example.f).bind fun t => some t else some false)
        (Ev.now true)))
    simp only [lazyclaw09_GraphMutual.l1]
    rw [if_neg hp]

theorem mut_l1 (hs : Sm l) (hv : Vld l) (hi : nd l i) (hj : nd l j) : ∀ (m p : Nat), p + m = (rchL l [i]).length → Ev (fun k => lazyclaw09_GraphMutual.l1 k i j (decide (Rc l i j ∧ Rc l j i)) (rchL l [i]) p l) true := by
  have h60 := hs.1
  have hl := rchL_len l [i]
  intro m
  induction m with
  | zero => intro p hp; exact mut_end hs hv hi hj p (by omega)
  | succ m ih =>
    intro p hp
    have hpl : p < (rchL l [i]).length := by omega
    have hx : rd (rchL l [i]) p ∈ rchL l [i] := by rw [rd_at _ p hpl]; exact List.getElem_mem _
    obtain ⟨x1, s, x2, x3⟩ := mem_rchL.1 hx
    rw [List.mem_singleton] at x2
    subst x2
    generalize hxd : rd (rchL l [s]) p = x at *
    have hr := hs.row x
    have inner : ∀ (m2 q : Nat), q + m2 = (row l x).length → Ev (fun k => lazyclaw09_GraphMutual.l2 k s j (decide (Rc l s j ∧ Rc l j s)) (rchL l [s]) p (row l x) ((row l x).length : Int) q l) true := by
      intro m2
      induction m2 with
      | zero =>
        intro q hq
        refine Ev.step (fun k => ?_) (ih (p + 1) (by omega))
        simp only [lazyclaw09_GraphMutual.l2]
        rw [if_neg (show ¬ (q : Int) < ((row l x).length : Int) by omega), succ_cast p (by omega)]
      | succ m2 ih2 =>
        intro q hq
        have hql : q < (row l x).length := by omega
        have hw : rd (row l x) q ∈ row l x := by rw [rd_at _ q hql]; exact List.getElem_mem _
        have e := lh_ev (rchL l [s]) (rd (row l x) q) (by omega)
        rw [contains_rchL hi _ (hv x x1 _ hw), decide_eq_true (x3.tail hw)] at e
        refine Ev.step (fun k => ?_) (Ev.bind e (f := fun k t => if t = true then lazyclaw09_GraphMutual.l2 k s j (decide (Rc l s j ∧ Rc l j s)) (rchL l [s]) p (row l x) ((row l x).length : Int) ((q + 1 : Nat) : Int) l else some false) (ih2 (q + 1) (by omega)))
        simp only [lazyclaw09_GraphMutual.l2]
        rw [if_pos (show (q : Int) < ((row l x).length : Int) by omega), if_pos (show (0 : Int) ≤ q by omega), if_pos (show (q : Int) < ((row l x).length : Int) by omega), succ_cast q (by omega)]
    refine Ev.step (fun k => ?_) (inner (row l x).length 0 (by omega))
    simp only [lazyclaw09_GraphMutual.l1]
    rw [if_pos (show (p : Int) < ((rchL l [s]).length : Int) by omega), hxd, if_pos (show (0 : Int) ≤ p by omega), if_pos x1.1, if_pos (show x < (l.length : Int) from x1.2)]
    rfl
end

theorem GraphMutual (l : List (List Int)) (h : ∀ r ∈ l, r.length * 8 ≤ 140737488351232) (i j : Int) : ∃ k, lazyclaw09_GraphMutual.f k l i j = some true := by
  refine Ev.rounds (g := fun k => lazyclaw09_GraphMutual.f k l i j) ?_
  have hj0 : Ev (fun k => lazyclaw09_GraphMutual.j0 k i j true l) true := Ev.step (fun k => by simp only [lazyclaw09_GraphMutual.j0]; rw [if_pos trivial]; rfl) (Ev.now true)
  obtain ⟨b, b1, b2⟩ := small_ev l h
  refine Ev.bind b1 (f := fun k t => if t = true then _ else _) ?_
  cases b with
  | false => exact hj0
  | true =>
    have hs := b2 rfl
    have hb := rv_ev l hs
    refine Ev.bind hb (f := fun k t => if t = true then _ else _) ?_
    by_cases hv : Vld l
    · rw [(vldB_iff l).2 hv]
      by_cases hi : nd l i
      · by_cases hj : nd l j
        · obtain ⟨o, o1, o2⟩ := comps_ev hs hv
          have e1 := reach_ev hs i
          rw [reachM_eq hv hi] at e1
          have e2 := mut_l0 (j := j) hs hv o1 _ e1 o.length 0 false (by omega) (by rw [List.drop_zero, Bool.false_or, together_iff hv o1 hi hj]; exact mut_l1 hs hv hi hj (rchL l [i]).length 0 (by omega))
          refine Ev.congr (f := fun k => lazyclaw09_GraphMutual.j0 k i j false l) (fun k => ?_) (Ev.step (fun k => ?_) (Ev.bind o2 (f := fun k t => lazyclaw09_GraphMutual.l0 k i j false t 0 l) e2))
          · show (if i < 0 then _ else _) = _
            rw [if_neg (show ¬ i < 0 by have := hi.1; omega), if_neg (show ¬ i ≥ (l.length : Int) by have := hi.2; omega), if_neg (show ¬ j < 0 by have := hj.1; omega),
              show decide (j ≥ (l.length : Int)) = false from decide_eq_false (by have := hj.2; omega)]
          · simp only [lazyclaw09_GraphMutual.j0]
            rw [if_neg (by simp)]
        · refine Ev.congr (fun k => ?_) hj0
          show (if i < 0 then _ else _) = _
          rw [if_neg (show ¬ i < 0 by have := hi.1; omega), if_neg (show ¬ i ≥ (l.length : Int) by have := hi.2; omega)]
          by_cases h0 : j < 0
          · rw [if_pos h0]
          · rw [if_neg h0, show decide (j ≥ (l.length : Int)) = true from decide_eq_true (by unfold nd at hj; omega)]
      · refine Ev.congr (fun k => ?_) hj0
        show (if i < 0 then _ else _) = _
        by_cases h0 : i < 0
        · rw [if_pos h0]
        · rw [if_neg h0, if_pos (show i ≥ (l.length : Int) by unfold nd at hi; omega)]
    · have hf : vldB l = false := Bool.eq_false_iff.2 fun e => hv ((vldB_iff l).1 e)
      rw [hf]
      exact hj0
end Tp
end Go.Proofs.Ytpmjpngmmphkmaa
/- The law GraphMutual of the graph chapter holds: for every input it returns true, and the input reads as it did. -/
namespace Go.Proofs.Ytpmjpngmmphkmaa.graphMutual
open Go.ChangeShapes Go.WideShapes Go.ChangeAt Go.RowKit
set_option linter.unusedVariables false
theorem own : ownKnob Try.prog.godebug = none := by kernel_rfl
theorem laidOut : laidOutB Try.prog = true := by kernel_rfl
set_option maxRecDepth 100000 in
theorem lifted (os : Os) (started : os.Started) (H : Type) (enc : TypeId × Value → H) :
    ReturnsInHanded {} Try.checked os 7 .any (Rows.graphMutualSpec.pre6 enc Try.prog Try.f7 Rows.graphMutualRow.domain false) (Rows.graphMutualSpec.post enc Try.prog Try.f7 false true false false) := by
  refine returnsInHanded_of_change_sized (C := Try.checked) own started (by kernel_rfl) Try.func7
    (ChangeSpec.witness6 (enc := enc) (C := Try.checked) false ⟨#[], #[.agg #[.slice none 0 0], .int .i64 0, .int .i64 0], []⟩ 8 (by kernel_rfl) (by kernel_rfl) (by kernel_rfl) (by kernel_rfl)) ?_
  intro W base args ds gs before hval0 hW hcnd hsz0 _
  have hsz : (DataW.weightsEach Try.prog (Try.f7.params.toList ++ Rows.graphMutualSpec.plain.varTypes Try.prog) (ds ++ gs)).all (· ≤ reachBytes) = true := hsz0
  have hval : ∀ (j : Nat) t v, Try.f7.params[j]? = some t → args[j]? = some v → Value.okWide Try.prog W .any base t v := hval0
  have hW' := hW
  obtain ⟨p, q, hA0, hV, rfl, hfz, hnd⟩ := hW
  have hA : DataW.TrodAll enc Try.prog W 0 (fun _ => true) true Try.f7.params.toList args.toList ds p := hA0
  rw [Try.params7] at hA hval hsz
  obtain ⟨v0, vs0, d0, ds0, p0, q0, hargs, rfl, rfl, h0, r0⟩ := trodAll_cons hA
  obtain ⟨v1, vs1, d1, ds1, p1, q1, rfl, rfl, rfl, h1, r1⟩ := trodAll_cons r0
  obtain ⟨v2, vs2, d2, ds2, p2, q2, rfl, rfl, rfl, h2, r2⟩ := trodAll_cons r1
  obtain ⟨rfl, rfl, rfl⟩ := trodAll_nil r2
  obtain rfl : args = #[v0, v1, v2] := by cases args; simp_all
  obtain ⟨rfl, rfl⟩ := trodVars_none hV
  have k0 := h0
  have lt0 : ∀ x ∈ p0, x.block < W.heap.size := by obtain ⟨m, hm⟩ := k0; exact DataW.trod_lt m _ _ _ hm
  obtain ⟨A0, c0, l0, rfl, hc0, hr0, y0⟩ := Gr.open_graph (hval 0 24 v0 rfl rfl) hsz (j := 0) rfl rfl h0
  obtain ⟨a1, rfl, rfl, rfl, w1⟩ := open_int Try.underlying3 (hval 1 3 v1 rfl rfl) h1
  obtain ⟨a2, rfl, rfl, rfl, w2⟩ := open_int Try.underlying3 (hval 2 3 v2 rfl rfl) h2
  clear hA0 hval0 hsz0 hsz
  obtain ⟨kr, hkr⟩ := Tp.GraphMutual l0 y0 a1 a2
  refine (P.lazyclaw09_GraphMutual.calls kr A0 c0 l0 a1 a2 true W hr0 hc0 hkr).mono fun e W' ⟨he, bel⟩ => ?_
  subst he
  exact ⟨_, rfl, _, _, _, [], _, [], hW', trodAll_mk1 (shut_bool Try.underlying4 _), (trodAll_cons_mk (Below.trod laidOut (by kernel_rfl) (of_decide_eq_true (by kernel_rfl)) k0 bel lt0) (trodAll_cons_mk (shut_int Try.underlying3 w1) (trodAll_cons_mk (shut_int Try.underlying3 w2) trodAll_mk0))), rfl, bel.frame _, fun h => by cases h⟩
theorem over : Rows.graphMutualRow.holds Try.pinned (OpenSpec.ofChange Rows.graphMutualSpec) :=
  OpenClaim.holds_of_wide 7 Try.f7 rfl rfl rfl rfl rfl rfl rfl ⟨rfl, rfl, rfl, rfl, rfl⟩ rfl rfl rfl rfl rfl (by kernel_rfl) Try.func7 (by kernel_rfl)
    (of_decide_eq_true (by kernel_rfl)) (by unfold Func.isWrapper; first | (rw [if_pos (by decide +kernel)]; kernel_rfl) | (rw [if_neg (by decide +kernel)]; exact ⟨rfl, rfl⟩))
    (fun os started H enc _ => lifted os started H enc)
theorem proved : Rows.GraphMutualSaid := over
#print axioms proved
end Go.Proofs.Ytpmjpngmmphkmaa.graphMutual
namespace Go.Proofs.Ytpmjpngmmphkmaa
/-- The row, under a short name, for the claim. -/
theorem graphMutual_holds : Rows.GraphMutualSaid := graphMutual.proved
end Go.Proofs.Ytpmjpngmmphkmaa
