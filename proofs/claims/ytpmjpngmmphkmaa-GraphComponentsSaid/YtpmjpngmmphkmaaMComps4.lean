/- Part 4 of 4 of one proof: The law GraphComponents of the graph chapter holds: for every input it returns true, and the input reads as it did -/
import Derived.Below
import Derived.ChangeOld
import Derived.OpenShut
import Derived.ProofKit
import Derived.ShutString
import Derived.SizedLaws
import Derived.Test.YtpmjpngmmphkmaaRows
import Derived.WalkKit
import Derived.Test.YtpmjpngmmphkmaaMComps1
import Derived.Test.YtpmjpngmmphkmaaMComps2
import Derived.Test.YtpmjpngmmphkmaaMComps3
set_option linter.unusedVariables false
set_option linter.unusedSimpArgs false
/- graph.ordered hands back the components one after the other, each time the ready one with the smallest node: for every valid graph with less than 1000000 nodes. -/
namespace Go.Proofs.Ytpmjpngmmphkmaa
open Go.RowKit Go.Proofs.YtpmjpngmmphkmaaW.PrintWords Go.Proofs.YtpmjpngmmphkmaaW.PrintLast Go.Proofs.YtpmjpngmmphkmaaW.PrintMore
namespace Tp
open Tj Rw Od
set_option linter.unusedVariables false

/-- What is known of the components' rows. -/
structure Rows (es : List (List Int)) (cm : List Int) (n : Int) (ms : List (List Int)) : Prop where
  len : (ms.length : Int) = n
  row : ∀ c, 0 ≤ c → c < n → row ms c = mem cm c

theorem mem_lt (cm : List Int) (c : Int) : (mem cm c).Pairwise (· < ·) := by
  unfold mem
  exact (iota_lt _).filter _

theorem fine_of {es : List (List Int)} {cm : List Int} {n : Int} {ms : List (List Int)} (S : Sol es cm n) (hn : es.length < 1000000) (R : Rows es cm n ms) {c : Int} (h0 : 0 ≤ c) (h1 : c < n) :
    Fine ms c ∧ (nd es (first ms c) ∧ rd cm (first ms c) = c) ∧ ∀ v, nd es v → rd cm v = c → first ms c ≤ v := by
  have hl := R.len
  obtain ⟨v, hv, hvc⟩ := S.onto c h0 h1
  have hm : v ∈ row ms c := by rw [R.row c h0 h1, mem_mem, S.len]; exact ⟨hv, hvc⟩
  have hpos := List.length_pos_of_mem hm
  have hf : first ms c ∈ row ms c := rd_mem _ _ (Int.le_refl _) (by omega)
  have hf2 := hf
  rw [R.row c h0 h1, mem_mem, S.len] at hf2
  refine ⟨⟨h0, by omega, hpos, hf2.1.1, by omega⟩, ⟨hf2.1, hf2.2⟩, ?_⟩
  intro u hu huc
  have hum : u ∈ row ms c := by rw [R.row c h0 h1, mem_mem, S.len]; exact ⟨hu, huc⟩
  have hp : (row ms c).Pairwise (· < ·) := by rw [R.row c h0 h1]; exact mem_lt _ _
  unfold first
  generalize row ms c = l at *
  cases l with
  | nil => cases hum
  | cons a l =>
    show a ≤ u
    rcases List.mem_cons.1 hum with e | e
    · omega
    · have := (List.pairwise_cons.1 hp).1 u e
      omega

theorem first_inj {es : List (List Int)} {cm : List Int} {n : Int} {ms : List (List Int)} (S : Sol es cm n) (hn : es.length < 1000000) (R : Rows es cm n ms) {c d : Int} (h0 : 0 ≤ c) (h1 : c < n) (k0 : 0 ≤ d) (k1 : d < n)
    (h : first ms c = first ms d) : c = d := by
  rw [← (fine_of S hn R h0 h1).2.1.2, ← (fine_of S hn R k0 k1).2.1.2, h]

/-- The waiting ones: those of p, sorted by their first nodes. -/
structure Rdy (ms : List (List Int)) (n : Int) (p : Int → Prop) (ready : List Int) : Prop where
  mem : ∀ x, x ∈ ready ↔ (0 ≤ x ∧ x < n) ∧ p x
  srt : ready.Pairwise fun a b => first ms a < first ms b

theorem ins_sorted {ms : List (List Int)} {c : Int} : ∀ (l : List Int), l.Pairwise (fun a b => first ms a < first ms b) → (∀ x ∈ l, first ms x ≠ first ms c) →
    (ins l (pos ms (first ms c) l) c).Pairwise (fun a b => first ms a < first ms b) ∧ ∀ x, x ∈ ins l (pos ms (first ms c) l) c ↔ x = c ∨ x ∈ l := by
  intro l
  induction l with
  | nil => intro _ _; simp [ins]
  | cons a l ih =>
    intro hp hne
    obtain ⟨h1, h2⟩ := List.pairwise_cons.1 hp
    by_cases ha : first ms a < first ms c
    · have hpos : pos ms (first ms c) (a :: l) = pos ms (first ms c) l + 1 := by
        unfold pos
        rw [List.countP_cons, if_pos (by simpa using ha)]
      have hins : ins (a :: l) (pos ms (first ms c) (a :: l)) c = a :: ins l (pos ms (first ms c) l) c := by
        rw [hpos]; simp [ins]
      obtain ⟨i1, i2⟩ := ih h2 (fun x hx => hne x (by simp [hx]))
      rw [hins]
      refine ⟨List.pairwise_cons.2 ⟨fun x hx => ?_, i1⟩, fun x => ?_⟩
      · rcases (i2 x).1 hx with e | e
        · rw [e]; exact ha
        · exact h1 x e
      · rw [List.mem_cons, i2, List.mem_cons]
        constructor
        · rintro (h | h | h)
          · exact .inr (.inl h)
          · exact .inl h
          · exact .inr (.inr h)
        · rintro (h | h | h)
          · exact .inr (.inl h)
          · exact .inl h
          · exact .inr (.inr h)
    · have hca : first ms c < first ms a := by have := hne a (by simp); omega
      have hpos : pos ms (first ms c) (a :: l) = 0 := by
        unfold pos
        rw [List.countP_eq_zero]
        intro x hx
        rcases List.mem_cons.1 hx with e | e
        · rw [e]; simpa using ha
        · have := h1 x e
          simp
          omega
      have hins : ins (a :: l) (pos ms (first ms c) (a :: l)) c = c :: a :: l := by
        rw [hpos]; simp [ins]
      rw [hins]
      refine ⟨List.pairwise_cons.2 ⟨fun x hx => ?_, hp⟩, fun x => List.mem_cons⟩
      rcases List.mem_cons.1 hx with e | e
      · rw [e]; exact hca
      · have := h1 x e; omega

theorem rdy_len {ms : List (List Int)} {n : Int} {p : Int → Prop} {ready : List Int} (h : Rdy ms n p ready) : ready.length ≤ n.toNat :=
  nodup_le _ _ (h.srt.imp (fun h e => by subst e; omega)) (fun x hx => by have := (h.mem x).1 hx; omega)

theorem enter_rdy {es : List (List Int)} {cm : List Int} {n : Int} {ms : List (List Int)} (S : Sol es cm n) (hn : es.length < 1000000) (R : Rows es cm n ms) {p q : Int → Prop} {ready : List Int} {c : Int} (h : Rdy ms n p ready)
    (h0 : 0 ≤ c) (h1 : c < n) (hc : ¬ p c) (hq : ∀ x, 0 ≤ x → x < n → (q x ↔ x = c ∨ p x)) : ∃ r, enterF ms c ready = some r ∧ Rdy ms n q r := by
  have hne : ∀ x ∈ ready, first ms x ≠ first ms c := by
    intro x hx e
    obtain ⟨a, b⟩ := (h.mem x).1 hx
    have := first_inj S hn R a.1 a.2 h0 h1 e
    subst this
    exact hc b
  obtain ⟨i1, i2⟩ := ins_sorted ready h.srt hne
  have hl := rdy_len h
  have hN := S.n0
  refine ⟨_, ?_, ⟨fun x => ?_, i1⟩⟩
  · unfold enterF
    rw [if_pos ⟨(fine_of S hn R h0 h1).1, fun d hd => (fine_of S hn R ((h.mem d).1 hd).1.1 ((h.mem d).1 hd).1.2).1, h.srt.imp (fun h => by omega), by omega⟩]
  · rw [i2]
    constructor
    · rintro (e | e)
      · subst e; exact ⟨⟨h0, h1⟩, (hq x h0 h1).2 (.inl rfl)⟩
      · obtain ⟨a, b⟩ := (h.mem x).1 e
        exact ⟨a, (hq x a.1 a.2).2 (.inr b)⟩
    · rintro ⟨a, b⟩
      rcases (hq x a.1 a.2).1 b with e | e
      · exact .inl e
      · exact .inr ((h.mem x).2 ⟨a, e⟩)

theorem Rdy.congr {ms : List (List Int)} {n : Int} {p q : Int → Prop} {r : List Int} (h : Rdy ms n p r) (hq : ∀ x, 0 ≤ x → x < n → (q x ↔ p x)) : Rdy ms n q r :=
  ⟨fun x => by
    rw [h.mem]
    exact ⟨fun ⟨a, b⟩ => ⟨a, (hq x a.1 a.2).2 b⟩, fun ⟨a, b⟩ => ⟨a, (hq x a.1 a.2).1 b⟩⟩, h.srt⟩

theorem starts_run {es : List (List Int)} {cm : List Int} {n : Int} {ms : List (List Int)} (S : Sol es cm n) (hn : es.length < 1000000) (R : Rows es cm n ms) (opn : List Int) (ho : (opn.length : Int) = n) :
    ∀ (m k i : Nat) (ready : List Int), (i : Int) + m = n → m < k → Rdy ms n (fun x => x < i ∧ rd opn x = 0) ready → ∃ r, starts k ms n i opn ready = some r ∧ Rdy ms n (fun x => rd opn x = 0) r := by
  intro m
  induction m with
  | zero =>
    intro k i ready hi hk h
    obtain ⟨k, rfl⟩ : ∃ m, k = m + 1 := ⟨k - 1, by omega⟩
    unfold starts
    rw [if_neg (by omega)]
    exact ⟨ready, rfl, h.congr (fun x h0 h1 => ⟨fun e => ⟨by omega, e⟩, fun e => e.2⟩)⟩
  | succ m ih =>
    intro k i ready hi hk h
    obtain ⟨k, rfl⟩ : ∃ m, k = m + 1 := ⟨k - 1, by omega⟩
    unfold starts
    rw [if_pos (by omega), if_pos ⟨by omega, by omega⟩, show (i : Int) + 1 = ((i + 1 : Nat) : Int) by omega]
    by_cases h0 : rd opn i = 0
    · rw [if_pos h0]
      obtain ⟨r, a1, a2⟩ := enter_rdy S hn R (c := (i : Int)) (q := fun x => x < ((i + 1 : Nat) : Int) ∧ rd opn x = 0) h (by omega) (by omega) (by omega) (fun x k0 k1 => by
        constructor
        · rintro ⟨a, b⟩
          by_cases e : x = i
          · exact .inl e
          · exact .inr ⟨by omega, b⟩
        · rintro (e | e)
          · subst e; exact ⟨by omega, h0⟩
          · exact ⟨by omega, e.2⟩)
      rw [a1, Option.bind_some]
      exact ih k (i + 1) r (by omega) (by omega) a2
    · rw [if_neg h0]
      refine ih k (i + 1) ready (by omega) (by omega) (h.congr (fun x k0 k1 => ?_))
      constructor
      · rintro ⟨a, b⟩
        by_cases e : x = i
        · subst e; exact absurd b h0
        · exact ⟨by omega, b⟩
      · rintro ⟨a, b⟩
        exact ⟨by omega, b⟩

/-- The components in the order in which they are handed back. -/
inductive Seq (es : List (List Int)) (cm : List Int) (n : Int) (ms : List (List Int)) : List Int → Prop
  | nil : Seq es cm n ms []
  | snoc {D : List Int} {c : Int} : Seq es cm n ms D → 0 ≤ c → c < n → c ∉ D → (∀ d, Dep es cm c d → d ∈ D) → (∀ x, 0 ≤ x → x < n → x ∉ D → (∀ d, Dep es cm x d → d ∈ D) → first ms c ≤ first ms x) → Seq es cm n ms (D ++ [c])

theorem Seq.rng {es : List (List Int)} {cm : List Int} {n : Int} {ms : List (List Int)} {D : List Int} (h : Seq es cm n ms D) : D.Nodup ∧ (∀ x ∈ D, 0 ≤ x ∧ x < n) ∧ ∀ x ∈ D, ∀ d, Dep es cm x d → d ∈ D := by
  induction h with
  | nil => simp
  | snoc _ h0 h1 h2 h3 h4 ih =>
    obtain ⟨i1, i2, i3⟩ := ih
    refine ⟨?_, ?_, ?_⟩
    · rw [List.nodup_append]
      exact ⟨i1, by simp, fun a ha b hb e => by rw [List.mem_singleton] at hb; subst hb; subst e; exact h2 ha⟩
    · intro x hx
      rcases List.mem_append.1 hx with e | e
      · exact i2 x e
      · rw [List.mem_singleton] at e; subst e; exact ⟨h0, h1⟩
    · intro x hx d hd
      rcases List.mem_append.1 hx with e | e
      · exact List.mem_append.2 (.inl (i3 x e d hd))
      · rw [List.mem_singleton] at e; subst e; exact List.mem_append.2 (.inl (h3 d hd))

/-- Each component's open edges. -/
def Cnt (n : Int) (q : Int → Int → Prop) (opn : List Int) : Prop := (opn.length : Int) = n ∧ ∀ u, 0 ≤ u → u < n → ∃ P : List Int, P.Nodup ∧ (∀ x ∈ P, 0 ≤ x ∧ x < n) ∧ (∀ x, x ∈ P ↔ q u x) ∧ rd opn u = P.length

theorem Cnt.zero {n : Int} {q : Int → Int → Prop} {opn : List Int} (h : Cnt n q opn) {u : Int} (h0 : 0 ≤ u) (h1 : u < n) : rd opn u = 0 ↔ ∀ x, ¬ q u x := by
  obtain ⟨P, _, _, p3, p4⟩ := h.2 u h0 h1
  rw [p4]
  constructor
  · intro h x hx
    have := List.length_pos_of_mem ((p3 x).2 hx)
    omega
  · intro h
    cases P with
    | nil => rfl
    | cons a P => exact absurd ((p3 a).1 (by simp)) (h a)

theorem Cnt.congr {n : Int} {q q' : Int → Int → Prop} {opn : List Int} (h : Cnt n q opn) (hq : ∀ u x, 0 ≤ u → u < n → (q' u x ↔ q u x)) : Cnt n q' opn :=
  ⟨h.1, fun u h0 h1 => by
    obtain ⟨P, p1, p2, p3, p4⟩ := h.2 u h0 h1
    exact ⟨P, p1, p2, fun x => by rw [p3, hq u x h0 h1], p4⟩⟩

theorem dec_run {es : List (List Int)} {cm : List Int} {n : Int} {ms : List (List Int)} (S : Sol es cm n) (hn : es.length < 1000000) (R : Rows es cm n ms) {D : List Int} {c : Int} (hcD : c ∉ D) (l : List Int) (hnd : l.Nodup)
    (hl : ∀ x, x ∈ l ↔ (0 ≤ x ∧ x < n) ∧ Dep es cm x c) :
    ∀ (m k i : Nat) (opn ready : List Int), i + m = l.length → m < k → Cnt n (fun u x => Dep es cm u x ∧ x ∉ D ∧ (x = c → u ∉ l.take i)) opn →
      Rdy ms n (fun x => x ∉ D ∧ x ≠ c ∧ ∀ d, Dep es cm x d → d ∈ D ∨ (d = c ∧ x ∈ l.take i)) ready → (∀ x ∈ l, x ∉ D) →
      ∃ opn' ready', dec k ms l i opn ready = some (opn', ready') ∧ Cnt n (fun u x => Dep es cm u x ∧ x ∉ D ++ [c]) opn' ∧ Rdy ms n (fun x => x ∉ D ++ [c] ∧ ∀ d, Dep es cm x d → d ∈ D ++ [c]) ready' := by
  intro m
  induction m with
  | zero =>
    intro k i opn ready hi hk hc hr hlD
    obtain ⟨k, rfl⟩ : ∃ m, k = m + 1 := ⟨k - 1, by omega⟩
    unfold dec
    rw [if_neg (by omega)]
    have ht : l.take i = l := List.take_of_length_le (by omega)
    rw [ht] at hc hr
    refine ⟨opn, ready, rfl, hc.congr (fun u x h0 h1 => ?_), hr.congr (fun x h0 h1 => ?_)⟩
    · simp only [List.mem_append, List.mem_singleton, not_or]
      constructor
      · rintro ⟨a, b, d⟩; exact ⟨a, b, fun e => absurd e d⟩
      · rintro ⟨a, b, d⟩
        refine ⟨a, b, fun e => ?_⟩
        subst e
        exact d rfl ((hl u).2 ⟨⟨h0, h1⟩, a⟩)
    · simp only [List.mem_append, List.mem_singleton, not_or]
      constructor
      · rintro ⟨⟨a, b⟩, d⟩
        refine ⟨a, b, fun e he => ?_⟩
        rcases d e he with h | h
        · exact .inl h
        · subst h; exact .inr ⟨rfl, (hl x).2 ⟨⟨h0, h1⟩, he⟩⟩
      · rintro ⟨a, b, d⟩
        refine ⟨⟨a, b⟩, fun e he => ?_⟩
        rcases d e he with h | h
        · exact .inl h
        · exact .inr h.1
  | succ m ih =>
    intro k i opn ready hi hk hc hr hlD
    obtain ⟨k, rfl⟩ : ∃ m, k = m + 1 := ⟨k - 1, by omega⟩
    have hil : i < l.length := by omega
    have hN := S.n0
    have hum : rd l i ∈ l := by rw [rd_at l i hil]; exact List.getElem_mem _
    obtain ⟨hu, hdep⟩ := (hl _).1 hum
    have htake : l.take (i + 1) = l.take i ++ [rd l i] := by rw [rd_at l i hil]; exact List.take_succ_eq_append_getElem hil
    have hnt : rd l i ∉ l.take i := by
      intro h
      have h2 : (l.take (i + 1)).Nodup := hnd.sublist (List.take_sublist _ _)
      rw [htake, List.nodup_append] at h2
      exact h2.2.2 _ h _ (by simp) rfl
    obtain ⟨P, p1, p2, p3, p4⟩ := hc.2 _ hu.1 hu.2
    have hlen := hc.1
    have hcP : c ∈ P := (p3 c).2 ⟨hdep, hcD, fun _ => hnt⟩
    have hPl : P.length ≤ n.toNat := nodup_le _ _ p1 (fun x hx => by have := p2 x hx; omega)
    have hP0 := List.length_pos_of_mem hcP
    generalize hud : rd l i = u at *
    have hw : wrap64 (rd opn u - 1) = rd opn u - 1 := w64 _ (by omega) (by omega)
    have hc2 : Cnt n (fun u x => Dep es cm u x ∧ x ∉ D ∧ (x = c → u ∉ l.take (i + 1))) (opn.set u.toNat (wrap64 (rd opn u - 1))) := by
      refine ⟨by rw [List.length_set]; exact hlen, fun y h0 h1 => ?_⟩
      rw [hw, rd_set _ _ _ _ hu.1 (by omega) h0]
      by_cases e : y = u
      · subst e
        refine ⟨P.erase c, p1.erase _, fun x hx => p2 x (List.mem_of_mem_erase hx), fun x => ?_, ?_⟩
        · rw [p1.mem_erase_iff, p3, htake]
          simp only [List.mem_append, List.mem_singleton]
          constructor
          · rintro ⟨a, b, d, _⟩; exact ⟨b, d, fun e => absurd e a⟩
          · rintro ⟨a, b, d⟩
            refine ⟨fun e => d e (.inr trivial), a, b, fun e => absurd e (fun e => d e (.inr trivial))⟩
        · rw [if_pos rfl, List.length_erase_of_mem hcP]
          omega
      · rw [if_neg e]
        obtain ⟨P', q1, q2, q3, q4⟩ := hc.2 y h0 h1
        refine ⟨P', q1, q2, fun x => ?_, q4⟩
        rw [q3, htake]
        simp only [List.mem_append, List.mem_singleton, e, or_false]
    have hz := hc2.zero hu.1 hu.2
    unfold dec
    rw [if_pos (by omega), hud, if_pos ⟨hu.1, by omega⟩, show (i : Int) + 1 = ((i + 1 : Nat) : Int) by omega]
    by_cases h0 : rd (opn.set u.toNat (wrap64 (rd opn u - 1))) u = 0
    · rw [if_pos h0]
      have hnone := hz.1 h0
      obtain ⟨r, a1, a2⟩ := enter_rdy S hn R (c := u) (q := fun x => x ∉ D ∧ x ≠ c ∧ ∀ d, Dep es cm x d → d ∈ D ∨ (d = c ∧ x ∈ l.take (i + 1))) hr hu.1 hu.2
        (fun h => by
          rcases h.2.2 c hdep with e | e
          · exact hcD e
          · exact hnt e.2)
        (fun x k0 k1 => by
          rw [htake]
          constructor
          · rintro ⟨a, b, d⟩
            by_cases e : x = u
            · exact .inl e
            · refine .inr ⟨a, b, fun y hy => ?_⟩
              rcases d y hy with h | ⟨h, h2⟩
              · exact .inl h
              · rcases List.mem_append.1 h2 with h3 | h3
                · exact .inr ⟨h, h3⟩
                · exact absurd (List.mem_singleton.1 h3) e
          · rintro (e | ⟨a, b, d⟩)
            · subst e
              refine ⟨hlD x hum, fun e => hdep.1 e, fun y hy => ?_⟩
              by_cases e : y ∈ D
              · exact .inl e
              · by_cases e2 : y = c
                · exact .inr ⟨e2, by simp⟩
                · exact absurd ⟨hy, e, fun e3 => absurd e3 e2⟩ (hnone y)
            · refine ⟨a, b, fun y hy => ?_⟩
              rcases d y hy with h | ⟨h, h2⟩
              · exact .inl h
              · exact .inr ⟨h, List.mem_append.2 (.inl h2)⟩)
      rw [a1, Option.bind_some]
      exact ih k (i + 1) _ r (by omega) (by omega) hc2 a2 hlD
    · rw [if_neg h0]
      have hsome : ∃ x, Dep es cm u x ∧ x ∉ D ∧ x ≠ c := by
        refine Classical.byContradiction fun hno => h0 (hz.2 fun x hx => hno ⟨x, hx.1, hx.2.1, fun e => ?_⟩)
        exact hx.2.2 e (by rw [htake]; simp)
      refine ih k (i + 1) _ ready (by omega) (by omega) hc2 (hr.congr (fun x k0 k1 => ?_)) hlD
      rw [htake]
      constructor
      · rintro ⟨a, b, d⟩
        refine ⟨a, b, fun y hy => ?_⟩
        rcases d y hy with h | ⟨h, h2⟩
        · exact .inl h
        · rcases List.mem_append.1 h2 with h3 | h3
          · exact .inr ⟨h, h3⟩
          · rw [List.mem_singleton] at h3
            subst h3
            obtain ⟨z, z1, z2, z3⟩ := hsome
            rcases d z z1 with h4 | h4
            · exact absurd h4 z2
            · exact absurd h4.1 z3
      · rintro ⟨a, b, d⟩
        refine ⟨a, b, fun y hy => ?_⟩
        rcases d y hy with h | ⟨h, h2⟩
        · exact .inl h
        · exact .inr ⟨h, List.mem_append.2 (.inl h2)⟩

theorem dep_lt {es : List (List Int)} {cm : List Int} {n : Int} (S : Sol es cm n) (hvld : Vld es) {x d : Int} (h : Dep es cm x d) : 0 ≤ d ∧ d < x := by
  obtain ⟨h1, v, hv, w, hw, rfl⟩ := h
  obtain ⟨a, b⟩ := mem_mem.1 hv
  rw [S.len] at a
  have h2 := S.back v a w hw
  have h3 := S.rng w (hvld v a w hw)
  omega
theorem ready_ex {es : List (List Int)} {cm : List Int} {n : Int} (S : Sol es cm n) (hvld : Vld es) (D : List Int) : ∀ (m : Nat) (x : Int), x = m → x < n → x ∉ D → ∃ y, 0 ≤ y ∧ y < n ∧ y ∉ D ∧ ∀ d, Dep es cm y d → d ∈ D := by
  intro m
  induction m using Nat.strongRecOn with
  | ind m ih =>
    intro x hx hxn hxD
    by_cases h : ∀ d, Dep es cm x d → d ∈ D
    · exact ⟨x, by omega, hxn, hxD, h⟩
    · obtain ⟨d, hd⟩ := Classical.not_forall.1 h
      obtain ⟨h1, h2⟩ := Classical.not_imp.1 hd
      have := dep_lt S hvld h1
      exact ih d.toNat (by omega) d (by omega) (by omega) h2

theorem drain_run {es : List (List Int)} {cm : List Int} {n : Int} {ms users : List (List Int)} (S : Sol es cm n) (hn : es.length < 1000000) (R : Rows es cm n ms) (hvld : Vld es) (hul : (users.length : Int) = n)
    (hus : ∀ d, 0 ≤ d → d < n → (row users d).Nodup ∧ ∀ x, x ∈ row users d ↔ (0 ≤ x ∧ x < n) ∧ Dep es cm x d) :
    ∀ (m k : Nat) (D opn ready : List Int), D.length + m = n.toNat → m + n.toNat + 1 < k → Seq es cm n ms D → Cnt n (fun u x => Dep es cm u x ∧ x ∉ D) opn → Rdy ms n (fun x => x ∉ D ∧ ∀ d, Dep es cm x d → d ∈ D) ready →
      ∃ D', Od.drain k ms users opn ready (D.map (row ms)) = some (D'.map (row ms)) ∧ Seq es cm n ms D' ∧ ∀ c, 0 ≤ c → c < n → c ∈ D' := by
  intro m
  induction m with
  | zero =>
    intro k D opn ready hm hk hD hc hr
    obtain ⟨k, rfl⟩ : ∃ m, k = m + 1 := ⟨k - 1, by omega⟩
    obtain ⟨d1, d2, d3⟩ := hD.rng
    have hall : ∀ c, 0 ≤ c → c < n → c ∈ D := by
      intro c h0 h1
      refine Classical.byContradiction fun hcD => ?_
      have := nodup_le n.toNat (c :: D) (List.nodup_cons.2 ⟨hcD, d1⟩) (fun x hx => by
        rcases List.mem_cons.1 hx with e | e
        · omega
        · have := d2 x e; omega)
      simp at this
      omega
    have hr0 : ready = [] := by
      cases ready with
      | nil => rfl
      | cons a l =>
        obtain ⟨⟨h0, h1⟩, h2, _⟩ := (hr.mem a).1 (by simp)
        exact absurd (hall a h0 h1) h2
    subst hr0
    refine ⟨D, ?_, hD, hall⟩
    unfold Od.drain
    rw [if_neg (by simp)]
  | succ m ih =>
    intro k D opn ready hm hk hD hc hr
    obtain ⟨k, rfl⟩ : ∃ m, k = m + 1 := ⟨k - 1, by omega⟩
    obtain ⟨d1, d2, d3⟩ := hD.rng
    have hN := S.n0
    have hml := R.len
    cases ready with
    | nil =>
      refine ⟨D, by unfold Od.drain; rw [if_neg (by simp)], hD, fun c h0 h1 => ?_⟩
      refine Classical.byContradiction fun hcD => ?_
      obtain ⟨y, y0, y1, y2, y3⟩ := ready_ex S hvld D c.toNat c (by omega) h1 hcD
      have := (hr.mem y).2 ⟨⟨y0, y1⟩, y2, y3⟩
      cases this
    | cons c rest =>
      obtain ⟨⟨c0, c1⟩, c2, c3⟩ := (hr.mem c).1 (by simp)
      obtain ⟨s1, s2⟩ := List.pairwise_cons.1 hr.srt
      have hu := hus c c0 c1
      have hul2 := nodup_le n.toNat _ hu.1 (fun x hx => by have := ((hu.2 x).1 hx).1; omega)
      have hnc : ∀ x ∈ row users c, x ∉ D := by
        intro x hx hxD
        exact c2 (d3 x hxD c ((hu.2 x).1 hx).2)
      have hrest : Rdy ms n (fun x => x ∉ D ∧ x ≠ c ∧ ∀ d, Dep es cm x d → d ∈ D ∨ (d = c ∧ x ∈ (row users c).take 0)) rest := by
        refine ⟨fun x => ?_, s2⟩
        constructor
        · intro hx
          obtain ⟨a, b, d⟩ := (hr.mem x).1 (List.mem_cons.2 (.inr hx))
          refine ⟨a, b, fun e => ?_, fun y hy => .inl (d y hy)⟩
          subst e
          have := s1 x hx
          omega
        · rintro ⟨a, b, e, d⟩
          rcases List.mem_cons.1 ((hr.mem x).2 ⟨a, b, fun y hy => by
            rcases d y hy with h | h
            · exact h
            · have := h.2; simp at this⟩) with h | h
          · exact absurd h e
          · exact h
      obtain ⟨opn', ready', e1, e2, e3⟩ := dec_run S hn R c2 (row users c) hu.1 hu.2 (row users c).length k 0 opn rest (by omega) (by omega)
        (hc.congr (fun u x _ _ => by simp)) hrest hnc
      have hseq : Seq es cm n ms (D ++ [c]) := by
        refine .snoc hD c0 c1 c2 c3 fun x h0 h1 h2 h3 => ?_
        rcases List.mem_cons.1 ((hr.mem x).2 ⟨⟨h0, h1⟩, h2, h3⟩) with e | e
        · rw [e]; exact Int.le_refl _
        · exact Int.le_of_lt (s1 x e)
      obtain ⟨D', f1, f2, f3⟩ := ih k (D ++ [c]) opn' ready' (by simp; omega) (by omega) hseq e2 e3
      refine ⟨D', ?_, f2, f3⟩
      unfold Od.drain
      have hrd : rd (c :: rest) 0 = c := rfl
      rw [if_pos (by simp), hrd, if_pos ⟨c0, by omega, by omega, by simp; omega⟩]
      show (dec k ms (row users c) ((0 : Nat) : Int) opn rest).bind _ = _
      rw [e1, Option.bind_some]
      rw [List.map_append] at f1
      exact f1

theorem ordered_run {es : List (List Int)} (hvld : Vld es) {L : Nat} (hL : ∀ v, (row es v).length ≤ L) (hn : es.length < 1000000) (k : Nat) (hk : es.length * (L + 2) + 3 * es.length + L + 9 ≤ k) :
    ∃ cm n ms D, Sol es cm n ∧ Rows es cm n ms ∧ orderedF k es = some (D.map (row ms)) ∧ Seq es cm n ms D ∧ ∀ c, 0 ≤ c → c < n → c ∈ D := by
  obtain ⟨cm, n, h1, S⟩ := strong_sol hvld hL hn k (by omega)
  have hN := S.n0
  have hlen := S.len
  obtain ⟨ms, g1, g2, g3⟩ := grp_run S hn cm.length k 0 (List.replicate n.toNat []) (by omega) (by omega) (by simp; omega) (fun c h0 h1 => by rw [row_rep]; rfl)
  have R : Rows es cm n ms := ⟨g2, g3⟩
  obtain ⟨u, u1, u2⟩ := ed1_run hvld S hn hL g2 g3 ms.length k 0 { opn := List.replicate n.toNat 0, users := List.replicate n.toNat [], seen := [] } (by omega) (by omega)
    ⟨by simp; omega, by simp; omega, fun d h0 h1 => by omega, fun d _ => rd_rep0 _ _, fun d h0 h1 => by rw [row_rep]; simp; omega⟩
  have hcnt : Cnt n (fun u x => Dep es cm u x) u.opn := ⟨u2.lo, fun d h0 h1 => by
    obtain ⟨P, p1, p2, p3⟩ := u2.dn d h0 h1
    exact ⟨P, p1, fun x hx => by have := dep_lt S hvld ((p2 x).1 hx); omega, p2, p3⟩⟩
  obtain ⟨ready, r1, r2⟩ := starts_run S hn R u.opn u2.lo n.toNat k 0 [] (by omega) (by omega) ⟨fun x => by simp; omega, List.Pairwise.nil⟩
  obtain ⟨D, d1, d2, d3⟩ := drain_run S hn R hvld u2.lu u2.us n.toNat k [] u.opn ready (by simp) (by omega) .nil (hcnt.congr (fun _ _ _ _ => by simp)) (r2.congr (fun x h0 h1 => by rw [hcnt.zero h0 h1]; simp))
  refine ⟨cm, n, ms, D, S, R, ?_, d2, d3⟩
  unfold orderedF
  rw [h1, Option.bind_some]
  show (if 0 ≤ n ∧ n < 5864062014805 then _ else none) = _
  rw [if_pos (by omega)]
  show (grp k cm ((0 : Nat) : Int) _).bind _ = _
  rw [g1, Option.bind_some]
  show (ed1 k es cm ms ((0 : Nat) : Int) _).bind _ = _
  rw [u1, Option.bind_some]
  show (starts k ms n ((0 : Nat) : Int) u.opn []).bind _ = _
  rw [r1, Option.bind_some]
  exact d1
end Tp
end Go.Proofs.Ytpmjpngmmphkmaa
/- What small and valid answer, for every graph whose rows have a bounded length. -/
namespace Go.Proofs.Ytpmjpngmmphkmaa
open Go.RowKit Go.Proofs.YtpmjpngmmphkmaaW.PrintWords Go.Proofs.YtpmjpngmmphkmaaW.PrintLast Go.Proofs.YtpmjpngmmphkmaaW.PrintMore Go.Proofs.Ytpmjpngmmphkmaa.P
namespace Tp
open Tj Rw Od
set_option linter.unusedVariables false

theorem succ_cast (i : Nat) (h : i < 1000000000) : wrap64 ((i : Int) + 1) = ((i + 1 : Nat) : Int) := by
  rw [w64 _ (by omega) (by omega)]
  omega
theorem L1_row (l : List (List Int)) (i : Int) : rd_L1 l i = row l i := rfl
theorem row_in (l : List (List Int)) (i : Nat) (h : i < l.length) : row l (i : Int) ∈ l := by
  rw [row_mem l i h]
  exact List.getElem_mem _

/-- A graph of a size that the statements speak of. -/
def Sm (l : List (List Int)) : Prop := l.length ≤ 60 ∧ ∀ j : Nat, j < l.length → (row l j).length ≤ 2000
theorem Sm.row {l : List (List Int)} (h : Sm l) (v : Int) : (row l v).length ≤ 2000 := by
  by_cases hv : v.toNat < l.length
  · have := h.2 v.toNat hv
    unfold Tj.row at *
    rw [Int.toNat_natCast] at this
    exact this
  · unfold Tj.row
    rw [List.getD_eq_getElem?_getD, List.getElem?_eq_none (by omega)]
    simp

theorem small_loop (l : List (List Int)) (h : ∀ r ∈ l, r.length * 8 ≤ 140737488351232) : ∀ (m i : Nat) (s : Int), i + m = 61 → 0 ≤ s → s ≤ (i : Int) * 17592186043904 →
    ∃ b, Ev (fun k => lazyclaw09_small.l0 k s i l) b ∧ (b = true → l.length ≤ 60 ∧ s ≤ 2000 ∧ ∀ j : Nat, i ≤ j → j < l.length → (row l j).length ≤ 2000) := by
  intro m
  induction m with
  | zero =>
    intro i s hi h0 h1
    obtain rfl : i = 61 := by omega
    by_cases hl : (l.length : Int) ≤ 60
    · refine ⟨decide (s ≤ 2000), Ev.step (fun k => ?_) (Ev.now _), fun hb => ⟨by omega, of_decide_eq_true hb, fun j hj hjl => by omega⟩⟩
      simp only [lazyclaw09_small.l0]
      rw [if_neg (by omega), if_pos hl]
    · refine ⟨false, Ev.step (fun k => ?_) (Ev.now _), fun hb => by cases hb⟩
      simp only [lazyclaw09_small.l0]
      by_cases h2 : ((61 : Nat) : Int) < l.length
      · rw [if_pos h2, if_neg (by omega), if_neg hl]
      · rw [if_neg h2, if_neg hl]
  | succ m ih =>
    intro i s hi h0 h1
    by_cases hil : i < l.length
    · have hr := h _ (row_in l i hil)
      have hw : wrap64 (s + ((row l i).length : Int)) = s + (row l i).length := w64 _ (by omega) (by omega)
      obtain ⟨b, b1, b2⟩ := ih (i + 1) (s + (row l i).length) (by omega) (by omega) (by omega)
      refine ⟨b, Ev.step (fun k => ?_) b1, fun hb => ?_⟩
      · simp only [lazyclaw09_small.l0, L1_row]
        rw [if_pos (by omega), if_pos (by omega), if_pos (by omega), hw, succ_cast i (by omega)]
      · obtain ⟨c1, c2, c3⟩ := b2 hb
        refine ⟨c1, by omega, fun j hj hjl => ?_⟩
        by_cases e : j = i
        · subst e; omega
        · exact c3 j (by omega) hjl
    · by_cases hl : (l.length : Int) ≤ 60
      · refine ⟨decide (s ≤ 2000), Ev.step (fun k => ?_) (Ev.now _), fun hb => ⟨by omega, of_decide_eq_true hb, fun j hj hjl => by omega⟩⟩
        simp only [lazyclaw09_small.l0]
        rw [if_neg (by omega), if_pos hl]
      · refine ⟨false, Ev.step (fun k => ?_) (Ev.now _), fun hb => by cases hb⟩
        simp only [lazyclaw09_small.l0]
        rw [if_neg (by omega), if_neg hl]
theorem small_ev (l : List (List Int)) (h : ∀ r ∈ l, r.length * 8 ≤ 140737488351232) : ∃ b, Ev (fun k => lazyclaw09_small.f k l) b ∧ (b = true → Sm l) := by
  obtain ⟨b, b1, b2⟩ := small_loop l h 61 0 0 (by omega) (by omega) (by omega)
  exact ⟨b, b1, fun hb => ⟨(b2 hb).1, fun j hj => (b2 hb).2.2 j (by omega) hj⟩⟩

/-- Is the graph valid? -/
def okn (n : Nat) (w : Int) : Bool := decide (0 ≤ w) && decide (w < n)
def vldB (l : List (List Int)) : Bool := l.all fun r => r.all (okn l.length)
theorem vldB_iff (l : List (List Int)) : vldB l = true ↔ Vld l := by
  unfold vldB Vld nd
  rw [List.all_eq_true]
  constructor
  · intro h v hv w hw
    obtain ⟨i, rfl⟩ := Int.eq_ofNat_of_zero_le hv.1
    have := List.all_eq_true.1 (h _ (row_in l i (by omega))) w hw
    simpa [okn] using this
  · intro h r hr
    obtain ⟨i, hi, rfl⟩ := List.mem_iff_getElem.1 hr
    rw [List.all_eq_true]
    intro w hw
    rw [← row_mem l i hi] at hw
    have := h i ⟨by omega, by omega⟩ w hw
    simpa [okn] using this
theorem drop_row (r : List Int) (j : Nat) (hj : j < r.length) : r.drop j = rd r j :: r.drop (j + 1) := by
  rw [rd_at r j hj]
  exact List.drop_eq_getElem_cons hj
theorem drop_rows (l : List (List Int)) (i : Nat) (hi : i < l.length) : l.drop i = row l i :: l.drop (i + 1) := by
  rw [row_mem l i hi]
  exact List.drop_eq_getElem_cons hi

theorem gv_in (l : List (List Int)) (hs : Sm l) (i : Nat) (hi : i < l.length) (ih : ∀ i' : Nat, i' = i + 1 → Ev (fun k => graph_valid.l0 k l (l.length : Int) (i' : Int) l) ((l.drop i').all fun r => r.all (okn l.length))) : ∀ (m j : Nat), j + m = (row l i).length →
    Ev (fun k => graph_valid.l1 k l (l.length : Int) i (row l i) ((row l i).length : Int) j l) (((row l i).drop j).all (okn l.length) && (l.drop (i + 1)).all fun r => r.all (okn l.length)) := by
  have hrl := hs.2 i hi
  have hl := hs.1
  intro m
  induction m with
  | zero =>
    intro j hj
    refine Ev.step (fun k => ?_) (by rw [List.drop_eq_nil_of_le (by omega), List.all_nil, Bool.true_and]; exact ih _ rfl)
    simp only [graph_valid.l1]
    (try rw [L1_row])
    rw [if_neg (by omega), succ_cast i (by omega)]
  | succ m ihm =>
    intro j hj
    have hjl : j < (row l i).length := by omega
    rw [drop_row _ j hjl, List.all_cons]
    by_cases hw : okn l.length (rd (row l i) j) = true
    · rw [hw, Bool.true_and]
      have hw2 : 0 ≤ rd (row l i) j ∧ rd (row l i) j < l.length := by simpa [okn] using hw
      refine Ev.step (fun k => ?_) (ihm (j + 1) (by omega))
      simp only [graph_valid.l1]
      (try rw [L1_row])
      rw [if_pos (by omega), if_pos (by omega), if_pos (by omega), if_neg (by omega), if_neg (by omega), succ_cast j (by omega)]
    · have hf : okn l.length (rd (row l i) j) = false := by simpa using hw
      rw [hf, Bool.false_and, Bool.false_and]
      have hw2 : ¬ (0 ≤ rd (row l i) j ∧ rd (row l i) j < l.length) := by simpa [okn] using hw
      refine Ev.step (fun k => ?_) (Ev.now _)
      simp only [graph_valid.l1]
      (try rw [L1_row])
      rw [if_pos (by omega), if_pos (by omega), if_pos (by omega)]
      by_cases h0 : rd (row l i) j < 0
      · rw [if_pos h0]
      · rw [if_neg h0, if_pos (by omega)]
theorem gv_out (l : List (List Int)) (hs : Sm l) : ∀ (m i : Nat), i + m = l.length → Ev (fun k => graph_valid.l0 k l (l.length : Int) i l) ((l.drop i).all fun r => r.all (okn l.length)) := by
  have hl := hs.1
  intro m
  induction m with
  | zero =>
    intro i hi
    rw [List.drop_eq_nil_of_le (by omega)]
    refine Ev.step (fun k => ?_) (Ev.now _)
    simp only [graph_valid.l0]
    rw [if_neg (by omega)]
    rfl
  | succ m ih =>
    intro i hi
    have hil : i < l.length := by omega
    have h := gv_in l hs i hil (fun i' e => ih i' (by omega)) (row l i).length 0 (by omega)
    rw [drop_rows l i hil, List.all_cons]
    refine Ev.step (fun k => ?_) h
    simp only [graph_valid.l0, L1_row]
    rw [if_pos (by omega), if_pos (by omega), if_pos (by omega)]
    rfl
theorem gv_ev (l : List (List Int)) (hs : Sm l) : Ev (fun k => graph_valid.f k l) (vldB l) := gv_out l hs l.length 0 (by omega)

theorem rv_in (l : List (List Int)) (hs : Sm l) (i : Nat) (hi : i < l.length) (ih : ∀ i' : Nat, i' = i + 1 → Ev (fun k => lazycref09_Valid.l0 k (i' : Int) l) ((l.drop i').all fun r => r.all (okn l.length))) : ∀ (m j : Nat), j + m = (row l i).length →
    Ev (fun k => lazycref09_Valid.l1 k i j l) (((row l i).drop j).all (okn l.length) && (l.drop (i + 1)).all fun r => r.all (okn l.length)) := by
  have hrl := hs.2 i hi
  have hl := hs.1
  intro m
  induction m with
  | zero =>
    intro j hj
    refine Ev.step (fun k => ?_) (by rw [List.drop_eq_nil_of_le (by omega), List.all_nil, Bool.true_and]; exact ih _ rfl)
    simp only [lazycref09_Valid.l1]
    rw [L1_row]
    rw [if_pos (show (0 : Int) ≤ (i : Int) by omega), if_pos (show (i : Int) < (l.length : Int) by omega), if_neg (show ¬ (j : Int) < ((row l i).length : Int) by omega), succ_cast i (by omega)]
  | succ m ihm =>
    intro j hj
    have hjl : j < (row l i).length := by omega
    rw [drop_row _ j hjl, List.all_cons]
    by_cases hw : okn l.length (rd (row l i) j) = true
    · rw [hw, Bool.true_and]
      have hw2 : 0 ≤ rd (row l i) j ∧ rd (row l i) j < l.length := by simpa [okn] using hw
      refine Ev.step (fun k => ?_) (ihm (j + 1) (by omega))
      simp only [lazycref09_Valid.l1]
      rw [L1_row]
      rw [if_pos (show (0 : Int) ≤ (i : Int) by omega), if_pos (show (i : Int) < (l.length : Int) by omega), if_pos (show (j : Int) < ((row l i).length : Int) by omega), if_pos (show (0 : Int) ≤ (j : Int) by omega), if_neg (by omega), if_neg (by omega), succ_cast j (by omega)]
    · have hf : okn l.length (rd (row l i) j) = false := by simpa using hw
      rw [hf, Bool.false_and, Bool.false_and]
      have hw2 : ¬ (0 ≤ rd (row l i) j ∧ rd (row l i) j < l.length) := by simpa [okn] using hw
      refine Ev.step (fun k => ?_) (Ev.now _)
      simp only [lazycref09_Valid.l1]
      rw [L1_row]
      rw [if_pos (show (0 : Int) ≤ (i : Int) by omega), if_pos (show (i : Int) < (l.length : Int) by omega), if_pos (show (j : Int) < ((row l i).length : Int) by omega), if_pos (show (0 : Int) ≤ (j : Int) by omega)]
      by_cases h0 : rd (row l i) j < 0
      · rw [if_pos h0]
      · rw [if_neg h0, if_pos (by omega)]
theorem rv_out (l : List (List Int)) (hs : Sm l) : ∀ (m i : Nat), i + m = l.length → Ev (fun k => lazycref09_Valid.l0 k i l) ((l.drop i).all fun r => r.all (okn l.length)) := by
  have hl := hs.1
  intro m
  induction m with
  | zero =>
    intro i hi
    rw [List.drop_eq_nil_of_le (by omega)]
    refine Ev.step (fun k => ?_) (Ev.now _)
    simp only [lazycref09_Valid.l0]
    rw [if_neg (by omega)]
    rfl
  | succ m ih =>
    intro i hi
    have hil : i < l.length := by omega
    have h := rv_in l hs i hil (fun i' e => ih i' (by omega)) (row l i).length 0 (by omega)
    rw [drop_rows l i hil, List.all_cons]
    refine Ev.step (fun k => ?_) h
    simp only [lazycref09_Valid.l0, L1_row]
    rw [if_pos (by omega)]
    rfl
theorem rv_ev (l : List (List Int)) (hs : Sm l) : Ev (fun k => lazycref09_Valid.f k l) (vldB l) := rv_out l hs l.length 0 (by omega)

end Tp
end Go.Proofs.Ytpmjpngmmphkmaa
/- What Reach and Cyclic of the program answer: what can be reached by edges. -/
namespace Go.Proofs.Ytpmjpngmmphkmaa
open Go.RowKit Go.Proofs.YtpmjpngmmphkmaaW.PrintWords Go.Proofs.YtpmjpngmmphkmaaW.PrintLast Go.Proofs.YtpmjpngmmphkmaaW.PrintMore Go.Proofs.Ytpmjpngmmphkmaa.P
namespace Tp
open Tj Rw Od
open Classical
set_option linter.unusedVariables false

theorem rdOf_set (l : List Bool) (u v : Int) (hu : 0 ≤ u) (hl : u < l.length) (hv : 0 ≤ v) : rdOf false (l.set u.toNat true) v = if v = u then true else rdOf false l v := by
  unfold rdOf
  rw [List.getD_eq_getElem?_getD, List.getElem?_set, List.getD_eq_getElem?_getD]
  by_cases h : v = u
  · subst h
    rw [if_pos rfl, if_pos (by omega), if_pos rfl]
    rfl
  · rw [if_neg (by omega), if_neg h]
theorem rdOf_at (l : List Bool) (i : Nat) (h : i < l.length) : rdOf false l (i : Int) = l[i] := by
  unfold rdOf
  rw [Int.toNat_natCast, List.getD_eq_getElem?_getD, List.getElem?_eq_getElem h]
  rfl
theorem count_setB (l : List Bool) (u : Int) (hu : 0 ≤ u) (hl : u < l.length) (h0 : rdOf false l u = false) : (l.set u.toNat true).count false + 1 = l.count false := by
  obtain ⟨i, rfl⟩ := Int.eq_ofNat_of_zero_le hu
  rw [rdOf_at l i (by omega)] at h0
  have hi : i < l.length := by omega
  have h1 : 0 < l.count false := List.count_pos_iff.2 (h0 ▸ List.getElem_mem hi)
  show (l.set i true).count false + 1 = l.count false
  rw [List.count_set hi]
  simp [h0]
  omega

theorem meas {c c' t y r M : Nat} (h : c' + 1 = c) (h1 : c * 2001 + t ≤ M + 1) (h2 : y + 1 = t) (h3 : r ≤ 2000) : c' * 2001 + (y + r) ≤ M := by
  rw [← h, Nat.add_mul, Nat.one_mul] at h1
  generalize c' * 2001 = q at h1 ⊢
  omega
/-- For each node: can it be reached from one of these? -/
noncomputable def rch (l : List (List Int)) (starts : List Int) : List Bool := (iota l.length).map fun v => decide (∃ s ∈ starts, Rc l s v)
theorem rch_len (l : List (List Int)) (starts : List Int) : (rch l starts).length = l.length := by simp [rch, iota_length]
theorem rch_at (l : List (List Int)) (starts : List Int) (v : Int) (h : nd l v) : rdOf false (rch l starts) v = decide (∃ s ∈ starts, Rc l s v) := by
  obtain ⟨i, rfl⟩ := Int.eq_ofNat_of_zero_le h.1
  have hi : i < l.length := by have := h.2; omega
  rw [rdOf_at _ i (by rw [rch_len]; exact hi)]
  simp [rch, iota]
theorem rc_nd {l : List (List Int)} (hv : Vld l) {a b : Int} (h : Rc l a b) (ha : nd l a) : nd l b := by
  induction h with
  | refl => exact ha
  | tail _ h2 ih => exact hv _ ih _ h2
theorem rch_eq {l : List (List Int)} (hv : Vld l) {starts : List Int} (hst : ∀ s ∈ starts, nd l s) {seen : List Bool} (hlen : seen.length = l.length) (hs : ∀ v, nd l v → rdOf false seen v = true → ∃ s ∈ starts, Rc l s v)
    (hc : ∀ v, nd l v → rdOf false seen v = true → ∀ w ∈ row l v, rdOf false seen w = true) (h0 : ∀ s ∈ starts, rdOf false seen s = true) : seen = rch l starts := by
  refine List.ext_getElem (by rw [rch_len, hlen]) fun i h1 h2 => ?_
  have hnd : nd l (i : Int) := ⟨by omega, by omega⟩
  rw [← rdOf_at seen i h1, ← rdOf_at _ i h2, rch_at l starts i hnd]
  by_cases h : ∃ s ∈ starts, Rc l s i
  · rw [decide_eq_true h]
    obtain ⟨s, hsm, hr⟩ := h
    have key : ∀ b, Rc l s b → nd l b ∧ rdOf false seen b = true := by
      intro b hb
      induction hb with
      | refl => exact ⟨hst s hsm, h0 s hsm⟩
      | tail _ h2 ih => exact ⟨hv _ ih.1 _ h2, hc _ ih.1 ih.2 _ h2⟩
    exact (key _ hr).2
  · rw [decide_eq_false h]
    exact Bool.eq_false_iff.2 fun e => h (hs _ hnd e)
/-- The nodes that can be reached, ascending. -/
noncomputable def rchL (l : List (List Int)) (starts : List Int) : List Int := (iota l.length).filter fun v => decide (∃ s ∈ starts, Rc l s v)
theorem mem_rchL {l : List (List Int)} {starts : List Int} {x : Int} : x ∈ rchL l starts ↔ nd l x ∧ ∃ s ∈ starts, Rc l s x := by
  unfold rchL nd
  rw [List.mem_filter, mem_iota]
  simp
theorem rchL_len (l : List (List Int)) (starts : List Int) : (rchL l starts).length ≤ l.length := by
  unfold rchL
  exact Nat.le_trans (List.length_filter_le _ _) (by rw [iota_length]; exact Nat.le_refl _)
theorem last_take (todo : List Int) (h : 0 < todo.length) : rd todo ((todo.length : Int) - 1) ∈ todo ∧ todo = todo.take (todo.length - 1) ++ [rd todo ((todo.length : Int) - 1)] := by
  rw [show ((todo.length : Int) - 1) = ((todo.length - 1 : Nat) : Int) by omega, rd_at _ _ (by omega)]
  refine ⟨List.getElem_mem _, ?_⟩
  rw [← List.take_succ_eq_append_getElem (by omega), List.take_of_length_le (by omega)]

theorem gr_loop {l : List (List Int)} (hv : Vld l) (hsm : Sm l) {starts : List Int} (hst : ∀ s ∈ starts, nd l s) : ∀ (M : Nat) (seen : List Bool) (todo : List Int), seen.count false * 2001 + todo.length ≤ M → M ≤ 1000000 → seen.length = l.length → (∀ v ∈ todo, nd l v) →
    (∀ v, nd l v → rdOf false seen v = true → ∃ s ∈ starts, Rc l s v) → (∀ v ∈ todo, ∃ s ∈ starts, Rc l s v) → (∀ v, nd l v → rdOf false seen v = true → ∀ w ∈ row l v, rdOf false seen w = true ∨ w ∈ todo) → (∀ s ∈ starts, rdOf false seen s = true ∨ s ∈ todo) →
    Ev (fun k => graph_reached.l0 k l seen todo) (rch l starts) := by
  have done : ∀ (seen : List Bool), seen.length = l.length → (∀ v, nd l v → rdOf false seen v = true → ∃ s ∈ starts, Rc l s v) → (∀ v, nd l v → rdOf false seen v = true → ∀ w ∈ row l v, rdOf false seen w = true ∨ w ∈ ([] : List Int)) → (∀ s ∈ starts, rdOf false seen s = true ∨ s ∈ ([] : List Int)) →
      Ev (fun k => graph_reached.l0 k l seen ([] : List Int)) (rch l starts) := by
    intro seen h1 h2 h3 h4
    have he := rch_eq hv hst h1 h2 (fun v a b w c => by simpa using h3 v a b w c) (fun s a => by simpa using h4 s a)
    refine Ev.step (fun k => ?_) (Ev.now _)
    simp only [graph_reached.l0]
    rw [if_neg (by simp)]
    rw [← he]
  intro M
  induction M with
  | zero =>
    intro seen todo hM hM2 hlen htd h1 h2 h3 h4
    obtain rfl : todo = [] := List.eq_nil_of_length_eq_zero (by omega)
    exact done seen hlen h1 h3 h4
  | succ M ih =>
    intro seen todo hM hM2 hlen htd h1 h2 h3 h4
    by_cases h0 : 0 < todo.length
    case neg =>
      obtain rfl : todo = [] := List.eq_nil_of_length_eq_zero (by omega)
      exact done seen hlen h1 h3 h4
    obtain ⟨hvm, htt⟩ := last_take todo h0
    have hw : wrap64 ((todo.length : Int) - 1) = (todo.length : Int) - 1 := w64 _ (by omega) (by omega)
    have htn : ((todo.length : Int) - 1).toNat = todo.length - 1 := by omega
    have hnv := htd _ hvm
    have hrv := h2 _ hvm
    generalize hvd : rd todo ((todo.length : Int) - 1) = v at *
    have hyl : (todo.take (todo.length - 1)).length = todo.length - 1 := by simp
    have hym : ∀ x, x ∈ todo ↔ x ∈ todo.take (todo.length - 1) ∨ x = v := fun x => by
      constructor
      · intro h
        rw [htt] at h
        rcases List.mem_append.1 h with e | e
        · exact .inl e
        · exact .inr (List.mem_singleton.1 e)
      · rintro (h | h)
        · exact List.mem_of_mem_take h
        · rw [h]; exact hvm
    generalize htk : todo.take (todo.length - 1) = y at *
    by_cases hsv : rdOf false seen v = true
    · refine Ev.step (fun k => ?_) (ih seen y (by omega) (by omega) hlen (fun x hx => htd x ((hym x).2 (.inl hx))) h1 (fun x hx => h2 x ((hym x).2 (.inl hx))) (fun x a b w c => ?_) (fun s a => ?_))
      · simp only [graph_reached.l0]
        rw [if_pos (by omega), hw, htn, htk, hvd]
        simp only [Option.bind_some]
        rw [if_pos (show 0 ≤ (todo.length : Int) - 1 by omega), if_pos (show (todo.length : Int) - 1 < todo.length by omega), if_pos (show (todo.length : Int) - 1 ≤ todo.length by omega), if_pos hnv.1, if_pos (show v < (seen.length : Int) by have := hnv.2; omega), if_pos hsv]
      · rcases h3 x a b w c with e | e
        · exact .inl e
        · rcases (hym w).1 e with e | e
          · exact .inr e
          · rw [e]; exact .inl hsv
      · rcases h4 s a with e | e
        · exact .inl e
        · rcases (hym s).1 e with e | e
          · exact .inr e
          · rw [e]; exact .inl hsv
    · have hsf : rdOf false seen v = false := by simpa using hsv
      have hct := count_setB seen v hnv.1 (by have := hnv.2; omega) hsf
      have hrl := hsm.row v
      have hset : ∀ u, 0 ≤ u → rdOf false (seen.set v.toNat true) u = if u = v then true else rdOf false seen u := fun u hu => rdOf_set seen v u hnv.1 (by have := hnv.2; omega) hu
      refine Ev.step (fun k => ?_) (ih (seen.set v.toNat true) (y ++ row l v) (by rw [List.length_append]; exact meas hct hM (by omega) hrl) (by omega) (by rw [List.length_set]; exact hlen) (fun x hx => ?_) (fun x a b => ?_) (fun x hx => ?_) (fun x a b w c => ?_) (fun s a => ?_))
      · simp only [graph_reached.l0]
        rw [if_pos (by omega), hw, htn, htk, hvd]
        simp only [Option.bind_some]
        rw [L1_row]
        rw [if_pos (show 0 ≤ (todo.length : Int) - 1 by omega), if_pos (show (todo.length : Int) - 1 < todo.length by omega), if_pos (show (todo.length : Int) - 1 ≤ todo.length by omega), if_pos hnv.1, if_pos (show v < (seen.length : Int) by have := hnv.2; omega), if_neg hsv, if_pos (show v < (l.length : Int) from hnv.2), if_pos (by omega)]
      · rcases List.mem_append.1 hx with e | e
        · exact htd x ((hym x).2 (.inl e))
        · exact hv v hnv x e
      · rw [hset x a.1] at b
        by_cases e : x = v
        · rw [e]; exact hrv
        · rw [if_neg e] at b; exact h1 x a b
      · rcases List.mem_append.1 hx with e | e
        · exact h2 x ((hym x).2 (.inl e))
        · obtain ⟨s, s1, s2⟩ := hrv
          exact ⟨s, s1, s2.tail e⟩
      · have hwn := hv x a w c
        rw [hset x a.1] at b
        rw [hset w hwn.1]
        by_cases e : x = v
        · subst e
          exact .inr (List.mem_append.2 (.inr c))
        · rw [if_neg e] at b
          by_cases e2 : w = v
          · rw [if_pos e2]; exact .inl rfl
          · rw [if_neg e2]
            rcases h3 x a b w c with e3 | e3
            · exact .inl e3
            · rcases (hym w).1 e3 with e4 | e4
              · exact .inr (List.mem_append.2 (.inl e4))
              · exact absurd e4 e2
      · rw [hset s (hst s a).1]
        by_cases e2 : s = v
        · rw [if_pos e2]; exact .inl rfl
        · rw [if_neg e2]
          rcases h4 s a with e3 | e3
          · exact .inl e3
          · rcases (hym s).1 e3 with e4 | e4
            · exact .inr (List.mem_append.2 (.inl e4))
            · exact absurd e4 e2
theorem gr_start {l : List (List Int)} (hv : Vld l) (hsm : Sm l) {starts : List Int} (hst : ∀ s ∈ starts, nd l s) (hsl : starts.length ≤ 2000) : Ev (fun k => graph_reached.l0 k l (List.replicate l.length false) starts) (rch l starts) := by
  have h60 := hsm.1
  have hr : ∀ v, nd l v → rdOf false (List.replicate l.length false) v = false := by
    intro v h
    obtain ⟨i, rfl⟩ := Int.eq_ofNat_of_zero_le h.1
    rw [rdOf_at _ i (by simp; have := h.2; omega)]
    simp
  refine gr_loop hv hsm hst 122060 _ _ ?_ (by omega) (by simp) hst (fun v a b => by rw [hr v a] at b; cases b) (fun v a => ⟨v, a, .refl v⟩) (fun v a b => by rw [hr v a] at b; cases b) (fun s a => .inr a)
  simp only [List.count_replicate_self]
  omega

theorem gr_ev {l : List (List Int)} (hv : Vld l) (hsm : Sm l) {starts : List Int} (hst : ∀ s ∈ starts, nd l s) (hsl : starts.length ≤ 2000) : Ev (fun k => graph_reached.f k l starts) (rch l starts) := by
  have h60 := hsm.1
  refine Ev.congr (fun k => ?_) (gr_start hv hsm hst hsl)
  unfold graph_reached.f slices_Clone_int.f
  rw [if_pos (by omega), if_pos (by omega), if_pos (by omega), Option.bind_some, Int.toNat_natCast]
theorem filt_snoc (p : Int → Bool) (i : Nat) : (iota (i + 1)).filter p = (iota i).filter p ++ (if p i = true then [(i : Int)] else []) := by
  rw [iota_succ, List.filter_append]
  by_cases h : p i = true <;> simp [h]
theorem filt_len (p : Int → Bool) (i : Nat) : ((iota i).filter p).length ≤ i := Nat.le_trans (List.length_filter_le _ _) (by rw [iota_length]; exact Nat.le_refl _)
theorem gc_ev (seen : List Bool) (hl : seen.length < 1000000) : Ev (fun k => graph_Reach.l0 k ([] : List Int) seen (seen.length : Int) 0) ((iota seen.length).filter (rdOf false seen)) := by
  have key : ∀ (m i : Nat), i + m = seen.length → Ev (fun k => graph_Reach.l0 k ((iota i).filter (rdOf false seen)) seen (seen.length : Int) i) ((iota seen.length).filter (rdOf false seen)) := by
    intro m
    induction m with
    | zero =>
      intro i hi
      obtain rfl : i = seen.length := by omega
      refine Ev.step (fun k => ?_) (Ev.now _)
      simp only [graph_Reach.l0]
      rw [if_neg (by omega)]
    | succ m ih =>
      intro i hi
      have h := ih (i + 1) (by omega)
      have hlen := filt_len (rdOf false seen) i
      rw [filt_snoc] at h
      refine Ev.step (fun k => ?_) h
      simp only [graph_Reach.l0]
      rw [if_pos (by omega), if_pos (by omega), if_pos (by omega), succ_cast i (by omega)]
      by_cases hp : rdOf false seen i = true
      · rw [if_pos hp, if_pos hp, if_pos (by omega)]
      · rw [if_neg hp, if_neg hp, List.append_nil]
  exact key seen.length 0 (by omega)
theorem rchL_eq (l : List (List Int)) (starts : List Int) : (iota (rch l starts).length).filter (rdOf false (rch l starts)) = rchL l starts := by
  rw [rch_len]
  unfold rchL
  refine List.filter_congr fun x hx => ?_
  rw [mem_iota] at hx
  exact rch_at l starts x hx

/-- What Reach answers. -/
noncomputable def reachM (l : List (List Int)) (i : Int) : List Int := if Vld l ∧ nd l i then rchL l [i] else []
theorem reach_ev {l : List (List Int)} (hsm : Sm l) (i : Int) : Ev (fun k => graph_Reach.f k l i) (reachM l i) := by
  have h60 := hsm.1
  have hb := gv_ev l hsm
  have hnil : Ev (fun k => graph_Reach.j0 k i true l) [] := Ev.step (fun k => by simp only [graph_Reach.j0]; rw [if_pos trivial]) (Ev.now _)
  by_cases hv : Vld l
  · rw [(vldB_iff l).2 hv] at hb
    by_cases hi : nd l i
    · have hm : reachM l i = rchL l [i] := by unfold reachM; rw [if_pos ⟨hv, hi⟩]
      rw [hm]
      have h1 := gr_ev hv hsm (starts := [i]) (fun s hs => by rw [List.mem_singleton.1 hs]; exact hi) (by simp)
      have h2 := gc_ev (rch l [i]) (by rw [rch_len]; omega)
      rw [rchL_eq] at h2
      have h3 : Ev (fun k => graph_Reach.j0 k i false l) (rchL l [i]) := Ev.step (fun k => by simp only [graph_Reach.j0]; rw [if_neg (by simp)]) (Ev.bind h1 (f := fun k t => graph_Reach.l0 k ([] : List Int) t (t.length : Int) 0) h2)
      refine Ev.congr (fun k => ?_) (Ev.bind hb (f := fun k t => if t = true then graph_Reach.j0 k i false l else graph_Reach.j0 k i true l) h3)
      unfold graph_Reach.f
      have h4 : decide (i ≥ (l.length : Int)) = false := decide_eq_false (by have := hi.2; omega)
      rw [h4, if_neg (show ¬ i < 0 by have := hi.1; omega)]
    · have hm : reachM l i = [] := by unfold reachM; rw [if_neg (fun h => hi h.2)]
      rw [hm]
      refine Ev.congr (fun k => ?_) (Ev.bind hb (f := fun k t => graph_Reach.j0 k i true l) hnil)
      unfold graph_Reach.f
      congr 1
      funext t
      by_cases h0 : i < 0
      · rw [if_pos h0]; split <;> rfl
      · have h4 : decide (i ≥ (l.length : Int)) = true := decide_eq_true (by unfold nd at hi; omega)
        rw [if_neg h0, h4]; split <;> rfl
  · have hf : vldB l = false := Bool.eq_false_iff.2 fun e => hv ((vldB_iff l).1 e)
    rw [hf] at hb
    have hm : reachM l i = [] := by unfold reachM; rw [if_neg (fun h => hv h.1)]
    rw [hm]
    refine Ev.congr (fun k => ?_) (Ev.bind hb (f := fun k t => if t = true then (if i < 0 then graph_Reach.j0 k i true l else graph_Reach.j0 k i (decide (i ≥ (l.length : Int))) l) else graph_Reach.j0 k i true l) hnil)
    unfold graph_Reach.f
    rfl
/-- What Cyclic answers. -/
noncomputable def cycM (l : List (List Int)) (i : Int) : Bool := decide (Vld l ∧ nd l i ∧ ∃ s ∈ row l i, Rc l s i)
theorem cyc_ev {l : List (List Int)} (hsm : Sm l) (i : Int) : Ev (fun k => graph_Cyclic.f k l i) (cycM l i) := by
  have hb := gv_ev l hsm
  by_cases hv : Vld l
  · rw [(vldB_iff l).2 hv] at hb
    by_cases hi : nd l i
    · have hm : cycM l i = rdOf false (rch l (row l i)) i := by
        rw [rch_at l _ i hi]
        unfold cycM
        simp only [hv, hi, true_and]
      rw [hm]
      have h1 := gr_ev hv hsm (starts := row l i) (fun s hs => hv i hi s hs) (hsm.row i)
      refine Ev.congr (fun k => ?_) (Ev.bind hb (f := fun k t => if t = true then (graph_reached.f k l (row l i)).bind fun t => if i < (t.length : Int) then some (rdOf false t i) else none else some false) ?_)
      · unfold graph_Cyclic.f
        rw [if_neg (show ¬ i < 0 by have := hi.1; omega), if_neg (show ¬ i ≥ (l.length : Int) by have := hi.2; omega), if_pos hi.1, if_pos (show i < (l.length : Int) from hi.2)]
        rfl
      · exact Ev.bind h1 (f := fun k t => if i < (t.length : Int) then some (rdOf false t i) else none) (Ev.congr (fun k => by rw [rch_len, if_pos (show i < (l.length : Int) from hi.2)]) (Ev.now _))
    · have hm : cycM l i = false := decide_eq_false fun h => hi h.2.1
      rw [hm]
      refine Ev.congr (fun k => ?_) (Ev.bind hb (f := fun k t => some false) (Ev.now _))
      unfold graph_Cyclic.f
      congr 1
      funext t
      by_cases h0 : i < 0
      · rw [if_pos h0]; split <;> rfl
      · rw [if_neg h0, if_pos (show i ≥ (l.length : Int) by unfold nd at hi; omega)]; split <;> rfl
  · have hf : vldB l = false := Bool.eq_false_iff.2 fun e => hv ((vldB_iff l).1 e)
    rw [hf] at hb
    have hm : cycM l i = false := decide_eq_false fun h => hv h.1
    rw [hm]
    obtain ⟨K, hK⟩ := hb
    refine ⟨K, fun k hk => ?_⟩
    show graph_Cyclic.f k l i = _
    have e : graph_valid.f k l = some false := hK k hk
    unfold graph_Cyclic.f
    rw [e]
    rfl
theorem contains_rchL' {l : List (List Int)} {i : Int} (hi : nd l i) (x : Int) (hx : nd l x) : (rchL l [i]).contains x = decide (Rc l i x) := by
  rw [Bool.eq_iff_iff, List.contains_iff_mem, mem_rchL, decide_eq_true_iff]
  simp [hx]
theorem reachM_eq' {l : List (List Int)} {i : Int} (hv : Vld l) (hi : nd l i) : reachM l i = rchL l [i] := by
  unfold reachM
  rw [if_pos ⟨hv, hi⟩]
end Tp
end Go.Proofs.Ytpmjpngmmphkmaa
/- The list of components that graph.ordered hands back is the only one in which each component is the ready one with the smallest node: for every valid graph with less than 1000000 nodes. -/
namespace Go.Proofs.Ytpmjpngmmphkmaa
open Go.RowKit Go.Proofs.YtpmjpngmmphkmaaW.PrintWords Go.Proofs.YtpmjpngmmphkmaaW.PrintLast Go.Proofs.YtpmjpngmmphkmaaW.PrintMore Go.Proofs.Ytpmjpngmmphkmaa.P
namespace Tp
open Tj Rw Od
open Classical
set_option linter.unusedVariables false

theorem nodup_sub : ∀ (a b : List Int), a.Nodup → (∀ x ∈ a, x ∈ b) → a.length ≤ b.length := by
  intro a
  induction a with
  | nil => intro b _ _; exact Nat.zero_le _
  | cons x a ih =>
    intro b hd h
    obtain ⟨h1, h2⟩ := List.nodup_cons.1 hd
    have hx := h x (by simp)
    have := ih (b.erase x) h2 (fun y hy => by
      have hne : y ≠ x := by rintro rfl; exact h1 hy
      exact (List.mem_erase_of_ne hne).2 (h y (by simp [hy])))
    rw [List.length_erase_of_mem hx] at this
    have := List.length_pos_of_mem hx
    rw [List.length_cons]
    omega

/-- The component of a node, ascending. -/
noncomputable def scc (es : List (List Int)) (m : Int) : List Int := (iota es.length).filter fun x => decide (Rc es m x ∧ Rc es x m)
theorem mem_scc {es : List (List Int)} {m x : Int} : x ∈ scc es m ↔ nd es x ∧ Rc es m x ∧ Rc es x m := by
  unfold scc nd
  rw [List.mem_filter, mem_iota]
  simp
theorem scc_lt (es : List (List Int)) (m : Int) : (scc es m).Pairwise (· < ·) := (iota_lt _).filter _
theorem scc_eq {es : List (List Int)} {m m' : Int} (h : Rc es m m') (h2 : Rc es m' m) : scc es m = scc es m' := by
  unfold scc
  refine List.filter_congr fun x _ => ?_
  rw [decide_eq_decide]
  exact ⟨fun ⟨a, b⟩ => ⟨h2.trans a, b.trans h⟩, fun ⟨a, b⟩ => ⟨h.trans a, b.trans h2⟩⟩
/-- All that m can reach is there, or its own. -/
def Ready (es : List (List Int)) (o : List (List Int)) (m : Int) : Prop := ∀ x, Rc es m x → x ∈ o.flatten ∨ Rc es x m
/-- The component that comes next. -/
def Next (es : List (List Int)) (o : List (List Int)) (c : List Int) : Prop :=
  ∃ m, nd es m ∧ m ∉ o.flatten ∧ Ready es o m ∧ (∀ x, nd es x → x ∉ o.flatten → Ready es o x → m ≤ x) ∧ c = scc es m
inductive Kahn (es : List (List Int)) : List (List Int) → Prop
  | nil : Kahn es []
  | snoc {o : List (List Int)} {c : List Int} : Kahn es o → Next es o c → Kahn es (o ++ [c])
def Full (es : List (List Int)) (o : List (List Int)) : Prop := Kahn es o ∧ ∀ v, nd es v → v ∈ o.flatten

theorem next_unique {es o : List (List Int)} {c d : List Int} (h : Next es o c) (k : Next es o d) : c = d := by
  obtain ⟨m, m1, m2, m3, m4, rfl⟩ := h
  obtain ⟨x, x1, x2, x3, x4, rfl⟩ := k
  have h1 := m4 x x1 x2 x3
  have h2 := x4 m m1 m2 m3
  have : m = x := by omega
  rw [this]
theorem kahn_next {es o : List (List Int)} (h : Kahn es o) : ∀ i (hi : i < o.length), Next es (o.take i) o[i] := by
  induction h with
  | nil => intro i hi; cases hi
  | @snoc o c h1 h2 ih =>
    intro i hi
    rw [List.length_append, List.length_singleton] at hi
    by_cases e : i < o.length
    · rw [List.take_append_of_le_length (by omega), List.getElem_append_left e]
      exact ih i e
    · have : i = o.length := by omega
      subst this
      simp only [List.take_left, List.getElem_concat_length]
      exact h2
theorem kahn_prefix {es o : List (List Int)} (h : Kahn es o) : ∀ o', Kahn es o' → o.length ≤ o'.length → o = o'.take o.length := by
  induction h with
  | nil => intro o' _ _; simp
  | @snoc o c h1 h2 ih =>
    intro o' ho hl
    rw [List.length_append, List.length_singleton] at hl ⊢
    have e := ih o' ho (by omega)
    have hn := kahn_next ho o.length (by omega)
    rw [← e] at hn
    rw [List.take_succ_eq_append_getElem (by omega), ← e, next_unique h2 hn]
theorem full_unique {es o o' : List (List Int)} (h : Full es o) (k : Full es o') : o = o' := by
  have key : ∀ {a b : List (List Int)}, Full es a → Full es b → a.length ≤ b.length → a = b := by
    intro a b ha hb hl
    have e := kahn_prefix ha.1 b hb.1 hl
    by_cases h2 : a.length < b.length
    · obtain ⟨m, m1, m2, _⟩ := kahn_next hb.1 a.length h2
      rw [← e] at m2
      exact absurd (ha.2 m m1) m2
    · rw [e, List.take_of_length_le (by omega)]
  rcases Nat.le_total o.length o'.length with e | e
  · exact key h k e
  · exact (key k h e).symm

theorem rc_le {es : List (List Int)} {cm : List Int} {n : Int} (S : Sol es cm n) (hvld : Vld es) {a b : Int} (h : Rc es a b) (ha : nd es a) : rd cm b ≤ rd cm a := by
  induction h with
  | refl => exact Int.le_refl _
  | tail h1 h2 ih => exact Int.le_trans (S.back _ (rc_nd hvld h1 ha) _ h2) ih
theorem mut_iff {es : List (List Int)} {cm : List Int} {n : Int} (S : Sol es cm n) (hvld : Vld es) {a b : Int} (ha : nd es a) (hb : nd es b) : (Rc es a b ∧ Rc es b a) ↔ rd cm b = rd cm a := by
  constructor
  · rintro ⟨h1, h2⟩
    have := rc_le S hvld h1 ha
    have := rc_le S hvld h2 hb
    omega
  · intro h
    exact ⟨S.same a b ha hb h.symm, S.same b a hb ha h⟩
theorem mem_scc_eq {es : List (List Int)} {cm : List Int} {n : Int} (S : Sol es cm n) (hvld : Vld es) {m : Int} (hm : nd es m) : mem cm (rd cm m) = scc es m := by
  unfold mem scc
  rw [S.len]
  refine List.filter_congr fun x hx => ?_
  rw [mem_iota] at hx
  rw [Bool.eq_iff_iff, beq_iff_eq, decide_eq_true_iff]
  exact (mut_iff S hvld hm hx).symm

theorem kahn_of_seq {es : List (List Int)} {cm : List Int} {n : Int} {ms : List (List Int)} (S : Sol es cm n) (hn : es.length < 1000000) (R : Rows es cm n ms) (hvld : Vld es) {D : List Int} (h : Seq es cm n ms D) :
    Kahn es (D.map (row ms)) ∧ ∀ x, x ∈ (D.map (row ms)).flatten ↔ nd es x ∧ rd cm x ∈ D := by
  have flat : ∀ {D : List Int}, Seq es cm n ms D → ∀ x, x ∈ (D.map (row ms)).flatten ↔ nd es x ∧ rd cm x ∈ D := by
    intro D hD x
    have hr := hD.rng.2.1
    rw [List.mem_flatten]
    constructor
    · rintro ⟨l, hl, hx⟩
      obtain ⟨c, hc, rfl⟩ := List.mem_map.1 hl
      rw [R.row c (hr c hc).1 (hr c hc).2, mem_mem, S.len] at hx
      exact ⟨hx.1, by rw [hx.2]; exact hc⟩
    · rintro ⟨h1, h2⟩
      refine ⟨_, List.mem_map.2 ⟨_, h2, rfl⟩, ?_⟩
      rw [R.row _ (hr _ h2).1 (hr _ h2).2, mem_mem, S.len]
      exact ⟨h1, rfl⟩
  have ready : ∀ {D : List Int}, Seq es cm n ms D → ∀ m, nd es m → (Ready es (D.map (row ms)) m ↔ ∀ d, Dep es cm (rd cm m) d → d ∈ D) := by
    intro D hD m hm
    constructor
    · rintro h d ⟨hne, v, hv, w, hw, rfl⟩
      obtain ⟨v1, v2⟩ := mem_mem.1 hv
      rw [S.len] at v1
      have hwn := hvld v v1 w hw
      have hmv : Rc es m v := S.same m v hm v1 v2.symm
      rcases h w (hmv.tail hw) with e | e
      · exact ((flat hD w).1 e).2
      · have := (mut_iff S hvld hm hwn).1 ⟨hmv.tail hw, e⟩
        exact absurd this.symm hne
    · intro h x hx
      have key : nd es x ∧ (rd cm x = rd cm m ∨ rd cm x ∈ D) := by
        induction hx with
        | refl => exact ⟨hm, .inl rfl⟩
        | @tail b c h1 h2 ih =>
          obtain ⟨i1, i2⟩ := ih
          have hc := hvld _ i1 _ h2
          refine ⟨hc, ?_⟩
          by_cases e : rd cm c = rd cm b
          · rw [e]; exact i2
          · have hd : Dep es cm (rd cm b) (rd cm c) := ⟨fun e2 => e e2.symm, b, mem_mem.2 ⟨by rw [S.len]; exact i1, rfl⟩, c, h2, rfl⟩
            rcases i2 with i2 | i2
            · rw [i2] at hd; exact .inr (h _ hd)
            · exact .inr (hD.rng.2.2 _ i2 _ hd)
      rcases key.2 with e | e
      · exact .inr ((mut_iff S hvld hm key.1).2 e).2
      · exact .inl ((flat hD x).2 ⟨key.1, e⟩)
  refine ⟨?_, flat h⟩
  induction h with
  | nil => exact .nil
  | @snoc D c hD c0 c1 c2 c3 c4 ih =>
    rw [List.map_append]
    obtain ⟨f1, ⟨f2, f3⟩, f4⟩ := fine_of S hn R c0 c1
    refine .snoc ih ⟨first ms c, f2, fun e => ?_, (ready hD _ f2).2 (by rw [f3]; exact c3), fun x hx hxD hxr => ?_, ?_⟩
    · have := ((flat hD _).1 e).2
      rw [f3] at this
      exact c2 this
    · have hr := S.rng x hx
      obtain ⟨_, _, g4⟩ := fine_of S hn R hr.1 hr.2
      have h1 := c4 (rd cm x) hr.1 hr.2 (fun e => hxD ((flat hD x).2 ⟨hx, e⟩)) ((ready hD x hx).1 hxr)
      have h2 := g4 x hx rfl
      omega
    · rw [R.row c c0 c1, ← mem_scc_eq S hvld f2, f3]

theorem ordered_ev {es : List (List Int)} (hvld : Vld es) {L : Nat} (hL : ∀ v, (row es v).length ≤ L) (hn : es.length < 1000000) : ∃ o, Full es o ∧ graph_ordered.f es = some o := by
  have key : ∀ k, es.length * (L + 2) + 3 * es.length + L + 9 ≤ k → ∃ o, Full es o ∧ orderedF k es = some o := by
    intro k hk
    obtain ⟨cm, n, ms, D, S, R, h1, h2, h3⟩ := ordered_run hvld hL hn k hk
    obtain ⟨k1, k2⟩ := kahn_of_seq S hn R hvld h2
    exact ⟨_, ⟨k1, fun v hv => (k2 v).2 ⟨hv, h3 _ (S.rng v hv).1 (S.rng v hv).2⟩⟩, h1⟩
  obtain ⟨o, o1, o2⟩ := key _ (Nat.le_refl _)
  refine ⟨o, o1, Od.lim_of (k0 := es.length * (L + 2) + 3 * es.length + L + 9) fun k hk => ?_⟩
  obtain ⟨o', p1, p2⟩ := key k hk
  rw [p2, full_unique p1 o1]

/-- What is known of the components' list. -/
structure Parts (es o : List (List Int)) : Prop where
  asc : ∀ c ∈ o, c.Pairwise (· < ·)
  scc : ∀ c ∈ o, ∃ m, nd es m ∧ c = scc es m
  one : o.flatten.Nodup
  back : ∀ (i : Nat) (c : List Int), o[i]? = some c → ∀ u ∈ c, ∀ w ∈ row es u, ∃ (j : Nat) (d : List Int), j ≤ i ∧ o[j]? = some d ∧ w ∈ d
theorem kahn_parts {es o : List (List Int)} (hvld : Vld es) (h : Kahn es o) : Parts es o := by
  induction h with
  | nil => exact ⟨by simp, by simp, by simp, by simp⟩
  | @snoc o c h1 h2 ih =>
    obtain ⟨m, m1, m2, m3, m4, rfl⟩ := h2
    refine ⟨?_, ?_, ?_, ?_⟩
    · intro c hc
      rcases List.mem_append.1 hc with e | e
      · exact ih.asc c e
      · rw [List.mem_singleton] at e; rw [e]; exact scc_lt _ _
    · intro c hc
      rcases List.mem_append.1 hc with e | e
      · exact ih.scc c e
      · rw [List.mem_singleton] at e; exact ⟨m, m1, e⟩
    · rw [List.flatten_append, List.nodup_append]
      refine ⟨ih.one, by rw [List.flatten_cons, List.flatten_nil, List.append_nil]; exact (scc_lt es m).imp (fun h e => by subst e; omega), ?_⟩
      rintro a ha b hb rfl
      have hb' : a ∈ Tp.scc es m := by simpa using hb
      obtain ⟨_, b2, b3⟩ := mem_scc.1 hb'
      obtain ⟨d, hd, had⟩ := List.mem_flatten.1 ha
      obtain ⟨x, _, rfl⟩ := ih.scc d hd
      obtain ⟨_, a2, a3⟩ := mem_scc.1 had
      exact m2 (List.mem_flatten.2 ⟨_, hd, mem_scc.2 ⟨m1, a2.trans b3, b2.trans a3⟩⟩)
    · intro i c hi u hu w hw
      by_cases e : i < o.length
      · rw [List.getElem?_append_left e] at hi
        obtain ⟨j, d, j1, j2, j3⟩ := ih.back i c hi u hu w hw
        exact ⟨j, d, j1, by rw [List.getElem?_append_left (by omega)]; exact j2, j3⟩
      · have hil := (List.getElem?_eq_some_iff.1 hi).1
        rw [List.length_append, List.length_singleton] at hil
        have e2 : i = o.length := by omega
        subst e2
        rw [List.getElem?_append_right (Nat.le_refl _), Nat.sub_self, List.getElem?_cons_zero] at hi
        obtain rfl := Option.some.inj hi
        obtain ⟨u1, u2, u3⟩ := mem_scc.1 hu
        have hwn := hvld u u1 w hw
        rcases m3 w (u2.tail hw) with e | e
        · obtain ⟨d, hd, hwd⟩ := List.mem_flatten.1 e
          obtain ⟨j, hj, rfl⟩ := List.mem_iff_getElem.1 hd
          exact ⟨j, _, by omega, by rw [List.getElem?_append_left hj, List.getElem?_eq_getElem hj], hwd⟩
        · exact ⟨o.length, _, Nat.le_refl _, by rw [List.getElem?_append_right (Nat.le_refl _), Nat.sub_self, List.getElem?_cons_zero], mem_scc.2 ⟨hwn, u2.tail hw, e⟩⟩
/-- What Components answers. -/
theorem comps_ev {l : List (List Int)} (hs : Sm l) (hv : Vld l) : ∃ o, Full l o ∧ Ev (fun k => graph_Components.f k l) o := by
  have h60 := hs.1
  obtain ⟨o, o1, o2⟩ := ordered_ev hv (L := 2000) hs.row (by omega)
  have hb := gv_ev l hs
  rw [(vldB_iff l).2 hv] at hb
  refine ⟨o, o1, Ev.congr (fun k => ?_) (Ev.bind hb (f := fun k t => if t = true then some o else some []) (Ev.now _))⟩
  unfold graph_Components.f
  rw [o2]
  rfl
theorem full_len {l o : List (List Int)} (hv : Vld l) (h : Full l o) : o.flatten.length = l.length ∧ o.length ≤ l.length ∧ ∀ c ∈ o, c.length ≤ l.length := by
  have P := kahn_parts hv h.1
  have hsub : ∀ x ∈ o.flatten, x ∈ iota l.length := by
    intro x hx
    obtain ⟨c, hc, hxc⟩ := List.mem_flatten.1 hx
    obtain ⟨m, _, rfl⟩ := P.scc c hc
    exact mem_iota.2 (mem_scc.1 hxc).1
  have h1 := nodup_sub _ _ P.one hsub
  have h2 := nodup_sub (iota l.length) o.flatten ((iota_lt _).imp (fun h e => by subst e; omega)) (fun x hx => h.2 x (mem_iota.1 hx))
  rw [iota_length] at h1 h2
  refine ⟨by omega, ?_, fun c hc => ?_⟩
  · have key : ∀ (q : List (List Int)), (∀ c ∈ q, 0 < c.length) → q.length ≤ q.flatten.length := by
      intro q
      induction q with
      | nil => intro _; simp
      | cons a q ih =>
        intro hq
        have := hq a (by simp)
        have := ih (fun c hc => hq c (by simp [hc]))
        rw [List.flatten_cons, List.length_append, List.length_cons]
        omega
    have := key o (fun c hc => by
      obtain ⟨m, m1, rfl⟩ := P.scc c hc
      exact List.length_pos_of_mem (mem_scc.2 ⟨m1, .refl m, .refl m⟩))
    omega
  · obtain ⟨m, m1, rfl⟩ := P.scc c hc
    unfold scc
    exact Nat.le_trans (List.length_filter_le _ _) (by rw [iota_length]; exact Nat.le_refl _)

end Tp
end Go.Proofs.Ytpmjpngmmphkmaa
namespace Go.Proofs.Ytpmjpngmmphkmaa.P
open Go.RowKit Go.Proofs.YtpmjpngmmphkmaaW.PrintWords Go.Proofs.YtpmjpngmmphkmaaW.PrintLast Go.Proofs.YtpmjpngmmphkmaaW.PrintMore
attribute [local go_sem] max2_int min2_int max_two min_two max_three min_three max_four min_four   -- for this text's walks alone
set_option linter.unusedVariables false
set_option linter.unusedSimpArgs false

/-! ### lazycref09_Cyclic: function 21 -/
noncomputable def lazycref09_Cyclic.f (k : Nat) (l0_0 : List (List Int)) (a1 : Int) : Option (Bool) := (lazycref09_Valid.f k l0_0).bind fun t198 => (if t198 = true then (if a1 ≥ 0 then (if a1 < (l0_0.length : Int) then (if 0 ≤ a1 then ((lazycref09_from.f k l0_0 (rd_L1 l0_0 a1)).bind fun t200 => (if a1 < (t200.length : Int) then (some (rdOf false t200 a1)) else (none))) else (none)) else (some false)) else (some false)) else (some false))
theorem lazycref09_Cyclic.mono : ∀ a0 a1 k, LeO (lazycref09_Cyclic.f k a0 a1) (lazycref09_Cyclic.f (k + 1) a0 a1) := by
  intro a0 a1 k
  unfold lazycref09_Cyclic.f
  repeat' first
      | (with_reducible exact lazycref09_Valid.mono _ _)
      | (with_reducible exact lazycref09_from.mono _ _ _)
      | (with_reducible exact LeO.refl _)
      | (with_reducible exact LeO.none _)
      | (with_reducible refine LeO.ite ?_ ?_)
      | (with_reducible refine LeO.bind ?_ (fun _ => ?_))
      | exact lazycref09_Valid.mono _ _
      | exact lazycref09_from.mono _ _ _
      | exact LeO.none _
      | refine LeO.ite ?_ ?_
      | refine LeO.bind ?_ (fun _ => ?_)
noncomputable def lazycref09_Cyclic.T1 : Bool × List (List Nat × List Nat) := (true, [([], []), ([0], [0]), ([1, 1], [1]), ([2], [2]), ([3, 2], [2, 3]), ([2, 4], [2, 4]), ([5, 2], [5]), ([6], [6]), ([6], [6]), ([8, 6], [6, 8]), ([9, 6], [6, 9]), ([7, 10, 6], [6, 7, 10]), ([6, 11], [6, 11]), ([12, 6], [12]), ([13], [13]), ([13], [13]), ([15, 13], [13, 15]), ([13], [13]), ([16, 17, 13], [13, 16, 17]), ([18, 13], [13, 18]), ([14, 19, 13, 13], [13, 14, 19]), ([13], [13]), ([20, 21, 13], [13, 20, 21]), ([22, 13], [13, 22]), ([13, 23], [13, 23]), ([24, 20, 0, 1, 2, 3, 4, 5, 6, 7, 8, 9, 10, 11, 12, 13, 14, 15, 16, 17, 18, 19, 20, 21, 22, 23, 24], [24])])
noncomputable def lazycref09_Cyclic.B1 : List Nat := [0, 1, 3, 7, 15, 31, 63, 127, 127, 383, 895, 2047, 4095, 8191, 16383, 16383, 49151, 16383, 245759, 507903, 1048575, 16383, 4194303, 8388607, 16777215, 33554431]
theorem lazycref09_Cyclic.tab1 : rtab .any (opsOf Try.f21 1) = lazycref09_Cyclic.T1 := by kernel_rfl
theorem lazycref09_Cyclic.bits1 : waitsOk lazycref09_Cyclic.T1.2 lazycref09_Cyclic.B1 = true := by kernel_rfl
set_option maxHeartbeats 8000000 in
set_option maxRecDepth 100000 in
theorem lazycref09_Cyclic.calls (k : Nat) (A0_0 : Option Addr) (c0_0 : Nat) (l0_0 : List (List Int)) (a1 : Int) (r : Bool) (w : World) (hr0_0 : Kd.C (Kd.slice 3 (Kd.int .i64)) w A0_0 l0_0.length l0_0) (hc0_0 : l0_0.length ≤ c0_0) (h : lazycref09_Cyclic.f k l0_0 a1 = some r) :
    Calls Try.prog 21 #[.agg #[.slice A0_0 l0_0.length c0_0], .int .i64 a1] w fun e w' => e = .returned (.bool r) ∧ Below w.heap.size w w' := by
  have hu24 := Try.underlying24
  have HR0_0 := aM hr0_0
  have HC0_0 := aM hc0_0
  clear hr0_0 hc0_0
  have HB := aM (Below.refl w.heap.size w)
  have H : ((lazycref09_Valid.f k l0_0).bind fun t198 => (if t198 = true then (if a1 ≥ 0 then (if a1 < (l0_0.length : Int) then (if 0 ≤ a1 then ((lazycref09_from.f k l0_0 (rd_L1 l0_0 a1)).bind fun t200 => (if a1 < (t200.length : Int) then (some (rdOf false t200 a1)) else (none))) else (none)) else (some false)) else (some false)) else (some false))) = some r := h
  clear h
  replace H := Option.bind_eq_some_iff.mp H
  obtain ⟨t198, A30, H⟩ := H
  replace H : (if t198 = true then (if a1 ≥ 0 then (if a1 < (l0_0.length : Int) then (if 0 ≤ a1 then ((lazycref09_from.f k l0_0 (rd_L1 l0_0 a1)).bind fun t200 => (if a1 < (t200.length : Int) then (some (rdOf false t200 a1)) else (none))) else (none)) else (some false)) else (some false)) else (some false)) = some r := H
  have A3 := aM A30
  clear A30
  by_cases c4 : t198 = true
  · subst c4
    have H1 : (if a1 ≥ 0 then (if a1 < (l0_0.length : Int) then (if 0 ≤ a1 then ((lazycref09_from.f k l0_0 (rd_L1 l0_0 a1)).bind fun t200 => (if a1 < (t200.length : Int) then (some (rdOf false t200 a1)) else (none))) else (none)) else (some false)) else (some false)) = some r := by rw [if_pos rfl] at H; exact H
    clear H
    have H := H1
    clear H1
    by_cases c5 : a1 ≥ 0
    · rw [if_pos c5] at H
      have c5b0 : decide (0 ≤ a1) = true := decide_eq_true c5
      clear c5
      by_cases c6 : a1 < (l0_0.length : Int)
      · rw [if_pos c6] at H
        have c6b0 : decide (a1 < (l0_0.length : Int)) = true := decide_eq_true c6
        clear c6
        by_cases c7 : 0 ≤ a1
        · rw [if_pos c7] at H
          have c7b0 : decide (0 ≤ a1) = true := decide_eq_true c7
          clear c7
          replace H := Option.bind_eq_some_iff.mp H
          obtain ⟨t200, A80, H⟩ := H
          replace H : (if a1 < (t200.length : Int) then (some (rdOf false t200 a1)) else (none)) = some r := H
          have A8 := aM A80
          clear A80
          by_cases c9 : a1 < (t200.length : Int)
          · rw [if_pos c9] at H
            have c9b0 : decide (a1 < (t200.length : Int)) = true := decide_eq_true c9
            clear c9
            obtain rfl := Option.some.inj H
            go_enter Try.func21, Try.ntmps21
            try go_wp2_with (first | ((with_reducible refine gate_dst (N := 2) rfl ?_); (try (refine gate_guard (by rfl) ?_; dsimp only)); refine box_event ?hg (N := 2) ?hd (cs := #[.slice A0_0 l0_0.length c0_0]) (t := 24) ?hr ?_; (case hd => rfl); (case hg => rfl); (case hr => first | (go_simp; done) | (go_simp; rfl)); intro gb197 hg w10 hbox hb; have n0_ := aM (below_step (by repeat (first | (with_reducible first | exact HB.out | apply bA | apply bN | apply bD) | exact HB.out)) hb); have n1_ := aM (hbox); have n2_ := aM ((by rw [hg]; exact (below_size (by repeat (first | (with_reducible first | exact HB.out | apply bA | apply bN | apply bD) | exact HB.out))) : w.heap.size ≤ gb197)); have n3_ := aM ((by rw [hg]; exact (below_size (by repeat (first | (with_reducible first | exact HB.out | apply bA | apply bN | apply bD) | exact HB.out))) : w.heap.size ≤ gb197)); clear HB; have HB := n0_; have BK197 := n1_; have GW197 := n2_; have GE197 := n3_; clear n0_ n1_ n2_ n3_; clear hb hbox hg))
            have n0_ := aM (blk_drew BK197.out)
            have n1_ := aM (below_drew1 HB.out)
            clear BK197
            clear HB
            have BK197 := n0_
            have HB := n1_
            clear n0_ n1_
            have p199 : 0 ≤ (a1 : Int) := of_decide_eq_true (by first | (with_reducible assumption) | assumption)
            have q199 : a1 < (l0_0.length : Int) := of_decide_eq_true (by first | (with_reducible assumption) | assumption)
            obtain ⟨ad199, A199_0, c199_0, e199, hx199_0, hl199_0, hi199_0⟩ := at_L1 HR0_0.out a1 p199 q199
            have hw199_0 := hx199_0
            cases e199
            replace hx199_0 := (HB.out.cell (World.block_lt_of_cell? w _ hx199_0)).trans hx199_0
            have HR199_0 := aM hi199_0
            have HC199_0 := aM hl199_0
            clear hi199_0 hl199_0
            replace p199 := eq_true p199
            replace q199 := eq_true q199
            refine start_ (n := 26) (S := fun w' => w'.cell? ⟨gb197, 0, none⟩ = some (.slice (some ad199) l0_0.length c0_0) ∧ w'.cell? (ad199.add (a1).toNat) = some (.slice A199_0 (rd_L1 l0_0 a1).length c199_0)) (ds := []) #[false, false, false, false, false, false, false, false, false, false, false, false, false, false, false, false, false, false, false, false, false, false, false, false, false, false] (by kernel_rfl) rfl rfl ⟨(blk_cell BK197.out 0).trans rfl, ((HB.out.cell (World.block_lt_of_cell? w _ hw199_0)).trans hw199_0)⟩ (fun hHeld => ?_); refine with_tabW lazycref09_Cyclic.tab1 lazycref09_Cyclic.bits1 (fun HT_ HW_ => ?_)
            generalize w10.drew = w11 at BK197 HB HR199_0 hx199_0 hHeld ⊢
            refine take_ (i := 0) (N := some 5) (v := ?_) (a' := ?_) #[true, false, false, false, false, false, false, false, false, false, false, false, false, false, false, false, false, false, false, false, false, false, false, false, false, false] rfl rfl (take_ofW HT_.out HW_.out (by kernel_rfl)) (fun _ _ _ h => h) (Or.inl ⟨by rfl, ?_⟩) hHeld ?_ ?_
            rotate_left
            · rintro w' ⟨s0, s1⟩
              go_simp
              with_reducible rfl
            rotate_left
            · simp only [Act.put, List.setIfInBounds_toArray, List.set_cons_zero, List.set_cons_succ, i64_w, i32_w]
              rfl
            refine one_ (i := 1) (N := some 6) #[true, true, false, false, false, false, false, false, false, false, false, false, false, false, false, false, false, false, false, false, false, false, false, false, false, false] rfl rfl (one_of HT_.out (by kernel_rfl)) (by decide) (fun K hK => ?_)
            refine goes_ Try.func16 (by kernel_rfl) rfl #[.agg #[.slice (some ad199) l0_0.length c0_0]] (by rfl) rfl rfl (by (try simp only [List.map_toArray, List.map_cons, List.map_nil]); first | done | rfl | (simp only [List.length_drop, List.length_take]; rfl)) ?_
            with_reducible refine (lazycref09_Valid.calls k _ _ l0_0 true _ ?side1 ?side2 A3.out).mono ?_
            (case side1 => repeat (first | exact (Kd.C_below HR0_0.out HB.out) | (with_reducible refine Kd.C_alloc ?_ _) | (with_reducible refine Kd.C_drewN ?_ _) | (with_reducible refine Kd.C_drew ?_)))
            (case side2 => exact HC0_0.out)
            rintro e w12 ⟨rfl, hb⟩
            skip
            refine ⟨_, rfl, ?_⟩
            have n0_ := aM (blk_below (g := gb197) (o := .cells #[.slice (some ad199) l0_0.length c0_0] 24 (0, 0)) (by (with_reducible repeat (first | refine kN ?_ _ | refine kD ?_ | refine kA ?_ _)); exact BK197.out) hb)
            have n1_ := aM (below_step (by repeat (first | (with_reducible first | exact HB.out | apply bA | apply bN | apply bD | refine below_set ?_ GE197.out) | exact HB.out)) hb)
            clear BK197
            clear HB
            have BK197 := n0_
            have HB := n1_
            clear n0_ n1_
            (try clear hb)
            (try clear hb2)
            (try clear hk)
            (try clear hi)
            refine hK.out _ _ ⟨(blk_cell BK197.out 0).trans rfl, ((HB.out.cell (World.block_lt_of_cell? w _ hw199_0)).trans hw199_0)⟩ (fun hHeld => ?_)
            clear hK K
            refine norm_ (a' := ?_) ?_ ?_
            rotate_left
            · show Act.put _ (some 6) _ = _
              simp only [Act.put, List.setIfInBounds_toArray, List.set_cons_zero, List.set_cons_succ, i64_w, i32_w]
              rfl
            refine pure_ (i := 2) (N := some 7) (v := ?_) (a' := ?_) #[true, true, true, false, false, false, false, false, false, false, false, false, false, false, false, false, false, false, false, false, false, false, false, false, false, false] rfl rfl (any_of HT_.out (by kernel_rfl)) (fun _ _ _ h => h) (Or.inl ⟨by rfl, ?_⟩) ?_ ?_
            rotate_left
            · intro w'
              go_simp
              with_reducible rfl
            rotate_left
            · simp only [Act.put, List.setIfInBounds_toArray, List.set_cons_zero, List.set_cons_succ, i64_w, i32_w]
              rfl
            refine pure_ (i := 3) (N := some 8) (v := ?_) (a' := ?_) #[true, true, true, true, false, false, false, false, false, false, false, false, false, false, false, false, false, false, false, false, false, false, false, false, false, false] rfl rfl (any_of HT_.out (by kernel_rfl)) (fun _ _ _ h => h) (Or.inl ⟨by rfl, ?_⟩) ?_ ?_
            rotate_left
            · intro w'
              go_simp
              with_reducible rfl
            rotate_left
            · simp only [Act.put, List.setIfInBounds_toArray, List.set_cons_zero, List.set_cons_succ, i64_w, i32_w]
              rfl
            refine pure_ (i := 4) (N := some 9) (v := ?_) (a' := ?_) #[true, true, true, true, true, false, false, false, false, false, false, false, false, false, false, false, false, false, false, false, false, false, false, false, false, false] rfl rfl (any_of HT_.out (by kernel_rfl)) (fun _ _ _ h => h) (Or.inl ⟨by rfl, ?_⟩) ?_ ?_
            rotate_left
            · intro w'
              go_simp
              with_reducible rfl
            rotate_left
            · simp only [Act.put, List.setIfInBounds_toArray, List.set_cons_zero, List.set_cons_succ, i64_w, i32_w]
              rfl
            refine pure_ (i := 5) (N := some 10) (v := ?_) (a' := ?_) #[true, true, true, true, true, true, false, false, false, false, false, false, false, false, false, false, false, false, false, false, false, false, false, false, false, false] rfl rfl (any_of HT_.out (by kernel_rfl)) (fun _ _ _ h => h) (Or.inl ⟨by rfl, ?_⟩) ?_ ?_
            rotate_left
            · intro w'
              go_simp
              with_reducible rfl
            rotate_left
            · simp only [Act.put, List.setIfInBounds_toArray, List.set_cons_zero, List.set_cons_succ, i64_w, i32_w]
              rfl
            refine pure_ (i := 6) (N := some 11) (v := ?_) (a' := ?_) #[true, true, true, true, true, true, true, false, false, false, false, false, false, false, false, false, false, false, false, false, false, false, false, false, false, false] rfl rfl (any_of HT_.out (by kernel_rfl)) (fun _ _ _ h => h) (Or.inl ⟨by rfl, ?_⟩) ?_ ?_
            rotate_left
            · intro w'
              go_simp
              with_reducible rfl
            rotate_left
            · simp only [Act.put, List.setIfInBounds_toArray, List.set_cons_zero, List.set_cons_succ, i64_w, i32_w]
              rfl
            refine pure_ (i := 7) (N := some 12) (v := ?_) (a' := ?_) #[true, true, true, true, true, true, true, true, false, false, false, false, false, false, false, false, false, false, false, false, false, false, false, false, false, false] rfl rfl (any_of HT_.out (by kernel_rfl)) (fun _ _ _ h => h) (Or.inl ⟨by rfl, ?_⟩) ?_ ?_
            rotate_left
            · intro w'
              go_simp
              with_reducible rfl
            rotate_left
            · simp only [Act.put, List.setIfInBounds_toArray, List.set_cons_zero, List.set_cons_succ, i64_w, i32_w]
              rfl
            refine pure_ (i := 8) (N := some 13) (v := ?_) (a' := ?_) #[true, true, true, true, true, true, true, true, true, false, false, false, false, false, false, false, false, false, false, false, false, false, false, false, false, false] rfl rfl (any_of HT_.out (by kernel_rfl)) (fun _ _ _ h => h) (Or.inl ⟨by rfl, ?_⟩) ?_ ?_
            rotate_left
            · intro w'
              go_simp
              with_reducible rfl
            rotate_left
            · simp only [Act.put, List.setIfInBounds_toArray, List.set_cons_zero, List.set_cons_succ, i64_w, i32_w]
              rfl
            refine take_ (i := 9) (N := some 14) (v := ?_) (a' := ?_) #[true, true, true, true, true, true, true, true, true, true, false, false, false, false, false, false, false, false, false, false, false, false, false, false, false, false] rfl rfl (take_ofW HT_.out HW_.out (by kernel_rfl)) (fun _ _ _ h => h) (Or.inl ⟨by rfl, ?_⟩) hHeld ?_ ?_
            rotate_left
            · rintro w' ⟨s0, s1⟩
              go_simp
              with_reducible rfl
            rotate_left
            · simp only [Act.put, List.setIfInBounds_toArray, List.set_cons_zero, List.set_cons_succ, i64_w, i32_w]
              rfl
            refine pure_ (i := 10) (N := some 15) (v := ?_) (a' := ?_) #[true, true, true, true, true, true, true, true, true, true, true, false, false, false, false, false, false, false, false, false, false, false, false, false, false, false] rfl rfl (any_of HT_.out (by kernel_rfl)) (fun _ _ _ h => h) (Or.inl ⟨by rfl, ?_⟩) ?_ ?_
            rotate_left
            · intro w'
              go_simp
              with_reducible rfl
            rotate_left
            · simp only [Act.put, List.setIfInBounds_toArray, List.set_cons_zero, List.set_cons_succ, i64_w, i32_w]
              rfl
            refine pure_ (i := 11) (N := some 16) (v := ?_) (a' := ?_) #[true, true, true, true, true, true, true, true, true, true, true, true, false, false, false, false, false, false, false, false, false, false, false, false, false, false] rfl rfl (any_of HT_.out (by kernel_rfl)) (fun _ _ _ h => h) (Or.inl ⟨by rfl, ?_⟩) ?_ ?_
            rotate_left
            · intro w'
              go_simp
              with_reducible rfl
            rotate_left
            · simp only [Act.put, List.setIfInBounds_toArray, List.set_cons_zero, List.set_cons_succ, i64_w, i32_w]
              rfl
            refine pure_ (i := 12) (N := some 17) (v := ?_) (a' := ?_) #[true, true, true, true, true, true, true, true, true, true, true, true, true, false, false, false, false, false, false, false, false, false, false, false, false, false] rfl rfl (any_of HT_.out (by kernel_rfl)) (fun _ _ _ h => h) (Or.inl ⟨by rfl, ?_⟩) ?_ ?_
            rotate_left
            · intro w'
              go_simp
              with_reducible rfl
            rotate_left
            · simp only [Act.put, List.setIfInBounds_toArray, List.set_cons_zero, List.set_cons_succ, i64_w, i32_w]
              rfl
            refine pure_ (i := 13) (N := some 18) (v := ?_) (a' := ?_) #[true, true, true, true, true, true, true, true, true, true, true, true, true, true, false, false, false, false, false, false, false, false, false, false, false, false] rfl rfl (any_of HT_.out (by kernel_rfl)) (fun _ _ _ h => h) (Or.inl ⟨by rfl, ?_⟩) ?_ ?_
            rotate_left
            · intro w'
              go_simp
              with_reducible rfl
            rotate_left
            · simp only [Act.put, List.setIfInBounds_toArray, List.set_cons_zero, List.set_cons_succ, i64_w, i32_w]
              rfl
            refine pure_ (i := 15) (N := some 20) (v := ?_) (a' := ?_) #[true, true, true, true, true, true, true, true, true, true, true, true, true, true, false, true, false, false, false, false, false, false, false, false, false, false] rfl rfl (any_of HT_.out (by kernel_rfl)) (fun _ _ _ h => h) (Or.inl ⟨by rfl, ?_⟩) ?_ ?_
            rotate_left
            · intro w'
              go_simp
              with_reducible rfl
            rotate_left
            · simp only [Act.put, List.setIfInBounds_toArray, List.set_cons_zero, List.set_cons_succ, i64_w, i32_w]
              rfl
            refine pure_ (i := 17) (N := some 22) (v := ?_) (a' := ?_) #[true, true, true, true, true, true, true, true, true, true, true, true, true, true, false, true, false, true, false, false, false, false, false, false, false, false] rfl rfl (any_of HT_.out (by kernel_rfl)) (fun _ _ _ h => h) (Or.inl ⟨by rfl, ?_⟩) ?_ ?_
            rotate_left
            · intro w'
              go_simp
              with_reducible rfl
            rotate_left
            · simp only [Act.put, List.setIfInBounds_toArray, List.set_cons_zero, List.set_cons_succ, i64_w, i32_w]
              rfl
            refine pure_ (i := 21) (N := some 26) (v := ?_) (a' := ?_) #[true, true, true, true, true, true, true, true, true, true, true, true, true, true, false, true, false, true, false, false, false, true, false, false, false, false] rfl rfl (any_of HT_.out (by kernel_rfl)) (fun _ _ _ h => h) (Or.inl ⟨by rfl, ?_⟩) ?_ ?_
            rotate_left
            · intro w'
              go_simp
              with_reducible rfl
            rotate_left
            · simp only [Act.put, List.setIfInBounds_toArray, List.set_cons_zero, List.set_cons_succ, i64_w, i32_w]
              rfl
            refine take_ (i := 14) (N := some 19) (v := ?_) (a' := ?_) #[true, true, true, true, true, true, true, true, true, true, true, true, true, true, true, true, false, true, false, false, false, true, false, false, false, false] rfl rfl (take_ofW HT_.out HW_.out (by kernel_rfl)) (fun _ _ _ h => h) (Or.inl ⟨by rfl, ?_⟩) hHeld ?_ ?_
            rotate_left
            · rintro w' ⟨s0, s1⟩
              go_simp
              with_reducible rfl
            rotate_left
            · simp only [Act.put, List.setIfInBounds_toArray, List.set_cons_zero, List.set_cons_succ, i64_w, i32_w]
              rfl
            refine take_ (i := 16) (N := some 21) (v := ?_) (a' := ?_) #[true, true, true, true, true, true, true, true, true, true, true, true, true, true, true, true, true, true, false, false, false, true, false, false, false, false] rfl rfl (take_ofW HT_.out HW_.out (by kernel_rfl)) (fun _ _ _ h => h) (Or.inl ⟨by rfl, ?_⟩) hHeld ?_ ?_
            rotate_left
            · rintro w' ⟨s0, s1⟩
              go_simp
              with_reducible rfl
            rotate_left
            · simp only [Act.put, List.setIfInBounds_toArray, List.set_cons_zero, List.set_cons_succ, i64_w, i32_w]
              rfl
            refine pure_ (i := 18) (N := some 23) (v := ?_) (a' := ?_) #[true, true, true, true, true, true, true, true, true, true, true, true, true, true, true, true, true, true, true, false, false, true, false, false, false, false] rfl rfl (any_of HT_.out (by kernel_rfl)) (fun _ _ _ h => h) (Or.inl ⟨by rfl, ?_⟩) ?_ ?_
            rotate_left
            · intro w'
              go_simp
              with_reducible rfl
            rotate_left
            · simp only [Act.put, List.setIfInBounds_toArray, List.set_cons_zero, List.set_cons_succ, i64_w, i32_w]
              rfl
            refine take_ (i := 19) (N := some 24) (v := ?_) (a' := ?_) #[true, true, true, true, true, true, true, true, true, true, true, true, true, true, true, true, true, true, true, true, false, true, false, false, false, false] rfl rfl (take_ofW HT_.out HW_.out (by kernel_rfl)) (fun _ _ _ h => h) (Or.inl ⟨by rfl, ?_⟩) hHeld ?_ ?_
            rotate_left
            · rintro w' ⟨s0, s1⟩
              go_simp
              with_reducible rfl
            rotate_left
            · simp only [Act.put, List.setIfInBounds_toArray, List.set_cons_zero, List.set_cons_succ, i64_w, i32_w]
              rfl
            refine one_ (i := 20) (N := some 25) #[true, true, true, true, true, true, true, true, true, true, true, true, true, true, true, true, true, true, true, true, true, true, false, false, false, false] rfl rfl (one_of HT_.out (by kernel_rfl)) (by decide) (fun K hK => ?_)
            refine goes_ Try.func35 (by kernel_rfl) rfl #[.agg #[.slice (some ad199) l0_0.length c0_0], .slice A199_0 (rd_L1 l0_0 a1).length c199_0] (by rfl) rfl rfl (by (try simp only [List.map_toArray, List.map_cons, List.map_nil]); first | done | rfl | (simp only [List.length_drop, List.length_take]; rfl)) ?_
            with_reducible refine (lazycref09_from.calls k _ _ l0_0 _ _ (rd_L1 l0_0 a1) t200 _ ?side1 ?side2 ?side3 ?side4 A8.out).mono ?_
            (case side1 => repeat (first | exact (Kd.C_below HR0_0.out HB.out) | (with_reducible refine Kd.C_alloc ?_ _) | (with_reducible refine Kd.C_drewN ?_ _) | (with_reducible refine Kd.C_drew ?_)))
            (case side2 => exact HC0_0.out)
            (case side3 => repeat (first | exact (Kd.C_below HR199_0.out HB.out) | (with_reducible refine Kd.C_alloc ?_ _) | (with_reducible refine Kd.C_drewN ?_ _) | (with_reducible refine Kd.C_drew ?_)))
            (case side4 => exact HC199_0.out)
            rintro e w13 ⟨v201, rfl, ho0, hb⟩
            skip
            refine ⟨_, rfl, ?_⟩
            have n0_ := aM (Kd.R_lower ho0 (below_size (by repeat (first | (with_reducible first | exact HB.out | apply bA | apply bN | apply bD | refine below_set ?_ GE197.out) | exact HB.out))))
            have n1_ := aM (blk_below (g := gb197) (o := .cells #[.slice (some ad199) l0_0.length c0_0] 24 (0, 0)) (by (with_reducible repeat (first | refine kN ?_ _ | refine kD ?_ | refine kA ?_ _)); exact BK197.out) hb)
            have n2_ := aM (below_step (by repeat (first | (with_reducible first | exact HB.out | apply bA | apply bN | apply bD | refine below_set ?_ GE197.out) | exact HB.out)) hb)
            clear BK197
            clear HB
            have HO202 := n0_
            have BK197 := n1_
            have HB := n2_
            clear n0_ n1_ n2_
            (try clear hb)
            (try clear hb2)
            (try clear hk)
            (try clear hi)
            (try clear ho0)
            obtain ⟨Ao14, co14, eo14⟩ := Kd.R_slice HO202.out
            (first | subst eo14 | (injection eo14 with f1_ f2_ f3_; have f4_ := f1_.symm; have f5_ := f3_.symm; clear f1_ f2_ f3_; subst f4_; subst f5_))
            have p203 : 0 ≤ (a1 : Int) := of_decide_eq_true (by first | (with_reducible assumption) | assumption)
            have q203 : a1 < (t200.length : Int) := of_decide_eq_true (by first | (with_reducible assumption) | assumption)
            obtain ⟨ad203, e203, hx203_0⟩ := Kd.at_bool (Kd.R_reads' HO202.out).2.2 a1 p203 q203
            cases e203
            replace p203 := eq_true p203
            replace q203 := eq_true q203
            refine hK.out _ _ ⟨(blk_cell BK197.out 0).trans rfl, ((HB.out.cell (World.block_lt_of_cell? w _ hw199_0)).trans hw199_0)⟩ (fun hHeld => ?_)
            have hHeld2 := hHeld
            refine resay_ (S2 := fun w' => w'.cell? ⟨gb197, 0, none⟩ = some (.slice (some ad199) l0_0.length c0_0) ∧ w'.cell? (ad199.add (a1).toNat) = some (.slice A199_0 (rd_L1 l0_0 a1).length c199_0) ∧ w'.cell? (ad203.add (a1).toNat) = some (.bool (rdOf false t200 a1))) ⟨hHeld.1, hHeld.2, hx203_0⟩ (fun _ h_ => ⟨h_.1, h_.2.1⟩) ?_
            clear hHeld
            have hHeld := (show _ ∧ _ ∧ _ from ⟨hHeld2.1, hHeld2.2, hx203_0⟩)
            clear hHeld2
            clear hK K
            refine norm_ (a' := ?_) ?_ ?_
            rotate_left
            · show Act.put _ (some 25) _ = _
              simp only [Act.put, List.setIfInBounds_toArray, List.set_cons_zero, List.set_cons_succ, i64_w, i32_w]
              rfl
            refine pure_ (i := 22) (N := some 27) (v := ?_) (a' := ?_) #[true, true, true, true, true, true, true, true, true, true, true, true, true, true, true, true, true, true, true, true, true, true, true, false, false, false] rfl rfl (any_of HT_.out (by kernel_rfl)) (fun _ _ _ h => h) (Or.inl ⟨by rfl, ?_⟩) ?_ ?_
            rotate_left
            · intro w'
              go_simp
              with_reducible rfl
            rotate_left
            · simp only [Act.put, List.setIfInBounds_toArray, List.set_cons_zero, List.set_cons_succ, i64_w, i32_w]
              rfl
            refine take_ (i := 23) (N := some 28) (v := ?_) (a' := ?_) #[true, true, true, true, true, true, true, true, true, true, true, true, true, true, true, true, true, true, true, true, true, true, true, true, false, false] rfl rfl (take_ofW HT_.out HW_.out (by kernel_rfl)) (fun _ _ _ h => h) (Or.inl ⟨by rfl, ?_⟩) hHeld ?_ ?_
            rotate_left
            · rintro w' ⟨s0, s1, s2⟩
              go_simp
              with_reducible rfl
            rotate_left
            · simp only [Act.put, List.setIfInBounds_toArray, List.set_cons_zero, List.set_cons_succ, i64_w, i32_w]
              rfl
            refine pure_ (i := 24) (N := some 29) (v := ?_) (a' := ?_) #[true, true, true, true, true, true, true, true, true, true, true, true, true, true, true, true, true, true, true, true, true, true, true, true, true, false] rfl rfl (any_of HT_.out (by kernel_rfl)) (fun _ _ _ h => h) (Or.inl ⟨by rfl, ?_⟩) ?_ ?_
            rotate_left
            · intro w'
              go_simp
              with_reducible rfl
            rotate_left
            · simp only [Act.put, List.setIfInBounds_toArray, List.set_cons_zero, List.set_cons_succ, i64_w, i32_w]
              rfl
            refine pure_ (i := 25) (N := some 4) (v := ?_) (a' := ?_) #[true, true, true, true, true, true, true, true, true, true, true, true, true, true, true, true, true, true, true, true, true, true, true, true, true, true] rfl rfl (any_of HT_.out (by kernel_rfl)) (fun _ _ _ h => h) (Or.inl ⟨by rfl, ?_⟩) ?_ ?_
            rotate_left
            · intro w'
              go_simp
              with_reducible rfl
            rotate_left
            · simp only [Act.put, List.setIfInBounds_toArray, List.set_cons_zero, List.set_cons_succ, i64_w, i32_w]
              rfl
            refine done_ (done_of HT_.out (by kernel_rfl)) ?_
            try go_wp2
            go_ret
            exact ⟨by first | rfl | (simp [errW_none, errW_some] <;> rfl) | (simp [*, errW_none, errW_some] <;> rfl), by repeat (first | (with_reducible first | exact HB.out | apply bA | apply bN | apply bD | refine below_set ?_ GE197.out) | exact HB.out)⟩
          · rw [if_neg c9] at H
            exact absurd H (by simp)
        · rw [if_neg c7] at H
          exact absurd H (by simp)
      · rw [if_neg c6] at H
        have c6b0 : decide (a1 < (l0_0.length : Int)) = false := decide_eq_false c6
        clear c6
        obtain rfl := Option.some.inj H
        go_enter Try.func21, Try.ntmps21
        try go_wp2_with (first | ((with_reducible refine gate_dst (N := 2) rfl ?_); (try (refine gate_guard (by rfl) ?_; dsimp only)); refine box_event ?hg (N := 2) ?hd (cs := #[.slice A0_0 l0_0.length c0_0]) (t := 24) ?hr ?_; (case hd => rfl); (case hg => rfl); (case hr => first | (go_simp; done) | (go_simp; rfl)); intro gb197 hg w15 hbox hb; have n0_ := aM (below_step (by repeat (first | (with_reducible first | exact HB.out | apply bA | apply bN | apply bD) | exact HB.out)) hb); have n1_ := aM (hbox); have n2_ := aM ((by rw [hg]; exact (below_size (by repeat (first | (with_reducible first | exact HB.out | apply bA | apply bN | apply bD) | exact HB.out))) : w.heap.size ≤ gb197)); have n3_ := aM ((by rw [hg]; exact (below_size (by repeat (first | (with_reducible first | exact HB.out | apply bA | apply bN | apply bD) | exact HB.out))) : w.heap.size ≤ gb197)); clear HB; have HB := n0_; have BK197 := n1_; have GW197 := n2_; have GE197 := n3_; clear n0_ n1_ n2_ n3_; clear hb hbox hg))
        have n0_ := aM (blk_drew BK197.out)
        have n1_ := aM (below_drew1 HB.out)
        clear BK197
        clear HB
        have BK197 := n0_
        have HB := n1_
        clear n0_ n1_
        refine start_ (n := 26) (S := fun w' => w'.cell? ⟨gb197, 0, none⟩ = some (.slice A0_0 l0_0.length c0_0)) (ds := []) #[false, false, false, false, false, false, false, false, false, false, false, false, false, false, false, false, false, false, false, false, false, false, false, false, false, false] (by kernel_rfl) rfl rfl ((blk_cell BK197.out 0).trans rfl) (fun hHeld => ?_); refine with_tabW lazycref09_Cyclic.tab1 lazycref09_Cyclic.bits1 (fun HT_ HW_ => ?_)
        generalize w15.drew = w16 at BK197 HB hHeld ⊢
        refine take_ (i := 0) (N := some 5) (v := ?_) (a' := ?_) #[true, false, false, false, false, false, false, false, false, false, false, false, false, false, false, false, false, false, false, false, false, false, false, false, false, false] rfl rfl (take_ofW HT_.out HW_.out (by kernel_rfl)) (fun _ _ _ h => h) (Or.inl ⟨by rfl, ?_⟩) hHeld ?_ ?_
        rotate_left
        · intro w' s0
          go_simp
          with_reducible rfl
        rotate_left
        · simp only [Act.put, List.setIfInBounds_toArray, List.set_cons_zero, List.set_cons_succ, i64_w, i32_w]
          rfl
        refine one_ (i := 1) (N := some 6) #[true, true, false, false, false, false, false, false, false, false, false, false, false, false, false, false, false, false, false, false, false, false, false, false, false, false] rfl rfl (one_of HT_.out (by kernel_rfl)) (by decide) (fun K hK => ?_)
        refine goes_ Try.func16 (by kernel_rfl) rfl #[.agg #[.slice A0_0 l0_0.length c0_0]] (by rfl) rfl rfl (by (try simp only [List.map_toArray, List.map_cons, List.map_nil]); first | done | rfl | (simp only [List.length_drop, List.length_take]; rfl)) ?_
        with_reducible refine (lazycref09_Valid.calls k _ _ l0_0 true _ ?side1 ?side2 A3.out).mono ?_
        (case side1 => repeat (first | exact (Kd.C_below HR0_0.out HB.out) | (with_reducible refine Kd.C_alloc ?_ _) | (with_reducible refine Kd.C_drewN ?_ _) | (with_reducible refine Kd.C_drew ?_)))
        (case side2 => exact HC0_0.out)
        rintro e w17 ⟨rfl, hb⟩
        refine ⟨_, rfl, ?_⟩
        have n0_ := aM (blk_below (g := gb197) (o := .cells #[.slice A0_0 l0_0.length c0_0] 24 (0, 0)) (by (with_reducible repeat (first | refine kN ?_ _ | refine kD ?_ | refine kA ?_ _)); exact BK197.out) hb)
        have n1_ := aM (below_step (by repeat (first | (with_reducible first | exact HB.out | apply bA | apply bN | apply bD | refine below_set ?_ GE197.out) | exact HB.out)) hb)
        clear BK197
        clear HB
        have BK197 := n0_
        have HB := n1_
        clear n0_ n1_
        (try clear hb)
        (try clear hb2)
        (try clear hk)
        (try clear hi)
        refine hK.out _ _ ((blk_cell BK197.out 0).trans rfl) (fun hHeld => ?_)
        clear hK K
        refine norm_ (a' := ?_) ?_ ?_
        rotate_left
        · show Act.put _ (some 6) _ = _
          simp only [Act.put, List.setIfInBounds_toArray, List.set_cons_zero, List.set_cons_succ, i64_w, i32_w]
          rfl
        refine pure_ (i := 2) (N := some 7) (v := ?_) (a' := ?_) #[true, true, true, false, false, false, false, false, false, false, false, false, false, false, false, false, false, false, false, false, false, false, false, false, false, false] rfl rfl (any_of HT_.out (by kernel_rfl)) (fun _ _ _ h => h) (Or.inl ⟨by rfl, ?_⟩) ?_ ?_
        rotate_left
        · intro w'
          go_simp
          with_reducible rfl
        rotate_left
        · simp only [Act.put, List.setIfInBounds_toArray, List.set_cons_zero, List.set_cons_succ, i64_w, i32_w]
          rfl
        refine pure_ (i := 3) (N := some 8) (v := ?_) (a' := ?_) #[true, true, true, true, false, false, false, false, false, false, false, false, false, false, false, false, false, false, false, false, false, false, false, false, false, false] rfl rfl (any_of HT_.out (by kernel_rfl)) (fun _ _ _ h => h) (Or.inl ⟨by rfl, ?_⟩) ?_ ?_
        rotate_left
        · intro w'
          go_simp
          with_reducible rfl
        rotate_left
        · simp only [Act.put, List.setIfInBounds_toArray, List.set_cons_zero, List.set_cons_succ, i64_w, i32_w]
          rfl
        refine pure_ (i := 4) (N := some 9) (v := ?_) (a' := ?_) #[true, true, true, true, true, false, false, false, false, false, false, false, false, false, false, false, false, false, false, false, false, false, false, false, false, false] rfl rfl (any_of HT_.out (by kernel_rfl)) (fun _ _ _ h => h) (Or.inl ⟨by rfl, ?_⟩) ?_ ?_
        rotate_left
        · intro w'
          go_simp
          with_reducible rfl
        rotate_left
        · simp only [Act.put, List.setIfInBounds_toArray, List.set_cons_zero, List.set_cons_succ, i64_w, i32_w]
          rfl
        refine pure_ (i := 5) (N := some 10) (v := ?_) (a' := ?_) #[true, true, true, true, true, true, false, false, false, false, false, false, false, false, false, false, false, false, false, false, false, false, false, false, false, false] rfl rfl (any_of HT_.out (by kernel_rfl)) (fun _ _ _ h => h) (Or.inl ⟨by rfl, ?_⟩) ?_ ?_
        rotate_left
        · intro w'
          go_simp
          with_reducible rfl
        rotate_left
        · simp only [Act.put, List.setIfInBounds_toArray, List.set_cons_zero, List.set_cons_succ, i64_w, i32_w]
          rfl
        refine pure_ (i := 6) (N := some 11) (v := ?_) (a' := ?_) #[true, true, true, true, true, true, true, false, false, false, false, false, false, false, false, false, false, false, false, false, false, false, false, false, false, false] rfl rfl (any_of HT_.out (by kernel_rfl)) (fun _ _ _ h => h) (Or.inl ⟨by rfl, ?_⟩) ?_ ?_
        rotate_left
        · intro w'
          go_simp
          with_reducible rfl
        rotate_left
        · simp only [Act.put, List.setIfInBounds_toArray, List.set_cons_zero, List.set_cons_succ, i64_w, i32_w]
          rfl
        refine pure_ (i := 7) (N := some 12) (v := ?_) (a' := ?_) #[true, true, true, true, true, true, true, true, false, false, false, false, false, false, false, false, false, false, false, false, false, false, false, false, false, false] rfl rfl (any_of HT_.out (by kernel_rfl)) (fun _ _ _ h => h) (Or.inl ⟨by rfl, ?_⟩) ?_ ?_
        rotate_left
        · intro w'
          go_simp
          with_reducible rfl
        rotate_left
        · simp only [Act.put, List.setIfInBounds_toArray, List.set_cons_zero, List.set_cons_succ, i64_w, i32_w]
          rfl
        refine pure_ (i := 8) (N := some 13) (v := ?_) (a' := ?_) #[true, true, true, true, true, true, true, true, true, false, false, false, false, false, false, false, false, false, false, false, false, false, false, false, false, false] rfl rfl (any_of HT_.out (by kernel_rfl)) (fun _ _ _ h => h) (Or.inl ⟨by rfl, ?_⟩) ?_ ?_
        rotate_left
        · intro w'
          go_simp
          with_reducible rfl
        rotate_left
        · simp only [Act.put, List.setIfInBounds_toArray, List.set_cons_zero, List.set_cons_succ, i64_w, i32_w]
          rfl
        refine take_ (i := 9) (N := some 14) (v := ?_) (a' := ?_) #[true, true, true, true, true, true, true, true, true, true, false, false, false, false, false, false, false, false, false, false, false, false, false, false, false, false] rfl rfl (take_ofW HT_.out HW_.out (by kernel_rfl)) (fun _ _ _ h => h) (Or.inl ⟨by rfl, ?_⟩) hHeld ?_ ?_
        rotate_left
        · intro w' s0
          go_simp
          with_reducible rfl
        rotate_left
        · simp only [Act.put, List.setIfInBounds_toArray, List.set_cons_zero, List.set_cons_succ, i64_w, i32_w]
          rfl
        refine pure_ (i := 10) (N := some 15) (v := ?_) (a' := ?_) #[true, true, true, true, true, true, true, true, true, true, true, false, false, false, false, false, false, false, false, false, false, false, false, false, false, false] rfl rfl (any_of HT_.out (by kernel_rfl)) (fun _ _ _ h => h) (Or.inl ⟨by rfl, ?_⟩) ?_ ?_
        rotate_left
        · intro w'
          go_simp
          with_reducible rfl
        rotate_left
        · simp only [Act.put, List.setIfInBounds_toArray, List.set_cons_zero, List.set_cons_succ, i64_w, i32_w]
          rfl
        refine pure_ (i := 11) (N := some 16) (v := ?_) (a' := ?_) #[true, true, true, true, true, true, true, true, true, true, true, true, false, false, false, false, false, false, false, false, false, false, false, false, false, false] rfl rfl (any_of HT_.out (by kernel_rfl)) (fun _ _ _ h => h) (Or.inl ⟨by rfl, ?_⟩) ?_ ?_
        rotate_left
        · intro w'
          go_simp
          with_reducible rfl
        rotate_left
        · simp only [Act.put, List.setIfInBounds_toArray, List.set_cons_zero, List.set_cons_succ, i64_w, i32_w]
          rfl
        refine pure_ (i := 12) (N := some 17) (v := ?_) (a' := ?_) #[true, true, true, true, true, true, true, true, true, true, true, true, true, false, false, false, false, false, false, false, false, false, false, false, false, false] rfl rfl (any_of HT_.out (by kernel_rfl)) (fun _ _ _ h => h) (Or.inl ⟨by rfl, ?_⟩) ?_ ?_
        rotate_left
        · intro w'
          go_simp
          with_reducible rfl
        rotate_left
        · simp only [Act.put, List.setIfInBounds_toArray, List.set_cons_zero, List.set_cons_succ, i64_w, i32_w]
          rfl
        refine pure_ (i := 13) (N := some 18) (v := ?_) (a' := ?_) #[true, true, true, true, true, true, true, true, true, true, true, true, true, true, false, false, false, false, false, false, false, false, false, false, false, false] rfl rfl (any_of HT_.out (by kernel_rfl)) (fun _ _ _ h => h) (Or.inl ⟨by rfl, ?_⟩) ?_ ?_
        rotate_left
        · intro w'
          go_simp
          with_reducible rfl
        rotate_left
        · simp only [Act.put, List.setIfInBounds_toArray, List.set_cons_zero, List.set_cons_succ, i64_w, i32_w]
          rfl
        refine pure_ (i := 14) (N := some 19) (v := undef) (a' := ?_) #[true, true, true, true, true, true, true, true, true, true, true, true, true, true, true, false, false, false, false, false, false, false, false, false, false, false] rfl rfl (any_of HT_.out (by kernel_rfl)) (fun _ _ _ h => h) (Or.inr ⟨by rfl, rfl⟩) ?_ ?_
        rotate_left
        · simp only [Act.put, List.setIfInBounds_toArray, List.set_cons_zero, List.set_cons_succ, i64_w, i32_w]
          rfl
        refine pure_ (i := 15) (N := some 20) (v := undef) (a' := ?_) #[true, true, true, true, true, true, true, true, true, true, true, true, true, true, true, true, false, false, false, false, false, false, false, false, false, false] rfl rfl (any_of HT_.out (by kernel_rfl)) (fun _ _ _ h => h) (Or.inr ⟨by rfl, rfl⟩) ?_ ?_
        rotate_left
        · simp only [Act.put, List.setIfInBounds_toArray, List.set_cons_zero, List.set_cons_succ, i64_w, i32_w]
          rfl
        refine pure_ (i := 16) (N := some 21) (v := undef) (a' := ?_) #[true, true, true, true, true, true, true, true, true, true, true, true, true, true, true, true, true, false, false, false, false, false, false, false, false, false] rfl rfl (any_of HT_.out (by kernel_rfl)) (fun _ _ _ h => h) (Or.inr ⟨by rfl, rfl⟩) ?_ ?_
        rotate_left
        · simp only [Act.put, List.setIfInBounds_toArray, List.set_cons_zero, List.set_cons_succ, i64_w, i32_w]
          rfl
        refine pure_ (i := 17) (N := some 22) (v := undef) (a' := ?_) #[true, true, true, true, true, true, true, true, true, true, true, true, true, true, true, true, true, true, false, false, false, false, false, false, false, false] rfl rfl (any_of HT_.out (by kernel_rfl)) (fun _ _ _ h => h) (Or.inr ⟨by rfl, rfl⟩) ?_ ?_
        rotate_left
        · simp only [Act.put, List.setIfInBounds_toArray, List.set_cons_zero, List.set_cons_succ, i64_w, i32_w]
          rfl
        refine pure_ (i := 18) (N := some 23) (v := undef) (a' := ?_) #[true, true, true, true, true, true, true, true, true, true, true, true, true, true, true, true, true, true, true, false, false, false, false, false, false, false] rfl rfl (any_of HT_.out (by kernel_rfl)) (fun _ _ _ h => h) (Or.inr ⟨by rfl, rfl⟩) ?_ ?_
        rotate_left
        · simp only [Act.put, List.setIfInBounds_toArray, List.set_cons_zero, List.set_cons_succ, i64_w, i32_w]
          rfl
        refine pure_ (i := 19) (N := some 24) (v := undef) (a' := ?_) #[true, true, true, true, true, true, true, true, true, true, true, true, true, true, true, true, true, true, true, true, false, false, false, false, false, false] rfl rfl (any_of HT_.out (by kernel_rfl)) (fun _ _ _ h => h) (Or.inr ⟨by rfl, rfl⟩) ?_ ?_
        rotate_left
        · simp only [Act.put, List.setIfInBounds_toArray, List.set_cons_zero, List.set_cons_succ, i64_w, i32_w]
          rfl
        refine pure_ (i := 20) (N := some 25) (v := undef) (a' := ?_) #[true, true, true, true, true, true, true, true, true, true, true, true, true, true, true, true, true, true, true, true, true, false, false, false, false, false] rfl rfl (any_of HT_.out (by kernel_rfl)) (fun _ _ _ h => h) (Or.inr ⟨by rfl, rfl⟩) ?_ ?_
        rotate_left
        · simp only [Act.put, List.setIfInBounds_toArray, List.set_cons_zero, List.set_cons_succ, i64_w, i32_w]
          rfl
        refine pure_ (i := 21) (N := some 26) (v := undef) (a' := ?_) #[true, true, true, true, true, true, true, true, true, true, true, true, true, true, true, true, true, true, true, true, true, true, false, false, false, false] rfl rfl (any_of HT_.out (by kernel_rfl)) (fun _ _ _ h => h) (Or.inr ⟨by rfl, rfl⟩) ?_ ?_
        rotate_left
        · simp only [Act.put, List.setIfInBounds_toArray, List.set_cons_zero, List.set_cons_succ, i64_w, i32_w]
          rfl
        refine pure_ (i := 22) (N := some 27) (v := undef) (a' := ?_) #[true, true, true, true, true, true, true, true, true, true, true, true, true, true, true, true, true, true, true, true, true, true, true, false, false, false] rfl rfl (any_of HT_.out (by kernel_rfl)) (fun _ _ _ h => h) (Or.inr ⟨by rfl, rfl⟩) ?_ ?_
        rotate_left
        · simp only [Act.put, List.setIfInBounds_toArray, List.set_cons_zero, List.set_cons_succ, i64_w, i32_w]
          rfl
        refine pure_ (i := 23) (N := some 28) (v := undef) (a' := ?_) #[true, true, true, true, true, true, true, true, true, true, true, true, true, true, true, true, true, true, true, true, true, true, true, true, false, false] rfl rfl (any_of HT_.out (by kernel_rfl)) (fun _ _ _ h => h) (Or.inr ⟨by rfl, rfl⟩) ?_ ?_
        rotate_left
        · simp only [Act.put, List.setIfInBounds_toArray, List.set_cons_zero, List.set_cons_succ, i64_w, i32_w]
          rfl
        refine pure_ (i := 24) (N := some 29) (v := ?_) (a' := ?_) #[true, true, true, true, true, true, true, true, true, true, true, true, true, true, true, true, true, true, true, true, true, true, true, true, true, false] rfl rfl (any_of HT_.out (by kernel_rfl)) (fun _ _ _ h => h) (Or.inl ⟨by rfl, ?_⟩) ?_ ?_
        rotate_left
        · intro w'
          go_simp
          with_reducible rfl
        rotate_left
        · simp only [Act.put, List.setIfInBounds_toArray, List.set_cons_zero, List.set_cons_succ, i64_w, i32_w]
          rfl
        refine pure_ (i := 25) (N := some 4) (v := ?_) (a' := ?_) #[true, true, true, true, true, true, true, true, true, true, true, true, true, true, true, true, true, true, true, true, true, true, true, true, true, true] rfl rfl (any_of HT_.out (by kernel_rfl)) (fun _ _ _ h => h) (Or.inl ⟨by rfl, ?_⟩) ?_ ?_
        rotate_left
        · intro w'
          go_simp
          with_reducible rfl
        rotate_left
        · simp only [Act.put, List.setIfInBounds_toArray, List.set_cons_zero, List.set_cons_succ, i64_w, i32_w]
          rfl
        refine done_ (done_of HT_.out (by kernel_rfl)) ?_
        try go_wp2
        go_ret
        exact ⟨by first | rfl | (simp [errW_none, errW_some] <;> rfl) | (simp [*, errW_none, errW_some] <;> rfl), by repeat (first | (with_reducible first | exact HB.out | apply bA | apply bN | apply bD | refine below_set ?_ GE197.out) | exact HB.out)⟩
    · rw [if_neg c5] at H
      have c5b0 : decide (0 ≤ a1) = false := decide_eq_false c5
      clear c5
      obtain rfl := Option.some.inj H
      go_enter Try.func21, Try.ntmps21
      try go_wp2_with (first | ((with_reducible refine gate_dst (N := 2) rfl ?_); (try (refine gate_guard (by rfl) ?_; dsimp only)); refine box_event ?hg (N := 2) ?hd (cs := #[.slice A0_0 l0_0.length c0_0]) (t := 24) ?hr ?_; (case hd => rfl); (case hg => rfl); (case hr => first | (go_simp; done) | (go_simp; rfl)); intro gb197 hg w18 hbox hb; have n0_ := aM (below_step (by repeat (first | (with_reducible first | exact HB.out | apply bA | apply bN | apply bD) | exact HB.out)) hb); have n1_ := aM (hbox); have n2_ := aM ((by rw [hg]; exact (below_size (by repeat (first | (with_reducible first | exact HB.out | apply bA | apply bN | apply bD) | exact HB.out))) : w.heap.size ≤ gb197)); have n3_ := aM ((by rw [hg]; exact (below_size (by repeat (first | (with_reducible first | exact HB.out | apply bA | apply bN | apply bD) | exact HB.out))) : w.heap.size ≤ gb197)); clear HB; have HB := n0_; have BK197 := n1_; have GW197 := n2_; have GE197 := n3_; clear n0_ n1_ n2_ n3_; clear hb hbox hg))
      have n0_ := aM (blk_drew BK197.out)
      have n1_ := aM (below_drew1 HB.out)
      clear BK197
      clear HB
      have BK197 := n0_
      have HB := n1_
      clear n0_ n1_
      refine start_ (n := 26) (S := fun w' => w'.cell? ⟨gb197, 0, none⟩ = some (.slice A0_0 l0_0.length c0_0)) (ds := []) #[false, false, false, false, false, false, false, false, false, false, false, false, false, false, false, false, false, false, false, false, false, false, false, false, false, false] (by kernel_rfl) rfl rfl ((blk_cell BK197.out 0).trans rfl) (fun hHeld => ?_); refine with_tabW lazycref09_Cyclic.tab1 lazycref09_Cyclic.bits1 (fun HT_ HW_ => ?_)
      generalize w18.drew = w19 at BK197 HB hHeld ⊢
      refine take_ (i := 0) (N := some 5) (v := ?_) (a' := ?_) #[true, false, false, false, false, false, false, false, false, false, false, false, false, false, false, false, false, false, false, false, false, false, false, false, false, false] rfl rfl (take_ofW HT_.out HW_.out (by kernel_rfl)) (fun _ _ _ h => h) (Or.inl ⟨by rfl, ?_⟩) hHeld ?_ ?_
      rotate_left
      · intro w' s0
        go_simp
        with_reducible rfl
      rotate_left
      · simp only [Act.put, List.setIfInBounds_toArray, List.set_cons_zero, List.set_cons_succ, i64_w, i32_w]
        rfl
      refine one_ (i := 1) (N := some 6) #[true, true, false, false, false, false, false, false, false, false, false, false, false, false, false, false, false, false, false, false, false, false, false, false, false, false] rfl rfl (one_of HT_.out (by kernel_rfl)) (by decide) (fun K hK => ?_)
      refine goes_ Try.func16 (by kernel_rfl) rfl #[.agg #[.slice A0_0 l0_0.length c0_0]] (by rfl) rfl rfl (by (try simp only [List.map_toArray, List.map_cons, List.map_nil]); first | done | rfl | (simp only [List.length_drop, List.length_take]; rfl)) ?_
      with_reducible refine (lazycref09_Valid.calls k _ _ l0_0 true _ ?side1 ?side2 A3.out).mono ?_
      (case side1 => repeat (first | exact (Kd.C_below HR0_0.out HB.out) | (with_reducible refine Kd.C_alloc ?_ _) | (with_reducible refine Kd.C_drewN ?_ _) | (with_reducible refine Kd.C_drew ?_)))
      (case side2 => exact HC0_0.out)
      rintro e w20 ⟨rfl, hb⟩
      refine ⟨_, rfl, ?_⟩
      have n0_ := aM (blk_below (g := gb197) (o := .cells #[.slice A0_0 l0_0.length c0_0] 24 (0, 0)) (by (with_reducible repeat (first | refine kN ?_ _ | refine kD ?_ | refine kA ?_ _)); exact BK197.out) hb)
      have n1_ := aM (below_step (by repeat (first | (with_reducible first | exact HB.out | apply bA | apply bN | apply bD | refine below_set ?_ GE197.out) | exact HB.out)) hb)
      clear BK197
      clear HB
      have BK197 := n0_
      have HB := n1_
      clear n0_ n1_
      (try clear hb)
      (try clear hb2)
      (try clear hk)
      (try clear hi)
      refine hK.out _ _ ((blk_cell BK197.out 0).trans rfl) (fun hHeld => ?_)
      clear hK K
      refine norm_ (a' := ?_) ?_ ?_
      rotate_left
      · show Act.put _ (some 6) _ = _
        simp only [Act.put, List.setIfInBounds_toArray, List.set_cons_zero, List.set_cons_succ, i64_w, i32_w]
        rfl
      refine pure_ (i := 2) (N := some 7) (v := ?_) (a' := ?_) #[true, true, true, false, false, false, false, false, false, false, false, false, false, false, false, false, false, false, false, false, false, false, false, false, false, false] rfl rfl (any_of HT_.out (by kernel_rfl)) (fun _ _ _ h => h) (Or.inl ⟨by rfl, ?_⟩) ?_ ?_
      rotate_left
      · intro w'
        go_simp
        with_reducible rfl
      rotate_left
      · simp only [Act.put, List.setIfInBounds_toArray, List.set_cons_zero, List.set_cons_succ, i64_w, i32_w]
        rfl
      refine pure_ (i := 3) (N := some 8) (v := ?_) (a' := ?_) #[true, true, true, true, false, false, false, false, false, false, false, false, false, false, false, false, false, false, false, false, false, false, false, false, false, false] rfl rfl (any_of HT_.out (by kernel_rfl)) (fun _ _ _ h => h) (Or.inl ⟨by rfl, ?_⟩) ?_ ?_
      rotate_left
      · intro w'
        go_simp
        with_reducible rfl
      rotate_left
      · simp only [Act.put, List.setIfInBounds_toArray, List.set_cons_zero, List.set_cons_succ, i64_w, i32_w]
        rfl
      refine pure_ (i := 4) (N := some 9) (v := ?_) (a' := ?_) #[true, true, true, true, true, false, false, false, false, false, false, false, false, false, false, false, false, false, false, false, false, false, false, false, false, false] rfl rfl (any_of HT_.out (by kernel_rfl)) (fun _ _ _ h => h) (Or.inl ⟨by rfl, ?_⟩) ?_ ?_
      rotate_left
      · intro w'
        go_simp
        with_reducible rfl
      rotate_left
      · simp only [Act.put, List.setIfInBounds_toArray, List.set_cons_zero, List.set_cons_succ, i64_w, i32_w]
        rfl
      refine pure_ (i := 5) (N := some 10) (v := ?_) (a' := ?_) #[true, true, true, true, true, true, false, false, false, false, false, false, false, false, false, false, false, false, false, false, false, false, false, false, false, false] rfl rfl (any_of HT_.out (by kernel_rfl)) (fun _ _ _ h => h) (Or.inl ⟨by rfl, ?_⟩) ?_ ?_
      rotate_left
      · intro w'
        go_simp
        with_reducible rfl
      rotate_left
      · simp only [Act.put, List.setIfInBounds_toArray, List.set_cons_zero, List.set_cons_succ, i64_w, i32_w]
        rfl
      refine pure_ (i := 6) (N := some 11) (v := ?_) (a' := ?_) #[true, true, true, true, true, true, true, false, false, false, false, false, false, false, false, false, false, false, false, false, false, false, false, false, false, false] rfl rfl (any_of HT_.out (by kernel_rfl)) (fun _ _ _ h => h) (Or.inl ⟨by rfl, ?_⟩) ?_ ?_
      rotate_left
      · intro w'
        go_simp
        with_reducible rfl
      rotate_left
      · simp only [Act.put, List.setIfInBounds_toArray, List.set_cons_zero, List.set_cons_succ, i64_w, i32_w]
        rfl
      refine pure_ (i := 7) (N := some 12) (v := undef) (a' := ?_) #[true, true, true, true, true, true, true, true, false, false, false, false, false, false, false, false, false, false, false, false, false, false, false, false, false, false] rfl rfl (any_of HT_.out (by kernel_rfl)) (fun _ _ _ h => h) (Or.inr ⟨by rfl, rfl⟩) ?_ ?_
      rotate_left
      · simp only [Act.put, List.setIfInBounds_toArray, List.set_cons_zero, List.set_cons_succ, i64_w, i32_w]
        rfl
      refine pure_ (i := 8) (N := some 13) (v := undef) (a' := ?_) #[true, true, true, true, true, true, true, true, true, false, false, false, false, false, false, false, false, false, false, false, false, false, false, false, false, false] rfl rfl (any_of HT_.out (by kernel_rfl)) (fun _ _ _ h => h) (Or.inr ⟨by rfl, rfl⟩) ?_ ?_
      rotate_left
      · simp only [Act.put, List.setIfInBounds_toArray, List.set_cons_zero, List.set_cons_succ, i64_w, i32_w]
        rfl
      refine pure_ (i := 9) (N := some 14) (v := undef) (a' := ?_) #[true, true, true, true, true, true, true, true, true, true, false, false, false, false, false, false, false, false, false, false, false, false, false, false, false, false] rfl rfl (any_of HT_.out (by kernel_rfl)) (fun _ _ _ h => h) (Or.inr ⟨by rfl, rfl⟩) ?_ ?_
      rotate_left
      · simp only [Act.put, List.setIfInBounds_toArray, List.set_cons_zero, List.set_cons_succ, i64_w, i32_w]
        rfl
      refine pure_ (i := 10) (N := some 15) (v := undef) (a' := ?_) #[true, true, true, true, true, true, true, true, true, true, true, false, false, false, false, false, false, false, false, false, false, false, false, false, false, false] rfl rfl (any_of HT_.out (by kernel_rfl)) (fun _ _ _ h => h) (Or.inr ⟨by rfl, rfl⟩) ?_ ?_
      rotate_left
      · simp only [Act.put, List.setIfInBounds_toArray, List.set_cons_zero, List.set_cons_succ, i64_w, i32_w]
        rfl
      refine pure_ (i := 11) (N := some 16) (v := undef) (a' := ?_) #[true, true, true, true, true, true, true, true, true, true, true, true, false, false, false, false, false, false, false, false, false, false, false, false, false, false] rfl rfl (any_of HT_.out (by kernel_rfl)) (fun _ _ _ h => h) (Or.inr ⟨by rfl, rfl⟩) ?_ ?_
      rotate_left
      · simp only [Act.put, List.setIfInBounds_toArray, List.set_cons_zero, List.set_cons_succ, i64_w, i32_w]
        rfl
      refine pure_ (i := 12) (N := some 17) (v := ?_) (a' := ?_) #[true, true, true, true, true, true, true, true, true, true, true, true, true, false, false, false, false, false, false, false, false, false, false, false, false, false] rfl rfl (any_of HT_.out (by kernel_rfl)) (fun _ _ _ h => h) (Or.inl ⟨by rfl, ?_⟩) ?_ ?_
      rotate_left
      · intro w'
        go_simp
        with_reducible rfl
      rotate_left
      · simp only [Act.put, List.setIfInBounds_toArray, List.set_cons_zero, List.set_cons_succ, i64_w, i32_w]
        rfl
      refine pure_ (i := 13) (N := some 18) (v := ?_) (a' := ?_) #[true, true, true, true, true, true, true, true, true, true, true, true, true, true, false, false, false, false, false, false, false, false, false, false, false, false] rfl rfl (any_of HT_.out (by kernel_rfl)) (fun _ _ _ h => h) (Or.inl ⟨by rfl, ?_⟩) ?_ ?_
      rotate_left
      · intro w'
        go_simp
        with_reducible rfl
      rotate_left
      · simp only [Act.put, List.setIfInBounds_toArray, List.set_cons_zero, List.set_cons_succ, i64_w, i32_w]
        rfl
      refine pure_ (i := 14) (N := some 19) (v := undef) (a' := ?_) #[true, true, true, true, true, true, true, true, true, true, true, true, true, true, true, false, false, false, false, false, false, false, false, false, false, false] rfl rfl (any_of HT_.out (by kernel_rfl)) (fun _ _ _ h => h) (Or.inr ⟨by rfl, rfl⟩) ?_ ?_
      rotate_left
      · simp only [Act.put, List.setIfInBounds_toArray, List.set_cons_zero, List.set_cons_succ, i64_w, i32_w]
        rfl
      refine pure_ (i := 15) (N := some 20) (v := undef) (a' := ?_) #[true, true, true, true, true, true, true, true, true, true, true, true, true, true, true, true, false, false, false, false, false, false, false, false, false, false] rfl rfl (any_of HT_.out (by kernel_rfl)) (fun _ _ _ h => h) (Or.inr ⟨by rfl, rfl⟩) ?_ ?_
      rotate_left
      · simp only [Act.put, List.setIfInBounds_toArray, List.set_cons_zero, List.set_cons_succ, i64_w, i32_w]
        rfl
      refine pure_ (i := 16) (N := some 21) (v := undef) (a' := ?_) #[true, true, true, true, true, true, true, true, true, true, true, true, true, true, true, true, true, false, false, false, false, false, false, false, false, false] rfl rfl (any_of HT_.out (by kernel_rfl)) (fun _ _ _ h => h) (Or.inr ⟨by rfl, rfl⟩) ?_ ?_
      rotate_left
      · simp only [Act.put, List.setIfInBounds_toArray, List.set_cons_zero, List.set_cons_succ, i64_w, i32_w]
        rfl
      refine pure_ (i := 17) (N := some 22) (v := undef) (a' := ?_) #[true, true, true, true, true, true, true, true, true, true, true, true, true, true, true, true, true, true, false, false, false, false, false, false, false, false] rfl rfl (any_of HT_.out (by kernel_rfl)) (fun _ _ _ h => h) (Or.inr ⟨by rfl, rfl⟩) ?_ ?_
      rotate_left
      · simp only [Act.put, List.setIfInBounds_toArray, List.set_cons_zero, List.set_cons_succ, i64_w, i32_w]
        rfl
      refine pure_ (i := 18) (N := some 23) (v := undef) (a' := ?_) #[true, true, true, true, true, true, true, true, true, true, true, true, true, true, true, true, true, true, true, false, false, false, false, false, false, false] rfl rfl (any_of HT_.out (by kernel_rfl)) (fun _ _ _ h => h) (Or.inr ⟨by rfl, rfl⟩) ?_ ?_
      rotate_left
      · simp only [Act.put, List.setIfInBounds_toArray, List.set_cons_zero, List.set_cons_succ, i64_w, i32_w]
        rfl
      refine pure_ (i := 19) (N := some 24) (v := undef) (a' := ?_) #[true, true, true, true, true, true, true, true, true, true, true, true, true, true, true, true, true, true, true, true, false, false, false, false, false, false] rfl rfl (any_of HT_.out (by kernel_rfl)) (fun _ _ _ h => h) (Or.inr ⟨by rfl, rfl⟩) ?_ ?_
      rotate_left
      · simp only [Act.put, List.setIfInBounds_toArray, List.set_cons_zero, List.set_cons_succ, i64_w, i32_w]
        rfl
      refine pure_ (i := 20) (N := some 25) (v := undef) (a' := ?_) #[true, true, true, true, true, true, true, true, true, true, true, true, true, true, true, true, true, true, true, true, true, false, false, false, false, false] rfl rfl (any_of HT_.out (by kernel_rfl)) (fun _ _ _ h => h) (Or.inr ⟨by rfl, rfl⟩) ?_ ?_
      rotate_left
      · simp only [Act.put, List.setIfInBounds_toArray, List.set_cons_zero, List.set_cons_succ, i64_w, i32_w]
        rfl
      refine pure_ (i := 21) (N := some 26) (v := undef) (a' := ?_) #[true, true, true, true, true, true, true, true, true, true, true, true, true, true, true, true, true, true, true, true, true, true, false, false, false, false] rfl rfl (any_of HT_.out (by kernel_rfl)) (fun _ _ _ h => h) (Or.inr ⟨by rfl, rfl⟩) ?_ ?_
      rotate_left
      · simp only [Act.put, List.setIfInBounds_toArray, List.set_cons_zero, List.set_cons_succ, i64_w, i32_w]
        rfl
      refine pure_ (i := 22) (N := some 27) (v := undef) (a' := ?_) #[true, true, true, true, true, true, true, true, true, true, true, true, true, true, true, true, true, true, true, true, true, true, true, false, false, false] rfl rfl (any_of HT_.out (by kernel_rfl)) (fun _ _ _ h => h) (Or.inr ⟨by rfl, rfl⟩) ?_ ?_
      rotate_left
      · simp only [Act.put, List.setIfInBounds_toArray, List.set_cons_zero, List.set_cons_succ, i64_w, i32_w]
        rfl
      refine pure_ (i := 23) (N := some 28) (v := undef) (a' := ?_) #[true, true, true, true, true, true, true, true, true, true, true, true, true, true, true, true, true, true, true, true, true, true, true, true, false, false] rfl rfl (any_of HT_.out (by kernel_rfl)) (fun _ _ _ h => h) (Or.inr ⟨by rfl, rfl⟩) ?_ ?_
      rotate_left
      · simp only [Act.put, List.setIfInBounds_toArray, List.set_cons_zero, List.set_cons_succ, i64_w, i32_w]
        rfl
      refine pure_ (i := 24) (N := some 29) (v := ?_) (a' := ?_) #[true, true, true, true, true, true, true, true, true, true, true, true, true, true, true, true, true, true, true, true, true, true, true, true, true, false] rfl rfl (any_of HT_.out (by kernel_rfl)) (fun _ _ _ h => h) (Or.inl ⟨by rfl, ?_⟩) ?_ ?_
      rotate_left
      · intro w'
        go_simp
        with_reducible rfl
      rotate_left
      · simp only [Act.put, List.setIfInBounds_toArray, List.set_cons_zero, List.set_cons_succ, i64_w, i32_w]
        rfl
      refine pure_ (i := 25) (N := some 4) (v := ?_) (a' := ?_) #[true, true, true, true, true, true, true, true, true, true, true, true, true, true, true, true, true, true, true, true, true, true, true, true, true, true] rfl rfl (any_of HT_.out (by kernel_rfl)) (fun _ _ _ h => h) (Or.inl ⟨by rfl, ?_⟩) ?_ ?_
      rotate_left
      · intro w'
        go_simp
        with_reducible rfl
      rotate_left
      · simp only [Act.put, List.setIfInBounds_toArray, List.set_cons_zero, List.set_cons_succ, i64_w, i32_w]
        rfl
      refine done_ (done_of HT_.out (by kernel_rfl)) ?_
      try go_wp2
      go_ret
      exact ⟨by first | rfl | (simp [errW_none, errW_some] <;> rfl) | (simp [*, errW_none, errW_some] <;> rfl), by repeat (first | (with_reducible first | exact HB.out | apply bA | apply bN | apply bD | refine below_set ?_ GE197.out) | exact HB.out)⟩
  · replace c4 := Bool.eq_false_iff.mpr c4
    subst c4
    have H1 : (some false) = some r := by rw [if_neg (show ¬ (false = true) by decide)] at H; exact H
    clear H
    have H := H1
    clear H1
    obtain rfl := Option.some.inj H
    go_enter Try.func21, Try.ntmps21
    try go_wp2_with (first | ((with_reducible refine gate_dst (N := 2) rfl ?_); (try (refine gate_guard (by rfl) ?_; dsimp only)); refine box_event ?hg (N := 2) ?hd (cs := #[.slice A0_0 l0_0.length c0_0]) (t := 24) ?hr ?_; (case hd => rfl); (case hg => rfl); (case hr => first | (go_simp; done) | (go_simp; rfl)); intro gb197 hg w21 hbox hb; have n0_ := aM (below_step (by repeat (first | (with_reducible first | exact HB.out | apply bA | apply bN | apply bD) | exact HB.out)) hb); have n1_ := aM (hbox); have n2_ := aM ((by rw [hg]; exact (below_size (by repeat (first | (with_reducible first | exact HB.out | apply bA | apply bN | apply bD) | exact HB.out))) : w.heap.size ≤ gb197)); have n3_ := aM ((by rw [hg]; exact (below_size (by repeat (first | (with_reducible first | exact HB.out | apply bA | apply bN | apply bD) | exact HB.out))) : w.heap.size ≤ gb197)); clear HB; have HB := n0_; have BK197 := n1_; have GW197 := n2_; have GE197 := n3_; clear n0_ n1_ n2_ n3_; clear hb hbox hg))
    have n0_ := aM (blk_drew BK197.out)
    have n1_ := aM (below_drew1 HB.out)
    clear BK197
    clear HB
    have BK197 := n0_
    have HB := n1_
    clear n0_ n1_
    refine start_ (n := 26) (S := fun w' => w'.cell? ⟨gb197, 0, none⟩ = some (.slice A0_0 l0_0.length c0_0)) (ds := []) #[false, false, false, false, false, false, false, false, false, false, false, false, false, false, false, false, false, false, false, false, false, false, false, false, false, false] (by kernel_rfl) rfl rfl ((blk_cell BK197.out 0).trans rfl) (fun hHeld => ?_); refine with_tabW lazycref09_Cyclic.tab1 lazycref09_Cyclic.bits1 (fun HT_ HW_ => ?_)
    generalize w21.drew = w22 at BK197 HB hHeld ⊢
    refine take_ (i := 0) (N := some 5) (v := ?_) (a' := ?_) #[true, false, false, false, false, false, false, false, false, false, false, false, false, false, false, false, false, false, false, false, false, false, false, false, false, false] rfl rfl (take_ofW HT_.out HW_.out (by kernel_rfl)) (fun _ _ _ h => h) (Or.inl ⟨by rfl, ?_⟩) hHeld ?_ ?_
    rotate_left
    · intro w' s0
      go_simp
      with_reducible rfl
    rotate_left
    · simp only [Act.put, List.setIfInBounds_toArray, List.set_cons_zero, List.set_cons_succ, i64_w, i32_w]
      rfl
    refine one_ (i := 1) (N := some 6) #[true, true, false, false, false, false, false, false, false, false, false, false, false, false, false, false, false, false, false, false, false, false, false, false, false, false] rfl rfl (one_of HT_.out (by kernel_rfl)) (by decide) (fun K hK => ?_)
    refine goes_ Try.func16 (by kernel_rfl) rfl #[.agg #[.slice A0_0 l0_0.length c0_0]] (by rfl) rfl rfl (by (try simp only [List.map_toArray, List.map_cons, List.map_nil]); first | done | rfl | (simp only [List.length_drop, List.length_take]; rfl)) ?_
    with_reducible refine (lazycref09_Valid.calls k _ _ l0_0 false _ ?side1 ?side2 A3.out).mono ?_
    (case side1 => repeat (first | exact (Kd.C_below HR0_0.out HB.out) | (with_reducible refine Kd.C_alloc ?_ _) | (with_reducible refine Kd.C_drewN ?_ _) | (with_reducible refine Kd.C_drew ?_)))
    (case side2 => exact HC0_0.out)
    rintro e w23 ⟨rfl, hb⟩
    refine ⟨_, rfl, ?_⟩
    have n0_ := aM (blk_below (g := gb197) (o := .cells #[.slice A0_0 l0_0.length c0_0] 24 (0, 0)) (by (with_reducible repeat (first | refine kN ?_ _ | refine kD ?_ | refine kA ?_ _)); exact BK197.out) hb)
    have n1_ := aM (below_step (by repeat (first | (with_reducible first | exact HB.out | apply bA | apply bN | apply bD | refine below_set ?_ GE197.out) | exact HB.out)) hb)
    clear BK197
    clear HB
    have BK197 := n0_
    have HB := n1_
    clear n0_ n1_
    (try clear hb)
    (try clear hb2)
    (try clear hk)
    (try clear hi)
    refine hK.out _ _ ((blk_cell BK197.out 0).trans rfl) (fun hHeld => ?_)
    clear hK K
    refine norm_ (a' := ?_) ?_ ?_
    rotate_left
    · show Act.put _ (some 6) _ = _
      simp only [Act.put, List.setIfInBounds_toArray, List.set_cons_zero, List.set_cons_succ, i64_w, i32_w]
      rfl
    refine pure_ (i := 2) (N := some 7) (v := ?_) (a' := ?_) #[true, true, true, false, false, false, false, false, false, false, false, false, false, false, false, false, false, false, false, false, false, false, false, false, false, false] rfl rfl (any_of HT_.out (by kernel_rfl)) (fun _ _ _ h => h) (Or.inl ⟨by rfl, ?_⟩) ?_ ?_
    rotate_left
    · intro w'
      go_simp
      with_reducible rfl
    rotate_left
    · simp only [Act.put, List.setIfInBounds_toArray, List.set_cons_zero, List.set_cons_succ, i64_w, i32_w]
      rfl
    refine pure_ (i := 3) (N := some 8) (v := undef) (a' := ?_) #[true, true, true, true, false, false, false, false, false, false, false, false, false, false, false, false, false, false, false, false, false, false, false, false, false, false] rfl rfl (any_of HT_.out (by kernel_rfl)) (fun _ _ _ h => h) (Or.inr ⟨by rfl, rfl⟩) ?_ ?_
    rotate_left
    · simp only [Act.put, List.setIfInBounds_toArray, List.set_cons_zero, List.set_cons_succ, i64_w, i32_w]
      rfl
    refine pure_ (i := 4) (N := some 9) (v := undef) (a' := ?_) #[true, true, true, true, true, false, false, false, false, false, false, false, false, false, false, false, false, false, false, false, false, false, false, false, false, false] rfl rfl (any_of HT_.out (by kernel_rfl)) (fun _ _ _ h => h) (Or.inr ⟨by rfl, rfl⟩) ?_ ?_
    rotate_left
    · simp only [Act.put, List.setIfInBounds_toArray, List.set_cons_zero, List.set_cons_succ, i64_w, i32_w]
      rfl
    refine pure_ (i := 5) (N := some 10) (v := ?_) (a' := ?_) #[true, true, true, true, true, true, false, false, false, false, false, false, false, false, false, false, false, false, false, false, false, false, false, false, false, false] rfl rfl (any_of HT_.out (by kernel_rfl)) (fun _ _ _ h => h) (Or.inl ⟨by rfl, ?_⟩) ?_ ?_
    rotate_left
    · intro w'
      go_simp
      with_reducible rfl
    rotate_left
    · simp only [Act.put, List.setIfInBounds_toArray, List.set_cons_zero, List.set_cons_succ, i64_w, i32_w]
      rfl
    refine pure_ (i := 6) (N := some 11) (v := ?_) (a' := ?_) #[true, true, true, true, true, true, true, false, false, false, false, false, false, false, false, false, false, false, false, false, false, false, false, false, false, false] rfl rfl (any_of HT_.out (by kernel_rfl)) (fun _ _ _ h => h) (Or.inl ⟨by rfl, ?_⟩) ?_ ?_
    rotate_left
    · intro w'
      go_simp
      with_reducible rfl
    rotate_left
    · simp only [Act.put, List.setIfInBounds_toArray, List.set_cons_zero, List.set_cons_succ, i64_w, i32_w]
      rfl
    refine pure_ (i := 7) (N := some 12) (v := undef) (a' := ?_) #[true, true, true, true, true, true, true, true, false, false, false, false, false, false, false, false, false, false, false, false, false, false, false, false, false, false] rfl rfl (any_of HT_.out (by kernel_rfl)) (fun _ _ _ h => h) (Or.inr ⟨by rfl, rfl⟩) ?_ ?_
    rotate_left
    · simp only [Act.put, List.setIfInBounds_toArray, List.set_cons_zero, List.set_cons_succ, i64_w, i32_w]
      rfl
    refine pure_ (i := 8) (N := some 13) (v := undef) (a' := ?_) #[true, true, true, true, true, true, true, true, true, false, false, false, false, false, false, false, false, false, false, false, false, false, false, false, false, false] rfl rfl (any_of HT_.out (by kernel_rfl)) (fun _ _ _ h => h) (Or.inr ⟨by rfl, rfl⟩) ?_ ?_
    rotate_left
    · simp only [Act.put, List.setIfInBounds_toArray, List.set_cons_zero, List.set_cons_succ, i64_w, i32_w]
      rfl
    refine pure_ (i := 9) (N := some 14) (v := undef) (a' := ?_) #[true, true, true, true, true, true, true, true, true, true, false, false, false, false, false, false, false, false, false, false, false, false, false, false, false, false] rfl rfl (any_of HT_.out (by kernel_rfl)) (fun _ _ _ h => h) (Or.inr ⟨by rfl, rfl⟩) ?_ ?_
    rotate_left
    · simp only [Act.put, List.setIfInBounds_toArray, List.set_cons_zero, List.set_cons_succ, i64_w, i32_w]
      rfl
    refine pure_ (i := 10) (N := some 15) (v := undef) (a' := ?_) #[true, true, true, true, true, true, true, true, true, true, true, false, false, false, false, false, false, false, false, false, false, false, false, false, false, false] rfl rfl (any_of HT_.out (by kernel_rfl)) (fun _ _ _ h => h) (Or.inr ⟨by rfl, rfl⟩) ?_ ?_
    rotate_left
    · simp only [Act.put, List.setIfInBounds_toArray, List.set_cons_zero, List.set_cons_succ, i64_w, i32_w]
      rfl
    refine pure_ (i := 11) (N := some 16) (v := undef) (a' := ?_) #[true, true, true, true, true, true, true, true, true, true, true, true, false, false, false, false, false, false, false, false, false, false, false, false, false, false] rfl rfl (any_of HT_.out (by kernel_rfl)) (fun _ _ _ h => h) (Or.inr ⟨by rfl, rfl⟩) ?_ ?_
    rotate_left
    · simp only [Act.put, List.setIfInBounds_toArray, List.set_cons_zero, List.set_cons_succ, i64_w, i32_w]
      rfl
    refine pure_ (i := 12) (N := some 17) (v := ?_) (a' := ?_) #[true, true, true, true, true, true, true, true, true, true, true, true, true, false, false, false, false, false, false, false, false, false, false, false, false, false] rfl rfl (any_of HT_.out (by kernel_rfl)) (fun _ _ _ h => h) (Or.inl ⟨by rfl, ?_⟩) ?_ ?_
    rotate_left
    · intro w'
      go_simp
      with_reducible rfl
    rotate_left
    · simp only [Act.put, List.setIfInBounds_toArray, List.set_cons_zero, List.set_cons_succ, i64_w, i32_w]
      rfl
    refine pure_ (i := 13) (N := some 18) (v := ?_) (a' := ?_) #[true, true, true, true, true, true, true, true, true, true, true, true, true, true, false, false, false, false, false, false, false, false, false, false, false, false] rfl rfl (any_of HT_.out (by kernel_rfl)) (fun _ _ _ h => h) (Or.inl ⟨by rfl, ?_⟩) ?_ ?_
    rotate_left
    · intro w'
      go_simp
      with_reducible rfl
    rotate_left
    · simp only [Act.put, List.setIfInBounds_toArray, List.set_cons_zero, List.set_cons_succ, i64_w, i32_w]
      rfl
    refine pure_ (i := 14) (N := some 19) (v := undef) (a' := ?_) #[true, true, true, true, true, true, true, true, true, true, true, true, true, true, true, false, false, false, false, false, false, false, false, false, false, false] rfl rfl (any_of HT_.out (by kernel_rfl)) (fun _ _ _ h => h) (Or.inr ⟨by rfl, rfl⟩) ?_ ?_
    rotate_left
    · simp only [Act.put, List.setIfInBounds_toArray, List.set_cons_zero, List.set_cons_succ, i64_w, i32_w]
      rfl
    refine pure_ (i := 15) (N := some 20) (v := undef) (a' := ?_) #[true, true, true, true, true, true, true, true, true, true, true, true, true, true, true, true, false, false, false, false, false, false, false, false, false, false] rfl rfl (any_of HT_.out (by kernel_rfl)) (fun _ _ _ h => h) (Or.inr ⟨by rfl, rfl⟩) ?_ ?_
    rotate_left
    · simp only [Act.put, List.setIfInBounds_toArray, List.set_cons_zero, List.set_cons_succ, i64_w, i32_w]
      rfl
    refine pure_ (i := 16) (N := some 21) (v := undef) (a' := ?_) #[true, true, true, true, true, true, true, true, true, true, true, true, true, true, true, true, true, false, false, false, false, false, false, false, false, false] rfl rfl (any_of HT_.out (by kernel_rfl)) (fun _ _ _ h => h) (Or.inr ⟨by rfl, rfl⟩) ?_ ?_
    rotate_left
    · simp only [Act.put, List.setIfInBounds_toArray, List.set_cons_zero, List.set_cons_succ, i64_w, i32_w]
      rfl
    refine pure_ (i := 17) (N := some 22) (v := undef) (a' := ?_) #[true, true, true, true, true, true, true, true, true, true, true, true, true, true, true, true, true, true, false, false, false, false, false, false, false, false] rfl rfl (any_of HT_.out (by kernel_rfl)) (fun _ _ _ h => h) (Or.inr ⟨by rfl, rfl⟩) ?_ ?_
    rotate_left
    · simp only [Act.put, List.setIfInBounds_toArray, List.set_cons_zero, List.set_cons_succ, i64_w, i32_w]
      rfl
    refine pure_ (i := 18) (N := some 23) (v := undef) (a' := ?_) #[true, true, true, true, true, true, true, true, true, true, true, true, true, true, true, true, true, true, true, false, false, false, false, false, false, false] rfl rfl (any_of HT_.out (by kernel_rfl)) (fun _ _ _ h => h) (Or.inr ⟨by rfl, rfl⟩) ?_ ?_
    rotate_left
    · simp only [Act.put, List.setIfInBounds_toArray, List.set_cons_zero, List.set_cons_succ, i64_w, i32_w]
      rfl
    refine pure_ (i := 19) (N := some 24) (v := undef) (a' := ?_) #[true, true, true, true, true, true, true, true, true, true, true, true, true, true, true, true, true, true, true, true, false, false, false, false, false, false] rfl rfl (any_of HT_.out (by kernel_rfl)) (fun _ _ _ h => h) (Or.inr ⟨by rfl, rfl⟩) ?_ ?_
    rotate_left
    · simp only [Act.put, List.setIfInBounds_toArray, List.set_cons_zero, List.set_cons_succ, i64_w, i32_w]
      rfl
    refine pure_ (i := 20) (N := some 25) (v := undef) (a' := ?_) #[true, true, true, true, true, true, true, true, true, true, true, true, true, true, true, true, true, true, true, true, true, false, false, false, false, false] rfl rfl (any_of HT_.out (by kernel_rfl)) (fun _ _ _ h => h) (Or.inr ⟨by rfl, rfl⟩) ?_ ?_
    rotate_left
    · simp only [Act.put, List.setIfInBounds_toArray, List.set_cons_zero, List.set_cons_succ, i64_w, i32_w]
      rfl
    refine pure_ (i := 21) (N := some 26) (v := undef) (a' := ?_) #[true, true, true, true, true, true, true, true, true, true, true, true, true, true, true, true, true, true, true, true, true, true, false, false, false, false] rfl rfl (any_of HT_.out (by kernel_rfl)) (fun _ _ _ h => h) (Or.inr ⟨by rfl, rfl⟩) ?_ ?_
    rotate_left
    · simp only [Act.put, List.setIfInBounds_toArray, List.set_cons_zero, List.set_cons_succ, i64_w, i32_w]
      rfl
    refine pure_ (i := 22) (N := some 27) (v := undef) (a' := ?_) #[true, true, true, true, true, true, true, true, true, true, true, true, true, true, true, true, true, true, true, true, true, true, true, false, false, false] rfl rfl (any_of HT_.out (by kernel_rfl)) (fun _ _ _ h => h) (Or.inr ⟨by rfl, rfl⟩) ?_ ?_
    rotate_left
    · simp only [Act.put, List.setIfInBounds_toArray, List.set_cons_zero, List.set_cons_succ, i64_w, i32_w]
      rfl
    refine pure_ (i := 23) (N := some 28) (v := undef) (a' := ?_) #[true, true, true, true, true, true, true, true, true, true, true, true, true, true, true, true, true, true, true, true, true, true, true, true, false, false] rfl rfl (any_of HT_.out (by kernel_rfl)) (fun _ _ _ h => h) (Or.inr ⟨by rfl, rfl⟩) ?_ ?_
    rotate_left
    · simp only [Act.put, List.setIfInBounds_toArray, List.set_cons_zero, List.set_cons_succ, i64_w, i32_w]
      rfl
    refine pure_ (i := 24) (N := some 29) (v := ?_) (a' := ?_) #[true, true, true, true, true, true, true, true, true, true, true, true, true, true, true, true, true, true, true, true, true, true, true, true, true, false] rfl rfl (any_of HT_.out (by kernel_rfl)) (fun _ _ _ h => h) (Or.inl ⟨by rfl, ?_⟩) ?_ ?_
    rotate_left
    · intro w'
      go_simp
      with_reducible rfl
    rotate_left
    · simp only [Act.put, List.setIfInBounds_toArray, List.set_cons_zero, List.set_cons_succ, i64_w, i32_w]
      rfl
    refine pure_ (i := 25) (N := some 4) (v := ?_) (a' := ?_) #[true, true, true, true, true, true, true, true, true, true, true, true, true, true, true, true, true, true, true, true, true, true, true, true, true, true] rfl rfl (any_of HT_.out (by kernel_rfl)) (fun _ _ _ h => h) (Or.inl ⟨by rfl, ?_⟩) ?_ ?_
    rotate_left
    · intro w'
      go_simp
      with_reducible rfl
    rotate_left
    · simp only [Act.put, List.setIfInBounds_toArray, List.set_cons_zero, List.set_cons_succ, i64_w, i32_w]
      rfl
    refine done_ (done_of HT_.out (by kernel_rfl)) ?_
    try go_wp2
    go_ret
    exact ⟨by first | rfl | (simp [errW_none, errW_some] <;> rfl) | (simp [*, errW_none, errW_some] <;> rfl), by repeat (first | (with_reducible first | exact HB.out | apply bA | apply bN | apply bD | refine below_set ?_ GE197.out) | exact HB.out)⟩

end Go.Proofs.Ytpmjpngmmphkmaa.P
/- What Reach and Cyclic of the reference answer: what can be reached by edges. -/
namespace Go.Proofs.Ytpmjpngmmphkmaa
open Go.RowKit Go.Proofs.YtpmjpngmmphkmaaW.PrintWords Go.Proofs.YtpmjpngmmphkmaaW.PrintLast Go.Proofs.YtpmjpngmmphkmaaW.PrintMore Go.Proofs.Ytpmjpngmmphkmaa.P
namespace Tp
open Tj Rw Od
open Classical
set_option linter.unusedVariables false

theorem rf_loop {l : List (List Int)} (hv : Vld l) (hsm : Sm l) {starts : List Int} (hst : ∀ s ∈ starts, nd l s) : ∀ (M : Nat) (seen : List Bool) (todo : List Int), seen.count false * 2001 + todo.length ≤ M → M ≤ 1000000 → seen.length = l.length → (∀ v ∈ todo, nd l v) →
    (∀ v, nd l v → rdOf false seen v = true → ∃ s ∈ starts, Rc l s v) → (∀ v ∈ todo, ∃ s ∈ starts, Rc l s v) → (∀ v, nd l v → rdOf false seen v = true → ∀ w ∈ row l v, rdOf false seen w = true ∨ w ∈ todo) → (∀ s ∈ starts, rdOf false seen s = true ∨ s ∈ todo) →
    Ev (fun k => lazycref09_from.l0 k seen todo l) (rch l starts) := by
  have done : ∀ (seen : List Bool), seen.length = l.length → (∀ v, nd l v → rdOf false seen v = true → ∃ s ∈ starts, Rc l s v) → (∀ v, nd l v → rdOf false seen v = true → ∀ w ∈ row l v, rdOf false seen w = true ∨ w ∈ ([] : List Int)) → (∀ s ∈ starts, rdOf false seen s = true ∨ s ∈ ([] : List Int)) →
      Ev (fun k => lazycref09_from.l0 k seen ([] : List Int) l) (rch l starts) := by
    intro seen h1 h2 h3 h4
    have he := rch_eq hv hst h1 h2 (fun v a b w c => by simpa using h3 v a b w c) (fun s a => by simpa using h4 s a)
    refine Ev.step (fun k => ?_) (Ev.now _)
    simp only [lazycref09_from.l0]
    rw [if_neg (by simp)]
    rw [← he]
  intro M
  induction M with
  | zero =>
    intro seen todo hM hM2 hlen htd h1 h2 h3 h4
    obtain rfl : todo = [] := List.eq_nil_of_length_eq_zero (by omega)
    exact done seen hlen h1 h3 h4
  | succ M ih =>
    intro seen todo hM hM2 hlen htd h1 h2 h3 h4
    by_cases h0 : 0 < todo.length
    case neg =>
      obtain rfl : todo = [] := List.eq_nil_of_length_eq_zero (by omega)
      exact done seen hlen h1 h3 h4
    obtain ⟨hvm, htt⟩ := last_take todo h0
    have hw : wrap64 ((todo.length : Int) - 1) = (todo.length : Int) - 1 := w64 _ (by omega) (by omega)
    have htn : ((todo.length : Int) - 1).toNat = todo.length - 1 := by omega
    have hnv := htd _ hvm
    have hrv := h2 _ hvm
    generalize hvd : rd todo ((todo.length : Int) - 1) = v at *
    have hyl : (todo.take (todo.length - 1)).length = todo.length - 1 := by simp
    have hym : ∀ x, x ∈ todo ↔ x ∈ todo.take (todo.length - 1) ∨ x = v := fun x => by
      constructor
      · intro h
        rw [htt] at h
        rcases List.mem_append.1 h with e | e
        · exact .inl e
        · exact .inr (List.mem_singleton.1 e)
      · rintro (h | h)
        · exact List.mem_of_mem_take h
        · rw [h]; exact hvm
    generalize htk : todo.take (todo.length - 1) = y at *
    by_cases hsv : rdOf false seen v = true
    · refine Ev.step (fun k => ?_) (ih seen y (by omega) (by omega) hlen (fun x hx => htd x ((hym x).2 (.inl hx))) h1 (fun x hx => h2 x ((hym x).2 (.inl hx))) (fun x a b w c => ?_) (fun s a => ?_))
      · simp only [lazycref09_from.l0]
        rw [if_pos (by omega), hw, htn, htk, hvd]
        simp only [Option.bind_some]
        rw [if_pos (show 0 ≤ (todo.length : Int) - 1 by omega), if_pos (show (todo.length : Int) - 1 < todo.length by omega), if_pos (show (todo.length : Int) - 1 ≤ todo.length by omega), if_pos hnv.1, if_pos (show v < (seen.length : Int) by have := hnv.2; omega), if_pos hsv]
      · rcases h3 x a b w c with e | e
        · exact .inl e
        · rcases (hym w).1 e with e | e
          · exact .inr e
          · rw [e]; exact .inl hsv
      · rcases h4 s a with e | e
        · exact .inl e
        · rcases (hym s).1 e with e | e
          · exact .inr e
          · rw [e]; exact .inl hsv
    · have hsf : rdOf false seen v = false := by simpa using hsv
      have hct := count_setB seen v hnv.1 (by have := hnv.2; omega) hsf
      have hrl := hsm.row v
      have hset : ∀ u, 0 ≤ u → rdOf false (seen.set v.toNat true) u = if u = v then true else rdOf false seen u := fun u hu => rdOf_set seen v u hnv.1 (by have := hnv.2; omega) hu
      refine Ev.step (fun k => ?_) (ih (seen.set v.toNat true) (y ++ row l v) (by rw [List.length_append]; exact meas hct hM (by omega) hrl) (by omega) (by rw [List.length_set]; exact hlen) (fun x hx => ?_) (fun x a b => ?_) (fun x hx => ?_) (fun x a b w c => ?_) (fun s a => ?_))
      · simp only [lazycref09_from.l0]
        rw [if_pos (by omega), hw, htn, htk, hvd]
        simp only [Option.bind_some]
        rw [L1_row]
        rw [if_pos (show 0 ≤ (todo.length : Int) - 1 by omega), if_pos (show (todo.length : Int) - 1 < todo.length by omega), if_pos (show (todo.length : Int) - 1 ≤ todo.length by omega), if_pos hnv.1, if_pos (show v < (seen.length : Int) by have := hnv.2; omega), if_neg hsv, if_pos (show v < (l.length : Int) from hnv.2), if_pos (by omega)]
      · rcases List.mem_append.1 hx with e | e
        · exact htd x ((hym x).2 (.inl e))
        · exact hv v hnv x e
      · rw [hset x a.1] at b
        by_cases e : x = v
        · rw [e]; exact hrv
        · rw [if_neg e] at b; exact h1 x a b
      · rcases List.mem_append.1 hx with e | e
        · exact h2 x ((hym x).2 (.inl e))
        · obtain ⟨s, s1, s2⟩ := hrv
          exact ⟨s, s1, s2.tail e⟩
      · have hwn := hv x a w c
        rw [hset x a.1] at b
        rw [hset w hwn.1]
        by_cases e : x = v
        · subst e
          exact .inr (List.mem_append.2 (.inr c))
        · rw [if_neg e] at b
          by_cases e2 : w = v
          · rw [if_pos e2]; exact .inl rfl
          · rw [if_neg e2]
            rcases h3 x a b w c with e3 | e3
            · exact .inl e3
            · rcases (hym w).1 e3 with e4 | e4
              · exact .inr (List.mem_append.2 (.inl e4))
              · exact absurd e4 e2
      · rw [hset s (hst s a).1]
        by_cases e2 : s = v
        · rw [if_pos e2]; exact .inl rfl
        · rw [if_neg e2]
          rcases h4 s a with e3 | e3
          · exact .inl e3
          · rcases (hym s).1 e3 with e4 | e4
            · exact .inr (List.mem_append.2 (.inl e4))
            · exact absurd e4 e2
theorem rf_start {l : List (List Int)} (hv : Vld l) (hsm : Sm l) {starts : List Int} (hst : ∀ s ∈ starts, nd l s) (hsl : starts.length ≤ 2000) : Ev (fun k => lazycref09_from.l0 k (List.replicate l.length false) starts l) (rch l starts) := by
  have h60 := hsm.1
  have hr : ∀ v, nd l v → rdOf false (List.replicate l.length false) v = false := by
    intro v h
    obtain ⟨i, rfl⟩ := Int.eq_ofNat_of_zero_le h.1
    rw [rdOf_at _ i (by simp; have := h.2; omega)]
    simp
  refine rf_loop hv hsm hst 122060 _ _ ?_ (by omega) (by simp) hst (fun v a b => by rw [hr v a] at b; cases b) (fun v a => ⟨v, a, .refl v⟩) (fun v a b => by rw [hr v a] at b; cases b) (fun s a => .inr a)
  simp only [List.count_replicate_self]
  omega

theorem rf_ev {l : List (List Int)} (hv : Vld l) (hsm : Sm l) {starts : List Int} (hst : ∀ s ∈ starts, nd l s) (hsl : starts.length ≤ 2000) : Ev (fun k => lazycref09_from.f k l starts) (rch l starts) := by
  have h60 := hsm.1
  refine Ev.congr (fun k => ?_) (rf_start hv hsm hst hsl)
  unfold lazycref09_from.f
  rw [if_pos (by omega), if_pos (by omega), Option.bind_some, if_pos (by simp; omega), Int.toNat_natCast]
  rfl

theorem mk_ev (seen : List Bool) (hl : seen.length < 1000000) : Ev (fun k => lazycref09_marked.f k seen) ((iota seen.length).filter (rdOf false seen)) := by
  have key : ∀ (m i : Nat), i + m = seen.length → Ev (fun k => lazycref09_marked.l0 k seen ((iota i).filter (rdOf false seen)) i) ((iota seen.length).filter (rdOf false seen)) := by
    intro m
    induction m with
    | zero =>
      intro i hi
      obtain rfl : i = seen.length := by omega
      refine Ev.step (fun k => ?_) (Ev.now _)
      simp only [lazycref09_marked.l0]
      rw [if_neg (by omega)]
    | succ m ih =>
      intro i hi
      have h := ih (i + 1) (by omega)
      have hlen := filt_len (rdOf false seen) i
      rw [filt_snoc] at h
      refine Ev.step (fun k => ?_) h
      simp only [lazycref09_marked.l0]
      rw [if_pos (by omega), if_pos (by omega), succ_cast i (by omega)]
      by_cases hp : rdOf false seen i = true
      · rw [if_pos hp, if_pos hp, if_pos (by omega)]
      · rw [if_neg hp, if_neg hp, List.append_nil]
  exact key seen.length 0 (by omega)
theorem refreach_ev {l : List (List Int)} (hsm : Sm l) (i : Int) : Ev (fun k => lazycref09_Reach.f k l i) (reachM l i) := by
  have h60 := hsm.1
  have hb := rv_ev l hsm
  have hnil : Ev (fun k => lazycref09_Reach.j0 k i true l) [] := Ev.step (fun k => by simp only [lazycref09_Reach.j0]; rw [if_pos trivial]) (Ev.now _)
  by_cases hv : Vld l
  · rw [(vldB_iff l).2 hv] at hb
    by_cases hi : nd l i
    · have hm : reachM l i = rchL l [i] := by unfold reachM; rw [if_pos ⟨hv, hi⟩]
      rw [hm]
      have h1 := rf_ev hv hsm (starts := [i]) (fun s hs => by rw [List.mem_singleton.1 hs]; exact hi) (by simp)
      have h2 := mk_ev (rch l [i]) (by rw [rch_len]; omega)
      rw [rchL_eq] at h2
      have h3 : Ev (fun k => lazycref09_Reach.j0 k i false l) (rchL l [i]) := Ev.step (fun k => by simp only [lazycref09_Reach.j0]; rw [if_neg (by simp)]) (Ev.bind h1 (f := fun k t => (lazycref09_marked.f k t).bind fun t194 => some t194) (Ev.bind h2 (f := fun k t => some t) (Ev.now _)))
      refine Ev.congr (fun k => ?_) (Ev.bind hb (f := fun k t => if t = true then lazycref09_Reach.j0 k i false l else lazycref09_Reach.j0 k i true l) h3)
      unfold lazycref09_Reach.f
      have h4 : decide (i ≥ (l.length : Int)) = false := decide_eq_false (by have := hi.2; omega)
      rw [h4, if_neg (show ¬ i < 0 by have := hi.1; omega)]
    · have hm : reachM l i = [] := by unfold reachM; rw [if_neg (fun h => hi h.2)]
      rw [hm]
      refine Ev.congr (fun k => ?_) (Ev.bind hb (f := fun k t => lazycref09_Reach.j0 k i true l) hnil)
      unfold lazycref09_Reach.f
      congr 1
      funext t
      by_cases h0 : i < 0
      · rw [if_pos h0]; split <;> rfl
      · have h4 : decide (i ≥ (l.length : Int)) = true := decide_eq_true (by unfold nd at hi; omega)
        rw [if_neg h0, h4]; split <;> rfl
  · have hf : vldB l = false := Bool.eq_false_iff.2 fun e => hv ((vldB_iff l).1 e)
    rw [hf] at hb
    have hm : reachM l i = [] := by unfold reachM; rw [if_neg (fun h => hv h.1)]
    rw [hm]
    refine Ev.congr (fun k => ?_) (Ev.bind hb (f := fun k t => if t = true then (if i < 0 then lazycref09_Reach.j0 k i true l else lazycref09_Reach.j0 k i (decide (i ≥ (l.length : Int))) l) else lazycref09_Reach.j0 k i true l) hnil)
    unfold lazycref09_Reach.f
    rfl

theorem refcyc_ev {l : List (List Int)} (hsm : Sm l) (i : Int) : Ev (fun k => lazycref09_Cyclic.f k l i) (cycM l i) := by
  have hb := rv_ev l hsm
  by_cases hv : Vld l
  · rw [(vldB_iff l).2 hv] at hb
    by_cases hi : nd l i
    · have hm : cycM l i = rdOf false (rch l (row l i)) i := by
        rw [rch_at l _ i hi]
        unfold cycM
        simp only [hv, hi, true_and]
      rw [hm]
      have h1 := rf_ev hv hsm (starts := row l i) (fun s hs => hv i hi s hs) (hsm.row i)
      refine Ev.congr (fun k => ?_) (Ev.bind hb (f := fun k t => if t = true then (lazycref09_from.f k l (row l i)).bind fun t => if i < (t.length : Int) then some (rdOf false t i) else none else some false) ?_)
      · unfold lazycref09_Cyclic.f
        rw [if_pos (show i ≥ 0 from hi.1), if_pos (show i < (l.length : Int) from hi.2), if_pos hi.1]
        rfl
      · exact Ev.bind h1 (f := fun k t => if i < (t.length : Int) then some (rdOf false t i) else none) (Ev.congr (fun k => by rw [rch_len, if_pos (show i < (l.length : Int) from hi.2)]) (Ev.now _))
    · have hm : cycM l i = false := decide_eq_false fun h => hi h.2.1
      rw [hm]
      refine Ev.congr (fun k => ?_) (Ev.bind hb (f := fun k t => some false) (Ev.now _))
      unfold lazycref09_Cyclic.f
      congr 1
      funext t
      by_cases h0 : i ≥ 0
      · rw [if_pos h0, if_neg (show ¬ i < (l.length : Int) by unfold nd at hi; omega)]; split <;> rfl
      · rw [if_neg h0]; split <;> rfl
  · have hf : vldB l = false := Bool.eq_false_iff.2 fun e => hv ((vldB_iff l).1 e)
    rw [hf] at hb
    have hm : cycM l i = false := decide_eq_false fun h => hv h.1
    rw [hm]
    obtain ⟨K, hK⟩ := hb
    refine ⟨K, fun k hk => ?_⟩
    show lazycref09_Cyclic.f k l i = _
    have e : lazycref09_Valid.f k l = some false := hK k hk
    unfold lazycref09_Cyclic.f
    rw [e]
    rfl
end Tp
end Go.Proofs.Ytpmjpngmmphkmaa
/- What has of the reference answers, for every list with less than 1000000 numbers. -/
namespace Go.Proofs.Ytpmjpngmmphkmaa
open Go.RowKit Go.Proofs.YtpmjpngmmphkmaaW.PrintWords Go.Proofs.YtpmjpngmmphkmaaW.PrintLast Go.Proofs.YtpmjpngmmphkmaaW.PrintMore Go.Proofs.Ytpmjpngmmphkmaa.P
namespace Tp
open Tj Rw Od
set_option linter.unusedVariables false

theorem rh_ev (l : List Int) (x : Int) (hl : l.length < 1000000) : Ev (fun k => lazycref09_has.f k l x) (l.contains x) := by
  have key : ∀ (m j : Nat), j + m = l.length → Ev (fun k => lazycref09_has.l0 k l x j) ((l.drop j).contains x) := by
    intro m
    induction m with
    | zero =>
      intro j hj
      rw [List.drop_eq_nil_of_le (by omega)]
      refine Ev.step (fun k => ?_) (Ev.now _)
      simp only [lazycref09_has.l0]
      rw [if_neg (by omega)]
      rfl
    | succ m ih =>
      intro j hj
      have hjl : j < l.length := by omega
      rw [drop_row l j hjl, List.contains_cons]
      by_cases h : rd l j = x
      · rw [show (x == rd l j) = true by simp [h], Bool.true_or]
        refine Ev.step (fun k => ?_) (Ev.now _)
        simp only [lazycref09_has.l0]
        rw [if_pos (by omega), if_pos (by omega), if_pos h]
      · rw [show (x == rd l j) = false by simpa using fun e => h e.symm, Bool.false_or]
        refine Ev.step (fun k => ?_) (ih (j + 1) (by omega))
        simp only [lazycref09_has.l0]
        rw [if_pos (by omega), if_pos (by omega), if_neg h, succ_cast j (by omega)]
  exact key l.length 0 (by omega)

end Tp
end Go.Proofs.Ytpmjpngmmphkmaa
/- Components of the reference answers the same list as graph.Components: for every graph of the size that the statements speak of. -/
namespace Go.Proofs.Ytpmjpngmmphkmaa
open Go.RowKit Go.Proofs.YtpmjpngmmphkmaaW.PrintWords Go.Proofs.YtpmjpngmmphkmaaW.PrintLast Go.Proofs.YtpmjpngmmphkmaaW.PrintMore Go.Proofs.Ytpmjpngmmphkmaa.P
namespace Tp
open Tj Rw Od
open Classical
set_option linter.unusedVariables false

theorem kahn_len {l o : List (List Int)} (hv : Vld l) (h : Kahn l o) : o.length ≤ l.length := by
  have P := kahn_parts hv h
  have hsub : ∀ x ∈ o.flatten, x ∈ iota l.length := by
    intro x hx
    obtain ⟨c, hc, hxc⟩ := List.mem_flatten.1 hx
    obtain ⟨m, _, rfl⟩ := P.scc c hc
    exact mem_iota.2 (mem_scc.1 hxc).1
  have h1 := nodup_sub _ _ P.one hsub
  rw [iota_length] at h1
  have key : ∀ (q : List (List Int)), (∀ c ∈ q, 0 < c.length) → q.length ≤ q.flatten.length := by
    intro q
    induction q with
    | nil => intro _; simp
    | cons a q ih =>
      intro hq
      have := hq a (by simp)
      have := ih (fun c hc => hq c (by simp [hc]))
      rw [List.flatten_cons, List.length_append, List.length_cons]
      omega
  have := key o (fun c hc => by
    obtain ⟨m, m1, rfl⟩ := P.scc c hc
    exact List.length_pos_of_mem (mem_scc.2 ⟨m1, .refl m, .refl m⟩))
  omega
theorem scc_len (l : List (List Int)) (i : Int) : (scc l i).length ≤ l.length := by
  unfold scc
  exact Nat.le_trans (List.length_filter_le _ _) (by rw [iota_length]; exact Nat.le_refl _)

/-- A node that is not there, and all that it can reach is there or its own. -/
theorem kahn_ready {l o : List (List Int)} (hs : Sm l) (hv : Vld l) {v : Int} (hn : nd l v) (hvo : v ∉ o.flatten) : ∃ m, nd l m ∧ m ∉ o.flatten ∧ Ready l o m := by
  have h60 := hs.1
  obtain ⟨cm, n, _, S⟩ := strong_sol hv hs.row (by omega) _ (Nat.le_refl _)
  have key : ∀ (c : Nat) (v : Int), nd l v → v ∉ o.flatten → rd cm v = c → ∃ m, nd l m ∧ m ∉ o.flatten ∧ Ready l o m := by
    intro c
    induction c using Nat.strongRecOn with
    | ind c ih =>
      intro v hn hvo hc
      by_cases h : Ready l o v
      · exact ⟨v, hn, hvo, h⟩
      · obtain ⟨x, hx⟩ := Classical.not_forall.1 h
        obtain ⟨h1, h2⟩ := Classical.not_imp.1 hx
        have hxo : x ∉ o.flatten := fun e => h2 (.inl e)
        have hxr : ¬ Rc l x v := fun e => h2 (.inr e)
        have hxn := rc_nd hv h1 hn
        have hle := rc_le S hv h1 hn
        have hne : rd cm x ≠ rd cm v := fun e => hxr (S.same x v hxn hn e)
        have h0 := (S.rng x hxn).1
        exact ih (rd cm x).toNat (by omega) x hxn hxo (by omega)
  have h0 := (S.rng v hn).1
  exact key (rd cm v).toNat v hn hvo (by omega)

theorem comp_ev {l : List (List Int)} (hs : Sm l) (hv : Vld l) {i : Int} (hi : nd l i) : Ev (fun k => lazycref09_component.f k l i) (scc l i) := by
  have h60 := hs.1
  have hl := rchL_len l [i]
  have e1 := refreach_ev hs i
  rw [reachM_eq' hv hi] at e1
  have key : ∀ (m q : Nat), q + m = (rchL l [i]).length → Ev (fun k => lazycref09_component.l0 k i (((rchL l [i]).take q).filter fun x => decide (Rc l x i)) (rchL l [i]) q l) ((rchL l [i]).filter fun x => decide (Rc l x i)) := by
    intro m
    induction m with
    | zero =>
      intro q hq
      rw [List.take_of_length_le (by omega)]
      refine Ev.step (fun k => ?_) (Ev.now _)
      simp only [lazycref09_component.l0]
      rw [if_neg (show ¬ (q : Int) < ((rchL l [i]).length : Int) by omega)]
    | succ m ih =>
      intro q hq
      have hql : q < (rchL l [i]).length := by omega
      have hxm : rd (rchL l [i]) q ∈ rchL l [i] := by rw [rd_at _ q hql]; exact List.getElem_mem _
      have hxn := (mem_rchL.1 hxm).1
      have htk : (rchL l [i]).take (q + 1) = (rchL l [i]).take q ++ [rd (rchL l [i]) q] := by rw [rd_at _ q hql]; exact List.take_succ_eq_append_getElem hql
      have h2 := ih (q + 1) (by omega)
      rw [htk, List.filter_append] at h2
      have hfl : (((rchL l [i]).take q).filter fun x => decide (Rc l x i)).length ≤ q := Nat.le_trans (List.length_filter_le _ _) (by simp; omega)
      generalize hxd : rd (rchL l [i]) q = x at *
      have e2 := refreach_ev hs x
      rw [reachM_eq' hv hxn] at e2
      have hlx := rchL_len l [x]
      have e3 := rh_ev (rchL l [x]) i (by omega)
      rw [contains_rchL' hxn i hi] at e3
      refine Ev.step (fun k => ?_) (Ev.bind e2 (f := fun k t226 => (lazycref09_has.f k t226 i).bind fun t229 => if t229 = true then lazycref09_component.l0 k i ((((rchL l [i]).take q).filter fun x => decide (Rc l x i)) ++ [x]) (rchL l [i]) ((q + 1 : Nat) : Int) l else lazycref09_component.l0 k i (((rchL l [i]).take q).filter fun x => decide (Rc l x i)) (rchL l [i]) ((q + 1 : Nat) : Int) l)
        (Ev.bind e3 (f := fun k t229 => if t229 = true then lazycref09_component.l0 k i ((((rchL l [i]).take q).filter fun x => decide (Rc l x i)) ++ [x]) (rchL l [i]) ((q + 1 : Nat) : Int) l else lazycref09_component.l0 k i (((rchL l [i]).take q).filter fun x => decide (Rc l x i)) (rchL l [i]) ((q + 1 : Nat) : Int) l) (Ev.congr (fun k => ?_) h2)))
      · simp only [lazycref09_component.l0]
        rw [if_pos (show (q : Int) < ((rchL l [i]).length : Int) by omega), if_pos (show (0 : Int) ≤ q by omega), succ_cast q (by omega), hxd, if_pos (show (((rchL l [i]).take q).filter fun x => decide (Rc l x i)).length < 17592186044416 by omega)]
      · by_cases hr : Rc l x i
        · rw [decide_eq_true hr, if_pos rfl]
          simp [hr]
        · rw [decide_eq_false hr, if_neg (by simp)]
          simp [hr]
  have h2 := key (rchL l [i]).length 0 (by omega)
  have he : ((rchL l [i]).filter fun x => decide (Rc l x i)) = scc l i := by
    unfold rchL scc
    rw [List.filter_filter]
    refine List.filter_congr fun x _ => ?_
    rw [Bool.eq_iff_iff]
    simp
    exact And.comm
  rw [he] at h2
  refine Ev.congr (fun k => ?_) (Ev.bind e1 (f := fun k t => lazycref09_component.l0 k i [] t 0 l) h2)
  rfl

theorem ready_ev {l o : List (List Int)} (hs : Sm l) (hv : Vld l) {i : Int} (hi : nd l i) {done : List Bool} (hd : done.length = l.length) (hdo : ∀ v, nd l v → (rdOf false done v = true ↔ v ∈ o.flatten)) :
    Ev (fun k => lazycref09_ready.f k l (scc l i) done) (decide (Ready l o i)) := by
  have h60 := hs.1
  have hlen := scc_len l i
  have him : i ∈ scc l i := mem_scc.2 ⟨hi, .refl i, .refl i⟩
  have hpos := List.length_pos_of_mem him
  have hcm : rd (scc l i) 0 ∈ scc l i := rd_mem _ _ (Int.le_refl _) (by omega)
  obtain ⟨c1, c2, c3⟩ := mem_scc.1 hcm
  generalize hcd : rd (scc l i) 0 = c at *
  have e1 := refreach_ev hs c
  rw [reachM_eq' hv c1] at e1
  have hl := rchL_len l [c]
  have hR : Ready l o i ↔ ∀ x ∈ rchL l [c], x ∈ o.flatten ∨ x ∈ scc l i := by
    constructor
    · intro h x hx
      obtain ⟨x1, s, s1, s2⟩ := mem_rchL.1 hx
      rw [List.mem_singleton] at s1
      subst s1
      rcases h x (c2.trans s2) with e | e
      · exact .inl e
      · exact .inr (mem_scc.2 ⟨x1, c2.trans s2, e⟩)
    · intro h x hx
      have hxn := rc_nd hv hx hi
      rcases h x (mem_rchL.2 ⟨hxn, c, by simp, c3.trans hx⟩) with e | e
      · exact .inl e
      · exact .inr (mem_scc.1 e).2.2
  have key : ∀ (m q : Nat), q + m = (rchL l [c]).length → Ev (fun k => lazycref09_ready.l0 k (scc l i) done (rchL l [c]) q) (decide (∀ x ∈ (rchL l [c]).drop q, x ∈ o.flatten ∨ x ∈ scc l i)) := by
    intro m
    induction m with
    | zero =>
      intro q hq
      rw [List.drop_eq_nil_of_le (by omega), decide_eq_true (by simp)]
      refine Ev.step (fun k => ?_) (Ev.now _)
      simp only [lazycref09_ready.l0]
      rw [if_neg (show ¬ (q : Int) < ((rchL l [c]).length : Int) by omega)]
    | succ m ih =>
      intro q hq
      have hql : q < (rchL l [c]).length := by omega
      have hxm : rd (rchL l [c]) q ∈ rchL l [c] := by rw [rd_at _ q hql]; exact List.getElem_mem _
      have hxn := (mem_rchL.1 hxm).1
      have h2 := ih (q + 1) (by omega)
      rw [drop_row _ q hql]
      generalize hxd : rd (rchL l [c]) q = x at *
      have e3 := rh_ev (scc l i) x (by omega)
      have p1 : (q : Int) < ((rchL l [c]).length : Int) := by omega
      have p2 : (0 : Int) ≤ q := by omega
      have p3 : x < (done.length : Int) := by have := hxn.2; omega
      have p4 := succ_cast q (by omega)
      by_cases hdx : rdOf false done x = true
      · have he : (∀ y ∈ x :: (rchL l [c]).drop (q + 1), y ∈ o.flatten ∨ y ∈ scc l i) ↔ (∀ y ∈ (rchL l [c]).drop (q + 1), y ∈ o.flatten ∨ y ∈ scc l i) := by
          simp only [List.mem_cons, forall_eq_or_imp]
          exact ⟨fun h => h.2, fun h => ⟨.inl ((hdo x hxn).1 hdx), h⟩⟩
        rw [decide_eq_decide.2 he]
        refine Ev.step (fun k => ?_) h2
        simp only [lazycref09_ready.l0]
        rw [if_pos p1, if_pos p2, hxd, if_pos hxn.1, if_pos p3, if_pos hdx, p4]
      · have hxo : x ∉ o.flatten := fun e => hdx ((hdo x hxn).2 e)
        by_cases hxs : x ∈ scc l i
        · have he : (∀ y ∈ x :: (rchL l [c]).drop (q + 1), y ∈ o.flatten ∨ y ∈ scc l i) ↔ (∀ y ∈ (rchL l [c]).drop (q + 1), y ∈ o.flatten ∨ y ∈ scc l i) := by
            simp only [List.mem_cons, forall_eq_or_imp]
            exact ⟨fun h => h.2, fun h => ⟨.inr hxs, h⟩⟩
          rw [decide_eq_decide.2 he]
          rw [List.contains_iff_mem.2 hxs] at e3
          refine Ev.step (fun k => ?_) (Ev.bind e3 (f := fun k t242 => if t242 = true then lazycref09_ready.l0 k (scc l i) done (rchL l [c]) ((q + 1 : Nat) : Int) else some false) h2)
          simp only [lazycref09_ready.l0]
          rw [if_pos p1, if_pos p2, hxd, if_pos hxn.1, if_pos p3, if_neg hdx, p4]
        · rw [decide_eq_false (fun h => (h x (by simp)).elim hxo hxs)]
          rw [show (scc l i).contains x = false from Bool.eq_false_iff.2 fun e => hxs (List.contains_iff_mem.1 e)] at e3
          refine Ev.step (fun k => ?_) (Ev.bind e3 (f := fun k t242 => if t242 = true then lazycref09_ready.l0 k (scc l i) done (rchL l [c]) ((q + 1 : Nat) : Int) else some false) (Ev.now _))
          simp only [lazycref09_ready.l0]
          rw [if_pos p1, if_pos p2, hxd, if_pos hxn.1, if_pos p3, if_neg hdx, p4]
  have h2 := key (rchL l [c]).length 0 (by omega)
  rw [List.drop_zero, ← decide_eq_decide.2 hR] at h2
  refine Ev.congr (fun k => ?_) (Ev.bind e1 (f := fun k t => lazycref09_ready.l0 k (scc l i) done t 0) h2)
  unfold lazycref09_ready.f
  rw [if_pos (by omega), hcd]

theorem mark_ev {l : List (List Int)} (o : List (List Int)) (c : List Int) (r : List (List Int)) (hcn : ∀ x ∈ c, nd l x) (hcl : c.length < 1000000) :
    ∀ (m q : Nat) (done : List Bool), q + m = c.length → done.length = l.length →
      (∀ d2 : List Bool, d2.length = l.length → (∀ v, nd l v → (rdOf false d2 v = true ↔ rdOf false done v = true ∨ v ∈ c.drop q)) → Ev (fun k => lazycref09_Components.l0 k o d2 0 l) r) →
      Ev (fun k => lazycref09_Components.l1 k o done c q l) r := by
  intro m
  induction m with
  | zero =>
    intro q done hq hd h
    have h2 := h done hd (fun v _ => by rw [List.drop_eq_nil_of_le (by omega)]; simp)
    refine Ev.step (fun k => ?_) h2
    simp only [lazycref09_Components.l1]
    rw [if_neg (show ¬ (q : Int) < (c.length : Int) by omega)]
    rfl
  | succ m ih =>
    intro q done hq hd h
    have hql : q < c.length := by omega
    have hx := hcn (rd c q) (by rw [rd_at _ q hql]; exact List.getElem_mem _)
    have h2 := ih (q + 1) (done.set (rd c q).toNat true) (by omega) (by rw [List.length_set]; exact hd) (fun d2 hd2 h3 => h d2 hd2 (fun v hv => by
      rw [h3 v hv, rdOf_set _ _ _ hx.1 (by rw [hd]; exact hx.2) hv.1, drop_row c q hql, List.mem_cons]
      by_cases e : v = rd c q
      · simp [e]
      · simp [e]))
    refine Ev.step (fun k => ?_) h2
    simp only [lazycref09_Components.l1]
    rw [if_pos (show (q : Int) < (c.length : Int) by omega), if_pos (show (0 : Int) ≤ q by omega), if_pos hx.1, if_pos (show rd c q < (done.length : Int) by rw [hd]; exact hx.2), succ_cast q (by omega)]

theorem refcomps_loop {l r : List (List Int)} (hs : Sm l) (hv : Vld l) (hr : Full l r) : ∀ (M : Nat) (o : List (List Int)), o.length + M = l.length → Kahn l o → ∀ (m i : Nat) (done : List Bool), i + m = l.length → done.length = l.length →
    (∀ v, nd l v → (rdOf false done v = true ↔ v ∈ o.flatten)) → (∀ x, nd l x → x < i → x ∈ o.flatten ∨ ¬ Ready l o x) → Ev (fun k => lazycref09_Components.l0 k o done i l) r := by
  have h60 := hs.1
  intro M
  induction M with
  | zero =>
    intro o hM ho m
    induction m with
    | zero =>
      intro i done hi hd hdo hx
      have hf : Full l o := ⟨ho, fun v hv2 => Classical.byContradiction fun hno => by
        obtain ⟨y, y1, y2, y3⟩ := kahn_ready hs hv hv2 hno
        rcases hx y y1 (by have := y1.2; omega) with e | e
        · exact y2 e
        · exact e y3⟩
      rw [full_unique hr hf]
      refine Ev.step (fun k => ?_) (Ev.now _)
      simp only [lazycref09_Components.l0]
      rw [if_neg (show ¬ (i : Int) < (l.length : Int) by omega)]
    | succ m ih =>
      intro i done hi hd hdo hx
      have hin : nd l (i : Int) := ⟨by omega, by omega⟩
      have p1 : (i : Int) < (done.length : Int) := by omega
      have p4 := succ_cast i (by omega)
      by_cases hdi : rdOf false done i = true
      · refine Ev.step (fun k => ?_) (ih (i + 1) done (by omega) hd hdo (fun x h1 h2 => by
          by_cases e : x = i
          · subst e; exact .inl ((hdo _ hin).1 hdi)
          · exact hx x h1 (by omega)))
        simp only [lazycref09_Components.l0]
        rw [if_pos (show (i : Int) < (l.length : Int) from hin.2), if_pos hin.1, if_pos p1, if_pos hdi, p4]
      · have hio : (i : Int) ∉ o.flatten := fun e => hdi ((hdo _ hin).2 e)
        have e1 := comp_ev hs hv hin
        have e2 := ready_ev hs hv hin hd hdo
        by_cases hrd : Ready l o i
        · have hk : Kahn l (o ++ [scc l i]) := .snoc ho ⟨i, hin, hio, hrd, fun x h1 h2 h3 => by
            by_cases e : (i : Int) ≤ x
            · exact e
            · rcases hx x h1 (by omega) with e | e
              · exact absurd e h2
              · exact absurd h3 e, rfl⟩
          have := kahn_len hv hk
          simp at this
          omega
        · rw [decide_eq_false hrd] at e2
          refine Ev.step (fun k => ?_) (Ev.bind e1 (f := fun k t235 => (lazycref09_ready.f k l t235 done).bind fun t238 => if t238 = true then if o.length < 5864062014805 then lazycref09_Components.l1 k (o ++ [t235]) done t235 0 l else none else lazycref09_Components.l0 k o done ((i + 1 : Nat) : Int) l)
            (Ev.bind e2 (f := fun k t238 => if t238 = true then if o.length < 5864062014805 then lazycref09_Components.l1 k (o ++ [scc l i]) done (scc l i) 0 l else none else lazycref09_Components.l0 k o done ((i + 1 : Nat) : Int) l) (ih (i + 1) done (by omega) hd hdo (fun x h1 h2 => by
              by_cases e : x = i
              · subst e; exact .inr hrd
              · exact hx x h1 (by omega)))))
          simp only [lazycref09_Components.l0]
          rw [if_pos (show (i : Int) < (l.length : Int) from hin.2), if_pos hin.1, if_pos p1, if_neg hdi, p4]
  | succ M IH =>
    intro o hM ho m
    induction m with
    | zero =>
      intro i done hi hd hdo hx
      have hf : Full l o := ⟨ho, fun v hv2 => Classical.byContradiction fun hno => by
        obtain ⟨y, y1, y2, y3⟩ := kahn_ready hs hv hv2 hno
        rcases hx y y1 (by have := y1.2; omega) with e | e
        · exact y2 e
        · exact e y3⟩
      rw [full_unique hr hf]
      refine Ev.step (fun k => ?_) (Ev.now _)
      simp only [lazycref09_Components.l0]
      rw [if_neg (show ¬ (i : Int) < (l.length : Int) by omega)]
    | succ m ih =>
      intro i done hi hd hdo hx
      have hin : nd l (i : Int) := ⟨by omega, by omega⟩
      have p1 : (i : Int) < (done.length : Int) := by omega
      have p4 := succ_cast i (by omega)
      by_cases hdi : rdOf false done i = true
      · refine Ev.step (fun k => ?_) (ih (i + 1) done (by omega) hd hdo (fun x h1 h2 => by
          by_cases e : x = i
          · subst e; exact .inl ((hdo _ hin).1 hdi)
          · exact hx x h1 (by omega)))
        simp only [lazycref09_Components.l0]
        rw [if_pos (show (i : Int) < (l.length : Int) from hin.2), if_pos hin.1, if_pos p1, if_pos hdi, p4]
      · have hio : (i : Int) ∉ o.flatten := fun e => hdi ((hdo _ hin).2 e)
        have e1 := comp_ev hs hv hin
        have e2 := ready_ev hs hv hin hd hdo
        by_cases hrd : Ready l o i
        · have hk : Kahn l (o ++ [scc l i]) := .snoc ho ⟨i, hin, hio, hrd, fun x h1 h2 h3 => by
            by_cases e : (i : Int) ≤ x
            · exact e
            · rcases hx x h1 (by omega) with e | e
              · exact absurd e h2
              · exact absurd h3 e, rfl⟩
          rw [decide_eq_true hrd] at e2
          have hsl := scc_len l i
          have h3 := mark_ev (l := l) (o ++ [scc l i]) (scc l i) r (fun x hx => (mem_scc.1 hx).1) (by omega) (scc l i).length 0 done (by omega) hd (fun d2 hd2 hdd => IH (o ++ [scc l i]) (by rw [List.length_append, List.length_singleton]; omega) hk l.length 0 d2 (by omega) hd2 (fun v hv2 => by
            rw [hdd v hv2, hdo v hv2, List.drop_zero, List.flatten_append, List.mem_append]
            simp) (fun x h1 h2 => by have := h1.1; omega))
          refine Ev.step (fun k => ?_) (Ev.bind e1 (f := fun k t235 => (lazycref09_ready.f k l t235 done).bind fun t238 => if t238 = true then if o.length < 5864062014805 then lazycref09_Components.l1 k (o ++ [t235]) done t235 0 l else none else lazycref09_Components.l0 k o done ((i + 1 : Nat) : Int) l)
            (Ev.bind e2 (f := fun k t238 => if t238 = true then if o.length < 5864062014805 then lazycref09_Components.l1 k (o ++ [scc l i]) done (scc l i) 0 l else none else lazycref09_Components.l0 k o done ((i + 1 : Nat) : Int) l) (Ev.congr (fun k => ?_) h3)))
          · simp only [lazycref09_Components.l0]
            rw [if_pos (show (i : Int) < (l.length : Int) from hin.2), if_pos hin.1, if_pos p1, if_neg hdi, p4]
          · rw [if_pos rfl, if_pos (by omega)]
            rfl
        · rw [decide_eq_false hrd] at e2
          refine Ev.step (fun k => ?_) (Ev.bind e1 (f := fun k t235 => (lazycref09_ready.f k l t235 done).bind fun t238 => if t238 = true then if o.length < 5864062014805 then lazycref09_Components.l1 k (o ++ [t235]) done t235 0 l else none else lazycref09_Components.l0 k o done ((i + 1 : Nat) : Int) l)
            (Ev.bind e2 (f := fun k t238 => if t238 = true then if o.length < 5864062014805 then lazycref09_Components.l1 k (o ++ [scc l i]) done (scc l i) 0 l else none else lazycref09_Components.l0 k o done ((i + 1 : Nat) : Int) l) (ih (i + 1) done (by omega) hd hdo (fun x h1 h2 => by
              by_cases e : x = i
              · subst e; exact .inr hrd
              · exact hx x h1 (by omega)))))
          simp only [lazycref09_Components.l0]
          rw [if_pos (show (i : Int) < (l.length : Int) from hin.2), if_pos hin.1, if_pos p1, if_neg hdi, p4]

/-- What Components of the reference answers. -/
theorem refcomps_ev {l r : List (List Int)} (hs : Sm l) (hv : Vld l) (hr : Full l r) : Ev (fun k => lazycref09_Components.f k l) r := by
  have h60 := hs.1
  have hb := rv_ev l hs
  rw [(vldB_iff l).2 hv] at hb
  have h0 := refcomps_loop hs hv hr l.length [] (by simp) .nil l.length 0 (List.replicate l.length false) (by omega) (by simp) (fun v hn => by
    obtain ⟨i, rfl⟩ := Int.eq_ofNat_of_zero_le hn.1
    rw [rdOf_at _ i (by simp; have := hn.2; omega)]
    simp) (fun x h1 h2 => by have := h1.1; omega)
  refine Ev.congr (fun k => ?_) (Ev.bind hb (f := fun k t => if t = true then lazycref09_Components.l0 k [] (List.replicate l.length false) 0 l else some []) h0)
  unfold lazycref09_Components.f
  rw [if_pos (show (0 : Int) ≤ (l.length : Int) by omega), Int.toNat_natCast, if_pos (show l.length ≤ 281474976710656 by omega)]
end Tp
end Go.Proofs.Ytpmjpngmmphkmaa
/- What SameInts and Same answer, for all lists with less than 1000000 elements. -/
namespace Go.Proofs.Ytpmjpngmmphkmaa
open Go.RowKit Go.Proofs.YtpmjpngmmphkmaaW.PrintWords Go.Proofs.YtpmjpngmmphkmaaW.PrintLast Go.Proofs.YtpmjpngmmphkmaaW.PrintMore Go.Proofs.Ytpmjpngmmphkmaa.P
namespace Tp
open Tj Rw Od
set_option linter.unusedVariables false

theorem si_ev (a b : List Int) (hl : a.length < 1000000) : Ev (fun k => lazycref09_SameInts.f k a b) (decide (a = b)) := by
  by_cases hlen : a.length = b.length
  · have key : ∀ (m j : Nat), j + m = a.length → Ev (fun k => lazycref09_SameInts.l0 k a b j) (decide (a.drop j = b.drop j)) := by
      intro m
      induction m with
      | zero =>
        intro j hj
        rw [List.drop_eq_nil_of_le (by omega), List.drop_eq_nil_of_le (by omega)]
        refine Ev.step (fun k => ?_) (Ev.now _)
        simp only [lazycref09_SameInts.l0]
        rw [if_neg (by omega)]
        rfl
      | succ m ih =>
        intro j hj
        rw [drop_row a j (by omega), drop_row b j (by omega)]
        by_cases h : rd a j = rd b j
        · rw [show decide (rd a j :: a.drop (j + 1) = rd b j :: b.drop (j + 1)) = decide (a.drop (j + 1) = b.drop (j + 1)) by simp [h]]
          refine Ev.step (fun k => ?_) (ih (j + 1) (by omega))
          simp only [lazycref09_SameInts.l0]
          rw [if_pos (by omega), if_pos (by omega), if_pos (by omega), if_pos h, succ_cast j (by omega)]
        · rw [show decide (rd a j :: a.drop (j + 1) = rd b j :: b.drop (j + 1)) = false by simp [h]]
          refine Ev.step (fun k => ?_) (Ev.now _)
          simp only [lazycref09_SameInts.l0]
          rw [if_pos (by omega), if_pos (by omega), if_pos (by omega), if_neg h]
    refine Ev.congr (fun k => ?_) (key a.length 0 (by omega))
    unfold lazycref09_SameInts.f
    rw [if_pos (by omega)]
    rfl
  · rw [show decide (a = b) = false from decide_eq_false (fun e => hlen (by rw [e]))]
    refine Ev.congr (fun k => ?_) (Ev.now _)
    unfold lazycref09_SameInts.f
    rw [if_neg (by omega)]

theorem same_ev (a b : List (List Int)) (hl : a.length < 1000000) (hr : ∀ j : Nat, j < a.length → (row a j).length < 1000000) : Ev (fun k => lazycref09_Same.f k a b) (decide (a = b)) := by
  by_cases hlen : a.length = b.length
  · have key : ∀ (m j : Nat), j + m = a.length → Ev (fun k => lazycref09_Same.l0 k a b j) (decide (a.drop j = b.drop j)) := by
      intro m
      induction m with
      | zero =>
        intro j hj
        rw [List.drop_eq_nil_of_le (by omega), List.drop_eq_nil_of_le (by omega)]
        refine Ev.step (fun k => ?_) (Ev.now _)
        simp only [lazycref09_Same.l0]
        rw [if_neg (by omega)]
        rfl
      | succ m ih =>
        intro j hj
        rw [drop_rows a j (by omega), drop_rows b j (by omega)]
        have h1 := si_ev (row a j) (row b j) (hr j (by omega))
        by_cases h : row a j = row b j
        · rw [show decide (row a j :: a.drop (j + 1) = row b j :: b.drop (j + 1)) = decide (a.drop (j + 1) = b.drop (j + 1)) by simp [h]]
          rw [decide_eq_true h] at h1
          refine Ev.step (fun k => ?_) (Ev.bind h1 (f := fun k t => if t = true then lazycref09_Same.l0 k a b ((j + 1 : Nat) : Int) else some false) (ih (j + 1) (by omega)))
          simp only [lazycref09_Same.l0, L1_row]
          rw [if_pos (by omega), if_pos (by omega), if_pos (by omega), succ_cast j (by omega)]
        · rw [show decide (row a j :: a.drop (j + 1) = row b j :: b.drop (j + 1)) = false by simp [h]]
          rw [decide_eq_false h] at h1
          refine Ev.step (fun k => ?_) (Ev.bind h1 (f := fun k t => if t = true then lazycref09_Same.l0 k a b ((j + 1 : Nat) : Int) else some false) (Ev.now _))
          simp only [lazycref09_Same.l0, L1_row]
          rw [if_pos (by omega), if_pos (by omega), if_pos (by omega), succ_cast j (by omega)]
    refine Ev.congr (fun k => ?_) (key a.length 0 (by omega))
    unfold lazycref09_Same.f
    rw [if_pos (by omega)]
    rfl
  · rw [show decide (a = b) = false from decide_eq_false (fun e => hlen (by rw [e]))]
    refine Ev.congr (fun k => ?_) (Ev.now _)
    unfold lazycref09_Same.f
    rw [if_neg (by omega)]
end Tp
end Go.Proofs.Ytpmjpngmmphkmaa
/- GraphComponents as printed answers true for every graph whose rows have a bounded length. -/
namespace Go.Proofs.Ytpmjpngmmphkmaa
open Go.RowKit Go.Proofs.YtpmjpngmmphkmaaW.PrintWords Go.Proofs.YtpmjpngmmphkmaaW.PrintLast Go.Proofs.YtpmjpngmmphkmaaW.PrintMore Go.Proofs.Ytpmjpngmmphkmaa.P
namespace Tp
open Tj Rw Od
theorem nvld_comps {l : List (List Int)} (hs : Sm l) (hv : ¬ Vld l) : Ev (fun k => graph_Components.f k l) [] ∧ Ev (fun k => lazycref09_Components.f k l) [] := by
  have hf : vldB l = false := Bool.eq_false_iff.2 fun e => hv ((vldB_iff l).1 e)
  have hb := gv_ev l hs
  have hb2 := rv_ev l hs
  rw [hf] at hb hb2
  obtain ⟨K, hK⟩ := hb
  obtain ⟨K2, hK2⟩ := hb2
  refine ⟨⟨K, fun k hk => ?_⟩, ⟨K2, fun k hk => ?_⟩⟩
  · have e : graph_valid.f k l = some false := hK k hk
    show graph_Components.f k l = _
    unfold graph_Components.f
    rw [e]
    rfl
  · have e : lazycref09_Valid.f k l = some false := hK2 k hk
    show lazycref09_Components.f k l = _
    unfold lazycref09_Components.f
    rw [e]
    rfl
theorem GraphComponents (l : List (List Int)) (h : ∀ r ∈ l, r.length * 8 ≤ 140737488351232) : ∃ k, lazyclaw09_GraphComponents.f k l = some true := by
  refine Ev.rounds (g := fun k => lazyclaw09_GraphComponents.f k l) ?_
  obtain ⟨b, b1, b2⟩ := small_ev l h
  refine Ev.bind b1 (f := fun k t => if t = true then _ else _) ?_
  cases b with
  | false => exact Ev.now true
  | true =>
    have hs := b2 rfl
    have h60 := hs.1
    by_cases hv : Vld l
    · obtain ⟨o, o1, o2⟩ := comps_ev hs hv
      obtain ⟨_, f2, f3⟩ := full_len hv o1
      refine Ev.bind o2 (f := fun k t => _) (Ev.bind (refcomps_ev hs hv o1) (f := fun k t => _) (Ev.bind (same_ev o o (by omega) (fun j hj => by
        have := f3 _ (row_in o j hj)
        omega)) (f := fun k t => _) ?_))
      rw [decide_eq_true rfl]
      exact Ev.now true
    · obtain ⟨e1, e2⟩ := nvld_comps hs hv
      refine Ev.bind e1 (f := fun k t => _) (Ev.bind e2 (f := fun k t => _) (Ev.bind (same_ev [] [] (by simp) (fun j hj => by simp at hj)) (f := fun k t => _) ?_))
      rw [decide_eq_true rfl]
      exact Ev.now true
end Tp
end Go.Proofs.Ytpmjpngmmphkmaa
/- The law GraphComponents of the graph chapter holds: for every input it returns true, and the input reads as it did. -/
namespace Go.Proofs.Ytpmjpngmmphkmaa.graphComponents
open Go.ChangeShapes Go.WideShapes Go.ChangeAt Go.RowKit
set_option linter.unusedVariables false
theorem own : ownKnob Try.prog.godebug = none := by kernel_rfl
theorem laidOut : laidOutB Try.prog = true := by kernel_rfl
set_option maxRecDepth 100000 in
theorem lifted (os : Os) (started : os.Started) (H : Type) (enc : TypeId × Value → H) :
    ReturnsInHanded {} Try.checked os 3 .any (Rows.graphComponentsSpec.pre6 enc Try.prog Try.f3 Rows.graphComponentsRow.domain false) (Rows.graphComponentsSpec.post enc Try.prog Try.f3 false true false false) := by
  refine returnsInHanded_of_change_sized (C := Try.checked) own started (by kernel_rfl) Try.func3
    (ChangeSpec.witness6 (enc := enc) (C := Try.checked) false ⟨#[], #[.agg #[.slice none 0 0]], []⟩ 8 (by kernel_rfl) (by kernel_rfl) (by kernel_rfl) (by kernel_rfl)) ?_
  intro W base args ds gs before hval0 hW hcnd hsz0 _
  have hsz : (DataW.weightsEach Try.prog (Try.f3.params.toList ++ Rows.graphComponentsSpec.plain.varTypes Try.prog) (ds ++ gs)).all (· ≤ reachBytes) = true := hsz0
  have hval : ∀ (j : Nat) t v, Try.f3.params[j]? = some t → args[j]? = some v → Value.okWide Try.prog W .any base t v := hval0
  have hW' := hW
  obtain ⟨p, q, hA0, hV, rfl, hfz, hnd⟩ := hW
  have hA : DataW.TrodAll enc Try.prog W 0 (fun _ => true) true Try.f3.params.toList args.toList ds p := hA0
  rw [Try.params3] at hA hval hsz
  obtain ⟨v0, vs0, d0, ds0, p0, q0, hargs, rfl, rfl, h0, r0⟩ := trodAll_cons hA
  obtain ⟨rfl, rfl, rfl⟩ := trodAll_nil r0
  obtain rfl : args = #[v0] := by cases args; simp_all
  obtain ⟨rfl, rfl⟩ := trodVars_none hV
  have k0 := h0
  have lt0 : ∀ x ∈ p0, x.block < W.heap.size := by obtain ⟨m, hm⟩ := k0; exact DataW.trod_lt m _ _ _ hm
  obtain ⟨A0, c0, l0, rfl, hc0, hr0, y0⟩ := Gr.open_graph (hval 0 24 v0 rfl rfl) hsz (j := 0) rfl rfl h0
  clear hA0 hval0 hsz0 hsz
  obtain ⟨kr, hkr⟩ := Tp.GraphComponents l0 y0
  refine (P.lazyclaw09_GraphComponents.calls kr A0 c0 l0 true W hr0 hc0 hkr).mono fun e W' ⟨he, bel⟩ => ?_
  subst he
  exact ⟨_, rfl, _, _, _, [], _, [], hW', trodAll_mk1 (shut_bool Try.underlying4 _), (trodAll_cons_mk (Below.trod laidOut (by kernel_rfl) (of_decide_eq_true (by kernel_rfl)) k0 bel lt0) trodAll_mk0), rfl, bel.frame _, fun h => by cases h⟩
theorem over : Rows.graphComponentsRow.holds Try.pinned (OpenSpec.ofChange Rows.graphComponentsSpec) :=
  OpenClaim.holds_of_wide 3 Try.f3 rfl rfl rfl rfl rfl rfl rfl ⟨rfl, rfl, rfl, rfl, rfl⟩ rfl rfl rfl rfl rfl (by kernel_rfl) Try.func3 (by kernel_rfl)
    (of_decide_eq_true (by kernel_rfl)) (by unfold Func.isWrapper; first | (rw [if_pos (by decide +kernel)]; kernel_rfl) | (rw [if_neg (by decide +kernel)]; exact ⟨rfl, rfl⟩))
    (fun os started H enc _ => lifted os started H enc)
theorem proved : Rows.GraphComponentsSaid := over
#print axioms proved
end Go.Proofs.Ytpmjpngmmphkmaa.graphComponents
namespace Go.Proofs.Ytpmjpngmmphkmaa
/-- The row, under a short name, for the claim. -/
theorem graphComponents_holds : Rows.GraphComponentsSaid := graphComponents.proved
end Go.Proofs.Ytpmjpngmmphkmaa
