/- What came in reads as plain data: kinds opened out of the row's words. -/
import Derived.Test.YtfbhipcfjkkmmaaDoorPx0
import Derived.WideShapes
import Derived.Deep.Slices
import Derived.ChangeSlices
import Derived.SizedLaws
import Derived.Lib.SmallJoins
namespace Go.Proofs.YtfbhipcfjkkmmaaDoor
open Go.RowKit Go.Proofs.YtfbhipcfjkkmmaaDoorW.PrintWords Go.Proofs.YtfbhipcfjkkmmaaDoorW.PrintLast Go.Proofs.YtfbhipcfjkkmmaaDoorW.PrintMore
open Go.ChangeShapes Go.WideShapes Go.ChangeAt Go.Deep
namespace Op
set_option linter.unusedVariables false
set_option linter.unusedSimpArgs false

/-- What reads at type t (with fuel up to n) is of the kind d, and ok. -/
structure Opens (Pg : Program) (n : Nat) (t : TypeId) {α : Type} (d : Kd α) (ok : α → Prop) : Prop where
  out : ∀ {H : Type} {enc : TypeId × Value → H} {w : World} {base : Nat} {spare : Nat → Bool} {held : Bool} {fuel : Nat} {cs : List Value} {x : DataW H × List MemPlace}, fuel ≤ n → DataW.trod enc Pg w base spare held fuel t cs = some x → ∃ a : α, d.K w a cs ∧ ok a
variable {Pg : Program} {n : Nat} {t e : TypeId}
theorem Opens.int {k : IntKind} (ht : Pg.underlying t = some (.int k)) : Opens Pg n t (Kd.int k) (fun z => (Lit.int k z).wf = true) := by
  constructor
  intro H enc w base spare held fuel cs x _ h
  obtain ⟨z, rfl, _, hw⟩ := DataW.trod_int ht h
  exact ⟨z, rfl, hw⟩
theorem Opens.bool (ht : Pg.underlying t = some .bool) : Opens Pg n t Kd.bool (fun _ => True) := by
  constructor
  intro H enc w base spare held fuel cs x _ h
  obtain ⟨z, rfl, _⟩ := DataW.trod_bool ht h
  exact ⟨z, rfl, trivial⟩
theorem Opens.string (ht : Pg.underlying t = some .string) : Opens Pg n t Kd.string (fun s => s.size ≤ maxLen) := by
  constructor
  intro H enc w base spare held fuel cs x _ h
  obtain ⟨z, rfl, _, hw⟩ := DataW.trod_string ht h
  exact ⟨z, rfl, hw⟩
theorem Opens.iso {α β : Type} {d : Kd α} {ok : α → Prop} (h : Opens Pg n t d ok) (f : β → α) (g : α → β) (hg : ∀ a, f (g a) = a) : Opens Pg n t (Kd.iso d f) (fun b => ok (f b)) := by
  constructor
  intro H enc w base spare held fuel cs x hf hx
  obtain ⟨a, h1, h2⟩ := h.out hf hx
  refine ⟨g a, ?_, ?_⟩
  · show d.K w (f (g a)) cs
    rw [hg]; exact h1
  · show ok (f (g a))
    rw [hg]; exact h2
theorem Opens.slice {α : Type} [Inhabited α] {d : Kd α} {ok : α → Prop} (ht : Pg.underlying t = some (.slice e)) (hc : Pg.cellsOf e = d.sz) (he : Opens Pg n e d ok) : Opens Pg n t (Kd.slice e d) (fun l => ∀ a ∈ l, ok a) := by
  constructor
  intro H enc w base spare held fuel cs x hf h
  obtain ⟨fuel, rfl⟩ | h0 : (∃ f, fuel = f + 1) ∨ fuel = 0 := by cases fuel; exact .inr rfl; exact .inl ⟨_, rfl⟩
  rotate_left
  · subst h0; simp [DataW.trod] at h
  rcases DataW.trod_slice ht h with ⟨rfl, _⟩ | ⟨a, len, cap, elems, rest, n', he1, rfl, _, _, hl, hm, hlen, hel, _⟩
  · exact ⟨[], ⟨none, 0, rfl, Nat.le_refl _, rfl, by simp, fun h => absurd h (by simp)⟩, by simp⟩
  obtain rfl : fuel = n' := by omega
  have each : ∀ i, i < len → ∃ p : α × List Value, p.2.length = d.sz ∧ d.K w p.1 p.2 ∧ ok p.1 ∧ ∀ j u, p.2[j]? = some u → w.cell? (a.add (i * d.sz + j)) = some u := by
    intro i hi
    have h1 := hel i hi
    rw [List.getElem?_eq_getElem (by omega), Option.bind_eq_some_iff] at h1
    obtain ⟨cs', h1, h2⟩ := h1
    rw [hc] at h1
    obtain ⟨_, hlen2, hcell⟩ := World.cells?_some h1
    obtain ⟨p, hp1, hp2⟩ := he.out (by omega) h2
    refine ⟨(p, cs'), hlen2, hp1, hp2, fun j u hu => ?_⟩
    have hj : j < d.sz := by have := (List.getElem?_eq_some_iff.1 hu).1; simp only [hlen2] at this; exact this
    have := hcell j hj
    rw [Addr.add_add] at this
    rw [this]; exact hu
  obtain ⟨f, hfe⟩ := choose_lt (n := len) each
  refine ⟨(List.range len).map fun i => (f i).1, ⟨some a, cap, by simp, by simpa using hl, by simp, by unfold maxLen at hm; simp; omega, fun _ => ⟨a, rfl, fun j p hj => ?_⟩⟩, ?_⟩
  · obtain ⟨hj1, hj2⟩ := List.getElem?_eq_some_iff.1 hj
    have hjl : j < len := by simpa using hj1
    have : p = (f j).1 := by rw [← hj2]; simp
    obtain ⟨h1, h2, _, h4⟩ := hfe j hjl
    exact ⟨(f j).2, h1, by rw [this]; exact h2, h4⟩
  · intro p hp
    obtain ⟨i, hi, rfl⟩ := List.mem_map.1 hp
    exact (hfe i (List.mem_range.1 hi)).2.2.1

/-- The fields from number i on, from cell o on. -/
structure OpensF (Pg : Program) (n : Nat) (fs : Array Field) (i o : Nat) {α : Type} (d : Kd α) (ok : α → Prop) : Prop where
  out : ∀ {H : Type} {enc : TypeId × Value → H} {w : World} {base : Nat} {spare : Nat → Bool} {held : Bool} {fuel : Nat} {cs : List Value} {xs : List (DataW H × List MemPlace)}, fuel ≤ n → xs.length = fs.size → cs.length = o + d.sz →
    (∀ (i : Nat) (f : Field), fs[i]? = some f → DataW.trod enc Pg w base spare held fuel f.type ((cs.drop f.offset).take (Pg.cellsOf f.type)) = xs[i]?) → ∃ a : α, d.K w a (cs.drop o) ∧ ok a
theorem OpensF.last {α : Type} {d : Kd α} {ok : α → Prop} {fs : Array Field} {i o : Nat} {f : Field} (hf : fs[i]? = some f) (ho : f.offset = o) (hc : Pg.cellsOf f.type = d.sz) (h : Opens Pg n f.type d ok) : OpensF Pg n fs i o d ok := by
  constructor
  intro H enc w base spare held fuel cs xs hfl hxl hcl hall
  have h1 := hall i f hf
  have hi : i < xs.length := by rw [hxl]; exact (Array.getElem?_eq_some_iff.1 hf).1
  rw [List.getElem?_eq_getElem hi, ho, hc, List.take_of_length_le (by rw [List.length_drop]; omega)] at h1
  exact h.out hfl h1
theorem OpensF.cons {α β : Type} {d : Kd α} {d' : Kd β} {ok : α → Prop} {ok' : β → Prop} {fs : Array Field} {i o : Nat} {f : Field} (hf : fs[i]? = some f) (ho : f.offset = o) (hc : Pg.cellsOf f.type = d.sz) (h : Opens Pg n f.type d ok) (hr : OpensF Pg n fs (i + 1) (o + d.sz) d' ok') :
    OpensF Pg n fs i o (Kd.pair d d') (fun p => ok p.1 ∧ ok' p.2) := by
  constructor
  intro H enc w base spare held fuel cs xs hfl hxl hcl hall
  have hsz : (Kd.pair d d').sz = d.sz + d'.sz := rfl
  have h1 := hall i f hf
  have hi : i < xs.length := by rw [hxl]; exact (Array.getElem?_eq_some_iff.1 hf).1
  rw [List.getElem?_eq_getElem hi, ho, hc] at h1
  obtain ⟨a, ha, hoka⟩ := h.out hfl h1
  obtain ⟨b, hb, hokb⟩ := hr.out hfl hxl (by rw [hcl, hsz]; omega) hall
  refine ⟨(a, b), ⟨_, _, ?_, ha, hb⟩, hoka, hokb⟩
  rw [← List.drop_drop, List.take_append_drop]
theorem Opens.struct {α : Type} {d : Kd α} {ok : α → Prop} {fs : Array Field} (ht : Pg.underlying t = some (.struct fs)) (hc : Pg.cellsOf t = d.sz) (h : OpensF Pg n fs 0 0 d ok) : Opens Pg n t d ok := by
  constructor
  intro H enc w base spare held fuel cs x hf hx
  obtain ⟨xs, k, hk, _, hcl, hxl, hall⟩ := DataW.trod_struct ht hx
  obtain ⟨a, h1, h2⟩ := h.out (by omega) hxl (by rw [hcl, hc]; omega) hall
  exact ⟨a, h1, h2⟩
theorem Opens.weaken {α : Type} {d : Kd α} {ok ok' : α → Prop} (h : Opens Pg n t d ok) (hi : ∀ a, ok a → ok' a) : Opens Pg n t d ok' := by
  constructor
  intro H enc w base spare held fuel cs x hf hx
  obtain ⟨a, h1, h2⟩ := h.out hf hx
  exact ⟨a, h1, hi a h2⟩
/-- An argument that is a slice. -/
theorem Opens.arg {α : Type} {ok : List α → Prop} {d0 : Kd α} {e : Nat} (ht : Pg.underlying t = some (.slice e)) (h : ∀ n, Opens Pg n t (Kd.slice e d0) ok) {H : Type} {enc : TypeId × Value → H} {w : World} {base b0 : Nat} {r : Reach} {spare : Nat → Bool} {held : Bool} {v : Value} {x : DataW H} {p : List MemPlace}
    (hv : Value.okWide Pg w r b0 t v) (hx : DataW.Trod enc Pg w base spare held t v x p) :
    ∃ A c l, v = .slice A l.length c ∧ l.length ≤ c ∧ Kd.C d0 w A l.length l ∧ ok l := by
  obtain ⟨a, len, cap, rfl⟩ := okWide_slice ht hv
  obtain ⟨fuel, hf⟩ := hx
  obtain ⟨l, ⟨A, c, h3, h4, h5⟩, h2⟩ := (h fuel).out (Nat.le_refl _) hf
  exact ⟨A, c, l, by simpa [Value.cells] using h3, h4, h5, h2⟩
open P in
theorem opens35 (n : Nat) : Opens Tryd.prog n 35 (Kd.slice 9 Kd.string) (fun l => ∀ a ∈ l, a.size ≤ maxLen) :=
  Opens.slice Tryd.underlying35 (by kernel_rfl) (Opens.string Tryd.underlying9)
instance inh41 : Inhabited P.S41 := ⟨P.z41⟩
open P in
theorem opens41 (n : Nat) : Opens Tryd.prog n 41 k41 (fun _ => True) :=
  (Opens.iso (Opens.struct Tryd.underlying41 (by kernel_rfl) (OpensF.cons rfl rfl (by kernel_rfl) (Opens.int Tryd.underlying3) (OpensF.last rfl rfl (by kernel_rfl) (Opens.string Tryd.underlying9)))) (fun x : S41 => (x.f0, x.f1)) (fun p => ⟨p.1, p.2⟩) (fun _ => rfl)).weaken (fun _ _ => trivial)
open P in
theorem opens36 (n : Nat) : Opens Tryd.prog n 36 (Kd.slice 41 k41) (fun _ => True) :=
  (Opens.slice Tryd.underlying36 (by kernel_rfl) (opens41 n)).weaken (fun _ _ => trivial)
end Op
end Go.Proofs.YtfbhipcfjkkmmaaDoor
