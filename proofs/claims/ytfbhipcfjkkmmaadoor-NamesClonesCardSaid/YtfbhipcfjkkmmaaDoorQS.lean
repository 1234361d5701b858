/- The least number that is free; what the table of numbers promises. -/
import Derived.Test.YtfbhipcfjkkmmaaDoorQE
import Derived.Test.YtfbhipcfjkkmmaaDoorHFr
namespace Go.Proofs.YtfbhipcfjkkmmaaDoor
open Go.RowKit
open P _root_.Go.Proofs.YtfbhipcfjkkmmaaDoor.Nm
namespace Su
set_option linter.unusedVariables false
set_option linter.unusedSimpArgs false

theorem nodup_len {α : Type} [BEq α] [LawfulBEq α] : ∀ (A S : List α), A.Nodup → (∀ x ∈ A, x ∈ S) → A.length ≤ S.length := by
  intro A
  induction A with
  | nil => intro S _ _; exact Nat.zero_le _
  | cons a A ih =>
    intro S hn hs
    have ha : a ∈ S := hs a List.mem_cons_self
    have hn2 := List.nodup_cons.mp hn
    have h := ih (S.erase a) hn2.2 (fun x hx => (List.mem_erase_of_ne (fun e => hn2.1 (by rw [← e]; exact hx))).mpr (hs x (List.mem_cons_of_mem _ hx)))
    rw [List.length_erase_of_mem ha] at h
    have := List.length_pos_of_mem ha
    simp only [List.length_cons]
    omega
theorem pigeon (f : Nat → List UInt8) (S : List (List UInt8)) (hinj : ∀ i j, i ≤ S.length → j ≤ S.length → f i = f j → i = j) : ∃ i, i ≤ S.length ∧ f i ∉ S := by
  apply Classical.byContradiction
  intro hno
  have hall : ∀ i, i ≤ S.length → f i ∈ S := fun i hi => Classical.byContradiction fun h => hno ⟨i, hi, h⟩
  have h1 : ((List.range (S.length + 1)).map f).Nodup := by
    rw [List.nodup_iff_pairwise_ne, List.pairwise_map]
    refine List.Pairwise.imp_of_mem ?_ (List.nodup_iff_pairwise_ne.mp List.nodup_range)
    intro i j hi hj hne e
    exact hne (hinj i j (by have := List.mem_range.mp hi; omega) (by have := List.mem_range.mp hj; omega) e)
  have h2 := nodup_len _ S h1 (by
    intro x hx
    obtain ⟨i, hi, rfl⟩ := List.mem_map.mp hx
    exact hall i (by have := List.mem_range.mp hi; omega))
  simp at h2
  omega
theorem least_of {p : Nat → Bool} : ∀ n, p n = true → ∃ m, m ≤ n ∧ p m = true ∧ ∀ j, j < m → p j = false := by
  intro n
  induction n using Nat.strongRecOn with
  | ind n ih =>
    intro hn
    by_cases h : ∃ j, j < n ∧ p j = true
    · obtain ⟨j, hj, hp⟩ := h
      obtain ⟨m, h1, h2, h3⟩ := ih j hj hp
      exact ⟨m, by omega, h2, h3⟩
    · exact ⟨n, Nat.le_refl _, hn, fun j hj => by
        cases hb : p j
        · rfl
        · exact absurd ⟨j, hj, hb⟩ h⟩

/-- n is the least number from 1 on whose name is free. -/
structure Least (S : List (List UInt8)) (y : ByteArray) (n : Nat) : Prop where
  pos : 1 ≤ n
  le : n ≤ S.length + 1
  used : ∀ j : Nat, 1 ≤ j → j < n → S.contains (madeA y j).data.toList = true
  free : S.contains (madeA y n).data.toList = false
theorem made_inj (y : ByteArray) (h : stemB y = true) (i j : Nat) (hi : i ≤ 9223372036854775807) (hj : j ≤ 9223372036854775807) (e : (madeA y i).data.toList = (madeA y j).data.toList) : i = j := by
  have e2 := bytes_ext e
  have h1 := base_made y i (by omega) (by omega) h
  have h2 := base_made y j (by omega) (by omega) h
  rw [e2, h2] at h1
  injection h1 with _ h1
  injection h1 with h1 _
  omega
theorem least_free (y : ByteArray) (S : List (List UInt8)) (h : stemB y = true) (hS : S.length < 4000) : ∃ n, Least S y n := by
  obtain ⟨i, hi, hn⟩ := pigeon (fun i => (madeA y ((i + 1 : Nat) : Int)).data.toList) S (fun i j hi hj e => by
    have := made_inj y h (i + 1) (j + 1) (by omega) (by omega) e
    omega)
  have hf : (!S.contains (madeA y ((i + 1 : Nat) : Int)).data.toList) = true := by
    cases hc : S.contains (madeA y ((i + 1 : Nat) : Int)).data.toList
    · rfl
    · exact absurd (List.contains_iff_mem.mp hc) hn
  obtain ⟨m, h1, h2, h3⟩ := least_of (p := fun i => !S.contains (madeA y ((i + 1 : Nat) : Int)).data.toList) i hf
  refine ⟨m + 1, by omega, by omega, fun j hj1 hj2 => ?_, ?_⟩
  · have := h3 (j - 1) (by omega)
    have e : j - 1 + 1 = j := by omega
    simp only [e] at this
    simpa using this
  · simpa using h2
theorem Least.uniq {S : List (List UInt8)} {y : ByteArray} {n m : Nat} (h : Least S y n) (h' : Least S y m) : n = m := by
  rcases Nat.lt_trichotomy n m with e | e | e
  · have := h'.used n h.pos e; rw [h.free] at this; cases this
  · exact e
  · have := h.used m h'.pos e; rw [h'.free] at this; cases this

/-- What the table promises: below a base's number all are used. -/
def TabOK (S : List (List UInt8)) (M : List UInt8 → Int) : Prop :=
  ∀ y : ByteArray, 0 ≤ M y.data.toList ∧ ∀ j : Nat, 1 ≤ j → (j : Int) < M y.data.toList → S.contains (madeA y j).data.toList = true
theorem TabOK.nil (S : List (List UInt8)) : TabOK S (fun _ => 0) := fun y => ⟨Int.le_refl _, fun j h1 h2 => by have h2' : (j : Int) < 0 := h2; omega⟩
theorem contains_snoc {S : List (List UInt8)} {x y : List UInt8} (h : S.contains x = true) : (S ++ [y]).contains x = true := by
  rw [List.contains_iff_mem] at h ⊢
  exact List.mem_append_left _ h
theorem contains_snoc_self (S : List (List UInt8)) (y : List UInt8) : (S ++ [y]).contains y = true := by
  rw [List.contains_iff_mem]; simp
theorem TabOK.snoc {S : List (List UInt8)} {M : List UInt8 → Int} (h : TabOK S M) (x : List UInt8) : TabOK (S ++ [x]) M :=
  fun y => ⟨(h y).1, fun j h1 h2 => contains_snoc ((h y).2 j h1 h2)⟩
theorem TabOK.next {S : List (List UInt8)} {M : List UInt8 → Int} (h : TabOK S M) {y : ByteArray} {n : Nat} (hn : Least S y n) :
    TabOK (S ++ [(madeA y n).data.toList]) (fun z => if z = y.data.toList then (n : Int) + 1 else M z) := by
  intro z
  by_cases hz : z.data.toList = y.data.toList
  · obtain rfl := bytes_ext hz
    simp only [if_true]
    refine ⟨by omega, fun j h1 h2 => ?_⟩
    by_cases hj : j = n
    · subst hj; exact contains_snoc_self _ _
    · exact contains_snoc (hn.used j h1 (by omega))
  · simp only [if_neg hz]
    exact ⟨(h z).1, fun j h1 h2 => contains_snoc ((h z).2 j h1 h2)⟩
theorem TabOK.le {S : List (List UInt8)} {M : List UInt8 → Int} (h : TabOK S M) {y : ByteArray} {n : Nat} (hn : Least S y n) : max 1 (M y.data.toList) ≤ (n : Int) := by
  have h1 := hn.pos
  have h2 : M y.data.toList ≤ (n : Int) := by
    apply Classical.byContradiction
    intro hc
    have := (h y).2 n hn.pos (by omega)
    rw [hn.free] at this; cases this
  omega
end Su
end Go.Proofs.YtfbhipcfjkkmmaaDoor
