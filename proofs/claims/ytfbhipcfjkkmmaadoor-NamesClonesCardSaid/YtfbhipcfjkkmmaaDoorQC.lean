/- Names, plainly: numerals. -/
import Derived.Test.YtfbhipcfjkkmmaaDoorQB
import Derived.Lib.AtoiAllCases
import Derived.Lib.ItoaNum
namespace Go.Proofs.YtfbhipcfjkkmmaaDoor
open Go.RowKit Go.Proofs.YtfbhipcfjkkmmaaDoorW.PrintWords Go.Proofs.YtfbhipcfjkkmmaaDoorW.PrintLast Go.Proofs.YtfbhipcfjkkmmaaDoorW.PrintMore
open P
namespace Nm
set_option linter.unusedVariables false
set_option linter.unusedSimpArgs false

def dig (c : UInt8) : Nat := c.toNat - 48
def valF (acc : Nat) (l : List UInt8) : Nat := l.foldl (fun a c => a * 10 + dig c) acc
def numF (acc : Nat) : List UInt8 → Option Nat
  | [] => some acc
  | c :: r => if dgC c then (if acc * 10 + dig c > 9223372036854775807 then none else numF (acc * 10 + dig c) r) else none
def numL (l : List UInt8) : Option Nat := match l with
  | [] => none
  | c :: r => if decide (c.toNat = 48) && decide (r ≠ []) then none else numF 0 (c :: r)

theorem valF_ge (l : List UInt8) : ∀ acc, acc ≤ valF acc l := by
  induction l with
  | nil => intro acc; exact Nat.le_refl _
  | cons c r ih => intro acc; exact Nat.le_trans (by omega) (ih (acc * 10 + dig c))
theorem numF_iff (l : List UInt8) : ∀ acc v, acc ≤ 9223372036854775807 → (numF acc l = some v ↔ l.all dgC = true ∧ v = valF acc l ∧ v ≤ 9223372036854775807) := by
  induction l with
  | nil => intro acc v h; simp only [numF, Option.some.injEq, List.all_nil, valF, List.foldl_nil, true_and]; omega
  | cons c r ih =>
    intro acc v h
    rw [numF, List.all_cons]
    have hv : valF acc (c :: r) = valF (acc * 10 + dig c) r := rfl
    rw [hv]
    cases dgC c
    · simp
    · simp only [if_true, Bool.true_and]
      by_cases h1 : acc * 10 + dig c > 9223372036854775807
      · rw [if_pos h1]
        have := valF_ge r (acc * 10 + dig c)
        constructor
        · intro e; cases e
        · rintro ⟨_, h2, h3⟩; omega
      · rw [if_neg h1]; exact ih _ _ (by omega)
theorem parse_of_num (l : List UInt8) : ∀ acc v, acc ≤ 9223372036854775807 → numF acc l = some v → Lib.parseUint10 acc l = .ok v := by
  induction l with
  | nil => intro acc v h e; rw [numF] at e; cases e; rfl
  | cons c r ih =>
    intro acc v h e
    rw [numF] at e
    cases hd : dgC c
    · rw [hd] at e; simp at e
    · rw [hd] at e
      simp only [if_true] at e
      by_cases h1 : acc * 10 + dig c > 9223372036854775807
      · rw [if_pos h1] at e; cases e
      · rw [if_neg h1] at e
        simp only [dgC, Bool.and_eq_true, decide_eq_true_eq] at hd
        simp only [dig] at h1 e
        rw [Lib.parseUint10, if_pos hd, if_neg (by omega), if_neg (by omega)]
        exact ih _ _ (by omega) e

theorem snoc_ind {P : List UInt8 → Prop} (h0 : P []) (h1 : ∀ r c, P r → P (r ++ [c])) (l : List UInt8) : P l := by
  have : ∀ n (l : List UInt8), l.length = n → P l := by
    intro n
    induction n with
    | zero => intro l h; rw [List.eq_nil_of_length_eq_zero h]; exact h0
    | succ n ih =>
      intro l h
      have hne : l ≠ [] := by intro e; rw [e] at h; cases h
      rw [← List.dropLast_concat_getLast hne]
      exact h1 _ _ (ih _ (by rw [List.length_dropLast]; omega))
  exact this _ l rfl

theorem valF_snoc (acc : Nat) (r : List UInt8) (c : UInt8) : valF acc (r ++ [c]) = valF acc r * 10 + dig c := by simp [valF]
theorem dg_byte (c : UInt8) (h : dgC c = true) : dig c < 10 ∧ UInt8.ofNat (48 + dig c) = c := by
  simp only [dgC, Bool.and_eq_true, decide_eq_true_eq] at h
  unfold dig
  refine ⟨by omega, ?_⟩
  rw [show 48 + (c.toNat - 48) = c.toNat by omega]
  exact UInt8.ofNat_toNat

/-- No zero ahead. -/
def lead (l : List UInt8) : Prop := ∀ c r, l = c :: r → c.toNat ≠ 48
theorem val_pos (l : List UInt8) (hne : l ≠ []) (hl : lead l) (hd : l.all dgC = true) : 1 ≤ valF 0 l := by
  cases l with
  | nil => exact absurd rfl hne
  | cons c r =>
    have h1 := hl c r rfl
    rw [List.all_cons, Bool.and_eq_true] at hd
    have h2 := hd.1
    simp only [dgC, Bool.and_eq_true, decide_eq_true_eq] at h2
    have := valF_ge r (0 * 10 + dig c)
    have h3 : valF 0 (c :: r) = valF (0 * 10 + dig c) r := rfl
    unfold dig at *
    omega
theorem digits_val (l : List UInt8) : l ≠ [] → lead l → l.all dgC = true → Lib.decDigits (valF 0 l) = l := by
  induction l using snoc_ind with
  | h0 => intro h; exact absurd rfl h
  | h1 r c ih =>
    intro _ hl hd
    rw [List.all_append, Bool.and_eq_true] at hd
    obtain ⟨hr, hc⟩ := hd
    have hc : dgC c = true := by simpa using hc
    obtain ⟨b1, b2⟩ := dg_byte c hc
    rw [valF_snoc]
    by_cases hre : r = []
    · subst hre
      rw [Lib.decDigits, dif_pos (by simp [valF]; exact b1)]
      simp only [valF, List.foldl_nil, List.nil_append]
      rw [show 48 + (0 * 10 + dig c) = 48 + dig c by omega, b2]
    · have hlr : lead r := by
        intro x y e
        exact hl x (y ++ [c]) (by rw [e]; rfl)
      have hp := val_pos r hre hlr hr
      rw [Lib.decDigits, dif_neg (by omega), show (valF 0 r * 10 + dig c) / 10 = valF 0 r by omega, show (valF 0 r * 10 + dig c) % 10 = dig c by omega, b2, ih hre hlr hr]
theorem dg_of (d : Nat) (h : d < 10) : dgC (UInt8.ofNat (48 + d)) = true ∧ dig (UInt8.ofNat (48 + d)) = d ∧ (UInt8.ofNat (48 + d)).toNat = 48 + d := by
  have e : (UInt8.ofNat (48 + d)).toNat = 48 + d := by simp; omega
  unfold dgC dig
  rw [e]
  refine ⟨?_, by omega, rfl⟩
  rw [decide_eq_true (by omega), decide_eq_true (by omega)]; rfl
theorem val_digits (v : Nat) : Lib.decDigits v ≠ [] ∧ (Lib.decDigits v).all dgC = true ∧ valF 0 (Lib.decDigits v) = v ∧ (1 ≤ v → lead (Lib.decDigits v)) := by
  induction v using Nat.strongRecOn with
  | ind v ih =>
    rw [Lib.decDigits]
    by_cases h : v < 10
    · rw [dif_pos h]
      obtain ⟨h1, h2, h3⟩ := dg_of v h
      refine ⟨by simp, by simpa using h1, by show 0 * 10 + dig (UInt8.ofNat (48 + v)) = v; rw [h2]; omega, fun hv c r e => ?_⟩
      cases e; omega
    · rw [dif_neg h]
      obtain ⟨i1, i2, i3, i4⟩ := ih (v / 10) (by omega)
      obtain ⟨h1, h2, h3⟩ := dg_of (v % 10) (by omega)
      refine ⟨by simp, by rw [List.all_append, i2]; simpa using h1, by rw [valF_snoc, i3, h2]; omega, fun hv c r e => ?_⟩
      have hl := i4 (by omega)
      cases hd : Lib.decDigits (v / 10) with
      | nil => exact absurd hd i1
      | cons a b =>
        rw [hd] at e hl
        have e2 : a = c := by injection e
        exact e2 ▸ hl a b rfl

/-- What is read as a number is the numeral of that number. -/
theorem numL_iff (l : List UInt8) (v : Nat) : numL l = some v ↔ v ≤ 9223372036854775807 ∧ Lib.decDigits v = l := by
  constructor
  · intro h
    cases l with
    | nil => cases h
    | cons c r =>
      rw [numL] at h
      by_cases hz : (decide (c.toNat = 48) && decide (r ≠ [])) = true
      · rw [if_pos hz] at h; cases h
      · rw [if_neg hz] at h
        obtain ⟨h1, h2, h3⟩ := (numF_iff (c :: r) 0 v (by omega)).mp h
        refine ⟨h3, ?_⟩
        by_cases hc : c.toNat = 48
        · have hr : r = [] := by
            rw [decide_eq_true hc] at hz
            simpa using hz
          subst hr
          have : v = 0 := by rw [h2]; simp [valF, dig, hc]
          rw [this, Lib.decDigits, dif_pos (by omega)]
          congr 1
          apply UInt8.toNat_inj.mp
          rw [hc]; rfl
        · rw [h2]
          exact digits_val (c :: r) (by simp) (fun x y e => by cases e; exact hc) h1
  · rintro ⟨h1, rfl⟩
    obtain ⟨i1, i2, i3, i4⟩ := val_digits v
    cases hd : Lib.decDigits v with
    | nil => exact absurd hd i1
    | cons c r =>
      rw [numL, if_neg]
      · exact (numF_iff (c :: r) 0 v (by omega)).mpr ⟨by rw [← hd]; exact i2, by rw [← hd, i3], h1⟩
      · intro hz
        rw [Bool.and_eq_true, decide_eq_true_eq, decide_eq_true_eq] at hz
        by_cases hv : 1 ≤ v
        · exact i4 hv c r hd hz.1
        · have : v = 0 := by omega
          subst this
          rw [Lib.decDigits, dif_pos (by omega)] at hd
          cases hd
          exact hz.2 rfl
theorem atoi_of_num (l : List UInt8) (v : Nat) (h : numL l = some v) : Lib.atoiAll l = .ok (v : Int) := by
  have hb := (numL_iff l v).mp h
  cases l with
  | nil => cases h
  | cons c r =>
    rw [numL] at h
    by_cases hz : (decide (c.toNat = 48) && decide (r ≠ [])) = true
    · rw [if_pos hz] at h; cases h
    · rw [if_neg hz] at h
      have h1 := ((numF_iff (c :: r) 0 v (by omega)).mp h).1
      rw [List.all_cons, Bool.and_eq_true] at h1
      have h2 := h1.1
      simp only [dgC, Bool.and_eq_true, decide_eq_true_eq] at h2
      rw [Lib.atoiAll_plain c r (by omega) (by omega), Lib.parseMag, if_neg (by simp), parse_of_num _ _ _ (by omega) h]
      simp only [Lib.signless]
      rw [if_neg (by omega)]
end Nm
end Go.Proofs.YtfbhipcfjkkmmaaDoor
