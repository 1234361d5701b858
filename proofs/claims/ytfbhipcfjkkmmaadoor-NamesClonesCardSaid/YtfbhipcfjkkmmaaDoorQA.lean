/- Names, plainly: words, symbols, simple names: what the program's functions and the reference's compute. -/
import Derived.Test.YtfbhipcfjkkmmaaDoorPx2
import Derived.Test.YtfbhipcfjkkmmaaDoorPx5
namespace Go.Proofs.YtfbhipcfjkkmmaaDoor
open Go.RowKit Go.Proofs.YtfbhipcfjkkmmaaDoorW.PrintWords Go.Proofs.YtfbhipcfjkkmmaaDoorW.PrintLast Go.Proofs.YtfbhipcfjkkmmaaDoorW.PrintMore
open P
namespace Nm
set_option linter.unusedVariables false
set_option linter.unusedSimpArgs false

def upC (c : UInt8) : Bool := decide (65 ≤ c.toNat) && decide (c.toNat ≤ 90)
def loC (c : UInt8) : Bool := decide (97 ≤ c.toNat) && decide (c.toNat ≤ 122)
def dgC (c : UInt8) : Bool := decide (48 ≤ c.toNat) && decide (c.toNat ≤ 57)
def leC (c : UInt8) : Bool := upC c || loC c
def wdC (c : UInt8) : Bool := leC c || dgC c || decide (c.toNat = 95) || decide (c.toNat = 39)

theorem bt_nat (s : ByteArray) (i : Nat) (h : i < s.data.toList.length) : bt s i = ((s.data.toList[i]'h).toNat : Int) := by
  unfold bt
  have h' : (i : Int).toNat < s.size := by simpa using h
  rw [dif_pos h']
  simp
  rfl
theorem len (s : ByteArray) : s.data.toList.length = s.size := by simp

theorem rng (n lo hi : Nat) : (if (n : Int) ≥ (lo : Int) then some (decide ((n : Int) ≤ (hi : Int))) else some false) = some (decide (lo ≤ n) && decide (n ≤ hi)) := by
  by_cases h : lo ≤ n
  · rw [if_pos (by omega), decide_eq_true h, Bool.true_and]
    congr 1
    exact decide_eq_decide.mpr (by omega)
  · rw [if_neg (by omega), decide_eq_false h, Bool.false_and]
theorem upper_f (c : UInt8) : names_upper.f (c.toNat : Int) = some (upC c) := rng c.toNat 65 90
theorem letter_f (c : UInt8) : names_letter.f (c.toNat : Int) = some (leC c) := by
  unfold names_letter.f; rw [upper_f]; simp only [Option.bind_some, leC]
  have := rng c.toNat 97 122
  cases upC c
  · exact this
  · simp
theorem digit_f (c : UInt8) : names_digit.f (c.toNat : Int) = some (dgC c) := rng c.toNat 48 57
theorem rupper_f (c : UInt8) : lazycref01_upper.f (c.toNat : Int) = some (upC c) := rng c.toNat 65 90
theorem rdigit_f (c : UInt8) : lazycref01_digit.f (c.toNat : Int) = some (dgC c) := rng c.toNat 48 57
theorem beqI (n k : Nat) : ((n : Int) == (k : Int)) = decide (n = k) := by
  rw [Bool.eq_iff_iff]; simp; omega
theorem rlower_f (c : UInt8) : lazycref01_lower.f (c.toNat : Int) = some (loC c || decide (c.toNat = 95)) := by
  unfold lazycref01_lower.f loC
  have e : ((c.toNat : Int) == 95) = decide (c.toNat = 95) := beqI c.toNat 95
  rw [e]
  generalize c.toNat = n
  by_cases h1 : (n : Int) ≥ 97
  · rw [if_pos h1, decide_eq_true (by omega : 97 ≤ n)]
    by_cases h2 : (n : Int) ≤ 122
    · rw [if_pos h2, decide_eq_true (by omega : n ≤ 122)]; rfl
    · rw [if_neg h2, decide_eq_false (by omega : ¬ n ≤ 122)]; rfl
  · rw [if_neg h1, decide_eq_false (by omega : ¬ 97 ≤ n)]; rfl

theorem wrap_ok (i n : Nat) (h : i < n) (hn : n ≤ 100000) : wrap64 ((i : Int) + 1) = ((i + 1 : Nat) : Int) := by unfold wrap64; omega

theorem word_l0 (s : ByteArray) (hs : s.size ≤ 100000) : ∀ (n i k : Nat), n + i = s.size → n < k → names_word.l0 k s (i : Int) = some ((s.data.toList.drop i).all wdC)
  | 0, i, 0, _, h => by omega
  | 0, i, k + 1, h, _ => by
    rw [names_word.l0, if_neg (by omega), List.drop_of_length_le (by rw [len]; omega)]; rfl
  | n + 1, i, 0, _, h => by omega
  | n + 1, i, k + 1, h, hk => by
    have hi : i < s.data.toList.length := by rw [len]; omega
    rw [names_word.l0, if_pos (by omega), if_pos (by omega), bt_nat s i hi, letter_f, digit_f, wrap_ok i s.size (by omega) hs, List.drop_eq_getElem_cons hi, List.all_cons]
    have ih := word_l0 s hs n (i + 1) k (by omega) (by omega)
    generalize s.data.toList[i] = c at *
    rw [ih]
    simp only [Option.bind_some, wdC]
    cases leC c <;> cases dgC c <;> simp
    by_cases h1 : c.toNat = 95
    · simp [h1]
    · by_cases h2 : c.toNat = 39
      · simp [h2]
      · rw [if_neg (by omega), if_neg (by omega)]; simp [h1, h2]

def wordB (l : List UInt8) : Bool := match l with
  | [] => false
  | c :: r => decide ((c :: r).length ≤ 64) && (leC c || decide (c.toNat = 95)) && (c :: r).all wdC

theorem toL (s : ByteArray) : s.toList = s.data.toList := ByteArray.toList_eq s

theorem word_f (s : ByteArray) (hs : s.size ≤ 100000) (k : Nat) (hk : s.size + 1 < k) : names_word.f k s = some (wordB s.data.toList) := by
  obtain ⟨k, rfl⟩ : ∃ k', k = k' + 1 := ⟨k - 1, by omega⟩
  unfold names_word.f
  rw [toL]
  have hl := len s
  have hL := word_l0 s hs s.size 0 k (by omega) (by omega)
  rw [List.drop_zero] at hL
  cases hd : s.data.toList with
  | nil => rw [if_pos rfl, names_word.j0, if_pos rfl]; rfl
  | cons c r =>
    rw [hd] at hl hL
    rw [if_neg (by simp)]
    by_cases h64 : (s.size : Int) > 64
    · rw [if_pos h64, names_word.j0, if_pos rfl]
      simp only [wordB]
      rw [decide_eq_false (by omega)]; rfl
    · rw [if_neg h64, if_pos (by simp at hl; omega)]
      have hb := bt_nat s 0 (by rw [hd]; simp)
      simp only [hd, List.getElem_cons_zero] at hb
      rw [show bt s 0 = (c.toNat : Int) from hb, letter_f]
      simp only [Option.bind_some, wordB]
      rw [decide_eq_true (by omega : (c :: r).length ≤ 64), names_word.j0, names_word.j0]
      cases leC c
      · by_cases h1 : c.toNat = 95
        · have e : (((c.toNat : Int)) != 95) = false := by simp [h1]
          have hL' : names_word.l0 k s 0 = some ((c :: r).all wdC) := hL
          rw [e]; simp only [hL', Bool.false_eq_true, if_false, decide_eq_true h1, Bool.or_true, Bool.true_and]
        · have e : (((c.toNat : Int)) != 95) = true := by simp; omega
          rw [e]; simp [h1]
      · have hL' : names_word.l0 k s 0 = some ((c :: r).all wdC) := hL
        simp only [if_true, if_false, hL', Bool.false_eq_true, if_false, Bool.true_or, Bool.true_and]

theorem rword_l0 (s : ByteArray) (hs : s.size ≤ 100000) : ∀ (n i k : Nat), n + i = s.size → n < k → lazycref01_word.l0 k s (i : Int) = some ((s.data.toList.drop i).all wdC)
  | 0, i, 0, _, h => by omega
  | 0, i, k + 1, h, _ => by
    rw [lazycref01_word.l0, if_neg (by omega), List.drop_of_length_le (by rw [len]; omega)]; rfl
  | n + 1, i, 0, _, h => by omega
  | n + 1, i, k + 1, h, hk => by
    have hi : i < s.data.toList.length := by rw [len]; omega
    rw [lazycref01_word.l0, if_pos (by omega), if_pos (by omega), bt_nat s i hi, rlower_f, rupper_f, rdigit_f, wrap_ok i s.size (by omega) hs, List.drop_eq_getElem_cons hi, List.all_cons]
    have ih := rword_l0 s hs n (i + 1) k (by omega) (by omega)
    generalize s.data.toList[i] = c at *
    rw [ih]
    simp only [Option.bind_some, wdC, leC]
    cases loC c <;> cases upC c <;> cases dgC c <;> by_cases h1 : c.toNat = 95 <;> simp [h1]
    by_cases h2 : c.toNat = 39
    · simp [h2]
    · rw [if_neg (by omega)]; simp [h2]

theorem rword_f (s : ByteArray) (hs : s.size ≤ 100000) (k : Nat) (hk : s.size + 1 < k) : lazycref01_word.f k s = some (wordB s.data.toList) := by
  obtain ⟨k, rfl⟩ : ∃ k', k = k' + 1 := ⟨k - 1, by omega⟩
  unfold lazycref01_word.f
  have hl := len s
  have hL := rword_l0 s hs s.size 0 k (by omega) (by omega)
  rw [List.drop_zero] at hL
  cases hd : s.data.toList with
  | nil => rw [hd] at hl; rw [if_pos (by simp at hl; omega), lazycref01_word.j0, if_pos rfl]; rfl
  | cons c r =>
    rw [hd] at hl hL
    rw [if_neg (by simp at hl; omega)]
    by_cases h64 : (s.size : Int) > 64
    · rw [if_pos h64, lazycref01_word.j0, if_pos rfl]
      simp only [wordB]
      rw [decide_eq_false (by omega)]; rfl
    · rw [if_neg h64, if_pos (by simp at hl; omega)]
      have hb := bt_nat s 0 (by rw [hd]; simp)
      simp only [hd, List.getElem_cons_zero] at hb
      have hL' : lazycref01_word.l0 k s 0 = some ((c :: r).all wdC) := hL
      rw [show bt s 0 = (c.toNat : Int) from hb, rlower_f, rupper_f]
      simp only [Option.bind_some, wordB, leC]
      rw [decide_eq_true (by omega : (c :: r).length ≤ 64), lazycref01_word.j0, lazycref01_word.j0]
      cases loC c <;> cases upC c <;> by_cases h1 : c.toNat = 95 <;> simp [h1, hL']

def resW : List (List UInt8) := [[97, 115], [99, 97, 115, 101], [99, 108, 97, 115, 115], [100, 97, 116, 97], [100, 101, 114, 105, 118, 105, 110, 103], [100, 111], [101, 108, 115, 101], [104, 105, 100, 105, 110, 103], [105, 102], [105, 109, 112, 111, 114, 116], [105, 110], [105, 110, 102, 105, 120], [105, 110, 102, 105, 120, 108], [105, 110, 102, 105, 120, 114], [105, 110, 115, 116, 97, 110, 99, 101], [108, 101, 116], [109, 111, 100, 117, 108, 101], [111, 102], [113, 117, 97, 108, 105, 102, 105, 101, 100], [116, 104, 101, 110], [119, 104, 101, 114, 101], [95]]
def resS : List (List UInt8) := [[46, 46], [58, 58], [61], [92], [124], [60, 45], [45, 62], [64], [126], [61, 62]]

theorem ifsome {p : Prop} [Decidable p] (x : Bool) : (if p then some true else some x) = some (decide p || x) := by by_cases h : p <;> simp [h]
theorem resW_f (s : ByteArray) : names_reservedWord.f s = some (resW.contains s.data.toList) := by
  unfold names_reservedWord.f
  rw [toL]
  simp only [ifsome, resW, List.contains_cons, List.contains_nil]
  congr 1; rw [Bool.eq_iff_iff]; simp
theorem resS_f (s : ByteArray) : names_reservedSymbol.f s = some (resS.contains s.data.toList) := by
  unfold names_reservedSymbol.f
  rw [toL]
  simp only [ifsome, resS, List.contains_cons, List.contains_nil]
  congr 1; rw [Bool.eq_iff_iff]; simp
theorem rresS_f (s : ByteArray) : lazycref01_ReservedSymbol.f s = some (resS.contains s.data.toList) := by
  unfold lazycref01_ReservedSymbol.f
  rw [toL]
  simp only [ifsome, resS, List.contains_cons, List.contains_nil]
  congr 1; rw [Bool.eq_iff_iff]; simp
theorem rresW_j0 (s : ByteArray) (k : Nat) (b : Bool) : lazycref01_Reserved.j0 (k + 1) s b = some (b || (resW.drop 11).contains s.data.toList) := by
  rw [lazycref01_Reserved.j0, toL]
  cases b
  · simp only [Bool.false_eq_true, if_false, ifsome, resW, List.drop_succ_cons, List.drop_zero, List.contains_cons, List.contains_nil]
    congr 1; rw [Bool.eq_iff_iff]; simp
  · rfl
theorem ifeq {p : Prop} [Decidable p] (x y : Bool) (hp : p → x = true) : (if p then some x else some y) = some (decide p || y) := by
  by_cases h : p
  · rw [if_pos h, decide_eq_true h, hp h]; rfl
  · rw [if_neg h, decide_eq_false h]; rfl
theorem rresW_f (s : ByteArray) (k : Nat) (hk : 0 < k) : lazycref01_Reserved.f k s = some (resW.contains s.data.toList) := by
  obtain ⟨k, rfl⟩ : ∃ k', k = k' + 1 := ⟨k - 1, by omega⟩
  unfold lazycref01_Reserved.f
  simp only [rresW_j0, toL]
  repeat' rw [ifeq _ _ (fun h => by rw [beq_iff_eq.mpr h]; rfl)]
  congr 1
  simp only [resW, List.drop_succ_cons, List.drop_zero, List.contains_cons, List.contains_nil]
  rw [Bool.eq_iff_iff]; simp
end Nm
end Go.Proofs.YtfbhipcfjkkmmaaDoor
