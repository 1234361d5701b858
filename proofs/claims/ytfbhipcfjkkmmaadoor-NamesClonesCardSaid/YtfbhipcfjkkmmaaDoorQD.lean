/- Names, plainly: generated names, and the class of a name. -/
import Derived.Test.YtfbhipcfjkkmmaaDoorQC
import Derived.Test.YtfbhipcfjkkmmaaDoorPx3
import Derived.Test.YtfbhipcfjkkmmaaDoorPx6
import Derived.Test.YtfbhipcfjkkmmaaDoorPx9
import Derived.Lib.ItoaLen
namespace Go.Proofs.YtfbhipcfjkkmmaaDoor
open Go.RowKit Go.Proofs.YtfbhipcfjkkmmaaDoorW.PrintWords Go.Proofs.YtfbhipcfjkkmmaaDoorW.PrintLast Go.Proofs.YtfbhipcfjkkmmaaDoorW.PrintMore
open P
namespace Nm
set_option linter.unusedVariables false
set_option linter.unusedSimpArgs false

def In64 (n : Int) : Prop := -9223372036854775808 ≤ n ∧ n ≤ 9223372036854775807

theorem itoa_len (n : Int) (h : In64 n) : (Lib.itoa n).length ≤ 21 := Lib.itoa_length_le n h.1 h.2
theorem sz2 (s t : ByteArray) (c : UInt8) (hs : s.size ≤ 100000) (ht : t.size ≤ 100000) : s.size + 1 ≤ 9223372036854775807 ∧ (s ++ (⟨#[c]⟩ : ByteArray)).size + t.size ≤ 9223372036854775807 := sz1 s t c hs ht
theorem itoa_sz (n : Int) (h : In64 n) : (⟨(Lib.itoa n).toArray⟩ : ByteArray).size ≤ 100000 := by
  have := itoa_len n h
  show (Lib.itoa n).toArray.size ≤ 100000
  simp; omega

theorem Made_f (s : ByteArray) (n : Int) (hs : s.size ≤ 100000) (hn : In64 n) (k : Nat) (hk : s.size + 1 < k) : names_Made.f k s n = some (madeA s n) := by
  obtain ⟨e1, e2⟩ := sz1 s _ 36 hs (itoa_sz n hn)
  unfold names_Made.f madeA strconv_Itoa.f
  simp only [proper_f s hs k hk, Option.bind_some, if_pos e1, if_pos (show -9223372036854775808 ≤ n ∧ n ≤ 9223372036854775807 from hn), if_pos e2]
  by_cases h0 : n < 0
  · rw [if_pos h0, if_neg (by omega)]
  · rw [if_neg h0]
    cases stemB s
    · simp
    · rw [if_pos rfl, if_pos ⟨by omega, rfl⟩]
theorem rMade_f (s : ByteArray) (n : Int) (hs : s.size ≤ 100000) (hn : In64 n) (k : Nat) (hk : 2 * s.size + 3 < k) : lazycref01_Made.f k s n = some (madeA s n) := by
  obtain ⟨e1, e2⟩ := sz1 s _ 36 hs (itoa_sz n hn)
  unfold lazycref01_Made.f madeA strconv_Itoa.f
  simp only [rStem_f s hs k hk, Option.bind_some, if_pos e1, if_pos (show -9223372036854775808 ≤ n ∧ n ≤ 9223372036854775807 from hn), if_pos e2]
  by_cases h0 : n < 0
  · rw [if_neg (by omega : ¬ (0 ≤ n ∧ _))]
    cases stemB s
    · rfl
    · rw [if_pos rfl, if_pos h0]
  · cases stemB s
    · simp
    · rw [if_pos rfl, if_neg h0, if_pos ⟨by omega, rfl⟩]

/-- What is told of a string whose last '$' is at place d. -/
def baseD (s : ByteArray) (d : Int) : ByteArray × Int × Bool :=
  if d < 0 then (⟨#[]⟩, 0, false)
  else if stemB (s.extract 0 d.toNat) then
    match numL (s.extract (d.toNat + 1) s.size).data.toList with
    | some v => (s.extract 0 d.toNat, v, true)
    | none => (⟨#[]⟩, 0, false)
  else (⟨#[]⟩, 0, false)
def baseA (s : ByteArray) : ByteArray × Int × Bool := baseD s (lastDollar s)

theorem cut_at (s : ByteArray) (i : Nat) (hi : i < s.data.toList.length) : s.data.toList = (s.extract 0 i).data.toList ++ s.data.toList[i] :: (s.extract (i + 1) s.size).data.toList := by
  rw [ext_list, ext_list, List.drop_zero, Nat.sub_zero, List.take_of_length_le (l := s.data.toList.drop (i + 1)) (by rw [List.length_drop, len]; omega), ← List.drop_eq_getElem_cons hi, List.take_append_drop]

theorem madeA_list (s : ByteArray) (n : Int) : (madeA s n).data.toList = if 0 ≤ n ∧ stemB s = true then s.data.toList ++ 36 :: Lib.itoa n else [] := by
  unfold madeA
  split
  · simp
  · rfl

/-- The two ways to read a generated name agree. -/
theorem made_num (s : ByteArray) (i : Nat) (hi : i < s.data.toList.length) (h36 : s.data.toList[i] = 36) (v : Int) :
    ((madeA (s.extract 0 i) v).toList = s.toList) ↔ (stemB (s.extract 0 i) = true ∧ 0 ≤ v ∧ Lib.decDigits v.toNat = (s.extract (i + 1) s.size).data.toList) := by
  rw [toL, toL, madeA_list]
  have hc := cut_at s i hi
  rw [h36] at hc
  constructor
  · intro h
    by_cases hh : 0 ≤ v ∧ stemB (s.extract 0 i) = true
    · rw [if_pos hh, hc] at h
      have h2 := List.append_cancel_left h
      injection h2 with _ h2
      rw [Lib.itoa, if_neg (by omega)] at h2
      exact ⟨hh.2, hh.1, h2⟩
    · rw [if_neg hh] at h
      rw [← h] at hi; cases hi
  · rintro ⟨h1, h2, h3⟩
    rw [if_pos ⟨h2, h1⟩, hc, Lib.itoa, if_neg (by omega), h3]

theorem dollar (s : ByteArray) : lastDollar s = -1 ∨ ∃ (i : Nat) (hi : i < s.data.toList.length), lastDollar s = i ∧ s.data.toList[i] = 36 ∧ ∀ j (hj : j < s.data.toList.length), i < j → s.data.toList[j] ≠ 36 := by
  rcases Lib.lastIndexByte_spec s 36 with ⟨h, _⟩ | ⟨i, hi, h, h1, h2⟩
  · exact .inl h
  · refine .inr ⟨i, by rw [len]; exact hi, h, ?_, fun j hj hij e => ?_⟩
    · apply UInt8.toNat_inj.mp
      have e : s.data[i]! = s.data.toList[i]'(by rw [len]; exact hi) := by
        rw [getElem!_pos s.data i (by simpa using hi)]; simp
      rw [e] at h1
      have : (s.data.toList[i]'(by rw [len]; exact hi)).toNat = 36 := by omega
      exact this
    · have hj' : j < s.size := by rw [← len]; exact hj
      apply h2 j hij hj'
      rw [getElem!_pos s.data j (by simpa using hj')]
      have : s.data[j]'(by simpa using hj') = s.data.toList[j] := by simp
      rw [this, e]; rfl

theorem Base_f (s : ByteArray) (hs : s.size ≤ 100000) (k : Nat) (hk : s.size + 1 < k) : names_Base.f k s = some (baseA s) := by
  unfold names_Base.f baseA
  rw [if_pos (by omega)]
  rcases dollar s with h | ⟨i, hi, h, h1, _⟩
  · rw [h, if_pos (by decide)]; rfl
  · have hi' : i < s.size := by rw [← len]; exact hi
    rw [h, if_neg (by omega)]
    unfold baseD
    rw [if_neg (by omega), show ((i : Int) + 1).toNat = i + 1 by omega, show (i : Int).toNat = i from rfl]
    have hm := made_num s i hi h1
    have hsz : (s.extract 0 i).size ≤ s.size := by rw [ByteArray.size_extract]; omega
    generalize (s.extract (i + 1) s.size).data.toList = tl at *
    cases ha : Lib.atoiAll tl with
    | ok v =>
      have hb := Lib.atoiAll_bounds ha
      simp only [Made_f _ v (Nat.le_trans hsz hs) hb k (by omega), Option.bind_some]
      by_cases hc : (madeA (s.extract 0 i) v).toList = s.toList
      · obtain ⟨c1, c2, c3⟩ := (hm v).mp hc
        have hn := (numL_iff tl v.toNat).mpr ⟨by omega, c3⟩
        rw [if_pos hc, if_pos c1, hn]
        simp only
        rw [show ((v.toNat : Nat) : Int) = v by omega]
      · rw [if_neg hc]
        by_cases c1 : stemB (s.extract 0 i) = true
        · rw [if_pos c1]
          cases hn : numL tl with
          | none => rfl
          | some u =>
            have e := atoi_of_num tl u hn
            rw [ha] at e
            injection e with e
            subst e
            exact absurd ((hm u).mpr ⟨c1, by omega, ((numL_iff tl u).mp hn).2⟩) hc
        · rw [if_neg c1]
    | range =>
      cases hn : numL tl with
      | none => simp
      | some u => rw [atoi_of_num tl u hn] at ha; cases ha
    | _ =>
      cases hn : numL tl with
      | none => simp
      | some u => rw [atoi_of_num tl u hn] at ha; cases ha

theorem wrap_in (x : Int) (h0 : -9223372036854775808 ≤ x) (h1 : x ≤ 9223372036854775807) : wrap64 x = x := by unfold wrap64; omega
theorem num_lim (a d : Int) (h0 : 0 ≤ d) (h1 : d < 10) : a > (9223372036854775807 - d) / 10 ↔ a * 10 + d > 9223372036854775807 := by
  constructor
  · intro h
    have := Int.lt_mul_of_ediv_lt (by decide : (0 : Int) < 10) h
    omega
  · intro h
    exact Int.ediv_lt_of_lt_mul (by decide) (by omega)
theorem num_wrap (a d : Nat) (h : a * 10 + d ≤ 9223372036854775807) : wrap64 (wrap64 (10 * (a : Int)) + (d : Int)) = ((a * 10 + d : Nat) : Int) := by
  have e : wrap64 (10 * (a : Int)) = 10 * a := wrap_in _ (by omega) (by omega)
  rw [e, wrap_in _ (by omega) (by omega)]
  omega
theorem rnum_l0 (s : ByteArray) (hs : s.size ≤ 100000) : ∀ (n i k acc : Nat), n + i = s.size → n < k → acc ≤ 9223372036854775807 →
    lazycref01_number.l0 k s (acc : Int) (i : Int) = some (match numF acc (s.data.toList.drop i) with | some v => ((v : Int), true) | none => (0, false))
  | 0, i, 0, _, _, h, _ => by omega
  | 0, i, k + 1, acc, h, _, _ => by
    rw [lazycref01_number.l0, if_neg (by omega), List.drop_of_length_le (by rw [len]; omega)]; rfl
  | n + 1, i, 0, _, _, h, _ => by omega
  | n + 1, i, k + 1, acc, h, hk, ha => by
    have hi : i < s.data.toList.length := by rw [len]; omega
    have ih := fun acc' h' => rnum_l0 s hs n (i + 1) k acc' (by omega) (by omega) h'
    rw [lazycref01_number.l0, if_pos (by omega), if_pos (by omega), bt_nat s i hi, rdigit_f, wrap_ok i s.size (by omega) hs, List.drop_eq_getElem_cons hi, numF]
    generalize s.data.toList[i] = x at *
    simp only [Option.bind_some]
    cases hd : dgC x
    · rfl
    · simp only [if_true]
      have hx := hd
      simp only [dgC, Bool.and_eq_true, decide_eq_true_eq] at hx
      have e1 : ((x.toNat : Int) - 48) % 256 = (dig x : Int) := by unfold dig; omega
      have e2 : dig x < 10 := by unfold dig; omega
      rw [e1]
      by_cases hb : acc * 10 + dig x > 9223372036854775807
      · rw [if_pos ((num_lim acc (dig x) (by omega) (by omega)).mpr (by omega)), if_pos hb]
      · have hb' := Nat.le_of_not_lt hb
        rw [if_neg (fun e => hb (by have := (num_lim acc (dig x) (by omega) (by omega)).mp e; omega)), if_neg hb, num_wrap _ _ hb', ih _ hb']
theorem rnumber_f (s : ByteArray) (hs : s.size ≤ 100000) (k : Nat) (hk : s.size + 1 < k) :
    lazycref01_number.f k s = some (match numL s.data.toList with | some v => ((v : Int), true) | none => (0, false)) := by
  obtain ⟨k, rfl⟩ : ∃ k', k = k' + 1 := ⟨k - 1, by omega⟩
  have hL := rnum_l0 s hs s.size 0 k 0 (by omega) (by omega) (by omega)
  rw [List.drop_zero] at hL
  have hL' : lazycref01_number.l0 k s 0 0 = _ := hL
  unfold lazycref01_number.f
  have hl := len s
  rw [toL]
  cases hd : s.data.toList with
  | nil => rw [if_pos rfl, lazycref01_number.j0, if_pos rfl]; rfl
  | cons c r =>
    obtain ⟨h1, h2⟩ := first s c r hd
    rw [hd] at hL' hl
    rw [if_neg (by simp), if_pos h2, h1, numL]
    simp only [List.length_cons] at hl
    by_cases hc : c.toNat = 48
    · rw [if_pos (by omega), lazycref01_number.j0]
      by_cases hr : r = []
      · subst hr
        rw [decide_eq_false (by simp at hl; omega), if_neg (by simp), hL', if_neg (by simp)]
      · have : r.length ≠ 0 := fun e => hr (List.eq_nil_of_length_eq_zero e)
        rw [decide_eq_true (by omega), if_pos rfl, if_pos (by rw [decide_eq_true hc, decide_eq_true hr]; rfl)]
    · rw [if_neg (by omega), lazycref01_number.j0, if_neg (by simp), hL', if_neg (by rw [decide_eq_false hc]; simp)]

theorem rBase_j1 (s : ByteArray) (hs : s.size ≤ 100000) (i k : Nat) (b : Bool) (hi : i < s.size) (hk : s.size + 1 < k) :
    lazycref01_Base.j1 (k + 1) s (i : Int) (!b) = some (if b then (match numL (s.extract (i + 1) s.size).data.toList with | some v => (s.extract 0 i, (v : Int), true) | none => (⟨#[]⟩, 0, false)) else (⟨#[]⟩, 0, false)) := by
  rw [lazycref01_Base.j1]
  cases b
  · rfl
  · have hsz : (s.extract (i + 1) s.size).size ≤ s.size := by rw [ByteArray.size_extract]; omega
    rw [wrap_ok i s.size hi hs, if_neg (by simp), if_pos (by omega), if_pos (by omega), show ((i + 1 : Nat) : Int).toNat = i + 1 from rfl, rnumber_f _ (by omega) k (by omega)]
    simp only [Option.bind_some, if_true]
    cases numL (s.extract (i + 1) s.size).data.toList with
    | none => rfl
    | some v => simp only [if_true]; rw [if_pos (by omega), if_pos (by omega)]; rfl

theorem rBase_l0 (s : ByteArray) (hs : s.size ≤ 100000) : ∀ (n i k : Nat) (d : Int), n + i = s.size → n + 2 * s.size + 8 < k → (d = -1 ∨ ∃ j : Nat, d = j ∧ j < s.size) →
    ((∀ j (hj : j < s.data.toList.length), i ≤ j → s.data.toList[j] ≠ 36) → d = lastDollar s) → ((∃ j, ∃ hj : j < s.data.toList.length, i ≤ j ∧ s.data.toList[j] = 36) → True) →
    lazycref01_Base.l0 k s d (i : Int) = some (baseA s)
  | 0, i, 0, _, _, h, _, _, _ => by omega
  | 0, i, k + 1, d, h, hk, hd, hlast, _ => by
    have hdl := hlast (fun j hj hij => by rw [len] at hj; omega)
    rw [lazycref01_Base.l0, if_neg (by omega)]
    obtain ⟨k, rfl⟩ : ∃ k', k = k' + 1 := ⟨k - 1, by omega⟩
    unfold baseA
    rw [← hdl]
    rcases hd with rfl | ⟨j, rfl, hj⟩
    · rw [if_pos (by decide), lazycref01_Base.j1, if_pos rfl]; rfl
    · have hsz : (s.extract 0 j).size ≤ s.size := by rw [ByteArray.size_extract]; omega
      rw [if_neg (by omega), if_pos (by omega), if_pos (by omega), show (j : Int).toNat = j from rfl, rStem_f _ (by omega) _ (by omega)]
      simp only [Option.bind_some]
      rw [rBase_j1 s hs j k _ hj (by omega)]
      unfold baseD
      rw [if_neg (show ¬ ((j : Int) < 0) by omega), show (j : Int).toNat = j from rfl]
  | n + 1, i, 0, _, _, h, _, _, _ => by omega
  | n + 1, i, k + 1, d, h, hk, hd, hlast, _ => by
    have hi : i < s.data.toList.length := by rw [len]; omega
    rw [lazycref01_Base.l0, if_pos (by omega), if_pos (by omega), bt_nat s i hi, wrap_ok i s.size (by omega) hs]
    by_cases h1 : s.data.toList[i] = 36
    · rw [if_pos (by rw [h1]; rfl)]
      refine rBase_l0 s hs n (i + 1) k (i : Int) (by omega) (by omega) (.inr ⟨i, rfl, by omega⟩) (fun hno => ?_) (fun _ => trivial)
      rcases dollar s with e | ⟨i', hi', e, e1, e2⟩
      · exfalso
        rcases Lib.lastIndexByte_spec s 36 with ⟨_, h2⟩ | ⟨i2, hi2, h2, _⟩
        · apply h2 i (by omega)
          rw [getElem!_pos s.data i (by simpa using hi)]
          have : s.data[i]'(by simpa using hi) = s.data.toList[i] := by simp
          rw [this, h1]; rfl
        · have : lastDollar s = i2 := h2
          omega
      · rw [e]
        have : ¬ i < i' := fun hlt => hno i' hi' (by omega) e1
        have : ¬ i' < i := fun hlt => e2 i hi hlt h1
        omega
    · rw [if_neg (by
        intro e
        apply h1
        apply UInt8.toNat_inj.mp
        have : (s.data.toList[i]).toNat = 36 := by omega
        exact this)]
      refine rBase_l0 s hs n (i + 1) k d (by omega) (by omega) hd (fun hno => hlast (fun j hj hij => ?_)) (fun _ => trivial)
      by_cases e : j = i
      · subst e; exact h1
      · exact hno j hj (by omega)
theorem rBase_f (s : ByteArray) (hs : s.size ≤ 100000) (k : Nat) (hk : 3 * s.size + 8 < k) : lazycref01_Base.f k s = some (baseA s) := by
  unfold lazycref01_Base.f
  refine rBase_l0 s hs s.size 0 k (-1) (by omega) (by omega) (.inl rfl) (fun hno => ?_) (fun _ => trivial)
  rcases dollar s with e | ⟨i', hi', e, e1, e2⟩
  · exact e.symm
  · exact absurd e1 (hno i' hi' (by omega))

def classA (s : ByteArray) : Int := if cls s.data.toList = 0 then (if (baseA s).2.2 then 7 else 0) else cls s.data.toList
theorem rClassify_f (s : ByteArray) (hs : s.size ≤ 100000) (k : Nat) (hk : 3 * s.size + 8 < k) : lazycref01_Classify.f k s = some (classA s) := by
  unfold lazycref01_Classify.f classA
  simp only [rSimple_f s hs k (by omega), rBase_f s hs k hk, Option.bind_some]
  split
  · cases (baseA s).2.2 <;> rfl
  · rfl
theorem Classify_f (s : ByteArray) (hs : s.size ≤ 100000) (k : Nat) (hk : s.size + 8 < k) : names_Classify.f k s = some (classA s) := by
  obtain ⟨k, rfl⟩ : ∃ k', k = k' + 1 + 1 := ⟨k - 2, by omega⟩
  unfold names_Classify.f classA
  simp only [resW_f, resS_f, word_f s hs (k + 1 + 1) (by omega), names_symbol.f, names_Classify.j0, names_Classify.j1, word_f s hs (k + 1) (by omega), Base_f s hs k (by omega), Option.bind_some, cls]
  have w1 := resW_word s.data.toList
  have w2 := resS_sym s.data.toList
  have w3 := not_both s.data.toList
  cases hd : s.data.toList with
  | nil => cases (baseA s).2.2 <;> rfl
  | cons c r =>
    obtain ⟨h1, h2⟩ := first s c r hd
    rw [hd] at w1 w2 w3
    rw [h1, upper_f]
    have eu : upC c = upF (c :: r) := rfl
    have ec : (((c.toNat : Int)) == 58) = colF (c :: r) := beqI c.toNat 58
    rw [eu, ec]
    simp only [if_pos h2, Option.bind_some]
    by_cases h5 : resW.contains (c :: r) = true
    · simp only [h5, w1 h5, if_true]; rfl
    · simp only [h5, if_false]
      by_cases h6 : resS.contains (c :: r) = true
      · have hs := w2 h6
        have hw : ¬ wordB (c :: r) = true := fun hw => by rw [w3 hw] at hs; cases hs
        simp only [h6, hs, hw, if_true, if_false]; rfl
      · simp only [h6, if_false]
        by_cases hw : wordB (c :: r) = true
        · simp only [hw, if_true, if_false]
          by_cases hu : upF (c :: r) = true
          · simp only [hu, if_true]; rfl
          · simp only [hu, if_false]; rfl
        · simp only [hw, if_false]
          by_cases hs : symB (c :: r) = true
          · simp only [hs, if_true]
            by_cases hc : colF (c :: r) = true
            · simp only [hc, if_true]; rfl
            · simp only [hc, if_false]; rfl
          · simp only [hs, if_false]
            by_cases hb : (baseA s).2.2 = true
            · simp only [hb, if_true]; rfl
            · simp only [hb, if_false]; rfl
end Nm
end Go.Proofs.YtfbhipcfjkkmmaaDoor
