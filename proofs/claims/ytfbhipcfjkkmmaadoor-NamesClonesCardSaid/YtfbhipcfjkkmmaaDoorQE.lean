/- Names, plainly: what is split is joined again, what is made is based again. -/
import Derived.Test.YtfbhipcfjkkmmaaDoorQD
namespace Go.Proofs.YtfbhipcfjkkmmaaDoor
open Go.RowKit
open P
namespace Nm
set_option linter.unusedVariables false
set_option linter.unusedSimpArgs false

theorem word_all (l : List UInt8) (h : wordB l = true) : l ≠ [] ∧ l.all wdC = true := by
  cases l with
  | nil => cases h
  | cons c r => simp only [wordB, Bool.and_eq_true] at h; exact ⟨by simp, h.2⟩
theorem sym_all (l : List UInt8) (h : symB l = true) : l ≠ [] ∧ l.all symC = true := by
  unfold symB at h
  by_cases h0 : l = []
  · rw [if_pos h0] at h; cases h
  · rw [if_neg h0] at h
    split at h
    · cases h
    · rw [Bool.and_eq_true] at h; exact ⟨h0, h.1⟩
theorem simple_two (l : List UInt8) (h : simpleB l = true) : wordB l = true ∨ symB l = true := by
  unfold simpleB at h
  cases hw : wordB l
  · rw [hw] at h
    cases hs : symB l
    · rw [hs] at h; simp at h
    · exact .inr rfl
  · exact .inl rfl
theorem joinOk_parts (m n : List UInt8) (h : joinOk m n = true) : wordB m = true ∧ upF m = true ∧ simpleB n = true := by
  unfold joinOk at h
  simp only [Bool.and_eq_true] at h
  exact ⟨h.1.1.1, h.1.2, h.2⟩
theorem wd_of_dg (c : UInt8) (h : dgC c = true) : wdC c = true := by unfold wdC; rw [h]; simp
theorem last_is (l : List UInt8) (h : l ≠ []) : ∃ r c, l = r ++ [c] := ⟨l.dropLast, l.getLast h, (List.dropLast_concat_getLast h).symm⟩
theorem mem_all {p : UInt8 → Bool} {l : List UInt8} {c : UInt8} (h : l.all p = true) (hc : c ∈ l) : p c = true := List.all_eq_true.mp h c hc

/-- A qualified name is no generated name. -/
theorem join_or_made (l a b h tl : List UInt8) (e1 : l = a ++ 46 :: b) (hj : joinOk a b = true) (e2 : l = h ++ 36 :: tl) (hne : tl ≠ []) (hd : tl.all dgC = true) : False := by
  obtain ⟨j1, j2, j3⟩ := joinOk_parts a b hj
  have ha := (word_all a j1).2
  rcases simple_two b j3 with hb | hb
  · have hb2 := (word_all b hb).2
    have hm : (36 : UInt8) ∈ a ++ 46 :: b := by rw [← e1, e2]; simp
    rcases List.mem_append.mp hm with h1 | h1
    · exact absurd (mem_all ha h1) (by decide)
    · rcases List.mem_cons.mp h1 with h2 | h2
      · exact absurd h2 (by decide)
      · exact absurd (mem_all hb2 h2) (by decide)
  · obtain ⟨b1, b2⟩ := sym_all b hb
    obtain ⟨r, c, rfl⟩ := last_is b b1
    obtain ⟨t, d, rfl⟩ := last_is tl hne
    have e : (a ++ 46 :: r) ++ [c] = (h ++ 36 :: t) ++ [d] := by
      have : a ++ 46 :: (r ++ [c]) = h ++ 36 :: (t ++ [d]) := e1.symm.trans e2
      simpa using this
    have hcd : c = d := by
      have := List.append_inj_right' e rfl
      simpa using this
    have h1 := mem_all b2 (show c ∈ r ++ [c] by simp)
    have h2 := mem_all hd (show d ∈ t ++ [d] by simp)
    rw [hcd] at h1
    have := symC_not d h1
    rw [wd_of_dg d h2] at this
    cases this
/-- A word or a symbol is no generated name. -/
theorem simple_or_made (l h tl : List UInt8) (hl : wordB l = true ∨ symB l = true) (e2 : l = h ++ 36 :: tl) (hne : tl ≠ []) (hd : tl.all dgC = true) : False := by
  rcases hl with hw | hs
  · exact absurd (mem_all (word_all l hw).2 (show (36 : UInt8) ∈ l by rw [e2]; simp)) (by decide)
  · obtain ⟨t, d, rfl⟩ := last_is tl hne
    have h2 := mem_all hd (show d ∈ t ++ [d] by simp)
    have := symC_not d (mem_all (sym_all l hs).2 (show d ∈ l by rw [e2]; simp))
    rw [wd_of_dg d h2] at this
    cases this
/-- A word or a symbol is no qualified name. -/
theorem simple_or_join (l a b : List UInt8) (hl : wordB l = true ∨ symB l = true) (e1 : l = a ++ 46 :: b) (hj : joinOk a b = true) : False := by
  obtain ⟨j1, j2, j3⟩ := joinOk_parts a b hj
  obtain ⟨a1, a2⟩ := word_all a j1
  rcases hl with hw | hs
  · exact absurd (mem_all (word_all l hw).2 (show (46 : UInt8) ∈ l by rw [e1]; simp)) (by decide)
  · cases a with
    | nil => exact a1 rfl
    | cons c r =>
      have h1 := symC_not c (mem_all (sym_all l hs).2 (show c ∈ l by rw [e1]; simp))
      rw [mem_all a2 (show c ∈ c :: r by simp)] at h1
      cases h1

theorem joinA_list (m n : ByteArray) : (joinA m n).data.toList = if joinOk m.data.toList n.data.toList then m.data.toList ++ 46 :: n.data.toList else [] := by
  unfold joinA
  split
  · simp
  · rfl

theorem index_app (a b : List UInt8) (c : UInt8) (h : c ∉ a) : Lib.indexByte (a ++ c :: b) c = a.length := by
  induction a with
  | nil => simp [Lib.indexByte]
  | cons x r ih =>
    have hx : (x == c) = false := by
      rw [Bool.eq_false_iff]; intro e
      exact h (by rw [beq_iff_eq.mp e]; simp)
    have ih' := ih (fun hm => h (List.mem_cons_of_mem _ hm))
    rw [List.cons_append, Lib.indexByte, hx, ih']
    have e : (((r.length : Int)) == -1) = false := by rw [Bool.eq_false_iff]; intro e; have := beq_iff_eq.mp e; omega
    rw [e]
    simp
theorem ext_app (s : ByteArray) (a b : List UInt8) (c : UInt8) (h : s.data.toList = a ++ c :: b) : (s.extract 0 a.length).data.toList = a ∧ (s.extract (a.length + 1) s.size).data.toList = b := by
  constructor
  · rw [ext_list, h]; simp
  · rw [ext_list, h, ← len s, h]; simp
    exact List.take_of_length_le (by omega)

/-- What Split tells. -/
theorem split_ok (s : ByteArray) : ((splitA s).2.2 = true ∧ s.data.toList = (splitA s).1.data.toList ++ 46 :: (splitA s).2.1.data.toList ∧ joinOk (splitA s).1.data.toList (splitA s).2.1.data.toList = true ∧ (splitA s).1.size ≤ s.size ∧ (splitA s).2.1.size ≤ s.size) ∨
    (splitA s = (⟨#[]⟩, ⟨#[]⟩, false)) := by
  unfold splitA
  by_cases h : Lib.indexByte s.data.toList 46 < 0
  · right; unfold splitD; rw [if_pos h]
  · obtain ⟨i, hi⟩ : ∃ i : Nat, Lib.indexByte s.data.toList 46 = i := ⟨_, (Int.toNat_of_nonneg (by omega)).symm⟩
    rw [hi, splitD_nat]
    obtain ⟨hl, hx⟩ := List.getElem?_eq_some_iff.mp (Lib.indexByte_some hi).1
    by_cases hj : joinOk (s.extract 0 i).data.toList (s.extract (i + 1) s.size).data.toList = true
    · left
      rw [if_pos hj]
      have := cut_at s i hl
      rw [hx] at this
      exact ⟨rfl, this, hj, by show (s.extract 0 i).size ≤ _; rw [ByteArray.size_extract]; omega, by show (s.extract (i + 1) s.size).size ≤ _; rw [ByteArray.size_extract]; omega⟩
    · right; rw [if_neg hj]
theorem split_join (m n : ByteArray) (h : joinOk m.data.toList n.data.toList = true) : splitA (joinA m n) = (m, n, true) := by
  have hl := joinA_list m n
  rw [if_pos h] at hl
  have hno : (46 : UInt8) ∉ m.data.toList := fun hm => absurd (mem_all (word_all _ (joinOk_parts _ _ h).1).2 hm) (by decide)
  obtain ⟨e1, e2⟩ := ext_app _ _ _ _ hl
  unfold splitA
  rw [hl, index_app _ _ _ hno, splitD_nat, e1, e2, if_pos h, bytes_ext e1, bytes_ext e2]

/-- What Base tells. -/
theorem base_ok (s : ByteArray) : ((baseA s).2.2 = true ∧ ∃ v : Nat, (baseA s).2.1 = v ∧ v ≤ 9223372036854775807 ∧ stemB (baseA s).1 = true ∧ s.data.toList = (baseA s).1.data.toList ++ 36 :: Lib.decDigits v ∧ (baseA s).1.size ≤ s.size) ∨
    (baseA s = (⟨#[]⟩, 0, false)) := by
  unfold baseA
  rcases dollar s with h | ⟨i, hi, h, h1, _⟩
  · right; rw [h]; rfl
  · have hb : baseD s (i : Int) = if stemB (s.extract 0 i) then (match numL (s.extract (i + 1) s.size).data.toList with | some v => (s.extract 0 i, (v : Int), true) | none => (⟨#[]⟩, 0, false)) else (⟨#[]⟩, 0, false) := by
      unfold baseD; rw [if_neg (by omega)]; rfl
    rw [h, hb]
    by_cases hs : stemB (s.extract 0 i) = true
    · rw [if_pos hs]
      cases hn : numL (s.extract (i + 1) s.size).data.toList with
      | none => right; rfl
      | some v =>
        left
        obtain ⟨n1, n2⟩ := (numL_iff _ v).mp hn
        have := cut_at s i hi
        rw [h1, ← n2] at this
        exact ⟨rfl, v, rfl, n1, hs, this, by show (s.extract 0 i).size ≤ _; rw [ByteArray.size_extract]; omega⟩
    · right; rw [if_neg hs]
theorem made_list (s : ByteArray) (n : Int) (h0 : 0 ≤ n) (hs : stemB s = true) : (madeA s n).data.toList = s.data.toList ++ 36 :: Lib.decDigits n.toNat := by
  rw [madeA_list, if_pos ⟨h0, hs⟩, Lib.itoa, if_neg (by omega)]
theorem base_made (s : ByteArray) (n : Int) (h0 : 0 ≤ n) (h1 : n ≤ 9223372036854775807) (hs : stemB s = true) : baseA (madeA s n) = (s, n, true) := by
  have hl := made_list s n h0 hs
  obtain ⟨v1, v2, v3, v4⟩ := val_digits n.toNat
  obtain ⟨e1, e2⟩ := ext_app _ _ _ _ hl
  have hlen : (madeA s n).data.toList.length = s.data.toList.length + 1 + (Lib.decDigits n.toNat).length := by rw [hl]; simp; omega
  have hd : lastDollar (madeA s n) = (s.data.toList.length : Nat) := by
    rcases Lib.lastIndexByte_spec (madeA s n) 36 with ⟨h, h2⟩ | _
    · exfalso
      have hi : s.data.toList.length < (madeA s n).data.toList.length := by omega
      apply h2 s.data.toList.length (by rw [← len]; exact hi)
      rw [getElem!_pos (madeA s n).data _ (by simpa using hi)]
      have e : (madeA s n).data[s.data.toList.length]'(by simpa using hi) = (madeA s n).data.toList[s.data.toList.length]'hi := by simp
      rw [e]
      have e2 : (madeA s n).data.toList[s.data.toList.length]'hi = 36 := by simp only [hl]; simp
      rw [e2]; rfl
    · rcases dollar (madeA s n) with h | ⟨i, hi, h, h1, h2⟩
      · exfalso
        rename_i hh
        obtain ⟨i, _, h3, _⟩ := hh
        have : lastDollar (madeA s n) = i := h3
        omega
      · rw [h]
        have hi0 : s.data.toList.length < (madeA s n).data.toList.length := by omega
        have e36 : (madeA s n).data.toList[s.data.toList.length]'hi0 = 36 := by simp only [hl]; simp
        have a1 : ¬ i < s.data.toList.length := fun hlt => h2 _ hi0 hlt e36
        have a2 : ¬ s.data.toList.length < i := by
          intro hgt
          have hm : (36 : UInt8) ∈ Lib.decDigits n.toNat := by
            rw [← h1]
            have : (madeA s n).data.toList[i]'hi = (Lib.decDigits n.toNat)[i - (s.data.toList.length + 1)]'(by omega) := by
              simp only [hl]
              rw [List.getElem_append_right (by omega)]
              rw [List.getElem_cons]
              rw [dif_neg (by omega)]
              congr 1
            rw [this]
            exact List.getElem_mem _
          exact absurd (mem_all v2 hm) (by decide)
        omega
  unfold baseA baseD
  rw [hd, if_neg (by omega)]
  rw [show ((s.data.toList.length : Nat) : Int).toNat = s.data.toList.length from rfl, e2, bytes_ext e1, if_pos hs, (numL_iff _ n.toNat).mpr ⟨by omega, rfl⟩]
  show (s, ((n.toNat : Nat) : Int), true) = _
  rw [Int.toNat_of_nonneg h0]

/-- Neither a qualified name nor a word nor a symbol is told of by Base. -/
theorem base_not (s : ByteArray) (h : (baseA s).2.2 = true) : ∃ hd tl : List UInt8, s.data.toList = hd ++ 36 :: tl ∧ tl ≠ [] ∧ tl.all dgC = true := by
  rcases base_ok s with ⟨_, v, _, _, _, h5, _⟩ | h2
  · obtain ⟨v1, v2, _, _⟩ := val_digits v
    exact ⟨_, _, h5, v1, v2⟩
  · rw [h2] at h; cases h
theorem base_join (s : ByteArray) (a b : List UInt8) (h : s.data.toList = a ++ 46 :: b) (hj : joinOk a b = true) : baseA s = (⟨#[]⟩, 0, false) := by
  rcases base_ok s with ⟨h1, _⟩ | h2
  · obtain ⟨hd, tl, e, e1, e2⟩ := base_not s h1
    exact (join_or_made _ a b hd tl h hj e e1 e2).elim
  · exact h2
theorem base_simple (s : ByteArray) (h : wordB s.data.toList = true ∨ symB s.data.toList = true) : baseA s = (⟨#[]⟩, 0, false) := by
  rcases base_ok s with ⟨h1, _⟩ | h2
  · obtain ⟨hd, tl, e, e1, e2⟩ := base_not s h1
    exact (simple_or_made _ hd tl h e e1 e2).elim
  · exact h2
theorem cls_zero (l : List UInt8) (h1 : wordB l = false) (h2 : symB l = false) : cls l = 0 := by
  unfold cls; rw [h1, h2]; rfl
theorem cls_simple (l : List UInt8) (h : cls l ≠ 0) : wordB l = true ∨ symB l = true := by
  cases h1 : wordB l
  · cases h2 : symB l
    · exact absurd (cls_zero l h1 h2) h
    · exact .inr rfl
  · exact .inl rfl
theorem cls_lt (l : List UInt8) : cls l ≠ 7 := by
  unfold cls
  cases wordB l <;> cases symB l <;> cases resW.contains l <;> cases resS.contains l <;> cases upF l <;> cases colF l <;> decide
theorem class_join (s : ByteArray) (a b : List UInt8) (h : s.data.toList = a ++ 46 :: b) (hj : joinOk a b = true) : classA s = 0 := by
  have hc : cls s.data.toList = 0 := Decidable.byContradiction fun hne => simple_or_join _ a b (cls_simple _ hne) h hj
  unfold classA
  rw [if_pos hc, base_join s a b h hj]; rfl
theorem class_base (s : ByteArray) : (baseA s).2.2 = (classA s == 7) := by
  unfold classA
  by_cases hc : cls s.data.toList = 0
  · rw [if_pos hc]
    cases (baseA s).2.2 <;> rfl
  · rw [if_neg hc, base_simple s (cls_simple _ hc)]
    symm
    rw [beq_eq_false_iff_ne]
    exact cls_lt _
theorem split_base (s : ByteArray) (h : (baseA s).2.2 = true) : splitA s = (⟨#[]⟩, ⟨#[]⟩, false) := by
  rcases split_ok s with ⟨_, h2, h3, _⟩ | h2
  · rw [base_join s _ _ h2 h3] at h; cases h
  · exact h2
end Nm
end Go.Proofs.YtfbhipcfjkkmmaaDoor
