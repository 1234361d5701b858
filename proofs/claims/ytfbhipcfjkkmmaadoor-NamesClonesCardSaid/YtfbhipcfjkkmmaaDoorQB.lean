/- Names, plainly: symbols, simple names, qualified names. -/
import Derived.Test.YtfbhipcfjkkmmaaDoorQA
namespace Go.Proofs.YtfbhipcfjkkmmaaDoor
open Go.RowKit Go.Proofs.YtfbhipcfjkkmmaaDoorW.PrintWords Go.Proofs.YtfbhipcfjkkmmaaDoorW.PrintLast Go.Proofs.YtfbhipcfjkkmmaaDoorW.PrintMore
open P
namespace Nm
set_option linter.unusedVariables false
set_option linter.unusedSimpArgs false

theorem rSymbolic_f (c : UInt8) : lazycref01_Symbolic.f (c.toNat : Int) = some (symC c) := by
  have := c.toNat_lt
  unfold lazycref01_Symbolic.f
  rw [if_pos (by omega)]
  congr 2
  exact UInt8.ofNat_toNat

theorem rsym_l0 (s : ByteArray) (hs : s.size ≤ 100000) : ∀ (n i k c : Nat), n + i = s.size → n < k → c ≤ i → lazycref01_symbol.l0 k s (c : Int) (i : Int) = some ((s.data.toList.drop i).all symC && (decide (c + (s.data.toList.drop i).count 45 < s.size) || decide (s.size = 1)))
  | 0, i, 0, c, _, h, _ => by omega
  | 0, i, k + 1, c, h, _, _ => by
    rw [lazycref01_symbol.l0, if_neg (by omega), List.drop_of_length_le (by rw [len]; omega)]
    simp only [List.all_nil, List.count_nil, Bool.true_and, Nat.add_zero]
    have e : ((s.size : Int) == 1) = decide (s.size = 1) := beqI s.size 1
    rw [e]
    by_cases h1 : c < s.size
    · rw [if_pos (by omega)]; simp [h1]
    · rw [if_neg (by omega)]; simp [h1]
  | n + 1, i, 0, c, _, h, _ => by omega
  | n + 1, i, k + 1, c, h, hk, hc => by
    have hi : i < s.data.toList.length := by rw [len]; omega
    rw [lazycref01_symbol.l0, if_pos (by omega), if_pos (by omega), bt_nat s i hi, rSymbolic_f, wrap_ok i s.size (by omega) hs, wrap_ok c s.size (by omega) hs, List.drop_eq_getElem_cons hi, List.all_cons, List.count_cons]
    have ih1 := rsym_l0 s hs n (i + 1) k (c + 1) (by omega) (by omega) (by omega)
    have ih2 := rsym_l0 s hs n (i + 1) k c (by omega) (by omega) (by omega)
    generalize s.data.toList[i] = x at *
    rw [ih1, ih2]
    simp only [Option.bind_some]
    cases symC x
    · simp
    · simp only [if_true, Bool.true_and]
      by_cases h1 : x = 45
      · subst h1; rw [if_pos (by decide)]; simp only [beq_self_eq_true, if_true]
        rw [show c + 1 + List.count 45 (List.drop (i + 1) s.data.toList) = c + (List.count 45 (List.drop (i + 1) s.data.toList) + 1) by omega]
      · have h2 : ¬ (x.toNat : Int) = 45 := by
          intro e
          apply h1
          apply UInt8.toNat_inj.mp
          have : x.toNat = 45 := by omega
          exact this
        rw [if_neg h2, if_neg (by simpa using h1)]
        simp

theorem rsymbol_f (s : ByteArray) (hs : s.size ≤ 100000) (k : Nat) (hk : s.size + 1 < k) : lazycref01_symbol.f k s = some (symB s.data.toList) := by
  obtain ⟨k, rfl⟩ : ∃ k', k = k' + 1 := ⟨k - 1, by omega⟩
  have hL := rsym_l0 s hs s.size 0 k 0 (by omega) (by omega) (by omega)
  rw [List.drop_zero, Nat.zero_add] at hL
  have hL' : lazycref01_symbol.l0 k s 0 0 = _ := hL
  have hl := len s
  unfold lazycref01_symbol.f symB
  by_cases h0 : (s.size : Int) < 1
  · rw [if_pos h0, lazycref01_symbol.j0, if_pos rfl, if_pos (List.eq_nil_of_length_eq_zero (by omega))]
  · have hne : ¬ s.data.toList = [] := fun e => absurd (show s.size = 0 by rw [← len, e]; rfl) (by omega)
    rw [if_neg h0, if_neg hne, lazycref01_symbol.j0]
    by_cases h1 : (s.size : Int) > 64
    · rw [decide_eq_true h1, if_pos rfl, if_pos (by omega)]
    · rw [decide_eq_false h1, if_neg (by simp), if_neg (by omega), hL', hl]
      congr 2
      rw [Bool.or_comm]
      congr 1
      · exact decide_eq_decide.mpr (by omega)
      · exact decide_eq_decide.mpr (by omega)

def simpleB (l : List UInt8) : Bool := wordB l && !resW.contains l || symB l && !resS.contains l
def upF (l : List UInt8) : Bool := match l with | [] => false | c :: _ => upC c
def colF (l : List UInt8) : Bool := match l with | [] => false | c :: _ => decide (c.toNat = 58)
/-- The class of a word or symbol, otherwise 0. -/
def cls (l : List UInt8) : Int := if wordB l then (if resW.contains l then 5 else if upF l then 2 else 1) else if symB l then (if resS.contains l then 6 else if colF l then 4 else 3) else 0

theorem symC_not (c : UInt8) (h : symC c = true) : wdC c = false := by
  have : (symL.all fun c => !wdC c) = true := by decide
  have := List.all_eq_true.mp this c (List.contains_iff_mem.mp h)
  simpa using this
theorem not_both (l : List UInt8) (h : wordB l = true) : symB l = false := by
  cases l with
  | nil => cases h
  | cons c r =>
    simp only [wordB, Bool.and_eq_true, List.all_cons] at h
    unfold symB
    rw [if_neg (by simp)]
    split
    · rfl
    · rw [List.all_cons]
      cases hc : symC c
      · rfl
      · rw [symC_not c hc] at h; exact absurd h.2.1 (by simp)
theorem resW_word (l : List UInt8) (h : resW.contains l = true) : wordB l = true := by
  have : (resW.all wordB) = true := by decide
  exact List.all_eq_true.mp this l (List.contains_iff_mem.mp h)
theorem resS_sym (l : List UInt8) (h : resS.contains l = true) : symB l = true := by
  have : (resS.all symB) = true := by decide
  exact List.all_eq_true.mp this l (List.contains_iff_mem.mp h)

theorem simple_f (s : ByteArray) (hs : s.size ≤ 100000) (k : Nat) (hk : s.size + 1 < k) : names_simple.f k s = some (simpleB s.data.toList) := by
  unfold names_simple.f
  simp only [word_f s hs k hk, names_symbol.f, resW_f, resS_f, Option.bind_some, simpleB]
  cases wordB s.data.toList <;> cases symB s.data.toList <;> cases resW.contains s.data.toList <;> simp

theorem first (s : ByteArray) (c : UInt8) (r : List UInt8) (h : s.data.toList = c :: r) : bt s 0 = (c.toNat : Int) ∧ 0 < (s.size : Int) := by
  have hb := bt_nat s 0 (by rw [h]; simp)
  simp only [h, List.getElem_cons_zero] at hb
  have := len s
  rw [h] at this; simp at this
  exact ⟨hb, by omega⟩

theorem rSimple_f (s : ByteArray) (hs : s.size ≤ 100000) (k : Nat) (hk : s.size + 1 < k) : lazycref01_Simple.f k s = some (cls s.data.toList) := by
  unfold lazycref01_Simple.f cls
  simp only [rword_f s hs k hk, rsymbol_f s hs k hk, rresW_f s k (by omega), rresS_f, Option.bind_some]
  cases hd : s.data.toList with
  | nil => simp [wordB, symB]
  | cons c r =>
    obtain ⟨h1, h2⟩ := first s c r hd
    rw [h1, rupper_f]
    have eu : upC c = upF (c :: r) := rfl
    have ec : ((c.toNat : Int) = 58) = (colF (c :: r) = true) := by
      simp only [colF, decide_eq_true_eq]; exact propext (by omega)
    rw [eu]
    simp only [if_pos h2, Option.bind_some, ec]
    cases wordB (c :: r) <;> cases symB (c :: r) <;> cases resW.contains (c :: r) <;> cases resS.contains (c :: r) <;> cases upF (c :: r) <;> cases colF (c :: r) <;> rfl

theorem rNamed_f (s : ByteArray) (hs : s.size ≤ 100000) (k : Nat) (hk : s.size + 1 < k) : lazycref01_Named.f k s = some (simpleB s.data.toList) := by
  unfold lazycref01_Named.f
  simp only [rSimple_f s hs k hk, Option.bind_some, cls, simpleB]
  generalize s.data.toList = l
  have nb := not_both l
  revert nb
  cases wordB l <;> cases symB l <;> cases resW.contains l <;> cases resS.contains l <;> cases upF l <;> cases colF l <;> intro nb <;> first | rfl | exact absurd (nb rfl) (by simp)

def joinOk (m n : List UInt8) : Bool := wordB m && !resW.contains m && upF m && simpleB n

theorem up_notres (l : List UInt8) (h : upF l = true) : resW.contains l = false := by
  cases hc : resW.contains l
  · rfl
  · have : (resW.all fun l => !upF l) = true := by decide
    have := List.all_eq_true.mp this l (List.contains_iff_mem.mp hc)
    rw [h] at this; cases this

def joinA (m n : ByteArray) : ByteArray := if joinOk m.data.toList n.data.toList then (m ++ (⟨#[46]⟩ : ByteArray)) ++ n else ⟨#[]⟩

theorem bytes_ext {a b : ByteArray} (h : a.data.toList = b.data.toList) : a = b := by
  cases a; cases b; congr; exact Array.toList_inj.mp h
theorem ext_list (s : ByteArray) (i j : Nat) : (s.extract i j).data.toList = (s.data.toList.drop i).take (j - i) := by
  rw [Lib.extract_data]
theorem sz1 (m n : ByteArray) (c : UInt8) (hm : m.size ≤ 100000) (hn : n.size ≤ 100000) : m.size + 1 ≤ 9223372036854775807 ∧ (m ++ (⟨#[c]⟩ : ByteArray)).size + n.size ≤ 9223372036854775807 := by
  rw [ByteArray.size_append]
  have : (⟨#[c]⟩ : ByteArray).size = 1 := rfl
  omega

theorem Join_f (m n : ByteArray) (hm : m.size ≤ 100000) (hn : n.size ≤ 100000) (k : Nat) (hk : m.size + 1 < k) (hk2 : n.size + 1 < k) : names_Join.f k m n = some (joinA m n) := by
  obtain ⟨e1, e2⟩ := sz1 m n 46 hm hn
  unfold names_Join.f joinA joinOk
  simp only [word_f m hm k hk, simple_f n hn k hk2, Option.bind_some, if_pos e1, if_pos e2]
  cases hd : m.data.toList with
  | nil => simp [wordB]
  | cons c r =>
    obtain ⟨h1, h2⟩ := first m c r hd
    have hu := up_notres (c :: r)
    rw [h1, upper_f]
    have eu : upC c = upF (c :: r) := rfl
    rw [eu]
    simp only [if_pos h2, Option.bind_some]
    revert hu
    cases wordB (c :: r) <;> cases upF (c :: r) <;> cases resW.contains (c :: r) <;> cases simpleB n.data.toList <;> intro hu <;> first | rfl | exact absurd (hu rfl) (by simp)
theorem rJoin_f (m n : ByteArray) (hm : m.size ≤ 100000) (hn : n.size ≤ 100000) (k : Nat) (hk : m.size + 1 < k) (hk2 : n.size + 1 < k) : lazycref01_Join.f k m n = some (joinA m n) := by
  obtain ⟨e1, e2⟩ := sz1 m n 46 hm hn
  unfold lazycref01_Join.f joinA joinOk
  simp only [rSimple_f m hm k hk, rNamed_f n hn k hk2, Option.bind_some, if_pos e1, if_pos e2, cls]
  generalize m.data.toList = l
  have hu := up_notres l
  revert hu
  cases wordB l <;> cases resW.contains l <;> cases upF l <;> cases symB l <;> cases resS.contains l <;> cases colF l <;> cases simpleB n.data.toList <;> intro hu <;> first | rfl | exact absurd (hu rfl) (by simp)

theorem joinA_nil (m n : ByteArray) : ((joinA m n).toList = []) ↔ joinOk m.data.toList n.data.toList = false := by
  unfold joinA
  rw [toL]
  cases joinOk m.data.toList n.data.toList
  · simp
  · simp

theorem joinA_ite {α : Type} (m n : ByteArray) (x y : α) : (if (joinA m n).toList = [] then some x else some y) = some (if joinOk m.data.toList n.data.toList then y else x) := by
  have := joinA_nil m n
  cases h : joinOk m.data.toList n.data.toList
  · rw [if_pos (this.mpr h)]; rfl
  · rw [if_neg (fun e => by rw [this.mp e] at h; cases h)]; rfl

theorem index1 (l : List UInt8) (c : UInt8) : Lib.index l [c] = Lib.indexByte l c := by
  induction l with
  | nil => rfl
  | cons b r ih =>
    rw [Lib.index, Lib.indexByte, ih]
    have : ([c].isPrefixOf (b :: r)) = (b == c) := by simp [List.isPrefixOf, Bool.beq_comm]
    rw [this]

/-- What is told of a string whose first dot is at place d. -/
def splitD (s : ByteArray) (d : Int) : ByteArray × ByteArray × Bool :=
  if d < 0 then (⟨#[]⟩, ⟨#[]⟩, false) else if joinOk (s.extract 0 d.toNat).data.toList (s.extract (d.toNat + 1) s.size).data.toList then (s.extract 0 d.toNat, s.extract (d.toNat + 1) s.size, true) else (⟨#[]⟩, ⟨#[]⟩, false)
def splitA (s : ByteArray) : ByteArray × ByteArray × Bool := splitD s (Lib.indexByte s.data.toList 46)

theorem Split_f (s : ByteArray) (hs : s.size ≤ 100000) (k : Nat) (hk : s.size + 1 < k) : names_Split.f k s = some (splitA s) := by
  unfold names_Split.f strings_Cut.f splitA splitD
  rw [if_pos (by omega)]
  simp only [Option.bind_some, Lib.cut, index1]
  have hlt : Lib.indexByte s.data.toList 46 < s.data.toList.length := by
    by_cases h : 0 ≤ Lib.indexByte s.data.toList 46
    · obtain ⟨o, ho⟩ : ∃ o : Nat, Lib.indexByte s.data.toList 46 = o := ⟨_, (Int.toNat_of_nonneg h).symm⟩
      have := (List.getElem?_eq_some_iff.mp (Lib.indexByte_some ho).1).1
      omega
    · omega
  generalize Lib.indexByte s.data.toList 46 = d at *
  rw [len] at hlt
  by_cases h : 0 ≤ d
  · simp only [if_pos h]
    rw [if_neg (by omega : ¬ d < 0)]
    obtain ⟨o, rfl⟩ : ∃ o : Nat, d = o := ⟨_, (Int.toNat_of_nonneg h).symm⟩
    have e1 : (⟨(s.data.toList.take (o : Int).toNat).toArray⟩ : ByteArray) = s.extract 0 (o : Int).toNat := by
      apply bytes_ext
      rw [ext_list]; simp
    have e2 : (⟨(s.data.toList.drop ((o : Int).toNat + [(46 : UInt8)].length)).toArray⟩ : ByteArray) = s.extract ((o : Int).toNat + 1) s.size := by
      apply bytes_ext
      rw [ext_list, List.take_of_length_le (by simp)]; simp
    rw [e1, e2, if_pos trivial, Join_f _ _ (by rw [ByteArray.size_extract]; omega) (by rw [ByteArray.size_extract]; omega) k (by rw [ByteArray.size_extract]; omega) (by rw [ByteArray.size_extract]; omega), Option.bind_some, joinA_ite]
  · simp only [if_neg h]
    rw [if_pos (by omega : d < 0)]
    simp

theorem Join_f' (s : ByteArray) (i k : Nat) (hi : i < s.size) (hs : s.size ≤ 100000) (hk : s.size + 1 < k) : lazycref01_Join.f k (s.extract 0 (i : Int).toNat) (s.extract ((i + 1 : Nat) : Int).toNat s.size) = some (joinA (s.extract 0 (i : Int).toNat) (s.extract (i + 1) s.size)) :=
  rJoin_f _ _ (by rw [ByteArray.size_extract]; omega) (by rw [ByteArray.size_extract]; omega) k (by rw [ByteArray.size_extract]; omega) (by rw [ByteArray.size_extract]; omega)
def fromI (l : List UInt8) (c : UInt8) (i : Nat) : Int := if Lib.indexByte l c < 0 then -1 else i + Lib.indexByte l c
theorem fromI_cons (x c : UInt8) (r : List UInt8) (i : Nat) : fromI (x :: r) c i = if x = c then (i : Int) else fromI r c (i + 1) := by
  unfold fromI
  rw [Lib.indexByte]
  have hg := Lib.indexByte_ge r c
  by_cases h : x = c
  · rw [if_pos h, h]; simp
  · rw [if_neg h]
    have e : (x == c) = false := by simpa using h
    rw [e]
    simp only [Bool.false_eq_true, if_false]
    by_cases hd : Lib.indexByte r c = -1
    · rw [hd]; rfl
    · have e : (Lib.indexByte r c == -1) = false := by simpa using hd
      rw [e]
      simp only [Bool.false_eq_true, if_false]
      rw [if_neg (by omega), if_neg (by omega)]
      omega
theorem splitD_nat (s : ByteArray) (i : Nat) : splitD s (i : Int) = if joinOk (s.extract 0 i).data.toList (s.extract (i + 1) s.size).data.toList then (s.extract 0 i, s.extract (i + 1) s.size, true) else (⟨#[]⟩, ⟨#[]⟩, false) := by
  unfold splitD
  rw [if_neg (by omega)]; rfl
theorem rSplit_l0 (s : ByteArray) (hs : s.size ≤ 100000) : ∀ (n i k : Nat), n + i = s.size → n + s.size + 2 < k → lazycref01_Split.l0 k s (i : Int) = some (splitD s (fromI (s.data.toList.drop i) 46 i))
  | 0, i, 0, _, h => by omega
  | 0, i, k + 1, h, _ => by
    rw [lazycref01_Split.l0, if_neg (by omega), List.drop_of_length_le (by rw [len]; omega)]; rfl
  | n + 1, i, 0, _, h => by omega
  | n + 1, i, k + 1, h, hk => by
    have hi : i < s.data.toList.length := by rw [len]; omega
    have hi' : i < s.size := by omega
    have ih := rSplit_l0 s hs n (i + 1) k (by omega) (by omega)
    rw [lazycref01_Split.l0, if_pos (by omega), if_pos (by omega), bt_nat s i hi, wrap_ok i s.size (by omega) hs, if_pos (by omega : (i : Int) ≤ s.size), if_pos (by omega : (0 : Int) ≤ ((i + 1 : Nat) : Int)), if_pos (by omega : ((i + 1 : Nat) : Int) ≤ s.size), List.drop_eq_getElem_cons hi, fromI_cons]
    generalize s.data.toList[i] = x at *
    by_cases h1 : x = 46
    · subst h1
      rw [if_pos (by decide), Join_f' s i k hi' hs (by omega), Option.bind_some, joinA_ite, if_pos rfl, splitD_nat]
      rfl
    · have h2 : ¬ (x.toNat : Int) = 46 := by
        intro e
        apply h1
        apply UInt8.toNat_inj.mp
        have : x.toNat = 46 := by omega
        exact this
      rw [if_neg h2, ih, if_neg h1]
theorem rSplit_f (s : ByteArray) (hs : s.size ≤ 100000) (k : Nat) (hk : 2 * s.size + 3 < k) : lazycref01_Split.f k s = some (splitA s) := by
  unfold lazycref01_Split.f splitA
  have := rSplit_l0 s hs s.size 0 k (by omega) (by omega)
  rw [List.drop_zero] at this
  refine Eq.trans this ?_
  have hg := Lib.indexByte_ge s.data.toList 46
  unfold fromI
  congr 2
  split <;> omega

def stemB (s : ByteArray) : Bool := (splitA s).2.2 || simpleB s.data.toList
theorem proper_f (s : ByteArray) (hs : s.size ≤ 100000) (k : Nat) (hk : s.size + 1 < k) : names_proper.f k s = some (stemB s) := by
  unfold names_proper.f stemB
  simp only [Split_f s hs k hk, simple_f s hs k hk, Option.bind_some]
  cases (splitA s).2.2 <;> simp
theorem rStem_f (s : ByteArray) (hs : s.size ≤ 100000) (k : Nat) (hk : 2 * s.size + 3 < k) : lazycref01_Stem.f k s = some (stemB s) := by
  unfold lazycref01_Stem.f stemB
  simp only [rSplit_f s hs k hk, rNamed_f s hs k (by omega), Option.bind_some]
  cases (splitA s).2.2 <;> simp

def madeA (s : ByteArray) (n : Int) : ByteArray := if 0 ≤ n ∧ stemB s then (s ++ (⟨#[36]⟩ : ByteArray)) ++ ⟨(Lib.itoa n).toArray⟩ else ⟨#[]⟩
end Nm
end Go.Proofs.YtfbhipcfjkkmmaaDoor
