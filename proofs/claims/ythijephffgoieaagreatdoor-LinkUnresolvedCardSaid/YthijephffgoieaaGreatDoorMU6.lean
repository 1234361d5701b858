/- lazyclaw46.LinkUnresolved returns true for every list of objects: no condition beside the statement's own. Part 6. -/
import Derived.Test.YthijephffgoieaaGreatDoorMU5
import Derived.Test.YthijephffgoieaaGreatDoorMU4
import Derived.RangeFuncNested
import Derived.RangeFuncBound
import Derived.RangeFuncCalls
import Derived.RangeFuncLeaves
import Derived.Shelf.Abstract
import Derived.Shelf.RegionOpen
import Derived.WalkKit
import Derived.OwnWalkIn
import Derived.TacticsInMore
import Derived.LoopNIn
import Derived.LoopIn
import Derived.Test.YthijephffgoieaaGreatDoorProg
set_option linter.unusedVariables false
set_option linter.unusedSimpArgs false
set_option maxHeartbeats 2000000
section
namespace Go.AM
open Go.Proofs
set_option linter.unusedVariables false
set_option linter.unusedSimpArgs false
set_option maxRecDepth 100000
set_option maxHeartbeats 1000000
theorem hasL_drop {l : List Str} {s : Str} {k : Nat} {x : Str} (hx : l[k]? = some x) : hasL (l.drop k) s = (x == s || hasL (l.drop (k + 1)) s) := by
  obtain ⟨h1, rfl⟩ := List.getElem?_eq_some_iff.1 hx
  rw [List.drop_eq_getElem_cons h1]; rfl
theorem has_fn (l : List Str) (s : Str) (hl : l.length ≤ 1048576) : Fn CT 0 33 [.d (.lst (l.map eStr)), .d (str s)] [] (.d (bool (hasL l s))) [] := by
  refine Fn.body Tryz.func33 (by kernel_rfl) rfl (Nat.le_of_ble_eq_true rfl) ?_; refine AK.of 999 60 ?_
  simp only [ams, tbs, enc, ctp, Region.binds, ↓reduceIte, Bool.false_eq_true, reduceCtorEq, Nat.reduceEqDiff, Nat.reduceLT, Nat.reduceLeDiff, Nat.reduceAdd, Nat.reduceSub, Nat.reduceMul, Nat.reduceShiftLeft, Nat.reduceShiftRight, Nat.reduceOr, Nat.reduceMod, Nat.reduceBEq, Nat.zero_add, Nat.add_zero, Int.natCast_nonneg, Int.toNat_natCast, true_implies, Int.reduceLE, Int.reduceLT, Int.reduceToNat, Int.toNat_zero, Int.le_refl]
  refine AK.loop (ι := Nat) (fun k => ⟨[(5, .d (int k)), (0, .d (.lst (l.map eStr))), (1, .d (str s))], [], 18⟩) (fun k => k ≤ l.length ∧ hasL l s = hasL (l.drop k) s) (fun k => l.length - k) 0 [] ⟨rfl, rfl, by decide, by simp [subT, getT, A.bnd, A.ren], by simp [subS]⟩ ⟨Nat.zero_le _, rfl⟩ ?_
  intro k hk
  obtain ⟨hk, hq⟩ := hk
  rcases Nat.lt_or_ge k l.length with h1 | h1
  · have hx := List.getElem?_eq_getElem h1
    have hd : decide ((k : Int) < (l.length : Int)) = true := by simp; omega
    rw [hq, hasL_drop hx]
    have hq' := hasL_drop (s := s) hx
    generalize l[k] = y at *
    cases e : (y == s)
    · refine AK.of 999 60 ?_; simp only [ams, tbs, enc, ctp, Region.binds, ↓reduceIte, Bool.false_eq_true, reduceCtorEq, Nat.reduceEqDiff, Nat.reduceLT, Nat.reduceLeDiff, Nat.reduceAdd, Nat.reduceSub, Nat.reduceMul, Nat.reduceShiftLeft, Nat.reduceShiftRight, Nat.reduceOr, Nat.reduceMod, Nat.reduceBEq, Nat.zero_add, Nat.add_zero, Int.natCast_nonneg, Int.toNat_natCast, true_implies, Int.reduceLE, Int.reduceLT, Int.reduceToNat, Int.toNat_zero, Int.le_refl, hx, hd, e, eStr_eq, strs, List.getElem?_map]
      refine ⟨(by constructor <;> omega), k + 1, [], ⟨by omega, rfl⟩, by omega, rfl, rfl, by decide, by simp [subT, getT, A.bnd, A.ren], trivial⟩
    · refine AK.of 999 60 ?_; simp only [ams, tbs, enc, ctp, Region.binds, ↓reduceIte, Bool.false_eq_true, reduceCtorEq, Nat.reduceEqDiff, Nat.reduceLT, Nat.reduceLeDiff, Nat.reduceAdd, Nat.reduceSub, Nat.reduceMul, Nat.reduceShiftLeft, Nat.reduceShiftRight, Nat.reduceOr, Nat.reduceMod, Nat.reduceBEq, Nat.zero_add, Nat.add_zero, Int.natCast_nonneg, Int.toNat_natCast, true_implies, Int.reduceLE, Int.reduceLT, Int.reduceToNat, Int.toNat_zero, Int.le_refl, hx, hd, e, eStr_eq, strs, List.getElem?_map]
      try trivial
  · have hd : decide ((k : Int) < (l.length : Int)) = false := by simp; omega
    have hk' : k = l.length := by omega
    subst hk'
    rw [hq, List.drop_length]
    refine AK.of 999 60 ?_; simp only [ams, tbs, enc, ctp, Region.binds, ↓reduceIte, Bool.false_eq_true, reduceCtorEq, Nat.reduceEqDiff, Nat.reduceLT, Nat.reduceLeDiff, Nat.reduceAdd, Nat.reduceSub, Nat.reduceMul, Nat.reduceShiftLeft, Nat.reduceShiftRight, Nat.reduceOr, Nat.reduceMod, Nat.reduceBEq, Nat.zero_add, Nat.add_zero, Int.natCast_nonneg, Int.toNat_natCast, true_implies, Int.reduceLE, Int.reduceLT, Int.reduceToNat, Int.toNat_zero, Int.le_refl, hd]
    rfl
theorem has_fnS (l : List Str) (s : Str) (hl : l.length ≤ 1048576) : Fn CT 1 33 [.sl 0 0 l.length, .d (str s)] [.arr 1 (l.map eStr)] (.d (bool (hasL l s))) [.arr 1 (l.map eStr)] := by
  refine Fn.bodyS (l' := [.d (bool (hasL l s))]) Tryz.func33 (by kernel_rfl) rfl (Nat.le_of_ble_eq_true rfl) ?_; refine AK.of 999 60 ?_
  simp only [ams, tbs, enc, ctp, Region.binds, ↓reduceIte, Bool.false_eq_true, reduceCtorEq, Nat.reduceEqDiff, Nat.reduceLT, Nat.reduceLeDiff, Nat.reduceAdd, Nat.reduceSub, Nat.reduceMul, Nat.reduceShiftLeft, Nat.reduceShiftRight, Nat.reduceOr, Nat.reduceMod, Nat.reduceBEq, Nat.zero_add, Nat.add_zero, Int.natCast_nonneg, Int.toNat_natCast, true_implies, Int.reduceLE, Int.reduceLT, Int.reduceToNat, Int.toNat_zero, Int.le_refl]
  refine AK.loop (ι := Nat) (fun k => ⟨[(5, .d (int k)), (0, .sl 0 0 l.length), (1, .d (str s))], [.arr 1 (l.map eStr)], 18⟩) (fun k => k ≤ l.length ∧ hasL l s = hasL (l.drop k) s) (fun k => l.length - k) 0 [0] ⟨rfl, rfl, by decide, by simp [subT, getT, A.bnd, A.ren], by simp [subS, Blk.bnd, Blk.ren]⟩ ⟨Nat.zero_le _, rfl⟩ ?_
  intro k hk
  obtain ⟨hk, hq⟩ := hk
  rcases Nat.lt_or_ge k l.length with h1 | h1
  · have hx := List.getElem?_eq_getElem h1
    have hd : decide ((k : Int) < (l.length : Int)) = true := by simp; omega
    rw [hq, hasL_drop hx]
    have hq' := hasL_drop (s := s) hx
    generalize l[k] = y at *
    cases e : (y == s)
    · refine AK.of 999 60 ?_; simp only [ams, tbs, enc, ctp, Region.binds, ↓reduceIte, Bool.false_eq_true, reduceCtorEq, Nat.reduceEqDiff, Nat.reduceLT, Nat.reduceLeDiff, Nat.reduceAdd, Nat.reduceSub, Nat.reduceMul, Nat.reduceShiftLeft, Nat.reduceShiftRight, Nat.reduceOr, Nat.reduceMod, Nat.reduceBEq, Nat.zero_add, Nat.add_zero, Int.natCast_nonneg, Int.toNat_natCast, true_implies, Int.reduceLE, Int.reduceLT, Int.reduceToNat, Int.toNat_zero, Int.le_refl, hx, hd, e, eStr_eq, strs, List.getElem?_map]
      exact ⟨by omega, (by constructor <;> omega), k + 1, [0], ⟨by omega, rfl⟩, by omega, rfl, rfl, by decide, by simp [subT, getT, A.bnd, A.ren], by simp [subS, Blk.bnd, Blk.ren]⟩
    · refine AK.of 999 60 ?_; simp only [ams, tbs, enc, ctp, Region.binds, ↓reduceIte, Bool.false_eq_true, reduceCtorEq, Nat.reduceEqDiff, Nat.reduceLT, Nat.reduceLeDiff, Nat.reduceAdd, Nat.reduceSub, Nat.reduceMul, Nat.reduceShiftLeft, Nat.reduceShiftRight, Nat.reduceOr, Nat.reduceMod, Nat.reduceBEq, Nat.zero_add, Nat.add_zero, Int.natCast_nonneg, Int.toNat_natCast, true_implies, Int.reduceLE, Int.reduceLT, Int.reduceToNat, Int.toNat_zero, Int.le_refl, hx, hd, e, eStr_eq, strs, List.getElem?_map]
      exact ⟨by omega, [0], rfl, by decide, by simp [subS, Blk.bnd, Blk.ren]⟩
  · have hd : decide ((k : Int) < (l.length : Int)) = false := by simp; omega
    have hk' : k = l.length := by omega
    subst hk'
    rw [hq, List.drop_length]
    refine AK.of 999 60 ?_; simp only [ams, tbs, enc, ctp, Region.binds, ↓reduceIte, Bool.false_eq_true, reduceCtorEq, Nat.reduceEqDiff, Nat.reduceLT, Nat.reduceLeDiff, Nat.reduceAdd, Nat.reduceSub, Nat.reduceMul, Nat.reduceShiftLeft, Nat.reduceShiftRight, Nat.reduceOr, Nat.reduceMod, Nat.reduceBEq, Nat.zero_add, Nat.add_zero, Int.natCast_nonneg, Int.toNat_natCast, true_implies, Int.reduceLE, Int.reduceLT, Int.reduceToNat, Int.toNat_zero, Int.le_refl, hd]
    exact ⟨[0], rfl, by decide, rfl, by simp [subS, Blk.bnd, Blk.ren]⟩
def gnames (l : List Ob) : List Str := l.flatMap fun o => o.globs.map Gl.name
def enames (l : List Ob) : List Str := l.flatMap Ob.exts
def obSz (o : Ob) : Nat := o.blocks.length + o.globs.length + o.exts.length + o.cons.length
def obTot (l : List Ob) : Nat := (l.map obSz).sum
theorem sum_take_le : ∀ (l : List Nat) (k : Nat), (l.take k).sum ≤ l.sum
  | [], k => by simp
  | x :: r, 0 => by simp
  | x :: r, k + 1 => by simp only [List.take_succ_cons, List.sum_cons]; have := sum_take_le r k; omega
theorem gnames_len (l : List Ob) : (gnames l).length ≤ obTot l := by
  induction l with
  | nil => simp [gnames]
  | cons o r ih =>
    have e : gnames (o :: r) = o.globs.map Gl.name ++ gnames r := rfl
    rw [e, List.length_append, List.length_map]
    have : obTot (o :: r) = obSz o + obTot r := by simp [obTot]
    rw [this]; unfold obSz; omega
theorem obTot_take (l : List Ob) (k : Nat) : obTot (l.take k) ≤ obTot l := by
  unfold obTot
  rw [List.map_take]
  exact sum_take_le _ _
theorem obTot_succ {l : List Ob} {k : Nat} (h : k < l.length) : obTot (l.take (k + 1)) = obTot (l.take k) + obSz l[k] := by
  unfold obTot
  rw [List.take_succ_eq_append_getElem h, List.map_append, List.sum_append]; simp
theorem gnames_succ {l : List Ob} {k : Nat} (h : k < l.length) : gnames (l.take (k + 1)) = gnames (l.take k) ++ l[k].globs.map Gl.name := by
  unfold gnames
  rw [List.take_succ_eq_append_getElem h, List.flatMap_append]; simp
theorem defined_fn (l : List Ob) (hl : l.length ≤ 1048576) (ht : obTot l ≤ 1048576) : Fn CT 0 24 [.d (.lst (l.map eOb))] [] (.d (.lst ((gnames l).map eStr))) [] := by
  refine Fn.body Tryz.func24 (by kernel_rfl) rfl (Nat.le_of_ble_eq_true rfl) ?_; refine AK.of 999 60 ?_
  simp only [ams, tbs, enc, ctp, Region.binds, ↓reduceIte, Bool.false_eq_true, reduceCtorEq, Nat.reduceEqDiff, Nat.reduceLT, Nat.reduceLeDiff, Nat.reduceAdd, Nat.reduceSub, Nat.reduceMul, Nat.reduceShiftLeft, Nat.reduceShiftRight, Nat.reduceOr, Nat.reduceMod, Nat.reduceBEq, Nat.zero_add, Nat.add_zero, Int.natCast_nonneg, Int.toNat_natCast, true_implies, Int.reduceLE, Int.reduceLT, Int.reduceToNat, Int.toNat_zero, Int.le_refl]
  refine AK.nilSl 3 1 rfl ?_
  refine AK.loop (ι := Nat) (fun k => ⟨[(4, .d (int k)), (3, .sl 0 0 (gnames (l.take k)).length), (0, .d (.lst (l.map eOb)))], [.arr 1 ((gnames (l.take k)).map eStr)], 36⟩) (fun k => k ≤ l.length) (fun k => l.length - k) 0 [0] ⟨rfl, rfl, by decide, by simp [subT, getT, A.bnd, A.ren, gnames], by simp [subS, Blk.bnd, Blk.ren, gnames]⟩ (Nat.zero_le _) ?_
  intro k hk
  rcases Nat.lt_or_ge k l.length with h1 | h1
  · have hx := List.getElem?_eq_getElem h1
    have hd : decide ((k : Int) < (l.length : Int)) = true := by simp; omega
    refine AK.of 999 60 ?_; simp only [ams, tbs, enc, ctp, Region.binds, ↓reduceIte, Bool.false_eq_true, reduceCtorEq, Nat.reduceEqDiff, Nat.reduceLT, Nat.reduceLeDiff, Nat.reduceAdd, Nat.reduceSub, Nat.reduceMul, Nat.reduceShiftLeft, Nat.reduceShiftRight, Nat.reduceOr, Nat.reduceMod, Nat.reduceBEq, Nat.zero_add, Nat.add_zero, Int.natCast_nonneg, Int.toNat_natCast, true_implies, Int.reduceLE, Int.reduceLT, Int.reduceToNat, Int.toNat_zero, Int.le_refl, hx, hd, encO, List.getElem?_map]
    have e0 := gnames_succ h1
    have e1 := obTot_succ h1
    have e2 := obTot_take l (k + 1)
    have e3 := gnames_len (l.take k)
    generalize l[k] = o at *
    refine AK.loop (ι := Nat) (fun j => ⟨[(5, .d (int j)), (4, .d (int k)), (3, .sl 0 0 (gnames (l.take k) ++ (o.globs.take j).map Gl.name).length), (0, .d (.lst (l.map eOb)))], [.arr 1 ((gnames (l.take k) ++ (o.globs.take j).map Gl.name).map eStr)], 36⟩) (fun j => j ≤ o.globs.length) (fun j => o.globs.length - j) 0 [0] ⟨rfl, rfl, by decide, by simp [subT, getT, A.bnd, A.ren], by simp [subS, Blk.bnd, Blk.ren]⟩ (Nat.zero_le _) ?_
    intro j hj
    have hso : obSz o = o.blocks.length + o.globs.length + o.exts.length + o.cons.length := rfl
    rcases Nat.lt_or_ge j o.globs.length with h2 | h2
    · have hy := List.getElem?_eq_getElem h2
      have hd2 : decide ((j : Int) < (o.globs.length : Int)) = true := by simp; omega
      refine AK.of 999 60 ?_; simp only [ams, tbs, enc, ctp, Region.binds, ↓reduceIte, Bool.false_eq_true, reduceCtorEq, Nat.reduceEqDiff, Nat.reduceLT, Nat.reduceLeDiff, Nat.reduceAdd, Nat.reduceSub, Nat.reduceMul, Nat.reduceShiftLeft, Nat.reduceShiftRight, Nat.reduceOr, Nat.reduceMod, Nat.reduceBEq, Nat.zero_add, Nat.add_zero, Int.natCast_nonneg, Int.toNat_natCast, true_implies, Int.reduceLE, Int.reduceLT, Int.reduceToNat, Int.toNat_zero, Int.le_refl, hx, hy, hd2, encO, List.getElem?_map]
      have hlj : (o.globs.take j).length = j := by simp; omega
      have hlj' : (o.globs.take (j + 1)).length = j + 1 := by simp; omega
      rw [hlj]
      refine ⟨by simp [D.cells], ⟨by omega, by omega, Nat.le_refl _, by simp [D.cells]⟩, (by constructor <;> omega), j + 1, [1], by omega, by omega, rfl, rfl, by decide, ?_, ?_⟩
      · simp only [ams, tbs, enc, ctp, Region.binds, ↓reduceIte, Bool.false_eq_true, reduceCtorEq, Nat.reduceEqDiff, Nat.reduceLT, Nat.reduceLeDiff, Nat.reduceAdd, Nat.reduceSub, Nat.reduceMul, Nat.reduceShiftLeft, Nat.reduceShiftRight, Nat.reduceOr, Nat.reduceMod, Nat.reduceBEq, Nat.zero_add, Nat.add_zero, Int.natCast_nonneg, Int.toNat_natCast, true_implies, Int.reduceLE, Int.reduceLT, Int.reduceToNat, Int.toNat_zero, Int.le_refl, hlj', Nat.add_assoc]
        simp [subT, getT, A.bnd, A.ren]
      · simp only [ams, tbs, enc, ctp, Region.binds, ↓reduceIte, Bool.false_eq_true, reduceCtorEq, Nat.reduceEqDiff, Nat.reduceLT, Nat.reduceLeDiff, Nat.reduceAdd, Nat.reduceSub, Nat.reduceMul, Nat.reduceShiftLeft, Nat.reduceShiftRight, Nat.reduceOr, Nat.reduceMod, Nat.reduceBEq, Nat.zero_add, Nat.add_zero, Int.natCast_nonneg, Int.toNat_natCast, true_implies, Int.reduceLE, Int.reduceLT, Int.reduceToNat, Int.toNat_zero, Int.le_refl]
        rw [List.take_of_length_le (by simp; omega), List.take_succ_eq_append_getElem h2]
        simp only [List.map_append, List.append_assoc, List.map_cons, List.map_nil, eStr_eq]
    · have hd2 : decide ((j : Int) < (o.globs.length : Int)) = false := by simp; omega
      have hj' : j = o.globs.length := by omega
      subst hj'
      rw [List.take_of_length_le (Nat.le_refl o.globs.length), ← e0]
      refine AK.of 999 60 ?_; simp only [ams, tbs, enc, ctp, Region.binds, ↓reduceIte, Bool.false_eq_true, reduceCtorEq, Nat.reduceEqDiff, Nat.reduceLT, Nat.reduceLeDiff, Nat.reduceAdd, Nat.reduceSub, Nat.reduceMul, Nat.reduceShiftLeft, Nat.reduceShiftRight, Nat.reduceOr, Nat.reduceMod, Nat.reduceBEq, Nat.zero_add, Nat.add_zero, Int.natCast_nonneg, Int.toNat_natCast, true_implies, Int.reduceLE, Int.reduceLT, Int.reduceToNat, Int.toNat_zero, Int.le_refl, hx, hd2, encO, List.getElem?_map]
      exact ⟨(by constructor <;> omega), k + 1, [0], by omega, by omega, rfl, rfl, by decide, by simp [subT, getT, A.bnd, A.ren, e0], by simp [subS, Blk.bnd, Blk.ren, e0]⟩
  · have hd : decide ((k : Int) < (l.length : Int)) = false := by simp; omega
    have hk' : k = l.length := by omega
    subst hk'
    refine AK.of 999 60 ?_; simp only [ams, tbs, enc, ctp, Region.binds, ↓reduceIte, Bool.false_eq_true, reduceCtorEq, Nat.reduceEqDiff, Nat.reduceLT, Nat.reduceLeDiff, Nat.reduceAdd, Nat.reduceSub, Nat.reduceMul, Nat.reduceShiftLeft, Nat.reduceShiftRight, Nat.reduceOr, Nat.reduceMod, Nat.reduceBEq, Nat.zero_add, Nat.add_zero, Int.natCast_nonneg, Int.toNat_natCast, true_implies, Int.reduceLE, Int.reduceLT, Int.reduceToNat, Int.toNat_zero, Int.le_refl, hd]
    rw [List.take_of_length_le (Nat.le_refl l.length), if_pos (Nat.le_refl _), List.take_of_length_le (by simp)]
end Go.AM
end
section
namespace Go.AM
open Go.Proofs
set_option linter.unusedVariables false
set_option linter.unusedSimpArgs false
set_option maxRecDepth 100000
set_option maxHeartbeats 1000000
def smallL (l : List Ob) : Bool := decide (l.length ≤ 8) && decide (obTot (l.take 9) ≤ 1000)
theorem tot_bound {l : List Ob} (hb : ∀ o ∈ l, obSz o ≤ 562949953421312) : ∀ k, k ≤ l.length → obTot (l.take k) ≤ k * 562949953421312
  | 0, _ => by simp [obTot]
  | k + 1, h => by
    have := tot_bound hb k (by omega)
    rw [obTot_succ (by omega)]
    have := hb l[k] (List.getElem_mem _)
    omega
theorem small_fn (l : List Ob) (hl : l.length ≤ 140737488355328) (hb : ∀ o ∈ l, obSz o ≤ 562949953421312) : Fn CT 0 7 [.d (.lst (l.map eOb))] [] (.d (bool (smallL l))) [] := by
  refine Fn.body Tryz.func7 (by kernel_rfl) rfl (Nat.le_of_ble_eq_true rfl) ?_; refine AK.of 999 60 ?_
  simp only [ams, tbs, enc, ctp, Region.binds, ↓reduceIte, Bool.false_eq_true, reduceCtorEq, Nat.reduceEqDiff, Nat.reduceLT, Nat.reduceLeDiff, Nat.reduceAdd, Nat.reduceSub, Nat.reduceMul, Nat.reduceShiftLeft, Nat.reduceShiftRight, Nat.reduceOr, Nat.reduceMod, Nat.reduceBEq, Nat.zero_add, Nat.add_zero, Int.natCast_nonneg, Int.toNat_natCast, true_implies, Int.reduceLE, Int.reduceLT, Int.reduceToNat, Int.toNat_zero, Int.le_refl]
  refine AK.loop (ι := Nat) (fun k => ⟨[(4, .d (int k)), (3, .d (int (obTot (l.take k) : Nat))), (0, .d (.lst (l.map eOb)))], [], 51⟩) (fun k => k ≤ l.length ∧ k ≤ 9) (fun k => l.length - k) 0 [] ⟨rfl, rfl, by decide, by simp [subT, getT, A.bnd, A.ren, obTot], by simp [subS]⟩ ⟨Nat.zero_le _, by decide⟩ ?_
  intro k hk
  obtain ⟨hk, hk9⟩ := hk
  have t1 := tot_bound hb k hk
  have e9 : decide ((k : Int) < 9) = decide (k < 9) := by rw [decide_eq_decide]; omega
  rcases Nat.lt_or_ge k l.length with h1 | h1
  · have hx := List.getElem?_eq_getElem h1
    have hd : decide ((k : Int) < (l.length : Int)) = true := by simp; omega
    rcases Nat.lt_or_ge k 9 with h9 | h9
    · have e9' : decide (k < 9) = true := by simpa using h9
      have e1 := obTot_succ h1
      have e2 := hb l[k] (List.getElem_mem _)
      have hso : obSz l[k] = l[k].blocks.length + l[k].globs.length + l[k].exts.length + l[k].cons.length := rfl
      generalize l[k] = o at *
      refine AK.of 999 60 ?_; simp only [ams, tbs, enc, ctp, Region.binds, ↓reduceIte, Bool.false_eq_true, reduceCtorEq, Nat.reduceEqDiff, Nat.reduceLT, Nat.reduceLeDiff, Nat.reduceAdd, Nat.reduceSub, Nat.reduceMul, Nat.reduceShiftLeft, Nat.reduceShiftRight, Nat.reduceOr, Nat.reduceMod, Nat.reduceBEq, Nat.zero_add, Nat.add_zero, Int.natCast_nonneg, Int.toNat_natCast, true_implies, Int.reduceLE, Int.reduceLT, Int.reduceToNat, Int.toNat_zero, Int.le_refl, hx, hd, e9, e9', bbeq, encO, List.getElem?_map, List.length_map]
      exact ⟨(by constructor <;> omega), (by constructor <;> omega), (by constructor <;> omega), (by constructor <;> omega), (by constructor <;> omega), k + 1, [], ⟨by omega, by omega⟩, by omega, rfl, rfl, by decide, by simp [subT, getT, A.bnd, A.ren]; omega, trivial⟩
    · have e9' : decide (k < 9) = false := by simpa using h9
      have hk' : k = 9 := by omega
      subst hk'
      have e8 : decide ((l.length : Int) ≤ 8) = false := by simp; omega
      have e7 : smallL l = false := by unfold smallL; rw [decide_eq_false (by omega)]; rfl
      rw [e7]
      refine AK.of 999 60 ?_; simp only [ams, tbs, enc, ctp, Region.binds, ↓reduceIte, Bool.false_eq_true, reduceCtorEq, Nat.reduceEqDiff, Nat.reduceLT, Nat.reduceLeDiff, Nat.reduceAdd, Nat.reduceSub, Nat.reduceMul, Nat.reduceShiftLeft, Nat.reduceShiftRight, Nat.reduceOr, Nat.reduceMod, Nat.reduceBEq, Nat.zero_add, Nat.add_zero, Int.natCast_nonneg, Int.toNat_natCast, true_implies, Int.reduceLE, Int.reduceLT, Int.reduceToNat, Int.toNat_zero, Int.le_refl, hx, hd, e9, e9', e8, bbeq, encO, List.getElem?_map, List.length_map]
  · have hd : decide ((k : Int) < (l.length : Int)) = false := by simp; omega
    have hk' : k = l.length := by omega
    subst hk'
    have e6 : decide ((obTot (l.take l.length) : Int) ≤ 1000) = decide (obTot (l.take l.length) ≤ 1000) := by rw [decide_eq_decide]; omega
    have e5 : l.take l.length = l.take 9 := by rw [List.take_of_length_le (Nat.le_refl _), List.take_of_length_le (by omega)]
    rcases Nat.lt_or_ge 8 l.length with h8 | h8
    · have e8 : decide ((l.length : Int) ≤ 8) = false := by simp; omega
      have e7 : smallL l = false := by unfold smallL; rw [decide_eq_false (by omega)]; rfl
      rw [e7]
      refine AK.of 999 60 ?_; simp only [ams, tbs, enc, ctp, Region.binds, ↓reduceIte, Bool.false_eq_true, reduceCtorEq, Nat.reduceEqDiff, Nat.reduceLT, Nat.reduceLeDiff, Nat.reduceAdd, Nat.reduceSub, Nat.reduceMul, Nat.reduceShiftLeft, Nat.reduceShiftRight, Nat.reduceOr, Nat.reduceMod, Nat.reduceBEq, Nat.zero_add, Nat.add_zero, Int.natCast_nonneg, Int.toNat_natCast, true_implies, Int.reduceLE, Int.reduceLT, Int.reduceToNat, Int.toNat_zero, Int.le_refl, hd, e8, bbeq, encO, List.length_map]
    · have e8 : decide ((l.length : Int) ≤ 8) = true := by simp; omega
      have e7 : smallL l = decide (obTot (l.take l.length) ≤ 1000) := by unfold smallL; rw [decide_eq_true h8, e5]; rfl
      rw [e7]
      refine AK.of 999 60 ?_; simp only [ams, tbs, enc, ctp, Region.binds, ↓reduceIte, Bool.false_eq_true, reduceCtorEq, Nat.reduceEqDiff, Nat.reduceLT, Nat.reduceLeDiff, Nat.reduceAdd, Nat.reduceSub, Nat.reduceMul, Nat.reduceShiftLeft, Nat.reduceShiftRight, Nat.reduceOr, Nat.reduceMod, Nat.reduceBEq, Nat.zero_add, Nat.add_zero, Int.natCast_nonneg, Int.toNat_natCast, true_implies, Int.reduceLE, Int.reduceLT, Int.reduceToNat, Int.toNat_zero, Int.le_refl, hd, e8, e6, bbeq, encO, List.length_map]
end Go.AM
end
section
namespace Go.AM
open Go.Proofs
set_option linter.unusedVariables false
set_option linter.unusedSimpArgs false
set_option maxRecDepth 100000
set_option maxHeartbeats 1000000
def uF (own out : List Str) (n : Str) : List Str := if (!hasL own n && !hasL out n) = true then out ++ [n] else out
def uL (own : List Str) (l : List Str) : List Str := l.foldl (uF own) []
theorem uL_snoc (own l : List Str) (n : Str) : uL own (l ++ [n]) = uF own (uL own l) n := by simp [uL]
theorem uL_len (own : List Str) (l : List Str) : (uL own l).length ≤ l.length := by
  have : ∀ (l out : List Str), (l.foldl (uF own) out).length ≤ out.length + l.length := by
    intro l
    induction l with
    | nil => intro out; simp
    | cons x r ih =>
      intro out
      rw [List.foldl_cons, List.length_cons]
      have := ih (uF own out x)
      have h2 : (uF own out x).length ≤ out.length + 1 := by unfold uF; split <;> simp
      omega
  simpa [uL] using this l []
theorem enames_succ {l : List Ob} {k : Nat} (h : k < l.length) : enames (l.take (k + 1)) = enames (l.take k) ++ l[k].exts := by
  unfold enames
  rw [List.take_succ_eq_append_getElem h, List.flatMap_append]; simp
theorem enames_len (l : List Ob) : (enames l).length ≤ obTot l := by
  induction l with
  | nil => simp [enames]
  | cons o r ih =>
    have e : enames (o :: r) = o.exts ++ enames r := rfl
    rw [e, List.length_append]
    have : obTot (o :: r) = obSz o + obTot r := by simp [obTot]
    rw [this]; unfold obSz; omega
theorem rUnresolved_fn (l : List Ob) (hl : l.length ≤ 1048576) (ht : obTot l ≤ 1048576) : Fn CT 0 13 [.d (.lst (l.map eOb))] [] (.d (.lst ((uL (gnames l) (enames l)).map eStr))) [] := by
  have hdef := defined_fn l hl ht
  have hgl := gnames_len l
  refine Fn.body Tryz.func13 (by kernel_rfl) rfl (Nat.le_of_ble_eq_true rfl) ?_; refine AK.of 999 60 ?_
  simp only [ams, tbs, enc, ctp, Region.binds, ↓reduceIte, Bool.false_eq_true, reduceCtorEq, Nat.reduceEqDiff, Nat.reduceLT, Nat.reduceLeDiff, Nat.reduceAdd, Nat.reduceSub, Nat.reduceMul, Nat.reduceShiftLeft, Nat.reduceShiftRight, Nat.reduceOr, Nat.reduceMod, Nat.reduceBEq, Nat.zero_add, Nat.add_zero, Int.natCast_nonneg, Int.toNat_natCast, true_implies, Int.reduceLE, Int.reduceLT, Int.reduceToNat, Int.toNat_zero, Int.le_refl]
  refine ⟨_, hdef, rfl, ?_⟩
  refine AK.of 999 60 ?_; simp only [ams, tbs, enc, ctp, Region.binds, ↓reduceIte, Bool.false_eq_true, reduceCtorEq, Nat.reduceEqDiff, Nat.reduceLT, Nat.reduceLeDiff, Nat.reduceAdd, Nat.reduceSub, Nat.reduceMul, Nat.reduceShiftLeft, Nat.reduceShiftRight, Nat.reduceOr, Nat.reduceMod, Nat.reduceBEq, Nat.zero_add, Nat.add_zero, Int.natCast_nonneg, Int.toNat_natCast, true_implies, Int.reduceLE, Int.reduceLT, Int.reduceToNat, Int.toNat_zero, Int.le_refl]
  refine AK.nilSl 3 1 rfl ?_
  refine AK.loop (ι := Nat) (fun k => ⟨[(5, .d (int k)), (4, .d (.lst ((gnames l).map eStr))), (3, .sl 0 0 (uL (gnames l) (enames (l.take k))).length), (0, .d (.lst (l.map eOb)))], [.arr 1 ((uL (gnames l) (enames (l.take k))).map eStr)], 50⟩) (fun k => k ≤ l.length) (fun k => l.length - k) 0 [0] ⟨rfl, rfl, by decide, by simp [subT, getT, A.bnd, A.ren, enames, uL], by simp [subS, Blk.bnd, Blk.ren, enames, uL]⟩ (Nat.zero_le _) ?_
  intro k hk
  rcases Nat.lt_or_ge k l.length with h1 | h1
  · have hx := List.getElem?_eq_getElem h1
    have hd : decide ((k : Int) < (l.length : Int)) = true := by simp; omega
    refine AK.of 999 60 ?_; simp only [ams, tbs, enc, ctp, Region.binds, ↓reduceIte, Bool.false_eq_true, reduceCtorEq, Nat.reduceEqDiff, Nat.reduceLT, Nat.reduceLeDiff, Nat.reduceAdd, Nat.reduceSub, Nat.reduceMul, Nat.reduceShiftLeft, Nat.reduceShiftRight, Nat.reduceOr, Nat.reduceMod, Nat.reduceBEq, Nat.zero_add, Nat.add_zero, Int.natCast_nonneg, Int.toNat_natCast, true_implies, Int.reduceLE, Int.reduceLT, Int.reduceToNat, Int.toNat_zero, Int.le_refl, hx, hd, encO, List.getElem?_map]
    have e0 := enames_succ h1
    have e1 := obTot_succ h1
    have e2 := obTot_take l (k + 1)
    have e3 := enames_len (l.take k)
    generalize l[k] = o at *
    generalize hp : enames (l.take k) = pre at *
    generalize hq : gnames l = own at *
    refine AK.loop (ι := Nat) (fun j => ⟨[(6, .d (int j)), (5, .d (int k)), (4, .d (.lst (own.map eStr))), (3, .sl 0 0 (uL own (pre ++ o.exts.take j)).length), (0, .d (.lst (l.map eOb)))], [.arr 1 ((uL own (pre ++ o.exts.take j)).map eStr)], 50⟩) (fun j => j ≤ o.exts.length) (fun j => o.exts.length - j) 0 [0] ⟨rfl, rfl, by decide, by simp [subT, getT, A.bnd, A.ren], by simp [subS, Blk.bnd, Blk.ren]⟩ (Nat.zero_le _) ?_
    intro j hj
    have hso : obSz o = o.blocks.length + o.globs.length + o.exts.length + o.cons.length := rfl
    rcases Nat.lt_or_ge j o.exts.length with h2 | h2
    · have hy := List.getElem?_eq_getElem h2
      have hd2 : decide ((j : Int) < (o.exts.length : Int)) = true := by simp; omega
      have hu := uL_len own (pre ++ o.exts.take j)
      have hul : (pre ++ o.exts.take j).length ≤ 1048576 := by simp; omega
      have hn := has_fn own o.exts[j] (by omega)
      have hn2 := has_fnS (uL own (pre ++ o.exts.take j)) o.exts[j] (by omega)
      have e4 : uL own (pre ++ o.exts.take (j + 1)) = uF own (uL own (pre ++ o.exts.take j)) o.exts[j] := by rw [List.take_succ_eq_append_getElem h2, ← List.append_assoc, uL_snoc]
      unfold uF at e4
      generalize hasL own o.exts[j] = b1 at *
      generalize hasL (uL own (pre ++ o.exts.take j)) o.exts[j] = b2 at *
      generalize uL own (pre ++ o.exts.take j) = out at *
      cases b1
      · cases b2
        · refine AK.of 999 60 ?_; simp only [ams, tbs, enc, ctp, Region.binds, ↓reduceIte, Bool.false_eq_true, reduceCtorEq, Nat.reduceEqDiff, Nat.reduceLT, Nat.reduceLeDiff, Nat.reduceAdd, Nat.reduceSub, Nat.reduceMul, Nat.reduceShiftLeft, Nat.reduceShiftRight, Nat.reduceOr, Nat.reduceMod, Nat.reduceBEq, Nat.zero_add, Nat.add_zero, Int.natCast_nonneg, Int.toNat_natCast, true_implies, Int.reduceLE, Int.reduceLT, Int.reduceToNat, Int.toNat_zero, Int.le_refl, hx, hy, hd2, encO, eStr_eq, List.getElem?_map, Bool.not_false, Bool.not_true]
          refine ⟨_, hn, rfl, ?_⟩
          refine AK.of 999 60 ?_; simp only [ams, tbs, enc, ctp, Region.binds, ↓reduceIte, Bool.false_eq_true, reduceCtorEq, Nat.reduceEqDiff, Nat.reduceLT, Nat.reduceLeDiff, Nat.reduceAdd, Nat.reduceSub, Nat.reduceMul, Nat.reduceShiftLeft, Nat.reduceShiftRight, Nat.reduceOr, Nat.reduceMod, Nat.reduceBEq, Nat.zero_add, Nat.add_zero, Int.natCast_nonneg, Int.toNat_natCast, true_implies, Int.reduceLE, Int.reduceLT, Int.reduceToNat, Int.toNat_zero, Int.le_refl, encO, eStr_eq, bbeq]
          refine AK.callS [0] hn2 (.inr rfl) rfl (by decide) ⟨Nat.le_refl _, Nat.le_refl _⟩ ⟨rfl, rfl⟩ ⟨?_, ?_⟩ ?_
          · simp only [fitsP, fitP]
            exact ⟨⟨rfl, rfl⟩, rfl, trivial⟩
          · simp [fitsK, fitK, updσ, killsU, subS, Blk.bnd, Blk.ren, A.kills]
            try rfl
          refine AK.of 999 60 ?_; simp only [ams, tbs, enc, ctp, Region.binds, ↓reduceIte, Bool.false_eq_true, reduceCtorEq, Nat.reduceEqDiff, Nat.reduceLT, Nat.reduceLeDiff, Nat.reduceAdd, Nat.reduceSub, Nat.reduceMul, Nat.reduceShiftLeft, Nat.reduceShiftRight, Nat.reduceOr, Nat.reduceMod, Nat.reduceBEq, Nat.zero_add, Nat.add_zero, Int.natCast_nonneg, Int.toNat_natCast, true_implies, Int.reduceLE, Int.reduceLT, Int.reduceToNat, Int.toNat_zero, Int.le_refl, encO, eStr_eq, bbeq]
          refine ⟨by simp [D.cells], ⟨by omega, by omega, Nat.le_refl _, by simp [D.cells]⟩, (by constructor <;> omega), j + 1, [1], by omega, by omega, rfl, rfl, by decide, ?_, ?_⟩
          · simp only [ams, tbs, enc, ctp, Region.binds, ↓reduceIte, Bool.false_eq_true, reduceCtorEq, Nat.reduceEqDiff, Nat.reduceLT, Nat.reduceLeDiff, Nat.reduceAdd, Nat.reduceSub, Nat.reduceMul, Nat.reduceShiftLeft, Nat.reduceShiftRight, Nat.reduceOr, Nat.reduceMod, Nat.reduceBEq, Nat.zero_add, Nat.add_zero, Int.natCast_nonneg, Int.toNat_natCast, true_implies, Int.reduceLE, Int.reduceLT, Int.reduceToNat, Int.toNat_zero, Int.le_refl, e4]
            simp [subT, getT, A.bnd, A.ren]
          · simp only [ams, tbs, enc, ctp, Region.binds, ↓reduceIte, Bool.false_eq_true, reduceCtorEq, Nat.reduceEqDiff, Nat.reduceLT, Nat.reduceLeDiff, Nat.reduceAdd, Nat.reduceSub, Nat.reduceMul, Nat.reduceShiftLeft, Nat.reduceShiftRight, Nat.reduceOr, Nat.reduceMod, Nat.reduceBEq, Nat.zero_add, Nat.add_zero, Int.natCast_nonneg, Int.toNat_natCast, true_implies, Int.reduceLE, Int.reduceLT, Int.reduceToNat, Int.toNat_zero, Int.le_refl, e4]
            rw [List.take_of_length_le (by simp)]
            simp [eStr_eq]
        · refine AK.of 999 60 ?_; simp only [ams, tbs, enc, ctp, Region.binds, ↓reduceIte, Bool.false_eq_true, reduceCtorEq, Nat.reduceEqDiff, Nat.reduceLT, Nat.reduceLeDiff, Nat.reduceAdd, Nat.reduceSub, Nat.reduceMul, Nat.reduceShiftLeft, Nat.reduceShiftRight, Nat.reduceOr, Nat.reduceMod, Nat.reduceBEq, Nat.zero_add, Nat.add_zero, Int.natCast_nonneg, Int.toNat_natCast, true_implies, Int.reduceLE, Int.reduceLT, Int.reduceToNat, Int.toNat_zero, Int.le_refl, hx, hy, hd2, encO, eStr_eq, List.getElem?_map, Bool.not_false, Bool.not_true]
          refine ⟨_, hn, rfl, ?_⟩
          refine AK.of 999 60 ?_; simp only [ams, tbs, enc, ctp, Region.binds, ↓reduceIte, Bool.false_eq_true, reduceCtorEq, Nat.reduceEqDiff, Nat.reduceLT, Nat.reduceLeDiff, Nat.reduceAdd, Nat.reduceSub, Nat.reduceMul, Nat.reduceShiftLeft, Nat.reduceShiftRight, Nat.reduceOr, Nat.reduceMod, Nat.reduceBEq, Nat.zero_add, Nat.add_zero, Int.natCast_nonneg, Int.toNat_natCast, true_implies, Int.reduceLE, Int.reduceLT, Int.reduceToNat, Int.toNat_zero, Int.le_refl, encO, eStr_eq, bbeq]
          refine AK.callS [0] hn2 (.inr rfl) rfl (by decide) ⟨Nat.le_refl _, Nat.le_refl _⟩ ⟨rfl, rfl⟩ ⟨?_, ?_⟩ ?_
          · simp only [fitsP, fitP]
            exact ⟨⟨rfl, rfl⟩, rfl, trivial⟩
          · simp [fitsK, fitK, updσ, killsU, subS, Blk.bnd, Blk.ren, A.kills]
            try rfl
          refine AK.of 999 60 ?_; simp only [ams, tbs, enc, ctp, Region.binds, ↓reduceIte, Bool.false_eq_true, reduceCtorEq, Nat.reduceEqDiff, Nat.reduceLT, Nat.reduceLeDiff, Nat.reduceAdd, Nat.reduceSub, Nat.reduceMul, Nat.reduceShiftLeft, Nat.reduceShiftRight, Nat.reduceOr, Nat.reduceMod, Nat.reduceBEq, Nat.zero_add, Nat.add_zero, Int.natCast_nonneg, Int.toNat_natCast, true_implies, Int.reduceLE, Int.reduceLT, Int.reduceToNat, Int.toNat_zero, Int.le_refl, encO, eStr_eq, bbeq]
          exact ⟨(by constructor <;> omega), j + 1, [0], by omega, by omega, rfl, rfl, by decide, by simp [subT, getT, A.bnd, A.ren, e4], by simp [subS, Blk.bnd, Blk.ren, e4]⟩
      · refine AK.of 999 60 ?_; simp only [ams, tbs, enc, ctp, Region.binds, ↓reduceIte, Bool.false_eq_true, reduceCtorEq, Nat.reduceEqDiff, Nat.reduceLT, Nat.reduceLeDiff, Nat.reduceAdd, Nat.reduceSub, Nat.reduceMul, Nat.reduceShiftLeft, Nat.reduceShiftRight, Nat.reduceOr, Nat.reduceMod, Nat.reduceBEq, Nat.zero_add, Nat.add_zero, Int.natCast_nonneg, Int.toNat_natCast, true_implies, Int.reduceLE, Int.reduceLT, Int.reduceToNat, Int.toNat_zero, Int.le_refl, hx, hy, hd2, encO, eStr_eq, List.getElem?_map, Bool.not_false, Bool.not_true]
        refine ⟨_, hn, rfl, ?_⟩
        refine AK.of 999 60 ?_; simp only [ams, tbs, enc, ctp, Region.binds, ↓reduceIte, Bool.false_eq_true, reduceCtorEq, Nat.reduceEqDiff, Nat.reduceLT, Nat.reduceLeDiff, Nat.reduceAdd, Nat.reduceSub, Nat.reduceMul, Nat.reduceShiftLeft, Nat.reduceShiftRight, Nat.reduceOr, Nat.reduceMod, Nat.reduceBEq, Nat.zero_add, Nat.add_zero, Int.natCast_nonneg, Int.toNat_natCast, true_implies, Int.reduceLE, Int.reduceLT, Int.reduceToNat, Int.toNat_zero, Int.le_refl, encO, eStr_eq, bbeq]
        exact ⟨(by constructor <;> omega), j + 1, [0], by omega, by omega, rfl, rfl, by decide, by simp [subT, getT, A.bnd, A.ren, e4], by simp [subS, Blk.bnd, Blk.ren, e4]⟩
    · have hd2 : decide ((j : Int) < (o.exts.length : Int)) = false := by simp; omega
      have hj' : j = o.exts.length := by omega
      subst hj'
      rw [List.take_of_length_le (Nat.le_refl o.exts.length), ← e0]
      refine AK.of 999 60 ?_; simp only [ams, tbs, enc, ctp, Region.binds, ↓reduceIte, Bool.false_eq_true, reduceCtorEq, Nat.reduceEqDiff, Nat.reduceLT, Nat.reduceLeDiff, Nat.reduceAdd, Nat.reduceSub, Nat.reduceMul, Nat.reduceShiftLeft, Nat.reduceShiftRight, Nat.reduceOr, Nat.reduceMod, Nat.reduceBEq, Nat.zero_add, Nat.add_zero, Int.natCast_nonneg, Int.toNat_natCast, true_implies, Int.reduceLE, Int.reduceLT, Int.reduceToNat, Int.toNat_zero, Int.le_refl, hx, hd2, encO, List.getElem?_map]
      exact ⟨(by constructor <;> omega), k + 1, [0], by omega, by omega, rfl, rfl, by decide, by simp [subT, getT, A.bnd, A.ren, e0], by simp [subS, Blk.bnd, Blk.ren, e0]⟩
  · have hd : decide ((k : Int) < (l.length : Int)) = false := by simp; omega
    have hk' : k = l.length := by omega
    subst hk'
    refine AK.of 999 60 ?_; simp only [ams, tbs, enc, ctp, Region.binds, ↓reduceIte, Bool.false_eq_true, reduceCtorEq, Nat.reduceEqDiff, Nat.reduceLT, Nat.reduceLeDiff, Nat.reduceAdd, Nat.reduceSub, Nat.reduceMul, Nat.reduceShiftLeft, Nat.reduceShiftRight, Nat.reduceOr, Nat.reduceMod, Nat.reduceBEq, Nat.zero_add, Nat.add_zero, Int.natCast_nonneg, Int.toNat_natCast, true_implies, Int.reduceLE, Int.reduceLT, Int.reduceToNat, Int.toNat_zero, Int.le_refl, hd]
    rw [List.take_of_length_le (Nat.le_refl l.length), if_pos (Nat.le_refl _), List.take_of_length_le (by simp)]
end Go.AM
end
section
namespace Go.AM
open Go.Proofs
set_option linter.unusedVariables false
set_option linter.unusedSimpArgs false
set_option maxRecDepth 100000
set_option maxHeartbeats 1000000
def kn (g : List Str) : List Str := g.foldl addS []
theorem kn_snoc (g : List Str) (n : Str) : kn (g ++ [n]) = addS (kn g) n := by simp [kn]
theorem hasL_app (a b : List Str) (n : Str) : hasL (a ++ b) n = (hasL a n || hasL b n) := by simp [hasL]
theorem hasL_add (l : List Str) (x n : Str) : hasL (addS l x) n = (hasL l n || x == n) := by
  unfold addS
  split
  · rename_i h
    cases e : (x == n)
    · simp
    · have : x = n := by simpa using e
      subst this
      rw [h]; rfl
  · rw [hasL_app]; simp [hasL]
theorem hasL_kn (g : List Str) (n : Str) : hasL (kn g) n = hasL g n := by
  have : ∀ (g l : List Str), hasL (g.foldl addS l) n = (hasL l n || hasL g n) := by
    intro g
    induction g with
    | nil => intro l; simp [hasL]
    | cons x r ih =>
      intro l
      rw [List.foldl_cons, ih, hasL_add, Bool.or_assoc]; rfl
  exact this g []
theorem setE_bnd (n : Nat) (l : List Str) : (Blk.map (setE l)).bnd n = true := by
  simp only [Blk.bnd, List.all_eq_true]
  rintro ⟨a, b⟩ h
  simp only [setE, List.mem_map] at h
  obtain ⟨s, _, e⟩ := h
  cases e
  rfl
theorem setE_ren (ρ : List Nat) (l : List Str) : (Blk.map (setE l)).ren ρ = .map (setE l) := by
  simp only [Blk.ren, setE, List.map_map, Blk.map.injEq]
  rfl
theorem arr_bnd (n k : Nat) (xs : List D) : (Blk.arr k xs).bnd n = true := rfl
theorem arr_ren (ρ : List Nat) (k : Nat) (xs : List D) : (Blk.arr k xs).ren ρ = .arr k xs := rfl
theorem Unresolved_fn (l : List Ob) (hl : l.length ≤ 1048576) (ht : obTot l ≤ 1048576) : Fn CT 0 12 [.d (.lst (l.map eOb))] [] (.d (.lst ((uL (gnames l) (enames l)).map eStr))) [] := by
  refine Fn.body Tryz.func12 (by kernel_rfl) rfl (Nat.le_of_ble_eq_true rfl) ?_; refine AK.of 999 60 ?_
  simp only [ams, tbs, enc, ctp, Region.binds, ↓reduceIte, Bool.false_eq_true, reduceCtorEq, Nat.reduceEqDiff, Nat.reduceLT, Nat.reduceLeDiff, Nat.reduceAdd, Nat.reduceSub, Nat.reduceMul, Nat.reduceShiftLeft, Nat.reduceShiftRight, Nat.reduceOr, Nat.reduceMod, Nat.reduceBEq, Nat.zero_add, Nat.add_zero, Int.natCast_nonneg, Int.toNat_natCast, true_implies, Int.reduceLE, Int.reduceLT, Int.reduceToNat, Int.toNat_zero, Int.le_refl]
  refine AK.loop (ι := Nat) (fun k => ⟨[(16, .d (int k)), (15, .d (int l.length)), (14, .d (.lst (l.map eOb))), (3, .mp 0), (0, .d (.lst (l.map eOb)))], [.map (setE (kn (gnames (l.take k))))], 58⟩) (fun k => k ≤ l.length) (fun k => l.length - k) 0 [0] ⟨rfl, rfl, by decide, by simp [subT, getT, A.bnd, A.ren], by simp [subS, Blk.bnd, Blk.ren, gnames, kn, setE]⟩ (Nat.zero_le _) ?_
  intro k hk
  rcases Nat.lt_or_ge k l.length with h1 | h1
  · have hx := List.getElem?_eq_getElem h1
    have hd : decide ((k : Int) < (l.length : Int)) = true := by simp; omega
    refine AK.of 999 60 ?_; simp only [ams, tbs, enc, ctp, Region.binds, ↓reduceIte, Bool.false_eq_true, reduceCtorEq, Nat.reduceEqDiff, Nat.reduceLT, Nat.reduceLeDiff, Nat.reduceAdd, Nat.reduceSub, Nat.reduceMul, Nat.reduceShiftLeft, Nat.reduceShiftRight, Nat.reduceOr, Nat.reduceMod, Nat.reduceBEq, Nat.zero_add, Nat.add_zero, Int.natCast_nonneg, Int.toNat_natCast, true_implies, Int.reduceLE, Int.reduceLT, Int.reduceToNat, Int.toNat_zero, Int.le_refl, hx, hd, encO, List.getElem?_map]
    have e0 := gnames_succ h1
    have e1 := obTot_succ h1
    have e2 := obTot_take l (k + 1)
    have hso : obSz l[k] = l[k].blocks.length + l[k].globs.length + l[k].exts.length + l[k].cons.length := rfl
    generalize l[k] = o at *
    generalize gnames (l.take k) = pre at *
    refine AK.loop (ι := Nat) (fun j => ⟨[(23, .d (int j)), (22, .d (int o.globs.length)), (21, .d (.lst (o.globs.map eGl))), (16, .d (int k)), (15, .d (int l.length)), (14, .d (.lst (l.map eOb))), (3, .mp 0), (0, .d (.lst (l.map eOb)))], [.map (setE (kn (pre ++ (o.globs.take j).map Gl.name)))], 58⟩) (fun j => j ≤ o.globs.length) (fun j => o.globs.length - j) 0 [0] ⟨rfl, rfl, by decide, by simp [subT, getT, A.bnd, A.ren], by simp [subS, setE_bnd, setE_ren]⟩ (Nat.zero_le _) ?_
    intro j hj
    rcases Nat.lt_or_ge j o.globs.length with h2 | h2
    · have hy := List.getElem?_eq_getElem h2
      have hd2 : decide ((j : Int) < (o.globs.length : Int)) = true := by simp; omega
      have e4 : kn (pre ++ (o.globs.take (j + 1)).map Gl.name) = addS (kn (pre ++ (o.globs.take j).map Gl.name)) o.globs[j].name := by rw [List.take_succ_eq_append_getElem h2, List.map_append, ← List.append_assoc]; exact kn_snoc _ _
      generalize o.globs[j] = g at *
      generalize kn (pre ++ (o.globs.take j).map Gl.name) = K0 at *
      unfold addS at e4
      cases hh : hasL K0 g.name
      · have hm := mfind_no 0 hh
        simp only [hh, ↓reduceIte, Bool.false_eq_true] at e4
        refine AK.of 999 60 ?_; simp only [ams, tbs, enc, ctp, Region.binds, ↓reduceIte, Bool.false_eq_true, reduceCtorEq, Nat.reduceEqDiff, Nat.reduceLT, Nat.reduceLeDiff, Nat.reduceAdd, Nat.reduceSub, Nat.reduceMul, Nat.reduceShiftLeft, Nat.reduceShiftRight, Nat.reduceOr, Nat.reduceMod, Nat.reduceBEq, Nat.zero_add, Nat.add_zero, Int.natCast_nonneg, Int.toNat_natCast, true_implies, Int.reduceLE, Int.reduceLT, Int.reduceToNat, Int.toNat_zero, Int.le_refl, hy, hd2, encO, hm, setE_snoc, List.getElem?_map]
        exact ⟨(by constructor <;> omega), j + 1, [0], by omega, by omega, rfl, rfl, by decide, by simp [subT, getT, A.bnd, A.ren], by dsimp only; rw [e4]; simp [subS, setE_bnd, setE_ren]⟩
      · obtain ⟨i, hm, hset⟩ := mfind_yes 0 hh
        simp only [hh, ↓reduceIte, Bool.false_eq_true] at e4
        refine AK.of 999 60 ?_; simp only [ams, tbs, enc, ctp, Region.binds, ↓reduceIte, Bool.false_eq_true, reduceCtorEq, Nat.reduceEqDiff, Nat.reduceLT, Nat.reduceLeDiff, Nat.reduceAdd, Nat.reduceSub, Nat.reduceMul, Nat.reduceShiftLeft, Nat.reduceShiftRight, Nat.reduceOr, Nat.reduceMod, Nat.reduceBEq, Nat.zero_add, Nat.add_zero, Int.natCast_nonneg, Int.toNat_natCast, true_implies, Int.reduceLE, Int.reduceLT, Int.reduceToNat, Int.toNat_zero, Int.le_refl, hy, hd2, encO, hm, Nat.zero_add, hset, List.getElem?_map]
        exact ⟨(by constructor <;> omega), j + 1, [0], by omega, by omega, rfl, rfl, by decide, by simp [subT, getT, A.bnd, A.ren], by dsimp only; rw [e4]; simp [subS, setE_bnd, setE_ren]⟩
    · have hd2 : decide ((j : Int) < (o.globs.length : Int)) = false := by simp; omega
      have hj' : j = o.globs.length := by omega
      subst hj'
      rw [List.take_of_length_le (Nat.le_refl o.globs.length), ← e0]
      refine AK.of 999 60 ?_; simp only [ams, tbs, enc, ctp, Region.binds, ↓reduceIte, Bool.false_eq_true, reduceCtorEq, Nat.reduceEqDiff, Nat.reduceLT, Nat.reduceLeDiff, Nat.reduceAdd, Nat.reduceSub, Nat.reduceMul, Nat.reduceShiftLeft, Nat.reduceShiftRight, Nat.reduceOr, Nat.reduceMod, Nat.reduceBEq, Nat.zero_add, Nat.add_zero, Int.natCast_nonneg, Int.toNat_natCast, true_implies, Int.reduceLE, Int.reduceLT, Int.reduceToNat, Int.toNat_zero, Int.le_refl, hd2, encO, List.getElem?_map]
      exact ⟨(by constructor <;> omega), k + 1, [0], by omega, by omega, rfl, rfl, by decide, by simp [subT, getT, A.bnd, A.ren], by simp [subS, setE_bnd, setE_ren, e0]⟩
  · have hd : decide ((k : Int) < (l.length : Int)) = false := by simp; omega
    have hk' : k = l.length := by omega
    subst hk'
    rw [List.take_of_length_le (Nat.le_refl l.length)]
    refine AK.of 999 60 ?_; simp only [ams, tbs, enc, ctp, Region.binds, ↓reduceIte, Bool.false_eq_true, reduceCtorEq, Nat.reduceEqDiff, Nat.reduceLT, Nat.reduceLeDiff, Nat.reduceAdd, Nat.reduceSub, Nat.reduceMul, Nat.reduceShiftLeft, Nat.reduceShiftRight, Nat.reduceOr, Nat.reduceMod, Nat.reduceBEq, Nat.zero_add, Nat.add_zero, Int.natCast_nonneg, Int.toNat_natCast, true_implies, Int.reduceLE, Int.reduceLT, Int.reduceToNat, Int.toNat_zero, Int.le_refl, hd]
    refine AK.nilSl 8 1 rfl ?_
    generalize hown : gnames l = own
    refine AK.loop (ι := Nat) (fun k => ⟨[(34, .d (int k)), (33, .d (int l.length)), (32, .d (.lst (l.map eOb))), (8, .sl 1 0 (uL own (enames (l.take k))).length), (3, .mp 0)], [.map (setE (kn own ++ uL own (enames (l.take k)))), .arr 1 ((uL own (enames (l.take k))).map eStr)], 58⟩) (fun k => k ≤ l.length) (fun k => l.length - k) 0 [0, 1] ⟨rfl, rfl, by decide, by simp [subT, getT, A.bnd, A.ren, enames, uL], by simp [subS, setE_bnd, setE_ren, arr_bnd, arr_ren, enames, uL]⟩ (Nat.zero_le _) ?_
    intro k hk
    rcases Nat.lt_or_ge k l.length with h1 | h1
    · have hx := List.getElem?_eq_getElem h1
      have hd : decide ((k : Int) < (l.length : Int)) = true := by simp; omega
      refine AK.of 999 60 ?_; simp only [ams, tbs, enc, ctp, Region.binds, ↓reduceIte, Bool.false_eq_true, reduceCtorEq, Nat.reduceEqDiff, Nat.reduceLT, Nat.reduceLeDiff, Nat.reduceAdd, Nat.reduceSub, Nat.reduceMul, Nat.reduceShiftLeft, Nat.reduceShiftRight, Nat.reduceOr, Nat.reduceMod, Nat.reduceBEq, Nat.zero_add, Nat.add_zero, Int.natCast_nonneg, Int.toNat_natCast, true_implies, Int.reduceLE, Int.reduceLT, Int.reduceToNat, Int.toNat_zero, Int.le_refl, hx, hd, encO, List.getElem?_map]
      have e0 := enames_succ h1
      have e1 := obTot_succ h1
      have e2 := obTot_take l (k + 1)
      have e3 := enames_len (l.take k)
      have hso : obSz l[k] = l[k].blocks.length + l[k].globs.length + l[k].exts.length + l[k].cons.length := rfl
      generalize l[k] = o at *
      generalize enames (l.take k) = pre at *
      refine AK.loop (ι := Nat) (fun j => ⟨[(41, .d (int j)), (40, .d (int o.exts.length)), (39, .d (.lst (o.exts.map eStr))), (34, .d (int k)), (33, .d (int l.length)), (32, .d (.lst (l.map eOb))), (8, .sl 1 0 (uL own (pre ++ o.exts.take j)).length), (3, .mp 0)], [.map (setE (kn own ++ uL own (pre ++ o.exts.take j))), .arr 1 ((uL own (pre ++ o.exts.take j)).map eStr)], 58⟩) (fun j => j ≤ o.exts.length) (fun j => o.exts.length - j) 0 [0, 1] ⟨rfl, rfl, by decide, by simp [subT, getT, A.bnd, A.ren], by simp [subS, setE_bnd, setE_ren, arr_bnd, arr_ren]⟩ (Nat.zero_le _) ?_
      intro j hj
      rcases Nat.lt_or_ge j o.exts.length with h2 | h2
      · have hy := List.getElem?_eq_getElem h2
        have hd2 : decide ((j : Int) < (o.exts.length : Int)) = true := by simp; omega
        have hu := uL_len own (pre ++ o.exts.take j)
        have hul : (pre ++ o.exts.take j).length ≤ 1048576 := by simp; omega
        have e4 : uL own (pre ++ o.exts.take (j + 1)) = uF own (uL own (pre ++ o.exts.take j)) o.exts[j] := by rw [List.take_succ_eq_append_getElem h2, ← List.append_assoc, uL_snoc]
        have e5 := hasL_app (kn own) (uL own (pre ++ o.exts.take j)) o.exts[j]
        rw [hasL_kn] at e5
        unfold uF at e4
        generalize o.exts[j] = n at *
        generalize uL own (pre ++ o.exts.take j) = out at *
        have e6 : (!hasL own n && !hasL out n) = !(hasL (kn own ++ out) n) := by rw [e5]; cases hasL own n <;> rfl
        rw [e6] at e4
        cases hh : hasL (kn own ++ out) n
        · have hm := mfind_no 0 hh
          simp only [hh, ↓reduceIte, Bool.not_false] at e4
          refine AK.of 999 60 ?_; simp only [ams, tbs, enc, ctp, Region.binds, ↓reduceIte, Bool.false_eq_true, reduceCtorEq, Nat.reduceEqDiff, Nat.reduceLT, Nat.reduceLeDiff, Nat.reduceAdd, Nat.reduceSub, Nat.reduceMul, Nat.reduceShiftLeft, Nat.reduceShiftRight, Nat.reduceOr, Nat.reduceMod, Nat.reduceBEq, Nat.zero_add, Nat.add_zero, Int.natCast_nonneg, Int.toNat_natCast, true_implies, Int.reduceLE, Int.reduceLT, Int.reduceToNat, Int.toNat_zero, Int.le_refl, hy, hd2, encO, eStr_eq, bbeq, hm, setE_snoc, List.getElem?_map]
          refine ⟨by simp [D.cells], ⟨by omega, by omega, Nat.le_refl _, by simp [D.cells]⟩, (by constructor <;> omega), j + 1, [0, 2], by omega, by omega, rfl, rfl, by decide, ?_, ?_⟩
          · dsimp only; rw [e4]; simp [subT, getT, A.bnd, A.ren]
          · have htk : List.take out.length (out.map eStr) = out.map eStr := List.take_of_length_le (by simp)
            dsimp only; rw [e4]; simp [subS, setE_bnd, setE_ren, arr_bnd, arr_ren, eStr_eq, htk]
        · obtain ⟨i, hm, hset⟩ := mfind_yes 0 hh
          simp only [hh, ↓reduceIte, Bool.not_true, Bool.false_eq_true] at e4
          refine AK.of 999 60 ?_; simp only [ams, tbs, enc, ctp, Region.binds, ↓reduceIte, Bool.false_eq_true, reduceCtorEq, Nat.reduceEqDiff, Nat.reduceLT, Nat.reduceLeDiff, Nat.reduceAdd, Nat.reduceSub, Nat.reduceMul, Nat.reduceShiftLeft, Nat.reduceShiftRight, Nat.reduceOr, Nat.reduceMod, Nat.reduceBEq, Nat.zero_add, Nat.add_zero, Int.natCast_nonneg, Int.toNat_natCast, true_implies, Int.reduceLE, Int.reduceLT, Int.reduceToNat, Int.toNat_zero, Int.le_refl, hy, hd2, encO, eStr_eq, bbeq, hm, Nat.zero_add, hset, List.getElem?_map]
          exact ⟨(by constructor <;> omega), j + 1, [0, 1], by omega, by omega, rfl, rfl, by decide, by dsimp only; rw [e4]; simp [subT, getT, A.bnd, A.ren], by dsimp only; rw [e4]; simp [subS, setE_bnd, setE_ren, arr_bnd, arr_ren]⟩
      · have hd2 : decide ((j : Int) < (o.exts.length : Int)) = false := by simp; omega
        have hj' : j = o.exts.length := by omega
        subst hj'
        rw [List.take_of_length_le (Nat.le_refl o.exts.length), ← e0]
        refine AK.of 999 60 ?_; simp only [ams, tbs, enc, ctp, Region.binds, ↓reduceIte, Bool.false_eq_true, reduceCtorEq, Nat.reduceEqDiff, Nat.reduceLT, Nat.reduceLeDiff, Nat.reduceAdd, Nat.reduceSub, Nat.reduceMul, Nat.reduceShiftLeft, Nat.reduceShiftRight, Nat.reduceOr, Nat.reduceMod, Nat.reduceBEq, Nat.zero_add, Nat.add_zero, Int.natCast_nonneg, Int.toNat_natCast, true_implies, Int.reduceLE, Int.reduceLT, Int.reduceToNat, Int.toNat_zero, Int.le_refl, hd2, encO, List.getElem?_map]
        exact ⟨(by constructor <;> omega), k + 1, [0, 1], by omega, by omega, rfl, rfl, by decide, by simp [subT, getT, A.bnd, A.ren, e0], by simp [subS, setE_bnd, setE_ren, arr_bnd, arr_ren, e0]⟩
    · have hd : decide ((k : Int) < (l.length : Int)) = false := by simp; omega
      have hk' : k = l.length := by omega
      subst hk'
      refine AK.of 999 60 ?_; simp only [ams, tbs, enc, ctp, Region.binds, ↓reduceIte, Bool.false_eq_true, reduceCtorEq, Nat.reduceEqDiff, Nat.reduceLT, Nat.reduceLeDiff, Nat.reduceAdd, Nat.reduceSub, Nat.reduceMul, Nat.reduceShiftLeft, Nat.reduceShiftRight, Nat.reduceOr, Nat.reduceMod, Nat.reduceBEq, Nat.zero_add, Nat.add_zero, Int.natCast_nonneg, Int.toNat_natCast, true_implies, Int.reduceLE, Int.reduceLT, Int.reduceToNat, Int.toNat_zero, Int.le_refl, hd]
      rw [List.take_of_length_le (Nat.le_refl l.length), if_pos (Nat.le_refl _), List.take_of_length_le (by simp)]
end Go.AM
end
section
namespace Go.Proofs
open Go.RowKit Go.Shelf
set_option linter.unusedVariables false
set_option linter.unusedSimpArgs false
attribute [local go_sem] Oper.semAt_some

/-- The numbers that have come when r are left. -/
def Bk.down (len r : Nat) : List Nat := (List.range (len - r)).map fun k => len - 1 - k
theorem Bk.down_succ {len r : Nat} (h : r < len) : Bk.down len r = Bk.down len (r + 1) ++ [r] := by
  unfold Bk.down
  rw [show len - r = (len - (r + 1)) + 1 by omega, List.range_succ, List.map_append]
  simp; omega
theorem Bk.down_len (len : Nat) : Bk.down len len = [] := by simp [Bk.down]
theorem Bk.down_length (len r : Nat) : (Bk.down len r).length = len - r := by simp [Bk.down]
def Bk.dI : Nat → Int
  | 0 => -1
  | q + 1 => q
def Bk.Kp (n₀ Bs : Nat) (A B : World) : Prop := Below n₀ A B ∧ ∀ v, A.cell? ⟨Bs, 0, none⟩ = some v → B.cell? ⟨Bs, 0, none⟩ = some v

set_option maxRecDepth 100000 in
set_option maxHeartbeats 2000000 in
theorem Bk.one_in (F : Fence) (n : Nat) (hf : F.fn 216) (hro : F.round = none) (hn : 1 ≤ n) (l Bs n₀ b off len cap : Nat) (el : Nat → Nat → Value) (hreach : len ≤ 140737488351232) (hb : b < n₀) (J Jx : List Nat → World → Prop)
    (hY : ∀ (pre : List Nat) (x : Nat) (W : World), J pre W → pre.length < len → YieldAt F (n - 1) Tryz.prog l #[.int .i64 (x : Int), .agg #[el x 0, el x 1, el x 2, el x 3]] W fun e W' =>
      (e = .returned (.bool true) ∧ J (pre ++ [x]) W' ∧ Bk.Kp n₀ Bs W W') ∨ (e = .returned (.bool false) ∧ Jx (pre ++ [x]) W'))
    (W : World) (hBs : W.cell? ⟨Bs, 0, none⟩ = some (.slice (some ⟨b, off, none⟩) len cap)) (hc : ∀ j i, j < len → i < 4 → W.cell? ⟨b, off + (j * 4 + i), none⟩ = some (el j i)) (h0 : J [] W) :
    CallsIn F n Tryz.prog 216 #[.func (.yield l) #[] #[], .pointer (some ⟨Bs, 0, none⟩)] W fun e W' => (∃ v, e = .returned v) ∧
      ((∃ ys, ys = Bk.down len 0 ∧ J ys W') ∨ (∃ pre, (∃ r, r < len ∧ pre = Bk.down len r) ∧ Jx pre W')) := by
  refine callsIn_of_wp Tryz.func216 rfl hf ?_ hro
  simp only [Tryz.ntmps216, List.size_toArray, List.length_cons, List.length_nil, Nat.reduceAdd, Nat.reduceSub, Array.replicate_succ, Array.replicate_zero, List.push_toArray, List.append_toArray, List.nil_append, List.cons_append]
  have hw : Bk.dI len = (len : Int) - 1 := by cases len <;> simp [Bk.dI]
  gi_wp2
  gi_loopw [3] (fun i wr => ∃ r : Nat, r ≤ len ∧ i = .int .i64 (Bk.dI r) ∧ J (Bk.down len r) wr ∧ Below n₀ W wr ∧ wr.cell? ⟨Bs, 0, none⟩ = some (.slice (some ⟨b, off, none⟩) len cap))
    (fun i _ => (intOf i + 1).toNat)
  case atStart => exact ⟨len, Nat.le_refl _, by rw [hw], by rw [Bk.down_len]; exact h0, Below.refl _ _, hBs⟩
  case round =>
    obtain ⟨r, hr, rfl, hJs, hnx, hBr⟩ := hrel
    cases r with
    | zero =>
      have e0 : Bk.dI 0 = -1 := rfl
      rw [e0]
      gi_wp2
      go_end0
      exact ⟨⟨_, rfl⟩, .inl ⟨_, rfl, hJs⟩⟩
    | succ q =>
      have e0 : Bk.dI (q + 1) = (q : Int) := rfl
      rw [e0]
      have hcq : ∀ i, i < 4 → wr.cell? ⟨b, off + (q * 4 + i), none⟩ = some (el q i) := fun i hi => (hnx.cell (p := ⟨b, off + (q * 4 + i), none⟩) hb).trans (hc q i (by omega) hi)
      have c0 : wr.cell? ⟨b, off + q * 4, none⟩ = some (el q 0) := hcq 0 (by decide)
      have c1 : wr.cell? ⟨b, off + q * 4 + 1, none⟩ = some (el q 1) := hcq 1 (by decide)
      have c2 : wr.cell? ⟨b, off + q * 4 + 2, none⟩ = some (el q 2) := hcq 2 (by decide)
      have c3 : wr.cell? ⟨b, off + q * 4 + 3, none⟩ = some (el q 3) := hcq 3 (by decide)
      obtain ⟨fn, tmps, assign, body, hy, hR⟩ := hY _ q wr hJs (by rw [Bk.down_length]; omega)
      gi_wp2
      refine hR.mono ?_
      rintro e W3 (⟨rfl, hJ3, hk3, hk4⟩ | ⟨rfl, hJx3⟩)
      · -- THE ROUND GOES ON
        have hd : Bk.dI q = (q : Int) - 1 := by cases q <;> simp [Bk.dI]
        gi_wp2
        go_roundw
        case rel => exact ⟨q, by omega, by rw [hd], by rw [Bk.down_succ (by omega)]; exact hJ3, hnx.trans hk3, hk4 _ hBr⟩
        case measure => simp [intOf]
      · gi_wp2
        refine bodyPost_ret (results_none rfl _ _ _) rfl ?_
        exact ⟨⟨_, rfl⟩, .inr ⟨_, ⟨q, by omega, (Bk.down_succ (by omega)).symm⟩, hJx3⟩⟩

set_option maxRecDepth 100000 in
set_option maxHeartbeats 2000000 in
theorem Bk.one_nil_in (F : Fence) (n : Nat) (hf : F.fn 216) (hro : F.round = none) (l Bs cap : Nat) (a : Option Addr) (J : List Nat → World → Prop) (W : World) (hBs : W.cell? ⟨Bs, 0, none⟩ = some (.slice a 0 cap)) (h0 : J [] W) :
    CallsIn F n Tryz.prog 216 #[.func (.yield l) #[] #[], .pointer (some ⟨Bs, 0, none⟩)] W fun e W' => (∃ v, e = .returned v) ∧ J [] W' := by
  refine callsIn_of_wp Tryz.func216 rfl hf ?_ hro
  simp only [Tryz.ntmps216, List.size_toArray, List.length_cons, List.length_nil, Nat.reduceAdd, Nat.reduceSub, Array.replicate_succ, Array.replicate_zero, List.push_toArray, List.append_toArray, List.nil_append, List.cons_append]
  gi_wp2
  gi_loopw [3] (fun i wr => i = .int .i64 (-1) ∧ J [] wr) (fun _ _ => 0)
  case atStart => exact ⟨rfl, h0⟩
  case round =>
    obtain ⟨rfl, hJs⟩ := hrel
    gi_wp2
    go_end0
    exact ⟨⟨_, rfl⟩, hJs⟩

set_option maxHeartbeats 1000000 in
/-- slices.Backward: the slice is boxed; the function value captures the box. -/
theorem Bk.back_in (F : Fence) (n : Nat) (hf : F.fn 184) (hro : F.round = none) (a : Option Addr) (len cap : Nat) (w : World) :
    CallsIn F n Tryz.prog 184 #[.slice a len cap] w fun e w' => e = .returned (.func (.func 216) #[] #[.pointer (some ⟨w.heap.size, 0, none⟩)]) ∧ w' = w.alloc (.cells #[.slice a len cap] 44) := by
  refine callsIn_of_wp Tryz.func184 rfl hf ?_ hro
  simp only [Tryz.ntmps184, List.size_toArray, List.length_cons, List.length_nil, Nat.reduceAdd, Nat.reduceSub, Array.replicate_succ, Array.replicate_zero, List.push_toArray, List.append_toArray, List.nil_append, List.cons_append]
  gi_wp2
  go_ret
  exact ⟨rfl, rfl⟩

/-- A slice of types. -/
def Bk.Sl (n₀ : Nat) (W : World) (sv : Value) (len : Nat) (el : Nat → Nat → Value) : Prop :=
  (len = 0 ∧ ∃ a cap, sv = .slice a 0 cap) ∨ ∃ b off cap, sv = .slice (some ⟨b, off, none⟩) len cap ∧ b < n₀ ∧ ∀ j i, j < len → i < 4 → W.cell? ⟨b, off + (j * 4 + i), none⟩ = some (el j i)
theorem Bk.Sl.below {n₀ : Nat} {A B : World} (h : Below n₀ A B) {sv : Value} {len : Nat} {el : Nat → Nat → Value} : Bk.Sl n₀ A sv len el → Bk.Sl n₀ B sv len el
  | .inl e => .inl e
  | .inr ⟨b, off, cap, e, hb, hc⟩ => .inr ⟨b, off, cap, e, hb, fun j i hj hi => (h.cell (p := ⟨b, off + (j * 4 + i), none⟩) hb).trans (hc j i hj hi)⟩

theorem Bk.stops (F : Fence) (n : Nat) (hf : F.fn 216) (hro : F.round = none) (hn : 1 ≤ n) (Bs n₀ : Nat) (sv : Value) (len : Nat) (el : Nat → Nat → Value) (hreach : len ≤ 140737488351232) (w : World) (hBs : Bs < w.heap.size) (hn₀ : n₀ ≤ w.heap.size)
    (hc : w.cell? ⟨Bs, 0, none⟩ = some sv) (hI : Bk.Sl n₀ w sv len el) :
    SeqStopsK F n Tryz.prog 216 #[.pointer (some ⟨Bs, 0, none⟩)] (fun x : Nat => #[.int .i64 (x : Int), .agg #[el x 0, el x 1, el x 2, el x 3]]) (Bk.Kp n₀ Bs) (fun ys => ys = Bk.down len 0) (fun pre => ∃ r, r < len ∧ pre = Bk.down len r) len w := fun l J Jx W hW _ _ hY h0 => by
  have hc' := (hW.cell (p := ⟨Bs, 0, none⟩) hBs).trans hc
  rcases hI.below (hW.mono hn₀) with ⟨rfl, a, cap, rfl⟩ | ⟨b, off, cap, rfl, hb, hcs⟩
  · exact (Bk.one_nil_in F n hf hro l Bs cap a J W hc' h0).mono fun e W' ⟨he, hj⟩ => ⟨he, .inl ⟨_, rfl, hj⟩⟩
  · exact Bk.one_in F n hf hro hn l Bs n₀ b off len cap el hreach hb J Jx hY W hc' hcs h0
end Go.Proofs
end
section
namespace Go.AM
open Go.Proofs
set_option linter.unusedVariables false
set_option linter.unusedSimpArgs false
set_option maxRecDepth 100000
set_option maxHeartbeats 1000000
mutual
def ksz : Kind → Nat
  | .mk a => 1 + kszL a
def kszL : List Kind → Nat
  | [] => 0
  | x :: r => ksz x + kszL r
end
mutual
def tsz : Ty → Nat
  | .mk _ _ bd ks => ksz bd + tszL ks
def tszL : List Ty → Nat
  | [] => 0
  | x :: r => tsz x + tszL r
end
theorem ksz_pos (k : Kind) : 0 < ksz k := by cases k; rw [ksz]; omega
theorem ksz_mem : ∀ {l : List Kind} {x : Kind}, x ∈ l → ksz x ≤ kszL l
  | y :: l, x, h => by
    rw [kszL]
    rcases List.mem_cons.1 h with rfl | h
    · omega
    · have := ksz_mem h; omega
theorem ksz_len : ∀ (l : List Kind), l.length ≤ kszL l
  | [] => Nat.le_refl _
  | x :: l => by rw [kszL, List.length_cons]; have := ksz_len l; have := ksz_pos x; omega
theorem ksz_args (k : Kind) : ksz k = 1 + kszL k.args := by cases k; rw [ksz]; rfl
theorem tsz_pos (k : Ty) : 0 < tsz k := by cases k; rw [tsz]; have := ksz_pos (by assumption); omega
theorem tsz_mem : ∀ {l : List Ty} {x : Ty}, x ∈ l → tsz x ≤ tszL l
  | y :: l, x, h => by
    rw [tszL]
    rcases List.mem_cons.1 h with rfl | h
    · omega
    · have := tsz_mem h; omega
theorem tsz_len : ∀ (l : List Ty), l.length ≤ tszL l
  | [] => Nat.le_refl _
  | x :: l => by rw [tszL, List.length_cons]; have := tsz_len l; have := tsz_pos x; omega
theorem tsz_eq (t : Ty) : tsz t = ksz t.bound + tszL t.kids := by cases t; rw [tsz]; rfl
theorem eK_len (k : Kind) : (eK k).cells.length = 1 := by rw [eK_cells]; rfl
theorem eT_len (t : Ty) : (eT t).cells.length = 4 := by rw [eT_cells]; rfl
theorem take_snocD {α : Type} (f : α → D) {l : List α} {k : Nat} (h : k < l.length) : (l.take (k + 1)).map f = (l.take k).map f ++ [f l[k]] := by rw [List.take_succ_eq_append_getElem h, List.map_append]; rfl
theorem copiedKind_fn : ∀ (n : Nat) (e : Kind), ksz e ≤ n → ksz e ≤ 1048576 → Fn CT 0 249 [.d (eK e)] [] (.d (eK e)) []
  | 0, e, h, _ => by have := ksz_pos e; omega
  | n + 1, e, h, hb => by
    have he := ksz_args e
    have hl := ksz_len e.args
    refine Fn.body Tryz.func249 (by kernel_rfl) rfl (Nat.le_of_ble_eq_true rfl) ?_; refine AK.of 999 60 ?_
    simp only [ams, tbs, enc, ctp, Region.binds, ↓reduceIte, Bool.false_eq_true, reduceCtorEq, Nat.reduceEqDiff, Nat.reduceLT, Nat.reduceLeDiff, Nat.reduceAdd, Nat.reduceSub, Nat.reduceMul, Nat.reduceShiftLeft, Nat.reduceShiftRight, Nat.reduceOr, Nat.reduceMod, Nat.reduceBEq, Nat.zero_add, Nat.add_zero, Int.natCast_nonneg, Int.toNat_natCast, true_implies, Int.reduceLE, Int.reduceLT, Int.reduceToNat, Int.toNat_zero, Int.le_refl]
    refine AK.nilCell 2 0 1 rfl rfl ?_
    refine AK.loop (ι := Nat) (fun k => ⟨[(9, .d (int k)), (8, .d (int e.args.length)), (7, .d (.lst (e.args.map eK))), (3, .ptr 1 0), (2, .ptr 0 0)], [.cells [.nl], .cells [.sl 2 0 k], .arr 1 ((e.args.take k).map eK)], 22⟩) (fun k => k ≤ e.args.length) (fun k => e.args.length - k) 0 [1, 2, 3] ⟨rfl, rfl, by decide, by simp [subT, getT, A.bnd, A.ren], by simp [subS, Blk.ren, Blk.bnd, A.renL, A.bndL, A.ren, A.bnd]⟩ (Nat.zero_le _) ?_
    intro k hk
    rcases Nat.lt_or_ge k e.args.length with h1 | h1
    · have hx := List.getElem?_eq_getElem h1
      have hm := ksz_mem (List.getElem_mem h1)
      have hd : decide ((k : Int) < (e.args.length : Int)) = true := by simp; omega
      refine AK.of 999 60 ?_; simp only [ams, tbs, enc, ctp, Region.binds, ↓reduceIte, Bool.false_eq_true, reduceCtorEq, Nat.reduceEqDiff, Nat.reduceLT, Nat.reduceLeDiff, Nat.reduceAdd, Nat.reduceSub, Nat.reduceMul, Nat.reduceShiftLeft, Nat.reduceShiftRight, Nat.reduceOr, Nat.reduceMod, Nat.reduceBEq, Nat.zero_add, Nat.add_zero, Int.natCast_nonneg, Int.toNat_natCast, true_implies, Int.reduceLE, Int.reduceLT, Int.reduceToNat, Int.toNat_zero, Int.le_refl, hx, hd, List.getElem?_map]
      refine ⟨_, copiedKind_fn n _ (by omega) (by omega), rfl, ?_⟩
      refine AK.of 999 60 ?_; simp only [ams, tbs, enc, ctp, Region.binds, ↓reduceIte, Bool.false_eq_true, reduceCtorEq, Nat.reduceEqDiff, Nat.reduceLT, Nat.reduceLeDiff, Nat.reduceAdd, Nat.reduceSub, Nat.reduceMul, Nat.reduceShiftLeft, Nat.reduceShiftRight, Nat.reduceOr, Nat.reduceMod, Nat.reduceBEq, Nat.zero_add, Nat.add_zero, Int.natCast_nonneg, Int.toNat_natCast, true_implies, Int.reduceLE, Int.reduceLT, Int.reduceToNat, Int.toNat_zero, Int.le_refl]
      refine ⟨by simp [eK_len], ⟨by omega, by omega, by simp; omega, by simp [eK_len]⟩, (by constructor <;> omega), k + 1, [0, 1, 4], by omega, by omega, rfl, rfl, by decide, by simp [subT, getT, A.bnd, A.ren], ?_⟩
      simp only [ams, tbs, enc, ctp, Region.binds, ↓reduceIte, Bool.false_eq_true, reduceCtorEq, Nat.reduceEqDiff, Nat.reduceLT, Nat.reduceLeDiff, Nat.reduceAdd, Nat.reduceSub, Nat.reduceMul, Nat.reduceShiftLeft, Nat.reduceShiftRight, Nat.reduceOr, Nat.reduceMod, Nat.reduceBEq, Nat.zero_add, Nat.add_zero, Int.natCast_nonneg, Int.toNat_natCast, true_implies, Int.reduceLE, Int.reduceLT, Int.reduceToNat, Int.toNat_zero, Int.le_refl]
      rw [take_snocD eK h1]
      rw [List.take_of_length_le (by simp; omega)]
      exact ⟨rfl, rfl⟩
    · have hd : decide ((k : Int) < (e.args.length : Int)) = false := by simp; omega
      have hk' : k = e.args.length := by omega
      subst hk'
      refine AK.of 999 60 ?_; simp only [ams, tbs, enc, ctp, Region.binds, ↓reduceIte, Bool.false_eq_true, reduceCtorEq, Nat.reduceEqDiff, Nat.reduceLT, Nat.reduceLeDiff, Nat.reduceAdd, Nat.reduceSub, Nat.reduceMul, Nat.reduceShiftLeft, Nat.reduceShiftRight, Nat.reduceOr, Nat.reduceMod, Nat.reduceBEq, Nat.zero_add, Nat.add_zero, Int.natCast_nonneg, Int.toNat_natCast, true_implies, Int.reduceLE, Int.reduceLT, Int.reduceToNat, Int.toNat_zero, Int.le_refl, hd]
      rw [List.take_of_length_le (Nat.le_refl e.args.length), if_pos (Nat.le_refl _), List.take_of_length_le (by simp)]
      simp only [ams, tbs, enc, ctp, Region.binds, ↓reduceIte, Bool.false_eq_true, reduceCtorEq, Nat.reduceEqDiff, Nat.reduceLT, Nat.reduceLeDiff, Nat.reduceAdd, Nat.reduceSub, Nat.reduceMul, Nat.reduceShiftLeft, Nat.reduceShiftRight, Nat.reduceOr, Nat.reduceMod, Nat.reduceBEq, Nat.zero_add, Nat.add_zero, Int.natCast_nonneg, Int.toNat_natCast, true_implies, Int.reduceLE, Int.reduceLT, Int.reduceToNat, Int.toNat_zero, Int.le_refl]
theorem copied_fn : ∀ (n : Nat) (e : Ty), tsz e ≤ n → tsz e ≤ 1048576 → Fn CT 0 217 [.d (eT e)] [] (.d (eT e)) []
  | 0, e, h, _ => by have := tsz_pos e; omega
  | n + 1, e, h, hb => by
    have he := tsz_eq e
    have hl := tsz_len e.kids
    have hp := ksz_pos e.bound
    have hc := copiedKind_fn _ e.bound (Nat.le_refl _) (by omega)
    refine Fn.body Tryz.func217 (by kernel_rfl) rfl (Nat.le_of_ble_eq_true rfl) ?_; refine AK.of 999 60 ?_
    simp only [ams, tbs, enc, ctp, Region.binds, ↓reduceIte, Bool.false_eq_true, reduceCtorEq, Nat.reduceEqDiff, Nat.reduceLT, Nat.reduceLeDiff, Nat.reduceAdd, Nat.reduceSub, Nat.reduceMul, Nat.reduceShiftLeft, Nat.reduceShiftRight, Nat.reduceOr, Nat.reduceMod, Nat.reduceBEq, Nat.zero_add, Nat.add_zero, Int.natCast_nonneg, Int.toNat_natCast, true_implies, Int.reduceLE, Int.reduceLT, Int.reduceToNat, Int.toNat_zero, Int.le_refl]
    refine ⟨_, hc, rfl, ?_⟩
    refine AK.of 999 60 ?_; simp only [ams, tbs, enc, ctp, Region.binds, ↓reduceIte, Bool.false_eq_true, reduceCtorEq, Nat.reduceEqDiff, Nat.reduceLT, Nat.reduceLeDiff, Nat.reduceAdd, Nat.reduceSub, Nat.reduceMul, Nat.reduceShiftLeft, Nat.reduceShiftRight, Nat.reduceOr, Nat.reduceMod, Nat.reduceBEq, Nat.zero_add, Nat.add_zero, Int.natCast_nonneg, Int.toNat_natCast, true_implies, Int.reduceLE, Int.reduceLT, Int.reduceToNat, Int.toNat_zero, Int.le_refl]
    refine AK.nilCell 0 3 4 rfl rfl ?_
    refine AK.loop (ι := Nat) (fun k => ⟨[(15, .d (int k)), (14, .d (int e.kids.length)), (13, .d (.lst (e.kids.map eT))), (2, .ptr 1 0), (1, .ptr 0 0)], [.cells [.d (int e.op), .d (str e.name), .d (.lst (e.bound.args.map eK)), .sl 2 0 k], .cells [.d (int 0), .d (str []), .nl, .nl], .arr 4 ((e.kids.take k).map eT)], 28⟩) (fun k => k ≤ e.kids.length) (fun k => e.kids.length - k) 0 [0, 1, 2] ⟨rfl, rfl, by decide, by simp [subT, getT, A.bnd, A.ren], by simp only [ams, tbs, enc, ctp, Region.binds, ↓reduceIte, Bool.false_eq_true, reduceCtorEq, Nat.reduceEqDiff, Nat.reduceLT, Nat.reduceLeDiff, Nat.reduceAdd, Nat.reduceSub, Nat.reduceMul, Nat.reduceShiftLeft, Nat.reduceShiftRight, Nat.reduceOr, Nat.reduceMod, Nat.reduceBEq, Nat.zero_add, Nat.add_zero, Int.natCast_nonneg, Int.toNat_natCast, true_implies, Int.reduceLE, Int.reduceLT, Int.reduceToNat, Int.toNat_zero, Int.le_refl]; rfl⟩ (Nat.zero_le _) ?_
    intro k hk
    rcases Nat.lt_or_ge k e.kids.length with h1 | h1
    · have hx := List.getElem?_eq_getElem h1
      have hm := tsz_mem (List.getElem_mem h1)
      have hd : decide ((k : Int) < (e.kids.length : Int)) = true := by simp; omega
      refine AK.of 999 60 ?_; simp only [ams, tbs, enc, ctp, Region.binds, ↓reduceIte, Bool.false_eq_true, reduceCtorEq, Nat.reduceEqDiff, Nat.reduceLT, Nat.reduceLeDiff, Nat.reduceAdd, Nat.reduceSub, Nat.reduceMul, Nat.reduceShiftLeft, Nat.reduceShiftRight, Nat.reduceOr, Nat.reduceMod, Nat.reduceBEq, Nat.zero_add, Nat.add_zero, Int.natCast_nonneg, Int.toNat_natCast, true_implies, Int.reduceLE, Int.reduceLT, Int.reduceToNat, Int.toNat_zero, Int.le_refl, hx, hd, List.getElem?_map]
      refine ⟨_, copied_fn n _ (by omega) (by omega), rfl, ?_⟩
      refine AK.of 999 60 ?_; simp only [ams, tbs, enc, ctp, Region.binds, ↓reduceIte, Bool.false_eq_true, reduceCtorEq, Nat.reduceEqDiff, Nat.reduceLT, Nat.reduceLeDiff, Nat.reduceAdd, Nat.reduceSub, Nat.reduceMul, Nat.reduceShiftLeft, Nat.reduceShiftRight, Nat.reduceOr, Nat.reduceMod, Nat.reduceBEq, Nat.zero_add, Nat.add_zero, Int.natCast_nonneg, Int.toNat_natCast, true_implies, Int.reduceLE, Int.reduceLT, Int.reduceToNat, Int.toNat_zero, Int.le_refl]
      refine ⟨by simp [eT_len], ⟨by omega, by omega, by simp; omega, by simp [eT_len]⟩, (by constructor <;> omega), k + 1, [0, 1, 4], by omega, by omega, rfl, rfl, by decide, by simp [subT, getT, A.bnd, A.ren], ?_⟩
      simp only [ams, tbs, enc, ctp, Region.binds, ↓reduceIte, Bool.false_eq_true, reduceCtorEq, Nat.reduceEqDiff, Nat.reduceLT, Nat.reduceLeDiff, Nat.reduceAdd, Nat.reduceSub, Nat.reduceMul, Nat.reduceShiftLeft, Nat.reduceShiftRight, Nat.reduceOr, Nat.reduceMod, Nat.reduceBEq, Nat.zero_add, Nat.add_zero, Int.natCast_nonneg, Int.toNat_natCast, true_implies, Int.reduceLE, Int.reduceLT, Int.reduceToNat, Int.toNat_zero, Int.le_refl]
      rw [take_snocD eT h1]
      rw [List.take_of_length_le (by simp; omega)]
      exact ⟨rfl, rfl⟩
    · have hd : decide ((k : Int) < (e.kids.length : Int)) = false := by simp; omega
      have hk' : k = e.kids.length := by omega
      subst hk'
      refine AK.of 999 60 ?_; simp only [ams, tbs, enc, ctp, Region.binds, ↓reduceIte, Bool.false_eq_true, reduceCtorEq, Nat.reduceEqDiff, Nat.reduceLT, Nat.reduceLeDiff, Nat.reduceAdd, Nat.reduceSub, Nat.reduceMul, Nat.reduceShiftLeft, Nat.reduceShiftRight, Nat.reduceOr, Nat.reduceMod, Nat.reduceBEq, Nat.zero_add, Nat.add_zero, Int.natCast_nonneg, Int.toNat_natCast, true_implies, Int.reduceLE, Int.reduceLT, Int.reduceToNat, Int.toNat_zero, Int.le_refl, hd]
      rw [List.take_of_length_le (Nat.le_refl e.kids.length), if_pos (Nat.le_refl _), List.take_of_length_le (by simp)]
      simp only [ams, tbs, enc, ctp, Region.binds, ↓reduceIte, Bool.false_eq_true, reduceCtorEq, Nat.reduceEqDiff, Nat.reduceLT, Nat.reduceLeDiff, Nat.reduceAdd, Nat.reduceSub, Nat.reduceMul, Nat.reduceShiftLeft, Nat.reduceShiftRight, Nat.reduceOr, Nat.reduceMod, Nat.reduceBEq, Nat.zero_add, Nat.add_zero, Int.natCast_nonneg, Int.toNat_natCast, true_implies, Int.reduceLE, Int.reduceLT, Int.reduceToNat, Int.toNat_zero, Int.le_refl]
/-- An application of types. -/
def appT (t a : Ty) : Ty := .mk 3 [] (.mk []) [t, a]
def curT (t : Ty) (l : List Ty) : Ty := l.foldl appT t
theorem curT_snoc (t : Ty) (l : List Ty) (a : Ty) : curT t (l ++ [a]) = appT (curT t l) a := by simp [curT]
theorem tsz_app (t a : Ty) : tsz (appT t a) = 1 + tsz t + tsz a := by rw [appT, tsz, tszL, tszL, tszL, ksz, kszL]; omega
theorem app_cells (t a : Ty) : eT (appT t a) = .agg [int 3, str [], .lst [], .lst [eT t, eT a]] := by rw [← eT_fold]; rfl
def apC (t : Ty) (l : List Ty) : Nat → List A
  | 0 => [.d (int t.op), .d (str t.name), .d (.lst (t.bound.args.map eK)), .d (.lst (t.kids.map eT))]
  | k + 1 => [.d (int 3), .d (str []), .nl, .d (.lst [eT (curT t (l.take k)), eT (l.getD k t)])]
theorem Apply_fn (t : Ty) (l : List Ty) (ht : tsz t ≤ 1048576) (hl : l.length ≤ 1048576) (hm : ∀ x ∈ l, tsz x ≤ 1048576) : Fn CT 0 185 [.d (eT t), .d (.lst (l.map eT))] [] (.d (eT (curT t l))) [] := by
  have hc := copied_fn _ t (Nat.le_refl _) ht
  refine Fn.body Tryz.func185 (by kernel_rfl) rfl (Nat.le_of_ble_eq_true rfl) ?_; refine AK.of 999 60 ?_
  simp only [ams, tbs, enc, ctp, Region.binds, ↓reduceIte, Bool.false_eq_true, reduceCtorEq, Nat.reduceEqDiff, Nat.reduceLT, Nat.reduceLeDiff, Nat.reduceAdd, Nat.reduceSub, Nat.reduceMul, Nat.reduceShiftLeft, Nat.reduceShiftRight, Nat.reduceOr, Nat.reduceMod, Nat.reduceBEq, Nat.zero_add, Nat.add_zero, Int.natCast_nonneg, Int.toNat_natCast, true_implies, Int.reduceLE, Int.reduceLT, Int.reduceToNat, Int.toNat_zero, Int.le_refl]
  refine ⟨_, hc, rfl, ?_⟩
  refine AK.of 999 60 ?_; simp only [ams, tbs, enc, ctp, Region.binds, ↓reduceIte, Bool.false_eq_true, reduceCtorEq, Nat.reduceEqDiff, Nat.reduceLT, Nat.reduceLeDiff, Nat.reduceAdd, Nat.reduceSub, Nat.reduceMul, Nat.reduceShiftLeft, Nat.reduceShiftRight, Nat.reduceOr, Nat.reduceMod, Nat.reduceBEq, Nat.zero_add, Nat.add_zero, Int.natCast_nonneg, Int.toNat_natCast, true_implies, Int.reduceLE, Int.reduceLT, Int.reduceToNat, Int.toNat_zero, Int.le_refl]
  refine AK.loop (ι := Nat) (fun k => ⟨[(11, .d (int k)), (10, .d (int l.length)), (9, .d (.lst (l.map eT))), (4, .ptr 1 0), (2, .ptr 0 0)], [.cells (apC t l k), .cells [.d (int 0), .d (str []), .nl, .nl]], 22⟩) (fun k => k ≤ l.length) (fun k => l.length - k) 0 [0, 1] ⟨rfl, rfl, by decide, by simp [subT, getT, A.bnd, A.ren], by simp only [ams, tbs, enc, ctp, Region.binds, ↓reduceIte, Bool.false_eq_true, reduceCtorEq, Nat.reduceEqDiff, Nat.reduceLT, Nat.reduceLeDiff, Nat.reduceAdd, Nat.reduceSub, Nat.reduceMul, Nat.reduceShiftLeft, Nat.reduceShiftRight, Nat.reduceOr, Nat.reduceMod, Nat.reduceBEq, Nat.zero_add, Nat.add_zero, Int.natCast_nonneg, Int.toNat_natCast, true_implies, Int.reduceLE, Int.reduceLT, Int.reduceToNat, Int.toNat_zero, Int.le_refl, apC]⟩ (Nat.zero_le _) ?_
  intro k hk
  rcases Nat.lt_or_ge k l.length with h1 | h1
  · have hx := List.getElem?_eq_getElem h1
    have hd : decide ((k : Int) < (l.length : Int)) = true := by simp; omega
    have hcp := copied_fn _ l[k] (Nat.le_refl _) (hm _ (List.getElem_mem h1))
    have hg : l.getD k t = l[k] := by rw [List.getD_eq_getElem?_getD, hx]; rfl
    have e1 := take_snocD eT h1
    cases k with
    | zero =>
      refine AK.of 999 60 ?_; simp only [ams, tbs, enc, ctp, Region.binds, ↓reduceIte, Bool.false_eq_true, reduceCtorEq, Nat.reduceEqDiff, Nat.reduceLT, Nat.reduceLeDiff, Nat.reduceAdd, Nat.reduceSub, Nat.reduceMul, Nat.reduceShiftLeft, Nat.reduceShiftRight, Nat.reduceOr, Nat.reduceMod, Nat.reduceBEq, Nat.zero_add, Nat.add_zero, Int.natCast_nonneg, Int.toNat_natCast, true_implies, Int.reduceLE, Int.reduceLT, Int.reduceToNat, Int.toNat_zero, Int.le_refl, apC, hx, hd, List.getElem?_map]
      refine ⟨_, hcp, rfl, ?_⟩
      refine AK.of 999 60 ?_; simp only [ams, tbs, enc, ctp, Region.binds, ↓reduceIte, Bool.false_eq_true, reduceCtorEq, Nat.reduceEqDiff, Nat.reduceLT, Nat.reduceLeDiff, Nat.reduceAdd, Nat.reduceSub, Nat.reduceMul, Nat.reduceShiftLeft, Nat.reduceShiftRight, Nat.reduceOr, Nat.reduceMod, Nat.reduceBEq, Nat.zero_add, Nat.add_zero, Int.natCast_nonneg, Int.toNat_natCast, true_implies, Int.reduceLE, Int.reduceLT, Int.reduceToNat, Int.toNat_zero, Int.le_refl]
      refine ⟨by simp [eT_len], (by constructor <;> omega), 1, [0, 1], by omega, by omega, rfl, rfl, by decide, by simp [subT, getT, A.bnd, A.ren], ?_⟩
      simp only [ams, tbs, enc, ctp, Region.binds, ↓reduceIte, Bool.false_eq_true, reduceCtorEq, Nat.reduceEqDiff, Nat.reduceLT, Nat.reduceLeDiff, Nat.reduceAdd, Nat.reduceSub, Nat.reduceMul, Nat.reduceShiftLeft, Nat.reduceShiftRight, Nat.reduceOr, Nat.reduceMod, Nat.reduceBEq, Nat.zero_add, Nat.add_zero, Int.natCast_nonneg, Int.toNat_natCast, true_implies, Int.reduceLE, Int.reduceLT, Int.reduceToNat, Int.toNat_zero, Int.le_refl, apC, hg, List.take_zero, curT, List.foldl_nil]
      try rfl
    | succ k =>
      have hx' := List.getElem?_eq_getElem (show k < l.length by omega)
      have hg' : l.getD k t = l[k] := by rw [List.getD_eq_getElem?_getD, hx']; rfl
      have hq : curT t (l.take (k + 1)) = appT (curT t (l.take k)) l[k] := by rw [List.take_succ_eq_append_getElem (by omega), curT_snoc]
      refine AK.of 999 60 ?_; simp only [ams, tbs, enc, ctp, Region.binds, ↓reduceIte, Bool.false_eq_true, reduceCtorEq, Nat.reduceEqDiff, Nat.reduceLT, Nat.reduceLeDiff, Nat.reduceAdd, Nat.reduceSub, Nat.reduceMul, Nat.reduceShiftLeft, Nat.reduceShiftRight, Nat.reduceOr, Nat.reduceMod, Nat.reduceBEq, Nat.zero_add, Nat.add_zero, Int.natCast_nonneg, Int.toNat_natCast, true_implies, Int.reduceLE, Int.reduceLT, Int.reduceToNat, Int.toNat_zero, Int.le_refl, apC, hg', hx, hd, List.getElem?_map, ← app_cells]
      refine ⟨_, hcp, rfl, ?_⟩
      refine AK.of 999 60 ?_; simp only [ams, tbs, enc, ctp, Region.binds, ↓reduceIte, Bool.false_eq_true, reduceCtorEq, Nat.reduceEqDiff, Nat.reduceLT, Nat.reduceLeDiff, Nat.reduceAdd, Nat.reduceSub, Nat.reduceMul, Nat.reduceShiftLeft, Nat.reduceShiftRight, Nat.reduceOr, Nat.reduceMod, Nat.reduceBEq, Nat.zero_add, Nat.add_zero, Int.natCast_nonneg, Int.toNat_natCast, true_implies, Int.reduceLE, Int.reduceLT, Int.reduceToNat, Int.toNat_zero, Int.le_refl]
      refine ⟨by intro x hx; simp only [List.mem_cons, List.not_mem_nil, or_false] at hx; rcases hx with rfl | rfl; rfl; exact eT_len _, (by constructor <;> omega), k + 1 + 1, [0, 1], by omega, by omega, rfl, rfl, by decide, by simp [subT, getT, A.bnd, A.ren], ?_⟩
      simp only [ams, tbs, enc, ctp, Region.binds, ↓reduceIte, Bool.false_eq_true, reduceCtorEq, Nat.reduceEqDiff, Nat.reduceLT, Nat.reduceLeDiff, Nat.reduceAdd, Nat.reduceSub, Nat.reduceMul, Nat.reduceShiftLeft, Nat.reduceShiftRight, Nat.reduceOr, Nat.reduceMod, Nat.reduceBEq, Nat.zero_add, Nat.add_zero, Int.natCast_nonneg, Int.toNat_natCast, true_implies, Int.reduceLE, Int.reduceLT, Int.reduceToNat, Int.toNat_zero, Int.le_refl, apC, hg, hq, app_cells]
      try rfl
  · have hd : decide ((k : Int) < (l.length : Int)) = false := by simp; omega
    have hk' : k = l.length := by omega
    subst hk'
    rcases List.eq_nil_or_concat l with rfl | ⟨l', a, rfl⟩
    · refine AK.of 999 60 ?_; simp only [ams, tbs, enc, ctp, Region.binds, ↓reduceIte, Bool.false_eq_true, reduceCtorEq, Nat.reduceEqDiff, Nat.reduceLT, Nat.reduceLeDiff, Nat.reduceAdd, Nat.reduceSub, Nat.reduceMul, Nat.reduceShiftLeft, Nat.reduceShiftRight, Nat.reduceOr, Nat.reduceMod, Nat.reduceBEq, Nat.zero_add, Nat.add_zero, Int.natCast_nonneg, Int.toNat_natCast, true_implies, Int.reduceLE, Int.reduceLT, Int.reduceToNat, Int.toNat_zero, Int.le_refl, apC, hd]
      try rfl
    · have e2 : (l' ++ [a]).length = l'.length + 1 := by simp
      have e3 : (l' ++ [a]).take l'.length = l' := by simp
      have e4 : (l' ++ [a]).getD l'.length t = a := by simp
      rw [List.concat_eq_append] at hd ⊢
      rw [e2] at hd ⊢
      refine AK.of 999 60 ?_; simp only [ams, tbs, enc, ctp, Region.binds, ↓reduceIte, Bool.false_eq_true, reduceCtorEq, Nat.reduceEqDiff, Nat.reduceLT, Nat.reduceLeDiff, Nat.reduceAdd, Nat.reduceSub, Nat.reduceMul, Nat.reduceShiftLeft, Nat.reduceShiftRight, Nat.reduceOr, Nat.reduceMod, Nat.reduceBEq, Nat.zero_add, Nat.add_zero, Int.natCast_nonneg, Int.toNat_natCast, true_implies, Int.reduceLE, Int.reduceLT, Int.reduceToNat, Int.toNat_zero, Int.le_refl, apC, hd, e3, e4, curT_snoc, app_cells]
end Go.AM
end
section
namespace Go.Proofs
open Go.RowKit Go.Shelf Go.AM
set_option linter.unusedVariables false
set_option linter.unusedSimpArgs false

theorem _root_.Go.AM.DRep.keep {w w' : World} {I : Nat → Prop} (hw : ∀ (a : Addr) (v : Value), I a.block → w.cell? a = some v → w'.cell? a = some v) {x : D} {v : Value} (h : DRep w I x v) : DRep w' I x v := by
  induction h with
  | v h => exact .v h
  | agg hl h1 h ih => exact .agg hl h1 ih
  | nil => exact .nil
  | lst sz f hb hs hc hm hsz hcell hrep ih =>
    refine .lst sz f hb hs hc hm hsz (fun j x i c hj hi => ?_) ih
    obtain ⟨g1, g2⟩ := hcell j x i c hj hi
    exact ⟨hw _ _ (by simpa [Addr.add] using (by split <;> exact hb)) g1, g2⟩
theorem cells4 {W : World} {I : Nat → Prop} {a b c d : D} {v : Value} (hr : DRep W I (.agg [a, b, c, d]) v) : ∃ u : Nat → Value, v = .agg #[u 0, u 1, u 2, u 3] ∧ ∀ i, i < 4 → (u i).oneCell' = true := by
  cases hr with
  | agg hl h1 h =>
    rename_i us
    match us, hl with
    | ⟨[a', b', c', d']⟩, _ =>
      refine ⟨fun i => [a', b', c', d'].getD i undef, rfl, fun i hi => ?_⟩
      match i, hi with
      | 0, _ => exact h1 0 a a' rfl rfl
      | 1, _ => exact h1 1 b b' rfl rfl
      | 2, _ => exact h1 2 c c' rfl rfl
      | 3, _ => exact h1 3 d d' rfl rfl
theorem eT4 (t : Ty) : eT t = .agg [int t.op, str t.name, .lst (t.bound.args.map eK), .lst (t.kids.map eT)] := (eT_fold t).symm
theorem ty_rep {W : World} {I : Nat → Prop} {t : Ty} {v : Value} (hr : DRep W I (eT t) v) : ∃ u : Nat → Value, v = .agg #[u 0, u 1, u 2, u 3] ∧ ∀ i, i < 4 → (u i).oneCell' = true := by
  rw [eT4] at hr
  exact cells4 hr
theorem one4 {W : World} {I : Nat → Prop} {t : Ty} {a b c d : Value} (hr : DRep W I (eT t) (.agg #[a, b, c, d])) : a.oneCell' = true ∧ b.oneCell' = true ∧ c.oneCell' = true ∧ d.oneCell' = true := by
  rw [eT4] at hr
  cases hr with
  | agg hl h1 h => exact ⟨h1 0 _ a rfl rfl, h1 1 _ b rfl rfl, h1 2 _ c rfl rfl, h1 3 _ d rfl rfl⟩
def arrowT : Ty := .mk 2 [45, 62] (.mk []) []
theorem arrow_rep {W : World} {I : Nat → Prop} : DRep W I (eT arrowT) (.agg #[.int .i64 2, .string ⟨#[45, 62]⟩, .slice none 0 0, .slice none 0 0]) := by
  rw [eT4]
  refine .agg rfl (fun i c u hc hu => ?_) (fun i c u hc hu => ?_)
  · match i with
    | 0 => simp at hu; subst hu; rfl
    | 1 => simp at hu; subst hu; rfl
    | 2 => simp at hu; subst hu; rfl
    | 3 => simp at hu; subst hu; rfl
    | i + 4 => simp at hc
  · match i with
    | 0 => simp at hu hc; subst hu; subst hc; exact .v rfl
    | 1 => simp at hu hc; subst hu; subst hc; exact .v rfl
    | 2 => simp at hu hc; subst hu; subst hc; exact .nil
    | 3 => simp at hu hc; subst hu; subst hc; exact .nil
    | i + 4 => simp at hc
/-- The type of a function with one more parameter. -/
def funT (p t : Ty) : Ty := curT arrowT [p, t]
theorem tsz_fun (p t : Ty) : tsz (funT p t) = 3 + tsz p + tsz t := by
  show tsz (appT (appT arrowT p) t) = _
  rw [tsz_app, tsz_app]
  have : tsz arrowT = 1 := by simp [arrowT, tsz, ksz, kszL, tszL]
  omega
def funF (ts : Nat → Ty) (r : Ty) (pre : List Nat) : Ty := pre.foldl (fun t x => funT (ts x) t) r
theorem funF_snoc (ts : Nat → Ty) (r : Ty) (pre : List Nat) (x : Nat) : funF ts r (pre ++ [x]) = funT (ts x) (funF ts r pre) := by simp [funF]
theorem funF_size {ts : Nat → Ty} {r : Ty} {M : Nat} (hM : ∀ x, tsz (ts x) ≤ M) (l : List Nat) : ∀ (t : Ty), tsz (l.foldl (fun t x => funT (ts x) t) t) ≤ tsz t + l.length * (M + 3) := by
  induction l with
  | nil => intro t; simp
  | cons x l ih =>
    intro t
    rw [List.foldl_cons, List.length_cons]
    refine Nat.le_trans (ih _) ?_
    rw [tsz_fun, Nat.add_mul]
    have := hM x
    omega
theorem ne_row {W : World} {row : Option Nat} {B : Nat} {cs : Array Value} {t : TypeId} {fz : Nat × Nat} (hB : W.heap[B]? = some (.cells cs t fz)) (hr : ∀ r, row = some r → ∃ o : Obj, W.heap[r]? = some o ∧ o.isCells = false) : some B ≠ row := by
  intro e
  obtain ⟨o, h1, h2⟩ := hr B e.symm
  rw [hB] at h1
  cases h1
  cases h2
theorem lt_row {W : World} {B : Nat} {o : Obj} (hB : W.heap[B]? = some o) : B < W.heap.size := (Array.getElem?_eq_some_iff.1 hB).1
def zT46 : Obj := .cells #[.int .i64 0, .string ⟨#[]⟩, .slice none 0 0, .slice none 0 0] 46 (0, 0)
def row4 (u : Nat → Value) : Obj := .cells #[u 0, u 1, u 2, u 3] 46 (0, 0)
structure FunJ (w : World) (I : Nat → Prop) (ts : Nat → Ty) (r : Ty) (pre : List Nat) (W : World) (I' : Nat → Prop) (u : Nat → Value) : Prop where
  rep : DRep W I' (eT (funF ts r pre)) (.agg #[u 0, u 1, u 2, u 3])
  b1 : W.heap[w.heap.size]? = some (row4 u)
  b2 : W.heap[w.heap.size + 1]? = some zT46
  below : Below w.heap.size w W
  sz : w.heap.size + 3 ≤ W.heap.size
  imm : ∀ k, I k → I' k
  new : ∀ k, I' k → I k ∨ (w.heap.size + 3 ≤ k ∧ k < W.heap.size)
def FunI (w : World) (I : Nat → Prop) (ts : Nat → Ty) (r : Ty) (pre : List Nat) (W : World) : Prop := ∃ I' u, FunJ w I ts r pre W I' u
theorem FunI.own (w : World) (I : Nat → Prop) (ts : Nat → Ty) (r : Ty) {B : Nat} (hB : w.heap.size ≤ B) : OwnFrom B (FunI w I ts r) := by
  rintro pre W W' row ⟨I', u, h⟩ hg hr
  have hr' := fun r e => (hr r e).2
  exact ⟨I', u, h.rep.keep (fun a v _ hv => cell_kept hv hg hr'), (hg.block _ (lt_row h.b1) (ne_row h.b1 hr')).trans h.b1, (hg.block _ (lt_row h.b2) (ne_row h.b2 hr')).trans h.b2,
    h.below.grown hg h.below.size (fun k e => Nat.le_trans hB (hr k e).1), Nat.le_trans h.sz hg.size, h.imm, fun k hk => (h.new k hk).imp id (fun ⟨x, y⟩ => ⟨x, Nat.lt_of_lt_of_le y hg.size⟩)⟩
def FunA (w : World) (el : Nat → Nat → Value) (f : Nat → Value → Act) (x : Nat) (a' : Act) (W : World) : Prop := ∃ Bx, w.heap.size + 3 ≤ Bx ∧ W.heap[Bx]? = some (row4 (el x)) ∧ a' = f x (.pointer (some ⟨Bx, 0, none⟩))
theorem FunA.own (w : World) (el : Nat → Nat → Value) (f : Nat → Value → Act) {B : Nat} (x : Nat) (a' : Act) : OwnFrom B (fun (_ : Unit) W => FunA w el f x a' W) := by
  rintro _ W W' row ⟨Bx, h1, h2, h3⟩ hg hr
  exact ⟨Bx, h1, (hg.block _ (lt_row h2) (ne_row h2 fun r e => (hr r e).2)).trans h2, h3⟩
/-- Facts on a block of four cells. -/
theorem row4_cell {W : World} {B : Nat} {u : Nat → Value} (h : W.heap[B]? = some (row4 u)) : W.cell? ⟨B, 0, none⟩ = some (u 0) ∧ W.cell? ⟨B, 1, none⟩ = some (u 1) ∧ W.cell? ⟨B, 2, none⟩ = some (u 2) ∧ W.cell? ⟨B, 3, none⟩ = some (u 3) := by
  unfold World.cell?
  rw [h]
  exact ⟨rfl, rfl, rfl, rfl⟩
end Go.Proofs
namespace Go.Proofs
open Go.RowKit Go.Shelf Go.AM
theorem row4_frozen {W : World} {B : Nat} {u : Nat → Value} (h : W.heap[B]? = some (row4 u)) : W.frozen? ⟨B, 0, none⟩ = false ∧ W.frozen? ⟨B, 1, none⟩ = false ∧ W.frozen? ⟨B, 2, none⟩ = false ∧ W.frozen? ⟨B, 3, none⟩ = false := by
  unfold World.frozen?
  rw [h]
  exact ⟨rfl, rfl, rfl, rfl⟩
theorem HRel.mk0 {C : Ctx} {w : World} {I : Nat → Prop} (h1 : C.Env w) (h2 : C.N ≤ w.heap.size) (h3 : ∀ r, I r → r < w.heap.size) : HRel C w I [] [] :=
  ⟨rfl, fun b l k h => by simp at h, fun b l k h => by simp at h, fun b k h => by simp at h, fun b b' l l' k k' h => by simp at h, h3, h1, h2⟩
theorem ty_parts {W : World} {I : Nat → Prop} {t : Ty} {us : Array Value} (hr : DRep W I (eT t) (.agg us)) (i : Nat) (c : D) (u : Value) (hc : (eT t).cells[i]? = some c) (hu : us[i]? = some u) : u.oneCell' = true ∧ DRep W I c u := by
  have e : (eT t).cells = [int t.op, str t.name, .lst (t.bound.args.map eK), .lst (t.kids.map eT)] := eT_cells t
  rw [eT4] at hr
  rw [e] at hc
  cases hr with
  | agg hl h1 h => exact ⟨h1 i c u hc hu, h i c u hc hu⟩
theorem lst2_rep {W : World} {I : Nat → Prop} {p t : Ty} {e0 e1 e2 e3 u0 u1 u2 u3 : Value} (hp : DRep W I (eT p) (.agg #[e0, e1, e2, e3])) (ht : DRep W I (eT t) (.agg #[u0, u1, u2, u3])) {B : Nat} (hI : I B)
    (hB : W.heap[B]? = some (.cells #[e0, e1, e2, e3, u0, u1, u2, u3] 46 (0, 0))) : DRep W I (.lst ([p, t].map eT)) (.slice (some ⟨B, 0, none⟩) 2 2) := by
  have hc : ∀ i v, (#[e0, e1, e2, e3, u0, u1, u2, u3] : Array Value)[i]? = some v → W.cell? ⟨B, 0 + i, none⟩ = some v := by
    intro i v hv
    unfold World.cell?
    rw [hB, Nat.zero_add]
    exact hv
  have key : ∀ (j : Nat) (x : D) (i : Nat) (c : D), ([p, t].map eT)[j]? = some x → x.cells[i]? = some c → (W.cell? ((⟨B, 0, none⟩ : Addr).add (j * 4 + i)) = some ((#[e0, e1, e2, e3, u0, u1, u2, u3] : Array Value)[j * 4 + i]?.getD undef) ∧ ((#[e0, e1, e2, e3, u0, u1, u2, u3] : Array Value)[j * 4 + i]?.getD undef).oneCell' = true) ∧ DRep W I c ((#[e0, e1, e2, e3, u0, u1, u2, u3] : Array Value)[j * 4 + i]?.getD undef) := by
    intro j x i c hj hi
    match j with
    | 0 =>
      obtain rfl : eT p = x := by simpa using hj
      have h4 : i < 4 := by have := (List.getElem?_eq_some_iff.1 hi).1; rw [eT_len] at this; exact this
      match i with
      | 0 => have := ty_parts hp 0 c e0 hi rfl; exact ⟨⟨hc 0 e0 rfl, this.1⟩, this.2⟩
      | 1 => have := ty_parts hp 1 c e1 hi rfl; exact ⟨⟨hc 1 e1 rfl, this.1⟩, this.2⟩
      | 2 => have := ty_parts hp 2 c e2 hi rfl; exact ⟨⟨hc 2 e2 rfl, this.1⟩, this.2⟩
      | 3 => have := ty_parts hp 3 c e3 hi rfl; exact ⟨⟨hc 3 e3 rfl, this.1⟩, this.2⟩
    | 1 =>
      obtain rfl : eT t = x := by simpa using hj
      have h4 : i < 4 := by have := (List.getElem?_eq_some_iff.1 hi).1; rw [eT_len] at this; exact this
      match i with
      | 0 => have := ty_parts ht 0 c u0 hi rfl; exact ⟨⟨hc 4 u0 rfl, this.1⟩, this.2⟩
      | 1 => have := ty_parts ht 1 c u1 hi rfl; exact ⟨⟨hc 5 u1 rfl, this.1⟩, this.2⟩
      | 2 => have := ty_parts ht 2 c u2 hi rfl; exact ⟨⟨hc 6 u2 rfl, this.1⟩, this.2⟩
      | 3 => have := ty_parts ht 3 c u3 hi rfl; exact ⟨⟨hc 7 u3 rfl, this.1⟩, this.2⟩
    | j + 2 => simp at hj
  exact .lst (xs := [p, t].map eT) (ad := ⟨B, 0, none⟩) (cap := 2) 4 (fun j i => (#[e0, e1, e2, e3, u0, u1, u2, u3] : Array Value)[j * 4 + i]?.getD undef) hI rfl (by simp) (by simp) (fun j x hj => by
      have := List.mem_of_getElem? hj
      simp only [List.map_cons, List.map_nil, List.mem_cons, List.not_mem_nil, or_false] at this
      rcases this with rfl | rfl <;> exact eT_len _)
    (fun j x i c hj hi => (key j x i c hj hi).1) (fun j x i c hj hi => (key j x i c hj hi).2)
theorem apply_calls {w : World} {I : Nat → Prop} {ts : Nat → Ty} {r : Ty} {pre : List Nat} {W : World} {I' : Nat → Prop} {u : Nat → Value} (hh : HRel CT w I [] []) (hJ : FunJ w I ts r pre W I' u) (p : Ty) (e0 e1 e2 e3 : Value) (hp : DRep w I (eT p) (.agg #[e0, e1, e2, e3])) (hps : tsz p ≤ 1048576) (hts : tsz (funF ts r pre) ≤ 1048576) :
    Calls Tryz.prog 185 #[.agg #[.int .i64 2, .string ⟨#[45, 62]⟩, .slice none 0 0, .slice none 0 0], .slice (some ⟨W.heap.size, 0, none⟩) 2 2] (W.alloc (.cells #[e0, e1, e2, e3, u 0, u 1, u 2, u 3] 46)) fun e W2 =>
      ∃ (v : Nat → Value) (I2 : Nat → Prop), e = .returned (.agg #[v 0, v 1, v 2, v 3]) ∧ (∀ i, i < 4 → (v i).oneCell' = true) ∧ DRep W2 I2 (eT (funT p (funF ts r pre))) (.agg #[v 0, v 1, v 2, v 3]) ∧ Below (W.heap.size + 1) (W.alloc (.cells #[e0, e1, e2, e3, u 0, u 1, u 2, u 3] 46)) W2 ∧ (∀ k, I' k → I2 k) ∧ (∀ k, I2 k → I' k ∨ (W.heap.size ≤ k ∧ k < W2.heap.size)) := by
  have hsz := hJ.sz
  obtain ⟨W1, hW1⟩ : ∃ W1, W.alloc (.cells #[e0, e1, e2, e3, u 0, u 1, u 2, u 3] 46) = W1 := ⟨_, rfl⟩
  have hb : Below W.heap.size W W1 := by rw [← hW1]; exact (Below.refl _ W).alloc (Nat.le_refl _) _
  have hs1 : W1.heap.size = W.heap.size + 1 := by rw [← hW1]; simp
  have hrow : W1.heap[W.heap.size]? = some (.cells #[e0, e1, e2, e3, u 0, u 1, u 2, u 3] 46 (0, 0)) := by rw [← hW1]; exact World.alloc_heap_new W _
  have hbw : Below w.heap.size w W1 := hJ.below.trans (hb.mono (by omega))
  have hI' : ∀ k, I' k → k < W.heap.size := fun k hk => by
    rcases hJ.new k hk with h | ⟨_, h⟩
    · have := hh.imm k h; omega
    · exact h
  rw [hW1]
  have hN : (11 : Nat) ≤ w.heap.size := hh.size
  have h1 : HRel CT W1 (fun k => I' k ∨ k = W.heap.size) [] [] := HRel.mk0 (CT.stab w W1 (fun k hk => hbw.block k (by have : k < 11 := hk; omega)) hbw.os hh.env) (by show 11 ≤ _; omega) (by
    rintro k (hk | rfl)
    · have := hI' k hk; omega
    · omega)
  have hd1 : DRep W1 (fun k => I' k ∨ k = W.heap.size) (eT p) (.agg #[e0, e1, e2, e3]) := hp.mono (fun a ha => hbw.cell (p := a) (hh.imm _ ha)) (fun k hk => .inl (hJ.imm k hk))
  have hd2 : DRep W1 (fun k => I' k ∨ k = W.heap.size) (eT (funF ts r pre)) (.agg #[u 0, u 1, u 2, u 3]) := hJ.rep.mono (fun a ha => hb.cell (p := a) (hI' _ ha)) (fun k hk => .inl hk)
  refine ((Apply_fn arrowT [p, funF ts r pre] (by decide) (by simp) (by
    intro x hx
    simp only [List.mem_cons, List.not_mem_nil, or_false] at hx
    rcases hx with rfl | rfl
    · exact hps
    · exact hts)).2 W1 _ [] _ h1 rfl (by
    intro i x v hx hv
    match i with
    | 0 => simp at hx hv; subst hx; subst hv; exact .d arrow_rep
    | 1 => simp at hx hv; subst hx; subst hv; exact .d (lst2_rep hd1 hd2 (.inr rfl) hrow)
    | i + 2 => simp at hx)).mono ?_
  rintro e W2 ⟨v, I2, β2, rfl, hv, hh2, hx2⟩
  cases hv with
  | d hv =>
    obtain ⟨v', rfl, ho⟩ := ty_rep hv
    refine ⟨v', I2, rfl, ho, hv, ⟨hx2.os, hx2.tape, hx2.output, hx2.size, fun k hk => hx2.keep k (by omega) (by rintro ⟨b, l, q, h, _⟩; simp at h)⟩, fun k hk => hx2.imm k (.inl hk), fun k hk => ?_⟩
    have hlt := hh2.imm k hk
    rcases hx2.new k hk with (h | rfl) | h | h
    · exact .inl h
    · exact .inr ⟨Nat.le_refl _, hlt⟩
    · obtain ⟨b, l, q, h, _⟩ := h; simp at h
    · exact .inr ⟨by omega, hlt⟩
end Go.Proofs
namespace Go.Proofs
open Go.RowKit Go.Shelf Go.AM
theorem set4 {W : World} {B : Nat} {u v : Nat → Value} (h : W.heap[B]? = some (row4 u)) : ∃ W3, (((W.setCell ⟨B, 0, none⟩ (v 0)).setCell ⟨B, 1, none⟩ (v 1)).setCell ⟨B, 2, none⟩ (v 2)).setCell ⟨B, 3, none⟩ (v 3) = W3 ∧ W3.heap[B]? = some (row4 v) ∧ (∀ r, r ≠ B → W3.heap[r]? = W.heap[r]?) ∧ W3.heap.size = W.heap.size ∧ W3.os = W.os ∧ W3.tape = W.tape ∧ W3.output = W.output := by
  refine ⟨_, rfl, ?_, fun r hr => ?_, by simp [World.setCell], rfl, rfl, rfl⟩
  · have h0 := heap_setCell_same W B 0 _ 46 (v 0) h
    have h1 := heap_setCell_same _ B 1 _ 46 (v 1) h0
    have h2 := heap_setCell_same _ B 2 _ 46 (v 2) h1
    have h3 := heap_setCell_same _ B 3 _ 46 (v 3) h2
    exact h3
  · rw [heap_setCell_other _ _ _ _ hr, heap_setCell_other _ _ _ _ hr, heap_setCell_other _ _ _ _ hr, heap_setCell_other _ _ _ _ hr]
end Go.Proofs
namespace Go.Proofs
open Go.RowKit Go.Shelf Go.AM
def zv4 (i : Nat) : Value := [Value.int .i64 0, .string ⟨#[]⟩, .slice none 0 0, .slice none 0 0].getD i undef
theorem zT46_row : zT46 = row4 zv4 := rfl
end Go.Proofs
end
section
namespace Go.Proofs
open Go.RowKit Go.Shelf Go.AM
set_option linter.unusedVariables false
set_option linter.unusedSimpArgs false
attribute [local go_sem] Oper.semAt_some

set_option maxRecDepth 100000 in
set_option maxHeartbeats 2000000 in
theorem Fun_raw {w : World} {I : Nat → Prop} (hh : HRel CT w I [] []) (r : Ty) (ts : Nat → Ty) (M : Nat) (hM : ∀ x, tsz (ts x) ≤ M) (hrM : tsz r ≤ M) (u0 : Nat → Value) (hr : DRep w I (eT r) (.agg #[u0 0, u0 1, u0 2, u0 3])) (a : Option Addr) (len cap : Nat) (hlim : (len + 1) * (M + 3) ≤ 1048576)
    (el : Nat → Nat → Value) (hel : ∀ x, DRep w I (eT (ts x)) (.agg #[el x 0, el x 1, el x 2, el x 3])) (hs : Bk.Sl w.heap.size w (.slice a len cap) len el) :
    Calls Tryz.prog 137 #[.agg #[u0 0, u0 1, u0 2, u0 3], .slice a len cap] w fun e w' => ∃ v I', e = .returned v ∧ DRep w' I' (eT (funF ts r (Bk.down len 0))) v ∧ Below w.heap.size w w' ∧ (∀ k, I k → I' k) ∧ (∀ k, I' k → I k ∨ (w.heap.size ≤ k ∧ k < w'.heap.size)) := by
  have hlen : len ≤ 1048576 := by
    have : (len + 1) * 3 ≤ (len + 1) * (M + 3) := Nat.mul_le_mul_left _ (by omega)
    omega
  refine (callsIn_wide (n := 6)).1 ?_
  have hro : Fence.wide.round = none := rfl
  refine callsIn_of_wp_marks Tryz.func137 rfl trivial ?_ hro
  simp only [Tryz.ntmps137, List.size_toArray, List.length_cons, List.length_nil, Nat.reduceAdd, Nat.reduceSub, Array.replicate_succ, Array.replicate_zero, List.push_toArray, List.append_toArray, List.nil_append, List.cons_append]
  gi_wp2_with (refine ⟨trivial, ?_⟩; gi_at_call 184; refine (Bk.back_in Fence.wide 5 trivial hro _ _ _ _).mono ?_; rintro e w' ⟨rfl, rfl⟩)
  have hsz : (((w.alloc (.cells #[u0 0, u0 1, u0 2, u0 3] 46)).alloc (.cells #[.int .i64 0, .string ⟨#[]⟩, .slice none 0 0, .slice none 0 0] 46)).alloc (.cells #[.slice a len cap] 44)).heap.size = w.heap.size + 3 := by simp
  have b1 : (((w.alloc (.cells #[u0 0, u0 1, u0 2, u0 3] 46)).alloc (.cells #[.int .i64 0, .string ⟨#[]⟩, .slice none 0 0, .slice none 0 0] 46)).alloc (.cells #[.slice a len cap] 44)).heap[w.heap.size]? = some (row4 u0) := by
    have := World.alloc_heap_new w (.cells #[u0 0, u0 1, u0 2, u0 3] 46)
    rw [Below.heap_alloc _ _ _ (by simp; omega), Below.heap_alloc _ _ _ (by simp)]; exact this
  have b2 : (((w.alloc (.cells #[u0 0, u0 1, u0 2, u0 3] 46)).alloc (.cells #[.int .i64 0, .string ⟨#[]⟩, .slice none 0 0, .slice none 0 0] 46)).alloc (.cells #[.slice a len cap] 44)).heap[w.heap.size + 1]? = some zT46 := by
    have := World.alloc_heap_new (w.alloc (.cells #[u0 0, u0 1, u0 2, u0 3] 46)) (.cells #[.int .i64 0, .string ⟨#[]⟩, .slice none 0 0, .slice none 0 0] 46)
    rw [World.size_alloc] at this
    rw [Below.heap_alloc _ _ _ (by simp)]; exact this
  have b3 : (((w.alloc (.cells #[u0 0, u0 1, u0 2, u0 3] 46)).alloc (.cells #[.int .i64 0, .string ⟨#[]⟩, .slice none 0 0, .slice none 0 0] 46)).alloc (.cells #[.slice a len cap] 44)).heap[w.heap.size + 2]? = some (.cells #[.slice a len cap] 44 (0, 0)) := by
    have := World.alloc_heap_new ((w.alloc (.cells #[u0 0, u0 1, u0 2, u0 3] 46)).alloc (.cells #[.int .i64 0, .string ⟨#[]⟩, .slice none 0 0, .slice none 0 0] 46)) (.cells #[.slice a len cap] 44)
    rw [World.size_alloc, World.size_alloc] at this; exact this
  have hB0 : Below w.heap.size w (((w.alloc (.cells #[u0 0, u0 1, u0 2, u0 3] 46)).alloc (.cells #[.int .i64 0, .string ⟨#[]⟩, .slice none 0 0, .slice none 0 0] 46)).alloc (.cells #[.slice a len cap] 44)) := (((Below.refl _ w).alloc (Nat.le_refl _) _).alloc (by simp) _).alloc (by simp; omega) _
  obtain ⟨W0, hW0⟩ : ∃ W0, (((w.alloc (.cells #[u0 0, u0 1, u0 2, u0 3] 46)).alloc (.cells #[.int .i64 0, .string ⟨#[]⟩, .slice none 0 0, .slice none 0 0] 46)).alloc (.cells #[.slice a len cap] 44)) = W0 := ⟨_, rfl⟩
  rw [hW0] at b1 b2 b3 hB0 hsz ⊢
  clear hW0
  refine wpIn_rangeFunc_ownH hro (by decide) (gf := 216) (lb := #[.pointer (some ⟨w.heap.size + 1 + 1, 0, none⟩)]) rfl trivial (enters_of Tryz.func216 (by kernel_rfl) rfl)
    (Bk.stops Fence.wide 5 trivial hro (by decide) (w.heap.size + 1 + 1) w.heap.size (.slice a len cap) len el (by omega) W0 (by omega) (by omega) (by unfold World.cell?; rw [b3]; rfl) (hs.below hB0))
    (fun h1 h2 => ⟨h1.1.trans h2.1, fun v hv => h2.2 v (h1.2 v hv)⟩) (fun W l o o' hl ho hc hk => ⟨belowK_b (w := W0) (by omega) W l o o' hl ho hc hk, fun v hv => by
      rw [World.cell?_of_block (World.putObj_heap_other (by show w.heap.size + 1 + 1 ≠ l; omega))]; exact hv⟩) (Below.refl _ _) (fun _ => rfl)
    (FunI w I ts r) (fun _ _ _ => False) (FunI.own w I ts r (by omega)) (fun _ _ _ _ _ h _ _ => h)
    ⟨I, u0, hr.mono (fun a ha => hB0.cell (p := a) (hh.imm _ ha)) (fun _ h => h), b1, b2, hB0, by omega, fun _ h => h, fun _ h => .inl h⟩
    (FunA w el fun x p => { tmps := #[.agg #[u0 0, u0 1, u0 2, u0 3], .slice a len cap, .pointer (some ⟨w.heap.size, 0, none⟩), undef, .pointer (some ⟨w.heap.size + 1, 0, none⟩), undef, p, .slice a len cap, .func (.func 216) #[] #[.pointer (some ⟨w.heap.size + 1 + 1, 0, none⟩)], .int .i64 (x : Int), .agg #[el x 0, el x 1, el x 2, el x 3], undef, undef, undef, undef, undef, undef], defers := [] })
    (fun x a' => FunA.own w el _ x a') ?assign ?body ?done ?stop
  case assign =>
    intro l pre x W K hi hK
    obtain ⟨o0, o1, o2, o3⟩ := one4 (hel x)
    have s0 : ∀ (a : Addr) (m : Mode) (w : World), (store a (el x 0) m).run Tryz.prog w = stored Tryz.prog w a (el x 0) m := fun a m w => run_store _ w a _ m o0
    have s1 : ∀ (a : Addr) (m : Mode) (w : World), (store a (el x 1) m).run Tryz.prog w = stored Tryz.prog w a (el x 1) m := fun a m w => run_store _ w a _ m o1
    have s2 : ∀ (a : Addr) (m : Mode) (w : World), (store a (el x 2) m).run Tryz.prog w = stored Tryz.prog w a (el x 2) m := fun a m w => run_store _ w a _ m o2
    have s3 : ∀ (a : Addr) (m : Mode) (w : World), (store a (el x 3) m).run Tryz.prog w = stored Tryz.prog w a (el x 3) m := fun a m w => run_store _ w a _ m o3
    gi_wp2
    have hsW : w.heap.size + 3 ≤ W.heap.size := by obtain ⟨_, _, hJ⟩ := hi; exact hJ.sz
    exact hK _ _ ((KeepsOthers.alloc _ _).from _) ⟨(Below.refl _ W).alloc (by omega) _, fun v hv => cell_kept hv (World.grownBy_alloc W _ none) (fun r e => by cases e)⟩ ((FunI.own w I ts r (Nat.le_refl _)).alloc _ hi) ⟨W.heap.size, hsW, World.alloc_heap_new W _, rfl⟩
  case body =>
    rintro l pre x a' W hl ⟨rec, hrec⟩ ⟨I', u, hJ⟩ ⟨Bx, hBx, hbx, rfl⟩ hlt
    obtain ⟨c0, c1, c2, c3⟩ := row4_cell hJ.b1
    obtain ⟨d0, d1, d2, d3⟩ := row4_cell hbx
    have hts : tsz (funF ts r pre) ≤ 1048576 := by
      have h1 : tsz (funF ts r pre) ≤ tsz r + pre.length * (M + 3) := funF_size (r := r) hM pre r
      have h2 : pre.length * (M + 3) ≤ len * (M + 3) := Nat.mul_le_mul_right _ (by omega)
      rw [Nat.add_mul] at hlim
      omega
    have hcall := apply_calls hh hJ (ts x) (el x 0) (el x 1) (el x 2) (el x 3) (hel x) (by have := hM x; have : M + 3 ≤ (len + 1) * (M + 3) := Nat.le_mul_of_pos_left _ (by omega); omega) hts
    gi_wp2_with (refine ⟨trivial, ?_⟩; gi_at_call 185; refine (CallsIn.inRound l (callsIn_wide.2 hcall)).mono ?_; rintro e W2 ⟨v, I2, rfl, ho, hrep, hB2, hi2, hn2⟩; have hg : W2.heap[w.heap.size]? = some (row4 u) := (hB2.block _ (by have := hJ.sz; omega)).trans ((Below.heap_alloc _ _ _ (by have := hJ.sz; omega)).trans hJ.b1); obtain ⟨g0, g1, g2, g3⟩ := row4_cell hg; obtain ⟨f0, f1, f2, f3⟩ := row4_frozen hg; have s0 : ∀ (a : Addr) (m : Mode) (w : World), (store a (v 0) m).run Tryz.prog w = stored Tryz.prog w a (v 0) m := fun a m w => run_store _ w a _ m (ho 0 (by decide)); have s1 : ∀ (a : Addr) (m : Mode) (w : World), (store a (v 1) m).run Tryz.prog w = stored Tryz.prog w a (v 1) m := fun a m w => run_store _ w a _ m (ho 1 (by decide)); have s2 : ∀ (a : Addr) (m : Mode) (w : World), (store a (v 2) m).run Tryz.prog w = stored Tryz.prog w a (v 2) m := fun a m w => run_store _ w a _ m (ho 2 (by decide)); have s3 : ∀ (a : Addr) (m : Mode) (w : World), (store a (v 3) m).run Tryz.prog w = stored Tryz.prog w a (v 3) m := fun a m w => run_store _ w a _ m (ho 3 (by decide)))
    obtain ⟨W3, hW3, r1, r2, r3, r4, r5, r6⟩ := set4 (v := v) hg
    rw [hW3]
    have hszW := hJ.sz
    have hlt2 := hB2.size
    rw [World.size_alloc] at hlt2
    have old : ∀ k, k < W.heap.size → k ≠ w.heap.size → W3.heap[k]? = W.heap[k]? := fun k hk hne => (r2 k hne).trans ((hB2.block k (by omega)).trans (Below.heap_alloc _ _ _ hk))
    have hBelow : Below w.heap.size W W3 := ⟨r4.trans (hB2.os.trans rfl), r5.trans (hB2.tape.trans rfl), r6.trans (hB2.output.trans rfl), by omega, fun k hk => old k (by omega) (by omega)⟩
    have hI2 : ∀ k, I2 k → k ≠ w.heap.size := fun k hk e => by
      subst e
      rcases hn2 _ hk with h | h
      · rcases hJ.new _ h with h | h
        · have := hh.imm _ h; omega
        · omega
      · omega
    refine ⟨⟨by omega, fun k o hB hk ho => ?_⟩, ⟨hBelow, fun z hz => ?_⟩, I2, v, ?_, r1, ?_, hJ.below.trans hBelow, by omega, fun k hk => hi2 k (hJ.imm k hk), fun k hk => ?_⟩
    · rw [old k (lt_row hk) (by omega)]; exact hk
    · have hlt3 := World.block_lt_of_cell? W _ hz
      rw [cell_of_heap (w := W) (old _ hlt3 (by show w.heap.size + 1 + 1 ≠ _; omega))]; exact hz
    · rw [funF_snoc]
      exact hrep.mono (fun a ha => cell_of_heap (r2 _ (hI2 _ ha))) (fun _ h => h)
    · exact (old _ (lt_row hJ.b2) (by omega)).trans hJ.b2
    · rcases hn2 k hk with h | ⟨h, h'⟩
      · rcases hJ.new k h with h | ⟨h, h'⟩
        · exact .inl h
        · exact .inr ⟨h, by omega⟩
      · exact .inr ⟨by omega, by omega⟩
  case done =>
    rintro D ys W hD rfl ⟨I', u, hJ⟩ hK
    obtain ⟨c0, c1, c2, c3⟩ := row4_cell hJ.b1
    obtain ⟨o0, o1, o2, o3⟩ := one4 hJ.rep
    have hb2 := hJ.b2
    rw [zT46_row] at hb2
    obtain ⟨g0, g1, g2, g3⟩ := row4_cell hb2
    obtain ⟨f0, f1, f2, f3⟩ := row4_frozen hb2
    have s0 : ∀ (a : Addr) (m : Mode) (w : World), (store a (u 0) m).run Tryz.prog w = stored Tryz.prog w a (u 0) m := fun a m w => run_store _ w a _ m o0
    have s1 : ∀ (a : Addr) (m : Mode) (w : World), (store a (u 1) m).run Tryz.prog w = stored Tryz.prog w a (u 1) m := fun a m w => run_store _ w a _ m o1
    have s2 : ∀ (a : Addr) (m : Mode) (w : World), (store a (u 2) m).run Tryz.prog w = stored Tryz.prog w a (u 2) m := fun a m w => run_store _ w a _ m o2
    have s3 : ∀ (a : Addr) (m : Mode) (w : World), (store a (u 3) m).run Tryz.prog w = stored Tryz.prog w a (u 3) m := fun a m w => run_store _ w a _ m o3
    gi_wp2
    obtain ⟨W3, hW3, r1, r2, r3, r4, r5, r6⟩ := set4 (v := u) hb2
    rw [hW3]
    have hD3 : W3.heap[D]? = some (.deferred (some [])) := (r2 D (by omega)).trans hK
    have hsz3 := hJ.sz
    refine ⟨by simp, .inl ⟨_, _, rfl, run_takeDeferred hD3, ?_⟩⟩
    have p1 : (W3.putObj D (.deferred none)).heap[w.heap.size + 1]? = some (row4 u) := (World.putObj_heap_other (by omega)).trans r1
    obtain ⟨q0, q1, q2, q3⟩ := row4_cell p1
    have hold : ∀ k, k < w.heap.size + 3 → k ≠ w.heap.size + 1 → (W3.putObj D (.deferred none)).heap[k]? = W.heap[k]? := fun k hk hne => (World.putObj_heap_other (by omega)).trans (r2 k hne)
    refine ⟨.agg #[u 0, u 1, u 2, u 3], ?_, .agg #[u 0, u 1, u 2, u 3], I', rfl, ?_, ?_, hJ.imm, fun k hk => ?_⟩
    · simp [results, Tryz.results137, go_sem, q0, q1, q2, q3]
    · exact hJ.rep.keep (fun a v ha hv => by
        have hne : a.block ≠ D := by
          intro e
          unfold World.cell? at hv
          rw [e, hK] at hv
          cases hv
        have hne2 : a.block ≠ w.heap.size + 1 := fun e => by
          rcases hJ.new _ ha with h | ⟨h, _⟩
          · have := hh.imm _ h; omega
          · omega
        rw [cell_of_heap (w := W) ((World.putObj_heap_other (by omega)).trans (r2 _ hne2))]; exact hv)
    · exact hJ.below.trans ⟨r4, r5, r6, by simp; omega, fun k hk => hold k (by omega) (by omega)⟩
    · rcases hJ.new k hk with h | ⟨h1, h2⟩
      · exact .inl h
      · exact .inr ⟨by omega, by simp; omega⟩
  case stop =>
    rintro D c pre W _ _ h _
    exact h.elim
end Go.Proofs
end
section
namespace Go.Proofs
open Go.RowKit Go.Shelf Go.AM
set_option linter.unusedVariables false
set_option linter.unusedSimpArgs false
def funAll (r : Ty) (l : List Ty) : Ty := l.foldr funT r
def noTy : Ty := .mk 0 [] (.mk []) []
def elT (l : List Ty) (x : Nat) : Ty := (l[x]?).getD noTy
theorem funF_down (r : Ty) (l : List Ty) : ∀ (n q : Nat), n + q = l.length → funF (elT l) r (Bk.down l.length q) = (l.drop q).foldr funT r
  | 0, q, h => by
    have e : q = l.length := by omega
    subst e
    rw [Bk.down_len, List.drop_length]; rfl
  | n + 1, q, h => by
    have hlt : q < l.length := by omega
    rw [Bk.down_succ hlt, funF_snoc, funF_down r l n (q + 1) (by omega), List.drop_eq_getElem_cons hlt, List.foldr_cons]
    unfold elT
    rw [List.getElem?_eq_getElem hlt]; rfl
def noV (i : Nat) : Value := [Value.int .i64 0, .string ⟨#[]⟩, .slice none 0 0, .slice none 0 0].getD i undef
theorem noTy_rep {W : World} {I : Nat → Prop} : DRep W I (eT noTy) (.agg #[noV 0, noV 1, noV 2, noV 3]) := by
  rw [eT4]
  refine .agg rfl (fun i c u hc hu => ?_) (fun i c u hc hu => ?_)
  · match i with
    | 0 => simp at hu; subst hu; rfl
    | 1 => simp at hu; subst hu; rfl
    | 2 => simp at hu; subst hu; rfl
    | 3 => simp at hu; subst hu; rfl
    | i + 4 => simp at hc
  · match i with
    | 0 => simp at hu hc; subst hu; subst hc; exact .v rfl
    | 1 => simp at hu hc; subst hu; subst hc; exact .v rfl
    | 2 => simp at hu hc; subst hu; subst hc; exact .nil
    | 3 => simp at hu hc; subst hu; subst hc; exact .nil
    | i + 4 => simp at hc
theorem mk_rep {W : World} {I : Nat → Prop} {t : Ty} {f : Nat → Value} (h : ∀ i c, (eT t).cells[i]? = some c → (f i).oneCell' = true ∧ DRep W I c (f i)) : DRep W I (eT t) (.agg #[f 0, f 1, f 2, f 3]) := by
  have e : (eT t).cells = [int t.op, str t.name, .lst (t.bound.args.map eK), .lst (t.kids.map eT)] := eT_cells t
  rw [e] at h
  rw [eT4]
  refine .agg rfl (fun i c u hc hu => ?_) (fun i c u hc hu => ?_)
  · have := (h i c hc).1
    match i with
    | 0 => simp at hu; subst hu; exact this
    | 1 => simp at hu; subst hu; exact this
    | 2 => simp at hu; subst hu; exact this
    | 3 => simp at hu; subst hu; exact this
    | i + 4 => simp at hc
  · have := (h i c hc).2
    match i with
    | 0 => simp at hu; subst hu; exact this
    | 1 => simp at hu; subst hu; exact this
    | 2 => simp at hu; subst hu; exact this
    | 3 => simp at hu; subst hu; exact this
    | i + 4 => simp at hc
theorem add_off (b off k : Nat) : (⟨b, off, none⟩ : Addr).add k = ⟨b, off + k, none⟩ := by
  unfold Addr.add
  split
  · rename_i h; have : k = 0 := by simpa using h
    subst this; rfl
  · rfl
theorem Fun_core {σ : List Blk} {β : List (Option AM.Loc)} {w : World} {I : Nat → Prop} (h : HRel CT w I β σ) (r : Ty) (l : List Ty) (M : Nat) (hM : ∀ x ∈ l, tsz x ≤ M) (hrM : tsz r ≤ M) (hlim : (l.length + 1) * (M + 3) ≤ 1048576) (rv sv : Value) (hr : DRep w I (eT r) rv)
    (hsv : (l = [] ∧ ∃ a cap, sv = .slice a 0 cap) ∨ ∃ (b off cap : Nat) (f : Nat → Nat → Value), sv = .slice (some ⟨b, off, none⟩) l.length cap ∧ b < w.heap.size ∧ ∀ (j : Nat) (x : Ty), l[j]? = some x → ∀ (i : Nat) (c : D), (eT x).cells[i]? = some c → w.cell? ⟨b, off + (j * 4 + i), none⟩ = some (f j i) ∧ (f j i).oneCell' = true ∧ DRep w I c (f j i)) (K : Nat) :
    Calls Tryz.prog 137 #[rv, sv] w fun e w' => ∃ v I' β', e = .returned v ∧ ARep w' I' β' (.d (eT (funAll r l))) v ∧ HRel CT w' I' β' σ ∧ Ext K w I (AM.Own β σ) β w' I' (AM.Own β' σ) β' := by
  obtain ⟨u0, rfl, ho⟩ := ty_rep hr
  have hM' : ∀ x, tsz (elT l x) ≤ M := fun x => by
    unfold elT
    rcases Nat.lt_or_ge x l.length with hx | hx
    · rw [List.getElem?_eq_getElem hx]; exact hM _ (List.getElem_mem hx)
    · rw [List.getElem?_eq_none hx]
      have : tsz noTy = 1 := by simp [noTy, tsz, ksz, kszL, tszL]
      show tsz noTy ≤ M
      have := tsz_pos r
      omega
  have fin : ∀ (a : Option Addr) (cap : Nat) (el : Nat → Nat → Value), sv = .slice a l.length cap → (∀ x, DRep w I (eT (elT l x)) (.agg #[el x 0, el x 1, el x 2, el x 3])) → Bk.Sl w.heap.size w (.slice a l.length cap) l.length el → Calls Tryz.prog 137 #[.agg #[u0 0, u0 1, u0 2, u0 3], sv] w fun e w' => ∃ v I' β', e = .returned v ∧ ARep w' I' β' (.d (eT (funAll r l))) v ∧ HRel CT w' I' β' σ ∧ Ext K w I (AM.Own β σ) β w' I' (AM.Own β' σ) β' := by
    intro a cap el e1 e2 e3
    subst e1
    refine (Fun_raw (HRel.mk0 h.env h.size h.imm) r (elT l) M hM' hrM u0 hr a l.length cap hlim el e2 e3).mono ?_
    rintro e w' ⟨v, I', rfl, h1, h2, h3, h4⟩
    rw [funF_down r l l.length 0 (by omega)] at h1
    obtain ⟨g1, g2⟩ := h.grow (w' := w') (I' := I') K h2.os h2.tape h2.output h2.size h2.block h3 h4
    exact ⟨v, I', β, rfl, .d h1, g1, g2⟩
  rcases hsv with ⟨rfl, a, cap, rfl⟩ | ⟨b, off, cap, f, rfl, hb, hf⟩
  · exact fin a cap (fun _ => noV) rfl (fun x => noTy_rep) (.inl ⟨rfl, a, cap, rfl⟩)
  · refine fin _ cap (fun x => if x < l.length then f x else noV) rfl (fun x => ?_) (.inr ⟨b, off, cap, rfl, hb, fun j i hj hi => ?_⟩)
    · unfold elT
      rcases Nat.lt_or_ge x l.length with hx | hx
      · simp only [List.getElem?_eq_getElem hx, if_pos hx]
        exact mk_rep fun i c hc => (hf x _ (List.getElem?_eq_getElem hx) i c hc).2
      · simp only [List.getElem?_eq_none hx, if_neg (Nat.not_lt.2 hx)]
        exact noTy_rep
    · show w.cell? _ = some ((if j < l.length then f j else noV) i)
      rw [if_pos hj]
      exact (hf j _ (List.getElem?_eq_getElem hj) i _ (List.getElem?_eq_getElem (by rw [eT_len]; exact hi))).1
theorem Fun_fn (r : Ty) (l : List Ty) (M : Nat) (hM : ∀ x ∈ l, tsz x ≤ M) (hrM : tsz r ≤ M) (hlim : (l.length + 1) * (M + 3) ≤ 1048576) : Go.AM.Fn CT 0 137 [.d (eT r), .d (.lst (l.map eT))] [] (.d (eT (funAll r l))) [] := by
  refine ⟨by kernel_rfl, fun w I β vs hh hlen hr => ?_⟩
  obtain ⟨rv, sv, rfl⟩ : ∃ u v, vs = #[u, v] := by
    match vs, hlen with
    | ⟨[u, v]⟩, _ => exact ⟨u, v, rfl⟩
  have h1 := hr 0 _ rv rfl rfl
  have h2 := hr 1 _ sv rfl rfl
  cases h1 with
  | d h1 =>
    cases h2 with
    | d h2 =>
      refine Fun_core hh r l M hM hrM hlim rv sv h1 ?_ 0
      generalize hd : D.lst (l.map eT) = d at h2
      cases h2 with
      | v _ => cases hd
      | agg _ _ _ => cases hd
      | nil =>
        have : l = [] := by simpa using hd
        exact .inl ⟨this, _, _, rfl⟩
      | lst sz f hI hs hc hm hsz hcell hrep =>
        rename_i xs ad cap
        cases hd
        obtain ⟨b, off, sp⟩ := ad
        cases hs
        rw [List.length_map]
        refine .inr ⟨b, off, cap, f, rfl, hh.imm _ hI, fun j x hj i c hi => ?_⟩
        have hj' : (l.map eT)[j]? = some (eT x) := by rw [List.getElem?_map, hj]; rfl
        have hs4 : sz = 4 := by rw [← hsz j _ hj', eT_len]
        subst hs4
        exact ⟨by have := (hcell j _ i c hj' hi).1; rwa [add_off] at this, (hcell j _ i c hj' hi).2, hrep j _ i c hj' hi⟩
theorem Fun_fnS (r : Ty) (l : List Ty) (xs : List D) (n : Nat) (hx : xs.take n = l.map eT) (hn : n ≤ xs.length) (M : Nat) (hM : ∀ x ∈ l, tsz x ≤ M) (hrM : tsz r ≤ M) (hlim : (l.length + 1) * (M + 3) ≤ 1048576) : Go.AM.Fn CT 1 137 [.d (eT r), .sl 0 0 n] [.arr 4 xs] (.d (eT (funAll r l))) [.arr 4 xs] := by
  refine ⟨by kernel_rfl, fun w I β vs hh hlen hr => ?_⟩
  obtain ⟨rv, sv, rfl⟩ : ∃ u v, vs = #[u, v] := by
    match vs, hlen with
    | ⟨[u, v]⟩, _ => exact ⟨u, v, rfl⟩
  have h1 := hr 0 _ rv rfl rfl
  have h2 := hr 1 _ sv rfl rfl
  have hl : l.length = n := by
    have := congrArg List.length hx
    rw [List.length_take, List.length_map] at this
    omega
  cases h1 with
  | d h1 =>
    refine Fun_core hh r l M hM hrM hlim rv sv h1 ?_ 1
    cases h2 with
    | sl0 => exact .inl ⟨List.eq_nil_of_length_eq_zero hl, _, _, rfl⟩
    | sl hb hc hm hcap =>
      rename_i cap lo
      obtain ⟨e1, e2, f, hf⟩ := hh.blk 0 lo _ hb rfl
      have ho := hh.own 0 lo _ hb rfl rfl
      rw [hl]
      refine .inr ⟨lo.r, lo.o + 0 * lo.sz, cap, f, rfl, ho.2.1, fun j x hj i c hi => ?_⟩
      have hjn : j < n := by have := (List.getElem?_eq_some_iff.1 hj).1; omega
      have hj' : xs[j]? = some (eT x) := by
        have : (xs.take n)[j]? = some (eT x) := by rw [hx, List.getElem?_map, hj]; rfl
        rwa [List.getElem?_take_of_lt hjn] at this
      have := hf j _ i c hj' hi
      rw [Nat.zero_mul, Nat.add_zero]
      exact this
end Go.Proofs
end
section
namespace Go.AM
open Go.RowKit
set_option linter.unusedVariables false
set_option linter.unusedSimpArgs false
/-- A new row of plain values. -/
theorem newRow_rel {C : Ctx} {w w' : World} {I : Nat → Prop} (h : HRel C w I [] []) {vals : List Value} (h1 : ∀ v ∈ vals, v.oneCell' = true) {a : Nat} {ty : TypeId} (ha : w.heap.size ≤ a) (hw : w'.heap[a]? = some (.cells vals.toArray ty (0, 0))) (hb : Below w.heap.size w w') :
    HRel C w' I [some ⟨a, 0, 1⟩] [.arr 1 (vals.map D.v)] ∧ Ext 0 w I (Own [] []) [] w' I (Own [some ⟨a, 0, 1⟩] [.arr 1 (vals.map D.v)]) [some ⟨a, 0, 1⟩] := by
  have hlt : a < w'.heap.size := (Array.getElem?_eq_some_iff.1 hw).1
  have hN := h.size
  have only : ∀ {b : Nat} {l : Loc}, ([some ⟨a, 0, 1⟩] : List (Option Loc))[b]? = some (some l) → b = 0 ∧ l = ⟨a, 0, 1⟩ := by
    intro b l hb
    match b with
    | 0 => simp at hb; exact ⟨rfl, hb.symm⟩
    | b + 1 => simp at hb
  refine ⟨⟨rfl, fun b l k hb' hk => ?_, fun b l k hb' hk hv => ?_, fun b k hb' hk => ?_, fun b b' l l' k k' hb1 hk hv hb2 hk' hv' e => ?_, fun r hr => ?_, C.stab w w' (fun k hk => hb.block k (Nat.lt_of_lt_of_le hk h.size)) hb.os h.env, Nat.le_trans h.size hb.size⟩,
    hb.os, hb.tape, hb.output, hb.size, fun r hr _ => hb.block r hr, fun x hx => ?_, fun r hr => hr, fun r hr => .inl hr, fun r hr => ?_, fun b l hb' => absurd hb' (Nat.not_lt_zero _)⟩
  · obtain ⟨rfl, rfl⟩ := only hb'
    obtain rfl : Blk.arr 1 (vals.map D.v) = k := by simpa using hk
    refine ⟨rfl, fun j x hj => ?_, fun j i => vals.getD j undef, fun j x i c hj hi => ?_⟩
    · rw [List.getElem?_map, Option.map_eq_some_iff] at hj
      obtain ⟨v, _, rfl⟩ := hj
      rfl
    · rw [List.getElem?_map, Option.map_eq_some_iff] at hj
      obtain ⟨v, hv, rfl⟩ := hj
      have hi0 : i = 0 := by have := (List.getElem?_eq_some_iff.1 hi).1; simp [D.cells] at this; omega
      subst hi0
      obtain rfl : D.v v = c := by simpa [D.cells] using hi
      have e : vals.getD j undef = v := by rw [List.getD_eq_getElem?_getD, hv]; rfl
      have ho := h1 v (List.mem_of_getElem? hv)
      dsimp only
      rw [e]
      refine ⟨?_, ho, .v ho⟩
      unfold World.cell?
      rw [hw]
      simpa using hv
  · obtain ⟨rfl, rfl⟩ := only hb'
    refine ⟨Nat.le_trans hN ha, hlt, fun hi => by have := h.imm a hi; omega, fun o => ?_⟩
    unfold World.frozen?
    rw [hw]
    simp
  · match b with
    | 0 => simp at hb'
    | b + 1 => simp at hb'
  · obtain ⟨rfl, _⟩ := only hb1
    obtain ⟨rfl, _⟩ := only hb2
    rfl
  · exact Nat.lt_of_lt_of_le (h.imm r hr) hb.size
  · obtain ⟨u, hu⟩ := Option.isSome_iff_exists.1 hx
    rw [cell_of_heap (hb.block _ (World.block_lt_of_cell? w x hu))]; exact hx
  · obtain ⟨b, l, k, hb', _, _, rfl⟩ := hr
    obtain ⟨rfl, rfl⟩ := only hb'
    exact .inr ha
theorem Fn.newRow {C : Ctx} {f : FuncId} {us vals : List Value} (hc : callable C.P f = true) (h1 : ∀ v ∈ vals, v.oneCell' = true) (hlen : vals.length ≤ 9223372036854775807)
    (h : ∀ w, C.Env w → Calls C.P f us.toArray w fun e w' => ∃ a ty, e = .returned (.slice (some ⟨a, 0, none⟩) vals.length vals.length) ∧ w.heap.size ≤ a ∧ w'.heap[a]? = some (.cells vals.toArray ty (0, 0)) ∧ Below w.heap.size w w') :
    Fn C 0 f (us.map fun u => .d (.v u)) [] (.sl 0 0 vals.length) [.arr 1 (vals.map D.v)] := by
  refine ⟨hc, fun w I β vs hh hl hr => ?_⟩
  have hβ : β = [] := by have := hh.len; exact List.eq_nil_of_length_eq_zero this
  subst hβ
  obtain rfl := scal_eq (by simpa using hl) hr
  refine (h w hh.env).mono ?_
  rintro e w' ⟨a, ty, rfl, ha, hw, hb⟩
  obtain ⟨g1, g2⟩ := newRow_rel hh h1 ha hw hb
  refine ⟨_, I, _, rfl, ?_, g1, g2⟩
  have : ARep w' I [some ⟨a, 0, 1⟩] (.sl 0 0 vals.length) (.slice (some ⟨a, 0 + 0 * 1, none⟩) vals.length vals.length) := .sl (l := ⟨a, 0, 1⟩) rfl (Nat.le_refl _) hlen (fun i hi => by
    unfold World.cell?
    simp only [hw]
    rw [List.getElem?_toArray, List.getElem?_eq_getElem (by simpa using hi)]
    rfl)
  exact this
end Go.AM
end
