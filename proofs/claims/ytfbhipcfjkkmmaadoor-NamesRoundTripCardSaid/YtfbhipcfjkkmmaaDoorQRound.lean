import Derived.Test.YtfbhipcfjkkmmaaDoorQE
import Derived.Test.YtfbhipcfjkkmmaaDoorPx11
import Derived.OpenShut
namespace Go.Proofs.YtfbhipcfjkkmmaaDoor.Pure
open Go.RowKit Go.Proofs.YtfbhipcfjkkmmaaDoor.P Go.Proofs.YtfbhipcfjkkmmaaDoorW.PrintWords Go.Proofs.YtfbhipcfjkkmmaaDoorW.PrintLast
open _root_.Go.Proofs.YtfbhipcfjkkmmaaDoor.Nm
set_option linter.unusedVariables false
set_option linter.unusedSimpArgs false

theorem j3_ok (s : ByteArray) (hs : s.size ≤ 1000) (k : Nat) (hk : 5000 < k) : lazyclaw01_NamesRoundTrip.j3 (k + 1) s (baseA s).2.2 false = some true := by
  rw [lazyclaw01_NamesRoundTrip.j3, if_neg (by simp), Classify_f s (by omega) k (by omega)]
  simp only [Option.bind_some]
  rw [class_base s, beq_self_eq_true, if_pos rfl]; rfl
theorem j2_ok (s : ByteArray) (hs : s.size ≤ 1000) (k : Nat) (hk : 5001 < k) : lazyclaw01_NamesRoundTrip.j2 (k + 1) s = some true := by
  obtain ⟨k, rfl⟩ : ∃ k', k = k' + 1 := ⟨k - 1, by omega⟩
  have h3 := j3_ok s hs k (by omega)
  rw [lazyclaw01_NamesRoundTrip.j2, Split_f s (by omega) (k + 1) (by omega), Base_f s (by omega) (k + 1) (by omega)]
  simp only [Option.bind_some]
  rcases split_ok s with ⟨e1, e2, e3, e4, e5⟩ | e
  · have hb := base_join s _ _ e2 e3
    have hj : (joinA (splitA s).1 (splitA s).2.1).toList = s.toList := by rw [toL, toL, joinA_list, if_pos e3, e2]
    rw [if_pos e1, Join_f _ _ (by omega) (by omega) (k + 1) (by omega) (by omega)]
    simp only [Option.bind_some]
    rw [if_pos hj, Classify_f s (by omega) (k + 1) (by omega), class_join s _ _ e2 e3]
    simp only [Option.bind_some, if_true]
    rw [hb] at h3 ⊢
    simp only [Bool.false_eq_true, if_false]
    rw [if_pos (by rw [toL])]
    exact h3
  · rw [e]
    simp only [Bool.false_eq_true, if_false]
    have hnil : ((⟨#[]⟩ : ByteArray).toList = ([] : List UInt8)) := by rw [toL]
    rcases base_ok s with ⟨b1, v, b2, b3, b4, b5, b6⟩ | b
    · have hm : (madeA (baseA s).1 (baseA s).2.1).toList = s.toList := by
        rw [toL, toL, b2, made_list _ _ (by omega) b4, b5]; rfl
      rw [if_pos b1, Made_f _ _ (by omega) (by rw [b2]; exact ⟨by omega, by omega⟩) (k + 1) (by omega)]
      simp only [Option.bind_some]
      rw [if_pos hm, if_pos hnil, if_pos hnil]
      exact h3
    · rw [b] at h3 ⊢
      simp only [Bool.false_eq_true, if_false]
      rw [if_pos hnil, if_pos hnil, if_pos hnil]
      exact h3
theorem j1_ok (s : ByteArray) (n : Int) (hn : In64 n) (hs : s.size ≤ 1000) (k : Nat) (hk : 5002 < k) : lazyclaw01_NamesRoundTrip.j1 (k + 1) s n = some true := by
  obtain ⟨k, rfl⟩ : ∃ k', k = k' + 1 := ⟨k - 1, by omega⟩
  have h2 := j2_ok s hs k (by omega)
  rw [lazyclaw01_NamesRoundTrip.j1, Made_f s n (by omega) hn (k + 1) (by omega)]
  simp only [Option.bind_some]
  by_cases hm : 0 ≤ n ∧ stemB s = true
  · have hl := made_list s n hm.1 hm.2
    have hb := base_made s n hm.1 hn.2 hm.2
    have hsz : (madeA s n).size ≤ 1100 := by
      have h := madeA_list s n
      have h2 := len (madeA s n)
      have h3 := itoa_len n hn
      have h4 := len s
      rw [← h2, h, if_pos hm, List.length_append, List.length_cons]; omega
    rw [if_neg (by rw [toL, hl]; simp), Base_f _ (by omega) (k + 1) (by omega), Split_f _ (by omega) (k + 1) (by omega)]
    simp only [Option.bind_some]
    have hsp := split_base (madeA s n) (by rw [hb])
    have hcl : classA (madeA s n) = 7 := by
      have := class_base (madeA s n)
      rw [hb] at this
      exact beq_iff_eq.mp this.symm
    rw [hb, hsp, Classify_f _ (by omega) (k + 1) (by omega), hcl]
    simp only [if_true, Bool.false_eq_true, if_false, Option.bind_some]
    exact h2
  · rw [if_pos (by rw [toL, madeA_list, if_neg hm])]
    exact h2
theorem NamesRoundTrip : lazyclaw01_NamesRoundTrip.Pure := by
  intro a0 a1 a2 _ _ hw
  have hn : In64 a2 := bounds_i64 hw
  refine ⟨10002, ?_⟩
  unfold lazyclaw01_NamesRoundTrip.f
  by_cases h0 : (a0.size : Int) > 1000
  · rw [if_pos h0, lazyclaw01_NamesRoundTrip.j0, if_pos rfl]; rfl
  · rw [if_neg h0, lazyclaw01_NamesRoundTrip.j0]
    by_cases h1 : (a1.size : Int) > 1000
    · rw [decide_eq_true h1, if_pos rfl]; rfl
    · have hj1 := j1_ok a1 a2 hn (by omega) 10000 (by omega)
      rw [decide_eq_false h1, if_neg (by simp), Join_f a0 a1 (by omega) (by omega) 10001 (by omega) (by omega)]
      simp only [Option.bind_some]
      cases hj : joinOk a0.data.toList a1.data.toList
      · rw [if_pos ((joinA_nil a0 a1).mpr hj)]
        exact hj1
      · have hl := joinA_list a0 a1
        rw [if_pos hj] at hl
        have hsz : (joinA a0 a1).size ≤ 2001 := by
          rw [← len (joinA a0 a1), hl, List.length_append, List.length_cons, len a0, len a1]; omega
        rw [if_neg (by rw [toL, hl]; simp), Split_f _ (by omega) 10001 (by omega), split_join a0 a1 hj]
        simp only [Option.bind_some, if_true]
        rw [Classify_f _ (by omega) 10001 (by omega), class_join _ _ _ hl hj]
        simp only [Option.bind_some, if_true]
        exact hj1
end Go.Proofs.YtfbhipcfjkkmmaaDoor.Pure
