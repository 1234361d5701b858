import Derived.Test.YtfbhipcfjkkmmaaDoorQD
import Derived.Test.YtfbhipcfjkkmmaaDoorPx8
namespace Go.Proofs.YtfbhipcfjkkmmaaDoor.Pure
open Go.RowKit Go.Proofs.YtfbhipcfjkkmmaaDoor.P Go.Proofs.YtfbhipcfjkkmmaaDoorW.PrintWords Go.Proofs.YtfbhipcfjkkmmaaDoorW.PrintLast
open _root_.Go.Proofs.YtfbhipcfjkkmmaaDoor.Nm
theorem NamesQualify : lazyclaw01_NamesQualify.Pure := by
  intro a0 a1 a2 _ _ _
  refine ⟨10001, ?_⟩
  unfold lazyclaw01_NamesQualify.f
  by_cases h0 : (a0.size : Int) > 1000
  · rw [if_pos h0, lazyclaw01_NamesQualify.j0, if_pos rfl]; rfl
  · rw [if_neg h0]
    by_cases h1 : (a1.size : Int) > 1000
    · rw [if_pos h1, lazyclaw01_NamesQualify.j0, if_pos rfl]; rfl
    · rw [if_neg h1, lazyclaw01_NamesQualify.j0]
      by_cases h2 : (a2.size : Int) > 1000
      · rw [decide_eq_true h2, if_pos rfl]; rfl
      · rw [decide_eq_false h2, if_neg (by simp), Split_f a2 (by omega) 10000 (by omega), rSplit_f a2 (by omega) 10000 (by omega), Join_f a0 a1 (by omega) (by omega) 10000 (by omega) (by omega), rJoin_f a0 a1 (by omega) (by omega) 10000 (by omega) (by omega)]
        simp only [Option.bind_some, if_true, beq_self_eq_true]
        rfl
end Go.Proofs.YtfbhipcfjkkmmaaDoor.Pure
