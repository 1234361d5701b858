import Derived.Test.YtfbhipcfjkkmmaaDoorQD
import Derived.Test.YtfbhipcfjkkmmaaDoorPx10
import Derived.OpenShut
namespace Go.Proofs.YtfbhipcfjkkmmaaDoor.Pure
open Go.RowKit Go.Proofs.YtfbhipcfjkkmmaaDoor.P Go.Proofs.YtfbhipcfjkkmmaaDoorW.PrintWords Go.Proofs.YtfbhipcfjkkmmaaDoorW.PrintLast
open _root_.Go.Proofs.YtfbhipcfjkkmmaaDoor.Nm
theorem in64_wf {n : Int} (h : (Lit.int .i64 n).wf = true) : In64 n := bounds_i64 h
theorem NamesMade : lazyclaw01_NamesMade.Pure := by
  intro a0 a1 a2 _ hw _
  have hn := in64_wf hw
  refine ⟨10001, ?_⟩
  unfold lazyclaw01_NamesMade.f
  by_cases h0 : (a0.size : Int) > 1000
  · rw [if_pos h0, lazyclaw01_NamesMade.j0, if_pos rfl]; rfl
  · rw [if_neg h0, lazyclaw01_NamesMade.j0]
    by_cases h2 : (a2.size : Int) > 1000
    · rw [decide_eq_true h2, if_pos rfl]; rfl
    · rw [decide_eq_false h2, if_neg (by simp), Base_f a2 (by omega) 10000 (by omega), rBase_f a2 (by omega) 10000 (by omega), Made_f a0 a1 (by omega) hn 10000 (by omega), rMade_f a0 a1 (by omega) hn 10000 (by omega)]
      simp only [Option.bind_some, if_true, beq_self_eq_true]
      rfl
end Go.Proofs.YtfbhipcfjkkmmaaDoor.Pure
