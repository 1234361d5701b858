import Derived.Test.YtfbhipcfjkkmmaaDoorQD
import Derived.Test.YtfbhipcfjkkmmaaDoorPx7
namespace Go.Proofs.YtfbhipcfjkkmmaaDoor.Pure
open Go.RowKit Go.Proofs.YtfbhipcfjkkmmaaDoor.P Go.Proofs.YtfbhipcfjkkmmaaDoorW.PrintWords Go.Proofs.YtfbhipcfjkkmmaaDoorW.PrintLast
open _root_.Go.Proofs.YtfbhipcfjkkmmaaDoor.Nm
theorem NamesClassify : lazyclaw01_NamesClassify.Pure := by
  intro a0 _
  refine ⟨10000, ?_⟩
  unfold lazyclaw01_NamesClassify.f
  by_cases h : (a0.size : Int) > 1000
  · rw [if_pos h]; rfl
  · rw [if_neg h, Classify_f a0 (by omega) 10000 (by omega), rClassify_f a0 (by omega) 10000 (by omega)]
    simp only [Option.bind_some, if_true]
    rfl
end Go.Proofs.YtfbhipcfjkkmmaaDoor.Pure
