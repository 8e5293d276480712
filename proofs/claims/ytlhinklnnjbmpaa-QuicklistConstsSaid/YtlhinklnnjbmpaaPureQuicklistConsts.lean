/- Proved: the closed sentence QuicklistConsts (the numbers that layer 7 names) answers true; it has no conditions. -/
import Derived.Test.YtlhinklnnjbmpaaPQuicklistConstsx1
namespace Go.Proofs.Ytlhinklnnjbmpaa.Pure
open Go.RowKit Go.Proofs.Ytlhinklnnjbmpaa.PQuicklistConsts Go.Proofs.YtlhinklnnjbmpaaW.PrintWords Go.Proofs.YtlhinklnnjbmpaaW.PrintLast

theorem QuicklistConsts : cisternlaw07_QuicklistConsts.Pure := by
  unfold cisternlaw07_QuicklistConsts.Pure
  decide

end Go.Proofs.Ytlhinklnnjbmpaa.Pure
