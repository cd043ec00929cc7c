/- The living call of the layer answers true. -/
import Derived.Test.YtkhbkhbkcpmiiaaPRealx3
namespace Go.Proofs.Ytkhbkhbkcpmiiaa.PReal
open Go.RowKit Go.Proofs.YtkhbkhbkcpmiiaaW.PrintWords Go.Proofs.YtkhbkhbkcpmiiaaW.PrintLast Go.Proofs.YtkhbkhbkcpmiiaaW.PrintMore
set_option linter.unusedVariables false
set_option linter.unusedSimpArgs false

theorem lives_ok : cadastrelaw02_lives.f = some true := by
  unfold cadastrelaw02_lives.f
  rw [show real_From.f 4591870180066957722 = some (1000, true) by decide +kernel, show real_Root.f 20000 = some (14142, true) by decide +kernel]
  rfl
end Go.Proofs.Ytkhbkhbkcpmiiaa.PReal
