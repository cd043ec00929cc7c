/- Quotients: for all numbers a, b of 64 bits, fix.Div tells what the document's Div tells, and something is reckoned. No condition. -/
import Derived.Test.YtegcjgfhpjdjfaaBase
import Derived.Test.YtegcjgfhpjdjfaaPFixx11
namespace Go.Proofs.Ytegcjgfhpjdjfaa.Pure
open Go.RowKit Go.Proofs.Ytegcjgfhpjdjfaa.PFix Go.Proofs.YtegcjgfhpjdjfaaW.PrintWords Go.Proofs.YtegcjgfhpjdjfaaW.PrintLast Go.Proofs.YtegcjgfhpjdjfaaW.PrintMore
set_option linter.unusedVariables false
set_option linter.unusedSimpArgs false

theorem FixQuotients : cadastrelaw01_FixQuotients.Pure := by
  intro a b ha hb
  obtain ⟨a0, a1⟩ := wf64 ha
  obtain ⟨b0, b1⟩ := wf64 hb
  obtain ⟨K1, h1⟩ := fixDiv_ok a b a0 a1 b0 b1
  obtain ⟨K2, h2⟩ := refDiv_ok a b a0 a1 b0 b1
  obtain ⟨K4, h4⟩ := lives_ok
  refine ⟨K1 + K2 + K4, ?_⟩
  have h1 := h1 (K1 + K2 + K4) (by omega)
  have h2 := h2 (K1 + K2 + K4) (by omega)
  have h4 := h4 (K1 + K2 + K4) (by omega)
  dsimp only at h1 h2 h4
  unfold cadastrelaw01_FixQuotients.f
  rw [h1, h2, h4]
  simp
end Go.Proofs.Ytegcjgfhpjdjfaa.Pure
