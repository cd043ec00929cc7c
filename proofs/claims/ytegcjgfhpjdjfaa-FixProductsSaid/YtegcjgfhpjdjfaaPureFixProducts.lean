/- Products: for all numbers a, b of 64 bits, fix.Mul tells what the document's Mul tells, whichever comes first, and something is reckoned. No condition. -/
import Derived.Test.YtegcjgfhpjdjfaaBase
import Derived.Test.YtegcjgfhpjdjfaaPFixx10
namespace Go.Proofs.Ytegcjgfhpjdjfaa.Pure
open Go.RowKit Go.Proofs.Ytegcjgfhpjdjfaa.PFix Go.Proofs.YtegcjgfhpjdjfaaW.PrintWords Go.Proofs.YtegcjgfhpjdjfaaW.PrintLast Go.Proofs.YtegcjgfhpjdjfaaW.PrintMore
set_option linter.unusedVariables false
set_option linter.unusedSimpArgs false

theorem FixProducts : cadastrelaw01_FixProducts.Pure := by
  intro a b ha hb
  obtain ⟨a0, a1⟩ := wf64 ha
  obtain ⟨b0, b1⟩ := wf64 hb
  obtain ⟨K1, h1⟩ := fixMul_ok a b a0 a1 b0 b1
  obtain ⟨K2, h2⟩ := refMul_ok a b a0 a1 b0 b1
  obtain ⟨K3, h3⟩ := fixMul_ok b a b0 b1 a0 a1
  obtain ⟨K4, h4⟩ := lives_ok
  have hs : mulS b a = mulS a b := by
    unfold mulS
    rw [Int.mul_comm, Bool.and_comm, bne_comm]
  refine ⟨K1 + K2 + K3 + K4, ?_⟩
  have h1 := h1 (K1 + K2 + K3 + K4) (by omega)
  have h2 := h2 (K1 + K2 + K3 + K4) (by omega)
  have h3 := h3 (K1 + K2 + K3 + K4) (by omega)
  have h4 := h4 (K1 + K2 + K3 + K4) (by omega)
  dsimp only at h1 h2 h3 h4
  unfold cadastrelaw01_FixProducts.f
  rw [h1, h2, h3, h4, hs]
  simp
end Go.Proofs.Ytegcjgfhpjdjfaa.Pure
