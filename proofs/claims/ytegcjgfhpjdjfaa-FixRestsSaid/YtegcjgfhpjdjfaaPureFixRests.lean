/- Rests: for all numbers a, b of 64 bits, fix.Mod tells what the document's Mod tells; the rest has the sign of b, and is less than b in size. No condition. -/
import Derived.Test.YtegcjgfhpjdjfaaMod
import Derived.Test.YtegcjgfhpjdjfaaPFixx14
namespace Go.Proofs.Ytegcjgfhpjdjfaa.Pure
open Go.RowKit Go.Proofs.Ytegcjgfhpjdjfaa.PFix Go.Proofs.YtegcjgfhpjdjfaaW.PrintWords Go.Proofs.YtegcjgfhpjdjfaaW.PrintLast Go.Proofs.YtegcjgfhpjdjfaaW.PrintMore
set_option linter.unusedVariables false
set_option linter.unusedSimpArgs false

theorem FixRests : cadastrelaw01_FixRests.Pure := by
  intro a b ha hb
  obtain ⟨a0, a1⟩ := wf64 ha
  obtain ⟨b0, b1⟩ := wf64 hb
  obtain ⟨K1, h1⟩ := fixMod_ok a b a0 a1 b0 b1
  obtain ⟨K2, h2⟩ := refMod_ok a b a0 a1 b0 b1
  obtain ⟨K4, h4⟩ := lives_ok
  refine ⟨K1 + K2 + K4 + 1, ?_⟩
  have h1 := h1 (K1 + K2 + K4 + 1) (by omega)
  have h2 := h2 (K1 + K2 + K4 + 1) (by omega)
  have h4 := h4 (K1 + K2 + K4) (by omega)
  dsimp only at h1 h2 h4
  unfold cadastrelaw01_FixRests.f
  rw [h1, h2]
  simp only [Option.bind_some, cadastrelaw01_FixRests.j0, bne_self_eq_false, ↓reduceIte, Bool.false_eq_true]
  rw [h4]
  unfold modS
  by_cases hc : (isN a && isN b && (b != 0)) = true
  · rw [if_pos hc]
    simp only [↓reduceIte]
    rw [Bool.and_eq_true] at hc
    have d3 : b ≠ 0 := by simpa using hc.2
    obtain ⟨r0, r1⟩ := modRange a b d3
    by_cases hz : modV a b = 0
    · rw [if_pos hz]
      rfl
    · rw [if_neg hz]
      have key : (modV a b < 0 ↔ b < 0) ∧ (modV a b).natAbs < b.natAbs := by
        unfold modV at hz ⊢
        generalize (a.natAbs : Int) % (b.natAbs : Int) = m at *
        constructor
        · split
          · simp_all
          · split <;> split <;> omega
        · split
          · simp_all
          · split <;> split <;> omega
      rw [if_pos (by rw [beq_iff_eq, decide_eq_decide]; exact key.1), refsize_ok _ (by omega) (by omega), refsize_ok b b0 b1]
      simp only [Option.bind_some]
      rw [if_pos (by omega)]
  · rw [if_neg hc]
    simp
end Go.Proofs.Ytegcjgfhpjdjfaa.Pure
