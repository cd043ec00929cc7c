/- Sums: for all numbers a, b of 64 bits, fix.Add and fix.Sub tell what the document's tell, fix.Can too, and where a sum is told, the difference brings it back. No condition. -/
import Derived.Test.YtegcjgfhpjdjfaaRefSum
import Derived.Test.YtegcjgfhpjdjfaaPFixx16
import Derived.Test.YtegcjgfhpjdjfaaPFixx21
namespace Go.Proofs.Ytegcjgfhpjdjfaa.Pure
open Go.RowKit Go.Proofs.Ytegcjgfhpjdjfaa.PFix Go.Proofs.YtegcjgfhpjdjfaaW.PrintWords Go.Proofs.YtegcjgfhpjdjfaaW.PrintLast Go.Proofs.YtegcjgfhpjdjfaaW.PrintMore
set_option linter.unusedVariables false
set_option linter.unusedSimpArgs false

theorem FixSums : cadastrelaw01_FixSums.Pure := by
  intro a b ha hb
  obtain ⟨a0, a1⟩ := wf64 ha
  obtain ⟨b0, b1⟩ := wf64 hb
  obtain ⟨K, hl⟩ := lives_ok
  obtain ⟨K1, h1⟩ := fixadd_ok a b a0 a1 b0 b1
  obtain ⟨K2, h2⟩ := refAdd_ok a b a0 a1 b0 b1
  obtain ⟨K3, h3⟩ := fixSub_ok a b a0 a1 b0 b1
  obtain ⟨K4, h4⟩ := refSub_ok a b a0 a1 b0 b1
  have ra : -9223372036854775807 ≤ (addS a b).1 ∧ (addS a b).1 ≤ 9223372036854775807 := by
    unfold addS
    split
    · rename_i h
      simp only [Bool.and_eq_true, decide_eq_true_eq] at h
      exact ⟨h.1.2, h.2⟩
    · decide
  obtain ⟨K5, h5⟩ := fixSub_ok (addS a b).1 b (by omega) (by omega) b0 b1
  obtain ⟨K6, h6⟩ := can_ok [a] (by simp)
  have hk : ∃ k, k = K + K1 + K2 + K3 + K4 + K5 + K6 := ⟨_, rfl⟩
  obtain ⟨k, hk⟩ := hk
  refine ⟨k + 1, ?_⟩
  have hl := hl k (by omega)
  have h1 := h1 (k + 1) (by omega)
  have h2 := h2 (k + 1) (by omega)
  have h3 := h3 (k + 1) (by omega)
  have h4 := h4 (k + 1) (by omega)
  have h5 := h5 k (by omega)
  have h6 := h6 (k + 1) (by omega)
  dsimp only at hl h1 h2 h3 h4 h5 h6
  have e : (if isN a then subS a b else (0, false)) = subS a b := by
    cases c : isN a
    · unfold subS addS
      rw [c]
      cases isN b <;> rfl
    · rfl
  rw [e] at h4
  unfold cadastrelaw01_FixSums.f fix_Add.f fix_Can.f
  rw [h1, h2, h3, h4, h6, refCan_ok]
  simp only [Option.bind_some, ↓reduceIte, bne_self_eq_false, Bool.false_eq_true]
  rw [show [a].all (fun x => x != -9223372036854775808) = isN a by simp [isN]]
  simp only [bne_self_eq_false, cadastrelaw01_FixSums.j0, Bool.false_eq_true, ↓reduceIte]
  rw [h5, hl]
  simp only [Option.bind_some]
  by_cases hok : (addS a b).2 = true
  · rw [if_pos hok]
    have key : subS (addS a b).1 b = (a, true) := by
      unfold addS at hok ⊢
      by_cases hc : (isN a && isN b && decide (-9223372036854775807 ≤ a + b) && decide (a + b ≤ 9223372036854775807)) = true
      · rw [if_pos hc]
        simp only [Bool.and_eq_true, decide_eq_true_eq] at hc
        obtain ⟨⟨⟨c1, c2⟩, c3⟩, c4⟩ := hc
        have d1 : a ≠ -9223372036854775808 := by simpa [isN] using c1
        have d2 : b ≠ -9223372036854775808 := by simpa [isN] using c2
        unfold subS addS
        rw [c2, if_pos rfl, if_pos]
        · congr 1
          omega
        · simp only [isN, Bool.and_eq_true, bne_iff_ne, decide_eq_true_eq]
          omega
      · rw [if_neg hc] at hok
        exact absurd hok (by decide)
    rw [key]
    simp
  · rw [if_neg hok]
end Go.Proofs.Ytegcjgfhpjdjfaa.Pure
