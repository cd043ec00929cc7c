/- What fix's sums and differences tell, and the document's. -/
import Derived.Test.YtegcjgfhpjdjfaaBase
import Derived.Test.YtegcjgfhpjdjfaaPFixx15
import Derived.Test.YtegcjgfhpjdjfaaPFixx15
namespace Go.Proofs.Ytegcjgfhpjdjfaa.PFix
open Go.RowKit Go.Proofs.YtegcjgfhpjdjfaaW.PrintWords Go.Proofs.YtegcjgfhpjdjfaaW.PrintLast Go.Proofs.YtegcjgfhpjdjfaaW.PrintMore
set_option linter.unusedVariables false
set_option linter.unusedSimpArgs false

/-- The sum of two numbers, if that is one. -/
def addS (a b : Int) : Int × Bool := if isN a && isN b && decide (-9223372036854775807 ≤ a + b) && decide (a + b ≤ 9223372036854775807) then (a + b, true) else (0, false)
def subS (a b : Int) : Int × Bool := if isN b then addS a (-b) else (0, false)

theorem fixadd_ok (a b : Int) (ha : -9223372036854775808 ≤ a) (ha1 : a ≤ 9223372036854775807) (hb : -9223372036854775808 ≤ b) (hb1 : b ≤ 9223372036854775807) :
    Ev (fun k => fix_add.f k a b) (addS a b) := by
  obtain ⟨K1, h1⟩ := can_ok [a, b, wrap64 (a + b)] (by simp)
  refine ⟨K1, fun k hk => ?_⟩
  have h1 := h1 k hk
  dsimp only at h1 ⊢
  unfold fix_add.f addS
  rw [h1]
  simp only [Option.bind_some]
  have hc2 : [a, b, wrap64 (a + b)].all (fun x => x != -9223372036854775808) = (isN a && (isN b && isN (wrap64 (a + b)))) := by simp [isN]
  rw [hc2]
  cases c1 : isN a
  · simp
  · cases c2 : isN b
    · simp
    · simp only [isN, bne_iff_ne] at c1 c2
      simp only [Bool.true_and, isN, Bool.and_eq_true, decide_eq_true_eq, bne_iff_ne]
      rw [w64i]
      by_cases hr : -9223372036854775807 ≤ a + b ∧ a + b ≤ 9223372036854775807
      · rw [if_pos hr, show (a + b + 9223372036854775808) % 18446744073709551616 - 9223372036854775808 = a + b by omega, if_pos (by omega)]
        split
        · rename_i hs
          rw [beq_iff_eq, decide_eq_decide] at hs
          rw [if_neg (by rw [ne_eq, decide_eq_decide]; omega)]
        · rfl
      · rw [if_neg hr]
        split
        · rename_i hs
          have hab : (a < 0 ↔ b < 0) := by omega
          rw [if_pos (by rw [beq_iff_eq, decide_eq_decide]; exact hab), if_pos (by rw [ne_eq, decide_eq_decide]; omega)]
        · rfl

theorem fixSub_ok (a b : Int) (ha : -9223372036854775808 ≤ a) (ha1 : a ≤ 9223372036854775807) (hb : -9223372036854775808 ≤ b) (hb1 : b ≤ 9223372036854775807) :
    Ev (fun k => fix_Sub.f k a b) (subS a b) := by
  obtain ⟨K1, h1⟩ := can_ok [b] (by simp)
  by_cases hc : isN b = true
  · have hc' : b ≠ -9223372036854775808 := by simpa [isN] using hc
    obtain ⟨K2, h2⟩ := fixadd_ok a (-b) ha ha1 (by omega) (by omega)
    refine ⟨K1 + K2, fun k hk => ?_⟩
    have h1 := h1 k (by omega)
    have h2 := h2 k (by omega)
    dsimp only at h1 h2 ⊢
    unfold fix_Sub.f subS
    rw [h1, show [b].all (fun x => x != -9223372036854775808) = true by simpa [isN] using hc, hc, w64i, show (-b + 9223372036854775808) % 18446744073709551616 - 9223372036854775808 = -b by omega, h2]
    simp
  · refine ⟨K1, fun k hk => ?_⟩
    have h1 := h1 k (by omega)
    dsimp only at h1 ⊢
    unfold fix_Sub.f subS
    have hf : isN b = false := by simpa using hc
    rw [h1, show [b].all (fun x => x != -9223372036854775808) = false by simpa [isN] using hf, hf]
    simp
end Go.Proofs.Ytegcjgfhpjdjfaa.PFix
