/- Signs: for all numbers a, b of 64 bits, a sign that is turned about turns fix.Mul's, fix.Div's and fix.Sub's answers about. No condition. -/
import Derived.Test.YtegcjgfhpjdjfaaAdd
import Derived.Test.YtegcjgfhpjdjfaaPFixx16
namespace Go.Proofs.Ytegcjgfhpjdjfaa.Pure
open Go.RowKit Go.Proofs.Ytegcjgfhpjdjfaa.PFix Go.Proofs.YtegcjgfhpjdjfaaW.PrintWords Go.Proofs.YtegcjgfhpjdjfaaW.PrintLast Go.Proofs.YtegcjgfhpjdjfaaW.PrintMore
set_option linter.unusedVariables false
set_option linter.unusedSimpArgs false

theorem mul_neg (a b : Int) (ha1 : a ≤ 9223372036854775807) (ha : isN a = true) (hb : isN b = true) : mulS (-a) b = (-(mulS a b).1, (mulS a b).2) := by
  have ha' : a ≠ -9223372036854775808 := by simpa [isN] using ha
  unfold mulS
  by_cases hn : isN (-a) = true
  · rw [hn, ha, hb, Int.natAbs_neg]
    simp only [Bool.and_self, ↓reduceIte]
    by_cases h0 : a = 0
    · subst h0
      simp [nearI, sgnI]
    · unfold sgnI
      have e : (decide (-a < 0) != decide (b < 0)) = !(decide (a < 0) != decide (b < 0)) := by
        have : decide (-a < 0) = !decide (a < 0) := by
          rw [← decide_not, decide_eq_decide]
          omega
        rw [this]
        cases decide (a < 0) <;> cases decide (b < 0) <;> rfl
      rw [e]
      split
      · simp
      · cases (decide (a < 0) != decide (b < 0)) <;> simp
  · simp only [isN, bne_iff_ne, ne_eq, Decidable.not_not] at hn
    omega

theorem div_neg (a b : Int) (ha1 : a ≤ 9223372036854775807) (ha : isN a = true) (hb : isN b = true) : divS (-a) b = (-(divS a b).1, (divS a b).2) := by
  have ha' : a ≠ -9223372036854775808 := by simpa [isN] using ha
  unfold divS
  by_cases hn : isN (-a) = true
  · rw [hn, ha, hb, Int.natAbs_neg]
    simp only [Bool.and_self, Bool.true_and]
    by_cases hb0 : (b != 0) = true
    · rw [if_pos hb0, if_pos hb0]
      by_cases h0 : a = 0
      · subst h0
        have hb0' : b ≠ 0 := by simpa using hb0
        have e : nearI (((0 : Int).natAbs : Int) * 10000) (b.natAbs : Int) = 0 := by
          unfold nearI
          simp
          omega
        rw [e]
        unfold sgnI
        simp
      · unfold sgnI
        have e : (decide (-a < 0) != decide (b < 0)) = !(decide (a < 0) != decide (b < 0)) := by
          have : decide (-a < 0) = !decide (a < 0) := by
            rw [← decide_not, decide_eq_decide]
            omega
          rw [this]
          cases decide (a < 0) <;> cases decide (b < 0) <;> rfl
        rw [e]
        split
        · simp
        · cases (decide (a < 0) != decide (b < 0)) <;> simp
    · rw [if_neg hb0, if_neg hb0]
      simp
  · simp only [isN, bne_iff_ne, ne_eq, Decidable.not_not] at hn
    omega

theorem sgn_range (neg : Bool) (n : Int) (h : 0 ≤ n) : -9223372036854775807 ≤ (sgnI neg n).1 ∧ (sgnI neg n).1 ≤ 9223372036854775807 := by
  unfold sgnI
  split
  · simp
  · split <;> dsimp only <;> omega

theorem near_nonneg {A d : Int} (hA : 0 ≤ A) (hd : 0 ≤ d) : 0 ≤ nearI A d := by
  have := Int.ediv_nonneg hA hd
  unfold nearI
  split <;> omega

theorem mul_range (a b : Int) : -9223372036854775807 ≤ (mulS a b).1 ∧ (mulS a b).1 ≤ 9223372036854775807 := by
  unfold mulS
  split
  · exact sgn_range _ _ (near_nonneg (Int.mul_nonneg (by omega) (by omega)) (by omega))
  · simp

theorem div_range (a b : Int) : -9223372036854775807 ≤ (divS a b).1 ∧ (divS a b).1 ≤ 9223372036854775807 := by
  unfold divS
  split
  · exact sgn_range _ _ (near_nonneg (by omega) (by omega))
  · simp

theorem sub_swap (a b : Int) (ha : isN a = true) (hb : isN b = true) (ha1 : a ≤ 9223372036854775807) (hb1 : b ≤ 9223372036854775807) : subS b a = (-(subS a b).1, (subS a b).2) ∧ -9223372036854775807 ≤ (subS a b).1 ∧ (subS a b).1 ≤ 9223372036854775807 := by
  have ha' : a ≠ -9223372036854775808 := by simpa [isN] using ha
  have hb' : b ≠ -9223372036854775808 := by simpa [isN] using hb
  have na : isN (-a) = true := by unfold isN; rw [bne_iff_ne]; omega
  have nb : isN (-b) = true := by unfold isN; rw [bne_iff_ne]; omega
  unfold subS addS
  rw [ha, hb, na, nb]
  simp only [Bool.true_and, ↓reduceIte, Bool.and_eq_true, decide_eq_true_eq]
  by_cases hr : -9223372036854775807 ≤ a + -b ∧ a + -b ≤ 9223372036854775807
  · rw [if_pos hr, if_pos (by omega)]
    refine ⟨?_, hr⟩
    congr 1
    omega
  · rw [if_neg hr, if_neg (by omega)]
    simp

theorem FixSigns : cadastrelaw01_FixSigns.Pure := by
  intro a b ha hb
  obtain ⟨a0, a1⟩ := wf64 ha
  obtain ⟨b0, b1⟩ := wf64 hb
  obtain ⟨K, hl⟩ := lives_ok
  by_cases hc : (isN a && isN b) = true
  · rw [Bool.and_eq_true] at hc
    obtain ⟨c1, c2⟩ := hc
    have d1 : a ≠ -9223372036854775808 := by simpa [isN] using c1
    have d2 : b ≠ -9223372036854775808 := by simpa [isN] using c2
    obtain ⟨K1, h1⟩ := fixMul_ok a b a0 a1 b0 b1
    obtain ⟨K2, h2⟩ := fixMul_ok (-a) b (by omega) (by omega) b0 b1
    obtain ⟨K3, h3⟩ := fixDiv_ok a b a0 a1 b0 b1
    obtain ⟨K4, h4⟩ := fixDiv_ok (-a) b (by omega) (by omega) b0 b1
    obtain ⟨K5, h5⟩ := fixSub_ok a b a0 a1 b0 b1
    obtain ⟨K6, h6⟩ := fixSub_ok b a b0 b1 a0 a1
    refine ⟨K + K1 + K2 + K3 + K4 + K5 + K6 + 1, ?_⟩
    have hl := hl (K + K1 + K2 + K3 + K4 + K5 + K6) (by omega)
    have h1 := h1 (K + K1 + K2 + K3 + K4 + K5 + K6) (by omega)
    have h2 := h2 (K + K1 + K2 + K3 + K4 + K5 + K6) (by omega)
    have h3 := h3 (K + K1 + K2 + K3 + K4 + K5 + K6) (by omega)
    have h4 := h4 (K + K1 + K2 + K3 + K4 + K5 + K6) (by omega)
    have h5 := h5 (K + K1 + K2 + K3 + K4 + K5 + K6) (by omega)
    have h6 := h6 (K + K1 + K2 + K3 + K4 + K5 + K6) (by omega)
    dsimp only at hl h1 h2 h3 h4 h5 h6
    obtain ⟨s1, s2, s3⟩ := sub_swap a b c1 c2 a1 b1
    obtain ⟨r1, r2⟩ := mul_range a b
    obtain ⟨q1, q2⟩ := div_range a b
    unfold cadastrelaw01_FixSigns.f
    rw [refCan_ok, refCan_ok, c1, c2]
    simp only [Option.bind_some, ↓reduceIte, cadastrelaw01_FixSigns.j0, Bool.not_true, Bool.false_eq_true]
    rw [w64i (-a), show (-a + 9223372036854775808) % 18446744073709551616 - 9223372036854775808 = -a by omega, h1, h2, h3, h4, h5, h6, hl, mul_neg a b a1 c1 c2, div_neg a b a1 c1 c2, s1]
    simp only [Option.bind_some, Int.neg_neg]
    generalize mulS a b = m at *
    generalize divS a b = d at *
    generalize subS a b = s at *
    rw [w64i, w64i, w64i, if_pos (by omega), if_pos (by simp), if_pos (by omega), if_pos (by simp), if_pos (by omega), if_pos (by simp)]
  · refine ⟨K + 1, ?_⟩
    have hl := hl K (by omega)
    dsimp only at hl
    unfold cadastrelaw01_FixSigns.f
    rw [refCan_ok, refCan_ok]
    cases h1 : isN a
    · simp [cadastrelaw01_FixSigns.j0, hl]
    · cases h2 : isN b
      · simp [cadastrelaw01_FixSigns.j0, hl]
      · rw [h1, h2] at hc
        exact absurd rfl hc
end Go.Proofs.Ytegcjgfhpjdjfaa.Pure
