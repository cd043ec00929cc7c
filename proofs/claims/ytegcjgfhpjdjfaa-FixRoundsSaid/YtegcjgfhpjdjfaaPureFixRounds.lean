/- Rounded numbers: for each number a of 64 bits and each count of digits, fix.Floor and fix.Round tell what the document's tell; a whole part is a multiple of one and not above a; a rounded number rounded again is itself. No condition. -/
import Derived.Test.YtegcjgfhpjdjfaaRound
import Derived.Test.YtegcjgfhpjdjfaaPFixx25
namespace Go.Proofs.Ytegcjgfhpjdjfaa.Pure
open Go.RowKit Go.Proofs.Ytegcjgfhpjdjfaa.PFix Go.Proofs.YtegcjgfhpjdjfaaW.PrintWords Go.Proofs.YtegcjgfhpjdjfaaW.PrintLast Go.Proofs.YtegcjgfhpjdjfaaW.PrintMore
set_option linter.unusedVariables false
set_option linter.unusedSimpArgs false

theorem floor_facts (a : Int) (h : (floorS a).2 = true) (ha1 : a ≤ 9223372036854775807) : Int.tmod (floorS a).1 10000 = 0 ∧ (floorS a).1 ≤ a := by
  unfold floorS addS at *
  cases c : isN a
  · rw [c] at h
    simp at h
  · rw [c] at h
    simp only [↓reduceIte] at h ⊢
    split
    · have e := tmod_abs (a + -(a % 10000)) 10000
      rw [show (((10000 : Int).natAbs : Nat) : Int) = 10000 by decide] at e
      dsimp only
      split at e <;> omega
    · rename_i hc
      rw [if_neg hc] at h
      exact absurd h (by decide)

theorem round_again (a d : Int) (h : (roundS a d).2 = true) : roundS (roundS a d).1 d = ((roundS a d).1, true) := by
  unfold roundS at h ⊢
  cases c : isN a
  · rw [c] at h
    simp at h
  · rw [c] at h
    simp only [↓reduceIte] at h ⊢
    by_cases h4 : d ≥ 4
    · rw [if_pos h4, if_pos h4]
      dsimp only
      rw [c]
      rfl
    · rw [if_neg h4, if_neg h4]
      rw [if_neg h4] at h
      by_cases h14 : d < -14
      · rw [if_pos h14, if_pos h14]
        rfl
      · rw [if_neg h14, if_neg h14]
        rw [if_neg h14] at h
        have hp : (0 : Int) < 10 ^ (4 - d).toNat := Int.pow_pos (by decide)
        have hq0 : 0 ≤ nearI (a.natAbs : Int) (10 ^ (4 - d).toNat) := by
          have := Int.ediv_nonneg (show 0 ≤ (a.natAbs : Int) by omega) (show 0 ≤ (10 : Int) ^ (4 - d).toNat by omega)
          unfold nearI
          split <;> omega
        generalize nearI (a.natAbs : Int) (10 ^ (4 - d).toNat) = q at *
        generalize (10 : Int) ^ (4 - d).toNat = p at *
        have hv0 : 0 ≤ q * p := Int.mul_nonneg hq0 (by omega)
        have hn : nearI (q * p) p = q := by
          unfold nearI
          rw [Int.mul_ediv_cancel _ (by omega), Int.mul_emod_left, if_neg (by omega)]
          omega
        unfold sgnI at h ⊢
        by_cases hbig : q * p > 9223372036854775807
        · rw [if_pos hbig] at h
          exact absurd h (by decide)
        · rw [if_neg hbig]
          by_cases hs : a < 0
          · rw [if_pos (show decide (a < 0) = true by simpa using hs)]
            dsimp only
            rw [if_pos (show isN (-(q * p)) = true by unfold isN; rw [bne_iff_ne]; omega), Int.natAbs_neg, show ((q * p).natAbs : Int) = q * p by omega, hn, if_neg hbig]
            by_cases hz : q * p = 0
            · rw [hz]
              rfl
            · rw [if_pos (show decide (-(q * p) < 0) = true by simp; omega)]
          · rw [if_neg (show ¬ decide (a < 0) = true by simpa using hs)]
            dsimp only
            rw [if_pos (show isN (q * p) = true by unfold isN; rw [bne_iff_ne]; omega), show ((q * p).natAbs : Int) = q * p by omega, hn, if_neg hbig, if_neg (show ¬ decide (q * p < 0) = true by simp; omega)]

theorem round_range (a d : Int) (ha : -9223372036854775808 ≤ a) (ha1 : a ≤ 9223372036854775807) : -9223372036854775808 ≤ (roundS a d).1 ∧ (roundS a d).1 ≤ 9223372036854775807 := by
  unfold roundS
  split
  · split
    · exact ⟨ha, ha1⟩
    · split
      · decide
      · have hq0 : 0 ≤ nearI (a.natAbs : Int) (10 ^ (4 - d).toNat) := by
          have := Int.ediv_nonneg (show 0 ≤ (a.natAbs : Int) by omega) (show 0 ≤ (10 : Int) ^ (4 - d).toNat from Int.le_of_lt (Int.pow_pos (by decide)))
          unfold nearI
          split <;> omega
        have hv0 : 0 ≤ nearI (a.natAbs : Int) (10 ^ (4 - d).toNat) * 10 ^ (4 - d).toNat := Int.mul_nonneg hq0 (Int.le_of_lt (Int.pow_pos (by decide)))
        unfold sgnI
        split
        · decide
        · split <;> dsimp only <;> omega
  · decide

theorem FixRounds : cadastrelaw01_FixRounds.Pure := by
  intro a d ha hd
  obtain ⟨a0, a1⟩ := wf64 ha
  obtain ⟨d0, d1⟩ := wf64 hd
  obtain ⟨r0, r1⟩ := round_range a d a0 a1
  obtain ⟨K, hl⟩ := lives_ok
  obtain ⟨K1, h1⟩ := fixFloor_ok a a0 a1
  obtain ⟨K2, h2⟩ := refFloor_ok a a0 a1
  obtain ⟨K3, h3⟩ := fixRound_ok a d a0 a1 d0 d1
  obtain ⟨K4, h4⟩ := refRound_ok a d a0 a1 d0 d1
  obtain ⟨K5, h5⟩ := fixRound_ok (roundS a d).1 d r0 r1 d0 d1
  obtain ⟨k, hk⟩ : ∃ k, k = K + K1 + K2 + K3 + K4 + K5 := ⟨_, rfl⟩
  refine ⟨k + 1, ?_⟩
  have hl := hl k (by omega)
  have h1 := h1 (k + 1) (by omega)
  have h2 := h2 (k + 1) (by omega)
  have h3 := h3 (k + 1) (by omega)
  have h4 := h4 (k + 1) (by omega)
  have h5 := h5 k (by omega)
  dsimp only at hl h1 h2 h3 h4 h5
  unfold cadastrelaw01_FixRounds.f
  rw [h1, h2, h3, h4]
  simp only [Option.bind_some, ↓reduceIte, bne_self_eq_false, Bool.false_eq_true, cadastrelaw01_FixRounds.j0]
  rw [h5, hl]
  simp only [Option.bind_some]
  have tail : (if (roundS a d).2 = true then (if (roundS (roundS a d).1 d).1 = (roundS a d).1 then (if (roundS (roundS a d).1 d).2 = true then some true else some false) else some false) else some true) = some true := by
    by_cases hr : (roundS a d).2 = true
    · rw [if_pos hr, round_again a d hr]
      simp
    · rw [if_neg hr]
  by_cases hf : (floorS a).2 = true
  · obtain ⟨f1, f2⟩ := floor_facts a hf a1
    rw [if_pos hf, if_pos f1, if_pos f2]
    exact tail
  · rw [if_neg hf]
    exact tail
end Go.Proofs.Ytegcjgfhpjdjfaa.Pure
