/- Whole parts: for each number a of 64 bits and each count of digits, where fix.Floor tells a number, it and fix.Mod of a by one are a together; and fix.Round with less than five digits, where it tells a number, is a multiple of its step and no farther from a than half a step. No condition. -/
import Derived.Test.YtegcjgfhpjdjfaaRound
import Derived.Test.YtegcjgfhpjdjfaaPFixx26
namespace Go.Proofs.Ytegcjgfhpjdjfaa.Pure
open Go.RowKit Go.Proofs.Ytegcjgfhpjdjfaa.PFix Go.Proofs.YtegcjgfhpjdjfaaW.PrintWords Go.Proofs.YtegcjgfhpjdjfaaW.PrintLast Go.Proofs.YtegcjgfhpjdjfaaW.PrintMore
set_option linter.unusedVariables false
set_option linter.unusedSimpArgs false

theorem step_ok (a p : Int) (ha : -9223372036854775808 < a) (ha1 : a ≤ 9223372036854775807) (hp : p = 10000 ∨ p = 1000 ∨ p = 100 ∨ p = 10) (h : (sgnI (decide (a < 0)) (nearI (a.natAbs : Int) p * p)).2 = true) :
    Int.tmod (sgnI (decide (a < 0)) (nearI (a.natAbs : Int) p * p)).1 p = 0 ∧ (sgnI (decide (a < 0)) (nearI (a.natAbs : Int) p * p)).1 - a ≤ p / 2 ∧ a - (sgnI (decide (a < 0)) (nearI (a.natAbs : Int) p * p)).1 ≤ p / 2 := by
  have hq0 : 0 ≤ nearI (a.natAbs : Int) p := by
    have := Int.ediv_nonneg (show 0 ≤ (a.natAbs : Int) by omega) (show 0 ≤ p by omega)
    unfold nearI
    split <;> omega
  have hv0 : 0 ≤ nearI (a.natAbs : Int) p * p := Int.mul_nonneg hq0 (by omega)
  have hm := nearMul (a.natAbs : Int) p (by omega) (by omega)
  have hd : Int.tmod (nearI (a.natAbs : Int) p * p) p = 0 := by rw [Int.tmod_eq_emod_of_nonneg hv0, Int.mul_emod_left]
  unfold sgnI at h ⊢
  by_cases hbig : nearI (a.natAbs : Int) p * p > 9223372036854775807
  · rw [if_pos hbig] at h
    exact absurd h (by decide)
  · rw [if_neg hbig]
    by_cases hs : a < 0
    · rw [if_pos (show decide (a < 0) = true by simpa using hs)]
      dsimp only
      rw [Int.neg_tmod, hd]
      rw [hm]
      rcases hp with rfl | rfl | rfl | rfl <;> refine ⟨by decide, ?_⟩ <;> split <;> omega
    · rw [if_neg (show ¬ decide (a < 0) = true by simpa using hs)]
      dsimp only
      rw [hd]
      rw [hm]
      rcases hp with rfl | rfl | rfl | rfl <;> refine ⟨by decide, ?_⟩ <;> split <;> omega

theorem round_near (a : Int) (n : Nat) (hn : n ≤ 4) (ha : -9223372036854775808 < a) (ha1 : a ≤ 9223372036854775807) (h : (roundS a (n : Int)).2 = true) :
    Int.tmod (roundS a (n : Int)).1 (10 ^ (4 - n)) = 0 ∧ (roundS a (n : Int)).1 - a ≤ 10 ^ (4 - n) / 2 ∧ a - (roundS a (n : Int)).1 ≤ 10 ^ (4 - n) / 2 := by
  have c : isN a = true := by unfold isN; rw [bne_iff_ne]; omega
  unfold roundS at h ⊢
  rw [c] at h ⊢
  simp only [↓reduceIte] at h ⊢
  by_cases h4 : (n : Int) ≥ 4
  · obtain rfl : n = 4 := by omega
    rw [if_pos h4]
    simp
  · rw [if_neg h4, if_neg (by omega)]
    rw [if_neg h4, if_neg (by omega)] at h
    rw [show (4 - (n : Int)).toNat = 4 - n by omega] at h ⊢
    refine step_ok a (10 ^ (4 - n)) ha ha1 ?_ h
    have : n = 0 ∨ n = 1 ∨ n = 2 ∨ n = 3 := by omega
    rcases this with rfl | rfl | rfl | rfl <;> decide

theorem ten_pow (n : Nat) (hn : n ≤ 4) : (10 : Int) ^ (4 - n) = 1 ∨ (10 : Int) ^ (4 - n) = 10 ∨ (10 : Int) ^ (4 - n) = 100 ∨ (10 : Int) ^ (4 - n) = 1000 ∨ (10 : Int) ^ (4 - n) = 10000 := by
  have : n = 0 ∨ n = 1 ∨ n = 2 ∨ n = 3 ∨ n = 4 := by omega
  rcases this with rfl | rfl | rfl | rfl | rfl <;> decide

theorem half_tdiv (p : Int) (h : 0 ≤ p) (h1 : p ≤ 10000) : wrap64 (Int.tdiv p 2) = p / 2 := by
  rw [Int.tdiv_eq_ediv_of_nonneg h, w64i]
  omega

theorem whole_tail (a g p : Int) (n k : Nat) (r : Int × Bool) (q : Int) (hn : wrap64 (Int.tmod g 5) = (n : Int)) (hq : wrap64 (4 - (n : Int)) = q) (a0 : -9223372036854775808 ≤ a) (a1 : a ≤ 9223372036854775807)
    (hp : p = 1 ∨ p = 10 ∨ p = 100 ∨ p = 1000 ∨ p = 10000)
    (hs : a ≠ -9223372036854775808 → r.2 = true → Int.tmod r.1 p = 0 ∧ r.1 - a ≤ p / 2 ∧ a - r.1 ≤ p / 2)
    (hl : cadastrelaw01_lives.f k = some true) (h3 : fix_Round.f (k + 1) a (n : Int) = some r) (h4 : cadastreref01_Power.f k q = some p) :
    cadastrelaw01_FixWhole.j0 (k + 1 + 1) a g false = some true := by
  simp only [cadastrelaw01_FixWhole.j0, Bool.false_eq_true, ↓reduceIte]
  rw [hn, h3]
  simp only [Option.bind_some, refCan_ok]
  by_cases hr : r.2 = true
  · rw [if_pos hr]
    cases c : isN a
    · simp only [Bool.not_false, cadastrelaw01_FixWhole.j1, ↓reduceIte]
      rw [hl]
      rfl
    · have d1 : a ≠ -9223372036854775808 := by simpa [isN] using c
      obtain ⟨s1, s2, s3⟩ := hs d1 hr
      simp only [Bool.not_true, cadastrelaw01_FixWhole.j1, Bool.false_eq_true, ↓reduceIte]
      rw [hq, h4, hl]
      simp only [Option.bind_some]
      generalize r.1 = r at *
      rw [show wrap64 p = p by rw [w64i]; omega, if_neg (by omega), if_pos s1, half_tdiv p (by omega) (by omega)]
      by_cases hge : r ≥ a
      · rw [if_pos hge, if_pos (by rw [w64i]; omega)]
      · rw [if_neg hge, if_pos (by omega), if_pos (by rw [w64i]; omega)]
  · rw [if_neg hr]
    simp only [cadastrelaw01_FixWhole.j1, ↓reduceIte]
    rw [hl]
    rfl

theorem floor_rest (a : Int) (a0 : -9223372036854775808 ≤ a) (a1 : a ≤ 9223372036854775807) (hf : (floorS a).2 = true) : (modS a 10000).2 = true ∧ wrap64 ((floorS a).1 + (modS a 10000).1) = a := by
  unfold floorS addS at hf ⊢
  cases c : isN a
  · rw [c] at hf
    simp at hf
  · rw [c] at hf
    simp only [↓reduceIte] at hf ⊢
    split at hf
    · rename_i hc
      rw [if_pos hc]
      have d1 : a ≠ -9223372036854775808 := by simpa [isN] using c
      have hm : modV a 10000 = a % 10000 := by
        unfold modV
        rw [show (((10000 : Int).natAbs : Nat) : Int) = 10000 by decide]
        split
        · omega
        · split
          · rw [if_neg (by decide)]
            omega
          · rw [if_neg (by decide)]
            omega
      have hs : modS a 10000 = (a % 10000, true) := by
        unfold modS
        rw [c, hm]
        rfl
      rw [hs]
      refine ⟨rfl, ?_⟩
      dsimp only
      rw [w64i]
      omega
    · exact absurd hf (by decide)

theorem FixWhole : cadastrelaw01_FixWhole.Pure := by
  intro a g ha hg
  obtain ⟨a0, a1⟩ := wf64 ha
  have hg' : 0 ≤ g ∧ g ≤ 255 := bounds_u8 hg
  obtain ⟨n, hn, hn4⟩ : ∃ n : Nat, wrap64 (Int.tmod g 5) = (n : Int) ∧ n ≤ 4 := by
    refine ⟨(g % 5).toNat, ?_, by omega⟩
    rw [Int.tmod_eq_emod_of_nonneg hg'.1, w64i]
    omega
  obtain ⟨K, hl⟩ := lives_ok
  obtain ⟨K1, h1⟩ := fixFloor_ok a a0 a1
  obtain ⟨K2, h2⟩ := fixMod_ok a 10000 a0 a1 (by decide) (by decide)
  obtain ⟨K3, h3⟩ := fixRound_ok a (n : Int) a0 a1 (by omega) (by omega)
  obtain ⟨K4, h4⟩ := power_ok (4 - n) (by omega)
  obtain ⟨k, hk⟩ : ∃ k, k = K + K1 + K2 + K3 + K4 := ⟨_, rfl⟩
  refine ⟨k + 1 + 1, ?_⟩
  have hl := hl k (by omega)
  have h1 := h1 (k + 1 + 1) (by omega)
  have h2 := h2 (k + 1 + 1) (by omega)
  have h3 := h3 (k + 1) (by omega)
  have h4 := h4 k (by omega)
  dsimp only at hl h1 h2 h3 h4
  have tail := whole_tail a g (10 ^ (4 - n)) n k _ _ hn (by rw [w64i]; omega) a0 a1 (ten_pow n hn4) (fun d1 hr => round_near a n hn4 (by omega) a1 hr) hl h3 h4
  unfold cadastrelaw01_FixWhole.f
  rw [h1, h2]
  simp only [Option.bind_some]
  by_cases hf : (floorS a).2 = true
  · obtain ⟨f1, f2⟩ := floor_rest a a0 a1 hf
    rw [if_pos hf, if_pos f1, f2, bne_self_eq_false]
    exact tail
  · rw [if_neg hf]
    exact tail
end Go.Proofs.Ytegcjgfhpjdjfaa.Pure
