/- What fix.Mod and the document's Mod tell: the rest that has the sign of what was divided by. -/
import Derived.Test.YtegcjgfhpjdjfaaBase
import Derived.Test.YtegcjgfhpjdjfaaPFixx12
import Derived.Test.YtegcjgfhpjdjfaaPFixx13
import Derived.Test.YtegcjgfhpjdjfaaPFixx12
namespace Go.Proofs.Ytegcjgfhpjdjfaa.PFix
open Go.RowKit Go.Proofs.YtegcjgfhpjdjfaaW.PrintWords Go.Proofs.YtegcjgfhpjdjfaaW.PrintLast Go.Proofs.YtegcjgfhpjdjfaaW.PrintMore
set_option linter.unusedVariables false
set_option linter.unusedSimpArgs false

/-- The rest of a by b, b not 0, that has b's sign. -/
def modV (a b : Int) : Int :=
  if (a.natAbs : Int) % (b.natAbs : Int) = 0 then 0
  else if a < 0 then (if b < 0 then -((a.natAbs : Int) % (b.natAbs : Int)) else b - (a.natAbs : Int) % (b.natAbs : Int))
  else (if b < 0 then (a.natAbs : Int) % (b.natAbs : Int) + b else (a.natAbs : Int) % (b.natAbs : Int))
def modS (a b : Int) : Int × Bool := if isN a && isN b && (b != 0) then (modV a b, true) else (0, false)

theorem tmod_abs (a b : Int) : Int.tmod a b = if a < 0 then -((a.natAbs : Int) % (b.natAbs : Int)) else (a.natAbs : Int) % (b.natAbs : Int) := by
  have hb : ∀ x : Int, 0 ≤ x → Int.tmod x b = x % (b.natAbs : Int) := by
    intro x hx
    rw [Int.tmod_eq_emod_of_nonneg hx]
    by_cases h : b < 0
    · rw [show (b.natAbs : Int) = -b by omega, Int.emod_neg]
    · rw [show (b.natAbs : Int) = b by omega]
  split
  · rename_i h
    rw [show a = -(-a) by omega, Int.neg_tmod, hb _ (by omega)]
    rw [show ((-(-a)).natAbs : Int) = -a by omega]
  · rename_i h
    rw [hb _ (by omega), show (a.natAbs : Int) = a by omega]

theorem modRange (a b : Int) (hb : b ≠ 0) : 0 ≤ (a.natAbs : Int) % (b.natAbs : Int) ∧ (a.natAbs : Int) % (b.natAbs : Int) < (b.natAbs : Int) :=
  ⟨Int.emod_nonneg _ (by omega), Int.emod_lt_of_pos _ (by omega)⟩

theorem fixMod_ok (a b : Int) (ha : -9223372036854775808 ≤ a) (ha1 : a ≤ 9223372036854775807) (hb : -9223372036854775808 ≤ b) (hb1 : b ≤ 9223372036854775807) :
    Ev (fun k => fix_Mod.f k a b) (modS a b) := by
  obtain ⟨K1, h1⟩ := can_ok [a, b] (by simp)
  refine ⟨K1 + 1, fun k hk => ?_⟩
  have h1 := h1 k (by omega)
  obtain ⟨k, rfl⟩ : ∃ m, k = m + 1 := ⟨k - 1, by omega⟩
  dsimp only at h1 ⊢
  unfold fix_Mod.f modS
  rw [h1]
  have hc2 : [a, b].all (fun x => x != -9223372036854775808) = (isN a && isN b) := by simp [isN]
  rw [hc2]
  simp only [Option.bind_some, fix_Mod.j0]
  by_cases hc : (isN a && isN b) = true
  · rw [hc, if_pos rfl, Bool.true_and]
    by_cases hb0 : b = 0
    · rw [if_pos (by simp [hb0]), if_neg (by simp [hb0])]
    · obtain ⟨r0, r1⟩ := modRange a b hb0
      rw [show (b == 0) = false by simp [hb0], show (b != 0) = true by simp [hb0]]
      simp only [↓reduceIte, Bool.false_eq_true]
      rw [if_neg hb0, tmod_abs]
      unfold modV
      generalize (a.natAbs : Int) % (b.natAbs : Int) = m at *
      by_cases h1 : a < 0
      · rw [if_pos h1, if_pos h1]
        by_cases hm : m = 0
        · rw [if_pos (by omega), if_pos hm, hm]
          rfl
        · rw [if_neg (by omega), if_neg hm, decide_eq_true (show -m < 0 by omega), w64i]
          by_cases h2 : b < 0
          · rw [decide_eq_true h2, if_pos h2]
            rfl
          · rw [decide_eq_false h2, if_neg h2]
            simp only [bne_self_eq_false, Bool.true_bne, Bool.not_false, ↓reduceIte]
            congr 2
            omega
      · rw [if_neg h1, if_neg h1]
        by_cases hm : m = 0
        · rw [if_pos hm, if_pos hm, hm]
        · rw [if_neg hm, if_neg hm, decide_eq_false (show ¬ m < 0 by omega), w64i]
          by_cases h2 : b < 0
          · rw [decide_eq_true h2, if_pos h2]
            simp only [Bool.false_bne, ↓reduceIte]
            congr 2
            omega
          · rw [decide_eq_false h2, if_neg h2]
            rfl
  · have hf : (isN a && isN b) = false := by simpa using hc
    rw [hf]
    simp

theorem rest_ok (a b : Int) (ha : -9223372036854775808 < a) (ha1 : a ≤ 9223372036854775807) (hb : 0 < b) (hb1 : b ≤ 9223372036854775807) :
    cadastreref01_rest.f a b = some (if (a.natAbs : Int) % (b.natAbs : Int) = 0 then 0 else if a < 0 then b - (a.natAbs : Int) % (b.natAbs : Int) else (a.natAbs : Int) % (b.natAbs : Int)) := by
  unfold cadastreref01_rest.f
  obtain ⟨r0, r1⟩ := modRange a b (by omega)
  have e : Int.tmod (a.natAbs : Int) b = (a.natAbs : Int) % (b.natAbs : Int) := by
    rw [Int.tmod_eq_emod_of_nonneg (by omega), show (b.natAbs : Int) = b by omega]
  rw [refsize_ok a (by omega) ha1]
  simp only [Option.bind_some]
  rw [if_neg (by omega), e]
  generalize (a.natAbs : Int) % (b.natAbs : Int) = m at *
  by_cases hz : a < 0
  · rw [if_pos hz, if_pos hz]
    by_cases hm : m = 0
    · rw [if_neg (by omega), if_pos hm, hm]
    · rw [if_pos (by omega), if_neg hm, wuN (by omega) (by omega)]
  · rw [if_neg hz, if_neg hz]
    by_cases hm : m = 0
    · rw [if_pos hm, hm]
    · rw [if_neg hm]

theorem refMod_pos (a b : Int) (ha : -9223372036854775808 < a) (ha1 : a ≤ 9223372036854775807) (hb : 0 < b) (hb1 : b ≤ 9223372036854775807) :
    Ev (fun k => cadastreref01_Mod.f k a b) (modV a b, true) := by
  refine ⟨2, fun k hk => ?_⟩
  obtain ⟨k, rfl⟩ : ∃ m, k = m + 1 + 1 := ⟨k - 2, by omega⟩
  obtain ⟨r0, r1⟩ := modRange a b (by omega)
  dsimp only
  simp only [cadastreref01_Mod.f, refCan_ok, Option.bind_some, cadastreref01_Mod.j0]
  have c1 : isN a = true := by unfold isN; rw [bne_iff_ne]; omega
  have c2 : isN b = true := by unfold isN; rw [bne_iff_ne]; omega
  have c3 : (b == 0) = false := by rw [beq_eq_false_iff_ne]; omega
  rw [c1, c2, c3, if_pos rfl, if_pos rfl, if_neg (by decide), if_neg (by omega), wuN (by omega) (by omega), rest_ok a b ha ha1 hb hb1]
  simp only [Option.bind_some]
  unfold modV
  generalize (a.natAbs : Int) % (b.natAbs : Int) = m at *
  rw [w64i]
  congr 2
  split
  · omega
  · split
    · rw [if_neg (by omega)]
      omega
    · rw [if_neg (by omega)]
      omega

theorem refMod_ok (a b : Int) (ha : -9223372036854775808 ≤ a) (ha1 : a ≤ 9223372036854775807) (hb : -9223372036854775808 ≤ b) (hb1 : b ≤ 9223372036854775807) :
    Ev (fun k => cadastreref01_Mod.f k a b) (modS a b) := by
  by_cases hc : isN a && isN b && (b != 0)
  · have hc' := hc
    rw [Bool.and_eq_true, Bool.and_eq_true] at hc'
    obtain ⟨⟨c1, c2⟩, c3⟩ := hc'
    have d1 : a ≠ -9223372036854775808 := by simpa [isN] using c1
    have d2 : b ≠ -9223372036854775808 := by simpa [isN] using c2
    have d3 : b ≠ 0 := by simpa using c3
    unfold modS
    rw [if_pos hc]
    by_cases hneg : b < 0
    · obtain ⟨K, hK⟩ := refMod_pos (-a) (-b) (by omega) (by omega) (by omega) (by omega)
      refine ⟨K + 2, fun k hk => ?_⟩
      obtain ⟨k, rfl⟩ : ∃ m, k = m + 1 + 1 := ⟨k - 2, by omega⟩
      have hK := hK k (by omega)
      dsimp only at hK ⊢
      rw [cadastreref01_Mod.f]
      simp only [refCan_ok, Option.bind_some]
      rw [c1, c2, show (b == 0) = false by rw [beq_eq_false_iff_ne]; omega, if_pos rfl, if_pos rfl, cadastreref01_Mod.j0]
      rw [if_neg (by decide), if_pos hneg, w64i, w64i, show (-a + 9223372036854775808) % 18446744073709551616 - 9223372036854775808 = -a by omega, show (-b + 9223372036854775808) % 18446744073709551616 - 9223372036854775808 = -b by omega, hK]
      simp only [Option.bind_some]
      obtain ⟨r0, r1⟩ := modRange a b d3
      unfold modV
      rw [Int.natAbs_neg, Int.natAbs_neg, w64i]
      have hz0 : a = 0 → (a.natAbs : Int) % (b.natAbs : Int) = 0 := by rintro rfl; simp
      generalize (a.natAbs : Int) % (b.natAbs : Int) = m at *
      congr 2
      by_cases hm : m = 0
      · rw [if_pos hm, if_pos hm]
        decide
      · rw [if_neg hm, if_neg hm, if_pos hneg, if_pos hneg, if_neg (show ¬ -b < 0 by omega), if_neg (show ¬ -b < 0 by omega)]
        by_cases hz : a < 0
        · rw [if_neg (by omega), if_pos hz]
          omega
        · rw [if_neg hz]
          by_cases hy : -a < 0
          · rw [if_pos hy]
            omega
          · exfalso
            exact hm (hz0 (by omega))
    · obtain ⟨K, hK⟩ := refMod_pos a b (by omega) ha1 (by omega) hb1
      exact ⟨K, hK⟩
  · refine ⟨2, fun k hk => ?_⟩
    obtain ⟨k, rfl⟩ : ∃ m, k = m + 1 + 1 := ⟨k - 2, by omega⟩
    dsimp only
    unfold modS
    rw [if_neg hc]
    simp only [cadastreref01_Mod.f, refCan_ok, Option.bind_some, cadastreref01_Mod.j0]
    cases h1 : isN a
    · simp
    · cases h2 : isN b
      · simp
      · rw [h1, h2] at hc
        by_cases hb0 : b = 0
        · simp [hb0]
        · exact absurd (by simp [hb0]) hc
end Go.Proofs.Ytegcjgfhpjdjfaa.PFix
