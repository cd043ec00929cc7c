/- What the document's sums of many numbers tell: sums modulo 2^128, and such a sum as a number. -/
import Derived.Test.YtegcjgfhpjdjfaaAdd
import Derived.Test.YtegcjgfhpjdjfaaPFixx18
import Derived.Test.YtegcjgfhpjdjfaaPFixx19
import Derived.Test.YtegcjgfhpjdjfaaPFixx20
namespace Go.Proofs.Ytegcjgfhpjdjfaa.PFix
open Go.RowKit Go.Proofs.YtegcjgfhpjdjfaaW.PrintWords Go.Proofs.YtegcjgfhpjdjfaaW.PrintLast Go.Proofs.YtegcjgfhpjdjfaaW.PrintMore
set_option linter.unusedVariables false
set_option linter.unusedSimpArgs false

theorem word_ok (a : Int) (h0 : -9223372036854775808 ≤ a) (h1 : a ≤ 9223372036854775807) : cadastreref01_word.f a = some (a % 340282366920938463463374607431768211456 / 18446744073709551616, a % 340282366920938463463374607431768211456 % 18446744073709551616) := by
  unfold cadastreref01_word.f
  rw [wu64]
  split <;> (congr 2 <;> omega)

theorem refPlus_ok (V a : Int) (hV : 0 ≤ V) (hV1 : V < 340282366920938463463374607431768211456) (h0 : -9223372036854775808 ≤ a) (h1 : a ≤ 9223372036854775807) :
    cadastreref01_Plus.f (wrap64 (V / 18446744073709551616)) (V % 18446744073709551616) a = some (wrap64 ((V + a) % 340282366920938463463374607431768211456 / 18446744073709551616), (V + a) % 18446744073709551616) := by
  have hp := plusW_ok V (a % 340282366920938463463374607431768211456) hV hV1 (by omega) (by omega)
  unfold cadastreref01_Plus.f
  rw [word_ok a h0 h1]
  simp only [Option.bind_some]
  rw [show IntKind.u64.wrap (wrap64 (V / 18446744073709551616)) = V / 18446744073709551616 by rw [wu64, w64i]; omega, hp]
  simp only [Option.bind_some]
  rw [show (V + a % 340282366920938463463374607431768211456) % 340282366920938463463374607431768211456 = (V + a) % 340282366920938463463374607431768211456 by omega]
  congr 2
  omega

/-- A sum as a number, if it is one. -/
def toldS (V : Int) : Int × Bool :=
  if V ≤ 9223372036854775807 then (V, true) else if 340282366920938463454151235394913435649 ≤ V then (V - 340282366920938463463374607431768211456, true) else (0, false)

theorem refTold_ok (V : Int) (hV : 0 ≤ V) (hV1 : V < 340282366920938463463374607431768211456) :
    cadastreref01_Told.f (wrap64 (V / 18446744073709551616)) (V % 18446744073709551616) = some (toldS V) := by
  unfold cadastreref01_Told.f toldS
  rw [word_ok _ (by rw [w64i]; omega) (by rw [w64i]; omega)]
  simp only [Option.bind_some]
  rw [show IntKind.u64.wrap (wrap64 (V / 18446744073709551616)) = V / 18446744073709551616 by rw [wu64, w64i]; omega, refCan_ok]
  simp only [Option.bind_some, isN]
  rw [w64i]
  by_cases hs : V ≤ 9223372036854775807
  · rw [if_pos hs, show (V % 18446744073709551616 + 9223372036854775808) % 18446744073709551616 - 9223372036854775808 = V by omega]
    rw [if_neg (by simp; omega), if_pos (by rw [bne_iff_ne]; omega)]
  · rw [if_neg hs]
    by_cases hb : 340282366920938463454151235394913435649 ≤ V
    · rw [if_pos hb, show (V % 18446744073709551616 + 9223372036854775808) % 18446744073709551616 - 9223372036854775808 = V - 340282366920938463463374607431768211456 by omega]
      rw [if_neg (by simp; omega), if_pos (by rw [bne_iff_ne]; omega)]
    · rw [if_neg hb]
      by_cases he : (V % 18446744073709551616 + 9223372036854775808) % 18446744073709551616 - 9223372036854775808 = -9223372036854775808
      · rw [he]
        simp
      · rw [if_pos (by simp; omega)]

theorem refAdd_ok (a b : Int) (ha : -9223372036854775808 ≤ a) (ha1 : a ≤ 9223372036854775807) (hb : -9223372036854775808 ≤ b) (hb1 : b ≤ 9223372036854775807) :
    Ev (fun k => cadastreref01_Add.f k a b) (addS a b) := by
  refine ⟨1, fun k hk => ?_⟩
  obtain ⟨k, rfl⟩ : ∃ m, k = m + 1 := ⟨k - 1, by omega⟩
  dsimp only
  unfold cadastreref01_Add.f addS
  rw [refCan_ok, refCan_ok]
  cases c1 : isN a
  · simp [cadastreref01_Add.j0]
  · cases c2 : isN b
    · simp [cadastreref01_Add.j0]
    · have h1 := refPlus_ok 0 a (by decide) (by decide) ha ha1
      have h2 := refPlus_ok (a % 340282366920938463463374607431768211456) b (by omega) (by omega) hb hb1
      have h3 := refTold_ok ((a % 340282366920938463463374607431768211456 + b) % 340282366920938463463374607431768211456) (by omega) (by omega)
      rw [show wrap64 (0 / 18446744073709551616) = 0 by rw [w64i]; decide, show (0 : Int) % 18446744073709551616 = 0 by decide, Int.zero_add, show a % 18446744073709551616 = a % 340282366920938463463374607431768211456 % 18446744073709551616 by omega] at h1
      rw [show (a % 340282366920938463463374607431768211456 + b) % 340282366920938463463374607431768211456 % 18446744073709551616 = (a % 340282366920938463463374607431768211456 + b) % 18446744073709551616 by omega] at h3
      simp only [Option.bind_some, ↓reduceIte, cadastreref01_Add.j0, Bool.not_true, Bool.false_eq_true]
      rw [h1]
      simp only [Option.bind_some]
      rw [h2]
      simp only [Option.bind_some]
      rw [h3]
      simp only [Option.bind_some, Bool.true_and, Bool.and_eq_true, decide_eq_true_eq]
      unfold toldS
      by_cases hr : -9223372036854775807 ≤ a + b ∧ a + b ≤ 9223372036854775807
      · rw [if_pos hr]
        by_cases hn : a + b < 0
        · rw [if_neg (by omega), if_pos (by omega)]
          dsimp only
          congr 2
          omega
        · rw [if_pos (by omega)]
          dsimp only
          congr 2
          omega
      · rw [if_neg hr, if_neg (by omega), if_neg (by omega)]

theorem refSub_ok (a b : Int) (ha : -9223372036854775808 ≤ a) (ha1 : a ≤ 9223372036854775807) (hb : -9223372036854775808 ≤ b) (hb1 : b ≤ 9223372036854775807) :
    Ev (fun k => cadastreref01_Sub.f k a b) (if isN a then subS a b else (0, false)) := by
  by_cases hc : (isN a && isN b) = true
  · rw [Bool.and_eq_true] at hc
    obtain ⟨c1, c2⟩ := hc
    have d2 : b ≠ -9223372036854775808 := by simpa [isN] using c2
    obtain ⟨K, h⟩ := refAdd_ok a (-b) ha ha1 (by omega) (by omega)
    refine ⟨K, fun k hk => ?_⟩
    have h := h k hk
    dsimp only at h ⊢
    unfold cadastreref01_Sub.f subS
    rw [refCan_ok, refCan_ok, c1, c2, w64i, show (-b + 9223372036854775808) % 18446744073709551616 - 9223372036854775808 = -b by omega, h]
    simp
  · refine ⟨0, fun k hk => ?_⟩
    dsimp only
    unfold cadastreref01_Sub.f subS
    rw [refCan_ok, refCan_ok]
    cases h1 : isN a
    · simp
    · cases h2 : isN b
      · simp
      · rw [h1, h2] at hc
        exact absurd rfl hc
end Go.Proofs.Ytegcjgfhpjdjfaa.PFix
