/- What fix.Plus, fix.Less and fix.Told tell, the document's Less, and sums of many numbers in whichever order. -/
import Derived.Test.YtegcjgfhpjdjfaaRefSum
import Derived.Test.YtegcjgfhpjdjfaaPFixx27
import Derived.Test.YtegcjgfhpjdjfaaPFixx28
import Derived.Test.YtegcjgfhpjdjfaaPFixx29
namespace Go.Proofs.Ytegcjgfhpjdjfaa.PFix
open Go.RowKit Go.Proofs.YtegcjgfhpjdjfaaW.PrintWords Go.Proofs.YtegcjgfhpjdjfaaW.PrintLast Go.Proofs.YtegcjgfhpjdjfaaW.PrintMore Go.Proofs.Ytegcjgfhpjdjfaa.Extra
set_option linter.unusedVariables false
set_option linter.unusedSimpArgs false

theorem wrap_addl (x y : Int) : wrap64 (wrap64 x + y) = wrap64 (x + y) := by rw [w64i, w64i, w64i]; omega
theorem wrap_addr (x y : Int) : wrap64 (x + wrap64 y) = wrap64 (x + y) := by rw [w64i, w64i, w64i]; omega
theorem wrap_subl (x y : Int) : wrap64 (wrap64 x - y) = wrap64 (x - y) := by rw [w64i, w64i, w64i]; omega
theorem wrap_subr (x y : Int) : wrap64 (x - wrap64 y) = wrap64 (x - y) := by rw [w64i, w64i, w64i]; omega
theorem hi_word (Z : Int) : wrap64 (Z % 340282366920938463463374607431768211456 / 18446744073709551616) = wrap64 (Z / 18446744073709551616) := by
  have e : Z % 340282366920938463463374607431768211456 / 18446744073709551616 = Z / 18446744073709551616 % 18446744073709551616 := by omega
  rw [e, w64i, w64i]
  omega

theorem fixPlus_ok (V a : Int) (hV : 0 ≤ V) (hV1 : V < 340282366920938463463374607431768211456) (h0 : -9223372036854775808 ≤ a) (h1 : a ≤ 9223372036854775807) :
    fix_Plus.f (wrap64 (V / 18446744073709551616)) (V % 18446744073709551616) a = some (wrap64 ((V + a) % 340282366920938463463374607431768211456 / 18446744073709551616), (V + a) % 18446744073709551616) := by
  have l0 : 0 ≤ V % 18446744073709551616 := by omega
  have ca : add64c (V % 18446744073709551616) (a % 18446744073709551616) = (V % 18446744073709551616 + a % 18446744073709551616) / 18446744073709551616 := by
    unfold add64c
    omega
  have sa : add64s (V % 18446744073709551616) (a % 18446744073709551616) = (V + a) % 18446744073709551616 := by
    unfold add64s
    omega
  unfold fix_Plus.f
  have e : V / 18446744073709551616 + a / 9223372036854775808 + (V % 18446744073709551616 + a % 18446744073709551616) / 18446744073709551616 = (V + a) / 18446744073709551616 := by omega
  rw [wu64, ca, sa, wrap_addr, wrap_addl, hi_word, ← e, Int.add_assoc (wrap64 _), wrap_addl, Int.add_assoc (V / 18446744073709551616)]

theorem fixLess_ok (V a : Int) (hV : 0 ≤ V) (hV1 : V < 340282366920938463463374607431768211456) (h0 : -9223372036854775808 ≤ a) (h1 : a ≤ 9223372036854775807) :
    fix_Less.f (wrap64 (V / 18446744073709551616)) (V % 18446744073709551616) a = some (wrap64 ((V - a) % 340282366920938463463374607431768211456 / 18446744073709551616), (V - a) % 18446744073709551616) := by
  have ca : sub64c (V % 18446744073709551616) (a % 18446744073709551616) = if V % 18446744073709551616 < a % 18446744073709551616 then 1 else 0 := by
    unfold sub64c
    by_cases h : V % 18446744073709551616 < a % 18446744073709551616
    · rw [if_pos h, if_pos (by omega)]
      rfl
    · rw [if_neg h, if_neg (by omega)]
      rfl
  have sa : sub64s (V % 18446744073709551616) (a % 18446744073709551616) = (V - a) % 18446744073709551616 := by
    unfold sub64s
    omega
  have e : V / 18446744073709551616 - a / 9223372036854775808 - (if V % 18446744073709551616 < a % 18446744073709551616 then 1 else 0) = (V - a) / 18446744073709551616 := by
    split <;> omega
  unfold fix_Less.f
  rw [wu64, ca, sa, wrap_subr, wrap_subl, hi_word, ← e]
  have : wrap64 (wrap64 (V / 18446744073709551616) - a / 9223372036854775808 - (if V % 18446744073709551616 < a % 18446744073709551616 then 1 else 0)) = wrap64 (V / 18446744073709551616 - a / 9223372036854775808 - (if V % 18446744073709551616 < a % 18446744073709551616 then 1 else 0)) := by
    rw [Int.sub_sub, wrap_subl, Int.sub_sub]
  rw [this]

theorem refLess_ok (V a : Int) (hV : 0 ≤ V) (hV1 : V < 340282366920938463463374607431768211456) (h0 : -9223372036854775808 ≤ a) (h1 : a ≤ 9223372036854775807) :
    cadastreref01_Less.f (wrap64 (V / 18446744073709551616)) (V % 18446744073709551616) a = some (wrap64 ((V - a) % 340282366920938463463374607431768211456 / 18446744073709551616), (V - a) % 18446744073709551616) := by
  have hp := minusW_ok V (a % 340282366920938463463374607431768211456) hV hV1 (by omega) (by omega)
  unfold cadastreref01_Less.f
  rw [word_ok a h0 h1]
  simp only [Option.bind_some]
  rw [show IntKind.u64.wrap (wrap64 (V / 18446744073709551616)) = V / 18446744073709551616 by rw [wu64, w64i]; omega, hp]
  simp only [Option.bind_some]
  rw [show (V - a % 340282366920938463463374607431768211456) % 340282366920938463463374607431768211456 = (V - a) % 340282366920938463463374607431768211456 by omega]
  congr 2
  omega

theorem fixTold_ok (V : Int) (hV : 0 ≤ V) (hV1 : V < 340282366920938463463374607431768211456) :
    Ev (fun k => fix_Told.f k (wrap64 (V / 18446744073709551616)) (V % 18446744073709551616)) (toldS V) := by
  obtain ⟨K, h⟩ := can_ok [wrap64 (V % 18446744073709551616)] (by simp)
  refine ⟨K, fun k hk => ?_⟩
  have h := h k hk
  dsimp only at h ⊢
  unfold fix_Told.f toldS
  rw [h]
  simp only [w64i, Option.bind_some, List.all_cons, List.all_nil, Bool.and_true]
  by_cases hs : V ≤ 9223372036854775807
  · rw [if_pos hs, show (V % 18446744073709551616 + 9223372036854775808) % 18446744073709551616 - 9223372036854775808 = V by omega, if_pos (by omega), if_pos (by rw [bne_iff_ne]; omega)]
  · rw [if_neg hs]
    by_cases hb : 340282366920938463454151235394913435649 ≤ V
    · rw [if_pos hb, show (V % 18446744073709551616 + 9223372036854775808) % 18446744073709551616 - 9223372036854775808 = V - 340282366920938463463374607431768211456 by omega, if_pos (by omega), if_pos (by rw [bne_iff_ne]; omega)]
    · rw [if_neg hb]
      split
      · rename_i hh
        have key : (V % 18446744073709551616 + 9223372036854775808) % 18446744073709551616 - 9223372036854775808 = -9223372036854775808 := by
          by_cases hlo : V % 18446744073709551616 < 9223372036854775808
          · rw [show (V % 18446744073709551616 + 9223372036854775808) % 18446744073709551616 - 9223372036854775808 = V % 18446744073709551616 by omega, show V % 18446744073709551616 / 9223372036854775808 = 0 by omega] at hh
            omega
          · rw [show (V % 18446744073709551616 + 9223372036854775808) % 18446744073709551616 - 9223372036854775808 = V % 18446744073709551616 - 18446744073709551616 by omega, show (V % 18446744073709551616 - 18446744073709551616) / 9223372036854775808 = -1 by omega] at hh
            omega
        rw [key]
        rfl
      · rfl

/-- The sum of the first so many. -/
def sumTo (f : Nat → Int) : Nat → Int
  | 0 => 0
  | n + 1 => sumTo f n + f n
theorem sumTo_add (f : Nat → Int) (m : Nat) : ∀ n, sumTo f (m + n) = sumTo f m + sumTo (fun j => f (m + j)) n
  | 0 => by simp [sumTo]
  | n + 1 => by
    rw [← Nat.add_assoc, sumTo, sumTo, sumTo_add f m n]
    omega
theorem sumTo_congr (f g : Nat → Int) : ∀ n, (∀ j, j < n → f j = g j) → sumTo f n = sumTo g n
  | 0, _ => rfl
  | n + 1, h => by rw [sumTo, sumTo, sumTo_congr f g n (fun j hj => h j (by omega)), h n (by omega)]
/-- A sum taken from another beginning, round the end, is the same. -/
theorem sumTo_turn (f : Nat → Int) (n g : Nat) : sumTo (fun j => f ((j + g) % n)) n = sumTo f n := by
  by_cases hn : n = 0
  · subst hn
    rfl
  have hg : g % n < n := Nat.mod_lt _ (by omega)
  have e : ∀ j, (j + g) % n = (j + g % n) % n := fun j => by rw [Nat.add_mod, Nat.add_mod j (g % n), Nat.mod_mod]
  rw [sumTo_congr _ (fun j => f ((j + g % n) % n)) n (fun j _ => by rw [e])]
  generalize g % n = r at *
  have h1 : n = (n - r) + r := by omega
  have h2 : n = r + (n - r) := by omega
  have a := sumTo_add (fun j => f ((j + r) % n)) (n - r) r
  have b := sumTo_add f r (n - r)
  rw [← h1] at a
  rw [← h2] at b
  rw [a, b, sumTo_congr (fun j => f ((j + r) % n)) (fun j => f (r + j)) (n - r) (fun j hj => by rw [Nat.add_comm j r, Nat.mod_eq_of_lt (by omega)]),
    sumTo_congr (fun j => f ((n - r + j + r) % n)) f r (fun j hj => by rw [show n - r + j + r = j + n by omega, Nat.add_mod_right, Nat.mod_eq_of_lt (by omega)])]
  omega
end Go.Proofs.Ytegcjgfhpjdjfaa.PFix
