/- Facts on the words of IEEE doubles for real.To: which word a whole number of 64 bits gets, products with 1 and -1, how normal words stand to nought, to the least and the greatest normal one. -/
import Derived.Test.YtkhbkhbkcpmiiaaFlt
namespace Go.Proofs.Ytkhbkhbkcpmiiaa.Flt
open Ieee
set_option linter.unusedVariables false
set_option linter.unusedSimpArgs false

theorem cut_even (neg : Bool) (n drop : Nat) (h : drop ≤ n.log2 + 2) : Toward.even.cut neg n drop = n / 2 ^ drop + (if 2 ^ drop < 2 * (n % 2 ^ drop) ∨ (2 ^ drop = 2 * (n % 2 ^ drop) ∧ n / 2 ^ drop % 2 = 1) then 1 else 0) := by
  unfold Toward.cut
  rw [Nat.min_eq_left h, Nat.one_shiftLeft]
  simp only
  congr 1
  generalize 2 ^ drop = p
  by_cases c : p < 2 * (n % p) ∨ (p = 2 * (n % p) ∧ n / p % 2 = 1)
  · rw [if_pos c]
    have : (decide (p < 2 * (n % p)) || p == 2 * (n % p) && n / p % 2 == 1) = true := by
      simpa using c
    rw [this]
    rfl
  · rw [if_neg c]
    have : (decide (p < 2 * (n % p)) || p == 2 * (n % p) && n / p % 2 == 1) = false := by
      rw [← Bool.not_eq_true]
      intro hh
      exact c (by simpa using hh)
    rw [this]
    rfl
/-- The word of a whole number from 2^63 on, below 2^64. -/
theorem near_int (m : Nat) (h0 : 9223372036854775808 ≤ m) (h1 : m < 18446744073709551616) :
    D.nearest false m 0 = 4886405595696988160 + (m / 2048 + (if 2048 < 2 * (m % 2048) ∨ (2048 = 2 * (m % 2048) ∧ m / 2048 % 2 = 1) then 1 else 0)) := by
  have hl : m.log2 = 63 := (Nat.log2_eq_iff (by omega)).mpr ⟨h0, h1⟩
  unfold Format.nearest
  rw [if_neg (by omega), hl, lp, bn, ir, show D.fractionBits = 52 by rfl]
  have hmax : max ((0 : Int) + ((63 : Nat) : Int) - ((52 : Nat) : Int)) (-1074) = 11 := by decide
  simp only [hmax]
  rw [show ((0 : Int) - 11).toNat = 0 by decide, show ((11 : Int) - 0).toNat = 11 by decide, show ((11 : Int) - -1074).toNat = 1085 by decide, Nat.shiftLeft_zero, cut_even false m 11 (by omega)]
  rw [show (2 : Nat) ^ 11 = 2048 by decide]
  simp only [Format.word, Bool.false_eq_true, ↓reduceIte]
  rw [Nat.min_eq_left]
  split <;> omega

/-- A normal number, its digits moved up and its place down by as much, has its own word. -/
theorem near_normal (neg : Bool) (r : Nat) (h0 : 4503599627370496 ≤ r) (h1 : r < 9218868437227405312) :
    D.nearest neg (4503599627370496 * (4503599627370496 + r % 4503599627370496)) (-52 + (-1074 + ((r / 4503599627370496 - 1 : Nat) : Int))) = (if neg then 9223372036854775808 + r else r) := by
  have hm : r % 4503599627370496 < 4503599627370496 := Nat.mod_lt _ (by decide)
  have hl : (4503599627370496 * (4503599627370496 + r % 4503599627370496)).log2 = 104 := by
    refine (Nat.log2_eq_iff (by omega)).mpr ⟨?_, ?_⟩
    · rw [show (2 : Nat) ^ 104 = 20282409603651670423947251286016 by decide]
      omega
    · rw [show (2 : Nat) ^ (104 + 1) = 40564819207303340847894502572032 by decide]
      omega
  unfold Format.nearest
  rw [if_neg (by omega), hl, lp, bn, ir, show D.fractionBits = 52 by rfl]
  have hmax : max (-52 + (-1074 + ((r / 4503599627370496 - 1 : Nat) : Int)) + ((104 : Nat) : Int) - ((52 : Nat) : Int)) (-1074) = -1074 + ((r / 4503599627370496 - 1 : Nat) : Int) := by omega
  simp only [hmax]
  rw [show (-52 + (-1074 + ((r / 4503599627370496 - 1 : Nat) : Int)) - (-1074 + ((r / 4503599627370496 - 1 : Nat) : Int))).toNat = 0 by omega,
    show (-1074 + ((r / 4503599627370496 - 1 : Nat) : Int) - (-52 + (-1074 + ((r / 4503599627370496 - 1 : Nat) : Int)))).toNat = 52 by omega,
    show (-1074 + ((r / 4503599627370496 - 1 : Nat) : Int) - -1074).toNat = r / 4503599627370496 - 1 by omega, Nat.shiftLeft_zero, cut_even neg _ 52 (by rw [hl]; decide)]
  rw [show (2 : Nat) ^ 52 = 4503599627370496 by decide, Nat.mul_mod_right, Nat.mul_div_cancel_left _ (by decide), if_neg (by omega)]
  unfold Format.word
  rw [sw, Nat.min_eq_left (by omega)]
  have : (r / 4503599627370496 - 1) * 4503599627370496 + (4503599627370496 + r % 4503599627370496 + 0) = r := by omega
  rw [this]
theorem read_normal {r : Nat} (h0 : 4503599627370496 ≤ r) (h1 : r < 9218868437227405312) :
    D.read r = .number false (4503599627370496 + r % 4503599627370496) (-1074 + ((r / 4503599627370496 - 1 : Nat) : Int)) := by
  have e : r % 9223372036854775808 = r := Nat.mod_eq_of_lt (by omega)
  have h := read_nor (n := r) (by omega) (by omega)
  rw [e, show r / 9223372036854775808 = 0 by omega] at h
  exact h
theorem read_one : D.read 4607182418800017408 = .number false 4503599627370496 (-52) := by
  have := read_normal (r := 4607182418800017408) (by decide) (by decide)
  rw [this]
  rfl
theorem read_minus : D.read 13830554455654793216 = .number true 4503599627370496 (-52) := by
  have := read_nor (n := 13830554455654793216) (by decide) (by decide)
  rw [this]
  rfl
theorem mul_one {r : Nat} (h0 : 4503599627370496 ≤ r) (h1 : r < 9218868437227405312) : D.mul 4607182418800017408 r = some r := by
  unfold Format.mul
  rw [read_one, read_normal h0 h1]
  simp only [Datum.product, Option.map_some, Format.write]
  rw [Bool.xor_false, near_normal _ r h0 h1]
  rfl
theorem mul_minus {r : Nat} (h0 : 4503599627370496 ≤ r) (h1 : r < 9218868437227405312) : D.mul 13830554455654793216 r = some (9223372036854775808 + r) := by
  unfold Format.mul
  rw [read_minus, read_normal h0 h1]
  simp only [Datum.product, Option.map_some, Format.write]
  rw [Bool.xor_false, near_normal _ r h0 h1]
  rfl
/-- A normal word is not nought. -/
theorem order_nought {r : Nat} (h0 : 4503599627370496 ≤ r) (h1 : r < 9218868437227405312) : (D.order r 0 == some .eq) = false := by
  unfold Format.order
  rw [read_normal h0 h1, read_zero]
  simp only [Datum.order]
  have e0 : Ieee.signed false 0 (-1074 - min (-1074 + ((r / 4503599627370496 - 1 : Nat) : Int)) (-1074)).toNat = 0 := by unfold Ieee.signed; simp
  rw [e0]
  unfold Ieee.signed
  simp only [Bool.false_eq_true, ↓reduceIte]
  rw [Nat.shiftLeft_eq]
  have hp := Nat.two_pow_pos ((-1074 + ((r / 4503599627370496 - 1 : Nat) : Int)) - min (-1074 + ((r / 4503599627370496 - 1 : Nat) : Int)) (-1074)).toNat
  have : (4503599627370496 + r % 4503599627370496) * 2 ^ ((-1074 + ((r / 4503599627370496 - 1 : Nat) : Int)) - min (-1074 + ((r / 4503599627370496 - 1 : Nat) : Int)) (-1074)).toNat ≠ 0 := Nat.mul_ne_zero (by omega) (by omega)
  generalize (4503599627370496 + r % 4503599627370496) * 2 ^ ((-1074 + ((r / 4503599627370496 - 1 : Nat) : Int)) - min (-1074 + ((r / 4503599627370496 - 1 : Nat) : Int)) (-1074)).toNat = q at this
  have h : compare (q : Int) 0 ≠ .eq := by
    rw [ne_eq, Int.compare_eq_eq]
    omega
  simpa using h
theorem read_most : D.read 9218868437227405311 = .number false 9007199254740991 971 := by
  have := read_normal (r := 9218868437227405311) (by decide) (by decide)
  rw [this]
  rfl
/-- A normal word is not above the greatest one. -/
theorem order_most {r : Nat} (h0 : 4503599627370496 ≤ r) (h1 : r < 9218868437227405312) : (D.order r 9218868437227405311 == some .gt) = false := by
  unfold Format.order
  rw [read_normal h0 h1, read_most]
  simp only [Datum.order]
  have hm : r % 4503599627370496 < 4503599627370496 := Nat.mod_lt _ (by decide)
  have hmin : min (-1074 + ((r / 4503599627370496 - 1 : Nat) : Int)) 971 = -1074 + ((r / 4503599627370496 - 1 : Nat) : Int) := by omega
  rw [hmin, Int.sub_self]
  unfold Ieee.signed
  simp only [Bool.false_eq_true, ↓reduceIte]
  rw [Int.toNat_zero, Nat.shiftLeft_zero, Nat.shiftLeft_eq]
  have hp := Nat.two_pow_pos (971 - (-1074 + ((r / 4503599627370496 - 1 : Nat) : Int))).toNat
  generalize 2 ^ (971 - (-1074 + ((r / 4503599627370496 - 1 : Nat) : Int))).toNat = p at hp
  have hq : ∀ a : Nat, a ≤ a * p := fun a => Nat.le_mul_of_pos_right a hp
  have := hq 9007199254740991
  generalize 9007199254740991 * p = q at this
  have h : compare (((4503599627370496 + r % 4503599627370496 : Nat)) : Int) ((q : Nat) : Int) ≠ .gt := by
    rw [ne_eq, Int.compare_eq_gt]
    omega
  simpa using h
theorem read_least : D.read 4503599627370496 = .number false 4503599627370496 (-1074) := by
  have := read_normal (r := 4503599627370496) (by decide) (by decide)
  rw [this]
  rfl
theorem cmp_least (M B j : Nat) (h : B ≤ M) : (Datum.order (.number false M (-1074 + (j : Int))) (.number false B (-1074)) == some .lt) = false := by
  simp only [Datum.order]
  have hmin : min (-1074 + (j : Int)) (-1074) = -1074 := by omega
  rw [hmin, Int.sub_self]
  unfold Ieee.signed
  simp only [Bool.false_eq_true, ↓reduceIte]
  rw [Int.toNat_zero, Nat.shiftLeft_zero, Nat.shiftLeft_eq]
  have hp := Nat.two_pow_pos (-1074 + (j : Int) - -1074).toNat
  generalize 2 ^ (-1074 + (j : Int) - -1074).toNat = p at hp
  have := Nat.le_mul_of_pos_right M hp
  generalize M * p = q at this
  have h : compare (q : Int) (B : Int) ≠ .lt := by
    rw [ne_eq, Int.compare_eq_lt]
    omega
  simpa using h
/-- A normal word is not below the least one. -/
theorem order_least {r : Nat} (h0 : 4503599627370496 ≤ r) (h1 : r < 9218868437227405312) : (D.order r 4503599627370496 == some .lt) = false := by
  unfold Format.order
  rw [read_normal h0 h1, read_least]
  exact cmp_least _ _ _ (Nat.le_add_right _ _)
end Go.Proofs.Ytkhbkhbkcpmiiaa.Flt
