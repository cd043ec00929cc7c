/- Floats of 64 bits, as the model has them: what a word stands for, when it is less than 0, what a difference of a float and itself is. -/
import Derived.Laws.FloatArith
import Derived.WalkLawsBesides
namespace Go.Proofs.Ytkhbkhbkcpmiiaa.Flt
open Ieee
set_option linter.unusedVariables false
set_option linter.unusedSimpArgs false

abbrev D : Format := double
theorem sw : D.signWeight = 9223372036854775808 := by decide
theorem bn : D.binade = 4503599627370496 := by decide
theorem ir : D.infRung = 9218868437227405312 := by decide
theorem lp : D.leastPlace = -1074 := by decide

theorem read_sub {n : Nat} (h : n % 9223372036854775808 < 4503599627370496) : D.read n = .number (n / 9223372036854775808 % 2 == 1) (n % 9223372036854775808) (-1074) := by
  unfold Format.read
  rw [sw, bn, lp]
  simp only
  rw [if_pos h]
theorem read_nor {n : Nat} (h : ¬ n % 9223372036854775808 < 4503599627370496) (h1 : n % 9223372036854775808 < 9218868437227405312) :
    D.read n = .number (n / 9223372036854775808 % 2 == 1) (4503599627370496 + n % 9223372036854775808 % 4503599627370496) (-1074 + ((n % 9223372036854775808 / 4503599627370496 - 1 : Nat) : Int)) := by
  unfold Format.read
  rw [sw, bn, lp, ir]
  simp only
  rw [if_neg h, if_pos h1]
theorem read_inf {n : Nat} (h : n % 9223372036854775808 = 9218868437227405312) : D.read n = .infinity (n / 9223372036854775808 % 2 == 1) := by
  unfold Format.read
  rw [sw, bn, ir]
  simp only
  rw [if_neg (by omega), if_neg (by omega), if_pos h]
theorem read_nan {n : Nat} (h : 9218868437227405312 < n % 9223372036854775808) : ∃ t, D.read n = .nan (n / 9223372036854775808 % 2 == 1) t := by
  unfold Format.read
  rw [sw, bn, ir]
  simp only
  rw [if_neg (by omega), if_neg (by omega), if_neg (by omega)]
  exact ⟨_, rfl⟩
/-- A float that is a number: its size is a whole number times two to a place. -/
theorem read_fin {n : Nat} (h : n % 9223372036854775808 < 9218868437227405312) : ∃ m p, D.read n = .number (n / 9223372036854775808 % 2 == 1) m p ∧ (m = 0 ↔ n % 9223372036854775808 = 0) := by
  by_cases h1 : n % 9223372036854775808 < 4503599627370496
  · exact ⟨_, _, read_sub h1, Iff.rfl⟩
  · exact ⟨_, _, read_nor h1 h, by omega⟩
theorem read_zero : D.read 0 = .number false 0 (-1074) := read_sub (by decide)

theorem order_self_nan {n : Nat} (h : 9218868437227405312 < n % 9223372036854775808) (m : Nat) : D.order n m = none := by
  obtain ⟨t, ht⟩ := read_nan h
  unfold Format.order
  rw [ht]
  rfl
theorem order_self {n : Nat} (h : n % 9223372036854775808 ≤ 9218868437227405312) : D.order n n = some .eq := by
  unfold Format.order
  by_cases h1 : n % 9223372036854775808 = 9218868437227405312
  · rw [read_inf h1]
    simp [Datum.order]
  · obtain ⟨m, p, hr, _⟩ := read_fin (n := n) (by omega)
    rw [hr]
    simp [Datum.order]
theorem sub_self_inf {n : Nat} (h : n % 9223372036854775808 = 9218868437227405312) : D.sub n n = none := by
  unfold Format.sub
  rw [read_inf h]
  simp [Datum.sum, Datum.opposite]
theorem nearest_zero (s : Bool) (p : Int) : D.nearest s 0 p = if s then 9223372036854775808 else 0 := by
  unfold Format.nearest
  rw [if_pos rfl]
  unfold Format.word
  rw [sw]
theorem sub_self_fin {n : Nat} (h : n % 9223372036854775808 < 9218868437227405312) : D.sub n n = some 0 := by
  obtain ⟨m, p, hr, _⟩ := read_fin (n := n) h
  unfold Format.sub
  rw [hr]
  generalize (n / 9223372036854775808 % 2 == 1) = s
  simp only [Datum.opposite, Datum.sum, Option.map_some]
  have e : Ieee.signed s m (p - min p p).toNat + Ieee.signed (!s) m (p - min p p).toNat = 0 := by
    unfold Ieee.signed
    cases s <;> simp <;> omega
  rw [e]
  cases s <;> simp [Format.write, nearest_zero]
theorem order_zero : D.order 0 0 = some .eq := order_self (by decide)
/-- Which floats are below 0. -/
theorem order_lt_zero {n : Nat} (h : n % 9223372036854775808 < 9218868437227405312) (hn : n < 18446744073709551616) : (D.order n 0 == some .lt) = decide (9223372036854775808 < n) := by
  obtain ⟨m, p, hr, hm⟩ := read_fin (n := n) h
  unfold Format.order
  rw [hr, read_zero]
  simp only [Datum.order]
  have e0 : Ieee.signed false 0 (-1074 - min p (-1074)).toNat = 0 := by unfold Ieee.signed; simp
  rw [e0]
  have hs : Ieee.signed (n / 9223372036854775808 % 2 == 1) m (p - min p (-1074)).toNat < 0 ↔ 9223372036854775808 < n := by
    unfold Ieee.signed
    have hsh : m <<< (p - min p (-1074)).toNat = 0 ↔ m = 0 := by
      rw [Nat.shiftLeft_eq]
      have := Nat.two_pow_pos (p - min p (-1074)).toNat
      constructor
      · intro h
        rcases Nat.mul_eq_zero.mp h with h | h <;> omega
      · rintro rfl
        simp
    generalize m <<< (p - min p (-1074)).toNat = q at *
    by_cases hneg : n / 9223372036854775808 % 2 = 1
    · rw [if_pos (by simpa using hneg)]
      omega
    · rw [if_neg (by simpa using hneg)]
      omega
  generalize Ieee.signed (n / 9223372036854775808 % 2 == 1) m (p - min p (-1074)).toNat = z at *
  by_cases hz : z < 0
  · rw [decide_eq_true (hs.mp hz)]
    have : compare z 0 = .lt := by
      rw [Int.compare_eq_lt]
      exact hz
    rw [this]
    rfl
  · rw [decide_eq_false (fun h => hz (hs.mpr h))]
    have : compare z 0 ≠ .lt := by
      rw [ne_eq, Int.compare_eq_lt]
      exact hz
    simpa using this

/-! ### roots and products of floats that are not below 0: there is an answer -/
theorem nearest_nonneg (m : Nat) (p : Int) : D.nearest false m p ≤ 9218868437227405312 := by
  unfold Format.nearest
  split
  · simp [Format.word]
  · simp only [Format.word]
    rw [ir]
    simp only [Bool.false_eq_true, ↓reduceIte]
    exact Nat.min_le_right _ _
theorem read_nonneg {n : Nat} (h : n ≤ 9218868437227405312) : D.read n = .infinity false ∨ ∃ m p, D.read n = .number false m p := by
  by_cases h1 : n = 9218868437227405312
  · left
    rw [read_inf (by omega)]
    subst h1
    rfl
  · right
    obtain ⟨m, p, hr, _⟩ := read_fin (n := n) (by omega)
    refine ⟨m, p, ?_⟩
    rw [hr, show n / 9223372036854775808 = 0 by omega]
    rfl
theorem write_nonneg (d : Datum) (h : d = .infinity false ∨ ∃ m p, d = .number false m p) : D.write d ≤ 9218868437227405312 := by
  rcases h with rfl | ⟨m, p, rfl⟩
  · simp only [Format.write, Format.word]
    rw [ir]
    decide
  · exact nearest_nonneg m p
theorem sqrt_some {n : Nat} (h : n ≤ 9218868437227405312) : ∃ r, D.sqrt n = some r ∧ r ≤ 9218868437227405312 := by
  unfold Format.sqrt
  rcases read_nonneg h with hr | ⟨m, p, hr⟩
  · rw [hr]
    exact ⟨_, rfl, write_nonneg _ (.inl rfl)⟩
  · rw [hr]
    unfold Datum.root
    simp only
    split
    · exact ⟨_, rfl, write_nonneg _ (.inr ⟨_, _, rfl⟩)⟩
    · simp only [Bool.false_eq_true, ↓reduceIte]
      exact ⟨_, rfl, write_nonneg _ (.inr ⟨_, _, rfl⟩)⟩
theorem mul_some {n : Nat} (h : n ≤ 9218868437227405312) : ∃ r, D.mul n 4636737291354636288 = some r := by
  have hc : D.read 4636737291354636288 = .number false (4503599627370496 + 4636737291354636288 % 9223372036854775808 % 4503599627370496) (-1074 + ((4636737291354636288 % 9223372036854775808 / 4503599627370496 - 1 : Nat) : Int)) :=
    read_nor (by decide) (by decide)
  unfold Format.mul
  rcases read_nonneg h with hr | ⟨m, p, hr⟩ <;> rw [hr, hc]
  · exact ⟨_, rfl⟩
  · exact ⟨_, rfl⟩
end Go.Proofs.Ytkhbkhbkcpmiiaa.Flt
