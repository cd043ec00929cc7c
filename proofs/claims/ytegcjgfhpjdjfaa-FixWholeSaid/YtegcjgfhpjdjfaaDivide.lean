/- What the printed function of cadastreref01.Divide tells: quotient and rest of numbers of 128 bits; and Near, the nearest whole number to a quotient. -/
import Derived.Test.YtegcjgfhpjdjfaaWords
import Derived.Test.YtegcjgfhpjdjfaaPFixx7
import Derived.Test.YtegcjgfhpjdjfaaPFixx8
import Derived.Test.YtegcjgfhpjdjfaaPFixx6
namespace Go.Proofs.Ytegcjgfhpjdjfaa.PFix
open Go.RowKit Go.Proofs.YtegcjgfhpjdjfaaW.PrintWords Go.Proofs.YtegcjgfhpjdjfaaW.PrintLast Go.Proofs.YtegcjgfhpjdjfaaW.PrintMore
set_option linter.unusedVariables false
set_option linter.unusedSimpArgs false

theorem step_div (x b d : Int) (hd : 0 < d) (hb : 0 ≤ b) (hb1 : b ≤ 1) :
    (2 * x + b) / d = 2 * (x / d) + (if d ≤ 2 * (x % d) + b then 1 else 0) ∧ (2 * x + b) % d = 2 * (x % d) + b - (if d ≤ 2 * (x % d) + b then d else 0) := by
  have m := Int.emod_add_ediv_mul x d
  have m0 := Int.emod_nonneg x (show d ≠ 0 by omega)
  have m1 := Int.emod_lt_of_pos x hd
  by_cases h : d ≤ 2 * (x % d) + b
  · rw [if_pos h, if_pos h]
    have e : 2 * x + b = (2 * (x % d) + b - d) + (2 * (x / d) + 1) * d := by rw [Int.add_mul, Int.mul_assoc]; omega
    constructor
    · conv => lhs; rw [e]
      rw [Int.add_mul_ediv_right _ _ (by omega), Int.ediv_eq_zero_of_lt (by omega) (by omega)]
      omega
    · conv => lhs; rw [e]
      rw [Int.add_mul_emod_self_right, Int.emod_eq_of_lt (by omega) (by omega)]
  · rw [if_neg h, if_neg h]
    have e : 2 * x + b = (2 * (x % d) + b) + (2 * (x / d)) * d := by rw [Int.mul_assoc]; omega
    constructor
    · conv => lhs; rw [e]
      rw [Int.add_mul_ediv_right _ _ (by omega), Int.ediv_eq_zero_of_lt (by omega) (by omega)]
      omega
    · conv => lhs; rw [e]
      rw [Int.add_mul_emod_self_right, Int.emod_eq_of_lt (by omega) (by omega)]
      omega

theorem divide_l0 (A D : Int) (hA : 0 ≤ A) (hA1 : A < 340282366920938463463374607431768211456) (hD : 0 < D) (hD1 : D ≤ 170141183460469231731687303715884105728) : ∀ n : Nat, n ≤ 128 →
    Ev (fun k => cadastreref01_Divide.l0 k ((n : Int) - 1) (A / 18446744073709551616) (A % 18446744073709551616) (D / 18446744073709551616) (D % 18446744073709551616)
      (A / 2 ^ n / D / 18446744073709551616) (A / 2 ^ n / D % 18446744073709551616) (A / 2 ^ n % D / 18446744073709551616) (A / 2 ^ n % D % 18446744073709551616))
      (A / D / 18446744073709551616, A / D % 18446744073709551616, A % D / 18446744073709551616, A % D % 18446744073709551616) := by
  intro n
  induction n with
  | zero =>
    intro _
    refine Ev.step (f := fun k => some _) (fun k => ?_) (Ev.now _)
    simp only [cadastreref01_Divide.l0]
    rw [if_neg (by omega)]
    simp
  | succ n ih =>
    intro hn
    have ih := ih (by omega)
    have hx : ((n + 1 : Nat) : Int) - 1 = (n : Int) := by omega
    rw [hx]
    have a1 : 0 ≤ A / 2 ^ (n + 1) := Int.ediv_nonneg hA (Int.le_of_lt (Int.pow_pos (by decide)))
    have a2 : A / 2 ^ (n + 1) ≤ A := Int.ediv_le_self _ hA
    have b1 : 0 ≤ A / 2 ^ n := Int.ediv_nonneg hA (Int.le_of_lt (Int.pow_pos (by decide)))
    have b2 : A / 2 ^ n ≤ A := Int.ediv_le_self _ hA
    have sp := pow_split A n
    obtain ⟨s1, s2⟩ := step_div (A / 2 ^ (n + 1)) (A / 2 ^ n % 2) D hD (by omega) (by omega)
    rw [← sp] at s1 s2
    have m0 := Int.emod_nonneg (A / 2 ^ (n + 1)) (show D ≠ 0 by omega)
    have m1 := Int.emod_lt_of_pos (A / 2 ^ (n + 1)) hD
    have q0 : 0 ≤ A / 2 ^ (n + 1) / D := Int.ediv_nonneg a1 (by omega)
    have q1 : A / 2 ^ (n + 1) / D ≤ A / 2 ^ (n + 1) := Int.ediv_le_self _ a1
    have q0' : 0 ≤ A / 2 ^ n / D := Int.ediv_nonneg b1 (by omega)
    have q1' : A / 2 ^ n / D ≤ A / 2 ^ n := Int.ediv_le_self _ b1
    have bit : (if (n : Int) ≥ 64 then bits .and .u64 (shr .u64 (A / 18446744073709551616) (IntKind.u64.wrap (wrap64 ((n : Int) - 64)))) 1 else bits .and .u64 (shr .u64 (A % 18446744073709551616) (IntKind.u64.wrap (Int.tmod (n : Int) 64))) 1) = A / 2 ^ n % 2 := by
      split
      · rename_i h
        obtain ⟨j, rfl⟩ : ∃ j, n = 64 + j := ⟨n - 64, by omega⟩
        have e1 : IntKind.u64.wrap (wrap64 (((64 + j : Nat) : Int) - 64)) = (j : Int) := by rw [w64i, wu64]; omega
        rw [e1]
        unfold shr
        have e2 : A / 18446744073709551616 / 2 ^ j = A / 2 ^ (64 + j) := by
          rw [Int.ediv_ediv_of_nonneg (by decide), Int.pow_add]
          rfl
        have e3 := Int.ediv_le_self (2 ^ j) (show 0 ≤ A / 18446744073709551616 by omega)
        rw [Int.toNat_natCast, Nat.min_eq_left (show j ≤ IntKind.u64.bits by show j ≤ 64; omega), bu_one _ (by rw [e2]; omega) (by omega), e2]
      · rename_i h
        have e1 : IntKind.u64.wrap (Int.tmod (n : Int) 64) = (n : Int) := by rw [wu64, Int.tmod_eq_emod_of_nonneg (by omega)]; omega
        rw [e1]
        unfold shr
        have e3 := Int.ediv_le_self (2 ^ n) (show 0 ≤ A % 18446744073709551616 by omega)
        have e4 : 0 ≤ A % 18446744073709551616 / 2 ^ n := Int.ediv_nonneg (by omega) (Int.le_of_lt (Int.pow_pos (by decide)))
        rw [Int.toNat_natCast, Nat.min_eq_left (show n ≤ IntKind.u64.bits by show n ≤ 64; omega), bu_one _ e4 (by omega)]
        -- the upper word plays no part
        have e5 : A = A % 18446744073709551616 + (2 * (A / 18446744073709551616) * 2 ^ (63 - n)) * 2 ^ n := by
          rw [Int.mul_assoc, ← Int.pow_add, show 63 - n + n = 63 by omega]
          have : (2 : Int) ^ 63 = 9223372036854775808 := by decide
          rw [this]
          omega
        have e6 : A / 2 ^ n = A % 18446744073709551616 / 2 ^ n + 2 * (A / 18446744073709551616) * 2 ^ (63 - n) := by
          conv => lhs; rw [e5]
          rw [Int.add_mul_ediv_right _ _ (Int.pow_ne_zero (by decide))]
        rw [e6, Int.mul_assoc]
        omega
    have hb0 : 0 ≤ A / 2 ^ n % 2 := by omega
    have hb1 : A / 2 ^ n % 2 ≤ 1 := by omega
    generalize A / 2 ^ n % 2 = bb at *
    generalize A / 2 ^ (n + 1) / D = Q at *
    generalize A / 2 ^ (n + 1) % D = R at *
    have upR := up_ok R m0 (by omega)
    have upQ := up_ok Q q0 (by omega)
    rw [show (2 * R) % 340282366920938463463374607431768211456 = 2 * R by omega] at upR
    have hw : wrap64 ((n : Int) - 1) = (n : Int) - 1 := by rw [w64i]; omega
    have orR : bits .or .u64 (2 * R % 18446744073709551616) bb = 2 * R % 18446744073709551616 + bb := bu_or 1 _ _ (by omega) (by omega) (by omega) (by omega) (by omega) (by omega)
    have orQ : bits .or .u64 (2 * Q % 18446744073709551616) 1 = 2 * Q % 18446744073709551616 + 1 := bu_or 1 _ _ (by omega) (by omega) (by omega) (by omega) (by omega) (by omega)
    have hhi : 2 * R / 18446744073709551616 = (2 * R + bb) / 18446744073709551616 := by omega
    have hlo : 2 * R % 18446744073709551616 + bb = (2 * R + bb) % 18446744073709551616 := by omega
    refine Ev.step (f := fun k => cadastreref01_Divide.j1 k n bb (A / 18446744073709551616) (A % 18446744073709551616) (D / 18446744073709551616) (D % 18446744073709551616) (Q / 18446744073709551616) (Q % 18446744073709551616) (2 * R / 18446744073709551616) (2 * R % 18446744073709551616)) (fun k => ?_) ?_
    · simp only [cadastreref01_Divide.l0]
      rw [if_pos (by omega), upR]
      simp only [Option.bind_some]
      rw [if_pos (by rw [wu64]; omega)]
      rw [← bit]
      split
      · rw [if_pos (by rw [wu64]; omega)]
      · rfl
    · refine Ev.step (f := fun k => cadastreref01_Divide.l0 k ((n : Int) - 1) (A / 18446744073709551616) (A % 18446744073709551616) (D / 18446744073709551616) (D % 18446744073709551616)
          (A / 2 ^ n / D / 18446744073709551616) (A / 2 ^ n / D % 18446744073709551616) (A / 2 ^ n % D / 18446744073709551616) (A / 2 ^ n % D % 18446744073709551616)) (fun k => ?_) ih
      simp only [cadastreref01_Divide.j1]
      rw [upQ]
      simp only [Option.bind_some]
      rw [orR, hhi, hlo, cmp_ok, hw, orQ]
      simp only [Option.bind_some]
      by_cases hge : D ≤ 2 * R + bb
      · rw [if_pos hge] at s1 s2
        have hc : (if 2 * R + bb < D then (-1 : Int) else if 2 * R + bb = D then 0 else 1) ≥ 0 := by
          rw [if_neg (by omega)]
          split <;> decide
        rw [if_pos hc, minusW_ok _ _ (by omega) (by omega) (by omega) (by omega), s1, s2]
        simp only [Option.bind_some]
        congr 1 <;> omega
      · rw [if_neg hge] at s1 s2
        have hc : ¬ (if 2 * R + bb < D then (-1 : Int) else if 2 * R + bb = D then 0 else 1) ≥ 0 := by
          rw [if_pos (by omega)]
          decide
        rw [if_neg hc, s1, s2]
        congr 1 <;> omega

theorem divide_ok (A D : Int) (hA : 0 ≤ A) (hA1 : A < 340282366920938463463374607431768211456) (hD : 0 < D) (hD1 : D ≤ 170141183460469231731687303715884105728) :
    Ev (fun k => cadastreref01_Divide.f k (A / 18446744073709551616) (A % 18446744073709551616) (D / 18446744073709551616) (D % 18446744073709551616))
      (A / D / 18446744073709551616, A / D % 18446744073709551616, A % D / 18446744073709551616, A % D % 18446744073709551616) := by
  have h := divide_l0 A D hA hA1 hD hD1 128 (by omega)
  have e : A / 2 ^ 128 = 0 := Int.ediv_eq_zero_of_lt hA (by omega)
  rw [e] at h
  simp only [Int.zero_ediv, Int.zero_emod] at h
  exact h

/-- The nearest whole number to a quotient, of two the greater one. -/
def nearI (A d : Int) : Int := A / d + (if d ≤ 2 * (A % d) then 1 else 0)

theorem near_ok (A d : Int) (hA : 0 ≤ A) (hA1 : A < 340282366920938463463374607431768211456) (hd : 0 < d) (hd1 : d < 18446744073709551616) :
    Ev (fun k => cadastreref01_Near.f k (A / 18446744073709551616) (A % 18446744073709551616) d) (nearI A d % 340282366920938463463374607431768211456 / 18446744073709551616, nearI A d % 18446744073709551616) := by
  have h := divide_ok A d hA hA1 hd (by omega)
  rw [show d / 18446744073709551616 = 0 by omega, show d % 18446744073709551616 = d by omega] at h
  obtain ⟨K, hK⟩ := h
  refine ⟨K, fun k hk => ?_⟩
  have m0 := Int.emod_nonneg A (show d ≠ 0 by omega)
  have m1 := Int.emod_lt_of_pos A hd
  have q0 : 0 ≤ A / d := Int.ediv_nonneg hA (by omega)
  have q1 : A / d ≤ A := Int.ediv_le_self _ hA
  have hc := cmp_ok (2 * (A % d)) d
  rw [show d / 18446744073709551616 = 0 by omega, show d % 18446744073709551616 = d by omega] at hc
  have hp := plusW_ok (A / d) 1 q0 (by omega) (by omega) (by omega)
  rw [show (1 : Int) / 18446744073709551616 = 0 by decide, show (1 : Int) % 18446744073709551616 = 1 by decide] at hp
  have hK := hK k hk
  dsimp only at hK ⊢
  unfold cadastreref01_Near.f nearI
  rw [hK]
  simp only [Option.bind_some]
  rw [up_ok _ m0 (by omega)]
  simp only [Option.bind_some]
  rw [show 2 * (A % d) % 340282366920938463463374607431768211456 = 2 * (A % d) by omega, hc]
  simp only [Option.bind_some]
  by_cases hge : d ≤ 2 * (A % d)
  · have hc : (if 2 * (A % d) < d then (-1 : Int) else if 2 * (A % d) = d then 0 else 1) ≥ 0 := by
      rw [if_neg (by omega)]
      split <;> decide
    rw [if_pos hc, hp, if_pos hge]
    simp only [Option.bind_some]
  · have hc : ¬ (if 2 * (A % d) < d then (-1 : Int) else if 2 * (A % d) = d then 0 else 1) ≥ 0 := by
      rw [if_pos (by omega)]
      decide
    rw [if_neg hc, if_neg hge, Int.add_zero]
    congr 2
    omega

/-- A size with a sign, if that is a number. -/
def sgnI (neg : Bool) (n : Int) : Int × Bool := if n > 9223372036854775807 then (0, false) else if neg = true then (-n, true) else (n, true)

theorem signed_ok (neg : Bool) (V : Int) (h0 : 0 ≤ V) (h1 : V < 340282366920938463463374607431768211456) : Ev (fun k => cadastreref01_Signed.f k neg (V / 18446744073709551616) (V % 18446744073709551616)) (sgnI neg V) := by
  refine ⟨1, fun k hk => ?_⟩
  obtain ⟨k, rfl⟩ : ∃ m, k = m + 1 := ⟨k - 1, by omega⟩
  dsimp only
  unfold cadastreref01_Signed.f sgnI
  simp only [cadastreref01_Signed.j0]
  by_cases hbig : V > 9223372036854775807
  · rw [if_pos hbig]
    split
    · first | rw [if_pos rfl] | rw [if_pos trivial]
    · rw [decide_eq_true (by omega), if_pos rfl]
  · rw [if_neg hbig, if_neg (by omega), decide_eq_false (by omega), if_neg (by decide)]
    cases neg
    · rw [if_neg (by decide), if_neg (by decide), w64i]
      congr 2
      omega
    · rw [if_pos rfl, if_pos rfl, w64i, w64i]
      congr 2
      omega
end Go.Proofs.Ytegcjgfhpjdjfaa.PFix
