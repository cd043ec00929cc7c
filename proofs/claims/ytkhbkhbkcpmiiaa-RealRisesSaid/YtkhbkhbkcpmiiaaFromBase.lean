/- What the printed functions of real.From and the document's From tell: a float's number of ten thousandths, rounded to the nearest whole one, halves to the even one. -/
import Derived.Test.YtkhbkhbkcpmiiaaBig2
import Derived.Test.YtkhbkhbkcpmiiaaRootWords
import Derived.Test.YtkhbkhbkcpmiiaaGrealFrom
import Derived.Test.YtkhbkhbkcpmiiaaPRealx8
namespace Go.Proofs.Ytkhbkhbkcpmiiaa.PReal
open Go.RowKit Go.Proofs.YtkhbkhbkcpmiiaaW.PrintWords Go.Proofs.YtkhbkhbkcpmiiaaW.PrintLast Go.Proofs.YtkhbkhbkcpmiiaaW.PrintMore
set_option linter.unusedVariables false
set_option linter.unusedSimpArgs false

theorem bu_one' (q : Nat) (h : q < 18446744073709551616) : bits .and .u64 (q : Int) 1 = ((q % 2 : Nat) : Int) := by
  rw [bu_one _ (by omega) (by omega)]
  omega
theorem even_ok (q rest half B R : Nat) (st : Bool) (h1 : q + 1 < 18446744073709551616)
    (hg : rest > half → B < 2 * R) (hs : rest = half → st = true → B < 2 * R) (he : rest = half → st = false → 2 * R = B) (hl : rest < half → 2 * R < B) :
    real_even.f (q : Int) (rest : Int) (half : Int) st = some ((if B < 2 * R then q + 1 else if 2 * R = B then q + q % 2 else q : Nat) : Int) := by
  unfold real_even.f
  rw [bu_one' q (by omega), wuN (by omega) (by omega)]
  by_cases c1 : rest > half
  · have := hg c1
    rw [if_pos (by omega), if_pos this]
    rfl
  · rw [if_neg (by omega)]
    by_cases c2 : rest = half
    · rw [if_pos (by omega)]
      cases st with
      | true =>
        have := hs c2 rfl
        rw [if_pos rfl, if_pos this]
        rfl
      | false =>
        have := he c2 rfl
        rw [if_neg (by decide), if_neg (show ¬ B < 2 * R by omega), if_pos this]
        by_cases c3 : q % 2 = 1
        · rw [if_pos (by omega), c3]
          rfl
        · rw [if_neg (by omega), show q % 2 = 0 by omega]
          rfl
    · have := hl (by omega)
      rw [if_neg (by omega), if_neg (by omega), if_neg (by omega)]
theorem shl_one (t : Nat) (h : t ≤ 63) : shl .u64 1 (t : Int) = ((2 ^ t : Nat) : Int) := by
  have h1 : 2 ^ t ≤ 2 ^ 63 := Nat.pow_le_pow_right (by decide) h
  have h1 : 2 ^ t ≤ 9223372036854775808 := h1
  have e : (1 : Int) * 2 ^ t = ((2 ^ t : Nat) : Int) := by rw [Int.natCast_pow, Int.one_mul]; rfl
  unfold shl
  rw [Int.toNat_natCast, Nat.min_eq_left (show t ≤ IntKind.u64.bits by show t ≤ 64; omega), e]
  generalize 2 ^ t = p at h1
  exact wuN (by omega) (by omega)
theorem shr_nat (x t : Nat) (h : t ≤ 64) : shr .u64 (x : Int) (t : Int) = ((x / 2 ^ t : Nat) : Int) := by
  unfold shr
  rw [Int.toNat_natCast, Nat.min_eq_left (show t ≤ IntKind.u64.bits by show t ≤ 64; omega), Int.natCast_ediv, Int.natCast_pow]
  rfl
theorem shl_nat (x t : Nat) (h : t ≤ 64) (hx : x * 2 ^ t < 18446744073709551616) : shl .u64 (x : Int) (t : Int) = ((x * 2 ^ t : Nat) : Int) := by
  unfold shl
  have e : (x : Int) * 2 ^ t = ((x * 2 ^ t : Nat) : Int) := by rw [Int.natCast_mul, Int.natCast_pow]; rfl
  rw [Int.toNat_natCast, Nat.min_eq_left (show t ≤ IntKind.u64.bits by show t ≤ 64; omega), e]
  generalize x * 2 ^ t = p at hx
  exact wuN (by omega) (by omega)
theorem mask_nat (x t : Nat) (h : t ≤ 63) (hx : x < 18446744073709551616) : bits .and .u64 (x : Int) (IntKind.u64.wrap (shl .u64 1 (t : Int) - 1)) = ((x % 2 ^ t : Nat) : Int) := by
  rw [shl_one t h]
  have h1 : 2 ^ t ≤ 2 ^ 63 := Nat.pow_le_pow_right (by decide) h
  have h2 := Nat.two_pow_pos t
  have hm := bits_mask .u64 64 (by decide) u64_ok t (by omega) (x : Int) (by omega) (by omega)
  have e : (2 : Int) ^ t = ((2 ^ t : Nat) : Int) := by rw [Int.natCast_pow]; rfl
  rw [e] at hm
  rw [wuN (by omega) (by omega), hm, Int.natCast_emod]
theorem or_ne (a b : Nat) (ha : a < 18446744073709551616) (hb : b < 18446744073709551616) (h : a ≠ 0) : bits .or .u64 (a : Int) (b : Int) ≠ 0 := by
  rw [(bits_nat .u64 64 (by decide) u64_ok a b (by omega) (by omega)).2]
  have := Nat.left_le_or (n := a) (m := b)
  omega

/-- The number told for a size of ten thousandths. -/
def fromS (neg : Bool) (T : Nat) : Int × Bool := if 9223372036854775808 ≤ T then (0, false) else (if neg then -(T : Int) else (T : Int), true)
theorem res_ok (neg : Bool) (T : Nat) : real_From.res neg ((T : Int), true) = fromS neg T := by
  unfold real_From.res fromS
  simp only [Bool.true_eq_false, ↓reduceIte]
  by_cases h : 9223372036854775808 ≤ T
  · rw [if_pos (by omega), if_pos h]
  · rw [if_neg (by omega), if_neg h]
    have e : wrap64 (T : Int) = T := bwin (by omega) (by omega)
    rw [e]
    cases neg
    · simp
    · simp
      exact bwin (by omega) (by omega)
theorem res_no (neg : Bool) (S : Int) (T : Nat) (h : 9223372036854775808 ≤ T) : real_From.res neg (S, false) = fromS neg T := by
  unfold real_From.res fromS
  simp only [↓reduceIte]
  rw [if_pos h]

theorem rhe_small (V r : Nat) (hV : V < 147573952589676412928) (hr : 128 ≤ r) : rhe V (2 ^ r) = 0 := by
  have h1 : 2 ^ 128 ≤ 2 ^ r := Nat.pow_le_pow_right (by decide) hr
  unfold rhe
  generalize 2 ^ r = p at h1
  rw [Nat.mod_eq_of_lt (by omega), Nat.div_eq_of_lt (by omega), if_neg (by omega), if_neg (by omega)]

theorem big_right (V r : Nat) (hV : V < 147573952589676412928) (hr : 64 < r) (hr1 : r ≤ 127) :
    real_even.f (shr .u64 ((V / 18446744073709551616 : Nat) : Int) ((r - 64 : Nat) : Int)) (bits .and .u64 ((V / 18446744073709551616 : Nat) : Int) (IntKind.u64.wrap (shl .u64 1 ((r - 64 : Nat) : Int) - 1))) (shl .u64 1 ((r - 65 : Nat) : Int)) (((V % 18446744073709551616 : Nat) : Int) != 0) = some ((rhe V (2 ^ r) : Nat) : Int) := by
  rw [shr_nat _ _ (by omega), mask_nat _ _ (by omega) (by omega), shl_one _ (by omega)]
  obtain ⟨j, rfl⟩ : ∃ j, r = j + 1 + 64 := ⟨r - 65, by omega⟩
  rw [show j + 1 + 64 - 64 = j + 1 by omega, show j + 1 + 64 - 65 = j by omega]
  have e1 : 2 ^ (j + 1 + 64) = 18446744073709551616 * 2 ^ (j + 1) := by rw [Nat.pow_add, Nat.mul_comm]
  have e2 : 2 ^ (j + 1) = 2 * 2 ^ j := by rw [Nat.pow_succ, Nat.mul_comm]
  have hp := Nat.two_pow_pos j
  unfold rhe
  rw [e1, e2]
  clear e1 e2
  generalize 2 ^ j = P at *
  have hdiv : V / (18446744073709551616 * (2 * P)) = V / 18446744073709551616 / (2 * P) := (Nat.div_div_eq_div_mul _ _ _).symm
  have hmod : V % (18446744073709551616 * (2 * P)) = V % 18446744073709551616 + 18446744073709551616 * (V / 18446744073709551616 % (2 * P)) := Nat.mod_mul
  rw [hdiv, hmod]
  clear hdiv hmod
  have hq : V / 18446744073709551616 / (2 * P) ≤ V / 18446744073709551616 := Nat.div_le_self _ _
  generalize V / 18446744073709551616 / (2 * P) = q at *
  have hm : V / 18446744073709551616 % (2 * P) < 2 * P := Nat.mod_lt _ (by omega)
  generalize V / 18446744073709551616 % (2 * P) = h at *
  have hlo : V % 18446744073709551616 < 18446744073709551616 := Nat.mod_lt _ (by decide)
  have hq8 : V / 18446744073709551616 < 8 := by omega
  generalize V % 18446744073709551616 = lo at *
  refine even_ok q h P (18446744073709551616 * (2 * P)) (lo + 18446744073709551616 * h) _ (by omega) (by omega) ?_ ?_ (by omega)
  · intro c s
    have : lo ≠ 0 := by
      rintro rfl
      simp at s
    omega
  · intro c s
    have : lo = 0 := by
      simp at s
      exact s
    omega

theorem mid_right (V : Nat) (hV : V < 147573952589676412928) :
    real_even.f ((V / 18446744073709551616 : Nat) : Int) ((V % 18446744073709551616 : Nat) : Int) 9223372036854775808 false = some ((rhe V (2 ^ 64) : Nat) : Int) := by
  unfold rhe
  rw [show 2 ^ 64 = 18446744073709551616 by decide]
  exact even_ok (V / 18446744073709551616) (V % 18446744073709551616) 9223372036854775808 18446744073709551616 (V % 18446744073709551616) false (by omega) (by omega) (by simp) (by omega) (by omega)

theorem low_right (V r : Nat) (hV : V < 147573952589676412928) (h16 : V % 16 = 0) (hr : 1 ≤ r) (hr1 : r < 64) (hh : V / 18446744073709551616 / 2 ^ r = 0) :
    real_even.f (bits .or .u64 (shl .u64 ((V / 18446744073709551616 : Nat) : Int) ((64 - r : Nat) : Int)) (shr .u64 ((V % 18446744073709551616 : Nat) : Int) (r : Int))) (bits .and .u64 ((V % 18446744073709551616 : Nat) : Int) (IntKind.u64.wrap (shl .u64 1 (r : Int) - 1))) (shl .u64 1 ((r - 1 : Nat) : Int)) false = some ((rhe V (2 ^ r) : Nat) : Int) := by
  have hlo : V % 18446744073709551616 < 18446744073709551616 := Nat.mod_lt _ (by decide)
  rw [mask_nat _ _ (by omega) hlo, shl_one _ (by omega), shr_nat _ _ (by omega)]
  obtain ⟨j, rfl⟩ : ∃ j, r = j + 1 := ⟨r - 1, by omega⟩
  rw [show j + 1 - 1 = j by omega]
  have e2 : 2 ^ (j + 1) = 2 * 2 ^ j := by rw [Nat.pow_succ, Nat.mul_comm]
  have hp := Nat.two_pow_pos j
  have hPQ : 2 ^ (64 - (j + 1)) * 2 ^ (j + 1) = 18446744073709551616 := by rw [← Nat.pow_add, show 64 - (j + 1) + (j + 1) = 64 by omega]
  have hQ := Nat.two_pow_pos (64 - (j + 1))
  have hhi : V / 18446744073709551616 < 2 ^ (j + 1) := by
    by_cases h : V / 18446744073709551616 < 2 ^ (j + 1)
    · exact h
    · have := Nat.div_pos (show 2 ^ (j + 1) ≤ V / 18446744073709551616 by omega) (Nat.two_pow_pos _)
      omega
  have hx : V / 18446744073709551616 * 2 ^ (64 - (j + 1)) < 18446744073709551616 := by
    have := Nat.mul_lt_mul_of_pos_right hhi hQ
    rw [Nat.mul_comm (2 ^ (j + 1)), hPQ] at this
    exact this
  rw [shl_nat _ _ (by omega) hx]
  have hy : V % 18446744073709551616 / 2 ^ (j + 1) < 2 ^ (64 - (j + 1)) := by
    rw [Nat.div_lt_iff_lt_mul (Nat.two_pow_pos _), hPQ]
    exact hlo
  have hor := bits_join .u64 64 (by decide) u64_ok (64 - (j + 1)) ((V / 18446744073709551616 * 2 ^ (64 - (j + 1)) : Nat) : Int) ((V % 18446744073709551616 / 2 ^ (j + 1) : Nat) : Int) (by omega)
    (by
      have e : (2 : Int) ^ (64 - (j + 1)) = ((2 ^ (64 - (j + 1)) : Nat) : Int) := by rw [Int.natCast_pow]; rfl
      rw [e, ← Int.natCast_emod, Nat.mul_mod_left]; rfl) (by omega) (Int.natCast_nonneg _)
    (by
      have e : (2 : Int) ^ (64 - (j + 1)) = ((2 ^ (64 - (j + 1)) : Nat) : Int) := by rw [Int.natCast_pow]; rfl
      rw [e]; exact_mod_cast hy) (by have := Nat.div_le_self (V % 18446744073709551616) (2 ^ (j + 1)); omega)
  rw [hor, ← Int.natCast_add]
  have hsplit : V = V / 18446744073709551616 * 18446744073709551616 + V % 18446744073709551616 := by omega
  have hq : V / 2 ^ (j + 1) = V / 18446744073709551616 * 2 ^ (64 - (j + 1)) + V % 18446744073709551616 / 2 ^ (j + 1) := by
    have h5 := Nat.mul_add_div (Nat.two_pow_pos (j + 1)) (V / 18446744073709551616 * 2 ^ (64 - (j + 1))) (V % 18446744073709551616)
    have e5 : 2 ^ (j + 1) * (V / 18446744073709551616 * 2 ^ (64 - (j + 1))) = V / 18446744073709551616 * 18446744073709551616 := by
      rw [Nat.mul_left_comm, Nat.mul_comm (2 ^ (j + 1)), hPQ]
    rw [← h5, e5, ← hsplit]
  have hm : V % 2 ^ (j + 1) = V % 18446744073709551616 % 2 ^ (j + 1) := by
    rw [← hPQ, Nat.mul_comm, Nat.mod_mul_right_mod]
  rw [← hq, ← hm]
  have hlt : V / 2 ^ (j + 1) < 18446744073709551616 := by
    rw [Nat.div_lt_iff_lt_mul (Nat.two_pow_pos _)]
    omega
  have hml : V % 2 ^ (j + 1) < 2 ^ (j + 1) := Nat.mod_lt _ (Nat.two_pow_pos _)
  have hdm := Nat.div_add_mod V (2 ^ (j + 1))
  unfold rhe
  -- a quotient of all ones does not round up
  by_cases hmax : V / 2 ^ (j + 1) + 1 < 18446744073709551616
  · rw [e2] at *
    generalize 2 ^ j = P at *
    exact even_ok _ _ P (2 * P) (V % (2 * P)) false hmax (by omega) (by simp) (by omega) (by omega)
  · exfalso
    have hj : j < 3 := by
      by_cases h : j < 3
      · exact h
      · have h3 : 2 ^ 4 ≤ 2 ^ (j + 1) := Nat.pow_le_pow_right (by decide) (by omega)
        have h4 : 16 * (V / 2 ^ (j + 1)) ≤ 2 ^ (j + 1) * (V / 2 ^ (j + 1)) := Nat.mul_le_mul_right _ h3
        omega
    have : j = 0 ∨ j = 1 ∨ j = 2 := by omega
    rcases this with rfl | rfl | rfl
    · rw [show 2 ^ (0 + 1) = 2 by decide] at *
      omega
    · rw [show 2 ^ (1 + 1) = 4 by decide] at *
      omega
    · rw [show 2 ^ (2 + 1) = 8 by decide] at *
      omega

/-- A shift to the right, r places: the nearest whole number, where it fits; else 'no', and it is beyond 63 bits. -/
theorem right_ok (V r : Nat) (neg : Bool) (hV : V < 147573952589676412928) (h16 : V % 16 = 0) (hr : 1 ≤ r) (hr1 : r ≤ 1100) :
    ∃ s, real_shifted.f ((V / 18446744073709551616 : Nat) : Int) ((V % 18446744073709551616 : Nat) : Int) (-(r : Int)) = some s ∧ real_From.res neg s = fromS neg (rhe V (2 ^ r)) := by
  have hn : wrap64 (-(-(r : Int))) = (r : Int) := by rw [Int.neg_neg]; exact bwin (by omega) (by omega)
  unfold real_shifted.f
  rw [if_neg (by omega), if_neg (by omega), hn]
  by_cases c1 : r ≥ 128
  · rw [if_pos (by omega)]
    refine ⟨_, rfl, ?_⟩
    rw [rhe_small V r hV c1]
    exact res_ok neg 0
  · rw [if_neg (by omega)]
    by_cases c2 : r > 64
    · have b := big_right V r hV c2 (by omega)
      rw [if_pos (by omega), show wrap64 ((r : Int) - 64) = ((r - 64 : Nat) : Int) by rw [bwin (by omega) (by omega)]; omega, show wrap64 ((r : Int) - 65) = ((r - 65 : Nat) : Int) by rw [bwin (by omega) (by omega)]; omega, if_pos (by omega), if_pos (by omega), b]
      exact ⟨_, rfl, res_ok neg _⟩
    · rw [if_neg (by omega)]
      by_cases c3 : r = 64
      · subst c3
        rw [if_pos (by omega), mid_right V hV]
        exact ⟨_, rfl, res_ok neg _⟩
      · rw [if_neg (by omega), if_pos (show 0 ≤ (r : Int) by omega), shr_nat _ _ (by omega)]
        by_cases c4 : V / 18446744073709551616 / 2 ^ r = 0
        · have b := low_right V r hV h16 hr (by omega) c4
          rw [if_pos (show ((V / 18446744073709551616 / 2 ^ r : Nat) : Int) = 0 by rw [c4]; rfl), show wrap64 (64 - (r : Int)) = ((64 - r : Nat) : Int) by rw [bwin (by omega) (by omega)]; omega, show wrap64 ((r : Int) - 1) = ((r - 1 : Nat) : Int) by rw [bwin (by omega) (by omega)]; omega, if_pos (by omega), if_pos (by omega), b]
          exact ⟨_, rfl, res_ok neg _⟩
        · rw [if_neg (fun h => c4 (by exact_mod_cast h))]
          refine ⟨_, rfl, res_no neg 0 _ ?_⟩
          have h1 : 1 ≤ V / 18446744073709551616 / 2 ^ r := Nat.one_le_iff_ne_zero.mpr c4
          rw [Nat.div_div_eq_div_mul, Nat.mul_comm, ← Nat.div_div_eq_div_mul] at h1
          unfold rhe
          generalize V / 2 ^ r = q at h1
          split
          · omega
          · split <;> omega

/-- A shift to the left of a number of 65 bits and more: beyond 63 bits. -/
theorem left_ok (V s : Nat) (neg : Bool) (hV : V < 147573952589676412928) (hV0 : 18446744073709551616 ≤ V) (hs : s ≤ 1000) :
    ∃ q, real_shifted.f ((V / 18446744073709551616 : Nat) : Int) ((V % 18446744073709551616 : Nat) : Int) (s : Int) = some q ∧ real_From.res neg q = fromS neg (V * 2 ^ s) := by
  have hT : 9223372036854775808 ≤ V * 2 ^ s := by
    have := Nat.mul_le_mul_left V (Nat.two_pow_pos s)
    omega
  unfold real_shifted.f
  have h1 : V / 18446744073709551616 ≠ 0 := by omega
  by_cases c : s > 63
  · rw [if_pos (by omega)]
    have e : (bits .or .u64 ((V / 18446744073709551616 : Nat) : Int) ((V % 18446744073709551616 : Nat) : Int) == 0) = false := beq_eq_false_iff_ne.mpr (or_ne _ _ (by omega) (by omega) h1)
    rw [e]
    exact ⟨_, rfl, res_no neg 0 _ hT⟩
  · have e : (((V / 18446744073709551616 : Nat) : Int) == 0) = false := beq_eq_false_iff_ne.mpr (by omega)
    rw [if_neg (by omega), if_pos (by omega), if_pos (by omega), if_pos (by rw [bwin (by omega) (by omega)]; omega), e]
    split
    · exact ⟨_, rfl, res_no neg _ _ hT⟩
    · exact ⟨_, rfl, res_no neg _ _ hT⟩
end Go.Proofs.Ytkhbkhbkcpmiiaa.PReal
