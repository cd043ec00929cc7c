/- The mean of a float, alone or twice, is it, if that is not too great. No condition. -/
import Derived.Test.YtkhbkhbkcpmiiaaMeanRef
import Derived.Test.YtkhbkhbkcpmiiaaLivesOk
import Derived.Test.YtkhbkhbkcpmiiaaPRealx8
namespace Go.Proofs.Ytkhbkhbkcpmiiaa.Pure
open Go.RowKit Go.Proofs.Ytkhbkhbkcpmiiaa.PReal Go.Proofs.YtkhbkhbkcpmiiaaW.PrintWords Go.Proofs.YtkhbkhbkcpmiiaaW.PrintLast Go.Proofs.YtkhbkhbkcpmiiaaW.PrintMore
set_option linter.unusedVariables false
set_option linter.unusedSimpArgs false

theorem part_up (E m : Nat) (h : 4503599627370496 ≤ m) (h' : m < 9007199254740992) :
    (E * 4503599627370496 + m) / 4503599627370496 = E + 1 ∧ (E * 4503599627370496 + m) % 4503599627370496 = m - 4503599627370496 ∧ ¬ E * 4503599627370496 + m < 4503599627370496 := by
  obtain ⟨g, rfl⟩ := Nat.exists_eq_add_of_le h
  have e : E * 4503599627370496 + (4503599627370496 + g) = g + 4503599627370496 * (E + 1) := by rw [Nat.mul_add, Nat.mul_one, Nat.mul_comm E]; omega
  rw [e]
  refine ⟨?_, ?_, ?_⟩
  · rw [Nat.add_mul_div_left _ _ (by decide), Nat.div_eq_of_lt (by omega), Nat.zero_add]
  · rw [Nat.add_mul_mod_self_left, Nat.mod_eq_of_lt (by omega), Nat.add_sub_cancel_left]
  · rw [Nat.mul_add]
    omega
/-- The word of a sign and a rung. -/
theorem word_of (x : Nat) (hx : x < 18446744073709551616) : (if sg x then 9223372036854775808 + x % 9223372036854775808 else x % 9223372036854775808) = x := by
  unfold sg
  by_cases c : x / 9223372036854775808 % 2 = 1
  · rw [if_pos (beq_iff_eq.mpr c)]
    omega
  · rw [if_neg (by simpa using c)]
    omega
theorem rung_parts (x : Nat) (fx : x % 9223372036854775808 < 9218868437227405312) : (pE x - 1) * 4503599627370496 + pM x = x % 9223372036854775808 ∧ pE x ≤ 2046 ∧ (pE x = 1 ∨ 4503599627370496 ≤ pM x) := by
  unfold pE pM
  split <;> omega
theorem rung_self (x t : Nat) (fx : x % 9223372036854775808 < 9218868437227405312) (ht : t = 1075) : IsRung (pM x * 2 ^ pE x) (2 ^ t) (x % 9223372036854775808) := by
  obtain ⟨h1, h2, h3⟩ := rung_parts x fx
  rw [← h1]
  refine rung_exact (pE_pos x) h2 (pM_lt x) h3 ?_
  rw [ht]
  exact Nat.mul_right_comm _ _ _
theorem pow_core6 (m E t : Nat) (hE : 1 ≤ E) : m * 2 ^ E * 2 ^ t = m * 2 ^ (E - 1) * 2 ^ t * 2 ^ 1 := by
  obtain ⟨e, rfl⟩ : ∃ e, E = e + 1 := ⟨E - 1, by omega⟩
  rw [Nat.add_sub_cancel, Nat.pow_succ, Nat.pow_one]
  ac_rfl
theorem zero_add_fin (x : Nat) (hx : x < 18446744073709551616) (fx : x % 9223372036854775808 < 9218868437227405312) (hz : x ≠ 9223372036854775808) : Flt.D.add 0 x = some x := by
  rw [add_fin (by decide) fx]
  refine congrArg some ?_
  have e0 : pE 0 = 1 := by decide
  have m0 : pM 0 = 0 := by decide
  have s0 : sg 0 = false := by decide
  have hE := pE_pos x
  unfold addW
  rw [e0, m0, s0, Nat.min_eq_left hE, Nat.zero_mul]
  by_cases z : pM x = 0
  · have hz2 := (pM_zero fx).mp z
    have : x = 0 := by omega
    subst this
    decide +kernel
  · have hp := Nat.two_pow_pos (pE x - 1)
    have hB : pM x * 2 ^ (pE x - 1) ≠ 0 := Nat.mul_ne_zero z (by omega)
    have es : addS false (sg x) 0 (pM x * 2 ^ (pE x - 1)) = sg x := by
      unfold addS
      cases sg x
      · rfl
      · rw [if_neg (by decide), if_neg (by omega)]
    have em : addM false (sg x) 0 (pM x * 2 ^ (pE x - 1)) = pM x * 2 ^ (pE x - 1) := by
      unfold addM
      cases sg x
      · rw [if_pos rfl, Nat.zero_add]
      · rw [if_neg (by decide), if_neg (by omega), Nat.sub_zero]
    rw [es, em]
    obtain ⟨t, ht⟩ : ∃ t : Nat, t = 1075 := ⟨_, rfl⟩
    have hn := nearest_rung (pM x * 2 ^ (pE x - 1)) (((1 : Nat) : Int) - 1075) (pM x * 2 ^ pE x) (2 ^ t) 1 t hB (by omega) (pow_core6 _ _ _ hE)
    have hu := hn.unique (Nat.two_pow_pos _) (rung_self x t fx ht)
    unfold outW
    rw [if_neg hB, hu]
    exact word_of x hx
theorem div_self (x n y : Nat) (hx : x < 18446744073709551616) (fx : x % 9223372036854775808 < 9218868437227405312) (fy : y % 9223372036854775808 < 9218868437227405312) (hn : 0 < n) (hn1 : n ≤ 60) (hs : sg y = sg x) (hz : pM y ≠ 0)
    (h : pM y * 2 ^ pE y = n * (pM x * 2 ^ pE x)) : Flt.D.div y (floatOfInt .f64 (n : Int)) = some x := by
  obtain ⟨t, ht⟩ : ∃ t : Nat, t = 1075 := ⟨_, rfl⟩
  have hc : pM x * 2 ^ pE x * 2 ^ t * n = pM y * 2 ^ t * 2 ^ pE y := by
    rw [Nat.mul_right_comm (pM y), h]
    generalize 2 ^ t = T
    ac_rfl
  obtain ⟨r, hr, hd⟩ := div_fin (a := pM x * 2 ^ pE x) (d := 2 ^ t) fy hn hn1 hz (by rw [← ht]; exact hc)
  have hu := hr.unique (Nat.two_pow_pos _) (rung_self x t fx ht)
  rw [hd, hs, hu]
  exact congrArg some (word_of x hx)
theorem dbl (x : Nat) (hx : x < 18446744073709551616) (fx : x % 9223372036854775808 < 9218868437227405312) (hE : pE x ≤ 2045) (hz : pM x ≠ 0) :
    ∃ y, Flt.D.add x x = some y ∧ y % 9223372036854775808 < 9218868437227405312 ∧ sg y = sg x ∧ pM y ≠ 0 ∧ pM y * 2 ^ pE y = 2 * (pM x * 2 ^ pE x) := by
  obtain ⟨h1, h2, h3⟩ := rung_parts x fx
  have hM := pM_lt x
  have h0 := pE_pos x
  obtain ⟨t, ht⟩ : ∃ t : Nat, t = 1075 := ⟨_, rfl⟩
  have em : addM (sg x) (sg x) (pM x * 2 ^ (pE x - min (pE x) (pE x))) (pM x * 2 ^ (pE x - min (pE x) (pE x))) = 2 * pM x := by
    unfold addM
    rw [if_pos rfl, Nat.min_self, Nat.sub_self, Nat.pow_zero, Nat.mul_one]
    omega
  have es : addS (sg x) (sg x) (pM x * 2 ^ (pE x - min (pE x) (pE x))) (pM x * 2 ^ (pE x - min (pE x) (pE x))) = sg x := by
    unfold addS
    rw [if_pos rfl]
  have hw : ∀ R, R < 9218868437227405312 → IsRung (2 * (pM x * 2 ^ pE x)) (2 ^ t) R → Flt.D.add x x = some (if sg x then 9223372036854775808 + R else R) := by
    intro R hR hr
    rw [add_fin fx fx]
    unfold addW
    rw [es, em, Nat.min_self]
    unfold outW
    rw [if_neg (show 2 * pM x ≠ 0 by omega)]
    have hn := nearest_rung (2 * pM x) ((pE x : Int) - 1075) (2 * (pM x * 2 ^ pE x)) (2 ^ t) (pE x) t (by omega) (by omega) (by generalize 2 ^ t = T; ac_rfl)
    rw [hn.unique (Nat.two_pow_pos _) hr]
  have parts : ∀ R, R < 9218868437227405312 → ∀ y, y = (if sg x then 9223372036854775808 + R else R) → y % 9223372036854775808 = R ∧ sg y = sg x := by
    intro R hR y hy
    subst hy
    cases hs : sg x
    · simp only [Bool.false_eq_true, ↓reduceIte]
      unfold sg
      exact ⟨by omega, by rw [beq_eq_false_iff_ne]; omega⟩
    · simp only [↓reduceIte]
      unfold sg
      exact ⟨by omega, by rw [beq_iff_eq]; omega⟩
  by_cases c : pM x < 4503599627370496
  · have e1 : pE x = 1 := by omega
    have hr : IsRung (2 * (pM x * 2 ^ pE x)) (2 ^ t) (2 * pM x) := by
      have := rung_exact (a := 2 * (pM x * 2 ^ pE x)) (d := 2 ^ t) (e := 1) (f := 2 * pM x) (by decide) (by decide) (by omega) (.inl rfl) (by rw [e1, ← ht]; generalize 2 ^ t = T; ac_rfl)
      rw [Nat.sub_self, Nat.zero_mul, Nat.zero_add] at this
      exact this
    refine ⟨_, hw (2 * pM x) (by omega) hr, ?_⟩
    obtain ⟨p1, p2⟩ := parts (2 * pM x) (by omega) _ rfl
    generalize (if sg x then 9223372036854775808 + 2 * pM x else 2 * pM x) = y at *
    have q1 : pE y = 1 ∧ pM y = 2 * pM x := by
      have a1 : pE y = 1 := by
        unfold pE
        rw [p1]
        split
        · rfl
        · omega
      have a2 : pM y = 2 * pM x := by
        generalize pM x = m at *
        unfold pM
        rw [p1]
        split <;> omega
      exact ⟨a1, a2⟩
    refine ⟨by omega, p2, by omega, ?_⟩
    rw [q1.1, q1.2, e1]
    exact Nat.mul_assoc _ _ _
  · have hr : IsRung (2 * (pM x * 2 ^ pE x)) (2 ^ t) (pE x * 4503599627370496 + pM x) := by
      have := rung_exact (a := 2 * (pM x * 2 ^ pE x)) (d := 2 ^ t) (e := pE x + 1) (f := pM x) (by omega) (by omega) (by omega) (.inr (by omega)) (by rw [← ht, Nat.pow_succ]; generalize 2 ^ t = T; ac_rfl)
      rw [Nat.add_sub_cancel] at this
      exact this
    have hlt : pE x * 4503599627370496 + pM x < 9218868437227405312 := by omega
    refine ⟨_, hw _ hlt hr, ?_⟩
    obtain ⟨p1, p2⟩ := parts (pE x * 4503599627370496 + pM x) hlt _ rfl
    generalize (if sg x then 9223372036854775808 + (pE x * 4503599627370496 + pM x) else pE x * 4503599627370496 + pM x) = y at *
    have q1 : pE y = pE x + 1 ∧ pM y = pM x := by
      generalize pM x = m at *
      generalize pE x = E at *
      obtain ⟨u1, u2, u3⟩ := part_up E m (by omega) hM
      have a1 : pE y = E + 1 := by
        unfold pE
        rw [p1, if_neg u3, u1]
      have a2 : pM y = m := by
        unfold pM
        rw [p1, if_neg u3, u2]
        omega
      exact ⟨a1, a2⟩
    refine ⟨by omega, p2, by omega, ?_⟩
    rw [q1.1, q1.2, Nat.pow_succ, Nat.mul_comm (2 ^ pE x), Nat.mul_left_comm]
theorem last_of (s : Option Nat) (x n r : Nat) (hs : s = some x) (h : Flt.D.div x (floatOfInt .f64 (n : Int)) = some r) : real_Mean.last s (n : Int) = r := by
  subst hs
  unfold real_Mean.last
  rw [Option.bind_some, h]
/-- The mean of a float, alone and twice. -/
theorem same_ok (b : Nat) (hb : b < 18446744073709551616) (nn : b % 9223372036854775808 ≤ 9218868437227405312) (hE : b % 9223372036854775808 < 9218868437227405312 → b / 4503599627370496 % 2048 ≤ 2040) (hz : b ≠ 9223372036854775808) :
    real_Mean.last (real_Mean.sum [(b : Int)]) ((1 : Nat) : Int) = b ∧ real_Mean.last (real_Mean.sum [(b : Int), (b : Int)]) ((2 : Nat) : Int) = b := by
  by_cases ib : b % 9223372036854775808 = 9218868437227405312
  · have a1 : Flt.D.add 0 b = some b := add_fin_inf 0 b hb (by decide) ib
    have a2 : Flt.D.add b b = some b := by rw [add_inf_inf b b hb hb ib ib, if_pos rfl]
    constructor
    · exact last_of _ b 1 b a1 (div_inf b 1 hb ib (by decide) (by decide))
    · refine last_of _ b 2 b ?_ (div_inf b 2 hb ib (by decide) (by decide))
      show (Flt.D.add 0 b).bind (fun x => Flt.D.add x b) = some b
      rw [a1]
      exact a2
  · have fb : b % 9223372036854775808 < 9218868437227405312 := by omega
    have a1 := zero_add_fin b hb fb hz
    have hE := hE fb
    by_cases z : b % 9223372036854775808 = 0
    · have : b = 0 := by omega
      subst this
      exact ⟨by decide +kernel, by decide +kernel⟩
    · have hm : pM b ≠ 0 := fun h => z ((pM_zero fb).mp h)
      have hE2 : pE b ≤ 2045 := by
        unfold pE
        split
        · decide
        · omega
      constructor
      · exact last_of _ b 1 b a1 (div_self b 1 b hb fb fb (by decide) (by decide) rfl hm (Nat.one_mul _).symm)
      · obtain ⟨y, y1, y2, y3, y4, y5⟩ := dbl b hb fb hE2 hm
        refine last_of _ y 2 b ?_ (div_self b 2 y hb fb y2 (by decide) (by decide) y3 y4 y5)
        show (Flt.D.add 0 b).bind (fun x => Flt.D.add x b) = some y
        rw [a1]
        exact y1
theorem same_nan (b : Nat) (nn : 9218868437227405312 < b % 9223372036854775808) :
    real_Mean.last (real_Mean.sum [(b : Int)]) ((1 : Nat) : Int) = 9221120237041090560 ∧ real_Mean.last (real_Mean.sum [(b : Int), (b : Int)]) ((2 : Nat) : Int) = 9221120237041090560 := by
  have a1 : Flt.D.add 0 b = none := add_nan_right 0 b nn
  constructor
  · show (match (Flt.D.add 0 b).bind (fun x => Flt.D.div x (floatOfInt .f64 ((1 : Nat) : Int))) with | some r => r | none => 9221120237041090560) = _
    rw [a1]
    rfl
  · show (match ((Flt.D.add 0 b).bind (fun x => Flt.D.add x b)).bind (fun x => Flt.D.div x (floatOfInt .f64 ((2 : Nat) : Int))) with | some r => r | none => 9221120237041090560) = _
    rw [a1]
    rfl
theorem same_j1 (x0 m : Int) (z : Bool) (h : z = false → m = x0) : Ev (fun k => cadastrelaw02_RealSame.j1 k x0 m z) true := by
  refine Ev.step (f := fun k => some _) (fun k => ?_) (Ev.now _)
  rw [cadastrelaw02_RealSame.j1, lives_ok]
  cases z
  · rw [if_neg (by decide), if_pos (h rfl)]
    rfl
  · rw [if_pos rfl]
    rfl
theorem same_end (b : Nat) (a1 m : Int) (l : List Int) (c : Int) (hc : ¬ c < wrap64 (1 + wrap64 (Int.tmod a1 2))) (hb : b < 18446744073709551616) (hm : real_Mean.f l = some m)
    (h1 : 9218868437227405312 < b % 9223372036854775808 → m = 9221120237041090560)
    (h2 : b % 9223372036854775808 ≤ 9218868437227405312 → (b % 9223372036854775808 < 9218868437227405312 → b / 4503599627370496 % 2048 ≤ 2040) → b ≠ 9223372036854775808 → m = b) :
    Ev (fun k => cadastrelaw02_RealSame.l0 k (b : Int) a1 l c) true := by
  have t1 : Int.tmod ((b : Int) / 4503599627370496) 2048 = ((b / 4503599627370496 % 2048 : Nat) : Int) := by rw [Int.tmod_eq_emod_of_nonneg (by omega)]; omega
  by_cases nn : 9218868437227405312 < b % 9223372036854775808
  · refine Ev.step (f := fun k => some _) (fun k => ?_) (Ev.now _)
    rw [cadastrelaw02_RealSame.l0, if_neg hc, hm, kind_ok b hb, if_neg (show ¬ b % 9223372036854775808 < 9218868437227405312 by omega), if_neg (show ¬ b % 9223372036854775808 = 9218868437227405312 by omega), Option.bind_some, Option.bind_some, if_pos rfl, h1 nn, lives_ok]
    rfl
  · by_cases ib : b % 9223372036854775808 = 9218868437227405312
    · refine Ev.step (fun k => ?_) (same_j1 (b : Int) m ((b : Int) == 9223372036854775808) (fun h => h2 (by omega) (by omega) (by rw [beq_eq_false_iff_ne] at h; omega)))
      rw [cadastrelaw02_RealSame.l0, if_neg hc, hm, kind_ok b hb, if_neg (show ¬ b % 9223372036854775808 < 9218868437227405312 by omega), if_pos ib]
      simp only [Option.bind_some]
      rw [if_neg (by decide), if_neg (by decide)]
    · have fb : b % 9223372036854775808 < 9218868437227405312 := by omega
      by_cases g : b / 4503599627370496 % 2048 > 2040
      · refine Ev.step (fun k => ?_) (same_j1 (b : Int) m true (fun h => by cases h))
        rw [cadastrelaw02_RealSame.l0, if_neg hc, hm, kind_ok b hb, if_pos fb, t1]
        simp only [Option.bind_some]
        rw [if_neg (by decide), if_pos trivial, if_pos (by omega)]
      · refine Ev.step (fun k => ?_) (same_j1 (b : Int) m ((b : Int) == 9223372036854775808) (fun h => h2 (by omega) (by omega) (by rw [beq_eq_false_iff_ne] at h; omega)))
        rw [cadastrelaw02_RealSame.l0, if_neg hc, hm, kind_ok b hb, if_pos fb, t1]
        simp only [Option.bind_some]
        rw [if_neg (by decide), if_pos trivial, if_neg (by omega)]
theorem same_step (a0 a1 : Int) (l : List Int) (c : Nat) (hc : (c : Int) < wrap64 (1 + wrap64 (Int.tmod a1 2))) (hl : l.length < 10) (hc1 : c < 10) (h : Ev (fun k => cadastrelaw02_RealSame.l0 k a0 a1 (l ++ [a0]) ((c + 1 : Nat) : Int)) true) :
    Ev (fun k => cadastrelaw02_RealSame.l0 k a0 a1 l (c : Int)) true := by
  refine Ev.step (fun k => ?_) h
  rw [cadastrelaw02_RealSame.l0, if_pos hc, if_pos (by omega), show wrap64 ((c : Int) + 1) = ((c + 1 : Nat) : Int) by rw [bwin (by omega) (by omega)]; omega]
theorem RealSame : cadastrelaw02_RealSame.Pure := by
  intro a0 a1 w0 w1
  have ha : 0 ≤ a0 ∧ a0 ≤ 18446744073709551615 := by
    simp [Lit.wf, IntKind.min, IntKind.max, IntKind.signed, IntKind.bits] at w0
    omega
  have hb : 0 ≤ a1 ∧ a1 ≤ 255 := by
    simp [Lit.wf, IntKind.min, IntKind.max, IntKind.signed, IntKind.bits] at w1
    omega
  obtain ⟨b, rfl⟩ := Int.eq_ofNat_of_zero_le ha.1
  have hw : wrap64 (1 + wrap64 (Int.tmod a1 2)) = 1 + a1 % 2 := by rw [Int.tmod_eq_emod_of_nonneg hb.1, bwin (n := a1 % 2) (by omega) (by omega), bwin (by omega) (by omega)]
  have f1 : real_Mean.f [(b : Int)] = some (real_Mean.last (real_Mean.sum [(b : Int)]) ((1 : Nat) : Int) : Int) := by
    unfold real_Mean.f
    rw [if_pos (by simp)]
    rfl
  have f2 : real_Mean.f [(b : Int), (b : Int)] = some (real_Mean.last (real_Mean.sum [(b : Int), (b : Int)]) ((2 : Nat) : Int) : Int) := by
    unfold real_Mean.f
    rw [if_pos (by simp)]
    rfl
  have go : Ev (fun k => cadastrelaw02_RealSame.l0 k (b : Int) a1 [] ((0 : Nat) : Int)) true := by
    refine same_step (b : Int) a1 [] 0 (by rw [hw]; omega) (by decide) (by decide) ?_
    by_cases c : a1 % 2 = 0
    · exact same_end b a1 _ _ _ (by rw [hw]; omega) (by omega) f1 (fun h => by rw [(same_nan b h).1]; rfl) (fun h1 h2 h3 => by rw [(same_ok b (by omega) h1 h2 h3).1])
    · refine same_step (b : Int) a1 _ 1 (by rw [hw]; omega) (by simp) (by decide) ?_
      exact same_end b a1 _ _ _ (by rw [hw]; omega) (by omega) f2 (fun h => by rw [(same_nan b h).2]; rfl) (fun h1 h2 h3 => by rw [(same_ok b (by omega) h1 h2 h3).2])
  obtain ⟨k, h⟩ := go.rounds
  exact ⟨k, h⟩
end Go.Proofs.Ytkhbkhbkcpmiiaa.Pure
