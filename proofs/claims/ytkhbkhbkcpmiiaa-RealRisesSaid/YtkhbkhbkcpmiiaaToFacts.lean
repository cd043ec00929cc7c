/- Whole numbers behind real.To: the bits that math.ldexp takes out of a word and puts into it. -/
import Derived.Test.YtkhbkhbkcpmiiaaFltTo
import Derived.Test.YtkhbkhbkcpmiiaaDiv64
import Derived.Laws.BitsAll
namespace Go.Proofs.Ytkhbkhbkcpmiiaa.PReal
open Go.RowKit Go.Proofs.YtkhbkhbkcpmiiaaW.PrintWords Go.Proofs.YtkhbkhbkcpmiiaaW.PrintLast Go.Proofs.YtkhbkhbkcpmiiaaW.PrintMore
set_option linter.unusedVariables false
set_option linter.unusedSimpArgs false

theorem to_sign (F : Nat) (h : F < 9223372036854775808) : bits .andNot .u64 (F : Int) 9223372036854775808 = (F : Int) := by
  rw [u64_andNot _ _ (by omega) (by omega) (by omega) (by omega), Int.toNat_natCast]
  have e : (18446744073709551615 - (9223372036854775808 : Int).toNat) = 2 ^ 63 - 1 := by decide
  rw [e, Nat.and_two_pow_sub_one_eq_mod, Nat.mod_eq_of_lt (by omega)]
theorem to_frac (F : Nat) (h : F < 9223372036854775808) : bits .andNot .u64 (F : Int) 9218868437227405312 = ((F % 4503599627370496 : Nat) : Int) := by
  rw [u64_andNot _ _ (by omega) (by omega) (by omega) (by omega), Int.toNat_natCast]
  have e : (18446744073709551615 - (9218868437227405312 : Int).toNat) = 2 ^ 63 ||| (2 ^ 52 - 1) := by decide
  have z : F &&& 2 ^ 63 = 0 := by
    apply Nat.eq_of_testBit_eq
    intro i
    rw [Nat.testBit_and, Nat.testBit_two_pow, Nat.zero_testBit]
    by_cases hi : 63 = i
    · subst hi
      rw [Nat.testBit_lt_two_pow (by omega)]
      rfl
    · simp [hi]
  rw [e, Nat.and_or_distrib_left, Nat.and_two_pow_sub_one_eq_mod, z, Nat.zero_or]
theorem to_exp (F : Nat) (h : F < 9223372036854775808) : bits .and .i64 (wrap64 ((F : Int) / 4503599627370496)) 2047 = ((F / 4503599627370496 % 2048 : Nat) : Int) := by
  have hw : wrap64 ((F : Int) / 4503599627370496) = (F : Int) / 4503599627370496 := by unfold wrap64; omega
  have := bits_mask .i64 62 (by decide) (fun n h0 h1 => by rw [IntKind.wrap_i64]; omega) 11 (by decide) ((F : Int) / 4503599627370496) (by omega) (by omega)
  rw [show (2 : Int) ^ 11 - 1 = 2047 by decide, show (2 : Int) ^ 11 = 2048 by decide] at this
  rw [hw, this]
  omega
/-- A word's exponent put in anew. -/
theorem to_join (F E : Nat) (hE : E < 2048) : bits .or .u64 ((F % 4503599627370496 : Nat) : Int) (IntKind.u64.wrap (IntKind.u64.wrap (E : Int) * 4503599627370496)) = ((E * 4503599627370496 + F % 4503599627370496 : Nat) : Int) := by
  rw [wuN (n := (E : Int)) (by omega) (by omega), wuN (by omega) (by omega)]
  have hm : F % 4503599627370496 < 4503599627370496 := Nat.mod_lt _ (by decide)
  generalize F % 4503599627370496 = f at hm
  have h1 := bits_join .u64 64 (by decide) u64_ok 52 ((E : Int) * 4503599627370496) (f : Int) (by omega) (by rw [show (2 : Int) ^ 52 = 4503599627370496 by decide]; omega) (by omega) (by omega) (by rw [show (2 : Int) ^ 52 = 4503599627370496 by decide]; omega) (by omega)
  have e1 : (E : Int) * 4503599627370496 = ((E * 4503599627370496 : Nat) : Int) := by omega
  rw [e1] at h1 ⊢
  have a := (bits_nat .u64 64 (by decide) u64_ok (E * 4503599627370496) f (by omega) (by omega)).2
  have b := (bits_nat .u64 64 (by decide) u64_ok f (E * 4503599627370496) (by omega) (by omega)).2
  rw [b, Nat.or_comm, ← a, h1]
  omega

theorem to_z13 (N qh r1 ql rest : Nat) (h0 : 9223372036854775808 ≤ N) (h1 : N < 18446744073709551616) (hq : qh = N / 10000) (hr : r1 = N % 10000) (hl : ql = r1 * 18446744073709551616 / 10000) (ht : rest = r1 * 18446744073709551616 % 10000)
    (hz0 : 9223372036854775808 ≤ qh * 8192) (hz1 : qh * 8192 < 18446744073709551616) :
    bits .or .u64 (IntKind.u64.wrap ((qh : Int) * 2 ^ min ((13 : Int)).toNat 64)) ((ql : Int) / 2 ^ min (((51 : Int))).toNat 64) = ((N * 8192 / 10000 : Nat) : Int) ∧
    ((IntKind.u64.wrap ((ql : Int) * 2 ^ min ((13 : Int)).toNat 64) ≠ 0 ∨ rest ≠ 0) ↔ N * 8192 % 10000 ≠ 0) := by
  have hB : ql / 2251799813685248 = r1 * 8192 / 10000 := by
    rw [hl, Nat.div_div_eq_div_mul, show 18446744073709551616 = 8192 * 2251799813685248 by decide, ← Nat.mul_assoc, Nat.mul_div_mul_right _ _ (by decide)]
  have hV : N * 8192 / 10000 = qh * 8192 + r1 * 8192 / 10000 := by omega
  have hVm : N * 8192 % 10000 = r1 * 8192 % 10000 := by omega
  have e1 : (2 : Int) ^ min ((13 : Int)).toNat 64 = 8192 := by decide
  have e2 : (2 : Int) ^ min (((51 : Int))).toNat 64 = 2251799813685248 := by decide
  rw [e1, e2, wuN (n := (qh : Int) * 8192) (by omega) (by omega), wu64]
  constructor
  · have hj := bits_join .u64 64 (by decide) u64_ok 13 ((qh : Int) * 8192) ((ql : Int) / 2251799813685248) (by omega) (by rw [show (2 : Int) ^ 13 = 8192 by decide]; omega) (by omega) (by omega) (by rw [show (2 : Int) ^ 13 = 8192 by decide]; omega) (by omega)
    rw [hj, hV]
    omega
  · rw [hVm]
    omega

theorem to_z14 (N qh r1 ql rest : Nat) (h0 : 9223372036854775808 ≤ N) (h1 : N < 18446744073709551616) (hq : qh = N / 10000) (hr : r1 = N % 10000) (hl : ql = r1 * 18446744073709551616 / 10000) (ht : rest = r1 * 18446744073709551616 % 10000)
    (hz0 : 9223372036854775808 ≤ qh * 16384) (hz1 : qh * 16384 < 18446744073709551616) :
    bits .or .u64 (IntKind.u64.wrap ((qh : Int) * 2 ^ min ((14 : Int)).toNat 64)) ((ql : Int) / 2 ^ min (((50 : Int))).toNat 64) = ((N * 16384 / 10000 : Nat) : Int) ∧
    ((IntKind.u64.wrap ((ql : Int) * 2 ^ min ((14 : Int)).toNat 64) ≠ 0 ∨ rest ≠ 0) ↔ N * 16384 % 10000 ≠ 0) := by
  have hB : ql / 1125899906842624 = r1 * 16384 / 10000 := by
    rw [hl, Nat.div_div_eq_div_mul, show 18446744073709551616 = 16384 * 1125899906842624 by decide, ← Nat.mul_assoc, Nat.mul_div_mul_right _ _ (by decide)]
  have hV : N * 16384 / 10000 = qh * 16384 + r1 * 16384 / 10000 := by omega
  have hVm : N * 16384 % 10000 = r1 * 16384 % 10000 := by omega
  have e1 : (2 : Int) ^ min ((14 : Int)).toNat 64 = 16384 := by decide
  have e2 : (2 : Int) ^ min (((50 : Int))).toNat 64 = 1125899906842624 := by decide
  rw [e1, e2, wuN (n := (qh : Int) * 16384) (by omega) (by omega), wu64]
  constructor
  · have hj := bits_join .u64 64 (by decide) u64_ok 14 ((qh : Int) * 16384) ((ql : Int) / 1125899906842624) (by omega) (by rw [show (2 : Int) ^ 14 = 16384 by decide]; omega) (by omega) (by omega) (by rw [show (2 : Int) ^ 14 = 16384 by decide]; omega) (by omega)
    rw [hj, hV]
    omega
  · rw [hVm]
    omega

theorem to_or1 (m : Nat) (h : m < 18446744073709551616) : bits .or .u64 (m : Int) 1 = ((m + (1 - m % 2) : Nat) : Int) := by
  have key : ∀ k : Nat, 2 * k < 18446744073709551616 → (2 * k ||| 1 : Nat) = 2 * k + 1 := by
    intro k hk
    have a := (bits_nat .u64 64 (by decide) u64_ok (2 * k) 1 (by omega) (by decide)).2
    have b := bits_join .u64 64 (by decide) u64_ok 1 ((2 * k : Nat) : Int) ((1 : Nat) : Int) (by omega) (by rw [show (2 : Int) ^ 1 = 2 by decide]; omega) (by omega) (by omega) (by decide) (by decide)
    rw [b] at a
    omega
  have a := (bits_nat .u64 64 (by decide) u64_ok m 1 (by omega) (by decide)).2
  have a' : bits .or .u64 (m : Int) 1 = ((m ||| 1 : Nat) : Int) := a
  rw [a']
  congr 1
  by_cases c : m % 2 = 0
  · have := key (m / 2) (by omega)
    rw [show 2 * (m / 2) = m by omega] at this
    rw [this, c]
  · have h1 := key (m / 2) (by omega)
    have h2 : m = 2 * (m / 2) ||| 1 := by omega
    have h3 : m ||| 1 = m := by
      conv => lhs; rw [h2, Nat.or_assoc, Nat.or_self]
      exact h2.symm
    rw [h3]
    omega
end Go.Proofs.Ytkhbkhbkcpmiiaa.PReal
