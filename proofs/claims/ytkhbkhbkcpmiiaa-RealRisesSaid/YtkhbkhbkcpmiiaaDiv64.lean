/- What math/bits.Div64's printed function tells: the quotient and the rest of two words by one, where the quotient fits a word. -/
import Derived.Test.YtkhbkhbkcpmiiaaPRealx4
import Derived.Lib.ItoaNum
import Derived.Laws.BitsLemmas
namespace Go.Proofs.Ytkhbkhbkcpmiiaa.PReal
open Go.RowKit Go.Proofs.YtkhbkhbkcpmiiaaW.PrintWords Go.Proofs.YtkhbkhbkcpmiiaaW.PrintLast Go.Proofs.YtkhbkhbkcpmiiaaW.PrintMore
set_option linter.unusedVariables false
set_option linter.unusedSimpArgs false

theorem wu64 (n : Int) : IntKind.u64.wrap n = n % 18446744073709551616 := by simp [IntKind.wrap, IntKind.bits, IntKind.signed]
theorem wuN {n : Int} (h0 : 0 ≤ n) (h1 : n < 18446744073709551616) : IntKind.u64.wrap n = n := by rw [wu64]; omega

namespace D64
variable {Y y1 y0 un d q rh : Int}

theorem exp (hY : Y = y1 * 4294967296 + y0) (hI : q * y1 + rh = un) : q * Y = (un - rh) * 4294967296 + q * y0 := by
  subst hY
  rw [Int.mul_add, ← Int.mul_assoc, ← hI]
  omega

theorem guess (hY : Y = y1 * 4294967296 + y0) (h1 : 0 < y1) (h3 : 0 ≤ y0) (h5 : 0 ≤ un) (h7 : 0 ≤ d) (h8 : d < 4294967296) :
    (un * 4294967296 + d) / Y ≤ un / y1 := by
  have hYp : 0 < Y := by omega
  have a := Int.ediv_mul_le (un * 4294967296 + d) (b := Y) (by omega)
  have b : 0 ≤ (un * 4294967296 + d) / Y := Int.ediv_nonneg (by omega) (by omega)
  generalize (un * 4294967296 + d) / Y = Q at a b ⊢
  have c : Q * Y = Q * y1 * 4294967296 + Q * y0 := by subst hY; rw [Int.mul_add, ← Int.mul_assoc]
  have e := Int.mul_nonneg b h3
  exact Int.le_ediv_of_mul_le h1 (by omega)

theorem small (h6 : un < Y) (h0 : 0 < Y) (h8 : d < 4294967296) (h7 : 0 ≤ d) : (un * 4294967296 + d) / Y < 4294967296 := by
  refine Int.ediv_lt_of_lt_mul h0 ?_
  omega

theorem yes (hY : Y = y1 * 4294967296 + y0) (hI : q * y1 + rh = un) (h0 : 0 < Y) (h : 4294967296 * rh + d < q * y0) : (un * 4294967296 + d) / Y < q := by
  refine Int.ediv_lt_of_lt_mul h0 ?_
  have := exp hY hI
  omega

theorem no (hY : Y = y1 * 4294967296 + y0) (hI : q * y1 + rh = un) (h0 : 0 < Y) (h : ¬ 4294967296 * rh + d < q * y0) : q ≤ (un * 4294967296 + d) / Y := by
  refine Int.le_ediv_of_mul_le h0 ?_
  have := exp hY hI
  omega

theorem brk (hY : Y = y1 * 4294967296 + y0) (hI : q * y1 + rh = un) (h1 : 0 < y1) (h0 : 0 < Y) (h3 : 0 ≤ y0) (h4 : y0 < 4294967296) (h6 : un < Y) (h7 : 0 ≤ d) (hq : 0 ≤ q) (h : 4294967296 ≤ rh) :
    q ≤ (un * 4294967296 + d) / Y := by
  refine no hY hI h0 ?_
  have a : q < 4294967296 := by
    refine Int.lt_of_mul_lt_mul_right (a := y1) ?_ (by omega)
    rw [Int.mul_comm 4294967296 y1]
    omega
  have b : q * y0 ≤ 4294967295 * y0 := Int.mul_le_mul_of_nonneg_right (by omega) h3
  omega
end D64

theorem div64_l0 {Y s y1 y0 un d e0 : Int} {r : Int × Int} (hY : Y = y1 * 4294967296 + y0) (h1 : 0 < y1) (h2 : y1 < 4294967296) (h3 : 0 ≤ y0) (h4 : y0 < 4294967296) (h5 : 0 ≤ un) (h6 : un < Y) (h7 : 0 ≤ d) (h8 : d < 4294967296)
    (hr : Ev (fun k => bits_Div64.j2 k Y s y1 y0 un d e0 ((un * 4294967296 + d) / Y)) r) :
    ∀ (n : Nat) (q rh : Int), q * y1 + rh = un → 0 ≤ rh → rh < 4294967296 → (un * 4294967296 + d) / Y ≤ q → q - (un * 4294967296 + d) / Y ≤ n → q ≤ 18446744073709551615 →
      Ev (fun k => bits_Div64.l0 k Y s y1 y0 un d e0 q rh) r := by
  have h0 : 0 < Y := by omega
  have hsm := D64.small h6 h0 h8 h7
  have hQ0 : 0 ≤ (un * 4294967296 + d) / Y := Int.ediv_nonneg (by omega) (by omega)
  intro n
  induction n with
  | zero =>
    intro q rh hI hr0 hr1 hq hn hqm
    have e : q = (un * 4294967296 + d) / Y := by omega
    have hlt : ¬ q ≥ 4294967296 := by omega
    have ht : ¬ 4294967296 * rh + d < q * y0 := fun h => by have := D64.yes hY hI h0 h; omega
    have hqy := Int.mul_nonneg (show 0 ≤ q by omega) h3
    have hqy' : q * y0 ≤ 4294967295 * y0 := Int.mul_le_mul_of_nonneg_right (by omega) h3
    refine Ev.step (f := fun k => bits_Div64.j1 k Y s y1 y0 un d e0 q rh false) (fun k => ?_) (Ev.step (f := fun k => bits_Div64.j2 k Y s y1 y0 un d e0 q) (fun k => ?_) (by rw [e]; exact hr))
    · simp only [bits_Div64.l0]
      rw [if_neg hlt, wuN hqy (by omega), wuN (n := 4294967296 * rh) (by omega) (by omega), wuN (by omega) (by omega), decide_eq_false (by omega)]
    · simp only [bits_Div64.j1]
      rw [if_neg (by decide)]
  | succ n ih =>
    intro q rh hI hr0 hr1 hq hn hqm
    have go : (un * 4294967296 + d) / Y < q → Ev (fun k => bits_Div64.j1 k Y s y1 y0 un d e0 q rh true) r := by
      intro hlt
      have hI' : (q - 1) * y1 + (rh + y1) = un := by rw [Int.sub_mul]; omega
      by_cases hb : rh + y1 ≥ 4294967296
      · refine Ev.step (f := fun k => bits_Div64.j2 k Y s y1 y0 un d e0 ((un * 4294967296 + d) / Y)) (fun k => ?_) hr
        have := D64.brk hY hI' h1 h0 h3 h4 h6 h7 (by omega) hb
        simp only [bits_Div64.j1]
        rw [if_pos trivial, wuN (n := rh + y1) (by omega) (by omega), if_pos hb, wuN (by omega) (by omega), show q - 1 = (un * 4294967296 + d) / Y by omega]
      · refine Ev.step (f := fun k => bits_Div64.l0 k Y s y1 y0 un d e0 (q - 1) (rh + y1)) (fun k => ?_) (ih _ _ hI' (by omega) (by omega) (by omega) (by omega) (by omega))
        simp only [bits_Div64.j1]
        rw [if_pos trivial, wuN (n := rh + y1) (by omega) (by omega), if_neg hb, wuN (by omega) (by omega)]
    by_cases hlt : q ≥ 4294967296
    · refine Ev.step (f := fun k => bits_Div64.j1 k Y s y1 y0 un d e0 q rh true) (fun k => ?_) (go (by omega))
      simp only [bits_Div64.l0]
      rw [if_pos hlt]
    · have hqy := Int.mul_nonneg (show 0 ≤ q by omega) h3
      have hqy' : q * y0 ≤ 4294967295 * y0 := Int.mul_le_mul_of_nonneg_right (by omega) h3
      by_cases ht : 4294967296 * rh + d < q * y0
      · refine Ev.step (f := fun k => bits_Div64.j1 k Y s y1 y0 un d e0 q rh true) (fun k => ?_) (go (D64.yes hY hI h0 ht))
        simp only [bits_Div64.l0]
        rw [if_neg hlt, wuN hqy (by omega), wuN (n := 4294967296 * rh) (by omega) (by omega), wuN (by omega) (by omega), decide_eq_true (by omega)]
      · have e := D64.no hY hI h0 ht
        have e : q = (un * 4294967296 + d) / Y := by omega
        refine Ev.step (f := fun k => bits_Div64.j1 k Y s y1 y0 un d e0 q rh false) (fun k => ?_) (Ev.step (f := fun k => bits_Div64.j2 k Y s y1 y0 un d e0 q) (fun k => ?_) (by rw [e]; exact hr))
        · simp only [bits_Div64.l0]
          rw [if_neg hlt, wuN hqy (by omega), wuN (n := 4294967296 * rh) (by omega) (by omega), wuN (by omega) (by omega), decide_eq_false (by omega)]
        · simp only [bits_Div64.j1]
          rw [if_neg (by decide)]

theorem div64_l1 {Y s y1 y0 un d q1 : Int} (hs : 0 ≤ s) (hY : Y = y1 * 4294967296 + y0) (h1 : 0 < y1) (h2 : y1 < 4294967296) (h3 : 0 ≤ y0) (h4 : y0 < 4294967296) (h5 : 0 ≤ un) (h6 : un < Y) (h7 : 0 ≤ d) (h8 : d < 4294967296)
    (hq1 : 0 ≤ q1) (hq1' : q1 < 4294967296) :
    ∀ (n : Nat) (q rh : Int), q * y1 + rh = un → 0 ≤ rh → rh < 4294967296 → (un * 4294967296 + d) / Y ≤ q → q - (un * 4294967296 + d) / Y ≤ n → q ≤ 18446744073709551615 →
      Ev (fun k => bits_Div64.l1 k Y s y1 y0 d q1 rh un q) (q1 * 4294967296 + (un * 4294967296 + d) / Y, (un * 4294967296 + d) % Y / 2 ^ min s.toNat 64) := by
  have h0 : 0 < Y := by omega
  have hsm := D64.small h6 h0 h8 h7
  have hQ0 : 0 ≤ (un * 4294967296 + d) / Y := Int.ediv_nonneg (by omega) (by omega)
  have val : some (IntKind.u64.wrap ((IntKind.u64.wrap (q1 * 4294967296)) + ((un * 4294967296 + d) / Y)), shr .u64 (IntKind.u64.wrap ((IntKind.u64.wrap ((IntKind.u64.wrap (un * 4294967296)) + d)) - (IntKind.u64.wrap (((un * 4294967296 + d) / Y) * Y)))) s)
      = some (q1 * 4294967296 + (un * 4294967296 + d) / Y, (un * 4294967296 + d) % Y / 2 ^ min s.toNat 64) := by
    have m := Int.emod_add_ediv_mul (un * 4294967296 + d) Y
    have m0 := Int.emod_nonneg (un * 4294967296 + d) (show Y ≠ 0 by omega)
    have m1 := Int.emod_lt_of_pos (un * 4294967296 + d) h0
    rw [wuN (n := q1 * 4294967296) (by omega) (by omega), wuN (by omega) (by omega)]
    unfold shr
    have e : IntKind.u64.wrap ((IntKind.u64.wrap ((IntKind.u64.wrap (un * 4294967296)) + d)) - (IntKind.u64.wrap (((un * 4294967296 + d) / Y) * Y))) = (un * 4294967296 + d) % Y := by
      rw [wu64, wu64, wu64, wu64]
      generalize (un * 4294967296 + d) / Y * Y = z at m
      generalize (un * 4294967296 + d) % Y = w at *
      omega
    rw [e]
    rfl
  intro n
  induction n with
  | zero =>
    intro q rh hI hr0 hr1 hq hn hqm
    have e : q = (un * 4294967296 + d) / Y := by omega
    have hlt : ¬ q ≥ 4294967296 := by omega
    have ht : ¬ 4294967296 * rh + d < q * y0 := fun h => by have := D64.yes hY hI h0 h; omega
    have hqy := Int.mul_nonneg (show 0 ≤ q by omega) h3
    have hqy' : q * y0 ≤ 4294967295 * y0 := Int.mul_le_mul_of_nonneg_right (by omega) h3
    refine Ev.step (f := fun k => bits_Div64.j4 k Y s y1 y0 d q1 rh un q false) (fun k => ?_) (Ev.step (f := fun k => some _) (fun k => ?_) (Ev.now _))
    · simp only [bits_Div64.l1]
      rw [if_neg hlt, wuN hqy (by omega), wuN (n := 4294967296 * rh) (by omega) (by omega), wuN (by omega) (by omega), decide_eq_false (by omega)]
    · simp only [bits_Div64.j4]
      rw [if_neg (by decide), if_pos hs, e]
      exact val
  | succ n ih =>
    intro q rh hI hr0 hr1 hq hn hqm
    have go : (un * 4294967296 + d) / Y < q → Ev (fun k => bits_Div64.j4 k Y s y1 y0 d q1 rh un q true) (q1 * 4294967296 + (un * 4294967296 + d) / Y, (un * 4294967296 + d) % Y / 2 ^ min s.toNat 64) := by
      intro hlt
      have hI' : (q - 1) * y1 + (rh + y1) = un := by rw [Int.sub_mul]; omega
      by_cases hb : rh + y1 ≥ 4294967296
      · refine Ev.step (f := fun k => some _) (fun k => ?_) (Ev.now _)
        have := D64.brk hY hI' h1 h0 h3 h4 h6 h7 (by omega) hb
        simp only [bits_Div64.j4]
        rw [if_pos trivial, wuN (n := rh + y1) (by omega) (by omega), if_pos hb, if_pos hs, wuN (n := q - 1) (by omega) (by omega), show q - 1 = (un * 4294967296 + d) / Y by omega]
        exact val
      · refine Ev.step (f := fun k => bits_Div64.l1 k Y s y1 y0 d q1 (rh + y1) un (q - 1)) (fun k => ?_) (ih _ _ hI' (by omega) (by omega) (by omega) (by omega) (by omega))
        simp only [bits_Div64.j4]
        rw [if_pos trivial, wuN (n := rh + y1) (by omega) (by omega), if_neg hb, wuN (n := q - 1) (by omega) (by omega)]
    by_cases hlt : q ≥ 4294967296
    · refine Ev.step (f := fun k => bits_Div64.j4 k Y s y1 y0 d q1 rh un q true) (fun k => ?_) (go (by omega))
      simp only [bits_Div64.l1]
      rw [if_pos hlt]
    · have hqy := Int.mul_nonneg (show 0 ≤ q by omega) h3
      have hqy' : q * y0 ≤ 4294967295 * y0 := Int.mul_le_mul_of_nonneg_right (by omega) h3
      by_cases ht : 4294967296 * rh + d < q * y0
      · refine Ev.step (f := fun k => bits_Div64.j4 k Y s y1 y0 d q1 rh un q true) (fun k => ?_) (go (D64.yes hY hI h0 ht))
        simp only [bits_Div64.l1]
        rw [if_neg hlt, wuN hqy (by omega), wuN (n := 4294967296 * rh) (by omega) (by omega), wuN (by omega) (by omega), decide_eq_true (by omega)]
      · have e := D64.no hY hI h0 ht
        have e : q = (un * 4294967296 + d) / Y := by omega
        refine Ev.step (f := fun k => bits_Div64.j4 k Y s y1 y0 d q1 rh un q false) (fun k => ?_) (Ev.step (f := fun k => some _) (fun k => ?_) (Ev.now _))
        · simp only [bits_Div64.l1]
          rw [if_neg hlt, wuN hqy (by omega), wuN (n := 4294967296 * rh) (by omega) (by omega), wuN (by omega) (by omega), decide_eq_false (by omega)]
        · simp only [bits_Div64.j4]
          rw [if_neg (by decide), if_pos hs, e]
          exact val

theorem u64_ok : ∀ n : Int, 0 ≤ n → n < 2 ^ 64 → IntKind.u64.wrap n = n := fun n h0 h1 => wuN h0 (by omega)
theorem bu_mask (x : Int) (h0 : 0 ≤ x) (h1 : x < 18446744073709551616) : bits .and .u64 x 4294967295 = x % 4294967296 := by
  have := bits_mask .u64 64 (by decide) u64_ok 32 (by decide) x h0 (by omega)
  rw [show (2 : Int) ^ 32 - 1 = 4294967295 by decide, show (2 : Int) ^ 32 = 4294967296 by decide] at this
  exact this
theorem bu_one (x : Int) (h0 : 0 ≤ x) (h1 : x < 18446744073709551616) : bits .and .u64 x 1 = x % 2 := by
  have := bits_mask .u64 64 (by decide) u64_ok 1 (by decide) x h0 (by omega)
  rw [show (2 : Int) ^ 1 - 1 = 1 by decide, show (2 : Int) ^ 1 = 2 by decide] at this
  exact this
theorem bu_or (i : Nat) (x y : Int) (hx : 0 ≤ x) (hm : x % 2 ^ i = 0) (hx1 : x < 18446744073709551616) (hy : 0 ≤ y) (hy1 : y < 2 ^ i) (hi : i ≤ 64) : bits .or .u64 x y = x + y := by
  have h : (2 : Int) ^ i ≤ 2 ^ 64 := by
    have := Nat.pow_le_pow_right (show 0 < 2 by decide) hi
    exact_mod_cast this
  exact bits_join .u64 64 (by decide) u64_ok i x y hx hm (by omega) hy hy1 (by omega)

/-- The number of bits, as powers tell it. -/
theorem bitLen_pows (x : Int) (h0 : 0 < x) (h1 : x ≤ 18446744073709551615) : ∃ s : Nat, s ≤ 63 ∧ (64 - (Lib.bitLen x.toNat : Int)) = (s : Int) ∧ 9223372036854775808 ≤ x * 2 ^ s ∧ x * 2 ^ s < 18446744073709551616 := by
  obtain ⟨n, rfl⟩ := Int.eq_ofNat_of_zero_le (show 0 ≤ x by omega)
  obtain ⟨a, b, c⟩ := Lib.bitLenAux_bounds 64 n (by omega) (by omega)
  have d := Lib.bitLen_le n 64 (by omega) (by omega)
  rw [Int.toNat_natCast]
  change 1 ≤ Lib.bitLen n at a
  change 2 ^ (Lib.bitLen n - 1) ≤ n at b
  change n < 2 ^ Lib.bitLen n at c
  generalize Lib.bitLen n = L at a b c d ⊢
  refine ⟨64 - L, by omega, by omega, ?_, ?_⟩
  · have e : 2 ^ (L - 1) * 2 ^ (64 - L) = 9223372036854775808 := by rw [← Nat.pow_add, show L - 1 + (64 - L) = 63 by omega]
    have := Nat.mul_le_mul_right (2 ^ (64 - L)) b
    rw [e] at this
    have := Int.ofNat_le.mpr this
    rw [Int.natCast_mul, Int.natCast_pow] at this
    exact this
  · have e : 2 ^ L * 2 ^ (64 - L) = 18446744073709551616 := by rw [← Nat.pow_add, show L + (64 - L) = 64 by omega]
    have := Nat.mul_lt_mul_of_pos_right c (Nat.two_pow_pos (64 - L))
    rw [e] at this
    have := Int.ofNat_lt.mpr this
    rw [Int.natCast_mul, Int.natCast_pow] at this
    exact this

theorem div64 (a0 a1 a2 : Int) (h0 : 0 ≤ a0) (h1 : a0 < a2) (h2 : a2 ≤ 18446744073709551615) (h3 : 0 ≤ a1) (h4 : a1 ≤ 18446744073709551615) :
    Ev (fun k => bits_Div64.f k a0 a1 a2) ((a0 * 18446744073709551616 + a1) / a2, (a0 * 18446744073709551616 + a1) % a2) := by
  by_cases hz : a0 = 0
  · subst hz
    refine Ev.congr (f := fun k => some _) (fun k => ?_) (Ev.now _)
    unfold bits_Div64.f
    have hb : 0 ≤ a1 / a2 := Int.ediv_nonneg h3 (by omega)
    have hb' : a1 / a2 ≤ a1 := Int.ediv_le_self _ h3
    rw [if_neg (by omega), if_neg (by omega), if_pos rfl, Int.tdiv_eq_ediv_of_nonneg h3, Int.tmod_eq_emod_of_nonneg h3, wuN hb (by omega)]
    simp
  · obtain ⟨s, hs, hL, hlo, hhi⟩ := bitLen_pows a2 (by omega) h2
    have hp : (0 : Int) < 2 ^ s := Int.pow_pos (by decide)
    have hr : (0 : Int) < 2 ^ (64 - s) := Int.pow_pos (by decide)
    have hpr : (2 : Int) ^ (64 - s) * 2 ^ s = 18446744073709551616 := by rw [← Int.pow_add, show 64 - s + s = 64 by omega]; rfl
    have e0 : shl .u64 a2 s = a2 * 2 ^ s := by unfold shl; rw [Int.toNat_natCast, Nat.min_eq_left (show s ≤ IntKind.u64.bits by show s ≤ 64; omega), wuN (by omega) hhi]
    have a0m : a0 * 2 ^ s < a2 * 2 ^ s := Int.mul_lt_mul_of_pos_right h1 hp
    have a0p : 0 ≤ a0 * 2 ^ s := Int.mul_nonneg h0 (by omega)
    have e1 : shl .u64 a0 s = a0 * 2 ^ s := by unfold shl; rw [Int.toNat_natCast, Nat.min_eq_left (show s ≤ IntKind.u64.bits by show s ≤ 64; omega), wuN a0p (by omega)]
    have e2 : shl .u64 a1 s = (a1 * 2 ^ s) % 18446744073709551616 := by unfold shl; rw [Int.toNat_natCast, Nat.min_eq_left (show s ≤ IntKind.u64.bits by show s ≤ 64; omega), wu64]
    have e3 : shr .u64 a1 (64 - (s : Int)) = a1 / 2 ^ (64 - s) := by unfold shr; rw [show ((64 : Int) - (s : Int)).toNat = 64 - s by omega, Nat.min_eq_left (show 64 - s ≤ IntKind.u64.bits by show 64 - s ≤ 64; omega)]
    have f1 : 0 ≤ a1 / 2 ^ (64 - s) := Int.ediv_nonneg h3 (by omega)
    have f2 : a1 / 2 ^ (64 - s) < 2 ^ s := Int.ediv_lt_of_lt_mul hr (by rw [Int.mul_comm, hpr]; omega)
    have e4 : bits .or .u64 (a0 * 2 ^ s) (a1 / 2 ^ (64 - s)) = a0 * 2 ^ s + a1 / 2 ^ (64 - s) := bu_or s _ _ a0p (Int.mul_emod_left _ _) (by omega) f1 f2 (by omega)
    have f3 : (a1 * 2 ^ s) / 18446744073709551616 = a1 / 2 ^ (64 - s) := by rw [← hpr, Int.mul_ediv_mul_of_pos_left _ _ hp]
    have f4 := Int.emod_add_ediv_mul (a1 * 2 ^ s) 18446744073709551616
    rw [f3] at f4
    have f5 := Int.emod_nonneg (a1 * 2 ^ s) (show (18446744073709551616 : Int) ≠ 0 by decide)
    have f6 := Int.emod_lt_of_pos (a1 * 2 ^ s) (show (0 : Int) < 18446744073709551616 by decide)
    -- what comes, in the words of the loops
    have unlt : a0 * 2 ^ s + a1 / 2 ^ (64 - s) < a2 * 2 ^ s := by
      have : (a0 + 1) * 2 ^ s ≤ a2 * 2 ^ s := Int.mul_le_mul_of_nonneg_right (by omega) (by omega)
      rw [Int.add_mul] at this
      omega
    have key : (a0 * 2 ^ s + a1 / 2 ^ (64 - s)) * 18446744073709551616 + (a1 * 2 ^ s) % 18446744073709551616 = (a0 * 18446744073709551616 + a1) * 2 ^ s := by
      rw [Int.add_mul, Int.add_mul, Int.mul_assoc a0, Int.mul_assoc a0, Int.mul_comm (2 ^ s) 18446744073709551616]
      omega
    have q_eq : (a0 * 18446744073709551616 + a1) / a2 = ((a0 * 18446744073709551616 + a1) * 2 ^ s) / (a2 * 2 ^ s) := (Int.mul_ediv_mul_of_pos_left _ _ hp).symm
    have r_eq : ((a0 * 18446744073709551616 + a1) * 2 ^ s) % (a2 * 2 ^ s) = (a0 * 18446744073709551616 + a1) % a2 * 2 ^ s := by
      rw [Int.mul_comm _ (2 ^ s), Int.mul_comm a2, Int.mul_emod_mul_of_pos _ _ hp, Int.mul_comm]
    have m0 := Int.emod_nonneg (a0 * 18446744073709551616 + a1) (show a2 ≠ 0 by omega)
    generalize hU : (a0 * 18446744073709551616 + a1) = U at *
    generalize hY : a2 * 2 ^ s = Y at *
    generalize hun : a0 * 2 ^ s + a1 / 2 ^ (64 - s) = un at *
    generalize hu10 : (a1 * 2 ^ s) % 18446744073709551616 = u10 at *
    have un0 : 0 ≤ un := by omega
    have Y1 : 2147483648 ≤ Y / 4294967296 := by omega
    have hYd : Y = Y / 4294967296 * 4294967296 + Y % 4294967296 := by omega
    have c1 : 0 ≤ (un * 4294967296 + u10 / 4294967296) / Y := Int.ediv_nonneg (by omega) (by omega)
    have c2 := D64.small (d := u10 / 4294967296) unlt (by omega) (by omega) (by omega)
    have c3 := Int.emod_nonneg (un * 4294967296 + u10 / 4294967296) (show Y ≠ 0 by omega)
    have c4 := Int.emod_lt_of_pos (un * 4294967296 + u10 / 4294967296) (show 0 < Y by omega)
    have c5 := Int.emod_add_ediv_mul (un * 4294967296 + u10 / 4294967296) Y
    -- the two digits
    have d1 : U * 2 ^ s / Y = (un * 4294967296 + u10 / 4294967296) / Y * 4294967296 + ((un * 4294967296 + u10 / 4294967296) % Y * 4294967296 + u10 % 4294967296) / Y := by
      rw [show U * 2 ^ s = ((un * 4294967296 + u10 / 4294967296) % Y * 4294967296 + u10 % 4294967296) + ((un * 4294967296 + u10 / 4294967296) / Y * 4294967296) * Y by
        rw [← key, Int.mul_right_comm]; omega, Int.add_mul_ediv_right _ _ (show Y ≠ 0 by omega)]
      omega
    have d2 : U * 2 ^ s % Y = ((un * 4294967296 + u10 / 4294967296) % Y * 4294967296 + u10 % 4294967296) % Y := by
      rw [show U * 2 ^ s = ((un * 4294967296 + u10 / 4294967296) % Y * 4294967296 + u10 % 4294967296) + ((un * 4294967296 + u10 / 4294967296) / Y * 4294967296) * Y by
        rw [← key, Int.mul_right_comm]; omega, Int.add_mul_emod_self_right]
    have g0 := D64.guess (d := u10 / 4294967296) hYd (by omega) (by omega) un0 (by omega) (by omega)
    have g1 : un / (Y / 4294967296) ≤ un := Int.ediv_le_self _ un0
    have g1' : 0 ≤ un / (Y / 4294967296) := Int.ediv_nonneg un0 (by omega)
    have g2 := Int.emod_add_ediv_mul un (Y / 4294967296)
    have g5 := Int.mul_nonneg g1' (show 0 ≤ Y / 4294967296 by omega)
    have g3 := Int.emod_nonneg un (show Y / 4294967296 ≠ 0 by omega)
    have g4 := Int.emod_lt_of_pos un (show 0 < Y / 4294967296 by omega)
    have fin : (U / a2, U % a2) = ((un * 4294967296 + u10 / 4294967296) / Y * 4294967296 + ((un * 4294967296 + u10 / 4294967296) % Y * 4294967296 + u10 % 4294967296) / Y, ((un * 4294967296 + u10 / 4294967296) % Y * 4294967296 + u10 % 4294967296) % Y / 2 ^ min (s : Int).toNat 64) := by
      rw [q_eq, d1, ← d2, r_eq, Int.toNat_natCast, Nat.min_eq_left (by omega), Int.mul_ediv_cancel _ (by omega)]
    rw [fin]
    have un21 : IntKind.u64.wrap ((IntKind.u64.wrap ((IntKind.u64.wrap (un * 4294967296)) + u10 / 4294967296)) - (IntKind.u64.wrap ((un * 4294967296 + u10 / 4294967296) / Y * Y))) = (un * 4294967296 + u10 / 4294967296) % Y := by
      rw [wu64, wu64, wu64, wu64]
      generalize (un * 4294967296 + u10 / 4294967296) / Y * Y = z at c5
      generalize (un * 4294967296 + u10 / 4294967296) % Y = w at *
      omega
    refine Ev.congr (f := fun k => bits_Div64.l0 k Y s (Y / 4294967296) (Y % 4294967296) un (u10 / 4294967296) (u10 % 4294967296) (un / (Y / 4294967296)) (un % (Y / 4294967296))) (fun k => ?_) (div64_l0 hYd (by omega) (by omega) (by omega) (by omega) un0 unlt (by omega) (by omega) ?_ (un / (Y / 4294967296) - (un * 4294967296 + u10 / 4294967296) / Y).toNat _ _ (by omega) (by omega) (by omega) g0 (by omega) (by omega))
    · unfold bits_Div64.f bits_LeadingZeros64.f
      rw [if_neg (by omega), if_neg (by omega), if_neg hz, if_pos ⟨by omega, h2⟩, hL]
      simp only [Option.bind_some]
      rw [wuN (n := (s : Int)) (by omega) (by omega), wuN (n := 64 - (s : Int)) (by omega) (by omega), if_pos (by omega), if_pos (by omega), e0, if_neg (by omega), e1, e2, e3, e4,
        bu_mask _ (by omega) (by omega), bu_mask _ f5 f6, Int.tdiv_eq_ediv_of_nonneg un0, wuN g1' (by omega), wuN (n := un / (Y / 4294967296) * (Y / 4294967296)) (by omega) (by omega), wuN (n := un - un / (Y / 4294967296) * (Y / 4294967296)) (by omega) (by omega)]
      rw [show un - un / (Y / 4294967296) * (Y / 4294967296) = un % (Y / 4294967296) by omega]
    · generalize hw : (un * 4294967296 + u10 / 4294967296) % Y = w at *
      have k0 := D64.guess (d := u10 % 4294967296) hYd (by omega) (by omega) c3 (by omega) (by omega)
      have k1 : w / (Y / 4294967296) ≤ w := Int.ediv_le_self _ c3
      have k1' : 0 ≤ w / (Y / 4294967296) := Int.ediv_nonneg c3 (by omega)
      have k2 := Int.emod_add_ediv_mul w (Y / 4294967296)
      have k5 := Int.mul_nonneg k1' (show 0 ≤ Y / 4294967296 by omega)
      have k3 := Int.emod_nonneg w (show Y / 4294967296 ≠ 0 by omega)
      have k4 := Int.emod_lt_of_pos w (show 0 < Y / 4294967296 by omega)
      refine Ev.step (f := fun k => bits_Div64.l1 k Y s (Y / 4294967296) (Y % 4294967296) (u10 % 4294967296) ((un * 4294967296 + u10 / 4294967296) / Y) (w % (Y / 4294967296)) w (w / (Y / 4294967296))) (fun k => ?_) (div64_l1 (by omega) hYd (by omega) (by omega) (by omega) (by omega) c3 c4 (by omega) (by omega) c1 c2 (w / (Y / 4294967296) - (w * 4294967296 + u10 % 4294967296) / Y).toNat _ _ (by omega) (by omega) (by omega) k0 (by omega) (by omega))
      simp only [bits_Div64.j2]
      rw [if_neg (by omega), un21, Int.tdiv_eq_ediv_of_nonneg c3, wuN k1' (by omega), wuN (n := w / (Y / 4294967296) * (Y / 4294967296)) (by omega) (by omega), wuN (n := w - w / (Y / 4294967296) * (Y / 4294967296)) (by omega) (by omega)]
      rw [show w - w / (Y / 4294967296) * (Y / 4294967296) = w % (Y / 4294967296) by omega]
end Go.Proofs.Ytkhbkhbkcpmiiaa.PReal
