/- What the printed functions of cadastreref01's words of 128 bits and cadastreref02's Root tell, as whole numbers. -/
import Derived.Test.YtkhbkhbkcpmiiaaPRealx8
import Derived.Test.YtkhbkhbkcpmiiaaPRealx9
import Derived.Test.YtkhbkhbkcpmiiaaPRealx9
import Derived.Test.YtkhbkhbkcpmiiaaPRealx3
import Derived.Laws.BitsLemmas
import Derived.Test.YtkhbkhbkcpmiiaaDiv64
namespace Go.Proofs.Ytkhbkhbkcpmiiaa.PReal
open Go.RowKit Go.Proofs.YtkhbkhbkcpmiiaaW.PrintWords Go.Proofs.YtkhbkhbkcpmiiaaW.PrintLast Go.Proofs.YtkhbkhbkcpmiiaaW.PrintMore
set_option linter.unusedVariables false
set_option linter.unusedSimpArgs false

theorem w64i (n : Int) : wrap64 n = (n + 9223372036854775808) % 18446744073709551616 - 9223372036854775808 := by unfold wrap64; omega

/-- Two words as one number below 2^128. -/
theorem up_ok (V : Int) (h0 : 0 ≤ V) (h1 : V < 340282366920938463463374607431768211456) :
    cadastreref01_Up.f (V / 18446744073709551616) (V % 18446744073709551616) = some ((2 * V) % 340282366920938463463374607431768211456 / 18446744073709551616, (2 * V) % 18446744073709551616) := by
  unfold cadastreref01_Up.f
  rw [wu64, wu64, bu_or 1 _ _ (by omega) (by omega) (by omega) (by omega) (by omega) (by omega)]
  congr 2 <;> omega

theorem plusW_ok (V W : Int) (h0 : 0 ≤ V) (h1 : V < 340282366920938463463374607431768211456) (h2 : 0 ≤ W) (h3 : W < 340282366920938463463374607431768211456) :
    cadastreref01_PlusW.f (V / 18446744073709551616) (V % 18446744073709551616) (W / 18446744073709551616) (W % 18446744073709551616) = some ((V + W) % 340282366920938463463374607431768211456 / 18446744073709551616, (V + W) % 18446744073709551616) := by
  unfold cadastreref01_PlusW.f
  rw [wu64, wu64, wu64]
  split <;> (congr 2 <;> omega)

theorem cmp_ok (V W : Int) :
    cadastreref01_Cmp.f (V / 18446744073709551616) (V % 18446744073709551616) (W / 18446744073709551616) (W % 18446744073709551616) = some (if V < W then -1 else if V = W then 0 else 1) := by
  unfold cadastreref01_Cmp.f
  split
  · split
    · rw [if_pos (by omega)]
    · split
      · rw [if_neg (by omega), if_neg (by omega)]
      · rw [if_neg (by omega), if_pos (by omega)]
  · split
    · rw [if_pos (by omega)]
    · rw [if_neg (by omega), if_neg (by omega)]

theorem pow_split (b : Int) (n : Nat) : b / 2 ^ n = 2 * (b / 2 ^ (n + 1)) + b / 2 ^ n % 2 := by
  rw [Int.pow_succ, ← Int.ediv_ediv_of_nonneg (Int.le_of_lt (Int.pow_pos (by decide)))]
  omega

theorem product_l0 (a b : Int) (ha : 0 ≤ a) (ha1 : a < 18446744073709551616) (hb : 0 ≤ b) (hb1 : b < 18446744073709551616) : ∀ n : Nat, n ≤ 64 →
    Ev (fun k => cadastreref01_Product.l0 k a b ((n : Int) - 1) (a * (b / 2 ^ n) / 18446744073709551616) (a * (b / 2 ^ n) % 18446744073709551616)) (a * b / 18446744073709551616, a * b % 18446744073709551616) := by
  have hab : a * b < 340282366920938463463374607431768211456 := by
    have h := Int.mul_le_mul_of_nonneg_right (show a ≤ 18446744073709551615 by omega) hb
    omega
  have lim : ∀ n : Nat, 0 ≤ b / 2 ^ n ∧ 0 ≤ a * (b / 2 ^ n) ∧ a * (b / 2 ^ n) ≤ a * b := by
    intro n
    have h1 : 0 ≤ b / 2 ^ n := Int.ediv_nonneg hb (Int.le_of_lt (Int.pow_pos (by decide)))
    exact ⟨h1, Int.mul_nonneg ha h1, Int.mul_le_mul_of_nonneg_left (Int.ediv_le_self _ hb) ha⟩
  intro n
  induction n with
  | zero =>
    intro _
    refine Ev.step (f := fun k => some _) (fun k => ?_) (Ev.now _)
    simp only [cadastreref01_Product.l0]
    rw [if_neg (by omega)]
    simp
  | succ n ih =>
    intro hn
    have ih := ih (by omega)
    obtain ⟨p1, p2, p3⟩ := lim (n + 1)
    obtain ⟨q1, q2, q3⟩ := lim n
    have sp := pow_split b n
    have hx : ((n + 1 : Nat) : Int) - 1 = (n : Int) := by omega
    rw [hx]
    have hup := up_ok (a * (b / 2 ^ (n + 1))) p2 (by omega)
    have e : a * (b / 2 ^ n) = 2 * (a * (b / 2 ^ (n + 1))) + a * (b / 2 ^ n % 2) := by
      conv => lhs; rw [sp]
      rw [Int.mul_add, Int.mul_left_comm]
    have hw : wrap64 ((n : Int) - 1) = (n : Int) - 1 := by rw [w64i]; omega
    have hsh : bits .and .u64 (shr .u64 b (n : Int)) 1 = b / 2 ^ n % 2 := by
      unfold shr
      rw [Int.toNat_natCast, Nat.min_eq_left (show n ≤ IntKind.u64.bits by show n ≤ 64; omega), bu_one _ q1 (by have := Int.ediv_le_self (2 ^ n) hb; omega)]
    refine Ev.step (f := fun k => cadastreref01_Product.l0 k a b ((n : Int) - 1) (a * (b / 2 ^ n) / 18446744073709551616) (a * (b / 2 ^ n) % 18446744073709551616)) (fun k => ?_) ih
    simp only [cadastreref01_Product.l0]
    rw [if_pos (by omega), hup]
    simp only [Option.bind_some]
    rw [wuN (n := (n : Int)) (by omega) (by omega), if_pos (by omega), hsh, hw]
    by_cases hbit : b / 2 ^ n % 2 = 1
    · rw [if_pos hbit]
      rw [hbit, Int.mul_one] at e
      have hpl := plusW_ok ((2 * (a * (b / 2 ^ (n + 1)))) % 340282366920938463463374607431768211456) a (by omega) (by omega) ha (by omega)
      rw [show a / 18446744073709551616 = 0 by omega, show a % 18446744073709551616 = a by omega, show (2 * (a * (b / 2 ^ (n + 1)))) % 340282366920938463463374607431768211456 % 18446744073709551616 = (2 * (a * (b / 2 ^ (n + 1)))) % 18446744073709551616 by omega] at hpl
      rw [hpl]
      simp only [Option.bind_some]
      rw [e]
      congr 1 <;> omega
    · rw [if_neg hbit]
      have : b / 2 ^ n % 2 = 0 := by omega
      rw [this, Int.mul_zero, Int.add_zero] at e
      rw [e]
      congr 1 <;> omega

theorem product_ok (a b : Int) (ha : 0 ≤ a) (ha1 : a < 18446744073709551616) (hb : 0 ≤ b) (hb1 : b < 18446744073709551616) :
    Ev (fun k => cadastreref01_Product.f k a b) (a * b / 18446744073709551616, a * b % 18446744073709551616) := by
  have h := product_l0 a b ha ha1 hb hb1 64 (by omega)
  have e : b / 2 ^ 64 = 0 := Int.ediv_eq_zero_of_lt hb (by omega)
  rw [e, Int.mul_zero] at h
  exact h

theorem shl_pow (t : Nat) (h : t ≤ 40) : shl .u64 1 (t : Int) = ((2 ^ t : Nat) : Int) := by
  have h1 : 2 ^ t ≤ 2 ^ 40 := Nat.pow_le_pow_right (by decide) h
  have h1 : 2 ^ t ≤ 1099511627776 := h1
  have e : (1 : Int) * 2 ^ t = ((2 ^ t : Nat) : Int) := by rw [Int.natCast_pow, Int.one_mul]; rfl
  unfold shl
  rw [Int.toNat_natCast, Nat.min_eq_left (show t ≤ IntKind.u64.bits by show t ≤ 64; omega), e]
  generalize 2 ^ t = p at h1
  exact wuN (by omega) (by omega)

theorem refroot_l0 (A : Nat) (hA : A < 340282366920938463463374607431768211456) : ∀ (t x : Nat), t ≤ 41 → x + 2 ^ t ≤ 2199023255552 →
    Ev (fun k => cadastreref02_Root.l0 k (x : Int) ((t : Int) - 1) ((A : Int) / 18446744073709551616) ((A : Int) % 18446744073709551616)) ((real_Root.rootB A t x : Int), true)
  | 0, x, ht, hx => by
    refine Ev.step (f := fun k => some _) (fun k => ?_) (Ev.now _)
    simp only [cadastreref02_Root.l0]
    rw [if_neg (by omega), show wrap64 (x : Int) = x by rw [w64i]; omega, real_Root.rootB]
  | t + 1, x, ht, hx => by
    have e2 : 2 ^ (t + 1) = 2 ^ t + 2 ^ t := by rw [Nat.pow_succ]; omega
    have hq : (x : Int) + ((2 ^ t : Nat) : Int) = ((x + 2 ^ t : Nat) : Int) := by rw [Int.natCast_add]
    have hs := shl_pow t (by omega)
    have hB : real_Root.rootB A (t + 1) x = real_Root.rootB A t (if (x + 2 ^ t) * (x + 2 ^ t) ≤ A then x + 2 ^ t else x) := rfl
    have hp0 : 0 < 2 ^ t := Nat.two_pow_pos t
    rw [hB]
    rw [e2] at hx
    have ih1 := refroot_l0 A hA t (x + 2 ^ t) (by omega) (by omega)
    have ih0 := refroot_l0 A hA t x (by omega) (by omega)
    clear hB e2
    generalize 2 ^ t = p at *
    have hp := product_ok ((x + p : Nat) : Int) ((x + p : Nat) : Int) (by omega) (by omega) (by omega) (by omega)
    have hx1 : ((t + 1 : Nat) : Int) - 1 = (t : Int) := by omega
    have hw : wrap64 ((t : Int) - 1) = (t : Int) - 1 := by rw [w64i]; omega
    rw [hx1]
    refine Ev.step (f := fun k => (cadastreref01_Product.f k ((x + p : Nat) : Int) ((x + p : Nat) : Int)).bind fun b => (cadastreref01_Cmp.f b.1 b.2 ((A : Int) / 18446744073709551616) ((A : Int) % 18446744073709551616)).bind fun c => if c ≤ 0 then cadastreref02_Root.l0 k ((x + p : Nat) : Int) ((t : Int) - 1) ((A : Int) / 18446744073709551616) ((A : Int) % 18446744073709551616) else cadastreref02_Root.l0 k (x : Int) ((t : Int) - 1) ((A : Int) / 18446744073709551616) ((A : Int) % 18446744073709551616)) (fun k => ?_) ?_
    · simp only [cadastreref02_Root.l0]
      rw [if_pos (by omega), wuN (n := (t : Int)) (by omega) (by omega), if_pos (by omega), hs, hq, wuN (n := ((x + p : Nat) : Int)) (by omega) (by omega), hw]
    · refine Ev.bind hp ?_
      dsimp only
      rw [cmp_ok, ← Int.natCast_mul]
      simp only [Option.bind_some]
      by_cases hc : (x + p) * (x + p) ≤ A
      · rw [if_pos hc]
        refine Ev.congr (fun k => ?_) ih1
        rw [if_pos]
        split
        · omega
        · split <;> omega
      · rw [if_neg hc]
        refine Ev.congr (fun k => ?_) ih0
        rw [if_neg]
        rw [if_neg (by omega), if_neg (by omega)]
        omega

theorem refroot_ok (a0 : Int) (h0 : 0 ≤ a0) (h1 : a0 ≤ 9223372036854775807) : Ev (fun k => cadastreref02_Root.f k a0) ((real_Root.isqrt (a0.toNat * 10000) : Int), true) := by
  have hp := product_ok a0 10000 (by omega) (by omega) (by omega) (by omega)
  have e : a0 * 10000 = ((a0.toNat * 10000 : Nat) : Int) := by omega
  rw [e] at hp
  have hr := refroot_l0 (a0.toNat * 10000) (by omega) 41 0 (by omega) (by decide)
  refine Ev.congr (g := fun k => cadastreref02_Root.f k a0) (f := fun k => (cadastreref01_Product.f k a0 10000).bind fun b => cadastreref02_Root.l0 k 0 40 b.1 b.2) (fun k => ?_) ?_
  · unfold cadastreref02_Root.f
    rw [if_neg (by omega), wuN (by omega) (by omega)]
  · exact Ev.bind hp hr

theorem lives_ok : cadastrelaw02_lives.f = some true := by
  unfold cadastrelaw02_lives.f
  rw [show real_From.f 4591870180066957722 = some (1000, true) by decide +kernel, show real_Root.f 20000 = some (14142, true) by decide +kernel]
  rfl
end Go.Proofs.Ytkhbkhbkcpmiiaa.PReal
