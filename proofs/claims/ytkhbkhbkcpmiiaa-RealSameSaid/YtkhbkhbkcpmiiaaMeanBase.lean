/- Sums of two floats and quotients by small whole numbers, as IEEE 754 has them, told by their parts: plain whole numbers. -/
import Derived.Test.YtkhbkhbkcpmiiaaNearest
import Derived.Laws.FloatArith
namespace Go.Proofs.Ytkhbkhbkcpmiiaa.PReal
open Ieee Go.Proofs.Ytkhbkhbkcpmiiaa.Flt
set_option linter.unusedVariables false
set_option linter.unusedSimpArgs false

/-- A word's sign, exponent and fraction. -/
def sg (x : Nat) : Bool := x / 9223372036854775808 % 2 == 1
def pE (x : Nat) : Nat := if x % 9223372036854775808 < 4503599627370496 then 1 else x % 9223372036854775808 / 4503599627370496
def pM (x : Nat) : Nat := if x % 9223372036854775808 < 4503599627370496 then x % 9223372036854775808 else 4503599627370496 + x % 9223372036854775808 % 4503599627370496
theorem pE_pos (x : Nat) : 1 ≤ pE x := by
  unfold pE
  split
  · exact Nat.le_refl _
  · omega
theorem pE_lt (x : Nat) : pE x < 2048 := by
  unfold pE
  split
  · decide
  · omega
theorem pM_lt (x : Nat) : pM x < 9007199254740992 := by
  unfold pM
  split <;> omega
theorem read_parts {x : Nat} (h : x % 9223372036854775808 < 9218868437227405312) : D.read x = .number (sg x) (pM x) ((pE x : Int) - 1075) := by
  unfold sg pM pE
  by_cases c : x % 9223372036854775808 < 4503599627370496
  · rw [if_pos c, if_pos c, read_sub c]
    rfl
  · rw [if_neg c, if_neg c, read_nor c h]
    congr 1
    omega
/-- The word of a total: of nought a sign of its own. -/
def outW (z : Bool) (neg : Bool) (mag : Nat) (low : Nat) : Nat :=
  if mag = 0 then (if z then 9223372036854775808 else 0) else if neg then 9223372036854775808 + D.nearest false mag ((low : Int) - 1075) else D.nearest false mag ((low : Int) - 1075)
theorem write_total (total : Int) (z neg : Bool) (mag low : Nat) (hm : total.natAbs = mag) (hn : mag ≠ 0 → decide (total < 0) = neg) :
    D.write (.number (if total = 0 then z else decide (total < 0)) total.natAbs ((low : Int) - 1075)) = outW z neg mag low := by
  unfold outW
  simp only [Format.write]
  by_cases c : mag = 0
  · rw [if_pos c, if_pos (by omega), show total.natAbs = 0 by omega, nearest_zero]
  · rw [if_neg c, if_neg (by omega), hm, hn c, nearest_sign]
/-- Sign and size of a sum. -/
def addS (s t : Bool) (A B : Nat) : Bool := if s = t then s else if B ≤ A then s else t
def addM (s t : Bool) (A B : Nat) : Nat := if s = t then A + B else if B ≤ A then A - B else B - A
def addW (x y : Nat) : Nat := outW (sg x && sg y) (addS (sg x) (sg y) (pM x * 2 ^ (pE x - min (pE x) (pE y))) (pM y * 2 ^ (pE y - min (pE x) (pE y)))) (addM (sg x) (sg y) (pM x * 2 ^ (pE x - min (pE x) (pE y))) (pM y * 2 ^ (pE y - min (pE x) (pE y)))) (min (pE x) (pE y))
theorem add_fin {x y : Nat} (hx : x % 9223372036854775808 < 9218868437227405312) (hy : y % 9223372036854775808 < 9218868437227405312) : D.add x y = some (addW x y) := by
  unfold Format.add
  rw [read_parts hx, read_parts hy]
  simp only [Datum.sum, Option.map_some]
  have hmin : min ((pE x : Int) - 1075) ((pE y : Int) - 1075) = ((min (pE x) (pE y) : Nat) : Int) - 1075 := by omega
  rw [hmin]
  have e1 : ((pE x : Int) - 1075 - (((min (pE x) (pE y) : Nat) : Int) - 1075)).toNat = pE x - min (pE x) (pE y) := by omega
  have e2 : ((pE y : Int) - 1075 - (((min (pE x) (pE y) : Nat) : Int) - 1075)).toNat = pE y - min (pE x) (pE y) := by omega
  rw [e1, e2]
  unfold addW Ieee.signed
  rw [Nat.shiftLeft_eq, Nat.shiftLeft_eq]
  generalize pM x * 2 ^ (pE x - min (pE x) (pE y)) = A
  generalize pM y * 2 ^ (pE y - min (pE x) (pE y)) = B
  generalize min (pE x) (pE y) = low
  generalize sg x = s
  generalize sg y = t
  refine congrArg some (write_total _ _ _ _ _ ?_ ?_)
  · unfold addM
    cases s <;> cases t <;> simp <;> (try split) <;> omega
  · intro hne
    unfold addS
    unfold addM at hne
    by_cases c : B ≤ A
    · cases s <;> cases t <;> simp [c] at hne ⊢ <;> omega
    · cases s <;> cases t <;> simp [c] at hne ⊢ <;> omega

/-! ### quotients -/
theorem rhe_sticky (N n k : Nat) (hn : 0 < n) (hk : 0 < k) : rhe (2 * (N / n) + (N % n != 0).toNat) (4 * k) = rhe (2 * N) (n * (4 * k)) := by
  have h1 := Nat.div_add_mod N n
  have h2 := Nat.mod_lt N hn
  have hst : (N % n != 0).toNat = 0 ∧ N % n = 0 ∨ (N % n != 0).toNat = 1 ∧ 0 < N % n := by
    by_cases c : N % n = 0
    · left
      rw [c]
      exact ⟨rfl, rfl⟩
    · right
      rw [bne_iff_ne.mpr c]
      exact ⟨rfl, by omega⟩
  generalize (N % n != 0).toNat = st at *
  generalize hQ : N / n = Q at *
  generalize hr : N % n = r at *
  have h3 := Nat.div_add_mod Q (2 * k)
  have h4 := Nat.mod_lt Q (show 0 < 2 * k by omega)
  generalize hw : Q / (2 * k) = w at *
  generalize hs : Q % (2 * k) = s at *
  have m1 : 2 * Q + st = 4 * k * w + (2 * s + st) := by
    rw [← h3]
    have : 4 * k * w = 2 * (2 * k * w) := by rw [← Nat.mul_assoc, ← Nat.mul_assoc]
    omega
  have d1 : (2 * Q + st) / (4 * k) = w ∧ (2 * Q + st) % (4 * k) = 2 * s + st := by
    rw [m1]
    constructor
    · rw [Nat.mul_add_div (by omega), Nat.div_eq_of_lt (by omega), Nat.add_zero]
    · rw [Nat.mul_add_mod, Nat.mod_eq_of_lt (by omega)]
  have m2 : 2 * N = n * (4 * k) * w + (2 * (n * s) + 2 * r) := by
    rw [← h1, ← h3, Nat.mul_add n]
    have e : n * (4 * k) * w = 2 * (n * (2 * k * w)) := by
      rw [show 4 = 2 * 2 by decide]
      ac_rfl
    omega
  have lt1 : 2 * (n * s) + 2 * r < n * (4 * k) := by
    have a := Nat.mul_le_mul_left n (show s + 1 ≤ 2 * k by omega)
    rw [Nat.mul_add, Nat.mul_one] at a
    have e : n * (4 * k) = 2 * (n * (2 * k)) := by
      rw [show 4 = 2 * 2 by decide]
      ac_rfl
    omega
  have d2 : 2 * N / (n * (4 * k)) = w ∧ 2 * N % (n * (4 * k)) = 2 * (n * s) + 2 * r := by
    rw [m2]
    constructor
    · rw [Nat.mul_add_div (Nat.mul_pos hn (by omega)), Nat.div_eq_of_lt lt1, Nat.add_zero]
    · rw [Nat.mul_add_mod, Nat.mod_eq_of_lt lt1]
  unfold rhe
  rw [d1.1, d1.2, d2.1, d2.2]
  have e4 : n * (4 * k) = 4 * (n * k) := by ac_rfl
  rw [e4]
  clear d1 d2 m1 m2 lt1 h1 h3 hQ hr hw hs
  rcases Nat.lt_trichotomy s k with c | c | c
  · have a := Nat.mul_le_mul_left n (show s + 1 ≤ k by omega)
    rw [Nat.mul_add, Nat.mul_one] at a
    rw [if_neg (by omega), if_neg (by omega), if_neg (by omega), if_neg (by omega)]
  · subst c
    rcases hst with ⟨rfl, rfl⟩ | ⟨rfl, hr⟩
    · rw [if_neg (by omega), if_pos (by omega), if_neg (by omega), if_pos (by omega)]
    · rw [if_pos (by omega), if_pos (by omega)]
  · have a := Nat.mul_le_mul_left n (show k + 1 ≤ s by omega)
    rw [Nat.mul_add, Nat.mul_one] at a
    rw [if_pos (by omega), if_pos (by omega)]
theorem sticky_lt (N n k : Nat) (hn : 0 < n) (h : 2 * (N / n) + (N % n != 0).toNat < 4 * k) : 2 * N < n * (4 * k) := by
  have h1 := Nat.div_add_mod N n
  have h2 := Nat.mod_lt N hn
  have a := Nat.mul_le_mul_left n (show N / n + 1 ≤ 2 * k by omega)
  rw [Nat.mul_add, Nat.mul_one] at a
  have e : n * (4 * k) = 2 * (n * (2 * k)) := by
    rw [show 4 = 2 * 2 by decide]
    ac_rfl
  omega
theorem sticky_ge (N n k : Nat) (hn : 0 < n) (h : 4 * k ≤ 2 * (N / n) + (N % n != 0).toNat) : n * (4 * k) ≤ 2 * N := by
  have h1 := Nat.div_add_mod N n
  have ht : (N % n != 0).toNat ≤ 1 := by cases (N % n != 0) <;> decide
  have a := Nat.mul_le_mul_left n (show 2 * k ≤ N / n by omega)
  have e : n * (4 * k) = 2 * (n * (2 * k)) := by
    rw [show 4 = 2 * 2 by decide]
    ac_rfl
  omega
theorem pow_core3 (N d n a e q p w t : Nat) (hsum : e + q = p + w + t) (h : a * n * 2 ^ q = 2 * N * d * 2 ^ p) : 2 * N * d * 2 ^ e = a * (n * 2 ^ w) * 2 ^ t := by
  refine Nat.eq_of_mul_eq_mul_right (Nat.two_pow_pos q) ?_
  have a1 : 2 * N * d * 2 ^ e * 2 ^ q = 2 * N * d * (2 ^ (e + q)) := by rw [Nat.pow_add, Nat.mul_assoc]
  have a2 : a * (n * 2 ^ w) * 2 ^ t * 2 ^ q = (a * n * 2 ^ q) * (2 ^ w * 2 ^ t) := by ac_rfl
  rw [a1, a2, h, hsum, Nat.pow_add, Nat.pow_add]
  ac_rfl
/-- A quotient with a lowest bit that tells of the rest is rounded as the quotient itself. -/
theorem sticky_rung (N n : Nat) (P : Int) (a d p q : Nat) (hn : 0 < n) (hN : 2 ^ (54 + n.log2) ≤ N) (hP : P = (p : Int) - (q : Int)) (h : a * n * 2 ^ q = 2 * N * d * 2 ^ p) :
    IsRung a d (D.nearest false (2 * (N / n) + (N % n != 0).toNat) P) := by
  have hQ : 9007199254740992 ≤ N / n := by
    rw [Nat.le_div_iff_mul_le hn]
    refine Nat.le_trans ?_ hN
    have h1 : n < 2 ^ (n.log2 + 1) := Nat.lt_log2_self
    rw [show 54 + n.log2 = 53 + (n.log2 + 1) by omega, Nat.pow_add, show (2 : Nat) ^ 53 = 9007199254740992 by decide]
    exact Nat.mul_le_mul_left _ (Nat.le_of_lt h1)
  generalize hM : 2 * (N / n) + (N % n != 0).toNat = M
  have hM54 : 18014398509481984 ≤ M := by omega
  have hM0 : M ≠ 0 := by omega
  have hlo := Nat.log2_self_le hM0
  have hhi : M < 2 ^ (M.log2 + 1) := Nat.lt_log2_self
  have hl : 54 ≤ M.log2 := (Nat.le_log2 hM0).mpr (by rw [show (2 : Nat) ^ 54 = 18014398509481984 by decide]; exact hM54)
  unfold Format.nearest
  rw [if_neg hM0, lp, bn, ir, show D.fractionBits = 52 by rfl]
  generalize M.log2 = l at *
  simp only [Format.word, Bool.false_eq_true, ↓reduceIte]
  generalize hL : max (P + (l : Int) - ((52 : Nat) : Int)) (-1074) = L
  rw [show (P - L).toNat = 0 by omega, Nat.shiftLeft_zero, cut_rhe _ _ _ hM0]
  generalize hw : (L - P).toNat = w
  have he1 : (L - -1074).toNat = (L + 1075).toNat - 1 := by omega
  rw [he1]
  generalize he : (L + 1075).toNat = e
  have hw2 : 2 ≤ w := by omega
  have hpw : 2 ^ w = 4 * 2 ^ (w - 2) := by
    rw [show (4 : Nat) = 2 ^ 2 by decide, ← Nat.pow_add, show 2 + (w - 2) = w by omega]
  have hk := Nat.two_pow_pos (w - 2)
  refine ⟨e, 2 * N, n * 2 ^ w, by omega, Nat.mul_pos hn (Nat.two_pow_pos _), pow_core3 N d n a e q p w 1075 (by omega) h, ?_, ?_, ?_⟩
  · rw [hpw, Nat.mul_assoc, Nat.mul_assoc]
    refine sticky_lt N n (2 ^ (w - 2) * 9007199254740992) hn ?_
    rw [hM]
    have p1 := Nat.pow_le_pow_right (show 0 < 2 by decide) (show l + 1 ≤ w + 53 by omega)
    rw [Nat.pow_add 2 w 53, show (2 : Nat) ^ 53 = 9007199254740992 by decide, hpw, Nat.mul_assoc] at p1
    exact Nat.lt_of_lt_of_le hhi p1
  · by_cases c : L = -1074
    · left
      omega
    · right
      rw [hpw, Nat.mul_assoc, Nat.mul_assoc]
      refine sticky_ge N n (2 ^ (w - 2) * 4503599627370496) hn ?_
      rw [hM]
      have p1 : 2 ^ (w + 52) = 2 ^ l := congrArg (2 ^ ·) (show w + 52 = l by omega)
      rw [Nat.pow_add 2 w 52, show (2 : Nat) ^ 52 = 4503599627370496 by decide, hpw, Nat.mul_assoc] at p1
      rw [p1]
      exact hlo
  · rw [← hM, hpw, rhe_sticky N n _ hn hk]
/-- Small whole numbers as floats. -/
theorem small_read : ∀ n : Fin 61, n.val ≠ 0 → D.read (D.nearest false n.val 0) = .number false (n.val * 2 ^ (52 - n.val.log2)) ((n.val.log2 : Int) - 52) := by decide +kernel
theorem small_log : ∀ n : Fin 61, n.val ≠ 0 → (n.val * 2 ^ (52 - n.val.log2)).log2 = 52 := by decide +kernel
theorem small_le : ∀ n : Fin 61, n.val.log2 ≤ 52 := by decide +kernel
theorem small_float (n : Nat) : floatOfInt .f64 (n : Int) = D.nearest false n 0 := by
  show D.nearest (decide ((n : Int) < 0)) ((n : Int)).natAbs 0 = _
  rw [decide_eq_false (by omega), Int.natAbs_natCast]
theorem pow_core4 (m d a n E u more t : Nat) (h : a * 2 ^ t * n = m * d * 2 ^ E) : a * (n * 2 ^ u) * 2 ^ (t + more + 1) = 2 * (m * 2 ^ more) * d * 2 ^ (E + u) := by
  have a1 : a * (n * 2 ^ u) * 2 ^ (t + more + 1) = (a * 2 ^ t * n) * (2 ^ u * 2 ^ more * 2) := by
    rw [Nat.pow_add, Nat.pow_add, Nat.pow_one]
    ac_rfl
  rw [a1, h, Nat.pow_add]
  ac_rfl
/-- A float by a small whole number. -/
theorem div_fin {x n a d : Nat} (hx : x % 9223372036854775808 < 9218868437227405312) (hn : 0 < n) (hn1 : n ≤ 60) (hm : pM x ≠ 0) (h : a * 2 ^ 1075 * n = pM x * d * 2 ^ pE x) :
    ∃ r, IsRung a d r ∧ D.div x (floatOfInt .f64 (n : Int)) = some (if sg x then 9223372036854775808 + r else r) := by
  have h1 := small_read ⟨n, by omega⟩ (by show n ≠ 0; omega)
  have h2 := small_log ⟨n, by omega⟩ (by show n ≠ 0; omega)
  have h3 := small_le ⟨n, by omega⟩
  dsimp only at h1 h2 h3
  have hn2 : n * 2 ^ (52 - n.log2) ≠ 0 := Nat.mul_ne_zero (by omega) (by have := Nat.two_pow_pos (52 - n.log2); omega)
  have hc := pow_core4 (pM x) d a n (pE x) (52 - n.log2) (54 + 52 - (pM x).log2) 1075 h
  unfold Format.div
  rw [small_float, h1, read_parts hx]
  simp only [Datum.quotient, if_neg hn2, h2, Bool.xor_false, Option.map_some, Format.write]
  rw [nearest_sign, Nat.shiftLeft_eq, show D.fractionBits + 2 = 54 by rfl]
  refine ⟨_, sticky_rung (pM x * 2 ^ (54 + 52 - (pM x).log2)) (n * 2 ^ (52 - n.log2)) _ a d (pE x + (52 - n.log2)) (1075 + (54 + 52 - (pM x).log2) + 1) (by omega) ?_ ?_ hc, rfl⟩
  · rw [h2]
    have hlo := Nat.log2_self_le hm
    have p1 := Nat.pow_le_pow_right (show 0 < 2 by decide) (show 54 + 52 ≤ (pM x).log2 + (54 + 52 - (pM x).log2) by omega)
    rw [Nat.pow_add 2 (pM x).log2] at p1
    exact Nat.le_trans p1 (Nat.mul_le_mul_right _ hlo)
  · omega
end Go.Proofs.Ytkhbkhbkcpmiiaa.PReal
