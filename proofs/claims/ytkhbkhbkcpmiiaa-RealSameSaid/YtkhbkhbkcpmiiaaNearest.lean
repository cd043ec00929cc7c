/- Which word is nearest to a number: it is the rung that is nearest to a quotient; exact numbers have their own; greater quotients have no lesser rungs. -/
import Derived.Test.YtkhbkhbkcpmiiaaRung
import Derived.Test.YtkhbkhbkcpmiiaaFltTo
namespace Go.Proofs.Ytkhbkhbkcpmiiaa.PReal
open Ieee Go.Proofs.Ytkhbkhbkcpmiiaa.Flt
set_option linter.unusedVariables false
set_option linter.unusedSimpArgs false

theorem cut_rhe (neg : Bool) (n drop : Nat) (hn : n ≠ 0) : Toward.even.cut neg n drop = rhe n (2 ^ drop) := by
  by_cases h : drop ≤ n.log2 + 2
  · rw [cut_even neg n drop h]
    unfold rhe
    generalize 2 ^ drop = p
    by_cases c1 : p < 2 * (n % p)
    · rw [if_pos c1, if_pos (show p < 2 * (n % p) ∨ (p = 2 * (n % p) ∧ n / p % 2 = 1) from .inl c1)]
    · rw [if_neg c1]
      by_cases c2 : 2 * (n % p) = p
      · rw [if_pos c2]
        split <;> omega
      · rw [if_neg c2, if_neg (by omega)]
        rfl
  · have hlt : n < 2 ^ (n.log2 + 1) := Nat.lt_log2_self
    have hg : 2 ^ (n.log2 + 2) = 2 * 2 ^ (n.log2 + 1) := by rw [Nat.pow_succ 2 (n.log2 + 1)]; omega
    have hd : 2 ^ (n.log2 + 2) ≤ 2 ^ drop := Nat.pow_le_pow_right (by decide) (by omega)
    unfold Toward.cut
    rw [Nat.min_eq_right (by omega), Nat.one_shiftLeft]
    simp only
    rw [Nat.div_eq_of_lt (by omega), Nat.mod_eq_of_lt (by omega), decide_eq_false (by omega)]
    unfold rhe
    rw [Nat.div_eq_of_lt (show n < 2 ^ drop by omega), Nat.mod_eq_of_lt (show n < 2 ^ drop by omega), if_neg (by omega), if_neg (by omega)]
    simp
theorem pow_core (mag d a u e q p w t : Nat) (hsum : u + e + q = p + w + t) (h : a * 2 ^ q = mag * d * 2 ^ p) : mag * 2 ^ u * d * 2 ^ e = a * 2 ^ w * 2 ^ t := by
  refine Nat.eq_of_mul_eq_mul_right (Nat.two_pow_pos q) ?_
  have a1 : mag * 2 ^ u * d * 2 ^ e * 2 ^ q = mag * d * (2 ^ (u + e + q)) := by rw [Nat.pow_add, Nat.pow_add]; ac_rfl
  have a2 : a * 2 ^ w * 2 ^ t * 2 ^ q = (a * 2 ^ q) * (2 ^ w * 2 ^ t) := by ac_rfl
  rw [a1, a2, h, hsum, Nat.pow_add, Nat.pow_add]
  ac_rfl
/-- The word nearest to mag times two to place, that is a / d. -/
theorem nearest_rung (mag : Nat) (place : Int) (a d p q : Nat) (hm : mag ≠ 0) (hpq : place = (p : Int) - (q : Int)) (h : a * 2 ^ q = mag * d * 2 ^ p) : IsRung a d (D.nearest false mag place) := by
  have hlo := Nat.log2_self_le hm
  have hhi : mag < 2 ^ (mag.log2 + 1) := Nat.lt_log2_self
  unfold Format.nearest
  rw [if_neg hm, lp, bn, ir, show D.fractionBits = 52 by rfl]
  generalize mag.log2 = l at *
  simp only [Format.word, Bool.false_eq_true, ↓reduceIte]
  generalize hL : max (place + (l : Int) - ((52 : Nat) : Int)) (-1074) = L
  have hn : mag <<< (place - L).toNat ≠ 0 := by
    rw [Nat.shiftLeft_eq]
    have := Nat.two_pow_pos (place - L).toNat
    exact Nat.mul_ne_zero hm (by omega)
  rw [cut_rhe _ _ _ hn, Nat.shiftLeft_eq]
  generalize hu : (place - L).toNat = u
  generalize hw : (L - place).toNat = w
  have he1 : (L - -1074).toNat = (L + 1075).toNat - 1 := by omega
  rw [he1]
  generalize he : (L + 1075).toNat = e
  have hsum : u + e + q = p + w + 1075 := by omega
  refine ⟨e, mag * 2 ^ u, 2 ^ w, by omega, Nat.two_pow_pos _, pow_core mag d a u e q p w 1075 hsum h, ?_, ?_, rfl⟩
  · have p1 := Nat.pow_le_pow_right (show 0 < 2 by decide) (show l + 1 + u ≤ w + 53 by omega)
    rw [Nat.pow_add 2 (l + 1) u, Nat.pow_add 2 w 53, show (2 : Nat) ^ 53 = 9007199254740992 by decide] at p1
    have p2 := Nat.mul_lt_mul_of_pos_right hhi (Nat.two_pow_pos u)
    omega
  · by_cases c : L = -1074
    · left
      omega
    · right
      have p1 : 2 ^ (w + 52) = 2 ^ (l + u) := congrArg (2 ^ ·) (show w + 52 = l + u by omega)
      rw [Nat.pow_add 2 l u, Nat.pow_add 2 w 52, show (2 : Nat) ^ 52 = 4503599627370496 by decide] at p1
      rw [p1]
      exact Nat.mul_le_mul_right _ hlo
theorem sw' (r : Nat) : D.word true r = 9223372036854775808 + r := by
  unfold Format.word
  rw [sw, if_pos rfl]
theorem sw'' (r : Nat) : D.word false r = r := by
  unfold Format.word
  rw [if_neg (by decide)]
theorem cut_sign (neg : Bool) (n drop : Nat) : Toward.even.cut neg n drop = Toward.even.cut false n drop := by
  unfold Toward.cut
  simp only
theorem nearest_sign (neg : Bool) (m : Nat) (p : Int) : D.nearest neg m p = if neg then 9223372036854775808 + D.nearest false m p else D.nearest false m p := by
  cases neg with
  | false => simp only [Bool.false_eq_true, ↓reduceIte]
  | true =>
    simp only [↓reduceIte]
    unfold Format.nearest
    by_cases h : m = 0
    · rw [if_pos h, if_pos h, sw', sw'']
    · rw [if_neg h, if_neg h]
      simp only [cut_sign true, sw', sw'']
/-- A number that a word stands for has this word. -/
theorem rung_exact {a d e f : Nat} (h1 : 1 ≤ e) (h2 : e ≤ 2046) (hf : f < 9007199254740992) (hge : e = 1 ∨ 4503599627370496 ≤ f) (h : f * d * 2 ^ e = a * 2 ^ 1075) : IsRung a d ((e - 1) * 4503599627370496 + f) := by
  refine ⟨e, f, 1, h1, by decide, by rw [Nat.mul_one]; exact h, by clear h; omega, by clear h; omega, ?_⟩
  clear h
  have : rhe f 1 = f := by
    unfold rhe
    rw [Nat.mod_one, Nat.div_one, if_neg (by decide), if_neg (by decide)]
  rw [this, Nat.min_eq_left (by omega)]
theorem rhe_le (A A' B : Nat) (hB : 0 < B) (h : A ≤ A') : rhe A B ≤ rhe A' B := by
  have h1 := Nat.div_le_div_right (c := B) h
  have h2 := Nat.div_add_mod A B
  have h3 := Nat.div_add_mod A' B
  unfold rhe
  by_cases c : A / B = A' / B
  · rw [← c] at h3 ⊢
    generalize A / B = q at *
    have h4 : A % B ≤ A' % B := by omega
    generalize A % B = r at *
    generalize A' % B = r' at *
    split <;> split <;> (try split) <;> (try split) <;> omega
  · generalize A / B = q at *
    generalize A' / B = q' at *
    split <;> split <;> (try split) <;> (try split) <;> omega
theorem rhe_cross (X Y X' Y' : Nat) (hY : 0 < Y) (hY' : 0 < Y') (h : X * Y' ≤ X' * Y) : rhe X Y ≤ rhe X' Y' := by
  rw [← rhe_scale Y' X Y hY', ← rhe_scale Y X' Y' hY, Nat.mul_comm Y' X, Nat.mul_comm Y X', Nat.mul_comm Y' Y]
  exact rhe_le _ _ _ (Nat.mul_pos hY hY') h
theorem cross_core (a d a' d' X Y X' Y' P T : Nat) (hd : 0 < d) (hd' : 0 < d') (hP : 0 < P) (h : X * d * P = a * Y * T) (h' : X' * d' * P = a' * Y' * T) (ha : a * d' ≤ a' * d) : X * Y' ≤ X' * Y := by
  have e1 : (X * Y') * (d * d' * P) = (a * d') * (Y * Y' * T) := by
    have : (X * Y') * (d * d' * P) = (X * d * P) * (Y' * d') := by ac_rfl
    rw [this, h]
    ac_rfl
  have e2 : (X' * Y) * (d * d' * P) = (a' * d) * (Y * Y' * T) := by
    have : (X' * Y) * (d * d' * P) = (X' * d' * P) * (Y * d) := by ac_rfl
    rw [this, h']
    ac_rfl
  have e3 := Nat.mul_le_mul_right (Y * Y' * T) ha
  rw [← e1, ← e2] at e3
  exact Nat.le_of_mul_le_mul_right e3 (Nat.mul_pos (Nat.mul_pos hd hd') hP)
theorem rung_min (A B : Nat) (h : A ≤ B) : min A 9218868437227405312 ≤ min B 9218868437227405312 := Nat.le_min.mpr ⟨Nat.le_trans (Nat.min_le_left _ _) h, Nat.min_le_right _ _⟩
theorem rung_binade (e e' r r' : Nat) (h : 1 ≤ e) (h1 : e < e') (h2 : r ≤ 9007199254740992) (h3 : 4503599627370496 ≤ r') : (e - 1) * 4503599627370496 + r ≤ (e' - 1) * 4503599627370496 + r' := by
  obtain ⟨k, rfl⟩ : ∃ k, e' = e + 1 + k := ⟨e' - e - 1, by omega⟩
  obtain ⟨j, rfl⟩ : ∃ j, e = j + 1 := ⟨e - 1, by omega⟩
  rw [show j + 1 - 1 = j by omega, show j + 1 + 1 + k - 1 = j + 1 + k by omega, Nat.add_mul, Nat.add_mul]
  omega
theorem rhe_hi (X Y : Nat) (hY : 0 < Y) (h : X < Y * 9007199254740992) : rhe X Y ≤ 9007199254740992 := by
  have : X / Y < 9007199254740992 := by
    rw [Nat.div_lt_iff_lt_mul hY, Nat.mul_comm]
    exact h
  unfold rhe
  split
  · omega
  · split <;> omega
theorem rhe_lo (X Y : Nat) (hY : 0 < Y) (h : Y * 4503599627370496 ≤ X) : 4503599627370496 ≤ rhe X Y := by
  have : 4503599627370496 ≤ X / Y := by
    rw [Nat.le_div_iff_mul_le hY, Nat.mul_comm]
    exact h
  unfold rhe
  split
  · omega
  · split <;> omega
theorem mono_no (X Y X' Y' k : Nat) (hY : 0 < Y) (hlt : X' < Y' * 9007199254740992) (hg : Y * 4503599627370496 ≤ X) (hc : X * 2 ^ (k + 1) * Y' ≤ X' * Y) : False := by
  have p1 : X * 2 ≤ X * 2 ^ (k + 1) := by
    rw [Nat.pow_succ, Nat.mul_comm (2 ^ k) 2, ← Nat.mul_assoc]
    exact Nat.le_mul_of_pos_right _ (Nat.two_pow_pos k)
  have p2 := Nat.mul_le_mul_right Y' p1
  have p3 := Nat.mul_le_mul_right (2 * Y') hg
  have p4 := Nat.mul_lt_mul_of_pos_right hlt hY
  have q1 : Y * 4503599627370496 * (2 * Y') = Y' * 9007199254740992 * Y := by
    rw [show 9007199254740992 = 4503599627370496 * 2 by decide]
    ac_rfl
  have q2 : X * (2 * Y') = X * 2 * Y' := by ac_rfl
  rw [q1, q2] at p3
  exact Nat.lt_irrefl _ (Nat.lt_of_le_of_lt (Nat.le_trans p3 (Nat.le_trans p2 hc)) p4)
/-- Greater quotients have no lesser rungs. -/
theorem IsRung.mono {a d r a' d' r' : Nat} (hd : 0 < d) (hd' : 0 < d') (ha : a * d' ≤ a' * d) (h : IsRung a d r) (h' : IsRung a' d' r') : r ≤ r' := by
  obtain ⟨e, X, Y, e1, hY, hX, hlt, hge, rfl⟩ := h
  obtain ⟨e', X', Y', e1', hY', hX', hlt', hge', rfl⟩ := h'
  generalize 2 ^ 1075 = T at hX hX'
  have hp := Nat.two_pow_pos e
  refine rung_min _ _ ?_
  by_cases c : e = e'
  · subst c
    exact Nat.add_le_add_left (rhe_cross X Y X' Y' hY hY' (cross_core a d a' d' X Y X' Y' _ _ hd hd' hp hX hX' ha)) _
  · by_cases g : e < e'
    · refine rung_binade e e' _ _ e1 g (rhe_hi X Y hY hlt) (rhe_lo X' Y' hY' ?_)
      rcases hge' with h | h
      · exact absurd (Nat.lt_of_le_of_lt e1 g) (by rw [h]; decide)
      · exact h
    · exfalso
      have hge1 : e' + 1 ≤ e := Nat.lt_of_le_of_ne (Nat.le_of_not_lt g) (fun h => c h.symm)
      obtain ⟨k, rfl⟩ := Nat.exists_eq_add_of_le hge1
      rcases hge with h | hg
      · exact absurd e1' (by rw [show e' = 0 by (clear hX hX' hge' hlt hlt' ha hp; omega)]; decide)
      have hX2 : X * 2 ^ (k + 1) * d * 2 ^ e' = a * Y * T := by
        rw [← hX, show e' + 1 + k = (k + 1) + e' by (clear hX hX' hge' hlt hlt' ha hp; omega), Nat.pow_add 2 (k + 1) e']
        ac_rfl
      exact mono_no X Y X' Y' k hY hlt' hg (cross_core a d a' d' (X * 2 ^ (k + 1)) Y X' Y' _ _ hd hd' (Nat.two_pow_pos e') hX2 hX' ha)
end Go.Proofs.Ytkhbkhbkcpmiiaa.PReal
