/- Which rung of the floats a quotient a / d is nearest to: there is one at most. Plain whole numbers. -/
import Derived.Test.YtkhbkhbkcpmiiaaBig2
namespace Go.Proofs.Ytkhbkhbkcpmiiaa.PReal
set_option linter.unusedVariables false
set_option linter.unusedSimpArgs false

theorem rhe_scale (c a b : Nat) (hc : 0 < c) : rhe (c * a) (c * b) = rhe a b := by
  unfold rhe
  rw [Nat.mul_div_mul_left _ _ hc, Nat.mul_mod_mul_left, Nat.mul_left_comm 2 c]
  have h1 : c * b < c * (2 * (a % b)) ↔ b < 2 * (a % b) := Nat.mul_lt_mul_left hc
  have h2 : c * (2 * (a % b)) = c * b ↔ 2 * (a % b) = b := Nat.mul_right_inj (by omega)
  simp only [h1, h2]
theorem rhe_ratio (X Y X' Y' : Nat) (hY : 0 < Y) (hY' : 0 < Y') (h : X * Y' = X' * Y) : rhe X Y = rhe X' Y' := by
  rw [← rhe_scale Y' X Y hY', ← rhe_scale Y X' Y' hY, Nat.mul_comm Y' X, h, Nat.mul_comm X' Y, Nat.mul_comm Y' Y]
/-- The rung r is nearest to a / d. -/
def IsRung (a d r : Nat) : Prop := ∃ e X Y : Nat, 1 ≤ e ∧ 0 < Y ∧ X * d * 2 ^ e = a * Y * 2 ^ 1075 ∧ X < Y * 9007199254740992 ∧ (e = 1 ∨ Y * 4503599627370496 ≤ X) ∧
  r = min ((e - 1) * 4503599627370496 + rhe X Y) 9218868437227405312
theorem rung_cross (a d e k X Y X' Y' : Nat) (hd : 0 < d) (h : X * d * 2 ^ e = a * Y * 2 ^ 1075) (h' : X' * d * 2 ^ (e + k) = a * Y' * 2 ^ 1075) : X * Y' = X' * 2 ^ k * Y := by
  have hp := Nat.two_pow_pos e
  generalize 2 ^ 1075 = T at h h'
  have h1 : (X * Y') * (d * 2 ^ e) = (X' * 2 ^ k * Y) * (d * 2 ^ e) := by
    have a1 : (X * Y') * (d * 2 ^ e) = (X * d * 2 ^ e) * Y' := by ac_rfl
    have a2 : (X' * 2 ^ k * Y) * (d * 2 ^ e) = (X' * d * 2 ^ (e + k)) * Y := by rw [Nat.pow_add]; ac_rfl
    rw [a1, a2, h, h']
    ac_rfl
  exact Nat.eq_of_mul_eq_mul_right (Nat.mul_pos hd hp) h1
theorem rung_le (a d e k X Y X' Y' : Nat) (hd : 0 < d) (hY' : 0 < Y') (hY : 0 < Y) (h : X * d * 2 ^ e = a * Y * 2 ^ 1075) (h' : X' * d * 2 ^ (e + k) = a * Y' * 2 ^ 1075)
    (h1 : X < Y * 9007199254740992) (h2 : Y' * 4503599627370496 ≤ X') : k = 0 := by
  cases k with
  | zero => rfl
  | succ k =>
    exfalso
    have hc := rung_cross a d e (k + 1) X Y X' Y' hd h h'
    have hp := Nat.two_pow_pos k
    have b1 : Y' * 4503599627370496 * 2 ≤ X' * 2 ^ (k + 1) := by
      rw [Nat.pow_succ, Nat.mul_comm (2 ^ k) 2, ← Nat.mul_assoc]
      exact Nat.le_trans (Nat.mul_le_mul_right 2 h2) (Nat.le_mul_of_pos_right _ hp)
    have b2 := Nat.mul_le_mul_right Y b1
    rw [← hc] at b2
    have b3 : X * Y' < Y * 9007199254740992 * Y' := Nat.mul_lt_mul_of_pos_right h1 hY'
    have b4 : Y' * 4503599627370496 * 2 * Y = Y * 9007199254740992 * Y' := by
      rw [Nat.mul_assoc Y' _ 2, show 4503599627370496 * 2 = 9007199254740992 by decide]
      ac_rfl
    omega
theorem IsRung.unique {a d r r' : Nat} (hd : 0 < d) (h : IsRung a d r) (h' : IsRung a d r') : r = r' := by
  obtain ⟨e, X, Y, e1, hY, hX, hlt, hge, rfl⟩ := h
  obtain ⟨e', X', Y', e1', hY', hX', hlt', hge', rfl⟩ := h'
  have he : e = e' := by
    by_cases c : e ≤ e'
    · obtain ⟨k, rfl⟩ : ∃ k, e' = e + k := ⟨e' - e, by omega⟩
      rcases hge' with h | h
      · omega
      · have := rung_le a d e k X Y X' Y' hd hY' hY hX hX' hlt h
        omega
    · obtain ⟨k, rfl⟩ : ∃ k, e = e' + k := ⟨e - e', by omega⟩
      rcases hge with h | h
      · omega
      · have := rung_le a d e' k X' Y' X Y hd hY hY' hX' hX hlt' h
        omega
  subst he
  have hc := rung_cross a d e 0 X Y X' Y' hd hX hX'
  rw [Nat.pow_zero, Nat.mul_one] at hc
  rw [rhe_ratio X Y X' Y' hY hY' hc]
end Go.Proofs.Ytkhbkhbkcpmiiaa.PReal
