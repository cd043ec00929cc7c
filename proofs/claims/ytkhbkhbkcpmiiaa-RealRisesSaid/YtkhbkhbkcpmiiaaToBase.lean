/- What real.To's word is: the rung nearest to the number by 10000; and what real.From makes of it. -/
import Derived.Test.YtkhbkhbkcpmiiaaNearest
import Derived.Test.YtkhbkhbkcpmiiaaFromN
import Derived.Test.YtkhbkhbkcpmiiaaGrealTo
namespace Go.Proofs.Ytkhbkhbkcpmiiaa.Pure
open Go.RowKit Go.Proofs.Ytkhbkhbkcpmiiaa.PReal Go.Proofs.YtkhbkhbkcpmiiaaW.PrintWords Go.Proofs.YtkhbkhbkcpmiiaaW.PrintLast Go.Proofs.YtkhbkhbkcpmiiaaW.PrintMore
set_option linter.unusedVariables false
set_option linter.unusedSimpArgs false

theorem sticky (X M : Nat) (h : M = X / 10000 + (if X % 10000 = 0 then 0 else 1 - X / 10000 % 2)) :
    rhe X 20480000 = M / 2048 + (if 2048 < 2 * (M % 2048) ∨ (2048 = 2 * (M % 2048) ∧ M / 2048 % 2 = 1) then 1 else 0) := by
  have e1 : X / 20480000 = X / 10000 / 2048 := by omega
  have e2 : X % 20480000 = X / 10000 % 2048 * 10000 + X % 10000 := by omega
  unfold rhe
  rw [e1, e2]
  have hu : X % 10000 < 10000 := Nat.mod_lt _ (by decide)
  generalize X / 10000 = t at *
  generalize X % 10000 = u at *
  clear e1 e2
  by_cases c : u = 0
  · subst c
    rw [if_pos rfl, Nat.add_zero] at h
    subst h
    split
    · rw [if_pos (by omega)]
    · split
      · split <;> omega
      · rw [if_neg (by omega)]
        rfl
  · rw [if_neg c] at h
    have h2 : M / 2048 = t / 2048 := by omega
    rw [h2]
    split
    · rw [if_pos (by omega)]
    · rw [if_neg (by omega), if_neg (by omega)]
      rfl
theorem word_core (n up z e t : Nat) (h : up + z + e = 11 + t) : n * 2 ^ up * 2 ^ z * 10000 * 2 ^ e = n * 20480000 * 2 ^ t := by
  have a1 : n * 2 ^ up * 2 ^ z * 10000 * 2 ^ e = n * 10000 * 2 ^ (up + z + e) := by
    rw [Nat.pow_add, Nat.pow_add]
    ac_rfl
  rw [a1, h, Nat.pow_add, show (2 : Nat) ^ 11 = 2048 by decide, show 20480000 = 10000 * 2048 by decide]
  ac_rfl
/-- The word of a number's size: its rung, and the parts of it. -/
theorem word_parts (n : Nat) (h0 : 0 < n) (h1 : n < 9223372036854775808) : ∃ s : Nat, 14 ≤ s ∧ s ≤ 77 ∧ real_To.word n = (1085 - s) * 4503599627370496 + rhe (n * 2 ^ s) 20480000 ∧
    n * 2 ^ s < 184467440737095516160000 ∧ 92233720368547758080000 ≤ n * 2 ^ s := by
  obtain ⟨up, z, s1, s2, s3, s4, s5, s6, s7, s8, s9, s10, s11⟩ := real_To.sizes n h0 h1
  have hm : real_To.m n = n * 2 ^ up * 2 ^ z / 10000 + (if n * 2 ^ up * 2 ^ z % 10000 = 0 then 0 else 1 - n * 2 ^ up * 2 ^ z / 10000 % 2) := by
    unfold real_To.m
    rw [s1, s2]
  have hword : real_To.word n = Go.Proofs.Ytkhbkhbkcpmiiaa.Flt.D.nearest false (real_To.m n) 0 - (up + z) * 4503599627370496 := by
    unfold real_To.word
    rw [s1, s2]
  have hs := sticky _ _ hm
  have b : 92233720368547758080000 ≤ n * 2 ^ up * 2 ^ z ∧ n * 2 ^ up * 2 ^ z < 184467440737095516160000 := by
    generalize n * 2 ^ up = N at *
    rcases s5 with rfl | rfl
    · rw [show (2 : Nat) ^ 13 = 8192 by decide] at *
      clear s6 s7 hm hword hs
      omega
    · rw [show (2 : Nat) ^ 14 = 16384 by decide] at *
      clear s6 s7 hm hword hs
      omega
  have hM : 9223372036854775808 ≤ real_To.m n ∧ real_To.m n < 18446744073709551616 := by
    rw [hm]
    generalize n * 2 ^ up * 2 ^ z = X at *
    clear s6 s7 hm hword hs
    split <;> omega
  have hn := Go.Proofs.Ytkhbkhbkcpmiiaa.Flt.near_int (real_To.m n) hM.1 hM.2
  rw [← hs] at hn
  refine ⟨up + z, by omega, by omega, ?_, ?_, ?_⟩
  · rw [hword, hn, Nat.pow_add, ← Nat.mul_assoc]
    generalize rhe (n * 2 ^ up * 2 ^ z) 20480000 = f
    clear hn hs hm hM b hword s6 s7 s8 s9 s10 s11
    rcases s5 with rfl | rfl <;> omega
  · rw [Nat.pow_add, ← Nat.mul_assoc]
    exact b.2
  · rw [Nat.pow_add, ← Nat.mul_assoc]
    exact b.1
theorem word_core2 (n s e t : Nat) (h : s + e = 11 + t) : n * 2 ^ s * 10000 * 2 ^ e = n * 20480000 * 2 ^ t := by
  have := word_core n s 0 e t h
  rw [Nat.pow_zero, Nat.mul_one] at this
  exact this
theorem word_hi (X : Nat) (h : X < 184467440737095516160000) : rhe X 20480000 ≤ 9007199254740992 := rhe_hi X 20480000 (by decide) (Nat.lt_of_lt_of_le h (by decide))
theorem word_lo (X : Nat) (h : 92233720368547758080000 ≤ X) : 4503599627370496 ≤ rhe X 20480000 := rhe_lo X 20480000 (by decide) (Nat.le_trans (by decide) h)
theorem word_rung (n : Nat) (h0 : 0 < n) (h1 : n < 9223372036854775808) : IsRung n 10000 (real_To.word n) ∧ real_To.word n < 9218868437227405312 ∧ 4503599627370496 ≤ real_To.word n := by
  obtain ⟨s, a1, a2, hw, b1, b2⟩ := word_parts n h0 h1
  have f1 := word_hi _ b1
  have f2 := word_lo _ b2
  have hc := word_core2 n s (1086 - s) 1075 (by omega)
  rw [hw]
  have hlt : (1085 - s) * 4503599627370496 + rhe (n * 2 ^ s) 20480000 < 9218868437227405312 := by
    clear hc b1 b2 hw
    omega
  refine ⟨⟨1086 - s, n * 2 ^ s, 20480000, by omega, by decide, hc, Nat.lt_of_lt_of_le b1 (by decide), .inr (Nat.le_trans (by decide) b2), ?_⟩, hlt, by clear hc b1 b2 hw; omega⟩
  rw [show 1086 - s - 1 = 1085 - s by omega, Nat.min_eq_left (Nat.le_of_lt hlt)]
theorem rhe_bound (X Y : Nat) (hY : 0 < Y) : 2 * (rhe X Y * Y) ≤ 2 * X + Y ∧ 2 * X ≤ 2 * (rhe X Y * Y) + Y := by
  have h1 := Nat.div_add_mod X Y
  have h2 := Nat.mod_lt X hY
  rw [Nat.mul_comm] at h1
  unfold rhe
  have e1 : (X / Y + 1) * Y = X / Y * Y + Y := by rw [Nat.add_mul, Nat.one_mul]
  have e2 : X / Y % 2 = 0 ∨ X / Y % 2 = 1 := by omega
  split
  · rw [e1]
    omega
  · split
    · rcases e2 with e | e
      · rw [e, Nat.add_zero]
        omega
      · rw [e, e1]
        omega
    · omega
theorem rhe_near (A B n : Nat) (hB : 0 < B) (h1 : 2 * A < 2 * (n * B) + B) (h2 : 2 * (n * B) < 2 * A + B) : rhe A B = n := by
  by_cases c : n * B ≤ A
  · have hd : A / B = n := by
      rw [Nat.div_eq_iff hB]
      constructor
      · omega
      · rw [Nat.mul_comm] at c
        omega
    have h3 := Nat.div_add_mod A B
    rw [hd, Nat.mul_comm] at h3
    unfold rhe
    rw [hd, if_neg (by omega), if_neg (by omega)]
  · have hn : 0 < n := by
      rcases Nat.eq_zero_or_pos n with rfl | h
      · rw [Nat.zero_mul] at c
        omega
      · exact h
    obtain ⟨m, rfl⟩ : ∃ m, n = m + 1 := ⟨n - 1, by omega⟩
    rw [Nat.add_mul, Nat.one_mul] at c h1 h2
    have hd : A / B = m := by
      rw [Nat.div_eq_iff hB]
      omega
    have h3 := Nat.div_add_mod A B
    rw [hd, Nat.mul_comm] at h3
    unfold rhe
    rw [hd, if_pos (by omega)]
theorem back_core (n s f : Nat) (hn : n < 4503599627370496) (hs : 14 ≤ s) (b2 : 92233720368547758080000 ≤ n * 2 ^ s) (hf : f = rhe (n * 2 ^ s) 20480000) :
    rhe (f * 10000) (2 ^ (s - 11)) = n ∧ 10000 < 2 ^ (s - 11) := by
  have hb := rhe_bound (n * 2 ^ s) 20480000 (by decide)
  rw [← hf] at hb
  have hp : 2 ^ s = 2 ^ (s - 11) * 2048 := by
    rw [show (2048 : Nat) = 2 ^ 11 by decide, ← Nat.pow_add, show s - 11 + 11 = s by omega]
  have hx : n * 2 ^ s = n * 2 ^ (s - 11) * 2048 := by rw [hp, Nat.mul_assoc]
  rw [hx] at hb b2
  have hB := Nat.two_pow_pos (s - 11)
  generalize 2 ^ (s - 11) = B at *
  have h1 : n * B < 4503599627370496 * B := Nat.mul_lt_mul_of_pos_right hn hB
  clear hp hf hx
  have h2 : 10000 < B := by omega
  exact ⟨rhe_near _ _ _ hB (by omega) (by omega), h2⟩
/-- A size below 2^52 comes back. -/
theorem word_back (n : Nat) (neg : Bool) (h0 : 0 < n) (h1 : n < 4503599627370496) :
    fromN (if neg then 9223372036854775808 + real_To.word n else real_To.word n) = ((if neg then -(n : Int) else (n : Int)), true) := by
  obtain ⟨s, a1, a2, hw, b1, b2⟩ := word_parts n h0 (by omega)
  have f1 := word_hi _ b1
  have f2 := word_lo _ b2
  obtain ⟨k1, k2⟩ := back_core n s _ h1 a1 b2 rfl
  rw [hw]
  generalize rhe (n * 2 ^ s) 20480000 = f at *
  clear b1 b2 hw
  have fin : fromS neg n = ((if neg then -(n : Int) else (n : Int)), true) := by
    unfold fromS
    rw [if_neg (by omega)]
  generalize hr : (if neg then 9223372036854775808 + ((1085 - s) * 4503599627370496 + f) else (1085 - s) * 4503599627370496 + f) = r
  have hs : (r / 9223372036854775808 == 1) = neg := by
    subst hr
    cases neg
    · rw [beq_eq_false_iff_ne]
      simp only [Bool.false_eq_true, ↓reduceIte]
      omega
    · rw [beq_iff_eq]
      simp only [↓reduceIte]
      omega
  by_cases c : f < 9007199254740992
  · have hE : r / 4503599627370496 % 2048 = 1086 - s := by
      subst hr
      cases neg
      · simp only [Bool.false_eq_true, ↓reduceIte]
        omega
      · simp only [↓reduceIte]
        omega
    have hF : r % 4503599627370496 + 4503599627370496 = f := by
      subst hr
      cases neg
      · simp only [Bool.false_eq_true, ↓reduceIte]
        omega
      · simp only [↓reduceIte]
        omega
    unfold fromN
    rw [hE, hF, hs, if_neg (by omega), if_neg (by omega)]
    unfold sizeT
    rw [if_neg (by omega), show 1075 - (1086 - s) = s - 11 by omega, k1, fin]
  · have hf : f = 9007199254740992 := by omega
    subst hf
    have hE : r / 4503599627370496 % 2048 = 1087 - s := by
      subst hr
      cases neg
      · simp only [Bool.false_eq_true, ↓reduceIte]
        omega
      · simp only [↓reduceIte]
        omega
    have hF : r % 4503599627370496 + 4503599627370496 = 4503599627370496 := by
      subst hr
      cases neg
      · simp only [Bool.false_eq_true, ↓reduceIte]
        omega
      · simp only [↓reduceIte]
        omega
    have hp : 2 ^ (s - 11) = 2 * 2 ^ (s - 12) := by rw [show s - 11 = s - 12 + 1 by omega, Nat.pow_succ, Nat.mul_comm]
    have k3 : rhe (4503599627370496 * 10000) (2 ^ (s - 12)) = n := by
      rw [← rhe_scale 2 _ _ (by decide), ← hp]
      exact k1
    unfold fromN
    rw [hE, hF, hs, if_neg (by omega), if_neg (by omega)]
    unfold sizeT
    rw [if_neg (by omega), show 1075 - (1087 - s) = s - 12 by omega, k3, fin]
end Go.Proofs.Ytkhbkhbkcpmiiaa.Pure
