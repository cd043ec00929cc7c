/- Greater floats have no lesser numbers, and greater numbers no lesser floats: the call of cadastrelaw02.RealRises comes to true for all words and numbers. No condition. -/
import Derived.Test.YtkhbkhbkcpmiiaaRises
import Derived.Test.YtkhbkhbkcpmiiaaToN
namespace Go.Proofs.Ytkhbkhbkcpmiiaa.Pure
open Go.RowKit Go.Proofs.Ytkhbkhbkcpmiiaa.PReal Go.Proofs.YtkhbkhbkcpmiiaaW.PrintWords Go.Proofs.YtkhbkhbkcpmiiaaW.PrintLast Go.Proofs.YtkhbkhbkcpmiiaaW.PrintMore
set_option linter.unusedVariables false
set_option linter.unusedSimpArgs false

/-- A word's place among all, by their order. -/
def placeN (n : Nat) : Int := if n / 9223372036854775808 = 1 then -((n - 9223372036854775808 : Nat) : Int) else (n : Int)
theorem less_ok (a b : Nat) (ha : a < 18446744073709551616) (hb : b < 18446744073709551616) : cadastreref02_Less.f (a : Int) (b : Int) = some (decide (placeN a < placeN b)) := by
  have key : ∀ n : Nat, n < 18446744073709551616 → cadastreref02_place.f (n : Int) = some (placeN n) := by
    intro n hn
    unfold cadastreref02_place.f placeN
    by_cases c : n / 9223372036854775808 = 1
    · rw [if_pos (by omega), if_pos c, bwuN (by omega) (by omega), bwin (n := (n : Int) - 9223372036854775808) (by omega) (by omega), bwin (by omega) (by omega)]
      exact congrArg some (by omega)
    · rw [if_neg (by omega), if_neg c, bwin (by omega) (by omega)]
  unfold cadastreref02_Less.f
  rw [key a ha, key b hb]
  rfl
/-- The size of what a word tells, of its rung. -/
def sizeR (r : Nat) : Nat := if r < 4503599627370496 then sizeT r 1 else sizeT (r % 4503599627370496 + 4503599627370496) (r / 4503599627370496)
theorem fromN_rung (n : Nat) (hn : n < 18446744073709551616) (h : n % 9223372036854775808 < 9218868437227405312) : fromN n = fromS (n / 9223372036854775808 == 1) (sizeR (n % 9223372036854775808)) := by
  unfold fromN sizeR
  have e1 : n / 4503599627370496 % 2048 = n % 9223372036854775808 / 4503599627370496 := by omega
  have e2 : n % 4503599627370496 = n % 9223372036854775808 % 4503599627370496 := by omega
  rw [e1, e2]
  generalize n % 9223372036854775808 = r at *
  rw [if_neg (by omega)]
  by_cases c : r < 4503599627370496
  · rw [if_pos (by omega), if_pos c, Nat.mod_eq_of_lt c]
  · rw [if_neg (by omega), if_neg c]
theorem fromN_none (n : Nat) (hn : n < 18446744073709551616) (h : ¬ n % 9223372036854775808 < 9218868437227405312) : fromN n = (0, false) := by
  unfold fromN
  rw [if_pos (by omega)]
/-- Sizes by fractions and exponents do not fall. -/
theorem sizeT_frac (m m' E : Nat) (h : m ≤ m') : sizeT m E ≤ sizeT m' E := by
  unfold sizeT
  split
  · exact Nat.mul_le_mul_right _ (Nat.mul_le_mul_right _ h)
  · exact rhe_le _ _ _ (Nat.two_pow_pos _) (Nat.mul_le_mul_right _ h)
theorem sizeT_step (m E : Nat) : sizeT (2 * m) E = sizeT m (E + 1) := by
  unfold sizeT
  by_cases c : 1075 ≤ E
  · rw [if_pos c, if_pos (by omega), show E + 1 - 1075 = E - 1075 + 1 by omega, Nat.pow_succ]
    generalize 2 ^ (E - 1075) = p
    generalize 10000 = q
    rw [Nat.mul_assoc 2 m, Nat.mul_assoc 2, Nat.mul_comm 2, ← Nat.mul_assoc]
  · by_cases g : E = 1074
    · subst g
      rw [if_neg (by decide), if_pos (by decide), show 1075 - 1074 = 1 by decide, show 1074 + 1 - 1075 = 0 by decide, Nat.pow_one, Nat.pow_zero, Nat.mul_one, Nat.mul_assoc]
      unfold rhe
      rw [Nat.mul_mod_right, Nat.mul_div_cancel_left _ (by decide), if_neg (by decide), if_neg (by decide)]
    · rw [if_neg c, if_neg (by omega), show 1075 - E = 1075 - (E + 1) + 1 by omega, Nat.pow_succ, Nat.mul_comm (2 ^ _) 2, Nat.mul_assoc 2 m, rhe_scale 2 _ _ (by decide)]
theorem sizeT_exp (m E : Nat) (hE : 1 ≤ E) : ∀ k, sizeT m E ≤ sizeT m (E + k)
  | 0 => Nat.le_refl _
  | k + 1 => by
    refine Nat.le_trans (sizeT_exp m E hE k) ?_
    rw [← Nat.add_assoc, ← sizeT_step]
    exact sizeT_frac _ _ _ (by omega)
theorem sizeR_mono (r r' : Nat) (h : r ≤ r') : sizeR r ≤ sizeR r' := by
  unfold sizeR
  by_cases c : r < 4503599627370496
  · rw [if_pos c]
    by_cases c' : r' < 4503599627370496
    · rw [if_pos c']
      exact sizeT_frac _ _ _ h
    · rw [if_neg c']
      refine Nat.le_trans (sizeT_frac r (r' % 4503599627370496 + 4503599627370496) 1 (by omega)) ?_
      have := sizeT_exp (r' % 4503599627370496 + 4503599627370496) 1 (by decide) (r' / 4503599627370496 - 1)
      rw [show 1 + (r' / 4503599627370496 - 1) = r' / 4503599627370496 by omega] at this
      exact this
  · rw [if_neg c, if_neg (by omega)]
    by_cases e : r / 4503599627370496 = r' / 4503599627370496
    · rw [e]
      exact sizeT_frac _ _ _ (by omega)
    · have h1 : r / 4503599627370496 < r' / 4503599627370496 := by omega
      refine Nat.le_trans (sizeT_frac (r % 4503599627370496 + 4503599627370496) (2 * (r' % 4503599627370496 + 4503599627370496)) _ (by omega)) ?_
      rw [sizeT_step]
      have := sizeT_exp (r' % 4503599627370496 + 4503599627370496) (r / 4503599627370496 + 1) (by omega) (r' / 4503599627370496 - (r / 4503599627370496 + 1))
      rw [show r / 4503599627370496 + 1 + (r' / 4503599627370496 - (r / 4503599627370496 + 1)) = r' / 4503599627370496 by omega] at this
      exact this
theorem from_rises (a b : Nat) (ha : a < 18446744073709551616) (hb : b < 18446744073709551616) (h1 : (fromN a).2 = true) (h2 : (fromN b).2 = true) (h : placeN a < placeN b) : (fromN a).1 ≤ (fromN b).1 := by
  by_cases ca : a % 9223372036854775808 < 9218868437227405312
  · by_cases cb : b % 9223372036854775808 < 9218868437227405312
    · rw [fromN_rung a ha ca] at h1 ⊢
      rw [fromN_rung b hb cb] at h2 ⊢
      unfold placeN at h
      unfold fromS at h1 h2 ⊢
      have m1 := sizeR_mono (a % 9223372036854775808) (b % 9223372036854775808)
      have m2 := sizeR_mono (b % 9223372036854775808) (a % 9223372036854775808)
      generalize sizeR (a % 9223372036854775808) = x at *
      generalize sizeR (b % 9223372036854775808) = y at *
      by_cases gx : 9223372036854775808 ≤ x
      · rw [if_pos gx] at h1
        exact absurd h1 (by decide)
      by_cases gy : 9223372036854775808 ≤ y
      · rw [if_pos gy] at h2
        exact absurd h2 (by decide)
      rw [if_neg gx, if_neg gy]
      by_cases na : a / 9223372036854775808 = 1
      · rw [if_pos na] at h
        rw [beq_iff_eq.mpr na, if_pos rfl]
        by_cases nb : b / 9223372036854775808 = 1
        · rw [if_pos nb] at h
          rw [beq_iff_eq.mpr nb, if_pos rfl]
          have := m2 (by omega)
          dsimp only
          omega
        · rw [beq_eq_false_iff_ne.mpr nb, if_neg (by decide)]
          dsimp only
          omega
      · rw [if_neg na] at h
        rw [beq_eq_false_iff_ne.mpr na, if_neg (by decide)]
        by_cases nb : b / 9223372036854775808 = 1
        · rw [if_pos nb] at h
          omega
        · rw [if_neg nb] at h
          rw [beq_eq_false_iff_ne.mpr nb, if_neg (by decide)]
          have := m1 (by omega)
          dsimp only
          omega
    · rw [fromN_none b hb cb] at h2
      exact absurd h2 (by decide)
  · rw [fromN_none a ha ca] at h1
    exact absurd h1 (by decide)
theorem word_mono (n m : Nat) (h0 : 0 < n) (h : n ≤ m) (h1 : m < 9223372036854775808) : real_To.word n ≤ real_To.word m :=
  IsRung.mono (by decide) (by decide) (Nat.mul_le_mul_right _ h) (word_rung n h0 (by omega)).1 (word_rung m (by omega) h1).1
/-- The word that both tell, as a plain number. -/
def toW (a : Int) : Nat := if a = -9223372036854775808 then 0 else if a = 0 then 0 else if decide (a < 0) then 9223372036854775808 + real_To.word a.natAbs else real_To.word a.natAbs
theorem toN_word (a : Int) (h0 : -9223372036854775808 ≤ a) (h1 : a ≤ 9223372036854775807) : (toN a).1 = (toW a : Int) ∧ toW a < 18446744073709551616 := by
  unfold toN toW
  by_cases c : a = -9223372036854775808
  · rw [if_pos c, if_pos c]
    exact ⟨rfl, by decide⟩
  · rw [if_neg c, if_neg c]
    by_cases z : a = 0
    · rw [if_pos z, if_pos z]
      exact ⟨rfl, by decide⟩
    · rw [if_neg z, if_neg z]
      refine ⟨rfl, ?_⟩
      obtain ⟨w1, w2, w3⟩ := word_rung a.natAbs (by omega) (by omega)
      split <;> omega
theorem place_word (a : Int) (h0 : -9223372036854775808 < a) (h1 : a ≤ 9223372036854775807) :
    placeN (toW a) = if a = 0 then 0 else if a < 0 then -(real_To.word a.natAbs : Int) else (real_To.word a.natAbs : Int) := by
  have hc : ¬ a = -9223372036854775808 := by omega
  by_cases z : a = 0
  · have e : toW a = 0 := by
      unfold toW
      rw [if_neg hc, if_pos z]
    rw [e, if_pos z]
    rfl
  · obtain ⟨w1, w2, w3⟩ := word_rung a.natAbs (by omega) (by omega)
    by_cases n : a < 0
    · have e : toW a = 9223372036854775808 + real_To.word a.natAbs := by
        unfold toW
        rw [if_neg hc, if_neg z, decide_eq_true n, if_pos rfl]
      rw [e, if_neg z, if_pos n]
      unfold placeN
      rw [if_pos (by omega)]
      exact congrArg (fun (x : Nat) => -(x : Int)) (by omega)
    · have e : toW a = real_To.word a.natAbs := by
        unfold toW
        rw [if_neg hc, if_neg z, decide_eq_false n, if_neg (by decide)]
      rw [e, if_neg z, if_neg n]
      unfold placeN
      rw [if_neg (by omega)]
theorem to_rises (c d : Int) (c0 : -9223372036854775808 < c) (c1 : c ≤ 9223372036854775807) (d0 : -9223372036854775808 < d) (d1 : d ≤ 9223372036854775807) (h : c ≤ d) : ¬ placeN (toW d) < placeN (toW c) := by
  rw [place_word c c0 c1, place_word d d0 d1]
  by_cases zc : c = 0
  · rw [if_pos zc]
    by_cases zd : d = 0
    · rw [if_pos zd]
      omega
    · rw [if_neg zd, if_neg (by omega)]
      omega
  · rw [if_neg zc]
    by_cases nc : c < 0
    · rw [if_pos nc]
      by_cases zd : d = 0
      · rw [if_pos zd]
        omega
      · rw [if_neg zd]
        by_cases nd : d < 0
        · rw [if_pos nd]
          have := word_mono d.natAbs c.natAbs (by omega) (by omega) (by omega)
          omega
        · rw [if_neg nd]
          omega
    · rw [if_neg nc, if_neg (show ¬ d = 0 by omega), if_neg (show ¬ d < 0 by omega)]
      have := word_mono c.natAbs d.natAbs (by omega) (by omega) (by omega)
      omega
theorem toN_can (a : Int) (h : (toN a).2 = true) : a ≠ -9223372036854775808 := by
  rintro rfl
  unfold toN at h
  rw [if_pos rfl] at h
  exact absurd h (by decide)
theorem pair_eq {α : Type} (p : α × Bool) (b : Bool) (h : p.2 = b) : p = (p.1, b) := by rw [← h]
theorem RealRises (a b c d : Int) (w : World) (wa : (Lit.int .u64 a).wf = true) (wb : (Lit.int .u64 b).wf = true) (wc : (Lit.int .i64 c).wf = true) (wd : (Lit.int .i64 d).wf = true) :
    Calls Try.prog 8 #[.agg #[.int .u64 a, .int .u64 b], .int .i64 c, .int .i64 d] w fun e w' => e = .returned (.bool true) ∧ Below w.heap.size w w' := by
  have ha : 0 ≤ a ∧ a ≤ 18446744073709551615 := by
    simp [Lit.wf, IntKind.min, IntKind.max, IntKind.signed, IntKind.bits] at wa
    omega
  have hb : 0 ≤ b ∧ b ≤ 18446744073709551615 := by
    simp [Lit.wf, IntKind.min, IntKind.max, IntKind.signed, IntKind.bits] at wb
    omega
  have hc : -9223372036854775808 ≤ c ∧ c ≤ 9223372036854775807 := by
    simp [Lit.wf, IntKind.min, IntKind.max, IntKind.signed, IntKind.bits] at wc
    omega
  have hd : -9223372036854775808 ≤ d ∧ d ≤ 9223372036854775807 := by
    simp [Lit.wf, IntKind.min, IntKind.max, IntKind.signed, IntKind.bits] at wd
    omega
  obtain ⟨n, rfl⟩ := Int.eq_ofNat_of_zero_le ha.1
  obtain ⟨m, rfl⟩ := Int.eq_ofNat_of_zero_le hb.1
  have A := real_from n (by omega)
  have B := real_from m (by omega)
  have C := real_to c hc.1 hc.2
  have D := real_to d hd.1 hd.2
  have L := Aside0.mk lives_ok
  have L1 := less_ok n m (by omega) (by omega)
  have kc := toN_word c hc.1 hc.2
  have kd := toN_word d hd.1 hd.2
  have L2 := less_ok (toW d) (toW c) kd.2 kc.2
  rw [← kc.1, ← kd.1] at L2
  have hr := from_rises n m (by omega) (by omega)
  have ht : (toN c).2 = true → (toN d).2 = true → c ≤ d → ¬ placeN (toW d) < placeN (toW c) := by
    intro h1 h2 h
    have n1 := toN_can c h1
    have n2 := toN_can d h2
    exact to_rises c d (by omega) hc.2 (by omega) hd.2 h
  have F1 : (fromN n).2 = false ∨ ((fromN n).2 = true ∧ (fromN m).2 = false) ∨ ((fromN n).2 = true ∧ (fromN m).2 = true ∧ decide (placeN n < placeN m) = false) ∨
      ((fromN n).2 = true ∧ (fromN m).2 = true ∧ decide (placeN n < placeN m) = true ∧ decide ((fromN m).1 < (fromN n).1) = false) := by
    cases e1 : (fromN n).2
    · exact .inl rfl
    · cases e2 : (fromN m).2
      · exact .inr (.inl ⟨rfl, rfl⟩)
      · by_cases h : placeN n < placeN m
        · have := hr e1 e2 h
          exact .inr (.inr (.inr ⟨rfl, rfl, decide_eq_true h, decide_eq_false (by omega)⟩))
        · exact .inr (.inr (.inl ⟨rfl, rfl, decide_eq_false h⟩))
  have F2 : (toN c).2 = false ∨ ((toN c).2 = true ∧ (toN d).2 = false) ∨ ((toN c).2 = true ∧ (toN d).2 = true ∧ decide (d < c) = true) ∨
      ((toN c).2 = true ∧ (toN d).2 = true ∧ decide (d < c) = false ∧ decide (placeN (toW d) < placeN (toW c)) = false) := by
    cases e1 : (toN c).2
    · exact .inl rfl
    · cases e2 : (toN d).2
      · exact .inr (.inl ⟨rfl, rfl⟩)
      · by_cases h : d < c
        · exact .inr (.inr (.inl ⟨rfl, rfl, decide_eq_true h⟩))
        · exact .inr (.inr (.inr ⟨rfl, rfl, decide_eq_false h, decide_eq_false (ht e1 e2 (by omega))⟩))
  clear hr ht kc kd ha hb hc hd wa wb wc wd
  generalize decide (placeN n < placeN m) = l1 at *
  generalize decide (placeN (toW d) < placeN (toW c)) = l2 at *
  generalize fromN n = P at *
  generalize fromN m = Q at *
  generalize toN c = R at *
  generalize toN d = S at *
  obtain ⟨P1, P2⟩ := P
  obtain ⟨Q1, Q2⟩ := Q
  obtain ⟨R1, R2⟩ := R
  obtain ⟨S1, S2⟩ := S
  dsimp only at *
  rcases F1 with rfl | ⟨rfl, rfl⟩ | ⟨rfl, rfl, rfl⟩ | ⟨rfl, rfl, rfl, X⟩
  · rcases F2 with rfl | ⟨rfl, rfl⟩ | ⟨rfl, rfl, Y⟩ | ⟨rfl, rfl, Y, rfl⟩
    · exact rises_walk00 _ _ _ _ _ _ _ _ _ _ w ⟨A⟩ ⟨B⟩ ⟨C⟩ ⟨D⟩ L
    · exact rises_walk01 _ _ _ _ _ _ _ _ _ w ⟨A⟩ ⟨B⟩ ⟨C⟩ ⟨D⟩ L
    · exact rises_walk02 _ _ _ _ _ _ _ _ _ w ⟨A⟩ ⟨B⟩ ⟨C⟩ ⟨D⟩ Y L
    · exact rises_walk03 _ _ _ _ _ _ _ _ _ w ⟨A⟩ ⟨B⟩ ⟨C⟩ ⟨D⟩ Y ⟨L2⟩ L
  · rcases F2 with rfl | ⟨rfl, rfl⟩ | ⟨rfl, rfl, Y⟩ | ⟨rfl, rfl, Y, rfl⟩
    · exact rises_walk10 _ _ _ _ _ _ _ _ _ w ⟨A⟩ ⟨B⟩ ⟨C⟩ ⟨D⟩ L
    · exact rises_walk11 _ _ _ _ _ _ _ _ w ⟨A⟩ ⟨B⟩ ⟨C⟩ ⟨D⟩ L
    · exact rises_walk12 _ _ _ _ _ _ _ _ w ⟨A⟩ ⟨B⟩ ⟨C⟩ ⟨D⟩ Y L
    · exact rises_walk13 _ _ _ _ _ _ _ _ w ⟨A⟩ ⟨B⟩ ⟨C⟩ ⟨D⟩ Y ⟨L2⟩ L
  · rcases F2 with rfl | ⟨rfl, rfl⟩ | ⟨rfl, rfl, Y⟩ | ⟨rfl, rfl, Y, rfl⟩
    · exact rises_walk20 _ _ _ _ _ _ _ _ _ w ⟨A⟩ ⟨B⟩ ⟨L1⟩ ⟨C⟩ ⟨D⟩ L
    · exact rises_walk21 _ _ _ _ _ _ _ _ w ⟨A⟩ ⟨B⟩ ⟨L1⟩ ⟨C⟩ ⟨D⟩ L
    · exact rises_walk22 _ _ _ _ _ _ _ _ w ⟨A⟩ ⟨B⟩ ⟨L1⟩ ⟨C⟩ ⟨D⟩ Y L
    · exact rises_walk23 _ _ _ _ _ _ _ _ w ⟨A⟩ ⟨B⟩ ⟨L1⟩ ⟨C⟩ ⟨D⟩ Y ⟨L2⟩ L
  · rcases F2 with rfl | ⟨rfl, rfl⟩ | ⟨rfl, rfl, Y⟩ | ⟨rfl, rfl, Y, rfl⟩
    · exact rises_walk30 _ _ _ _ _ _ _ _ _ w ⟨A⟩ ⟨B⟩ ⟨L1⟩ X ⟨C⟩ ⟨D⟩ L
    · exact rises_walk31 _ _ _ _ _ _ _ _ w ⟨A⟩ ⟨B⟩ ⟨L1⟩ X ⟨C⟩ ⟨D⟩ L
    · exact rises_walk32 _ _ _ _ _ _ _ _ w ⟨A⟩ ⟨B⟩ ⟨L1⟩ X ⟨C⟩ ⟨D⟩ Y L
    · exact rises_walk33 _ _ _ _ _ _ _ _ w ⟨A⟩ ⟨B⟩ ⟨L1⟩ X ⟨C⟩ ⟨D⟩ Y ⟨L2⟩ L
end Go.Proofs.Ytkhbkhbkcpmiiaa.Pure
