/- What fix's whole parts and rounded numbers tell, and the document's. -/
import Derived.Test.YtegcjgfhpjdjfaaAdd
import Derived.Test.YtegcjgfhpjdjfaaPFixx18
import Derived.Test.YtegcjgfhpjdjfaaPFixx19
import Derived.Test.YtegcjgfhpjdjfaaPFixx20
import Derived.Test.YtegcjgfhpjdjfaaMod
import Derived.Test.YtegcjgfhpjdjfaaPFixx22
import Derived.Test.YtegcjgfhpjdjfaaPFixx22
import Derived.Test.YtegcjgfhpjdjfaaPFixx23
import Derived.Test.YtegcjgfhpjdjfaaPFixx24
import Derived.Test.YtegcjgfhpjdjfaaPFixx24
namespace Go.Proofs.Ytegcjgfhpjdjfaa.PFix
open Go.RowKit Go.Proofs.YtegcjgfhpjdjfaaW.PrintWords Go.Proofs.YtegcjgfhpjdjfaaW.PrintLast Go.Proofs.YtegcjgfhpjdjfaaW.PrintMore
set_option linter.unusedVariables false
set_option linter.unusedSimpArgs false

theorem word_ok (a : Int) (h0 : -9223372036854775808 ≤ a) (h1 : a ≤ 9223372036854775807) : cadastreref01_word.f a = some (a % 340282366920938463463374607431768211456 / 18446744073709551616, a % 340282366920938463463374607431768211456 % 18446744073709551616) := by
  unfold cadastreref01_word.f
  rw [wu64]
  split <;> (congr 2 <;> omega)

theorem refPlus_ok (V a : Int) (hV : 0 ≤ V) (hV1 : V < 340282366920938463463374607431768211456) (h0 : -9223372036854775808 ≤ a) (h1 : a ≤ 9223372036854775807) :
    cadastreref01_Plus.f (wrap64 (V / 18446744073709551616)) (V % 18446744073709551616) a = some (wrap64 ((V + a) % 340282366920938463463374607431768211456 / 18446744073709551616), (V + a) % 18446744073709551616) := by
  have hp := plusW_ok V (a % 340282366920938463463374607431768211456) hV hV1 (by omega) (by omega)
  unfold cadastreref01_Plus.f
  rw [word_ok a h0 h1]
  simp only [Option.bind_some]
  rw [show IntKind.u64.wrap (wrap64 (V / 18446744073709551616)) = V / 18446744073709551616 by rw [wu64, w64i]; omega, hp]
  simp only [Option.bind_some]
  rw [show (V + a % 340282366920938463463374607431768211456) % 340282366920938463463374607431768211456 = (V + a) % 340282366920938463463374607431768211456 by omega]
  congr 2
  omega

/-- A sum as a number, if it is one. -/
def toldS (V : Int) : Int × Bool :=
  if V ≤ 9223372036854775807 then (V, true) else if 340282366920938463454151235394913435649 ≤ V then (V - 340282366920938463463374607431768211456, true) else (0, false)

theorem refTold_ok (V : Int) (hV : 0 ≤ V) (hV1 : V < 340282366920938463463374607431768211456) :
    cadastreref01_Told.f (wrap64 (V / 18446744073709551616)) (V % 18446744073709551616) = some (toldS V) := by
  unfold cadastreref01_Told.f toldS
  rw [word_ok _ (by rw [w64i]; omega) (by rw [w64i]; omega)]
  simp only [Option.bind_some]
  rw [show IntKind.u64.wrap (wrap64 (V / 18446744073709551616)) = V / 18446744073709551616 by rw [wu64, w64i]; omega, refCan_ok]
  simp only [Option.bind_some, isN]
  rw [w64i]
  by_cases hs : V ≤ 9223372036854775807
  · rw [if_pos hs, show (V % 18446744073709551616 + 9223372036854775808) % 18446744073709551616 - 9223372036854775808 = V by omega]
    rw [if_neg (by simp; omega), if_pos (by rw [bne_iff_ne]; omega)]
  · rw [if_neg hs]
    by_cases hb : 340282366920938463454151235394913435649 ≤ V
    · rw [if_pos hb, show (V % 18446744073709551616 + 9223372036854775808) % 18446744073709551616 - 9223372036854775808 = V - 340282366920938463463374607431768211456 by omega]
      rw [if_neg (by simp; omega), if_pos (by rw [bne_iff_ne]; omega)]
    · rw [if_neg hb]
      by_cases he : (V % 18446744073709551616 + 9223372036854775808) % 18446744073709551616 - 9223372036854775808 = -9223372036854775808
      · rw [he]
        simp
      · rw [if_pos (by simp; omega)]

theorem refAdd_ok (a b : Int) (ha : -9223372036854775808 ≤ a) (ha1 : a ≤ 9223372036854775807) (hb : -9223372036854775808 ≤ b) (hb1 : b ≤ 9223372036854775807) :
    Ev (fun k => cadastreref01_Add.f k a b) (addS a b) := by
  refine ⟨1, fun k hk => ?_⟩
  obtain ⟨k, rfl⟩ : ∃ m, k = m + 1 := ⟨k - 1, by omega⟩
  dsimp only
  unfold cadastreref01_Add.f addS
  rw [refCan_ok, refCan_ok]
  cases c1 : isN a
  · simp [cadastreref01_Add.j0]
  · cases c2 : isN b
    · simp [cadastreref01_Add.j0]
    · have h1 := refPlus_ok 0 a (by decide) (by decide) ha ha1
      have h2 := refPlus_ok (a % 340282366920938463463374607431768211456) b (by omega) (by omega) hb hb1
      have h3 := refTold_ok ((a % 340282366920938463463374607431768211456 + b) % 340282366920938463463374607431768211456) (by omega) (by omega)
      rw [show wrap64 (0 / 18446744073709551616) = 0 by rw [w64i]; decide, show (0 : Int) % 18446744073709551616 = 0 by decide, Int.zero_add, show a % 18446744073709551616 = a % 340282366920938463463374607431768211456 % 18446744073709551616 by omega] at h1
      rw [show (a % 340282366920938463463374607431768211456 + b) % 340282366920938463463374607431768211456 % 18446744073709551616 = (a % 340282366920938463463374607431768211456 + b) % 18446744073709551616 by omega] at h3
      simp only [Option.bind_some, ↓reduceIte, cadastreref01_Add.j0, Bool.not_true, Bool.false_eq_true]
      rw [h1]
      simp only [Option.bind_some]
      rw [h2]
      simp only [Option.bind_some]
      rw [h3]
      simp only [Option.bind_some, Bool.true_and, Bool.and_eq_true, decide_eq_true_eq]
      unfold toldS
      by_cases hr : -9223372036854775807 ≤ a + b ∧ a + b ≤ 9223372036854775807
      · rw [if_pos hr]
        by_cases hn : a + b < 0
        · rw [if_neg (by omega), if_pos (by omega)]
          dsimp only
          congr 2
          omega
        · rw [if_pos (by omega)]
          dsimp only
          congr 2
          omega
      · rw [if_neg hr, if_neg (by omega), if_neg (by omega)]

theorem refSub_ok (a b : Int) (ha : -9223372036854775808 ≤ a) (ha1 : a ≤ 9223372036854775807) (hb : -9223372036854775808 ≤ b) (hb1 : b ≤ 9223372036854775807) :
    Ev (fun k => cadastreref01_Sub.f k a b) (if isN a then subS a b else (0, false)) := by
  by_cases hc : (isN a && isN b) = true
  · rw [Bool.and_eq_true] at hc
    obtain ⟨c1, c2⟩ := hc
    have d2 : b ≠ -9223372036854775808 := by simpa [isN] using c2
    obtain ⟨K, h⟩ := refAdd_ok a (-b) ha ha1 (by omega) (by omega)
    refine ⟨K, fun k hk => ?_⟩
    have h := h k hk
    dsimp only at h ⊢
    unfold cadastreref01_Sub.f subS
    rw [refCan_ok, refCan_ok, c1, c2, w64i, show (-b + 9223372036854775808) % 18446744073709551616 - 9223372036854775808 = -b by omega, h]
    simp
  · refine ⟨0, fun k hk => ?_⟩
    dsimp only
    unfold cadastreref01_Sub.f subS
    rw [refCan_ok, refCan_ok]
    cases h1 : isN a
    · simp
    · cases h2 : isN b
      · simp
      · rw [h1, h2] at hc
        exact absurd rfl hc

def floorS (a : Int) : Int × Bool := if isN a then addS a (-(a % 10000)) else (0, false)

theorem fixFloor_ok (a : Int) (ha : -9223372036854775808 ≤ a) (ha1 : a ≤ 9223372036854775807) : Ev (fun k => fix_Floor.f k a) (floorS a) := by
  obtain ⟨K1, h1⟩ := can_ok [a] (by simp)
  obtain ⟨K2, h2⟩ := fixadd_ok a (-(a % 10000)) ha ha1 (by omega) (by omega)
  refine ⟨K1 + K2, fun k hk => ?_⟩
  have h1 := h1 k (by omega)
  have h2 := h2 k (by omega)
  dsimp only at h1 h2 ⊢
  unfold fix_Floor.f floorS fix_below.f
  rw [h1, show [a].all (fun x => x != -9223372036854775808) = isN a by simp [isN]]
  cases c : isN a
  · simp
  · simp only [Option.bind_some, ↓reduceIte]
    rw [if_neg (by decide)]
    have e := tmod_abs a 10000
    rw [show (((10000 : Int).natAbs : Nat) : Int) = 10000 by decide] at e
    by_cases hn : Int.tmod a 10000 < 0
    · rw [if_pos hn]
      rw [show wrap64 (-(wrap64 (Int.tmod a 10000 + 10000))) = -(a % 10000) by rw [w64i, w64i]; split at e <;> omega, h2]
      rfl
    · rw [if_neg hn]
      rw [show wrap64 (-(Int.tmod a 10000)) = -(a % 10000) by rw [w64i]; split at e <;> omega, h2]
      rfl

theorem refFloor_ok (a : Int) (ha : -9223372036854775808 ≤ a) (ha1 : a ≤ 9223372036854775807) : Ev (fun k => cadastreref01_Floor.f k a) (floorS a) := by
  by_cases c : isN a = true
  · have d1 : a ≠ -9223372036854775808 := by simpa [isN] using c
    obtain ⟨K1, h1⟩ := refSub_ok a (a % 10000) ha ha1 (by omega) (by omega)
    refine ⟨K1, fun k hk => ?_⟩
    have h1 := h1 k hk
    dsimp only at h1 ⊢
    unfold cadastreref01_Floor.f floorS
    have hr : wrap64 (if (a.natAbs : Int) % ((10000 : Int).natAbs : Int) = 0 then 0 else if a < 0 then 10000 - (a.natAbs : Int) % ((10000 : Int).natAbs : Int) else (a.natAbs : Int) % ((10000 : Int).natAbs : Int)) = a % 10000 := by
      rw [show (((10000 : Int).natAbs : Nat) : Int) = 10000 by decide, w64i]
      split
      · omega
      · split <;> omega
    rw [refCan_ok, c, rest_ok a 10000 (by omega) ha1 (by omega) (by omega)]
    simp only [Option.bind_some, ↓reduceIte]
    rw [hr, h1, c]
    unfold subS
    rw [show isN (a % 10000) = true by unfold isN; rw [bne_iff_ne]; omega]
    rfl
  · refine ⟨0, fun k hk => ?_⟩
    dsimp only
    unfold cadastreref01_Floor.f floorS
    have cf : isN a = false := by simpa using c
    rw [refCan_ok, cf]
    rfl

theorem pow10_lt (n : Nat) (h : n ≤ 19) : 0 < (10 : Int) ^ n ∧ (10 : Int) ^ n ≤ 10000000000000000000 := by
  constructor
  · exact Int.pow_pos (by decide)
  · have h1 : (10 : Nat) ^ n ≤ 10 ^ 19 := Nat.pow_le_pow_right (by decide) h
    have h2 := Int.ofNat_le.mpr h1
    rw [Int.natCast_pow] at h2
    exact h2

theorem power_l0 (n : Nat) (hn : n ≤ 19) : ∀ (j i : Nat), i + j = n → Ev (fun k => cadastreref01_Power.l0 k (n : Int) (10 ^ i) (i : Int)) (10 ^ n) := by
  intro j
  induction j with
  | zero =>
    intro i hi
    obtain rfl : i = n := by omega
    refine Ev.step (f := fun k => some _) (fun k => ?_) (Ev.now _)
    simp only [cadastreref01_Power.l0]
    rw [if_neg (by omega)]
  | succ j ih =>
    intro i hi
    have hp := pow10_lt (i + 1) (by omega)
    rw [Int.pow_succ] at hp
    refine Ev.step (f := fun k => cadastreref01_Power.l0 k (n : Int) (10 ^ (i + 1)) ((i + 1 : Nat) : Int)) (fun k => ?_) (ih (i + 1) (by omega))
    simp only [cadastreref01_Power.l0]
    rw [if_pos (by omega), wuN (by omega) (by omega), Int.pow_succ, Int.mul_comm, show wrap64 ((i : Int) + 1) = ((i + 1 : Nat) : Int) by rw [w64i]; omega]

theorem power_ok (n : Nat) (hn : n ≤ 19) : Ev (fun k => cadastreref01_Power.f k (n : Int)) (10 ^ n) := power_l0 n hn n 0 (by omega)

/-- A number rounded to a multiple of ten to a power. -/
def roundS (a d : Int) : Int × Bool :=
  if isN a then (if d ≥ 4 then (a, true) else if d < -14 then (0, true) else sgnI (decide (a < 0)) (nearI (a.natAbs : Int) (10 ^ (4 - d).toNat) * 10 ^ (4 - d).toNat)) else (0, false)

theorem nearMul (n p : Int) (hn : 0 ≤ n) (hp : 0 < p) : nearI n p * p = n - n % p + (if p ≤ 2 * (n % p) then p else 0) := by
  have m := Int.emod_add_ediv_mul n p
  unfold nearI
  rw [Int.add_mul]
  split <;> omega

theorem round_l0 (a : Int) (n : Nat) (hn : n ≤ 18) (ha : -9223372036854775808 < a) (ha1 : a ≤ 9223372036854775807) : ∀ (j i : Nat), i + j = n →
    Ev (fun k => fix_Round.l0 k a (10 ^ i) (n : Int) (i : Int)) (sgnI (decide (a < 0)) (nearI (a.natAbs : Int) (10 ^ n) * 10 ^ n)) := by
  intro j
  induction j with
  | zero =>
    intro i hi
    obtain rfl : i = n := by omega
    have hp := pow10_lt i (by omega)
    have hp2 : (10 : Int) ^ i ≤ 1000000000000000000 := by
      have h1 : (10 : Nat) ^ i ≤ 10 ^ 18 := Nat.pow_le_pow_right (by decide) (by omega)
      have h2 := Int.ofNat_le.mpr h1
      rw [Int.natCast_pow] at h2
      exact h2
    generalize (10 : Int) ^ i = p at *
    have m0 := Int.emod_nonneg (a.natAbs : Int) (show p ≠ 0 by omega)
    have m1 := Int.emod_lt_of_pos (a.natAbs : Int) (show 0 < p by omega)
    have m2 : (a.natAbs : Int) % p ≤ (a.natAbs : Int) := by
      have := Int.emod_add_ediv_mul (a.natAbs : Int) p
      have := Int.mul_nonneg (Int.ediv_nonneg (show 0 ≤ (a.natAbs : Int) by omega) (show 0 ≤ p by omega)) (show 0 ≤ p by omega)
      omega
    rw [nearMul _ p (by omega) (by omega)]
    have fin : ∀ v : Int, 0 ≤ v → v < 18446744073709551616 → Ev (fun k => fix_Round.j1 k a v) (sgnI (decide (a < 0)) v) := by
      intro v v0 v1
      refine Ev.step (f := fun k => some _) (fun k => ?_) (Ev.now _)
      simp only [fix_Round.j1, sgnI]
      by_cases hb : v > 9223372036854775807
      · rw [if_pos hb, if_pos hb]
      · rw [if_neg hb, if_neg hb]
        by_cases hs : a < 0
        · rw [if_pos hs, if_pos (by simpa using hs), w64i, w64i]
          congr 2
          omega
        · rw [if_neg hs, if_neg (by simpa using hs), w64i]
          congr 2
          omega
    by_cases hge : p ≤ 2 * ((a.natAbs : Int) % p)
    · rw [if_pos hge]
      refine Ev.step (f := fun k => fix_Round.j1 k a ((a.natAbs : Int) - (a.natAbs : Int) % p + p)) (fun k => ?_) (fin _ (by omega) (by omega))
      simp only [fix_Round.l0]
      rw [if_neg (by omega), size_ok a ha ha1]
      simp only [Option.bind_some]
      rw [if_neg (by omega), Int.tmod_eq_emod_of_nonneg (by omega), wuN (n := p - (a.natAbs : Int) % p) (by omega) (by omega), if_pos (by omega), wuN (n := (a.natAbs : Int) - (a.natAbs : Int) % p) (by omega) (by omega), wuN (by omega) (by omega)]
    · rw [if_neg hge, Int.add_zero]
      refine Ev.step (f := fun k => fix_Round.j1 k a ((a.natAbs : Int) - (a.natAbs : Int) % p)) (fun k => ?_) (fin _ (by omega) (by omega))
      simp only [fix_Round.l0]
      rw [if_neg (by omega), size_ok a ha ha1]
      simp only [Option.bind_some]
      rw [if_neg (by omega), Int.tmod_eq_emod_of_nonneg (by omega), wuN (n := p - (a.natAbs : Int) % p) (by omega) (by omega), if_neg (by omega), wuN (n := (a.natAbs : Int) - (a.natAbs : Int) % p) (by omega) (by omega)]
  | succ j ih =>
    intro i hi
    have hp := pow10_lt (i + 1) (by omega)
    rw [Int.pow_succ] at hp
    refine Ev.step (f := fun k => fix_Round.l0 k a (10 ^ (i + 1)) (n : Int) ((i + 1 : Nat) : Int)) (fun k => ?_) (ih (i + 1) (by omega))
    simp only [fix_Round.l0]
    rw [if_pos (by omega), wuN (by omega) (by omega), Int.pow_succ, show wrap64 ((i : Int) + 1) = ((i + 1 : Nat) : Int) by rw [w64i]; omega]

theorem fixRound_ok (a d : Int) (ha : -9223372036854775808 ≤ a) (ha1 : a ≤ 9223372036854775807) (hd : -9223372036854775808 ≤ d) (hd1 : d ≤ 9223372036854775807) : Ev (fun k => fix_Round.f k a d) (roundS a d) := by
  obtain ⟨K1, h1⟩ := can_ok [a] (by simp)
  have e : [a].all (fun x => x != -9223372036854775808) = isN a := by simp [isN]
  rw [e] at h1
  by_cases c : isN a = true
  · have d1 : a ≠ -9223372036854775808 := by simpa [isN] using c
    by_cases hm : d ≥ 4 ∨ d < -14
    · refine ⟨K1, fun k hk => ?_⟩
      have h1 := h1 k hk
      dsimp only at h1 ⊢
      unfold fix_Round.f roundS
      rw [h1, c]
      simp only [Option.bind_some, ↓reduceIte]
      rcases hm with hm | hm
      · rw [if_pos hm, if_pos hm]
      · rw [if_neg (by omega), if_pos hm, if_neg (by omega), if_pos hm]
    · obtain ⟨K2, h2⟩ := round_l0 a (4 - d).toNat (by omega) (by omega) ha1 (4 - d).toNat 0 (by omega)
      refine ⟨K1 + K2, fun k hk => ?_⟩
      have h1 := h1 k (by omega)
      have h2 := h2 k (by omega)
      dsimp only at h1 h2 ⊢
      unfold fix_Round.f roundS
      rw [h1, c]
      simp only [Option.bind_some, ↓reduceIte]
      rw [if_neg (by omega), if_neg (by omega), if_neg (by omega), if_neg (by omega), show wrap64 (4 - d) = ((4 - d).toNat : Int) by rw [w64i]; omega]
      exact h2
  · refine ⟨K1, fun k hk => ?_⟩
    have h1 := h1 k hk
    dsimp only at h1 ⊢
    unfold fix_Round.f roundS
    have cf : isN a = false := by simpa using c
    rw [h1, cf]
    rfl

theorem refRound_ok (a d : Int) (ha : -9223372036854775808 ≤ a) (ha1 : a ≤ 9223372036854775807) (hd : -9223372036854775808 ≤ d) (hd1 : d ≤ 9223372036854775807) : Ev (fun k => cadastreref01_Round.f k a d) (roundS a d) := by
  by_cases c : isN a = true
  · have d1 : a ≠ -9223372036854775808 := by simpa [isN] using c
    by_cases hm : d ≥ 4 ∨ d < -14
    · refine ⟨0, fun k hk => ?_⟩
      dsimp only
      unfold cadastreref01_Round.f roundS
      rw [refCan_ok, c]
      simp only [Option.bind_some, ↓reduceIte]
      rcases hm with hm | hm
      · rw [if_pos hm, if_pos hm]
      · rw [if_neg (by omega), if_pos hm, if_neg (by omega), if_pos hm]
    · obtain ⟨K1, h1⟩ := power_ok (4 - d).toNat (by omega)
      have hp := pow10_lt (4 - d).toNat (by omega)
      have hp2 : (10 : Int) ^ (4 - d).toNat ≤ 1000000000000000000 := by
        have h1 : (10 : Nat) ^ (4 - d).toNat ≤ 10 ^ 18 := Nat.pow_le_pow_right (by decide) (by omega)
        have h2 := Int.ofNat_le.mpr h1
        rw [Int.natCast_pow] at h2
        exact h2
      obtain ⟨K2, h2⟩ := near_ok (a.natAbs : Int) (10 ^ (4 - d).toNat) (by omega) (by omega) hp.1 (by omega)
      have hq0 : 0 ≤ nearI (a.natAbs : Int) (10 ^ (4 - d).toNat) := by
        have := Int.ediv_nonneg (show 0 ≤ (a.natAbs : Int) by omega) (show 0 ≤ (10 : Int) ^ (4 - d).toNat by omega)
        unfold nearI
        split <;> omega
      have hq1 : nearI (a.natAbs : Int) (10 ^ (4 - d).toNat) ≤ (a.natAbs : Int) + 1 := by
        have := Int.ediv_le_self (10 ^ (4 - d).toNat) (show 0 ≤ (a.natAbs : Int) by omega)
        unfold nearI
        split <;> omega
      obtain ⟨K3, h3⟩ := product_ok (nearI (a.natAbs : Int) (10 ^ (4 - d).toNat)) (10 ^ (4 - d).toNat) hq0 (by omega) (by omega) (by omega)
      have hv0 : 0 ≤ nearI (a.natAbs : Int) (10 ^ (4 - d).toNat) * 10 ^ (4 - d).toNat := Int.mul_nonneg hq0 (by omega)
      have hv1 : nearI (a.natAbs : Int) (10 ^ (4 - d).toNat) * 10 ^ (4 - d).toNat < 340282366920938463463374607431768211456 := by
        have := Int.mul_le_mul_of_nonneg_right hq1 (show 0 ≤ (10 : Int) ^ (4 - d).toNat by omega)
        have := Int.mul_le_mul_of_nonneg_left hp2 (show 0 ≤ (a.natAbs : Int) + 1 by omega)
        omega
      obtain ⟨K4, h4⟩ := signed_ok (decide (a < 0)) _ hv0 hv1
      refine ⟨K1 + K2 + K3 + K4, fun k hk => ?_⟩
      have h1 := h1 k (by omega)
      have h2 := h2 k (by omega)
      have h3 := h3 k (by omega)
      have h4 := h4 k (by omega)
      dsimp only at h1 h2 h3 h4 ⊢
      unfold cadastreref01_Round.f roundS
      rw [refCan_ok, c]
      simp only [Option.bind_some, ↓reduceIte]
      rw [if_neg (by omega), if_neg (by omega), if_neg (by omega), if_neg (by omega), show wrap64 (4 - d) = ((4 - d).toNat : Int) by rw [w64i]; omega, h1, refsize_ok a ha ha1]
      simp only [Option.bind_some]
      generalize nearI (a.natAbs : Int) (10 ^ (4 - d).toNat) = q at *
      rw [show (a.natAbs : Int) / 18446744073709551616 = 0 by omega, show (a.natAbs : Int) % 18446744073709551616 = (a.natAbs : Int) by omega] at h2
      rw [h2]
      simp only [Option.bind_some]
      rw [show q % 18446744073709551616 = q by omega, h3]
      simp only [Option.bind_some]
      rw [h4]
      rfl
  · refine ⟨0, fun k hk => ?_⟩
    dsimp only
    unfold cadastreref01_Round.f roundS
    have cf : isN a = false := by simpa using c
    rw [refCan_ok, cf]
    rfl
end Go.Proofs.Ytegcjgfhpjdjfaa.PFix
