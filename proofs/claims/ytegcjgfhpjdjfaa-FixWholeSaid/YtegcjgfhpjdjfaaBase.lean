/- What fix's products, quotients, sums and the like tell, and the document's answers beside them, as plain numbers. -/
import Derived.Test.YtegcjgfhpjdjfaaDivide
import Derived.Test.YtegcjgfhpjdjfaaPFixx3
import Derived.Test.YtegcjgfhpjdjfaaPFixx5
import Derived.Test.YtegcjgfhpjdjfaaPFixx9
import Derived.Test.YtegcjgfhpjdjfaaPFixx10
import Derived.Test.YtegcjgfhpjdjfaaPFixx9
import Derived.Test.YtegcjgfhpjdjfaaPFixx11
import Derived.OpenShut
namespace Go.Proofs.Ytegcjgfhpjdjfaa.PFix
open Go.RowKit Go.Proofs.YtegcjgfhpjdjfaaW.PrintWords Go.Proofs.YtegcjgfhpjdjfaaW.PrintLast Go.Proofs.YtegcjgfhpjdjfaaW.PrintMore
set_option linter.unusedVariables false
set_option linter.unusedSimpArgs false

theorem Ev.get {α : Type} {g : Nat → Option α} {r : α} (h : Ev g r) : ∃ K, ∀ k, K ≤ k → g k = some r := h

theorem can_l0 (l : List Int) (hl : l.length < 9223372036854775807) : ∀ (n i : Nat), i ≤ l.length → l.length - i = n → Ev (fun k => fix_can.l0 k l (l.length : Int) (i : Int)) ((l.drop i).all (fun x => x != -9223372036854775808)) := by
  intro n
  induction n with
  | zero =>
    intro i hi hn
    obtain rfl : i = l.length := by omega
    refine Ev.step (f := fun k => some _) (fun k => ?_) (Ev.now _)
    simp only [fix_can.l0]
    rw [if_neg (by omega)]
    simp
  | succ n ih =>
    intro i hi hn
    have hlt : i < l.length := by omega
    have hd : l.drop i = l[i] :: l.drop (i + 1) := List.drop_eq_getElem_cons hlt
    have hr : rd l (i : Int) = l[i] := by unfold rd; simp [hlt]
    have hw : wrap64 ((i : Int) + 1) = ((i + 1 : Nat) : Int) := by rw [w64i]; omega
    rw [hd, List.all_cons]
    by_cases hx : l[i] = -9223372036854775808
    · refine Ev.step (f := fun k => some _) (fun k => ?_) (Ev.now _)
      simp only [fix_can.l0]
      rw [if_pos (by omega), if_pos (by omega), if_pos (by omega), hr, if_pos hx]
      rw [hx]
      rfl
    · refine Ev.step (f := fun k => fix_can.l0 k l (l.length : Int) ((i + 1 : Nat) : Int)) (fun k => ?_) ?_
      · simp only [fix_can.l0]
        rw [if_pos (by omega), if_pos (by omega), if_pos (by omega), hr, if_neg hx, hw]
      · rw [bne_iff_ne.mpr hx, Bool.true_and]
        exact ih (i + 1) (by omega) (by omega)

theorem can_ok (l : List Int) (hl : l.length < 9223372036854775807) : Ev (fun k => fix_can.f k l) (l.all (fun x => x != -9223372036854775808)) := by
  have h := can_l0 l hl _ 0 (by omega) rfl
  exact h

/-- a number's range, as the rows tell it -/
theorem wf64 {a : Int} (h : (Lit.int .i64 a).wf = true) : -9223372036854775808 ≤ a ∧ a ≤ 9223372036854775807 := by
  exact bounds_i64 h

theorem size_ok (a : Int) (h0 : -9223372036854775808 < a) (h1 : a ≤ 9223372036854775807) : fix_size.f a = some (a.natAbs : Int) := by
  unfold fix_size.f
  split
  · rw [wu64, w64i]
    congr 1
    omega
  · rw [wu64]
    congr 1
    omega

theorem refsize_ok (a : Int) (h0 : -9223372036854775808 ≤ a) (h1 : a ≤ 9223372036854775807) : cadastreref01_Size.f a = some (a.natAbs : Int) := by
  unfold cadastreref01_Size.f
  split
  · rw [wu64, wu64, w64i, w64i]
    congr 1
    omega
  · rw [wu64]
    congr 1
    omega

theorem rounded_ok (A d : Int) (neg : Bool) (hA : 0 ≤ A) (hA1 : A < 340282366920938463463374607431768211456) (hd : 0 < d) (hd1 : d < 18446744073709551616) :
    Ev (fun k => fix_rounded.f k (A / 18446744073709551616) (A % 18446744073709551616) d neg) (sgnI neg (nearI A d)) := by
  have m0 := Int.emod_nonneg A (show d ≠ 0 by omega)
  have m1 := Int.emod_lt_of_pos A hd
  have mm := Int.emod_add_ediv_mul A d
  have q0 : 0 ≤ A / d := Int.ediv_nonneg hA (by omega)
  by_cases hov : A / 18446744073709551616 ≥ d
  · refine Ev.congr (f := fun k => some _) (fun k => ?_) (Ev.now _)
    unfold fix_rounded.f sgnI nearI
    have h2 : 18446744073709551616 ≤ A / d := Int.le_ediv_of_mul_le hd (by omega)
    rw [if_pos hov, if_pos (by split <;> omega)]
  · obtain ⟨K, hK⟩ := div64 (A / 18446744073709551616) (A % 18446744073709551616) d (by omega) (by omega) (by omega) (by omega) (by omega)
    rw [show A / 18446744073709551616 * 18446744073709551616 + A % 18446744073709551616 = A by omega] at hK
    refine ⟨K + 1, fun k hk => ?_⟩
    have hK := hK k (by omega)
    obtain ⟨k, rfl⟩ : ∃ m, k = m + 1 := ⟨k - 1, by omega⟩
    dsimp only at hK ⊢
    have hw : IntKind.u64.wrap (d - A % d) = d - A % d := wuN (by omega) (by omega)
    unfold fix_rounded.f sgnI nearI
    rw [if_neg hov, hK]
    simp only [Option.bind_some, fix_rounded.j0, ↓reduceIte, Bool.false_eq_true]
    rw [hw]
    by_cases hbig : A / d > 9223372036854775807
    · rw [if_pos hbig, if_pos (by split <;> omega)]
    · rw [if_neg hbig]
      by_cases hge : A % d ≥ d - A % d
      · rw [if_pos hge, if_pos (show d ≤ 2 * (A % d) by omega), wuN (by omega) (by omega)]
        by_cases hb2 : A / d + 1 > 9223372036854775807
        · rw [if_pos hb2, if_pos hb2]
        · rw [if_neg hb2, if_neg hb2]
          cases neg
          · simp only [↓reduceIte, Bool.false_eq_true]
            rw [w64i]
            congr 2
            omega
          · simp only [↓reduceIte]
            rw [w64i, w64i]
            congr 2
            omega
      · rw [if_neg hge, if_neg (show ¬ d ≤ 2 * (A % d) by omega), Int.add_zero]
        cases neg
        · simp only [↓reduceIte, Bool.false_eq_true]
          rw [if_neg hbig, if_neg hbig, w64i]
          congr 2
          omega
        · simp only [↓reduceIte]
          rw [if_neg hbig, if_neg hbig, w64i, w64i]
          congr 2
          omega

def isN (a : Int) : Bool := a != -9223372036854775808
def mulS (a b : Int) : Int × Bool := if isN a && isN b then sgnI (decide (a < 0) != decide (b < 0)) (nearI ((a.natAbs : Int) * (b.natAbs : Int)) 10000) else (0, false)
def divS (a b : Int) : Int × Bool := if isN a && isN b && (b != 0) then sgnI (decide (a < 0) != decide (b < 0)) (nearI ((a.natAbs : Int) * 10000) (b.natAbs : Int)) else (0, false)

theorem mulBound {x y : Int} (hx : 0 ≤ x) (hx1 : x ≤ 9223372036854775808) (hy : 0 ≤ y) (hy1 : y ≤ 9223372036854775808) : 0 ≤ x * y ∧ x * y ≤ 85070591730234615865843651857942052864 := by
  refine ⟨Int.mul_nonneg hx hy, ?_⟩
  have h := Int.mul_le_mul_of_nonneg_right hx1 hy
  omega

theorem mul64_ok (a0 a1 : Int) (h0 : 0 ≤ a0) (h1 : a0 ≤ 18446744073709551615) (h2 : 0 ≤ a1) (h3 : a1 ≤ 18446744073709551615) : bits_Mul64.f a0 a1 = some (a0 * a1 / 18446744073709551616, a0 * a1 % 18446744073709551616) := by
  unfold bits_Mul64.f
  rw [if_pos ⟨h0, h1, h2, h3⟩]

theorem fixMul_ok (a b : Int) (ha : -9223372036854775808 ≤ a) (ha1 : a ≤ 9223372036854775807) (hb : -9223372036854775808 ≤ b) (hb1 : b ≤ 9223372036854775807) :
    Ev (fun k => fix_Mul.f k a b) (mulS a b) := by
  obtain ⟨K1, h1⟩ := can_ok [a, b] (by simp)
  by_cases hc : isN a && isN b
  · have hc' := hc
    simp only [isN, Bool.and_eq_true, bne_iff_ne] at hc'
    obtain ⟨bd0, bd1⟩ := mulBound (x := (a.natAbs : Int)) (y := (b.natAbs : Int)) (by omega) (by omega) (by omega) (by omega)
    obtain ⟨K2, h2⟩ := rounded_ok ((a.natAbs : Int) * (b.natAbs : Int)) 10000 (decide (a < 0) != decide (b < 0)) bd0 (by omega) (by omega) (by omega)
    refine ⟨K1 + K2, fun k hk => ?_⟩
    have h1 := h1 k (by omega)
    have h2 := h2 k (by omega)
    dsimp only at h1 h2 ⊢
    unfold fix_Mul.f mulS
    rw [h1, if_pos hc]
    have hc2 : [a, b].all (fun x => x != -9223372036854775808) = true := by simp [hc'.1, hc'.2]
    rw [hc2]
    simp only [Option.bind_some, ↓reduceIte, Bool.false_eq_true]
    rw [size_ok a (by omega) ha1, size_ok b (by omega) hb1]
    simp only [Option.bind_some, ↓reduceIte, Bool.false_eq_true]
    rw [mul64_ok _ _ (by omega) (by omega) (by omega) (by omega)]
    simp only [Option.bind_some, ↓reduceIte, Bool.false_eq_true]
    rw [h2]
    rfl
  · refine ⟨K1, fun k hk => ?_⟩
    have h1 := h1 k (by omega)
    dsimp only at h1 ⊢
    unfold fix_Mul.f mulS
    rw [h1, if_neg hc]
    have hc2 : [a, b].all (fun x => x != -9223372036854775808) = false := by
      simp only [isN] at hc
      simpa using hc
    rw [hc2]
    rfl

theorem fixDiv_ok (a b : Int) (ha : -9223372036854775808 ≤ a) (ha1 : a ≤ 9223372036854775807) (hb : -9223372036854775808 ≤ b) (hb1 : b ≤ 9223372036854775807) :
    Ev (fun k => fix_Div.f k a b) (divS a b) := by
  obtain ⟨K1, h1⟩ := can_ok [a, b] (by simp)
  by_cases hc : isN a && isN b
  · have hc' := hc
    simp only [isN, Bool.and_eq_true, bne_iff_ne] at hc'
    have hc2 : [a, b].all (fun x => x != -9223372036854775808) = true := by simp [hc'.1, hc'.2]
    by_cases hb0 : b = 0
    · refine ⟨K1 + 1, fun k hk => ?_⟩
      have h1 := h1 k (by omega)
      obtain ⟨k, rfl⟩ : ∃ m, k = m + 1 := ⟨k - 1, by omega⟩
      dsimp only at h1 ⊢
      unfold fix_Div.f divS
      rw [h1, hc2, if_neg (by simp [hb0])]
      simp only [Option.bind_some, fix_Div.j0, ↓reduceIte, Bool.false_eq_true]
      rw [if_pos (by simp [hb0])]
    · obtain ⟨K2, h2⟩ := rounded_ok ((a.natAbs : Int) * 10000) (b.natAbs : Int) (decide (a < 0) != decide (b < 0)) (by omega) (by omega) (by omega) (by omega)
      refine ⟨K1 + K2 + 1, fun k hk => ?_⟩
      have h1 := h1 k (by omega)
      obtain ⟨k, rfl⟩ : ∃ m, k = m + 1 := ⟨k - 1, by omega⟩
      have h2 := h2 k (by omega)
      dsimp only at h1 h2 ⊢
      unfold fix_Div.f divS
      rw [h1, hc2, if_pos (by simp [hc, hb0])]
      simp only [Option.bind_some, fix_Div.j0, ↓reduceIte, Bool.false_eq_true]
      rw [if_neg (by simp [hb0]), size_ok a (by omega) ha1, size_ok b (by omega) hb1]
      simp only [Option.bind_some, ↓reduceIte, Bool.false_eq_true]
      rw [mul64_ok _ _ (by omega) (by omega) (by omega) (by omega)]
      simp only [Option.bind_some, ↓reduceIte, Bool.false_eq_true]
      rw [h2]
      rfl
  · refine ⟨K1 + 1, fun k hk => ?_⟩
    have h1 := h1 k (by omega)
    obtain ⟨k, rfl⟩ : ∃ m, k = m + 1 := ⟨k - 1, by omega⟩
    dsimp only at h1 ⊢
    unfold fix_Div.f divS
    have hc2 : [a, b].all (fun x => x != -9223372036854775808) = false := by
      simp only [isN] at hc
      simpa using hc
    rw [h1, hc2, if_neg (by simp [hc])]
    simp only [Option.bind_some, fix_Div.j0, ↓reduceIte, Bool.false_eq_true]

theorem refCan_ok (a : Int) : cadastreref01_Can.f a = some (isN a) := rfl

theorem nearSmall {A d : Int} (hA : 0 ≤ A) (hA1 : A ≤ 340282366920938463463374607431768211454) (hd : 0 < d) : 0 ≤ nearI A d ∧ nearI A d < 340282366920938463463374607431768211456 := by
  have q0 : 0 ≤ A / d := Int.ediv_nonneg hA (by omega)
  have q1 : A / d ≤ A := Int.ediv_le_self _ hA
  unfold nearI
  constructor <;> split <;> omega

theorem refMul_ok (a b : Int) (ha : -9223372036854775808 ≤ a) (ha1 : a ≤ 9223372036854775807) (hb : -9223372036854775808 ≤ b) (hb1 : b ≤ 9223372036854775807) :
    Ev (fun k => cadastreref01_Mul.f k a b) (mulS a b) := by
  by_cases hc : isN a && isN b
  · have hc' := hc
    rw [Bool.and_eq_true] at hc'
    obtain ⟨bd0, bd1⟩ := mulBound (x := (a.natAbs : Int)) (y := (b.natAbs : Int)) (by omega) (by omega) (by omega) (by omega)
    obtain ⟨K1, h1⟩ := product_ok (a.natAbs : Int) (b.natAbs : Int) (by omega) (by omega) (by omega) (by omega)
    obtain ⟨K2, h2⟩ := near_ok ((a.natAbs : Int) * (b.natAbs : Int)) 10000 bd0 (by omega) (by omega) (by omega)
    obtain ⟨n0, n1⟩ := nearSmall (d := 10000) bd0 (by omega) (by omega)
    rw [Int.emod_eq_of_lt n0 n1] at h2
    obtain ⟨K3, h3⟩ := signed_ok (decide (a < 0) != decide (b < 0)) (nearI ((a.natAbs : Int) * (b.natAbs : Int)) 10000) n0 n1
    refine ⟨K1 + K2 + K3 + 1, fun k hk => ?_⟩
    obtain ⟨k, rfl⟩ : ∃ m, k = m + 1 := ⟨k - 1, by omega⟩
    have h1 := h1 k (by omega)
    have h2 := h2 k (by omega)
    have h3 := h3 k (by omega)
    dsimp only at h1 h2 h3 ⊢
    unfold cadastreref01_Mul.f mulS
    rw [refCan_ok, refCan_ok, hc'.1, hc'.2]
    simp only [Option.bind_some, cadastreref01_Mul.j0, ↓reduceIte, Bool.false_eq_true]
    simp only [↓reduceIte, Bool.not_true, Bool.false_eq_true]
    rw [refsize_ok a ha ha1, refsize_ok b hb hb1]
    simp only [Option.bind_some, ↓reduceIte, Bool.false_eq_true]
    rw [h1]
    simp only [Option.bind_some, ↓reduceIte, Bool.false_eq_true]
    rw [h2]
    simp only [Option.bind_some, ↓reduceIte, Bool.false_eq_true]
    rw [h3]
    rfl
  · refine ⟨1, fun k hk => ?_⟩
    obtain ⟨k, rfl⟩ : ∃ m, k = m + 1 := ⟨k - 1, by omega⟩
    dsimp only
    unfold cadastreref01_Mul.f mulS
    rw [refCan_ok, refCan_ok, if_neg hc]
    simp only [Option.bind_some, cadastreref01_Mul.j0, ↓reduceIte, Bool.false_eq_true]
    cases h1 : isN a
    · simp
    · cases h2 : isN b
      · simp
      · rw [h1, h2] at hc
        exact absurd rfl hc

theorem refDiv_ok (a b : Int) (ha : -9223372036854775808 ≤ a) (ha1 : a ≤ 9223372036854775807) (hb : -9223372036854775808 ≤ b) (hb1 : b ≤ 9223372036854775807) :
    Ev (fun k => cadastreref01_Div.f k a b) (divS a b) := by
  by_cases hc : isN a && isN b && (b != 0)
  · have hc' := hc
    rw [Bool.and_eq_true, Bool.and_eq_true, bne_iff_ne] at hc'
    obtain ⟨⟨c1, c2⟩, c3⟩ := hc'
    obtain ⟨K1, h1⟩ := product_ok (a.natAbs : Int) 10000 (by omega) (by omega) (by omega) (by omega)
    obtain ⟨K2, h2⟩ := near_ok ((a.natAbs : Int) * 10000) (b.natAbs : Int) (by omega) (by omega) (by omega) (by omega)
    obtain ⟨n0, n1⟩ := nearSmall (A := (a.natAbs : Int) * 10000) (d := (b.natAbs : Int)) (by omega) (by omega) (by omega)
    rw [Int.emod_eq_of_lt n0 n1] at h2
    obtain ⟨K3, h3⟩ := signed_ok (decide (a < 0) != decide (b < 0)) (nearI ((a.natAbs : Int) * 10000) (b.natAbs : Int)) n0 n1
    refine ⟨K1 + K2 + K3 + 1, fun k hk => ?_⟩
    obtain ⟨k, rfl⟩ : ∃ m, k = m + 1 := ⟨k - 1, by omega⟩
    have h1 := h1 k (by omega)
    have h2 := h2 k (by omega)
    have h3 := h3 k (by omega)
    dsimp only at h1 h2 h3 ⊢
    unfold cadastreref01_Div.f divS
    rw [refCan_ok, refCan_ok, c1, c2]
    simp only [Option.bind_some, cadastreref01_Div.j0, ↓reduceIte, Bool.false_eq_true]
    rw [if_neg (by simp [c3]), refsize_ok a ha ha1, refsize_ok b hb hb1]
    simp only [Option.bind_some, ↓reduceIte, Bool.false_eq_true]
    rw [h1]
    simp only [Option.bind_some, ↓reduceIte, Bool.false_eq_true]
    rw [h2]
    simp only [Option.bind_some, ↓reduceIte, Bool.false_eq_true]
    rw [h3, if_pos (by simp [c3])]
    rfl
  · refine ⟨1, fun k hk => ?_⟩
    obtain ⟨k, rfl⟩ : ∃ m, k = m + 1 := ⟨k - 1, by omega⟩
    dsimp only
    unfold cadastreref01_Div.f divS
    rw [refCan_ok, refCan_ok, if_neg hc]
    simp only [Option.bind_some, cadastreref01_Div.j0, ↓reduceIte, Bool.false_eq_true]
    cases h1 : isN a
    · simp
    · cases h2 : isN b
      · simp
      · simp only [↓reduceIte]
        rw [h1, h2] at hc
        by_cases hb0 : b = 0
        · rw [if_pos (by simp [hb0])]
        · exact absurd (by simp [hb0]) hc

theorem lives_ok : Ev (fun k => cadastrelaw01_lives.f k) true := by
  obtain ⟨K1, h1⟩ := fixMul_ok 15000 15000 (by decide) (by decide) (by decide) (by decide)
  obtain ⟨K2, h2⟩ := fixDiv_ok 20000 30000 (by decide) (by decide) (by decide) (by decide)
  obtain ⟨K3, h3⟩ := can_ok [0] (by simp)
  refine ⟨K1 + K2 + K3, fun k hk => ?_⟩
  have h1 := h1 k (by omega)
  have h2 := h2 k (by omega)
  have h3 := h3 k (by omega)
  dsimp only at h1 h2 h3 ⊢
  unfold cadastrelaw01_lives.f fix_Can.f
  rw [h1, h2, h3, show mulS 15000 15000 = (22500, true) by decide, show divS 20000 30000 = (6667, true) by decide]
  rfl
end Go.Proofs.Ytegcjgfhpjdjfaa.PFix
