/- Roots: for all numbers of 64 bits, real.Root tells what the document's Root tells: the greatest number whose square is not above. No condition. -/
import Derived.Test.YtkhbkhbkcpmiiaaRootWords
import Derived.Test.YtkhbkhbkcpmiiaaPRealx16
namespace Go.Proofs.Ytkhbkhbkcpmiiaa.Pure
open Go.RowKit Go.Proofs.Ytkhbkhbkcpmiiaa.PReal Go.Proofs.YtkhbkhbkcpmiiaaW.PrintWords Go.Proofs.YtkhbkhbkcpmiiaaW.PrintLast Go.Proofs.YtkhbkhbkcpmiiaaW.PrintMore
set_option linter.unusedVariables false
set_option linter.unusedSimpArgs false

theorem roots_neg (a : Int) (c : a < 0) : cadastrelaw02_RealRoots.f 1 a = some true := by
  have h1 : real_Root.f a = some (0, false) := by unfold real_Root.f; rw [if_pos c]
  have h2 : cadastreref02_Root.f 1 a = some (0, false) := by unfold cadastreref02_Root.f; rw [if_pos c]
  have h3 : cadastrelaw02_RealRoots.j0 1 a 0 false false = some true := by
    simp only [cadastrelaw02_RealRoots.j0, lives_ok, if_pos c, Bool.false_eq_true, ↓reduceIte, Option.bind_some]
  unfold cadastrelaw02_RealRoots.f
  rw [h1, h2]
  simp only [Option.bind_some, ↓reduceIte, bne_self_eq_false, h3]

theorem roots_j (a : Int) (R A k : Nat) (h0 : 0 ≤ a) (h1 : a ≤ 9223372036854775807) (hR : R < 1000000000000) (i1 : R * R ≤ A) (i2 : A < (R + 1) * (R + 1))
    (h2 : cadastreref01_Product.f k a 10000 = some ((A : Int) / 18446744073709551616, (A : Int) % 18446744073709551616))
    (h3 : cadastreref01_Product.f k (R : Int) (R : Int) = some (((R * R : Nat) : Int) / 18446744073709551616, ((R * R : Nat) : Int) % 18446744073709551616))
    (h4 : cadastreref01_Product.f k ((R : Int) + 1) ((R : Int) + 1) = some ((((R + 1) * (R + 1) : Nat) : Int) / 18446744073709551616, (((R + 1) * (R + 1) : Nat) : Int) % 18446744073709551616)) :
    cadastrelaw02_RealRoots.j0 (k + 1) a (R : Int) true false = some true := by
  have e1 : (if ((R * R : Nat) : Int) < (A : Int) then (-1 : Int) else if ((R * R : Nat) : Int) = (A : Int) then 0 else 1) ≤ 0 := by
    generalize R * R = q at *
    split
    · omega
    · split <;> omega
  have e2 : (if (((R + 1) * (R + 1) : Nat) : Int) < (A : Int) then (-1 : Int) else if (((R + 1) * (R + 1) : Nat) : Int) = (A : Int) then 0 else 1) > 0 := by
    generalize (R + 1) * (R + 1) = q at *
    rw [if_neg (by omega), if_neg (by omega)]
    omega
  have c1 : cadastreref01_Cmp.f _ _ _ _ = _ := cmp_ok ((R * R : Nat) : Int) (A : Int)
  have c2 : cadastreref01_Cmp.f _ _ _ _ = _ := cmp_ok (((R + 1) * (R + 1) : Nat) : Int) (A : Int)
  rw [cadastrelaw02_RealRoots.j0, wuN (n := a) (by omega) (by omega), wuN (n := (R : Int)) (by omega) (by omega), wuN (n := (R : Int) + 1) (by omega) (by omega), h2, h3, h4, lives_ok]
  simp only [Option.bind_some, ↓reduceIte, c1, c2, Bool.false_eq_true]
  rw [if_pos e1, if_pos e2]

theorem RealRoots : cadastrelaw02_RealRoots.Pure := by
  intro a wa
  have ha : -9223372036854775808 ≤ a ∧ a ≤ 9223372036854775807 := by
    simp [Lit.wf, IntKind.min, IntKind.max, IntKind.signed, IntKind.bits] at wa
    omega
  by_cases c : a < 0
  · exact ⟨1, roots_neg a c⟩
  · have hA : a.toNat * 10000 < 4835703278458516698824704 := by omega
    obtain ⟨i1, i2⟩ := real_Root.isqrt_spec _ hA
    have hR : real_Root.isqrt (a.toNat * 10000) < 1000000000000 := by
      refine real_Root.sq_lt (Nat.lt_of_le_of_lt i1 ?_)
      omega
    obtain ⟨K1, h1⟩ := refroot_ok a (by omega) ha.2
    have hr : real_Root.f a = some ((real_Root.isqrt (a.toNat * 10000) : Int), true) := by
      unfold real_Root.f
      rw [if_neg c, if_pos ha.2]
    obtain ⟨R, e⟩ : ∃ R, R = real_Root.isqrt (a.toNat * 10000) := ⟨_, rfl⟩
    rw [← e] at i1 i2 hR h1 hr
    clear e
    obtain ⟨K2, h2⟩ := product_ok a 10000 (by omega) (by omega) (by omega) (by omega)
    obtain ⟨K3, h3⟩ := product_ok (R : Int) (R : Int) (by omega) (by omega) (by omega) (by omega)
    obtain ⟨K4, h4⟩ := product_ok ((R : Int) + 1) ((R : Int) + 1) (by omega) (by omega) (by omega) (by omega)
    rw [show a * 10000 = ((a.toNat * 10000 : Nat) : Int) by omega] at h2
    rw [← Int.natCast_mul] at h3
    rw [show ((R : Int) + 1) * ((R : Int) + 1) = (((R + 1) * (R + 1) : Nat) : Int) by rw [Int.natCast_mul, Int.natCast_add]; rfl] at h4
    have hj := roots_j a R (a.toNat * 10000) (K1 + K2 + K3 + K4) (by omega) ha.2 hR i1 i2 (h2 _ (by omega)) (h3 _ (by omega)) (h4 _ (by omega))
    have h1 := h1 (K1 + K2 + K3 + K4 + 1) (by omega)
    refine ⟨K1 + K2 + K3 + K4 + 1, ?_⟩
    dsimp only at h1
    unfold cadastrelaw02_RealRoots.f
    rw [hr, h1]
    simp only [Option.bind_some, ↓reduceIte, bne_self_eq_false, hj]
end Go.Proofs.Ytkhbkhbkcpmiiaa.Pure
