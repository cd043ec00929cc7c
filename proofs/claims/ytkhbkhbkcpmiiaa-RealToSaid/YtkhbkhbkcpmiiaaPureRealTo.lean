/- To a float: for all numbers, real.To tells what the document's To tells, and its float comes back below 2^52. No condition. -/
import Derived.Test.YtkhbkhbkcpmiiaaToBase
import Derived.Test.YtkhbkhbkcpmiiaaRefRound
import Derived.Test.YtkhbkhbkcpmiiaaPRealx8
namespace Go.Proofs.Ytkhbkhbkcpmiiaa.Pure
open Go.RowKit Go.Proofs.Ytkhbkhbkcpmiiaa.PReal Go.Proofs.YtkhbkhbkcpmiiaaW.PrintWords Go.Proofs.YtkhbkhbkcpmiiaaW.PrintLast Go.Proofs.YtkhbkhbkcpmiiaaW.PrintMore
set_option linter.unusedVariables false
set_option linter.unusedSimpArgs false

theorem size_ok (a : Int) (h0 : -9223372036854775808 < a) (h1 : a ≤ 9223372036854775807) : cadastreref01_Size.f a = some (a.natAbs : Int) := by
  unfold cadastreref01_Size.f
  by_cases c : a < 0
  · rw [if_pos c, bwin (n := a + 1) (by omega) (by omega), bwin (n := -(a + 1)) (by omega) (by omega), bwuN (n := -(a + 1)) (by omega) (by omega), bwuN (by omega) (by omega)]
    congr 1
    omega
  · rw [if_neg c, bwuN (by omega) (by omega)]
    congr 1
    omega
/-- What both tell of a number. -/
def toN (a : Int) : Int × Bool :=
  if a = -9223372036854775808 then (0, false) else if a = 0 then (0, true) else (((if decide (a < 0) then 9223372036854775808 + real_To.word a.natAbs else real_To.word a.natAbs : Nat) : Int), true)
theorem real_to (a : Int) (h0 : -9223372036854775808 ≤ a) (h1 : a ≤ 9223372036854775807) : real_To.f a = some (toN a) := by
  unfold real_To.f toN
  by_cases c : a = -9223372036854775808
  · rw [if_pos c, if_pos c]
  · rw [if_neg c, if_neg c]
    by_cases c0 : a = 0
    · rw [if_pos c0, if_pos c0]
    · rw [if_neg c0, if_neg c0, if_pos (by omega)]
theorem ref_to (a : Int) (h0 : -9223372036854775808 ≤ a) (h1 : a ≤ 9223372036854775807) : Ev (fun k => cadastreref02_To.f k a) (toN a) := by
  unfold toN
  by_cases c : a = -9223372036854775808
  · refine Ev.congr (f := fun k => some _) (fun k => ?_) (Ev.now _)
    unfold cadastreref02_To.f cadastreref01_Can.f
    rw [Option.bind_some, c, if_neg (by decide), if_pos rfl]
  · have hcan : (a != (-9223372036854775808)) = true := bne_iff_ne.mpr c
    rw [if_neg c]
    by_cases c0 : a = 0
    · refine Ev.congr (f := fun k => some _) (fun k => ?_) (Ev.now _)
      unfold cadastreref02_To.f cadastreref01_Can.f
      rw [Option.bind_some, hcan, if_pos rfl, if_pos c0, if_pos c0]
    · rw [if_neg c0]
      have n0 : 0 < a.natAbs := by omega
      have n1 : a.natAbs < 9223372036854775808 := by omega
      obtain ⟨w1, w2, w3⟩ := word_rung a.natAbs n0 n1
      have l1 : (big a.natAbs).length ≤ 63 := (big_len_le _ 63).mpr n1
      have l2 : (big 10000).length ≤ 14 := (big_len_le _ 14).mpr (by decide)
      obtain ⟨r, hr, hv⟩ := round_ok a.natAbs 10000 (by omega) (by decide) (by omega) (by omega)
      have hrw := hr.unique (by decide) w1
      subst hrw
      have o1 := of_ok a.natAbs (by omega)
      have o2 := of_ok 10000 (by decide)
      refine Ev.congr (f := fun k => (cadastreref02_Of.f k (a.natAbs : Int)).bind fun t427 => ((cadastreref02_Of.f k 10000).bind fun t430 => ((cadastreref02_Round.f k t427 t430).bind fun t433 => (if a < 0 then (some (IntKind.u64.wrap (t433 + 9223372036854775808), true)) else (some (t433, true)))))) (fun k => ?_) (Ev.bind o1 (Ev.bind o2 (Ev.bind hv ?_)))
      · unfold cadastreref02_To.f cadastreref01_Can.f
        rw [Option.bind_some, hcan, if_pos rfl, if_neg c0, size_ok a (by omega) h1]
        rfl
      · refine Ev.congr (f := fun k => some _) (fun k => ?_) (Ev.now _)
        by_cases g : a < 0
        · rw [if_pos g, decide_eq_true g, if_pos rfl, bwuN (by omega) (by omega)]
          congr 2
          omega
        · rw [if_neg g, decide_eq_false g, if_neg (by decide)]
theorem RealTo : cadastrelaw02_RealTo.Pure := by
  intro a wa
  have ha : -9223372036854775808 ≤ a ∧ a ≤ 9223372036854775807 := by
    simp [Lit.wf, IntKind.min, IntKind.max, IntKind.signed, IntKind.bits] at wa
    omega
  have hr := real_to a ha.1 ha.2
  have hf := ref_to a ha.1 ha.2
  have hj : Ev (fun k => cadastrelaw02_RealTo.j0 k a (toN a).1 ((toN a).2 != (toN a).2)) true := by
    refine Ev.step (f := fun k => some _) (fun k => ?_) (Ev.now _)
    rw [cadastrelaw02_RealTo.j0, if_neg (by simp)]
    by_cases c : a = -9223372036854775808
    · have e1 : toN a = (0, false) := by
        unfold toN
        rw [if_pos c]
      have hs : cadastreref01_Size.f a = some 9223372036854775808 := by
        rw [c]
        unfold cadastreref01_Size.f
        rw [if_pos (by decide), bwin (n := -9223372036854775808 + 1) (by decide) (by decide), bwin (n := -(-9223372036854775808 + 1)) (by decide) (by decide), bwuN (n := -(-9223372036854775808 + 1)) (by decide) (by decide), bwuN (by decide) (by decide)]
        rfl
      have hz := real_from 0 (by decide)
      rw [e1, show (0 : Int) = ((0 : Nat) : Int) by rfl, hz, hs]
      simp only [Option.bind_some]
      rw [if_pos (by decide), lives_ok]
      rfl
    · rw [size_ok a (by omega) ha.2]
      by_cases c0 : a = 0
      · have e1 : toN a = (0, true) := by
          unfold toN
          rw [if_neg c, if_pos c0]
        have hz := real_from 0 (by decide)
        have hf0 : fromN 0 = (0, true) := by
          unfold fromN
          rw [if_neg (by decide), if_pos (by decide), Nat.zero_mod, sizeT_zero]
          rfl
        rw [hf0] at hz
        rw [e1, show (0 : Int) = ((0 : Nat) : Int) by rfl, hz]
        simp only [Option.bind_some]
        rw [if_neg (by omega), if_pos (by omega), if_pos trivial, lives_ok]
        rfl
      · obtain ⟨w1, w2, w3⟩ := word_rung a.natAbs (by omega) (by omega)
        have e1 : toN a = (((if decide (a < 0) then 9223372036854775808 + real_To.word a.natAbs else real_To.word a.natAbs : Nat) : Int), true) := by
          unfold toN
          rw [if_neg c, if_neg c0]
        have hlt : (if decide (a < 0) then 9223372036854775808 + real_To.word a.natAbs else real_To.word a.natAbs) < 18446744073709551616 := by split <;> omega
        rw [e1, real_from _ hlt]
        simp only [Option.bind_some]
        by_cases g : a.natAbs < 4503599627370496
        · rw [word_back a.natAbs (decide (a < 0)) (by omega) g, if_neg (by omega), if_pos, if_pos rfl, lives_ok]
          · rfl
          · by_cases n : a < 0
            · rw [decide_eq_true n, if_pos rfl]
              omega
            · rw [decide_eq_false n, if_neg (by decide)]
              omega
        · rw [if_pos (by omega), lives_ok]
          rfl
  obtain ⟨k, h⟩ := (Ev.bind (f := fun k bt => if (toN a).1 = bt.1 then cadastrelaw02_RealTo.j0 k a (toN a).1 ((toN a).2 != bt.2) else cadastrelaw02_RealTo.j0 k a (toN a).1 true) hf (Ev.congr (fun k => if_pos rfl) hj)).rounds
  refine ⟨k, ?_⟩
  unfold cadastrelaw02_RealTo.f
  rw [hr, Option.bind_some]
  exact h
end Go.Proofs.Ytkhbkhbkcpmiiaa.Pure
