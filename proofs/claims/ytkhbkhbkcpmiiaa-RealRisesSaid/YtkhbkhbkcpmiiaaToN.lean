/- To a float: what real.To and the document's To tell, as one plain function of the number. -/
import Derived.Test.YtkhbkhbkcpmiiaaToBase
import Derived.Test.YtkhbkhbkcpmiiaaRefRound
import Derived.Test.YtkhbkhbkcpmiiaaPRealx7
namespace Go.Proofs.Ytkhbkhbkcpmiiaa.Pure
open Go.RowKit Go.Proofs.Ytkhbkhbkcpmiiaa.PReal Go.Proofs.YtkhbkhbkcpmiiaaW.PrintWords Go.Proofs.YtkhbkhbkcpmiiaaW.PrintLast Go.Proofs.YtkhbkhbkcpmiiaaW.PrintMore
set_option linter.unusedVariables false
set_option linter.unusedSimpArgs false

theorem size_ok (a : Int) (h0 : -9223372036854775808 < a) (h1 : a ≤ 9223372036854775807) : cadastreref01_Size.f a = some (a.natAbs : Int) := by
  unfold cadastreref01_Size.f
  by_cases c : a < 0
  · rw [if_pos c, bwin (n := a + 1) (by omega) (by omega), bwin (n := -(a + 1)) (by omega) (by omega), bwuN (n := -(a + 1)) (by omega) (by omega), bwuN (by omega) (by omega)]
    congr 1
    omega
  · rw [if_neg c, bwuN (by omega) (by omega)]
    congr 1
    omega
/-- What both tell of a number. -/
def toN (a : Int) : Int × Bool :=
  if a = -9223372036854775808 then (0, false) else if a = 0 then (0, true) else (((if decide (a < 0) then 9223372036854775808 + real_To.word a.natAbs else real_To.word a.natAbs : Nat) : Int), true)
theorem real_to (a : Int) (h0 : -9223372036854775808 ≤ a) (h1 : a ≤ 9223372036854775807) : real_To.f a = some (toN a) := by
  unfold real_To.f toN
  by_cases c : a = -9223372036854775808
  · rw [if_pos c, if_pos c]
  · rw [if_neg c, if_neg c]
    by_cases c0 : a = 0
    · rw [if_pos c0, if_pos c0]
    · rw [if_neg c0, if_neg c0, if_pos (by omega)]
theorem ref_to (a : Int) (h0 : -9223372036854775808 ≤ a) (h1 : a ≤ 9223372036854775807) : Ev (fun k => cadastreref02_To.f k a) (toN a) := by
  unfold toN
  by_cases c : a = -9223372036854775808
  · refine Ev.congr (f := fun k => some _) (fun k => ?_) (Ev.now _)
    unfold cadastreref02_To.f cadastreref01_Can.f
    rw [Option.bind_some, c, if_neg (by decide), if_pos rfl]
  · have hcan : (a != (-9223372036854775808)) = true := bne_iff_ne.mpr c
    rw [if_neg c]
    by_cases c0 : a = 0
    · refine Ev.congr (f := fun k => some _) (fun k => ?_) (Ev.now _)
      unfold cadastreref02_To.f cadastreref01_Can.f
      rw [Option.bind_some, hcan, if_pos rfl, if_pos c0, if_pos c0]
    · rw [if_neg c0]
      have n0 : 0 < a.natAbs := by omega
      have n1 : a.natAbs < 9223372036854775808 := by omega
      obtain ⟨w1, w2, w3⟩ := word_rung a.natAbs n0 n1
      have l1 : (big a.natAbs).length ≤ 63 := (big_len_le _ 63).mpr n1
      have l2 : (big 10000).length ≤ 14 := (big_len_le _ 14).mpr (by decide)
      obtain ⟨r, hr, hv⟩ := round_ok a.natAbs 10000 (by omega) (by decide) (by omega) (by omega)
      have hrw := hr.unique (by decide) w1
      subst hrw
      have o1 := of_ok a.natAbs (by omega)
      have o2 := of_ok 10000 (by decide)
      refine Ev.congr (f := fun k => (cadastreref02_Of.f k (a.natAbs : Int)).bind fun t427 => ((cadastreref02_Of.f k 10000).bind fun t430 => ((cadastreref02_Round.f k t427 t430).bind fun t433 => (if a < 0 then (some (IntKind.u64.wrap (t433 + 9223372036854775808), true)) else (some (t433, true)))))) (fun k => ?_) (Ev.bind o1 (Ev.bind o2 (Ev.bind hv ?_)))
      · unfold cadastreref02_To.f cadastreref01_Can.f
        rw [Option.bind_some, hcan, if_pos rfl, if_neg c0, size_ok a (by omega) h1]
        rfl
      · refine Ev.congr (f := fun k => some _) (fun k => ?_) (Ev.now _)
        by_cases g : a < 0
        · rw [if_pos g, decide_eq_true g, if_pos rfl, bwuN (by omega) (by omega)]
          congr 2
          omega
        · rw [if_neg g, decide_eq_false g, if_neg (by decide)]
end Go.Proofs.Ytkhbkhbkcpmiiaa.Pure
