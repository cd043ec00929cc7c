/- Printed by a program of this session: for each Go function named below its pure function, and that where this tells an answer the call comes to that answer. No condition. -/
import Derived.Test.YtkhbkhbkcpmiiaaPRealx0
namespace Go.Proofs.Ytkhbkhbkcpmiiaa.PReal
open Go.RowKit Go.Proofs.YtkhbkhbkcpmiiaaW.PrintWords Go.Proofs.YtkhbkhbkcpmiiaaW.PrintLast Go.Proofs.YtkhbkhbkcpmiiaaW.PrintMore
attribute [local go_sem] max2_int min2_int max_two min_two max_three min_three max_four min_four   -- for this text's walks alone
set_option linter.unusedVariables false
set_option linter.unusedSimpArgs false

-- GIVEN: function 25 (bits_Mul64): the module YtkhbkhbkcpmiiaaGbits_Mul64

/-! ### real_even: function 46 -/
def real_even.f (a0 : Int) (a1 : Int) (a2 : Int) (a3 : Bool) : Option (Int) := if a1 > a2 then (some (IntKind.u64.wrap (a0 + 1))) else (if a1 = a2 then (if a3 = true then (some (IntKind.u64.wrap (a0 + 1))) else (if (Go.bits .and .u64 a0 1) = 1 then (some (IntKind.u64.wrap (a0 + 1))) else (some a0))) else (some a0))
set_option maxHeartbeats 8000000 in
set_option maxRecDepth 100000 in
theorem real_even.calls (a0 : Int) (a1 : Int) (a2 : Int) (a3 : Bool) (r : Int) (w : World) (h : real_even.f a0 a1 a2 a3 = some r) :
    Calls Try.prog 46 #[.int .u64 a0, .int .u64 a1, .int .u64 a2, .bool a3] w fun e w' => e = .returned (.int .u64 r) ∧ Drawn0 w w' := by
  have H : (if a1 > a2 then (some (IntKind.u64.wrap (a0 + 1))) else (if a1 = a2 then (if a3 = true then (some (IntKind.u64.wrap (a0 + 1))) else (if (Go.bits .and .u64 a0 1) = 1 then (some (IntKind.u64.wrap (a0 + 1))) else (some a0))) else (some a0))) = some r := h
  clear h
  by_cases c5 : a1 > a2
  · rw [if_pos c5] at H
    have c5b0 : decide (a2 < a1) = true := decide_eq_true c5
    clear c5
    obtain rfl := Option.some.inj H
    go_enter Try.func46, Try.ntmps46
    go_wp2
    go_ret
    exact ⟨by first | rfl | (simp; done) | (simp [*]; done), by repeat (first | exact Drawn0.refl _ | apply Drawn0.step)⟩
  · rw [if_neg c5] at H
    have c5b0 : decide (a2 < a1) = false := decide_eq_false c5
    clear c5
    by_cases c6 : a1 = a2
    · rw [if_pos c6] at H
      have c6b0 : (a1 == a2) = true := beq_iff_eq.mpr c6
      have c6b1 : (a1 != a2) = false := bne_eq_false_iff_eq.mpr c6
      clear c6
      by_cases c7 : a3 = true
      · subst c7
        have H1 : (some (IntKind.u64.wrap (a0 + 1))) = some r := by rw [if_pos rfl] at H; exact H
        clear H
        have H := H1
        clear H1
        obtain rfl := Option.some.inj H
        go_enter Try.func46, Try.ntmps46
        go_wp2
        go_ret
        exact ⟨by first | rfl | (simp; done) | (simp [*]; done), by repeat (first | exact Drawn0.refl _ | apply Drawn0.step)⟩
      · replace c7 := Bool.eq_false_iff.mpr c7
        subst c7
        have H1 : (if (Go.bits .and .u64 a0 1) = 1 then (some (IntKind.u64.wrap (a0 + 1))) else (some a0)) = some r := by rw [if_neg (show ¬ (false = true) by decide)] at H; exact H
        clear H
        have H := H1
        clear H1
        by_cases c8 : (Go.bits .and .u64 a0 1) = 1
        · rw [if_pos c8] at H
          have c8b0 : ((Go.bits .and .u64 a0 1) == 1) = true := beq_iff_eq.mpr c8
          have c8b1 : ((Go.bits .and .u64 a0 1) != 1) = false := bne_eq_false_iff_eq.mpr c8
          clear c8
          obtain rfl := Option.some.inj H
          go_enter Try.func46, Try.ntmps46
          go_wp2
          go_ret
          exact ⟨by first | rfl | (simp; done) | (simp [*]; done), by repeat (first | exact Drawn0.refl _ | apply Drawn0.step)⟩
        · rw [if_neg c8] at H
          have c8b0 : ((Go.bits .and .u64 a0 1) == 1) = false := beq_eq_false_iff_ne.mpr c8
          have c8b1 : ((Go.bits .and .u64 a0 1) != 1) = true := bne_iff_ne.mpr c8
          obtain rfl := Option.some.inj H
          go_enter Try.func46, Try.ntmps46
          go_wp2
          go_ret
          exact ⟨by first | rfl | (simp; done) | (simp [*]; done), by repeat (first | exact Drawn0.refl _ | apply Drawn0.step)⟩
    · rw [if_neg c6] at H
      have c6b0 : (a1 == a2) = false := beq_eq_false_iff_ne.mpr c6
      have c6b1 : (a1 != a2) = true := bne_iff_ne.mpr c6
      obtain rfl := Option.some.inj H
      go_enter Try.func46, Try.ntmps46
      go_wp2
      go_ret
      exact ⟨by first | rfl | (simp; done) | (simp [*]; done), by repeat (first | exact Drawn0.refl _ | apply Drawn0.step)⟩

end Go.Proofs.Ytkhbkhbkcpmiiaa.PReal
