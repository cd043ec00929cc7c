/- Printed by a program of this session: for each Go function named below its pure function, and that where this tells an answer the call comes to that answer. No condition. -/
import Derived.Test.YtkhbkhbkcpmiiaaPRealx0
namespace Go.Proofs.Ytkhbkhbkcpmiiaa.PReal
open Go.RowKit Go.Proofs.YtkhbkhbkcpmiiaaW.PrintWords Go.Proofs.YtkhbkhbkcpmiiaaW.PrintLast Go.Proofs.YtkhbkhbkcpmiiaaW.PrintMore
attribute [local go_sem] max2_int min2_int max_two min_two max_three min_three max_four min_four   -- for this text's walks alone
set_option linter.unusedVariables false
set_option linter.unusedSimpArgs false

-- GIVEN: function 25 (bits_Mul64): the module YtkhbkhbkcpmiiaaGbits_Mul64

/-! ### real_even: function 46 -/
def real_even.f (a0 : Int) (a1 : Int) (a2 : Int) (a3 : Bool) : Option (Int) := if a1 > a2 then (some (IntKind.u64.wrap (a0 + 1))) else (if a1 = a2 then (if a3 = true then (some (IntKind.u64.wrap (a0 + 1))) else (if (Go.bits .and .u64 a0 1) = 1 then (some (IntKind.u64.wrap (a0 + 1))) else (some a0))) else (some a0))
set_option maxHeartbeats 8000000 in
set_option maxRecDepth 100000 in
theorem real_even.calls (a0 : Int) (a1 : Int) (a2 : Int) (a3 : Bool) (r : Int) (w : World) (h : real_even.f a0 a1 a2 a3 = some r) :
    Calls Try.prog 46 #[.int .u64 a0, .int .u64 a1, .int .u64 a2, .bool a3] w fun e w' => e = .returned (.int .u64 r) ∧ Drawn0 w w' := by
  have H : (if a1 > a2 then (some (IntKind.u64.wrap (a0 + 1))) else (if a1 = a2 then (if a3 = true then (some (IntKind.u64.wrap (a0 + 1))) else (if (Go.bits .and .u64 a0 1) = 1 then (some (IntKind.u64.wrap (a0 + 1))) else (some a0))) else (some a0))) = some r := h
  clear h
  by_cases c5 : a1 > a2
  · rw [if_pos c5] at H
    have c5b0 : decide (a2 < a1) = true := decide_eq_true c5
    clear c5
    obtain rfl := Option.some.inj H
    go_enter Try.func46, Try.ntmps46
    go_wp2
    go_ret
    exact ⟨by first | rfl | (simp; done) | (simp [*]; done), by repeat (first | exact Drawn0.refl _ | apply Drawn0.step)⟩
  · rw [if_neg c5] at H
    have c5b0 : decide (a2 < a1) = false := decide_eq_false c5
    clear c5
    by_cases c6 : a1 = a2
    · rw [if_pos c6] at H
      have c6b0 : (a1 == a2) = true := beq_iff_eq.mpr c6
      have c6b1 : (a1 != a2) = false := bne_eq_false_iff_eq.mpr c6
      clear c6
      by_cases c7 : a3 = true
      · subst c7
        have H1 : (some (IntKind.u64.wrap (a0 + 1))) = some r := by rw [if_pos rfl] at H; exact H
        clear H
        have H := H1
        clear H1
        obtain rfl := Option.some.inj H
        go_enter Try.func46, Try.ntmps46
        go_wp2
        go_ret
        exact ⟨by first | rfl | (simp; done) | (simp [*]; done), by repeat (first | exact Drawn0.refl _ | apply Drawn0.step)⟩
      · replace c7 := Bool.eq_false_iff.mpr c7
        subst c7
        have H1 : (if (Go.bits .and .u64 a0 1) = 1 then (some (IntKind.u64.wrap (a0 + 1))) else (some a0)) = some r := by rw [if_neg (show ¬ (false = true) by decide)] at H; exact H
        clear H
        have H := H1
        clear H1
        by_cases c8 : (Go.bits .and .u64 a0 1) = 1
        · rw [if_pos c8] at H
          have c8b0 : ((Go.bits .and .u64 a0 1) == 1) = true := beq_iff_eq.mpr c8
          have c8b1 : ((Go.bits .and .u64 a0 1) != 1) = false := bne_eq_false_iff_eq.mpr c8
          clear c8
          obtain rfl := Option.some.inj H
          go_enter Try.func46, Try.ntmps46
          go_wp2
          go_ret
          exact ⟨by first | rfl | (simp; done) | (simp [*]; done), by repeat (first | exact Drawn0.refl _ | apply Drawn0.step)⟩
        · rw [if_neg c8] at H
          have c8b0 : ((Go.bits .and .u64 a0 1) == 1) = false := beq_eq_false_iff_ne.mpr c8
          have c8b1 : ((Go.bits .and .u64 a0 1) != 1) = true := bne_iff_ne.mpr c8
          obtain rfl := Option.some.inj H
          go_enter Try.func46, Try.ntmps46
          go_wp2
          go_ret
          exact ⟨by first | rfl | (simp; done) | (simp [*]; done), by repeat (first | exact Drawn0.refl _ | apply Drawn0.step)⟩
    · rw [if_neg c6] at H
      have c6b0 : (a1 == a2) = false := beq_eq_false_iff_ne.mpr c6
      have c6b1 : (a1 != a2) = true := bne_iff_ne.mpr c6
      obtain rfl := Option.some.inj H
      go_enter Try.func46, Try.ntmps46
      go_wp2
      go_ret
      exact ⟨by first | rfl | (simp; done) | (simp [*]; done), by repeat (first | exact Drawn0.refl _ | apply Drawn0.step)⟩

/-! ### real_shifted: function 26 -/
def real_shifted.f (a0 : Int) (a1 : Int) (a2 : Int) : Option (Int × Bool) := if a2 > 63 then (some (0, ((Go.bits .or .u64 a0 a1) == 0))) else (if a2 ≥ 0 then (if 0 ≤ a2 then (if 0 ≤ (wrap64 (63 - a2)) then (if (Go.bits .or .u64 (shl .u64 a0 a2) ((shr .u64 a1 (wrap64 (63 - a2))) / 2)) = 0 then (some (shl .u64 a1 a2, (a0 == 0))) else (some (shl .u64 a1 a2, false))) else (none)) else (none)) else (if a2 < (-127) then (some (0, true)) else (if (wrap64 (-a2)) > 64 then (if 0 ≤ (wrap64 ((wrap64 (-a2)) - 64)) then (if 0 ≤ (wrap64 ((wrap64 (-a2)) - 65)) then ((real_even.f (shr .u64 a0 (wrap64 ((wrap64 (-a2)) - 64))) (Go.bits .and .u64 a0 (IntKind.u64.wrap ((shl .u64 1 (wrap64 ((wrap64 (-a2)) - 64))) - 1))) (shl .u64 1 (wrap64 ((wrap64 (-a2)) - 65))) (a1 != 0)).bind fun t101 => (some (t101, true))) else (none)) else (none)) else (if (wrap64 (-a2)) = 64 then ((real_even.f a0 a1 9223372036854775808 false).bind fun t102 => (some (t102, true))) else (if 0 ≤ (wrap64 (-a2)) then (if (shr .u64 a0 (wrap64 (-a2))) = 0 then (if 0 ≤ (wrap64 (64 - (wrap64 (-a2)))) then (if 0 ≤ (wrap64 ((wrap64 (-a2)) - 1)) then ((real_even.f (Go.bits .or .u64 (shl .u64 a0 (wrap64 (64 - (wrap64 (-a2))))) (shr .u64 a1 (wrap64 (-a2)))) (Go.bits .and .u64 a1 (IntKind.u64.wrap ((shl .u64 1 (wrap64 (-a2))) - 1))) (shl .u64 1 (wrap64 ((wrap64 (-a2)) - 1))) false).bind fun t103 => (some (t103, true))) else (none)) else (none)) else (some (0, false))) else (none))))))
set_option maxHeartbeats 8000000 in
set_option maxRecDepth 100000 in
theorem real_shifted.calls (a0 : Int) (a1 : Int) (a2 : Int) (r1 : Int) (r2 : Bool) (w : World) (h : real_shifted.f a0 a1 a2 = some (r1, r2)) :
    Calls Try.prog 26 #[.int .u64 a0, .int .u64 a1, .int .i64 a2] w fun e w' => e = .returned (.tuple #[.int .u64 r1, .bool r2]) ∧ Drawn0 w w' := by
  have H : (if a2 > 63 then (some (0, ((Go.bits .or .u64 a0 a1) == 0))) else (if a2 ≥ 0 then (if 0 ≤ a2 then (if 0 ≤ (wrap64 (63 - a2)) then (if (Go.bits .or .u64 (shl .u64 a0 a2) ((shr .u64 a1 (wrap64 (63 - a2))) / 2)) = 0 then (some (shl .u64 a1 a2, (a0 == 0))) else (some (shl .u64 a1 a2, false))) else (none)) else (none)) else (if a2 < (-127) then (some (0, true)) else (if (wrap64 (-a2)) > 64 then (if 0 ≤ (wrap64 ((wrap64 (-a2)) - 64)) then (if 0 ≤ (wrap64 ((wrap64 (-a2)) - 65)) then ((real_even.f (shr .u64 a0 (wrap64 ((wrap64 (-a2)) - 64))) (Go.bits .and .u64 a0 (IntKind.u64.wrap ((shl .u64 1 (wrap64 ((wrap64 (-a2)) - 64))) - 1))) (shl .u64 1 (wrap64 ((wrap64 (-a2)) - 65))) (a1 != 0)).bind fun t101 => (some (t101, true))) else (none)) else (none)) else (if (wrap64 (-a2)) = 64 then ((real_even.f a0 a1 9223372036854775808 false).bind fun t102 => (some (t102, true))) else (if 0 ≤ (wrap64 (-a2)) then (if (shr .u64 a0 (wrap64 (-a2))) = 0 then (if 0 ≤ (wrap64 (64 - (wrap64 (-a2)))) then (if 0 ≤ (wrap64 ((wrap64 (-a2)) - 1)) then ((real_even.f (Go.bits .or .u64 (shl .u64 a0 (wrap64 (64 - (wrap64 (-a2))))) (shr .u64 a1 (wrap64 (-a2)))) (Go.bits .and .u64 a1 (IntKind.u64.wrap ((shl .u64 1 (wrap64 (-a2))) - 1))) (shl .u64 1 (wrap64 ((wrap64 (-a2)) - 1))) false).bind fun t103 => (some (t103, true))) else (none)) else (none)) else (some (0, false))) else (none))))))) = some (r1, r2) := h
  clear h
  by_cases c4 : a2 > 63
  · rw [if_pos c4] at H
    have c4b0 : decide (63 < a2) = true := decide_eq_true c4
    clear c4
    simp only [Option.some.injEq, Prod.mk.injEq] at H
    obtain ⟨rfl, rfl⟩ := H
    go_enter Try.func26, Try.ntmps26
    go_wp2
    repeat (go_quiet (fail); try go_wp2)
    go_ret2
    exact ⟨by first | rfl | (simp; done) | (simp [*]; done), by repeat (first | exact Drawn0.refl _ | apply Drawn0.step)⟩
  · rw [if_neg c4] at H
    have c4b0 : decide (63 < a2) = false := decide_eq_false c4
    clear c4
    by_cases c5 : a2 ≥ 0
    · rw [if_pos c5] at H
      have c5b0 : decide (0 ≤ a2) = true := decide_eq_true c5
      clear c5
      by_cases c6 : 0 ≤ a2
      · rw [if_pos c6] at H
        have c6b0 := eq_true c6
        have c6b1 : decide (0 ≤ a2) = true := decide_eq_true c6
        clear c6
        obtain ⟨ji7, hji7⟩ : ∃ j_ : Int, (shl .u64 a0 a2) = j_ := ⟨_, rfl⟩
        replace H : (if 0 ≤ (wrap64 (63 - a2)) then (if (Go.bits .or .u64 (ji7) ((shr .u64 a1 (wrap64 (63 - a2))) / 2)) = 0 then (some (shl .u64 a1 a2, (a0 == 0))) else (some (shl .u64 a1 a2, false))) else (none)) = some (r1, r2) := by first | (rw [hji7] at H; exact H) | (simp only [hji7] at H ⊢; exact H)
        have hji7_ : (IntKind.u64.wrap (a0 * 2 ^ min a2.toNat 64)) = ji7 := hji7
        have hji7z : a2 ≤ 64 → (IntKind.u64.wrap (a0 * 2 ^ a2.toNat)) = ji7 := shl_small hji7
        obtain ⟨ji8, hji8⟩ : ∃ j_ : Int, (wrap64 (63 - a2)) = j_ := ⟨_, rfl⟩
        replace H : (if 0 ≤ (ji8) then (if (Go.bits .or .u64 (ji7) ((shr .u64 a1 (ji8)) / 2)) = 0 then (some (shl .u64 a1 a2, (a0 == 0))) else (some (shl .u64 a1 a2, false))) else (none)) = some (r1, r2) := by first | (rw [hji8] at H; exact H) | (simp only [hji8] at H ⊢; exact H)
        have hji8w : (IntKind.i64.wrap (63 - a2)) = ji8 := (i64_w _).trans hji8
        by_cases c9 : 0 ≤ (ji8)
        · rw [if_pos c9] at H
          have c9b0 := eq_true c9
          have c9b1 : decide (0 ≤ (ji8)) = true := decide_eq_true c9
          clear c9
          obtain ⟨ji10, hji10⟩ : ∃ j_ : Int, (shr .u64 a1 (ji8)) = j_ := ⟨_, rfl⟩
          replace H : (if (Go.bits .or .u64 (ji7) ((ji10) / 2)) = 0 then (some (shl .u64 a1 a2, (a0 == 0))) else (some (shl .u64 a1 a2, false))) = some (r1, r2) := by first | (rw [hji10] at H; exact H) | (simp only [hji10] at H ⊢; exact H)
          have hji10_ : (a1 / 2 ^ min (ji8).toNat 64) = ji10 := hji10
          have hji10z : (ji8) ≤ 64 → (a1 / 2 ^ (ji8).toNat) = ji10 := shr_small hji10
          have c11b0 := eq_true (of_decide_eq_true (by first | (with_reducible assumption) | assumption) : 0 ≤ a2)
          obtain ⟨ji12, hji12⟩ : ∃ j_ : Int, (shl .u64 a1 a2) = j_ := ⟨_, rfl⟩
          replace H : (if (Go.bits .or .u64 (ji7) ((ji10) / 2)) = 0 then (some (ji12, (a0 == 0))) else (some (ji12, false))) = some (r1, r2) := by first | (rw [hji12] at H; exact H) | (simp only [hji12] at H ⊢; exact H)
          have hji12_ : (IntKind.u64.wrap (a1 * 2 ^ min a2.toNat 64)) = ji12 := hji12
          have hji12z : a2 ≤ 64 → (IntKind.u64.wrap (a1 * 2 ^ a2.toNat)) = ji12 := shl_small hji12
          by_cases c13 : (Go.bits .or .u64 (ji7) ((ji10) / 2)) = 0
          · rw [if_pos c13] at H
            have c13b0 : ((Go.bits .or .u64 (ji7) ((ji10) / 2)) == 0) = true := beq_iff_eq.mpr c13
            have c13b1 : ((Go.bits .or .u64 (ji7) ((ji10) / 2)) != 0) = false := bne_eq_false_iff_eq.mpr c13
            clear c13
            simp only [Option.some.injEq, Prod.mk.injEq] at H
            obtain ⟨rfl, rfl⟩ := H
            go_enter Try.func26, Try.ntmps26
            go_wp2
            repeat (go_quiet (fail); try go_wp2)
            go_ret2
            exact ⟨by first | rfl | (simp; done) | (simp only [← hji7, ← hji8, ← hji10, ← hji12] <;> (first | rfl | simp)) | (simp [*]; done), by repeat (first | exact Drawn0.refl _ | apply Drawn0.step)⟩
          · rw [if_neg c13] at H
            have c13b0 : ((Go.bits .or .u64 (ji7) ((ji10) / 2)) == 0) = false := beq_eq_false_iff_ne.mpr c13
            have c13b1 : ((Go.bits .or .u64 (ji7) ((ji10) / 2)) != 0) = true := bne_iff_ne.mpr c13
            simp only [Option.some.injEq, Prod.mk.injEq] at H
            obtain ⟨rfl, rfl⟩ := H
            go_enter Try.func26, Try.ntmps26
            go_wp2
            repeat (go_quiet (fail); try go_wp2)
            go_ret2
            exact ⟨by first | rfl | (simp; done) | (simp only [← hji7, ← hji8, ← hji10, ← hji12] <;> (first | rfl | simp)) | (simp [*]; done), by repeat (first | exact Drawn0.refl _ | apply Drawn0.step)⟩
        · rw [if_neg c9] at H
          exact absurd H (by simp)
      · rw [if_neg c6] at H
        exact absurd H (by simp)
    · rw [if_neg c5] at H
      have c5b0 : decide (0 ≤ a2) = false := decide_eq_false c5
      clear c5
      by_cases c14 : a2 < (-127)
      · rw [if_pos c14] at H
        have c14b0 : decide (a2 < (-127)) = true := decide_eq_true c14
        clear c14
        simp only [Option.some.injEq, Prod.mk.injEq] at H
        obtain ⟨rfl, rfl⟩ := H
        go_enter Try.func26, Try.ntmps26
        go_wp2
        repeat (go_quiet (fail); try go_wp2)
        go_ret2
        exact ⟨by first | rfl | (simp; done) | (simp [*]; done), by repeat (first | exact Drawn0.refl _ | apply Drawn0.step)⟩
      · rw [if_neg c14] at H
        have c14b0 : decide (a2 < (-127)) = false := decide_eq_false c14
        clear c14
        by_cases c15 : (wrap64 (-a2)) > 64
        · rw [if_pos c15] at H
          have c15b0 : decide (64 < (wrap64 (-a2))) = true := decide_eq_true c15
          clear c15
          obtain ⟨ji16, hji16⟩ : ∃ j_ : Int, (wrap64 ((wrap64 (-a2)) - 64)) = j_ := ⟨_, rfl⟩
          replace H : (if 0 ≤ (ji16) then (if 0 ≤ (wrap64 ((wrap64 (-a2)) - 65)) then ((real_even.f (shr .u64 a0 (ji16)) (Go.bits .and .u64 a0 (IntKind.u64.wrap ((shl .u64 1 (ji16)) - 1))) (shl .u64 1 (wrap64 ((wrap64 (-a2)) - 65))) (a1 != 0)).bind fun t101 => (some (t101, true))) else (none)) else (none)) = some (r1, r2) := by first | (rw [hji16] at H; exact H) | (simp only [hji16] at H ⊢; exact H)
          have hji16w : (IntKind.i64.wrap ((wrap64 (-a2)) - 64)) = ji16 := (i64_w _).trans hji16
          by_cases c17 : 0 ≤ (ji16)
          · rw [if_pos c17] at H
            have c17b0 := eq_true c17
            have c17b1 : decide (0 ≤ (ji16)) = true := decide_eq_true c17
            clear c17
            obtain ⟨ji18, hji18⟩ : ∃ j_ : Int, (shr .u64 a0 (ji16)) = j_ := ⟨_, rfl⟩
            replace H : (if 0 ≤ (wrap64 ((wrap64 (-a2)) - 65)) then ((real_even.f (ji18) (Go.bits .and .u64 a0 (IntKind.u64.wrap ((shl .u64 1 (ji16)) - 1))) (shl .u64 1 (wrap64 ((wrap64 (-a2)) - 65))) (a1 != 0)).bind fun t101 => (some (t101, true))) else (none)) = some (r1, r2) := by first | (rw [hji18] at H; exact H) | (simp only [hji18] at H ⊢; exact H)
            have hji18_ : (a0 / 2 ^ min (ji16).toNat 64) = ji18 := hji18
            have hji18z : (ji16) ≤ 64 → (a0 / 2 ^ (ji16).toNat) = ji18 := shr_small hji18
            have c19b0 := eq_true (of_decide_eq_true (by first | (with_reducible assumption) | assumption) : 0 ≤ (ji16))
            obtain ⟨ji20, hji20⟩ : ∃ j_ : Int, (shl .u64 1 (ji16)) = j_ := ⟨_, rfl⟩
            replace H : (if 0 ≤ (wrap64 ((wrap64 (-a2)) - 65)) then ((real_even.f (ji18) (Go.bits .and .u64 a0 (IntKind.u64.wrap ((ji20) - 1))) (shl .u64 1 (wrap64 ((wrap64 (-a2)) - 65))) (a1 != 0)).bind fun t101 => (some (t101, true))) else (none)) = some (r1, r2) := by first | (rw [hji20] at H; exact H) | (simp only [hji20] at H ⊢; exact H)
            have hji20_ : (IntKind.u64.wrap (1 * 2 ^ min (ji16).toNat 64)) = ji20 := hji20
            have hji20z : (ji16) ≤ 64 → (IntKind.u64.wrap (1 * 2 ^ (ji16).toNat)) = ji20 := shl_small hji20
            have hji20u : (IntKind.u64.wrap (2 ^ min (ji16).toNat 64)) = ji20 := by have h_ := hji20_; rw [Int.one_mul] at h_; exact h_
            have hji20v : (ji16) ≤ 64 → (IntKind.u64.wrap (2 ^ (ji16).toNat)) = ji20 := fun hle_ => by have h_ := hji20z hle_; rw [Int.one_mul] at h_; exact h_
            obtain ⟨ji21, hji21⟩ : ∃ j_ : Int, (wrap64 ((wrap64 (-a2)) - 65)) = j_ := ⟨_, rfl⟩
            replace H : (if 0 ≤ (ji21) then ((real_even.f (ji18) (Go.bits .and .u64 a0 (IntKind.u64.wrap ((ji20) - 1))) (shl .u64 1 (ji21)) (a1 != 0)).bind fun t101 => (some (t101, true))) else (none)) = some (r1, r2) := by first | (rw [hji21] at H; exact H) | (simp only [hji21] at H ⊢; exact H)
            have hji21w : (IntKind.i64.wrap ((wrap64 (-a2)) - 65)) = ji21 := (i64_w _).trans hji21
            by_cases c22 : 0 ≤ (ji21)
            · rw [if_pos c22] at H
              have c22b0 := eq_true c22
              have c22b1 : decide (0 ≤ (ji21)) = true := decide_eq_true c22
              clear c22
              obtain ⟨ji23, hji23⟩ : ∃ j_ : Int, (shl .u64 1 (ji21)) = j_ := ⟨_, rfl⟩
              replace H : ((real_even.f (ji18) (Go.bits .and .u64 a0 (IntKind.u64.wrap ((ji20) - 1))) (ji23) (a1 != 0)).bind fun t101 => (some (t101, true))) = some (r1, r2) := by first | (rw [hji23] at H; exact H) | (simp only [hji23] at H ⊢; exact H)
              have hji23_ : (IntKind.u64.wrap (1 * 2 ^ min (ji21).toNat 64)) = ji23 := hji23
              have hji23z : (ji21) ≤ 64 → (IntKind.u64.wrap (1 * 2 ^ (ji21).toNat)) = ji23 := shl_small hji23
              have hji23u : (IntKind.u64.wrap (2 ^ min (ji21).toNat 64)) = ji23 := by have h_ := hji23_; rw [Int.one_mul] at h_; exact h_
              have hji23v : (ji21) ≤ 64 → (IntKind.u64.wrap (2 ^ (ji21).toNat)) = ji23 := fun hle_ => by have h_ := hji23z hle_; rw [Int.one_mul] at h_; exact h_
              replace H := Option.bind_eq_some_iff.mp H
              obtain ⟨t101, A240, H⟩ := H
              replace H : (some (t101, true)) = some (r1, r2) := H
              have A24 := Aside0.mk A240
              clear A240
              simp only [Option.some.injEq, Prod.mk.injEq] at H
              obtain ⟨rfl, rfl⟩ := H
              go_enter Try.func26, Try.ntmps26
              go_wp2_with (first | (go_at_call 46; (with_reducible refine (real_even.calls ji18 (Go.bits .and .u64 a0 (IntKind.u64.wrap ((ji20) - 1))) ji23 (a1 != 0) t101 _ A24.out).mono ?_); rintro e w' ⟨rfl, ⟨nd, rfl⟩⟩; (try first | exact ⟨rfl, _, World.drewN_drewN _ _ _⟩ | exact ⟨rfl, _, Eq.trans (World.drewN_drewN _ _ _) (congrArg (World.drewN _) (Nat.add_assoc _ _ _))⟩)))
              repeat (go_quiet (first | (go_at_call 46; (with_reducible refine (real_even.calls ji18 (Go.bits .and .u64 a0 (IntKind.u64.wrap ((ji20) - 1))) ji23 (a1 != 0) t101 _ A24.out).mono ?_); rintro e w' ⟨rfl, ⟨nd, rfl⟩⟩; (try first | exact ⟨rfl, _, World.drewN_drewN _ _ _⟩ | exact ⟨rfl, _, Eq.trans (World.drewN_drewN _ _ _) (congrArg (World.drewN _) (Nat.add_assoc _ _ _))⟩))); try go_wp2_with (first | (go_at_call 46; (with_reducible refine (real_even.calls ji18 (Go.bits .and .u64 a0 (IntKind.u64.wrap ((ji20) - 1))) ji23 (a1 != 0) t101 _ A24.out).mono ?_); rintro e w' ⟨rfl, ⟨nd, rfl⟩⟩; (try first | exact ⟨rfl, _, World.drewN_drewN _ _ _⟩ | exact ⟨rfl, _, Eq.trans (World.drewN_drewN _ _ _) (congrArg (World.drewN _) (Nat.add_assoc _ _ _))⟩))))
              go_ret2
              exact ⟨by first | rfl | (simp; done) | (simp only [← hji16, ← hji18, ← hji20, ← hji21, ← hji23] <;> (first | rfl | simp)) | (simp [*]; done), by repeat (first | exact Drawn0.refl _ | apply Drawn0.step)⟩
            · rw [if_neg c22] at H
              exact absurd H (by simp)
          · rw [if_neg c17] at H
            exact absurd H (by simp)
        · rw [if_neg c15] at H
          have c15b0 : decide (64 < (wrap64 (-a2))) = false := decide_eq_false c15
          clear c15
          by_cases c25 : (wrap64 (-a2)) = 64
          · rw [if_pos c25] at H
            have c25b0 : ((wrap64 (-a2)) == 64) = true := beq_iff_eq.mpr c25
            have c25b1 : ((wrap64 (-a2)) != 64) = false := bne_eq_false_iff_eq.mpr c25
            clear c25
            replace H := Option.bind_eq_some_iff.mp H
            obtain ⟨t102, A260, H⟩ := H
            replace H : (some (t102, true)) = some (r1, r2) := H
            have A26 := Aside0.mk A260
            clear A260
            simp only [Option.some.injEq, Prod.mk.injEq] at H
            obtain ⟨rfl, rfl⟩ := H
            go_enter Try.func26, Try.ntmps26
            go_wp2_with (first | (go_at_call 46; (with_reducible refine (real_even.calls a0 a1 9223372036854775808 false t102 _ A26.out).mono ?_); rintro e w' ⟨rfl, ⟨nd, rfl⟩⟩; (try first | exact ⟨rfl, _, World.drewN_drewN _ _ _⟩ | exact ⟨rfl, _, Eq.trans (World.drewN_drewN _ _ _) (congrArg (World.drewN _) (Nat.add_assoc _ _ _))⟩)))
            repeat (go_quiet (first | (go_at_call 46; (with_reducible refine (real_even.calls a0 a1 9223372036854775808 false t102 _ A26.out).mono ?_); rintro e w' ⟨rfl, ⟨nd, rfl⟩⟩; (try first | exact ⟨rfl, _, World.drewN_drewN _ _ _⟩ | exact ⟨rfl, _, Eq.trans (World.drewN_drewN _ _ _) (congrArg (World.drewN _) (Nat.add_assoc _ _ _))⟩))); try go_wp2_with (first | (go_at_call 46; (with_reducible refine (real_even.calls a0 a1 9223372036854775808 false t102 _ A26.out).mono ?_); rintro e w' ⟨rfl, ⟨nd, rfl⟩⟩; (try first | exact ⟨rfl, _, World.drewN_drewN _ _ _⟩ | exact ⟨rfl, _, Eq.trans (World.drewN_drewN _ _ _) (congrArg (World.drewN _) (Nat.add_assoc _ _ _))⟩))))
            go_ret2
            exact ⟨by first | rfl | (simp; done) | (simp [*]; done), by repeat (first | exact Drawn0.refl _ | apply Drawn0.step)⟩
          · rw [if_neg c25] at H
            have c25b0 : ((wrap64 (-a2)) == 64) = false := beq_eq_false_iff_ne.mpr c25
            have c25b1 : ((wrap64 (-a2)) != 64) = true := bne_iff_ne.mpr c25
            obtain ⟨ji27, hji27⟩ : ∃ j_ : Int, (wrap64 (-a2)) = j_ := ⟨_, rfl⟩
            replace H : (if 0 ≤ (ji27) then (if (shr .u64 a0 (ji27)) = 0 then (if 0 ≤ (wrap64 (64 - (ji27))) then (if 0 ≤ (wrap64 ((ji27) - 1)) then ((real_even.f (Go.bits .or .u64 (shl .u64 a0 (wrap64 (64 - (ji27)))) (shr .u64 a1 (ji27))) (Go.bits .and .u64 a1 (IntKind.u64.wrap ((shl .u64 1 (ji27)) - 1))) (shl .u64 1 (wrap64 ((ji27) - 1))) false).bind fun t103 => (some (t103, true))) else (none)) else (none)) else (some (0, false))) else (none)) = some (r1, r2) := by first | (rw [hji27] at H; exact H) | (simp only [hji27] at H ⊢; exact H)
            (try rw [hji27] at c15b0)
            (try rw [hji27] at c25b0)
            (try rw [hji27] at c25b1)
            have hji27w : (IntKind.i64.wrap (-a2)) = ji27 := (i64_w _).trans hji27
            by_cases c28 : 0 ≤ (ji27)
            · rw [if_pos c28] at H
              have c28b0 := eq_true c28
              have c28b1 : decide (0 ≤ (ji27)) = true := decide_eq_true c28
              clear c28
              obtain ⟨ji29, hji29⟩ : ∃ j_ : Int, (shr .u64 a0 (ji27)) = j_ := ⟨_, rfl⟩
              replace H : (if (ji29) = 0 then (if 0 ≤ (wrap64 (64 - (ji27))) then (if 0 ≤ (wrap64 ((ji27) - 1)) then ((real_even.f (Go.bits .or .u64 (shl .u64 a0 (wrap64 (64 - (ji27)))) (shr .u64 a1 (ji27))) (Go.bits .and .u64 a1 (IntKind.u64.wrap ((shl .u64 1 (ji27)) - 1))) (shl .u64 1 (wrap64 ((ji27) - 1))) false).bind fun t103 => (some (t103, true))) else (none)) else (none)) else (some (0, false))) = some (r1, r2) := by first | (rw [hji29] at H; exact H) | (simp only [hji29] at H ⊢; exact H)
              have hji29_ : (a0 / 2 ^ min (ji27).toNat 64) = ji29 := hji29
              have hji29z : (ji27) ≤ 64 → (a0 / 2 ^ (ji27).toNat) = ji29 := shr_small hji29
              by_cases c30 : (ji29) = 0
              · rw [if_pos c30] at H
                have c30b0 : ((ji29) == 0) = true := beq_iff_eq.mpr c30
                have c30b1 : ((ji29) != 0) = false := bne_eq_false_iff_eq.mpr c30
                clear c30
                obtain ⟨ji31, hji31⟩ : ∃ j_ : Int, (wrap64 (64 - (ji27))) = j_ := ⟨_, rfl⟩
                replace H : (if 0 ≤ (ji31) then (if 0 ≤ (wrap64 ((ji27) - 1)) then ((real_even.f (Go.bits .or .u64 (shl .u64 a0 (ji31)) (shr .u64 a1 (ji27))) (Go.bits .and .u64 a1 (IntKind.u64.wrap ((shl .u64 1 (ji27)) - 1))) (shl .u64 1 (wrap64 ((ji27) - 1))) false).bind fun t103 => (some (t103, true))) else (none)) else (none)) = some (r1, r2) := by first | (rw [hji31] at H; exact H) | (simp only [hji31] at H ⊢; exact H)
                have hji31w : (IntKind.i64.wrap (64 - (ji27))) = ji31 := (i64_w _).trans hji31
                by_cases c32 : 0 ≤ (ji31)
                · rw [if_pos c32] at H
                  have c32b0 := eq_true c32
                  have c32b1 : decide (0 ≤ (ji31)) = true := decide_eq_true c32
                  clear c32
                  obtain ⟨ji33, hji33⟩ : ∃ j_ : Int, (shl .u64 a0 (ji31)) = j_ := ⟨_, rfl⟩
                  replace H : (if 0 ≤ (wrap64 ((ji27) - 1)) then ((real_even.f (Go.bits .or .u64 (ji33) (shr .u64 a1 (ji27))) (Go.bits .and .u64 a1 (IntKind.u64.wrap ((shl .u64 1 (ji27)) - 1))) (shl .u64 1 (wrap64 ((ji27) - 1))) false).bind fun t103 => (some (t103, true))) else (none)) = some (r1, r2) := by first | (rw [hji33] at H; exact H) | (simp only [hji33] at H ⊢; exact H)
                  have hji33_ : (IntKind.u64.wrap (a0 * 2 ^ min (ji31).toNat 64)) = ji33 := hji33
                  have hji33z : (ji31) ≤ 64 → (IntKind.u64.wrap (a0 * 2 ^ (ji31).toNat)) = ji33 := shl_small hji33
                  have c34b0 := eq_true (of_decide_eq_true (by first | (with_reducible assumption) | assumption) : 0 ≤ (ji27))
                  obtain ⟨ji35, hji35⟩ : ∃ j_ : Int, (shr .u64 a1 (ji27)) = j_ := ⟨_, rfl⟩
                  replace H : (if 0 ≤ (wrap64 ((ji27) - 1)) then ((real_even.f (Go.bits .or .u64 (ji33) (ji35)) (Go.bits .and .u64 a1 (IntKind.u64.wrap ((shl .u64 1 (ji27)) - 1))) (shl .u64 1 (wrap64 ((ji27) - 1))) false).bind fun t103 => (some (t103, true))) else (none)) = some (r1, r2) := by first | (rw [hji35] at H; exact H) | (simp only [hji35] at H ⊢; exact H)
                  have hji35_ : (a1 / 2 ^ min (ji27).toNat 64) = ji35 := hji35
                  have hji35z : (ji27) ≤ 64 → (a1 / 2 ^ (ji27).toNat) = ji35 := shr_small hji35
                  have c36b0 := eq_true (of_decide_eq_true (by first | (with_reducible assumption) | assumption) : 0 ≤ (ji27))
                  obtain ⟨ji37, hji37⟩ : ∃ j_ : Int, (shl .u64 1 (ji27)) = j_ := ⟨_, rfl⟩
                  replace H : (if 0 ≤ (wrap64 ((ji27) - 1)) then ((real_even.f (Go.bits .or .u64 (ji33) (ji35)) (Go.bits .and .u64 a1 (IntKind.u64.wrap ((ji37) - 1))) (shl .u64 1 (wrap64 ((ji27) - 1))) false).bind fun t103 => (some (t103, true))) else (none)) = some (r1, r2) := by first | (rw [hji37] at H; exact H) | (simp only [hji37] at H ⊢; exact H)
                  have hji37_ : (IntKind.u64.wrap (1 * 2 ^ min (ji27).toNat 64)) = ji37 := hji37
                  have hji37z : (ji27) ≤ 64 → (IntKind.u64.wrap (1 * 2 ^ (ji27).toNat)) = ji37 := shl_small hji37
                  have hji37u : (IntKind.u64.wrap (2 ^ min (ji27).toNat 64)) = ji37 := by have h_ := hji37_; rw [Int.one_mul] at h_; exact h_
                  have hji37v : (ji27) ≤ 64 → (IntKind.u64.wrap (2 ^ (ji27).toNat)) = ji37 := fun hle_ => by have h_ := hji37z hle_; rw [Int.one_mul] at h_; exact h_
                  obtain ⟨ji38, hji38⟩ : ∃ j_ : Int, (wrap64 ((ji27) - 1)) = j_ := ⟨_, rfl⟩
                  replace H : (if 0 ≤ (ji38) then ((real_even.f (Go.bits .or .u64 (ji33) (ji35)) (Go.bits .and .u64 a1 (IntKind.u64.wrap ((ji37) - 1))) (shl .u64 1 (ji38)) false).bind fun t103 => (some (t103, true))) else (none)) = some (r1, r2) := by first | (rw [hji38] at H; exact H) | (simp only [hji38] at H ⊢; exact H)
                  have hji38w : (IntKind.i64.wrap ((ji27) - 1)) = ji38 := (i64_w _).trans hji38
                  by_cases c39 : 0 ≤ (ji38)
                  · rw [if_pos c39] at H
                    have c39b0 := eq_true c39
                    have c39b1 : decide (0 ≤ (ji38)) = true := decide_eq_true c39
                    clear c39
                    obtain ⟨ji40, hji40⟩ : ∃ j_ : Int, (shl .u64 1 (ji38)) = j_ := ⟨_, rfl⟩
                    replace H : ((real_even.f (Go.bits .or .u64 (ji33) (ji35)) (Go.bits .and .u64 a1 (IntKind.u64.wrap ((ji37) - 1))) (ji40) false).bind fun t103 => (some (t103, true))) = some (r1, r2) := by first | (rw [hji40] at H; exact H) | (simp only [hji40] at H ⊢; exact H)
                    have hji40_ : (IntKind.u64.wrap (1 * 2 ^ min (ji38).toNat 64)) = ji40 := hji40
                    have hji40z : (ji38) ≤ 64 → (IntKind.u64.wrap (1 * 2 ^ (ji38).toNat)) = ji40 := shl_small hji40
                    have hji40u : (IntKind.u64.wrap (2 ^ min (ji38).toNat 64)) = ji40 := by have h_ := hji40_; rw [Int.one_mul] at h_; exact h_
                    have hji40v : (ji38) ≤ 64 → (IntKind.u64.wrap (2 ^ (ji38).toNat)) = ji40 := fun hle_ => by have h_ := hji40z hle_; rw [Int.one_mul] at h_; exact h_
                    replace H := Option.bind_eq_some_iff.mp H
                    obtain ⟨t103, A410, H⟩ := H
                    replace H : (some (t103, true)) = some (r1, r2) := H
                    have A41 := Aside0.mk A410
                    clear A410
                    simp only [Option.some.injEq, Prod.mk.injEq] at H
                    obtain ⟨rfl, rfl⟩ := H
                    go_enter Try.func26, Try.ntmps26
                    go_wp2_with (first | (go_at_call 46; (with_reducible refine (real_even.calls (Go.bits .or .u64 (ji33) (ji35)) (Go.bits .and .u64 a1 (IntKind.u64.wrap ((ji37) - 1))) ji40 false t103 _ A41.out).mono ?_); rintro e w' ⟨rfl, ⟨nd, rfl⟩⟩; (try first | exact ⟨rfl, _, World.drewN_drewN _ _ _⟩ | exact ⟨rfl, _, Eq.trans (World.drewN_drewN _ _ _) (congrArg (World.drewN _) (Nat.add_assoc _ _ _))⟩)))
                    repeat (go_quiet (first | (go_at_call 46; (with_reducible refine (real_even.calls (Go.bits .or .u64 (ji33) (ji35)) (Go.bits .and .u64 a1 (IntKind.u64.wrap ((ji37) - 1))) ji40 false t103 _ A41.out).mono ?_); rintro e w' ⟨rfl, ⟨nd, rfl⟩⟩; (try first | exact ⟨rfl, _, World.drewN_drewN _ _ _⟩ | exact ⟨rfl, _, Eq.trans (World.drewN_drewN _ _ _) (congrArg (World.drewN _) (Nat.add_assoc _ _ _))⟩))); try go_wp2_with (first | (go_at_call 46; (with_reducible refine (real_even.calls (Go.bits .or .u64 (ji33) (ji35)) (Go.bits .and .u64 a1 (IntKind.u64.wrap ((ji37) - 1))) ji40 false t103 _ A41.out).mono ?_); rintro e w' ⟨rfl, ⟨nd, rfl⟩⟩; (try first | exact ⟨rfl, _, World.drewN_drewN _ _ _⟩ | exact ⟨rfl, _, Eq.trans (World.drewN_drewN _ _ _) (congrArg (World.drewN _) (Nat.add_assoc _ _ _))⟩))))
                    go_ret2
                    exact ⟨by first | rfl | (simp; done) | (simp only [← hji27, ← hji29, ← hji31, ← hji33, ← hji35, ← hji37, ← hji38, ← hji40] <;> (first | rfl | simp)) | (simp [*]; done), by repeat (first | exact Drawn0.refl _ | apply Drawn0.step)⟩
                  · rw [if_neg c39] at H
                    exact absurd H (by simp)
                · rw [if_neg c32] at H
                  exact absurd H (by simp)
              · rw [if_neg c30] at H
                have c30b0 : ((ji29) == 0) = false := beq_eq_false_iff_ne.mpr c30
                have c30b1 : ((ji29) != 0) = true := bne_iff_ne.mpr c30
                simp only [Option.some.injEq, Prod.mk.injEq] at H
                obtain ⟨rfl, rfl⟩ := H
                go_enter Try.func26, Try.ntmps26
                go_wp2
                repeat (go_quiet (fail); try go_wp2)
                go_ret2
                exact ⟨by first | rfl | (simp; done) | (simp only [← hji27, ← hji29] <;> (first | rfl | simp)) | (simp [*]; done), by repeat (first | exact Drawn0.refl _ | apply Drawn0.step)⟩
            · rw [if_neg c28] at H
              exact absurd H (by simp)

end Go.Proofs.Ytkhbkhbkcpmiiaa.PReal
