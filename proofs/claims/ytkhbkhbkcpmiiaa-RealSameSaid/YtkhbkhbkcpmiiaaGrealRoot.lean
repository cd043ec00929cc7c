/- The contract of the Go function cadastre/real.Root (number 12 of the translation), by hand: where its pure function 'real_Root.f' tells an answer, the call comes to that answer. -/
import Derived.Test.YtkhbkhbkcpmiiaaFlt
import Derived.WalkLawsBesides
import Derived.Laws.FloatArith
import Derived.Laws.Externs
import Derived.LoopTactic
import Derived.WalkKit
import Derived.Test.YtkhbkhbkcpmiiaaPRealx0
import Derived.Test.YtkhbkhbkcpmiiaaPRealx2
import Derived.Test.YtkhbkhbkcpmiiaaGbitsMul64
namespace Go.Proofs.Ytkhbkhbkcpmiiaa.PReal
open Go.RowKit Go.Proofs.YtkhbkhbkcpmiiaaW.PrintWords Go.Proofs.YtkhbkhbkcpmiiaaW.PrintLast Go.Proofs.YtkhbkhbkcpmiiaaW.PrintMore
attribute [local go_sem] max2_int min2_int max_two min_two max_three min_three max_four min_four   -- for this text's walks alone
set_option linter.unusedVariables false
set_option linter.unusedSimpArgs false

/-- The greatest number whose square is not above A, from the place t down, x being found. -/
def real_Root.rootB (A : Nat) : Nat → Nat → Nat
  | 0, x => x
  | t + 1, x => real_Root.rootB A t (if (x + 2 ^ t) * (x + 2 ^ t) ≤ A then x + 2 ^ t else x)
/-- The greatest number whose square is not above A, of A below 2^82. -/
def real_Root.isqrt (A : Nat) : Nat := real_Root.rootB A 41 0
def real_Root.f (a0 : Int) : Option (Int × Bool) :=
  if a0 < 0 then some (0, false) else if a0 ≤ 9223372036854775807 then some ((real_Root.isqrt (a0.toNat * 10000) : Int), true) else none

theorem real_Root.rootB_spec (A : Nat) : ∀ (t x : Nat), x * x ≤ A → A < (x + 2 ^ t) * (x + 2 ^ t) → real_Root.rootB A t x * real_Root.rootB A t x ≤ A ∧ A < (real_Root.rootB A t x + 1) * (real_Root.rootB A t x + 1)
  | 0, x, h0, h1 => ⟨h0, by simpa [real_Root.rootB] using h1⟩
  | t + 1, x, h0, h1 => by
    rw [real_Root.rootB]
    split
    · rename_i h
      refine real_Root.rootB_spec A t _ h ?_
      rw [show x + 2 ^ t + 2 ^ t = x + 2 ^ (t + 1) by rw [Nat.pow_succ]; omega]
      exact h1
    · rename_i h
      exact real_Root.rootB_spec A t _ h0 (by omega)
theorem real_Root.isqrt_spec (A : Nat) (h : A < 4835703278458516698824704) : real_Root.isqrt A * real_Root.isqrt A ≤ A ∧ A < (real_Root.isqrt A + 1) * (real_Root.isqrt A + 1) :=
  real_Root.rootB_spec A 41 0 (by omega) (by rw [Nat.zero_add, show (2 : Nat) ^ 41 * 2 ^ 41 = 4835703278458516698824704 by decide]; exact h)
theorem real_Root.sq_lt {x y : Nat} (h : x * x < y * y) : x < y := by
  by_cases h1 : x < y
  · exact h1
  · have := Nat.mul_le_mul (show y ≤ x by omega) (show y ≤ x by omega)
    omega
/-- Is a square above? as a law on words. -/
theorem real_Root.above_ok (x A : Nat) (hx : x < 18446744073709551616) :
    real_above.f (x : Int) ((A : Int) / 18446744073709551616) ((A : Int) % 18446744073709551616) = some (decide (A < x * x)) := by
  unfold real_above.f bits_Mul64.f
  rw [if_pos ⟨by omega, by omega, by omega, by omega⟩]
  simp only [Option.bind_some]
  have e : ((x : Int) * (x : Int)) = ((x * x : Nat) : Int) := by rw [Int.natCast_mul]
  rw [e]
  generalize x * x = q
  by_cases h1 : (q : Int) / 18446744073709551616 > (A : Int) / 18446744073709551616
  · rw [if_pos h1, decide_eq_true (by omega)]
  · rw [if_neg h1]
    by_cases h2 : (q : Int) / 18446744073709551616 = (A : Int) / 18446744073709551616
    · rw [if_pos h2]
      congr 1
      rw [decide_eq_decide]
      omega
    · rw [if_neg h2, decide_eq_false (by omega)]

theorem real_Root.run_sqrt (x r : Nat) (h : Go.Proofs.Ytkhbkhbkcpmiiaa.Flt.D.sqrt x = some r) (w : World) : (callFunc 51 #[.float .f64 x]).run Try.prog w = .ok (.value (.float .f64 r)) w := by
  rw [run_callFunc_extern Try.func51 (by kernel_rfl) (by kernel_rfl) (by kernel_rfl) (e := Extern.MathSqrt.sqrt) (by kernel_rfl)]
  have hn : FloatKind.f64.format.sqrt x = some r := h
  have e : Extern.MathSqrt.sqrt #[.float .f64 x] = (match FloatKind.f64.format.sqrt x with | some r => (Pure.pure (Value.float .f64 r) : Sem Value) | none => (choose (.nanBits .f64 x x)).bind fun n => Pure.pure (Value.float .f64 n)) := rfl
  rw [e, hn]
  rfl

set_option maxHeartbeats 1000000 in
theorem real_Root.sqrt_calls (x r : Nat) (h : Go.Proofs.Ytkhbkhbkcpmiiaa.Flt.D.sqrt x = some r) (w : World) : Calls Try.prog 34 #[.float .f64 x] w fun e w' => e = .returned (.float .f64 r) ∧ w' = w := by
  have hsq := real_Root.run_sqrt x r h
  clear h
  go_enter Try.func34, Try.ntmps34
  go_wp2
  go_ret
  exact ⟨rfl, rfl⟩

set_option maxHeartbeats 2000000 in
theorem real_Root.neg (a0 : Int) (w : World) (h : a0 < 0) : Calls Try.prog 12 #[.int .i64 a0] w fun e w' => e = .returned (.tuple #[.int .i64 0, .bool false]) ∧ Drawn0 w w' := by
  have c : decide (a0 < 0) = true := decide_eq_true h
  clear h
  go_enter Try.func12, Try.ntmps12
  go_wp2
  go_ret2
  exact ⟨rfl, Drawn0.refl _⟩

set_option maxHeartbeats 4000000 in
theorem real_Root.pos (a0 : Int) (w : World) (A R r s t nn : Nat) (cx : World → Nat) (h0 : 0 ≤ a0) (h1 : a0 ≤ 9223372036854775807) (hA : A = a0.toNat * 10000) (hR : R * R ≤ A) (hR1 : A < (R + 1) * (R + 1)) (hRs : R < 1000000000000)
    (q1 : floatOfInt .f64 a0 = r) (q2 : Go.Proofs.Ytkhbkhbkcpmiiaa.Flt.D.sqrt r = some s) (q3 : Go.Proofs.Ytkhbkhbkcpmiiaa.Flt.D.mul s 4636737291354636288 = some t)
    (hcx : ∀ w, cx w < 18446744073709551616) (hconv : ∀ w, (convert 46 22 (.float .f64 t)).run Try.prog w = .ok (.int .u64 ((cx w : Nat) : Int)) (w.drewN nn)) :
    Calls Try.prog 12 #[.int .i64 a0] w fun e w' => e = .returned (.tuple #[.int .i64 (R : Int), .bool true]) ∧ Drawn0 w w' := by
  have c0 : decide (a0 < 0) = false := decide_eq_false (by omega)
  have hM : Aside0 (bits_Mul64.f a0 10000 = some ((A : Int) / 18446744073709551616, (A : Int) % 18446744073709551616)) := by
    constructor
    unfold bits_Mul64.f
    rw [if_pos ⟨h0, by omega, by omega, by omega⟩, hA]
    congr 2 <;> (rw [Int.natCast_mul]; omega)
  have hab : Aside0 (∀ x : Nat, x < 18446744073709551616 → real_above.f (x : Int) ((A : Int) / 18446744073709551616) ((A : Int) % 18446744073709551616) = some (decide (A < x * x))) := ⟨fun x hx => real_Root.above_ok x A hx⟩
  have HR := Aside0.mk hR
  have HR1 := Aside0.mk hR1
  have HCX := Aside0.mk hcx
  have hsq := Aside0.mk (real_Root.sqrt_calls r s q2)
  have hmul : ∀ w, (binOp .mul 46 (.float .f64 s) (.float .f64 4636737291354636288)).run Try.prog w = .ok (.float .f64 t) w := fun w => run_float_arith w .mul 46 .f64 s 4636737291354636288 t q3
  obtain ⟨HI, hHI⟩ : ∃ z, z = (A : Int) / 18446744073709551616 := ⟨_, rfl⟩
  obtain ⟨LO, hLO⟩ : ∃ z, z = (A : Int) % 18446744073709551616 := ⟨_, rfl⟩
  rw [← hHI, ← hLO] at hM hab
  clear q2 q3 hA hR hR1 hHI hLO hcx
  go_enter Try.func12, Try.ntmps12
  go_wp2_with (first | (go_at_call 25; (with_reducible refine (bits_Mul64.calls a0 10000 HI LO _ hM.out).mono ?_); rintro e w' ⟨rfl, ⟨n1, rfl⟩⟩) | (go_at_call 34; (with_reducible refine (hsq.out _).mono ?_); rintro e w' ⟨rfl, rfl⟩))
  go_loopw [6] (fun v w' => ∃ x : Nat, v = .int .u64 (x : Int) ∧ x < 18446744073709551616 ∧ Drawn0 w w') (fun v _ => (intOf v).toNat)
  case atStart => exact ⟨_, rfl, HCX.out _, by repeat (first | exact Drawn0.refl _ | apply Drawn0.step)⟩
  case round =>
    obtain ⟨x, rfl, hx, ⟨m1, rfl⟩⟩ := hrel
    have hx' : (x : Int) ≤ 18446744073709551615 := by omega
    by_cases hup : A < x * x
    · have hx1 : 1 ≤ (x : Int) := by
        have : x ≠ 0 := by
          rintro rfl
          omega
        omega
      have HX := Aside0.mk (hab.out x hx)
      rw [decide_eq_true hup] at HX
      clear hup
      go_wp2_with (go_at_call 35; (with_reducible refine (real_above.calls x HI LO true _ HX.out).mono ?_); rintro e w' ⟨rfl, ⟨n1, rfl⟩⟩)
      go_roundw
      case rel => exact ⟨x - 1, by go_num, by omega, by repeat (first | exact Drawn0.refl _ | apply Drawn0.step)⟩
      case measure => simp [intOf]; omega
    · have HX := Aside0.mk (hab.out x hx)
      rw [decide_eq_false hup] at HX
      have hxR : x * x < (R + 1) * (R + 1) := by have := HR1.out; omega
      have hxR : x < R + 1 := real_Root.sq_lt hxR
      have HU := Aside0.mk hup
      clear hup
      go_wp2_with (go_at_call 35; (with_reducible refine (real_above.calls x HI LO false _ HX.out).mono ?_); rintro e w' ⟨rfl, ⟨n1, rfl⟩⟩)
      go_loopw [6] (fun v w' => ∃ y : Nat, v = .int .u64 (y : Int) ∧ y < R + 1 ∧ Drawn0 w w') (fun v _ => R + 1 - (intOf v).toNat)
      case atStart => exact ⟨_, rfl, hxR, by repeat (first | exact Drawn0.refl _ | apply Drawn0.step)⟩
      case round =>
        obtain ⟨y, rfl, hy, ⟨m2, rfl⟩⟩ := hrel
        have hy' : (y : Int) ≤ 1000000000000 := by omega
        by_cases hup : A < (y + 1) * (y + 1)
        · have HY := Aside0.mk (hab.out (y + 1) (by omega))
          rw [decide_eq_true hup, show ((y + 1 : Nat) : Int) = (y : Int) + 1 by omega] at HY
          have HU1 := Aside0.mk hup
          clear hup
          go_wp2_with (go_at_call 35; (with_reducible refine (real_above.calls ((y : Int) + 1) HI LO true _ HY.out).mono ?_); rintro e w' ⟨rfl, ⟨n1, rfl⟩⟩)
          go_ret2
          have e : y = R := by
            have h0 := HU1.out
            have h1 : R * R < (y + 1) * (y + 1) := by have := HR.out; omega
            have := real_Root.sq_lt h1
            omega
          subst e
          refine ⟨?_, by repeat (first | exact Drawn0.refl _ | apply Drawn0.step)⟩
          go_num
        · have HY := Aside0.mk (hab.out (y + 1) (by omega))
          rw [decide_eq_false hup, show ((y + 1 : Nat) : Int) = (y : Int) + 1 by omega] at HY
          have hyR : y + 1 < R + 1 := by
            have h1 : (y + 1) * (y + 1) < (R + 1) * (R + 1) := by have := HR1.out; omega
            exact real_Root.sq_lt h1
          clear hup
          go_wp2_with (go_at_call 35; (with_reducible refine (real_above.calls ((y : Int) + 1) HI LO false _ HY.out).mono ?_); rintro e w' ⟨rfl, ⟨n1, rfl⟩⟩)
          go_roundw
          case rel => exact ⟨y + 1, by go_num, by omega, by repeat (first | exact Drawn0.refl _ | apply Drawn0.step)⟩
          case measure => simp [intOf]; omega


/-- A float turned into a uint64: what it is, or what the tape says. -/
theorem real_Root.conv (t : Nat) : ∃ (nn : Nat) (cx : World → Nat), (∀ w, cx w < 18446744073709551616) ∧ ∀ w, (convert 46 22 (.float .f64 t)).run Try.prog w = .ok (.int .u64 ((cx w : Nat) : Int)) (w.drewN nn) := by
  cases hc : floatToIntVal .f64 t .u64 with
  | some n =>
    have hb : 0 ≤ n ∧ n ≤ 18446744073709551615 := by
      have := floatToIntVal_wf hc
      simp [Lit.wf, IntKind.min, IntKind.max, IntKind.signed, IntKind.bits] at this
      omega
    obtain ⟨m, rfl⟩ := Int.eq_ofNat_of_zero_le hb.1
    exact ⟨0, fun _ => m, fun _ => by show m < _; omega, fun w => run_convert_float_int w 46 22 .f64 .u64 t m (by kernel_rfl) (by kernel_rfl) hc⟩
  | none =>
    refine ⟨1, fun w => (Question.cut (.floatToInt .f64 t .u64) (w.tape w.drawn (.floatToInt .f64 t .u64))), fun w => Nat.mod_lt _ (by decide), fun w => ?_⟩
    have hr : (Conv.floatToInt .f64 t .u64).run Try.prog w = .ok (.int .u64 ((Question.cut (.floatToInt .f64 t .u64) (w.tape w.drawn (.floatToInt .f64 t .u64)) : Nat) : Int)) (w.drewN 1) := by
      have hw : ∀ q : Nat, IntKind.u64.wrap ((q % 2 ^ 64 : Nat) : Int) = ((q % 2 ^ 64 : Nat) : Int) := by
        intro q
        have : q % 2 ^ 64 < 2 ^ 64 := Nat.mod_lt _ (by decide)
        simp [IntKind.wrap, IntKind.signed, IntKind.bits]
      have hf : (Question.floatToInt .f64 t .u64).forced = false := rfl
      unfold floatToIntVal at hc
      unfold Conv.floatToInt
      split at hc
      · rename_i n he
        split at hc
        · cases hc
        · rename_i hn
          simp only [he, if_neg hn]
          simp [run_choose_drew, hf]
          exact ⟨hw _, rfl⟩
      · rename_i he
        simp only [he]
        simp [run_choose_drew, hf]
        exact ⟨hw _, rfl⟩
    have hu : (convert 46 22 (.float .f64 t)).run Try.prog w = (Conv.floatToInt .f64 t .u64).run Try.prog w := by
      have h1 : (Try.prog.underlying 46).isSome = true := by kernel_rfl
      have h2 : Try.prog.underlying 22 = some (.int .u64) := by kernel_rfl
      obtain ⟨u, h1'⟩ := Option.isSome_iff_exists.1 h1
      cases u <;> simp [convert, run_underlying h1', run_underlying h2]
    rw [hu, hr]

theorem real_Root.calls (a0 r1 : Int) (r2 : Bool) (w : World) (hf : real_Root.f a0 = some (r1, r2)) : Calls Try.prog 12 #[.int .i64 a0] w fun e w' => e = .returned (.tuple #[.int .i64 r1, .bool r2]) ∧ Drawn0 w w' := by
  unfold real_Root.f at hf
  by_cases c : a0 < 0
  · rw [if_pos c] at hf
    simp only [Option.some.injEq, Prod.mk.injEq] at hf
    obtain ⟨rfl, rfl⟩ := hf
    exact real_Root.neg a0 w c
  · rw [if_neg c] at hf
    by_cases c1 : a0 ≤ 9223372036854775807
    · rw [if_pos c1] at hf
      simp only [Option.some.injEq, Prod.mk.injEq] at hf
      obtain ⟨rfl, rfl⟩ := hf
      have hA : a0.toNat * 10000 < 4835703278458516698824704 := by omega
      obtain ⟨i1, i2⟩ := real_Root.isqrt_spec _ hA
      have h1 : floatOfInt .f64 a0 ≤ 9218868437227405312 := by
        have : floatOfInt .f64 a0 = Go.Proofs.Ytkhbkhbkcpmiiaa.Flt.D.nearest false a0.natAbs 0 := by
          have e : decide (a0 < 0) = false := decide_eq_false c
          show Go.Proofs.Ytkhbkhbkcpmiiaa.Flt.D.nearest (decide (a0 < 0)) a0.natAbs 0 = _
          rw [e]
        rw [this]
        exact Go.Proofs.Ytkhbkhbkcpmiiaa.Flt.nearest_nonneg _ _
      obtain ⟨s, q2, hs⟩ := Go.Proofs.Ytkhbkhbkcpmiiaa.Flt.sqrt_some h1
      obtain ⟨t, q3⟩ := Go.Proofs.Ytkhbkhbkcpmiiaa.Flt.mul_some hs
      obtain ⟨nn, cx, hcx, hconv⟩ := real_Root.conv t
      refine real_Root.pos a0 w _ (real_Root.isqrt (a0.toNat * 10000)) _ s t nn cx (by omega) c1 rfl i1 i2 ?_ rfl q2 q3 hcx hconv
      refine real_Root.sq_lt (Nat.lt_of_le_of_lt i1 ?_)
      omega
    · rw [if_neg c1] at hf
      cases hf

end Go.Proofs.Ytkhbkhbkcpmiiaa.PReal
