/- The contract of the Go function cadastre/real.To (number 20 of the translation), by hand: where its pure function 'real_To.f' tells an answer, the call comes to that answer. -/
import Derived.Test.YtkhbkhbkcpmiiaaToFacts
import Derived.Test.YtkhbkhbkcpmiiaaFltTo
import Derived.Test.YtkhbkhbkcpmiiaaDiv64
import Derived.WalkLawsBesides
import Derived.Laws.FloatArith
import Derived.Laws.Externs
import Derived.Laws.BitsLemmas
import Derived.WalkKit
import Derived.Test.YtkhbkhbkcpmiiaaPRealx0
import Derived.Test.YtkhbkhbkcpmiiaaPRealx3
import Derived.Test.YtkhbkhbkcpmiiaaPRealx4
import Derived.Test.YtkhbkhbkcpmiiaaGbitsLeadingZeros64
namespace Go.Proofs.Ytkhbkhbkcpmiiaa.PReal
open Go.RowKit Go.Proofs.YtkhbkhbkcpmiiaaW.PrintWords Go.Proofs.YtkhbkhbkcpmiiaaW.PrintLast Go.Proofs.YtkhbkhbkcpmiiaaW.PrintMore
attribute [local go_sem] max2_int min2_int max_two min_two max_three min_three max_four min_four   -- for this text's walks alone
set_option linter.unusedVariables false
set_option linter.unusedSimpArgs false

/-! ### math.Ldexp of a normal number, the result being normal -/
theorem real_To.frombits (x : Int) (w : World) : (callFunc 24 #[.int .u64 x]).run Try.prog w = .ok (.value (.float .f64 x.toNat)) w := by
  rw [run_callFunc_extern Try.func24 (by kernel_rfl) (by kernel_rfl) (by kernel_rfl) (e := Extern.MathFloatBits.float64frombits) (by kernel_rfl)]
  rfl
theorem real_To.tobits (x : Nat) (w : World) : (callFunc 38 #[.float .f64 x]).run Try.prog w = .ok (.value (.int .u64 (x : Int))) w := by
  rw [run_callFunc_extern Try.func38 (by kernel_rfl) (by kernel_rfl) (by kernel_rfl) (e := Extern.MathFloatBits.float64bits) (by kernel_rfl)]
  rfl

set_option maxHeartbeats 1000000 in
theorem real_To.abs (x : Nat) (w : World) (hx : bits .andNot .u64 (x : Int) 9223372036854775808 = (x : Int)) : Calls Try.prog 67 #[.float .f64 x] w fun e w' => e = .returned (.float .f64 x) ∧ w' = w := by
  have ht := real_To.tobits x
  have hf := real_To.frombits (x : Int)
  rw [Int.toNat_natCast] at hf
  go_enter Try.func67, Try.ntmps67
  go_wp2
  go_ret
  exact ⟨rfl, rfl⟩

set_option maxHeartbeats 1000000 in
theorem real_To.isinf (x : Nat) (w : World) (hx : bits .andNot .u64 (x : Int) 9223372036854775808 = (x : Int)) (ho : (FloatKind.f64.format.order x 9218868437227405311 == some .gt) = false) :
    Calls Try.prog 62 #[.float .f64 x, .int .i64 0] w fun e w' => e = .returned (.bool false) ∧ w' = w := by
  have hA := Aside0.mk (real_To.abs x · hx)
  clear hx
  go_enter Try.func62, Try.ntmps62
  go_wp2_with (go_at_call 67; (with_reducible refine (hA.out _).mono ?_); rintro e w' ⟨rfl, rfl⟩)
  go_ret
  exact ⟨rfl, rfl⟩
set_option maxHeartbeats 1000000 in
theorem real_To.isnan (x : Nat) (w : World) (ho : (FloatKind.f64.format.order x x != some .eq) = false) :
    Calls Try.prog 63 #[.float .f64 x] w fun e w' => e = .returned (.bool false) ∧ w' = w := by
  go_enter Try.func63, Try.ntmps63
  go_wp2
  go_ret
  exact ⟨rfl, rfl⟩
set_option maxHeartbeats 1000000 in
theorem real_To.normal (x : Nat) (w : World) (hx : bits .andNot .u64 (x : Int) 9223372036854775808 = (x : Int)) (ho : (FloatKind.f64.format.order x 4503599627370496 == some .lt) = false) :
    Calls Try.prog 64 #[.float .f64 x] w fun e w' => e = .returned (.tuple #[.float .f64 x, .int .i64 0]) ∧ w' = w := by
  have hA := Aside0.mk (real_To.abs x · hx)
  clear hx
  go_enter Try.func64, Try.ntmps64
  go_wp2_with (go_at_call 67; (with_reducible refine (hA.out _).mono ?_); rintro e w' ⟨rfl, rfl⟩)
  go_ret2
  exact ⟨rfl, rfl⟩
/-- What the walk of math.ldexp asks of a word F, the place E and the result R. -/
structure real_To.Can (F R : Nat) (ex E : Int) (A : Int) : Prop where
  abs : bits .andNot .u64 (F : Int) 9223372036854775808 = (F : Int)
  most : (FloatKind.f64.format.order F 9218868437227405311 == some .gt) = false
  same : (FloatKind.f64.format.order F F != some .eq) = false
  nought : (FloatKind.f64.format.order F 0 == some .eq) = false
  least : (FloatKind.f64.format.order F 4503599627370496 == some .lt) = false
  one : FloatKind.f64.format.mul 4607182418800017408 R = some R
set_option maxHeartbeats 4000000 in
theorem real_To.ldexp (F R : Nat) (ex E A X : Int) (w : World) (h : real_To.Can F R ex E A)
    (hE : wrap64 (bits .and .i64 (wrap64 ((F : Int) / 4503599627370496)) 2047 - 1023) = E) (hx : wrap64 (ex + E) = X) (h0 : -1022 ≤ X) (h1 : X ≤ 1023)
    (hR : bits .or .u64 (bits .andNot .u64 (F : Int) 9218868437227405312) (IntKind.u64.wrap (IntKind.u64.wrap (wrap64 (X + 1023)) * 4503599627370496)) = (R : Int)) (hex : wrap64 ex = ex) :
    Calls Try.prog 61 #[.float .f64 F, .int .i64 ex] w fun e w' => e = .returned (.float .f64 R) ∧ w' = w := by
  have hN := Aside0.mk (real_To.normal F · h.abs h.least)
  have hI := Aside0.mk (real_To.isinf F · h.abs h.most)
  have hNan := Aside0.mk (real_To.isnan F · h.same)
  have hz := h.nought
  have hm : ∀ w, (binOp .mul 46 (.float .f64 4607182418800017408) (.float .f64 R)).run Try.prog w = .ok (.float .f64 R) w := fun w => run_float_arith w .mul 46 .f64 4607182418800017408 R R h.one
  have ht := real_To.tobits F
  have hf := real_To.frombits (R : Int)
  rw [Int.toNat_natCast] at hf
  have c1 : decide (X < -1075) = false := decide_eq_false (by omega)
  have c2 : decide (1023 < X) = false := decide_eq_false (by omega)
  have c3 : decide (X < -1022) = false := decide_eq_false (by omega)
  clear h h0 h1
  go_enter Try.func61, Try.ntmps61
  go_wp2_with (first | (go_at_call 62; (with_reducible refine (hI.out _).mono ?_); rintro e w' ⟨rfl, rfl⟩) | (go_at_call 63; (with_reducible refine (hNan.out _).mono ?_); rintro e w' ⟨rfl, rfl⟩) | (go_at_call 64; (with_reducible refine (hN.out _).mono ?_); rintro e w' ⟨rfl, rfl⟩))
  go_ret
  exact ⟨rfl, rfl⟩

set_option maxHeartbeats 1000000 in
theorem real_To.ldexp57 (F R : Nat) (ex : Int) (w : World) (h : ∀ w, Calls Try.prog 61 #[.float .f64 F, .int .i64 ex] w fun e w' => e = .returned (.float .f64 R) ∧ w' = w) :
    Calls Try.prog 57 #[.float .f64 F, .int .i64 ex] w fun e w' => e = .returned (.float .f64 R) ∧ w' = w := by
  have hA := Aside0.mk h
  clear h
  go_enter Try.func57, Try.ntmps57
  go_wp2_with (go_at_call 61; (with_reducible refine (hA.out _).mono ?_); rintro e w' ⟨rfl, rfl⟩)
  go_ret
  exact ⟨rfl, rfl⟩

set_option maxHeartbeats 4000000 in
theorem real_To.quotPos (a0 n up N N1 qh ql rest z A B C y m0 m1 m u ex : Int) (b1 b2 : Bool) (R RS : Nat) (w : World)
    (hn : IntKind.u64.wrap a0 = n) (hneg : decide (a0 < 0) = false) (hn0 : (n == 0) = false)
    (hup : Aside0 (bits_LeadingZeros64.f n = some up)) (hup0 : 0 ≤ up) (hN : IntKind.u64.wrap (n * 2 ^ min up.toNat 64) = N) (hNz : up ≤ 64 → IntKind.u64.wrap (n * 2 ^ up.toNat) = N)
    (hq : IntKind.u64.wrap (Int.tdiv N 10000) = qh) (hN1 : Int.tmod N 10000 = N1)
    (hd : Aside0 (∀ w, Calls Try.prog 56 #[.int .u64 N1, .int .u64 0, .int .u64 10000] w fun e w' => e = .returned (.tuple #[.int .u64 ql, .int .u64 rest]) ∧ Drawn0 w w'))
    (hz : Aside0 (bits_LeadingZeros64.f qh = some z)) (hz0 : 0 ≤ z) (hA : IntKind.u64.wrap (qh * 2 ^ min z.toNat 64) = A) (hAz : z ≤ 64 → IntKind.u64.wrap (qh * 2 ^ z.toNat) = A)
    (hy : wrap64 (64 - z) = y) (hy0 : 0 ≤ y) (hB : ql / 2 ^ min y.toNat 64 = B) (hBz : y ≤ 64 → ql / 2 ^ y.toNat = B) (hm0 : bits .or .u64 A B = m0)
    (hC : IntKind.u64.wrap (ql * 2 ^ min z.toNat 64) = C) (hCz : z ≤ 64 → IntKind.u64.wrap (ql * 2 ^ z.toNat) = C) (hb1 : (C != 0) = b1) (hb2 : (rest != 0) = b2)
    (hm1 : bits .or .u64 m0 1 = m1) (hm : (if b1 then m1 else if b2 then m1 else m0) = m)
    (hu : wrap64 (-up) = u) (hex : wrap64 (u - z) = ex)
    (hL : Aside0 (∀ w, Calls Try.prog 57 #[.float .f64 (floatOfInt .f64 m), .int .i64 ex] w fun e w' => e = .returned (.float .f64 R) ∧ w' = w))
    (hmul : ∀ w, (binOp .mul 46 (.float .f64 4607182418800017408) (.float .f64 R)).run Try.prog w = .ok (.float .f64 RS) w) :
    Calls Try.prog 42 #[.int .i64 a0] w fun e w' => e = .returned (.float .f64 RS) ∧ Drawn0 w w' := by
  have c1 := eq_true hup0
  have c2 : decide (0 ≤ up) = true := decide_eq_true hup0
  have c3 := eq_true hz0
  have c4 : decide (0 ≤ z) = true := decide_eq_true hz0
  have c5 := eq_true hy0
  have c6 : decide (0 ≤ y) = true := decide_eq_true hy0
  have hyw : IntKind.i64.wrap (64 - z) = y := (i64_w _).trans hy
  have huw : IntKind.i64.wrap (-up) = u := (i64_w _).trans hu
  have hexw : IntKind.i64.wrap (u - z) = ex := (i64_w _).trans hex
  clear hup0 hz0 hy0
  cases b1 with
  | true =>
    simp only [↓reduceIte] at hm
    go_enter Try.func42, Try.ntmps42
    go_wp2_with (first | (go_at_call 55; (first | (with_reducible refine (bits_LeadingZeros64.calls n up _ hup.out).mono ?_) | (with_reducible refine (bits_LeadingZeros64.calls qh z _ hz.out).mono ?_)); rintro e w' ⟨rfl, ⟨n1, rfl⟩⟩) | (go_at_call 56; (with_reducible refine (hd.out _).mono ?_); rintro e w' ⟨rfl, ⟨n2, rfl⟩⟩) | (go_at_call 57; (with_reducible refine (hL.out _).mono ?_); rintro e w' ⟨rfl, rfl⟩))
    repeat (go_quiet (fail); try go_wp2_with (first | (go_at_call 55; (first | (with_reducible refine (bits_LeadingZeros64.calls n up _ hup.out).mono ?_) | (with_reducible refine (bits_LeadingZeros64.calls qh z _ hz.out).mono ?_)); rintro e w' ⟨rfl, ⟨n1, rfl⟩⟩) | (go_at_call 56; (with_reducible refine (hd.out _).mono ?_); rintro e w' ⟨rfl, ⟨n2, rfl⟩⟩) | (go_at_call 57; (with_reducible refine (hL.out _).mono ?_); rintro e w' ⟨rfl, rfl⟩)))
    go_ret
    exact ⟨rfl, by repeat (first | exact Drawn0.refl _ | apply Drawn0.step)⟩
  | false =>
    cases b2 with
    | true =>
      simp only [↓reduceIte, Bool.false_eq_true] at hm
      go_enter Try.func42, Try.ntmps42
      go_wp2_with (first | (go_at_call 55; (first | (with_reducible refine (bits_LeadingZeros64.calls n up _ hup.out).mono ?_) | (with_reducible refine (bits_LeadingZeros64.calls qh z _ hz.out).mono ?_)); rintro e w' ⟨rfl, ⟨n1, rfl⟩⟩) | (go_at_call 56; (with_reducible refine (hd.out _).mono ?_); rintro e w' ⟨rfl, ⟨n2, rfl⟩⟩) | (go_at_call 57; (with_reducible refine (hL.out _).mono ?_); rintro e w' ⟨rfl, rfl⟩))
      repeat (go_quiet (fail); try go_wp2_with (first | (go_at_call 55; (first | (with_reducible refine (bits_LeadingZeros64.calls n up _ hup.out).mono ?_) | (with_reducible refine (bits_LeadingZeros64.calls qh z _ hz.out).mono ?_)); rintro e w' ⟨rfl, ⟨n1, rfl⟩⟩) | (go_at_call 56; (with_reducible refine (hd.out _).mono ?_); rintro e w' ⟨rfl, ⟨n2, rfl⟩⟩) | (go_at_call 57; (with_reducible refine (hL.out _).mono ?_); rintro e w' ⟨rfl, rfl⟩)))
      go_ret
      exact ⟨rfl, by repeat (first | exact Drawn0.refl _ | apply Drawn0.step)⟩
    | false =>
      simp only [↓reduceIte, Bool.false_eq_true] at hm
      go_enter Try.func42, Try.ntmps42
      go_wp2_with (first | (go_at_call 55; (first | (with_reducible refine (bits_LeadingZeros64.calls n up _ hup.out).mono ?_) | (with_reducible refine (bits_LeadingZeros64.calls qh z _ hz.out).mono ?_)); rintro e w' ⟨rfl, ⟨n1, rfl⟩⟩) | (go_at_call 56; (with_reducible refine (hd.out _).mono ?_); rintro e w' ⟨rfl, ⟨n2, rfl⟩⟩) | (go_at_call 57; (with_reducible refine (hL.out _).mono ?_); rintro e w' ⟨rfl, rfl⟩))
      repeat (go_quiet (fail); try go_wp2_with (first | (go_at_call 55; (first | (with_reducible refine (bits_LeadingZeros64.calls n up _ hup.out).mono ?_) | (with_reducible refine (bits_LeadingZeros64.calls qh z _ hz.out).mono ?_)); rintro e w' ⟨rfl, ⟨n1, rfl⟩⟩) | (go_at_call 56; (with_reducible refine (hd.out _).mono ?_); rintro e w' ⟨rfl, ⟨n2, rfl⟩⟩) | (go_at_call 57; (with_reducible refine (hL.out _).mono ?_); rintro e w' ⟨rfl, rfl⟩)))
      go_ret
      exact ⟨rfl, by repeat (first | exact Drawn0.refl _ | apply Drawn0.step)⟩

set_option maxHeartbeats 4000000 in
theorem real_To.quotNeg (a0 n9 na n up N N1 qh ql rest z A B C y m0 m1 m u ex : Int) (b1 b2 : Bool) (R RS : Nat) (w : World)
    (hn9 : IntKind.u64.wrap a0 = n9) (hna : wrap64 (-a0) = na) (hn : IntKind.u64.wrap na = n) (hneg : decide (a0 < 0) = true) (hn0 : (n == 0) = false)
    (hup : Aside0 (bits_LeadingZeros64.f n = some up)) (hup0 : 0 ≤ up) (hN : IntKind.u64.wrap (n * 2 ^ min up.toNat 64) = N) (hNz : up ≤ 64 → IntKind.u64.wrap (n * 2 ^ up.toNat) = N)
    (hq : IntKind.u64.wrap (Int.tdiv N 10000) = qh) (hN1 : Int.tmod N 10000 = N1)
    (hd : Aside0 (∀ w, Calls Try.prog 56 #[.int .u64 N1, .int .u64 0, .int .u64 10000] w fun e w' => e = .returned (.tuple #[.int .u64 ql, .int .u64 rest]) ∧ Drawn0 w w'))
    (hz : Aside0 (bits_LeadingZeros64.f qh = some z)) (hz0 : 0 ≤ z) (hA : IntKind.u64.wrap (qh * 2 ^ min z.toNat 64) = A) (hAz : z ≤ 64 → IntKind.u64.wrap (qh * 2 ^ z.toNat) = A)
    (hy : wrap64 (64 - z) = y) (hy0 : 0 ≤ y) (hB : ql / 2 ^ min y.toNat 64 = B) (hBz : y ≤ 64 → ql / 2 ^ y.toNat = B) (hm0 : bits .or .u64 A B = m0)
    (hC : IntKind.u64.wrap (ql * 2 ^ min z.toNat 64) = C) (hCz : z ≤ 64 → IntKind.u64.wrap (ql * 2 ^ z.toNat) = C) (hb1 : (C != 0) = b1) (hb2 : (rest != 0) = b2)
    (hm1 : bits .or .u64 m0 1 = m1) (hm : (if b1 then m1 else if b2 then m1 else m0) = m)
    (hu : wrap64 (-up) = u) (hex : wrap64 (u - z) = ex)
    (hL : Aside0 (∀ w, Calls Try.prog 57 #[.float .f64 (floatOfInt .f64 m), .int .i64 ex] w fun e w' => e = .returned (.float .f64 R) ∧ w' = w))
    (hmul : ∀ w, (binOp .mul 46 (.float .f64 13830554455654793216) (.float .f64 R)).run Try.prog w = .ok (.float .f64 RS) w) :
    Calls Try.prog 42 #[.int .i64 a0] w fun e w' => e = .returned (.float .f64 RS) ∧ Drawn0 w w' := by
  have c1 := eq_true hup0
  have c2 : decide (0 ≤ up) = true := decide_eq_true hup0
  have c3 := eq_true hz0
  have c4 : decide (0 ≤ z) = true := decide_eq_true hz0
  have c5 := eq_true hy0
  have c6 : decide (0 ≤ y) = true := decide_eq_true hy0
  have hnaw : IntKind.i64.wrap (-a0) = na := (i64_w _).trans hna
  have hyw : IntKind.i64.wrap (64 - z) = y := (i64_w _).trans hy
  have huw : IntKind.i64.wrap (-up) = u := (i64_w _).trans hu
  have hexw : IntKind.i64.wrap (u - z) = ex := (i64_w _).trans hex
  clear hup0 hz0 hy0
  cases b1 with
  | true =>
    simp only [↓reduceIte] at hm
    go_enter Try.func42, Try.ntmps42
    go_wp2_with (first | (go_at_call 55; (first | (with_reducible refine (bits_LeadingZeros64.calls n up _ hup.out).mono ?_) | (with_reducible refine (bits_LeadingZeros64.calls qh z _ hz.out).mono ?_)); rintro e w' ⟨rfl, ⟨n1, rfl⟩⟩) | (go_at_call 56; (with_reducible refine (hd.out _).mono ?_); rintro e w' ⟨rfl, ⟨n2, rfl⟩⟩) | (go_at_call 57; (with_reducible refine (hL.out _).mono ?_); rintro e w' ⟨rfl, rfl⟩))
    repeat (go_quiet (fail); try go_wp2_with (first | (go_at_call 55; (first | (with_reducible refine (bits_LeadingZeros64.calls n up _ hup.out).mono ?_) | (with_reducible refine (bits_LeadingZeros64.calls qh z _ hz.out).mono ?_)); rintro e w' ⟨rfl, ⟨n1, rfl⟩⟩) | (go_at_call 56; (with_reducible refine (hd.out _).mono ?_); rintro e w' ⟨rfl, ⟨n2, rfl⟩⟩) | (go_at_call 57; (with_reducible refine (hL.out _).mono ?_); rintro e w' ⟨rfl, rfl⟩)))
    go_ret
    exact ⟨rfl, by repeat (first | exact Drawn0.refl _ | apply Drawn0.step)⟩
  | false =>
    cases b2 with
    | true =>
      simp only [↓reduceIte, Bool.false_eq_true] at hm
      go_enter Try.func42, Try.ntmps42
      go_wp2_with (first | (go_at_call 55; (first | (with_reducible refine (bits_LeadingZeros64.calls n up _ hup.out).mono ?_) | (with_reducible refine (bits_LeadingZeros64.calls qh z _ hz.out).mono ?_)); rintro e w' ⟨rfl, ⟨n1, rfl⟩⟩) | (go_at_call 56; (with_reducible refine (hd.out _).mono ?_); rintro e w' ⟨rfl, ⟨n2, rfl⟩⟩) | (go_at_call 57; (with_reducible refine (hL.out _).mono ?_); rintro e w' ⟨rfl, rfl⟩))
      repeat (go_quiet (fail); try go_wp2_with (first | (go_at_call 55; (first | (with_reducible refine (bits_LeadingZeros64.calls n up _ hup.out).mono ?_) | (with_reducible refine (bits_LeadingZeros64.calls qh z _ hz.out).mono ?_)); rintro e w' ⟨rfl, ⟨n1, rfl⟩⟩) | (go_at_call 56; (with_reducible refine (hd.out _).mono ?_); rintro e w' ⟨rfl, ⟨n2, rfl⟩⟩) | (go_at_call 57; (with_reducible refine (hL.out _).mono ?_); rintro e w' ⟨rfl, rfl⟩)))
      go_ret
      exact ⟨rfl, by repeat (first | exact Drawn0.refl _ | apply Drawn0.step)⟩
    | false =>
      simp only [↓reduceIte, Bool.false_eq_true] at hm
      go_enter Try.func42, Try.ntmps42
      go_wp2_with (first | (go_at_call 55; (first | (with_reducible refine (bits_LeadingZeros64.calls n up _ hup.out).mono ?_) | (with_reducible refine (bits_LeadingZeros64.calls qh z _ hz.out).mono ?_)); rintro e w' ⟨rfl, ⟨n1, rfl⟩⟩) | (go_at_call 56; (with_reducible refine (hd.out _).mono ?_); rintro e w' ⟨rfl, ⟨n2, rfl⟩⟩) | (go_at_call 57; (with_reducible refine (hL.out _).mono ?_); rintro e w' ⟨rfl, rfl⟩))
      repeat (go_quiet (fail); try go_wp2_with (first | (go_at_call 55; (first | (with_reducible refine (bits_LeadingZeros64.calls n up _ hup.out).mono ?_) | (with_reducible refine (bits_LeadingZeros64.calls qh z _ hz.out).mono ?_)); rintro e w' ⟨rfl, ⟨n1, rfl⟩⟩) | (go_at_call 56; (with_reducible refine (hd.out _).mono ?_); rintro e w' ⟨rfl, ⟨n2, rfl⟩⟩) | (go_at_call 57; (with_reducible refine (hL.out _).mono ?_); rintro e w' ⟨rfl, rfl⟩)))
      go_ret
      exact ⟨rfl, by repeat (first | exact Drawn0.refl _ | apply Drawn0.step)⟩

set_option maxHeartbeats 1000000 in
theorem real_To.quotZero (w : World) : Calls Try.prog 42 #[.int .i64 0] w fun e w' => e = .returned (.float .f64 0) ∧ Drawn0 w w' := by
  have hn : IntKind.u64.wrap 0 = 0 := by decide
  go_enter Try.func42, Try.ntmps42
  go_wp2
  go_ret
  exact ⟨rfl, by repeat (first | exact Drawn0.refl _ | apply Drawn0.step)⟩

set_option maxHeartbeats 1000000 in
theorem real_To.no (a0 : Int) (w : World) (hc : Aside0 (∀ w, Calls Try.prog 41 #[.int .i64 a0] w fun e w' => e = .returned (.bool false) ∧ Below w.heap.size w w')) :
    Calls Try.prog 20 #[.int .i64 a0] w fun e w' => e = .returned (.tuple #[.int .u64 0, .bool false]) ∧ Below w.heap.size w w' := by
  go_enter Try.func20, Try.ntmps20
  go_wp2_with (go_at_call 41; (with_reducible refine (hc.out _).mono ?_); rintro e w' ⟨rfl, B1⟩)
  go_ret2
  exact ⟨rfl, by repeat (first | exact B1 | apply pw_below_drewN | apply below_drew1)⟩

set_option maxHeartbeats 1000000 in
theorem real_To.yes (a0 : Int) (R : Nat) (w : World) (hc : Aside0 (∀ w, Calls Try.prog 41 #[.int .i64 a0] w fun e w' => e = .returned (.bool true) ∧ Below w.heap.size w w'))
    (hq : Aside0 (∀ w, Calls Try.prog 42 #[.int .i64 a0] w fun e w' => e = .returned (.float .f64 R) ∧ Drawn0 w w')) :
    Calls Try.prog 20 #[.int .i64 a0] w fun e w' => e = .returned (.tuple #[.int .u64 (R : Int), .bool true]) ∧ Below w.heap.size w w' := by
  have ht := real_To.tobits R
  go_enter Try.func20, Try.ntmps20
  go_wp2_with (first | (go_at_call 41; (with_reducible refine (hc.out _).mono ?_); rintro e w' ⟨rfl, B1⟩) | (go_at_call 42; (with_reducible refine (hq.out _).mono ?_); rintro e w' ⟨rfl, ⟨n2, rfl⟩⟩))
  go_ret2
  exact ⟨rfl, by repeat (first | exact B1 | apply pw_below_drewN | apply below_drew1)⟩

/-- math.Ldexp on a normal word of an exponent about 63, up to a hundred places down. -/
theorem real_To.ld (F s : Nat) (h0 : 4890909195324358656 ≤ F) (h1 : F ≤ 4895412794951729152) (hs : s ≤ 100) (w : World) :
    Calls Try.prog 57 #[.float .f64 F, .int .i64 (-(s : Int))] w fun e w' => e = .returned (.float .f64 (F - s * 4503599627370496)) ∧ w' = w := by
  have a := to_sign F (by omega)
  have b := to_frac F (by omega)
  have c := to_exp F (by omega)
  have d := to_join F (F / 4503599627370496 - s) (by omega)
  have hn : 4503599627370496 ≤ F - s * 4503599627370496 ∧ F - s * 4503599627370496 < 9218868437227405312 := by omega
  have hF : 4503599627370496 ≤ F ∧ F < 9218868437227405312 := by omega
  refine real_To.ldexp57 F _ _ w fun w => real_To.ldexp F (F - s * 4503599627370496) (-(s : Int)) (((F / 4503599627370496 : Nat) : Int) - 1023) 0 (((F / 4503599627370496 : Nat) : Int) - 1023 - s) w
    ⟨a, Go.Proofs.Ytkhbkhbkcpmiiaa.Flt.order_most hF.1 hF.2, ?_, Go.Proofs.Ytkhbkhbkcpmiiaa.Flt.order_nought hF.1 hF.2, Go.Proofs.Ytkhbkhbkcpmiiaa.Flt.order_least hF.1 hF.2, Go.Proofs.Ytkhbkhbkcpmiiaa.Flt.mul_one hn.1 hn.2⟩ ?_ ?_ (by omega) (by omega) ?_ ?_
  · have := Go.Proofs.Ytkhbkhbkcpmiiaa.Flt.order_self (n := F) (by omega)
    show (Ieee.Format.order Ieee.double F F != some .eq) = false
    rw [this]
    rfl
  · rw [c]
    unfold wrap64
    omega
  · unfold wrap64
    omega
  · rw [b, show wrap64 (((F / 4503599627370496 : Nat) : Int) - 1023 - (s : Int) + 1023) = ((F / 4503599627370496 - s : Nat) : Int) by unfold wrap64; omega, d]
    omega
  · unfold wrap64
    omega

/-- The places that a number is moved up; its quotient's; the quotient of 64 bits, its lowest one 1 where anything is left; the word. -/
def real_To.up (n : Nat) : Nat := 64 - Lib.bitLen n
def real_To.zz (n : Nat) : Nat := 64 - Lib.bitLen (n * 2 ^ real_To.up n / 10000)
def real_To.m (n : Nat) : Nat :=
  n * 2 ^ real_To.up n * 2 ^ real_To.zz n / 10000 + (if n * 2 ^ real_To.up n * 2 ^ real_To.zz n % 10000 = 0 then 0 else 1 - n * 2 ^ real_To.up n * 2 ^ real_To.zz n / 10000 % 2)
def real_To.word (n : Nat) : Nat := Go.Proofs.Ytkhbkhbkcpmiiaa.Flt.D.nearest false (real_To.m n) 0 - (real_To.up n + real_To.zz n) * 4503599627370496

theorem real_To.sizes (n : Nat) (h0 : 0 < n) (h1 : n < 9223372036854775808) : ∃ up z : Nat, real_To.up n = up ∧ real_To.zz n = z ∧ 1 ≤ up ∧ up ≤ 63 ∧ (z = 13 ∨ z = 14) ∧
    bits_LeadingZeros64.f (n : Int) = some (up : Int) ∧ bits_LeadingZeros64.f ((n * 2 ^ up / 10000 : Nat) : Int) = some (z : Int) ∧
    9223372036854775808 ≤ n * 2 ^ up ∧ n * 2 ^ up < 18446744073709551616 ∧ 9223372036854775808 ≤ n * 2 ^ up / 10000 * 2 ^ z ∧ n * 2 ^ up / 10000 * 2 ^ z < 18446744073709551616 := by
  have cast : ∀ (x s : Nat), (x : Int) * 2 ^ s = ((x * 2 ^ s : Nat) : Int) := fun x s => by rw [Int.natCast_mul, Int.natCast_pow]; rfl
  obtain ⟨up, u1, u2, u3, u4⟩ := bitLen_pows (n : Int) (by omega) (by omega)
  rw [cast] at u3 u4
  rw [Int.toNat_natCast] at u2
  have hu0 : up ≠ 0 := by
    rintro rfl
    rw [Nat.pow_zero] at u3
    omega
  have hup : real_To.up n = up := by unfold real_To.up; omega
  obtain ⟨N, hN⟩ : ∃ N, N = n * 2 ^ up := ⟨_, rfl⟩
  rw [← hN] at u3 u4
  obtain ⟨z, z1, z2, z3, z4⟩ := bitLen_pows ((N / 10000 : Nat) : Int) (by omega) (by omega)
  rw [cast] at z3 z4
  rw [Int.toNat_natCast] at z2
  have hzz : real_To.zz n = z := by unfold real_To.zz; rw [hup, ← hN]; omega
  have hz : z = 13 ∨ z = 14 := by
    by_cases l : z ≤ 12
    · have := Nat.mul_le_mul_left (N / 10000) (Nat.pow_le_pow_right (show 0 < 2 by decide) l)
      rw [show (2 : Nat) ^ 12 = 4096 by decide] at this
      omega
    · by_cases g : 15 ≤ z
      · have := Nat.mul_le_mul_left (N / 10000) (Nat.pow_le_pow_right (show 0 < 2 by decide) g)
        rw [show (2 : Nat) ^ 15 = 32768 by decide] at this
        omega
      · omega
  refine ⟨up, z, hup, hzz, by omega, u1, hz, ?_, ?_, ?_⟩
  · unfold bits_LeadingZeros64.f
    rw [if_pos ⟨by omega, by omega⟩, Int.toNat_natCast, u2]
  · rw [← hN]
    unfold bits_LeadingZeros64.f
    rw [if_pos ⟨by omega, by omega⟩, Int.toNat_natCast, z2]
  · rw [← hN]
    exact ⟨by omega, by omega, by omega, by omega⟩

theorem real_To.pick (C : Int) (rest M V : Nat) (t2 : (C ≠ 0 ∨ rest ≠ 0) ↔ V ≠ 0) :
    (if (C != 0) = true then ((M + (1 - M % 2) : Nat) : Int) else if (((rest : Nat) : Int) != 0) = true then ((M + (1 - M % 2) : Nat) : Int) else (M : Int)) = ((M + (if V = 0 then 0 else 1 - M % 2) : Nat) : Int) := by
  by_cases c : V = 0
  · have hC : C = 0 ∧ rest = 0 := by omega
    obtain ⟨rfl, rfl⟩ := hC
    rw [if_pos c]
    simp
  · rw [if_neg c]
    have := t2.mpr c
    by_cases hC : C = 0
    · have hr : rest ≠ 0 := by omega
      have e : (((rest : Nat) : Int) != 0) = true := bne_iff_ne.mpr (by omega)
      rw [e]
      simp
    · have e : (C != 0) = true := bne_iff_ne.mpr hC
      rw [e]
      simp
theorem real_To.parts13 (N : Nat) (h0 : 9223372036854775808 ≤ N) (h1 : N < 18446744073709551616) (hz0 : 9223372036854775808 ≤ N / 10000 * 8192) (hz1 : N / 10000 * 8192 < 18446744073709551616) :
    ∃ (ql rest A B C m0 m1 : Int) (b1 b2 : Bool), (∃ K, bits_Div64.f K ((N % 10000 : Nat) : Int) 0 10000 = some (ql, rest)) ∧
      IntKind.u64.wrap (((N / 10000 : Nat) : Int) * 2 ^ min ((13 : Int)).toNat 64) = A ∧ ql / 2 ^ min ((51 : Int)).toNat 64 = B ∧ bits .or .u64 A B = m0 ∧
      IntKind.u64.wrap (ql * 2 ^ min ((13 : Int)).toNat 64) = C ∧ (C != 0) = b1 ∧ (rest != 0) = b2 ∧ bits .or .u64 m0 1 = m1 ∧
      (if b1 then m1 else if b2 then m1 else m0) = ((N * 8192 / 10000 + (if N * 8192 % 10000 = 0 then 0 else 1 - N * 8192 / 10000 % 2) : Nat) : Int) ∧
      9223372036854775808 ≤ N * 8192 / 10000 + (if N * 8192 % 10000 = 0 then 0 else 1 - N * 8192 / 10000 % 2) ∧ N * 8192 / 10000 + (if N * 8192 % 10000 = 0 then 0 else 1 - N * 8192 / 10000 % 2) < 18446744073709551616 := by
  obtain ⟨t1, t2⟩ := to_z13 N (N / 10000) (N % 10000) (N % 10000 * 18446744073709551616 / 10000) (N % 10000 * 18446744073709551616 % 10000) h0 h1 rfl rfl rfl rfl hz0 hz1
  obtain ⟨K, hK⟩ := (div64 ((N % 10000 : Nat) : Int) 0 10000 (by omega) (by omega) (by omega) (by omega) (by omega)).rounds
  have e1 : (((N % 10000 : Nat) : Int) * 18446744073709551616 + 0) / 10000 = ((N % 10000 * 18446744073709551616 / 10000 : Nat) : Int) := by omega
  have e2 : (((N % 10000 : Nat) : Int) * 18446744073709551616 + 0) % 10000 = ((N % 10000 * 18446744073709551616 % 10000 : Nat) : Int) := by omega
  rw [e1, e2] at hK
  have hM0 : 9223372036854775808 ≤ N * 8192 / 10000 := by omega
  have hM1 : N * 8192 / 10000 < 18446744073709551616 := by omega
  refine ⟨_, _, _, _, _, _, _, _, _, ⟨K, hK⟩, rfl, rfl, rfl, rfl, rfl, rfl, rfl, ?_, ?_, ?_⟩
  · rw [t1, to_or1 _ hM1]
    exact real_To.pick _ _ _ _ t2
  · split <;> omega
  · split <;> omega

theorem real_To.parts14 (N : Nat) (h0 : 9223372036854775808 ≤ N) (h1 : N < 18446744073709551616) (hz0 : 9223372036854775808 ≤ N / 10000 * 16384) (hz1 : N / 10000 * 16384 < 18446744073709551616) :
    ∃ (ql rest A B C m0 m1 : Int) (b1 b2 : Bool), (∃ K, bits_Div64.f K ((N % 10000 : Nat) : Int) 0 10000 = some (ql, rest)) ∧
      IntKind.u64.wrap (((N / 10000 : Nat) : Int) * 2 ^ min ((14 : Int)).toNat 64) = A ∧ ql / 2 ^ min ((50 : Int)).toNat 64 = B ∧ bits .or .u64 A B = m0 ∧
      IntKind.u64.wrap (ql * 2 ^ min ((14 : Int)).toNat 64) = C ∧ (C != 0) = b1 ∧ (rest != 0) = b2 ∧ bits .or .u64 m0 1 = m1 ∧
      (if b1 then m1 else if b2 then m1 else m0) = ((N * 16384 / 10000 + (if N * 16384 % 10000 = 0 then 0 else 1 - N * 16384 / 10000 % 2) : Nat) : Int) ∧
      9223372036854775808 ≤ N * 16384 / 10000 + (if N * 16384 % 10000 = 0 then 0 else 1 - N * 16384 / 10000 % 2) ∧ N * 16384 / 10000 + (if N * 16384 % 10000 = 0 then 0 else 1 - N * 16384 / 10000 % 2) < 18446744073709551616 := by
  obtain ⟨t1, t2⟩ := to_z14 N (N / 10000) (N % 10000) (N % 10000 * 18446744073709551616 / 10000) (N % 10000 * 18446744073709551616 % 10000) h0 h1 rfl rfl rfl rfl hz0 hz1
  obtain ⟨K, hK⟩ := (div64 ((N % 10000 : Nat) : Int) 0 10000 (by omega) (by omega) (by omega) (by omega) (by omega)).rounds
  have e1 : (((N % 10000 : Nat) : Int) * 18446744073709551616 + 0) / 10000 = ((N % 10000 * 18446744073709551616 / 10000 : Nat) : Int) := by omega
  have e2 : (((N % 10000 : Nat) : Int) * 18446744073709551616 + 0) % 10000 = ((N % 10000 * 18446744073709551616 % 10000 : Nat) : Int) := by omega
  rw [e1, e2] at hK
  have hM0 : 9223372036854775808 ≤ N * 16384 / 10000 := by omega
  have hM1 : N * 16384 / 10000 < 18446744073709551616 := by omega
  refine ⟨_, _, _, _, _, _, _, _, _, ⟨K, hK⟩, rfl, rfl, rfl, rfl, rfl, rfl, rfl, ?_, ?_, ?_⟩
  · rw [t1, to_or1 _ hM1]
    exact real_To.pick _ _ _ _ t2
  · split <;> omega
  · split <;> omega

theorem real_To.near (m s : Nat) (h0 : 9223372036854775808 ≤ m) (h1 : m < 18446744073709551616) (hs : s ≤ 100) :
    floatOfInt .f64 ((m : Nat) : Int) = Go.Proofs.Ytkhbkhbkcpmiiaa.Flt.D.nearest false m 0 ∧ 4890909195324358656 ≤ Go.Proofs.Ytkhbkhbkcpmiiaa.Flt.D.nearest false m 0 ∧ Go.Proofs.Ytkhbkhbkcpmiiaa.Flt.D.nearest false m 0 ≤ 4895412794951729152 := by
  have hn := Go.Proofs.Ytkhbkhbkcpmiiaa.Flt.near_int m h0 h1
  refine ⟨?_, ?_, ?_⟩
  · have e : decide (((m : Nat) : Int) < 0) = false := decide_eq_false (by omega)
    show Go.Proofs.Ytkhbkhbkcpmiiaa.Flt.D.nearest (decide (((m : Nat) : Int) < 0)) ((m : Nat) : Int).natAbs 0 = _
    rw [e, Int.natAbs_natCast]
  · rw [hn]
    split <;> omega
  · rw [hn]
    split <;> omega
theorem real_To.quot13 (n up : Nat) (neg : Bool) (w : World) (h0 : 0 < n) (h1 : n < 9223372036854775808) (hu : real_To.up n = up) (hz : real_To.zz n = 13) (hu1 : up ≤ 63)
    (hl : bits_LeadingZeros64.f (n : Int) = some (up : Int)) (hlz : bits_LeadingZeros64.f ((n * 2 ^ up / 10000 : Nat) : Int) = some ((13 : Nat) : Int))
    (hN0 : 9223372036854775808 ≤ n * 2 ^ up) (hN1 : n * 2 ^ up < 18446744073709551616) (hz0 : 9223372036854775808 ≤ n * 2 ^ up / 10000 * 2 ^ 13) (hz1 : n * 2 ^ up / 10000 * 2 ^ 13 < 18446744073709551616) :
    Calls Try.prog 42 #[.int .i64 (if neg then -(n : Int) else (n : Int))] w fun e w' => e = .returned (.float .f64 (if neg then 9223372036854775808 + real_To.word n else real_To.word n)) ∧ Drawn0 w w' := by
  have cast : (n : Int) * 2 ^ up = ((n * 2 ^ up : Nat) : Int) := by rw [Int.natCast_mul, Int.natCast_pow]; rfl
  have hm : real_To.m n = n * 2 ^ up * 8192 / 10000 + (if n * 2 ^ up * 8192 % 10000 = 0 then 0 else 1 - n * 2 ^ up * 8192 / 10000 % 2) := by
    unfold real_To.m
    rw [hu, hz]
  have hword : real_To.word n = Go.Proofs.Ytkhbkhbkcpmiiaa.Flt.D.nearest false (real_To.m n) 0 - (up + 13) * 4503599627370496 := by
    unfold real_To.word
    rw [hu, hz]
  rw [show (2 : Nat) ^ 13 = 8192 by decide] at hz0 hz1
  have hNw : IntKind.u64.wrap ((n : Int) * 2 ^ min ((up : Int)).toNat 64) = ((n * 2 ^ up : Nat) : Int) := by
    rw [Int.toNat_natCast, Nat.min_eq_left (by omega), cast, wuN (by omega) (by omega)]
  have hNz : (up : Int) ≤ 64 → IntKind.u64.wrap ((n : Int) * 2 ^ ((up : Int)).toNat) = ((n * 2 ^ up : Nat) : Int) := by
    intro _
    rw [Int.toNat_natCast, cast, wuN (by omega) (by omega)]
  rw [hword, hm]
  clear hword hm cast hu hz
  generalize n * 2 ^ up = N at *
  obtain ⟨ql, rest, A, B, C, m0, m1, b1, b2, ⟨K, hK⟩, eA, eB, e0, eC, eb1, eb2, e1, em, hM0, hM1⟩ := real_To.parts13 N hN0 hN1 hz0 hz1
  generalize N * 8192 / 10000 + (if N * 8192 % 10000 = 0 then 0 else 1 - N * 8192 / 10000 % 2) = m at em hM0 hM1 ⊢
  obtain ⟨f1, f2, f3⟩ := real_To.near m (up + 13) hM0 hM1 (by omega)
  have hd := Aside0.mk (fun w => bits_Div64.calls K ((N % 10000 : Nat) : Int) 0 10000 ql rest w hK)
  have hL := fun w => real_To.ld _ (up + 13) f2 f3 (by omega) w
  rw [← f1] at hL
  have hL := Aside0.mk hL
  rw [← f1] at f2 f3 ⊢
  have hR : 4503599627370496 ≤ floatOfInt .f64 (m : Int) - (up + 13) * 4503599627370496 ∧ floatOfInt .f64 (m : Int) - (up + 13) * 4503599627370496 < 9218868437227405312 := by omega
  have hy : wrap64 (64 - 13) = 51 := by unfold wrap64; decide
  have hq : IntKind.u64.wrap (Int.tdiv (N : Int) 10000) = ((N / 10000 : Nat) : Int) := by rw [Int.tdiv_eq_ediv_of_nonneg (by omega), wuN (by omega) (by omega)]; omega
  have hr : Int.tmod (N : Int) 10000 = ((N % 10000 : Nat) : Int) := by rw [Int.tmod_eq_emod_of_nonneg (by omega)]; omega
  have hu' : wrap64 (-(up : Int)) = -(up : Int) := by unfold wrap64; omega
  have hex : wrap64 (-(up : Int) - 13) = -((up + 13 : Nat) : Int) := by unfold wrap64; omega
  have ez : min ((13 : Int)).toNat 64 = ((13 : Int)).toNat := by decide
  have ey : min ((51 : Int)).toNat 64 = ((51 : Int)).toNat := by decide
  have eAz : (13 : Int) ≤ 64 → IntKind.u64.wrap (((N / 10000 : Nat) : Int) * 2 ^ ((13 : Int)).toNat) = A := fun _ => by rw [← ez]; exact eA
  have eCz : (13 : Int) ≤ 64 → IntKind.u64.wrap (ql * 2 ^ ((13 : Int)).toNat) = C := fun _ => by rw [← ez]; exact eC
  have eBz : (51 : Int) ≤ 64 → ql / 2 ^ ((51 : Int)).toNat = B := fun _ => by rw [← ey]; exact eB
  have hlz' : Aside0 (bits_LeadingZeros64.f ((N / 10000 : Nat) : Int) = some (13 : Int)) := ⟨hlz⟩
  have hl' := Aside0.mk hl
  have p1 : (0 : Int) ≤ 13 := by decide
  have p2 : (0 : Int) ≤ 51 := by decide
  have p3 : (0 : Int) ≤ up := by omega
  have p4 : IntKind.u64.wrap (n : Int) = n := wuN (by omega) (by omega)
  have p5 : ((n : Int) == 0) = false := beq_eq_false_iff_ne.mpr (by omega)
  generalize floatOfInt .f64 (m : Int) - (up + 13) * 4503599627370496 = R at *
  clear ez ey hl hlz hN0 hN1 hz0 hz1 f1 f2 f3 hM0 hM1 hK
  cases neg with
  | false =>
    simp only [Bool.false_eq_true, ↓reduceIte]
    exact real_To.quotPos (n : Int) (n : Int) up N ((N % 10000 : Nat) : Int) ((N / 10000 : Nat) : Int) ql rest 13 A B C 51 m0 m1 m (-(up : Int)) (-((up + 13 : Nat) : Int)) b1 b2 R _ w p4 (decide_eq_false (by omega)) p5 hl' p3 hNw hNz hq hr hd hlz' p1 eA eAz hy p2 eB eBz e0 eC eCz eb1 eb2 e1 em hu' hex hL
      (fun w => run_float_arith w .mul 46 .f64 _ _ _ (Go.Proofs.Ytkhbkhbkcpmiiaa.Flt.mul_one hR.1 hR.2))
  | true =>
    simp only [↓reduceIte]
    exact real_To.quotNeg (-(n : Int)) _ (n : Int) (n : Int) up N ((N % 10000 : Nat) : Int) ((N / 10000 : Nat) : Int) ql rest 13 A B C 51 m0 m1 m (-(up : Int)) (-((up + 13 : Nat) : Int)) b1 b2 R _ w rfl (by unfold wrap64; omega) p4 (decide_eq_true (by omega)) p5 hl' p3 hNw hNz hq hr hd hlz' p1 eA eAz hy p2 eB eBz e0 eC eCz eb1 eb2 e1 em hu' hex hL
      (fun w => run_float_arith w .mul 46 .f64 _ _ _ (Go.Proofs.Ytkhbkhbkcpmiiaa.Flt.mul_minus hR.1 hR.2))

theorem real_To.quot14 (n up : Nat) (neg : Bool) (w : World) (h0 : 0 < n) (h1 : n < 9223372036854775808) (hu : real_To.up n = up) (hz : real_To.zz n = 14) (hu1 : up ≤ 63)
    (hl : bits_LeadingZeros64.f (n : Int) = some (up : Int)) (hlz : bits_LeadingZeros64.f ((n * 2 ^ up / 10000 : Nat) : Int) = some ((14 : Nat) : Int))
    (hN0 : 9223372036854775808 ≤ n * 2 ^ up) (hN1 : n * 2 ^ up < 18446744073709551616) (hz0 : 9223372036854775808 ≤ n * 2 ^ up / 10000 * 2 ^ 14) (hz1 : n * 2 ^ up / 10000 * 2 ^ 14 < 18446744073709551616) :
    Calls Try.prog 42 #[.int .i64 (if neg then -(n : Int) else (n : Int))] w fun e w' => e = .returned (.float .f64 (if neg then 9223372036854775808 + real_To.word n else real_To.word n)) ∧ Drawn0 w w' := by
  have cast : (n : Int) * 2 ^ up = ((n * 2 ^ up : Nat) : Int) := by rw [Int.natCast_mul, Int.natCast_pow]; rfl
  have hm : real_To.m n = n * 2 ^ up * 16384 / 10000 + (if n * 2 ^ up * 16384 % 10000 = 0 then 0 else 1 - n * 2 ^ up * 16384 / 10000 % 2) := by
    unfold real_To.m
    rw [hu, hz]
  have hword : real_To.word n = Go.Proofs.Ytkhbkhbkcpmiiaa.Flt.D.nearest false (real_To.m n) 0 - (up + 14) * 4503599627370496 := by
    unfold real_To.word
    rw [hu, hz]
  rw [show (2 : Nat) ^ 14 = 16384 by decide] at hz0 hz1
  have hNw : IntKind.u64.wrap ((n : Int) * 2 ^ min ((up : Int)).toNat 64) = ((n * 2 ^ up : Nat) : Int) := by
    rw [Int.toNat_natCast, Nat.min_eq_left (by omega), cast, wuN (by omega) (by omega)]
  have hNz : (up : Int) ≤ 64 → IntKind.u64.wrap ((n : Int) * 2 ^ ((up : Int)).toNat) = ((n * 2 ^ up : Nat) : Int) := by
    intro _
    rw [Int.toNat_natCast, cast, wuN (by omega) (by omega)]
  rw [hword, hm]
  clear hword hm cast hu hz
  generalize n * 2 ^ up = N at *
  obtain ⟨ql, rest, A, B, C, m0, m1, b1, b2, ⟨K, hK⟩, eA, eB, e0, eC, eb1, eb2, e1, em, hM0, hM1⟩ := real_To.parts14 N hN0 hN1 hz0 hz1
  generalize N * 16384 / 10000 + (if N * 16384 % 10000 = 0 then 0 else 1 - N * 16384 / 10000 % 2) = m at em hM0 hM1 ⊢
  obtain ⟨f1, f2, f3⟩ := real_To.near m (up + 14) hM0 hM1 (by omega)
  have hd := Aside0.mk (fun w => bits_Div64.calls K ((N % 10000 : Nat) : Int) 0 10000 ql rest w hK)
  have hL := fun w => real_To.ld _ (up + 14) f2 f3 (by omega) w
  rw [← f1] at hL
  have hL := Aside0.mk hL
  rw [← f1] at f2 f3 ⊢
  have hR : 4503599627370496 ≤ floatOfInt .f64 (m : Int) - (up + 14) * 4503599627370496 ∧ floatOfInt .f64 (m : Int) - (up + 14) * 4503599627370496 < 9218868437227405312 := by omega
  have hy : wrap64 (64 - 14) = 50 := by unfold wrap64; decide
  have hq : IntKind.u64.wrap (Int.tdiv (N : Int) 10000) = ((N / 10000 : Nat) : Int) := by rw [Int.tdiv_eq_ediv_of_nonneg (by omega), wuN (by omega) (by omega)]; omega
  have hr : Int.tmod (N : Int) 10000 = ((N % 10000 : Nat) : Int) := by rw [Int.tmod_eq_emod_of_nonneg (by omega)]; omega
  have hu' : wrap64 (-(up : Int)) = -(up : Int) := by unfold wrap64; omega
  have hex : wrap64 (-(up : Int) - 14) = -((up + 14 : Nat) : Int) := by unfold wrap64; omega
  have ez : min ((14 : Int)).toNat 64 = ((14 : Int)).toNat := by decide
  have ey : min ((50 : Int)).toNat 64 = ((50 : Int)).toNat := by decide
  have eAz : (14 : Int) ≤ 64 → IntKind.u64.wrap (((N / 10000 : Nat) : Int) * 2 ^ ((14 : Int)).toNat) = A := fun _ => by rw [← ez]; exact eA
  have eCz : (14 : Int) ≤ 64 → IntKind.u64.wrap (ql * 2 ^ ((14 : Int)).toNat) = C := fun _ => by rw [← ez]; exact eC
  have eBz : (50 : Int) ≤ 64 → ql / 2 ^ ((50 : Int)).toNat = B := fun _ => by rw [← ey]; exact eB
  have hlz' : Aside0 (bits_LeadingZeros64.f ((N / 10000 : Nat) : Int) = some (14 : Int)) := ⟨hlz⟩
  have hl' := Aside0.mk hl
  have p1 : (0 : Int) ≤ 14 := by decide
  have p2 : (0 : Int) ≤ 50 := by decide
  have p3 : (0 : Int) ≤ up := by omega
  have p4 : IntKind.u64.wrap (n : Int) = n := wuN (by omega) (by omega)
  have p5 : ((n : Int) == 0) = false := beq_eq_false_iff_ne.mpr (by omega)
  generalize floatOfInt .f64 (m : Int) - (up + 14) * 4503599627370496 = R at *
  clear ez ey hl hlz hN0 hN1 hz0 hz1 f1 f2 f3 hM0 hM1 hK
  cases neg with
  | false =>
    simp only [Bool.false_eq_true, ↓reduceIte]
    exact real_To.quotPos (n : Int) (n : Int) up N ((N % 10000 : Nat) : Int) ((N / 10000 : Nat) : Int) ql rest 14 A B C 50 m0 m1 m (-(up : Int)) (-((up + 14 : Nat) : Int)) b1 b2 R _ w p4 (decide_eq_false (by omega)) p5 hl' p3 hNw hNz hq hr hd hlz' p1 eA eAz hy p2 eB eBz e0 eC eCz eb1 eb2 e1 em hu' hex hL
      (fun w => run_float_arith w .mul 46 .f64 _ _ _ (Go.Proofs.Ytkhbkhbkcpmiiaa.Flt.mul_one hR.1 hR.2))
  | true =>
    simp only [↓reduceIte]
    exact real_To.quotNeg (-(n : Int)) _ (n : Int) (n : Int) up N ((N % 10000 : Nat) : Int) ((N / 10000 : Nat) : Int) ql rest 14 A B C 50 m0 m1 m (-(up : Int)) (-((up + 14 : Nat) : Int)) b1 b2 R _ w rfl (by unfold wrap64; omega) p4 (decide_eq_true (by omega)) p5 hl' p3 hNw hNz hq hr hd hlz' p1 eA eAz hy p2 eB eBz e0 eC eCz eb1 eb2 e1 em hu' hex hL
      (fun w => run_float_arith w .mul 46 .f64 _ _ _ (Go.Proofs.Ytkhbkhbkcpmiiaa.Flt.mul_minus hR.1 hR.2))

/-- A number's float: none of the least number; 0 of 0; else its size's word, with the sign. -/
def real_To.f (a0 : Int) : Option (Int × Bool) :=
  if a0 = -9223372036854775808 then some (0, false) else if a0 = 0 then some (0, true)
  else if -9223372036854775808 < a0 ∧ a0 ≤ 9223372036854775807 then some (((if decide (a0 < 0) then 9223372036854775808 + real_To.word a0.natAbs else real_To.word a0.natAbs : Nat) : Int), true) else none
theorem real_To.can_l0 (l : List Int) (hl : l.length < 9223372036854775807) : ∀ (n i : Nat), i ≤ l.length → l.length - i = n → Ev (fun k => fix_can.l0 k l (l.length : Int) (i : Int)) ((l.drop i).all (fun x => x != -9223372036854775808)) := by
  intro n
  induction n with
  | zero =>
    intro i hi hn
    obtain rfl : i = l.length := by omega
    refine Ev.step (f := fun k => some _) (fun k => ?_) (Ev.now _)
    simp only [fix_can.l0]
    rw [if_neg (by omega)]
    simp
  | succ n ih =>
    intro i hi hn
    have hlt : i < l.length := by omega
    have hd : l.drop i = l[i] :: l.drop (i + 1) := List.drop_eq_getElem_cons hlt
    have hr : rd l (i : Int) = l[i] := by unfold rd; simp [hlt]
    have hw : wrap64 ((i : Int) + 1) = ((i + 1 : Nat) : Int) := by unfold wrap64; omega
    rw [hd, List.all_cons]
    by_cases hx : l[i] = -9223372036854775808
    · refine Ev.step (f := fun k => some _) (fun k => ?_) (Ev.now _)
      simp only [fix_can.l0]
      rw [if_pos (by omega), if_pos (by omega), if_pos (by omega), hr, if_pos hx]
      rw [hx]
      rfl
    · refine Ev.step (f := fun k => fix_can.l0 k l (l.length : Int) ((i + 1 : Nat) : Int)) (fun k => ?_) ?_
      · simp only [fix_can.l0]
        rw [if_pos (by omega), if_pos (by omega), if_pos (by omega), hr, if_neg hx, hw]
      · rw [bne_iff_ne.mpr hx, Bool.true_and]
        exact ih (i + 1) (by omega) (by omega)

theorem real_To.can_ok (l : List Int) (hl : l.length < 9223372036854775807) : Ev (fun k => fix_can.f k l) (l.all (fun x => x != -9223372036854775808)) := by
  have h := real_To.can_l0 l hl _ 0 (by omega) rfl
  exact h

theorem real_To.can (a0 : Int) (w : World) (b : Bool) (hb : b = (a0 != -9223372036854775808)) : Calls Try.prog 41 #[.int .i64 a0] w fun e w' => e = .returned (.bool b) ∧ Below w.heap.size w w' := by
  obtain ⟨k, h⟩ := (real_To.can_ok [a0] (by simp)).rounds
  refine fix_Can.calls k a0 b w ?_
  unfold fix_Can.f
  rw [h, hb]
  simp
theorem real_To.quot (n : Nat) (neg : Bool) (w : World) (h0 : 0 < n) (h1 : n < 9223372036854775808) :
    Calls Try.prog 42 #[.int .i64 (if neg then -(n : Int) else (n : Int))] w fun e w' => e = .returned (.float .f64 (if neg then 9223372036854775808 + real_To.word n else real_To.word n)) ∧ Drawn0 w w' := by
  obtain ⟨up, z, s1, s2, s3, s4, s5, s6, s7, s8, s9, s10, s11⟩ := real_To.sizes n h0 h1
  rcases s5 with rfl | rfl
  · exact real_To.quot13 n up neg w h0 h1 s1 s2 s4 s6 s7 s8 s9 s10 s11
  · exact real_To.quot14 n up neg w h0 h1 s1 s2 s4 s6 s7 s8 s9 s10 s11
theorem real_To.calls (a0 : Int) (r1 : Int) (r2 : Bool) (w : World) (h : real_To.f a0 = some (r1, r2)) :
    Calls Try.prog 20 #[.int .i64 a0] w fun e w' => e = .returned (.tuple #[.int .u64 r1, .bool r2]) ∧ Below w.heap.size w w' := by
  unfold real_To.f at h
  by_cases c0 : a0 = -9223372036854775808
  · rw [if_pos c0] at h
    simp only [Option.some.injEq, Prod.mk.injEq] at h
    obtain ⟨rfl, rfl⟩ := h
    exact real_To.no a0 w ⟨fun w => real_To.can a0 w false (by rw [c0]; decide)⟩
  · rw [if_neg c0] at h
    have hc := Aside0.mk (fun w => real_To.can a0 w true (bne_iff_ne.mpr c0).symm)
    by_cases c1 : a0 = 0
    · rw [if_pos c1] at h
      simp only [Option.some.injEq, Prod.mk.injEq] at h
      obtain ⟨rfl, rfl⟩ := h
      exact real_To.yes a0 0 w hc ⟨fun w => by rw [c1]; exact real_To.quotZero w⟩
    · rw [if_neg c1] at h
      by_cases c2 : -9223372036854775808 < a0 ∧ a0 ≤ 9223372036854775807
      · rw [if_pos c2] at h
        simp only [Option.some.injEq, Prod.mk.injEq] at h
        obtain ⟨rfl, rfl⟩ := h
        refine real_To.yes a0 _ w hc ⟨fun w => ?_⟩
        have := real_To.quot a0.natAbs (decide (a0 < 0)) w (by omega) (by omega)
        have e : (if decide (a0 < 0) then -((a0.natAbs : Nat) : Int) else ((a0.natAbs : Nat) : Int)) = a0 := by
          by_cases g : a0 < 0
          · rw [decide_eq_true g, if_pos rfl]
            omega
          · rw [decide_eq_false g, if_neg (by decide)]
            omega
        rw [e] at this
        exact this
      · rw [if_neg c2] at h
        cases h

end Go.Proofs.Ytkhbkhbkcpmiiaa.PReal
