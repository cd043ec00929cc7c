/- The contract of the Go function cadastre/real.From (number 9 of the translation), by hand: where its pure function 'real_From.f' tells an answer, the call comes to that answer. -/
import Derived.Test.YtkhbkhbkcpmiiaaFlt
import Derived.WalkLawsBesides
import Derived.Laws.FloatArith
import Derived.Laws.Externs
import Derived.Laws.BitsLemmas
import Derived.Test.YtkhbkhbkcpmiiaaPRealx0
import Derived.Test.YtkhbkhbkcpmiiaaPRealx1
import Derived.Test.YtkhbkhbkcpmiiaaGbitsMul64
namespace Go.Proofs.Ytkhbkhbkcpmiiaa.PReal
open Go.RowKit Go.Proofs.YtkhbkhbkcpmiiaaW.PrintWords Go.Proofs.YtkhbkhbkcpmiiaaW.PrintLast Go.Proofs.YtkhbkhbkcpmiiaaW.PrintMore
attribute [local go_sem] max2_int min2_int max_two min_two max_three min_three max_four min_four   -- for this text's walks alone
set_option linter.unusedVariables false
set_option linter.unusedSimpArgs false

/-- What a float's number is, of its size reckoned and whether that fits; less than 0 or not. -/
def real_From.res (neg : Bool) (s : Int × Bool) : Int × Bool :=
  if s.2 = false then ((0 : Int), false) else if s.1 > 9223372036854775807 then (0, false) else if neg = true then (wrap64 (-(wrap64 s.1)), true) else (wrap64 s.1, true)
/-- A float's number, its fraction multiplied by ten thousand and shifted. -/
def real_From.f (a0 : Int) : Option (Int × Bool) :=
  if 0 ≤ a0 ∧ a0 ≤ 18446744073709551615 then
    if 9218868437227405312 ≤ a0 % 9223372036854775808 then some (0, false)
    else if wrap64 (bits .and .u64 (a0 / 4503599627370496) 2047) = 0 then
      (bits_Mul64.f (bits .and .u64 a0 4503599627370495) 10000).bind fun m => (real_shifted.f m.1 m.2 (-1074)).bind fun s => some (real_From.res (decide (9223372036854775808 < a0)) s)
    else
      (bits_Mul64.f (bits .or .u64 (bits .and .u64 a0 4503599627370495) 4503599627370496) 10000).bind fun m => (real_shifted.f m.1 m.2 (wrap64 (bits .and .u64 (a0 / 4503599627370496) 2047) - 1075)).bind fun s => some (real_From.res (decide (9223372036854775808 < a0)) s)
  else none

theorem real_From.frombits (x : Int) (w : World) : (callFunc 24 #[.int .u64 x]).run Try.prog w = .ok (.value (.float .f64 x.toNat)) w := by
  rw [run_callFunc_extern Try.func24 (by kernel_rfl) (by kernel_rfl) (by kernel_rfl) (e := Extern.MathFloatBits.float64frombits) (by kernel_rfl)]
  rfl

set_option maxHeartbeats 1000000 in
theorem real_From.nan (a0 : Int) (w : World) (h0 : 0 ≤ a0) (h1 : a0 ≤ 18446744073709551615) (h : 9218868437227405312 < a0 % 9223372036854775808) :
    Calls Try.prog 9 #[.int .u64 a0] w fun e w' => e = .returned (.tuple #[.int .i64 0, .bool false]) ∧ Drawn0 w w' := by
  obtain ⟨n, rfl⟩ := Int.eq_ofNat_of_zero_le h0
  have ho : (FloatKind.f64.format.order n n != some .eq) = true := by
    have := Go.Proofs.Ytkhbkhbkcpmiiaa.Flt.order_self_nan (n := n) (by omega) n
    show (Ieee.Format.order Ieee.double n n != some .eq) = true
    rw [this]
    rfl
  have hc := real_From.frombits (n : Int)
  rw [Int.toNat_natCast] at hc
  go_enter Try.func9, Try.ntmps9
  go_wp2
  go_ret2
  exact ⟨rfl, Drawn0.refl _⟩

set_option maxHeartbeats 1000000 in
theorem real_From.inf (a0 : Int) (w : World) (h0 : 0 ≤ a0) (h1 : a0 ≤ 18446744073709551615) (h : a0 % 9223372036854775808 = 9218868437227405312) :
    Calls Try.prog 9 #[.int .u64 a0] w fun e w' => e = .returned (.tuple #[.int .i64 0, .bool false]) ∧ Drawn0 w w' := by
  obtain ⟨n, rfl⟩ := Int.eq_ofNat_of_zero_le h0
  have ho : (FloatKind.f64.format.order n n != some .eq) = false := by
    have := Go.Proofs.Ytkhbkhbkcpmiiaa.Flt.order_self (n := n) (by omega)
    show (Ieee.Format.order Ieee.double n n != some .eq) = false
    rw [this]
    rfl
  have hs : ∀ w, (binOp .sub 46 (.float .f64 n) (.float .f64 n)).run Try.prog w = .ok (.float .f64 (Question.cut (.nanBits .f64 n n) (w.tape w.drawn (.nanBits .f64 n n)))) w.drew := by
    intro w
    have := Go.Proofs.Ytkhbkhbkcpmiiaa.Flt.sub_self_inf (n := n) (by omega)
    have hn : FloatKind.f64.format.sub n n = none := this
    simp [binOp, Op.floatArith, hn, run_choose_drew, Question.forced]
  have hz : ∀ t, (FloatKind.f64.format.order (Question.cut (.nanBits .f64 n n) t) 0 != some .eq) = true := by
    intro t
    have := Go.Proofs.Ytkhbkhbkcpmiiaa.Flt.order_self_nan (n := Question.cut (.nanBits .f64 n n) t) (by unfold Question.cut; dsimp only; rw [show (2 : Nat) ^ 63 = 9223372036854775808 by decide, show (2 : Nat) ^ 52 - 1 = 4503599627370495 by decide]; have := Nat.mod_lt (t / 2) (show 0 < 4503599627370495 by decide); have : t % 2 = 0 ∨ t % 2 = 1 := (by omega); rcases this with h | h <;> rw [h] <;> omega) 0
    show (Ieee.Format.order Ieee.double (Question.cut (.nanBits .f64 n n) t) 0 != some .eq) = true
    rw [this]
    rfl
  have hc := real_From.frombits (n : Int)
  rw [Int.toNat_natCast] at hc
  clear h h0 h1
  go_enter Try.func9, Try.ntmps9
  go_wp2
  go_ret2
  exact ⟨rfl, ⟨⟨1, rfl⟩⟩⟩

set_option maxHeartbeats 2000000 in
theorem real_From.fin (n : Nat) (w : World) (F E G m1 m2 s1 : Int) (s2 neg : Bool) (r : Int × Bool) (h : n % 9223372036854775808 < 9218868437227405312) (hn : n < 18446744073709551616) (hneg : decide (9223372036854775808 < n) = neg)
    (hF : bits .and .u64 (n : Int) 4503599627370495 = F) (hE : wrap64 (bits .and .u64 ((n : Int) / 4503599627370496) 2047) = E) (hG : bits .or .u64 F 4503599627370496 = G) (hE0 : (E == 0) = false) (hb0 : 0 < E) (hb1 : E < 2048)
    (A : Aside0 (bits_Mul64.f G 10000 = some (m1, m2))) (B : Aside0 (real_shifted.f m1 m2 (E - 1075) = some (s1, s2)))
    (hr : (if s2 = false then ((0 : Int), false) else if s1 > 9223372036854775807 then (0, false) else if neg = true then (wrap64 (-(wrap64 s1)), true) else (wrap64 s1, true)) = r) :
    Calls Try.prog 9 #[.int .u64 n] w fun e w' => e = .returned (.tuple #[.int .i64 r.1, .bool r.2]) ∧ Drawn0 w w' := by
  have ho : (FloatKind.f64.format.order n n != some .eq) = false := by
    have := Go.Proofs.Ytkhbkhbkcpmiiaa.Flt.order_self (n := n) (by omega)
    show (Ieee.Format.order Ieee.double n n != some .eq) = false
    rw [this]
    rfl
  have hs : ∀ w, (binOp .sub 46 (.float .f64 n) (.float .f64 n)).run Try.prog w = .ok (.float .f64 0) w :=
    fun w => run_float_arith w .sub 46 .f64 n n 0 (Go.Proofs.Ytkhbkhbkcpmiiaa.Flt.sub_self_fin (n := n) (by omega))
  have hz : (FloatKind.f64.format.order 0 0 != some .eq) = false := by
    show (Ieee.Format.order Ieee.double 0 0 != some .eq) = false
    rw [Go.Proofs.Ytkhbkhbkcpmiiaa.Flt.order_zero]
    rfl
  have hl : (FloatKind.f64.format.order n 0 == some .lt) = neg := (Go.Proofs.Ytkhbkhbkcpmiiaa.Flt.order_lt_zero (n := n) (by omega) (by omega)).trans hneg
  have hc := real_From.frombits (n : Int)
  rw [Int.toNat_natCast] at hc
  clear h hneg hn
  cases s2 with
  | false =>
    subst hr
    go_enter Try.func9, Try.ntmps9
    go_wp2_with (first | (go_at_call 25; (with_reducible refine (bits_Mul64.calls G 10000 m1 m2 _ A.out).mono ?_); rintro e w' ⟨rfl, ⟨n1, rfl⟩⟩) | (go_at_call 26; (with_reducible refine (real_shifted.calls m1 m2 (E - 1075) s1 false _ B.out).mono ?_); rintro e w' ⟨rfl, ⟨n2, rfl⟩⟩))
    go_ret2
    exact ⟨rfl, by repeat (first | exact Drawn0.refl _ | apply Drawn0.step)⟩
  | true =>
    by_cases hbig : s1 > 9223372036854775807
    · have hr2 : r = ((0 : Int), false) := by rw [← hr, if_neg (by decide), if_pos hbig]
      subst hr2
      have c2 : decide (9223372036854775807 < s1) = true := decide_eq_true hbig
      clear hbig hr
      go_enter Try.func9, Try.ntmps9
      go_wp2_with (first | (go_at_call 25; (with_reducible refine (bits_Mul64.calls G 10000 m1 m2 _ A.out).mono ?_); rintro e w' ⟨rfl, ⟨n1, rfl⟩⟩) | (go_at_call 26; (with_reducible refine (real_shifted.calls m1 m2 (E - 1075) s1 true _ B.out).mono ?_); rintro e w' ⟨rfl, ⟨n2, rfl⟩⟩))
      go_ret2
      exact ⟨rfl, by repeat (first | exact Drawn0.refl _ | apply Drawn0.step)⟩
    · cases neg with
      | true =>
        have hr2 : r = (wrap64 (-(wrap64 s1)), true) := by rw [← hr, if_neg (by decide), if_neg hbig]; rfl
        subst hr2
        have c2 : decide (9223372036854775807 < s1) = false := decide_eq_false hbig
        clear hbig hr
        go_enter Try.func9, Try.ntmps9
        go_wp2_with (first | (go_at_call 25; (with_reducible refine (bits_Mul64.calls G 10000 m1 m2 _ A.out).mono ?_); rintro e w' ⟨rfl, ⟨n1, rfl⟩⟩) | (go_at_call 26; (with_reducible refine (real_shifted.calls m1 m2 (E - 1075) s1 true _ B.out).mono ?_); rintro e w' ⟨rfl, ⟨n2, rfl⟩⟩))
        go_ret2
        exact ⟨rfl, by repeat (first | exact Drawn0.refl _ | apply Drawn0.step)⟩
      | false =>
        have hr2 : r = (wrap64 s1, true) := by rw [← hr, if_neg (by decide), if_neg hbig]; rfl
        subst hr2
        have c2 : decide (9223372036854775807 < s1) = false := decide_eq_false hbig
        clear hbig hr
        go_enter Try.func9, Try.ntmps9
        go_wp2_with (first | (go_at_call 25; (with_reducible refine (bits_Mul64.calls G 10000 m1 m2 _ A.out).mono ?_); rintro e w' ⟨rfl, ⟨n1, rfl⟩⟩) | (go_at_call 26; (with_reducible refine (real_shifted.calls m1 m2 (E - 1075) s1 true _ B.out).mono ?_); rintro e w' ⟨rfl, ⟨n2, rfl⟩⟩))
        go_ret2
        exact ⟨rfl, by repeat (first | exact Drawn0.refl _ | apply Drawn0.step)⟩

set_option maxHeartbeats 2000000 in
theorem real_From.fin0 (n : Nat) (w : World) (F m1 m2 s1 : Int) (s2 neg : Bool) (r : Int × Bool) (h : n % 9223372036854775808 < 9218868437227405312) (hn : n < 18446744073709551616) (hneg : decide (9223372036854775808 < n) = neg)
    (hF : bits .and .u64 (n : Int) 4503599627370495 = F) (hE : wrap64 (bits .and .u64 ((n : Int) / 4503599627370496) 2047) = 0)
    (A : Aside0 (bits_Mul64.f F 10000 = some (m1, m2))) (B : Aside0 (real_shifted.f m1 m2 (-1074) = some (s1, s2)))
    (hr : (if s2 = false then ((0 : Int), false) else if s1 > 9223372036854775807 then (0, false) else if neg = true then (wrap64 (-(wrap64 s1)), true) else (wrap64 s1, true)) = r) :
    Calls Try.prog 9 #[.int .u64 n] w fun e w' => e = .returned (.tuple #[.int .i64 r.1, .bool r.2]) ∧ Drawn0 w w' := by
  have ho : (FloatKind.f64.format.order n n != some .eq) = false := by
    have := Go.Proofs.Ytkhbkhbkcpmiiaa.Flt.order_self (n := n) (by omega)
    show (Ieee.Format.order Ieee.double n n != some .eq) = false
    rw [this]
    rfl
  have hs : ∀ w, (binOp .sub 46 (.float .f64 n) (.float .f64 n)).run Try.prog w = .ok (.float .f64 0) w :=
    fun w => run_float_arith w .sub 46 .f64 n n 0 (Go.Proofs.Ytkhbkhbkcpmiiaa.Flt.sub_self_fin (n := n) (by omega))
  have hz : (FloatKind.f64.format.order 0 0 != some .eq) = false := by
    show (Ieee.Format.order Ieee.double 0 0 != some .eq) = false
    rw [Go.Proofs.Ytkhbkhbkcpmiiaa.Flt.order_zero]
    rfl
  have hl : (FloatKind.f64.format.order n 0 == some .lt) = neg := (Go.Proofs.Ytkhbkhbkcpmiiaa.Flt.order_lt_zero (n := n) (by omega) (by omega)).trans hneg
  have hc := real_From.frombits (n : Int)
  rw [Int.toNat_natCast] at hc
  clear h hneg hn
  cases s2 with
  | false =>
    subst hr
    go_enter Try.func9, Try.ntmps9
    go_wp2_with (first | (go_at_call 25; (with_reducible refine (bits_Mul64.calls F 10000 m1 m2 _ A.out).mono ?_); rintro e w' ⟨rfl, ⟨n1, rfl⟩⟩) | (go_at_call 26; (with_reducible refine (real_shifted.calls m1 m2 (-1074) s1 false _ B.out).mono ?_); rintro e w' ⟨rfl, ⟨n2, rfl⟩⟩))
    go_ret2
    exact ⟨rfl, by repeat (first | exact Drawn0.refl _ | apply Drawn0.step)⟩
  | true =>
    by_cases hbig : s1 > 9223372036854775807
    · have hr2 : r = ((0 : Int), false) := by rw [← hr, if_neg (by decide), if_pos hbig]
      subst hr2
      have c2 : decide (9223372036854775807 < s1) = true := decide_eq_true hbig
      clear hbig hr
      go_enter Try.func9, Try.ntmps9
      go_wp2_with (first | (go_at_call 25; (with_reducible refine (bits_Mul64.calls F 10000 m1 m2 _ A.out).mono ?_); rintro e w' ⟨rfl, ⟨n1, rfl⟩⟩) | (go_at_call 26; (with_reducible refine (real_shifted.calls m1 m2 (-1074) s1 true _ B.out).mono ?_); rintro e w' ⟨rfl, ⟨n2, rfl⟩⟩))
      go_ret2
      exact ⟨rfl, by repeat (first | exact Drawn0.refl _ | apply Drawn0.step)⟩
    · cases neg with
      | true =>
        have hr2 : r = (wrap64 (-(wrap64 s1)), true) := by rw [← hr, if_neg (by decide), if_neg hbig]; rfl
        subst hr2
        have c2 : decide (9223372036854775807 < s1) = false := decide_eq_false hbig
        clear hbig hr
        go_enter Try.func9, Try.ntmps9
        go_wp2_with (first | (go_at_call 25; (with_reducible refine (bits_Mul64.calls F 10000 m1 m2 _ A.out).mono ?_); rintro e w' ⟨rfl, ⟨n1, rfl⟩⟩) | (go_at_call 26; (with_reducible refine (real_shifted.calls m1 m2 (-1074) s1 true _ B.out).mono ?_); rintro e w' ⟨rfl, ⟨n2, rfl⟩⟩))
        go_ret2
        exact ⟨rfl, by repeat (first | exact Drawn0.refl _ | apply Drawn0.step)⟩
      | false =>
        have hr2 : r = (wrap64 s1, true) := by rw [← hr, if_neg (by decide), if_neg hbig]; rfl
        subst hr2
        have c2 : decide (9223372036854775807 < s1) = false := decide_eq_false hbig
        clear hbig hr
        go_enter Try.func9, Try.ntmps9
        go_wp2_with (first | (go_at_call 25; (with_reducible refine (bits_Mul64.calls F 10000 m1 m2 _ A.out).mono ?_); rintro e w' ⟨rfl, ⟨n1, rfl⟩⟩) | (go_at_call 26; (with_reducible refine (real_shifted.calls m1 m2 (-1074) s1 true _ B.out).mono ?_); rintro e w' ⟨rfl, ⟨n2, rfl⟩⟩))
        go_ret2
        exact ⟨rfl, by repeat (first | exact Drawn0.refl _ | apply Drawn0.step)⟩

theorem real_From.expRange (a0 : Int) (h0 : 0 ≤ a0) (h1 : a0 ≤ 18446744073709551615) : wrap64 (bits .and .u64 (a0 / 4503599627370496) 2047) = a0 / 4503599627370496 % 2048 := by
  have hw : ∀ n : Int, 0 ≤ n → n < 2 ^ 64 → IntKind.u64.wrap n = n := fun n h0 h1 => by
    have e : IntKind.u64.wrap n = n % 18446744073709551616 := by simp [IntKind.wrap, IntKind.bits, IntKind.signed]
    rw [e]
    omega
  have h := bits_mask .u64 64 (by decide) hw 11 (by decide) (a0 / 4503599627370496) (by omega) (by omega)
  rw [show (2 : Int) ^ 11 - 1 = 2047 by decide, show (2 : Int) ^ 11 = 2048 by decide] at h
  rw [h]
  unfold wrap64
  omega

theorem real_From.calls (a0 : Int) (r1 : Int) (r2 : Bool) (w : World) (h : real_From.f a0 = some (r1, r2)) :
    Calls Try.prog 9 #[.int .u64 a0] w fun e w' => e = .returned (.tuple #[.int .i64 r1, .bool r2]) ∧ Drawn0 w w' := by
  unfold real_From.f at h
  split at h
  · rename_i hb
    obtain ⟨h0, h1⟩ := hb
    split at h
    · rename_i hi
      simp only [Option.some.injEq, Prod.mk.injEq] at h
      obtain ⟨rfl, rfl⟩ := h
      by_cases he : a0 % 9223372036854775808 = 9218868437227405312
      · exact real_From.inf a0 w h0 h1 he
      · exact real_From.nan a0 w h0 h1 (by omega)
    · rename_i hi
      have er := real_From.expRange a0 h0 h1
      split at h
      · rename_i hz
        obtain ⟨⟨m1, m2⟩, A, h⟩ := Option.bind_eq_some_iff.mp h
        obtain ⟨⟨s1, s2⟩, B, h⟩ := Option.bind_eq_some_iff.mp h
        obtain ⟨n, rfl⟩ := Int.eq_ofNat_of_zero_le h0
        exact real_From.fin0 n w _ m1 m2 s1 s2 _ (r1, r2) (by omega) (by omega) (decide_eq_decide.mpr (by omega)) rfl hz ⟨A⟩ ⟨B⟩ (Option.some.inj h)
      · rename_i hz
        obtain ⟨⟨m1, m2⟩, A, h⟩ := Option.bind_eq_some_iff.mp h
        obtain ⟨⟨s1, s2⟩, B, h⟩ := Option.bind_eq_some_iff.mp h
        obtain ⟨n, rfl⟩ := Int.eq_ofNat_of_zero_le h0
        exact real_From.fin n w _ _ _ m1 m2 s1 s2 _ (r1, r2) (by omega) (by omega) (decide_eq_decide.mpr (by omega)) rfl rfl rfl (beq_eq_false_iff_ne.mpr hz) (by omega) (by omega) ⟨A⟩ ⟨B⟩ (Option.some.inj h)
  · cases h

end Go.Proofs.Ytkhbkhbkcpmiiaa.PReal
