/- The contract of the Go function cadastre/real.Mean (number 16 of the translation), by hand: where its pure function 'real_Mean.f' tells an answer, the call comes to that answer. -/
import Derived.Test.YtkhbkhbkcpmiiaaFlt
import Derived.WalkLawsBesides
import Derived.Laws.FloatArith
import Derived.Laws.Externs
import Derived.Laws.BitsLemmas
import Derived.WalkKit
import Derived.Test.YtkhbkhbkcpmiiaaPRealx0
namespace Go.Proofs.Ytkhbkhbkcpmiiaa.PReal
open Go.RowKit Go.Proofs.YtkhbkhbkcpmiiaaW.PrintWords Go.Proofs.YtkhbkhbkcpmiiaaW.PrintLast Go.Proofs.YtkhbkhbkcpmiiaaW.PrintMore
attribute [local go_sem] max2_int min2_int max_two min_two max_three min_three max_four min_four   -- for this text's walks alone
set_option linter.unusedVariables false
set_option linter.unusedSimpArgs false

/-- A running sum, none where it is a NaN, and one more float. -/
def real_Mean.add (s : Option Nat) (b : Int) : Option Nat := s.bind fun x => Go.Proofs.Ytkhbkhbkcpmiiaa.Flt.D.add x b.toNat
/-- The sum of a row of floats, from nought on, as IEEE 754 has it: none where it is a NaN. -/
def real_Mean.sum (l : List Int) : Option Nat := l.foldl real_Mean.add (some 0)
/-- The mean's word, of the sum and of how many there were. -/
def real_Mean.last (s : Option Nat) (n : Int) : Nat := match s.bind (fun x => Go.Proofs.Ytkhbkhbkcpmiiaa.Flt.D.div x (floatOfInt .f64 n)) with | some r => r | none => 9221120237041090560
def real_Mean.f (l0 : List Int) : Option Int := if l0.length < 1000000 then some (real_Mean.last (real_Mean.sum l0) (l0.length : Int) : Int) else none

/-- How a float in a slot stands to a running sum. -/
def real_Mean.Is (s : Option Nat) (x : Nat) : Prop := match s with
  | some y => x = y ∧ x % 9223372036854775808 ≤ 9218868437227405312
  | none => 9218868437227405312 < x % 9223372036854775808
theorem real_Mean.nan_cut (x y t : Nat) : 9218868437227405312 < Question.cut (.nanBits .f64 x y) t % 9223372036854775808 := by
  unfold Question.cut
  dsimp only
  rw [show (2 : Nat) ^ 63 = 9223372036854775808 by decide, show (2 : Nat) ^ 52 - 1 = 4503599627370495 by decide]
  have := Nat.mod_lt (t / 2) (show 0 < 4503599627370495 by decide)
  have : t % 2 = 0 ∨ t % 2 = 1 := by omega
  rcases this with h | h <;> rw [h] <;> omega
theorem real_Mean.add_nan (x y : Nat) (h : 9218868437227405312 < x % 9223372036854775808) : Go.Proofs.Ytkhbkhbkcpmiiaa.Flt.D.add x y = none := by
  obtain ⟨t, ht⟩ := Go.Proofs.Ytkhbkhbkcpmiiaa.Flt.read_nan h
  unfold Ieee.Format.add
  rw [ht]
  rfl
theorem real_Mean.div_nan (x y : Nat) (h : 9218868437227405312 < x % 9223372036854775808) : Go.Proofs.Ytkhbkhbkcpmiiaa.Flt.D.div x y = none := by
  obtain ⟨t, ht⟩ := Go.Proofs.Ytkhbkhbkcpmiiaa.Flt.read_nan h
  unfold Ieee.Format.div
  rw [ht]
  rfl
theorem real_Mean.nearest_le (neg : Bool) (m : Nat) (p : Int) : Go.Proofs.Ytkhbkhbkcpmiiaa.Flt.D.nearest neg m p % 9223372036854775808 ≤ 9218868437227405312 := by
  unfold Ieee.Format.nearest
  split
  · unfold Ieee.Format.word
    rw [Go.Proofs.Ytkhbkhbkcpmiiaa.Flt.sw]
    split <;> decide
  · simp only [Ieee.Format.word]
    rw [Go.Proofs.Ytkhbkhbkcpmiiaa.Flt.ir, Go.Proofs.Ytkhbkhbkcpmiiaa.Flt.sw]
    generalize ((max (p + (m.log2 : Int) - (Go.Proofs.Ytkhbkhbkcpmiiaa.Flt.D.fractionBits : Int)) Go.Proofs.Ytkhbkhbkcpmiiaa.Flt.D.leastPlace - Go.Proofs.Ytkhbkhbkcpmiiaa.Flt.D.leastPlace).toNat * Go.Proofs.Ytkhbkhbkcpmiiaa.Flt.D.binade + _) = q
    have := Nat.min_le_right q 9218868437227405312
    generalize min q 9218868437227405312 = r at *
    split <;> omega
theorem real_Mean.write_le (d : Ieee.Datum) (h : d.isNaN = false) : Go.Proofs.Ytkhbkhbkcpmiiaa.Flt.D.write d % 9223372036854775808 ≤ 9218868437227405312 := by
  cases d with
  | number s m p => exact real_Mean.nearest_le s m p
  | infinity s =>
    simp only [Ieee.Format.write, Ieee.Format.word]
    rw [Go.Proofs.Ytkhbkhbkcpmiiaa.Flt.ir, Go.Proofs.Ytkhbkhbkcpmiiaa.Flt.sw]
    split <;> decide
  | nan s t => exact absurd h (by simp [Ieee.Datum.isNaN])
theorem real_Mean.sum_num {a b d : Ieee.Datum} (h : a.sum b = some d) : d.isNaN = false := by
  cases a <;> cases b <;> simp only [Ieee.Datum.sum] at h <;> first | (cases h; done) | (split at h <;> first | (cases h; done) | (cases h; rfl)) | (cases h; rfl)
theorem real_Mean.quot_num {n : Nat} {a b d : Ieee.Datum} (h : a.quotient n b = some d) : d.isNaN = false := by
  cases a <;> cases b <;> simp only [Ieee.Datum.quotient] at h <;> first | (cases h; done) | (split at h <;> first | (cases h; done) | (split at h <;> first | (cases h; done) | (cases h; rfl)) | (cases h; rfl)) | (cases h; rfl)
theorem real_Mean.add_le {x y r : Nat} (h : Go.Proofs.Ytkhbkhbkcpmiiaa.Flt.D.add x y = some r) : r % 9223372036854775808 ≤ 9218868437227405312 := by
  unfold Ieee.Format.add at h
  obtain ⟨d, hd, rfl⟩ := Option.map_eq_some_iff.mp h
  exact real_Mean.write_le d (real_Mean.sum_num hd)
theorem real_Mean.div_le {x y r : Nat} (h : Go.Proofs.Ytkhbkhbkcpmiiaa.Flt.D.div x y = some r) : r % 9223372036854775808 ≤ 9218868437227405312 := by
  unfold Ieee.Format.div at h
  obtain ⟨d, hd, rfl⟩ := Option.map_eq_some_iff.mp h
  exact real_Mean.write_le d (real_Mean.quot_num hd)
theorem real_Mean.is_some {s : Option Nat} {x r : Nat} {b : Int} (h : real_Mean.Is s x) (hr : Go.Proofs.Ytkhbkhbkcpmiiaa.Flt.D.add x b.toNat = some r) : real_Mean.Is (real_Mean.add s b) r := by
  cases s with
  | none =>
    rw [real_Mean.add_nan x _ h] at hr
    cases hr
  | some y =>
    obtain ⟨rfl, _⟩ := h
    show real_Mean.Is (Go.Proofs.Ytkhbkhbkcpmiiaa.Flt.D.add x b.toNat) r
    rw [hr]
    exact ⟨rfl, real_Mean.add_le hr⟩
theorem real_Mean.is_none {s : Option Nat} {x : Nat} {b : Int} (h : real_Mean.Is s x) (hr : Go.Proofs.Ytkhbkhbkcpmiiaa.Flt.D.add x b.toNat = none) (t : Nat) : real_Mean.Is (real_Mean.add s b) (Question.cut (.nanBits .f64 x b.toNat) t) := by
  have e : real_Mean.add s b = none := by
    cases s with
    | none => rfl
    | some y =>
      obtain ⟨rfl, _⟩ := h
      exact hr
  rw [e]
  exact real_Mean.nan_cut _ _ _
theorem real_Mean.run_nan (op : BinOp) (hop : op = .add ∨ op = .quo) (x b : Nat) (h : floatBits op .f64 x b = none) (w : World) :
    (binOp op 46 (.float .f64 x) (.float .f64 b)).run Try.prog w = .ok (.float .f64 (Question.cut (.nanBits .f64 x b) (w.tape w.drawn (.nanBits .f64 x b)))) w.drew := by
  unfold floatBits at h
  rcases hop with rfl | rfl <;> simp only at h <;> simp [binOp, Op.floatArith, h, run_choose_drew, Question.forced]
theorem real_Mean.take_succ (l0 : List Int) (i : Nat) (h : i < l0.length) : (l0.take (i + 1)).foldl real_Mean.add (some 0) = real_Mean.add ((l0.take i).foldl real_Mean.add (some 0)) (rd l0 (i : Int)) := by
  have e : rd l0 (i : Int) = l0[i] := by unfold rd; simp [h]
  rw [List.take_succ_eq_append_getElem h, List.foldl_append, e]
  rfl
theorem real_Mean.frombits (x : Int) (w : World) : (callFunc 24 #[.int .u64 x]).run Try.prog w = .ok (.value (.float .f64 x.toNat)) w := by
  rw [run_callFunc_extern Try.func24 (by kernel_rfl) (by kernel_rfl) (by kernel_rfl) (e := Extern.MathFloatBits.float64frombits) (by kernel_rfl)]
  rfl
theorem real_Mean.tobits (x : Nat) (w : World) : (callFunc 38 #[.float .f64 x]).run Try.prog w = .ok (.value (.int .u64 (x : Int))) w := by
  rw [run_callFunc_extern Try.func38 (by kernel_rfl) (by kernel_rfl) (by kernel_rfl) (e := Extern.MathFloatBits.float64bits) (by kernel_rfl)]
  rfl
theorem real_Mean.succ (i : Nat) (h : i < 9223372036854775807) : wrap64 ((i : Int) + 1) = ((i + 1 : Nat) : Int) := by unfold wrap64; omega

set_option maxHeartbeats 8000000 in
set_option maxRecDepth 100000 in
theorem real_Mean.calls (A0 : Option Addr) (c0 : Nat) (l0 : List Int) (r : Int) (w : World) (hr0 : Kd.C (Kd.int .u64) w A0 l0.length l0) (hc0 : l0.length ≤ c0) (h : real_Mean.f l0 = some r) :
    Calls Try.prog 16 #[.slice A0 l0.length c0] w fun e w' => e = .returned (.int .u64 r) ∧ Drawn0 w w' := by
  unfold real_Mean.f at h
  by_cases hlen : l0.length < 1000000
  case neg =>
    rw [if_neg hlen] at h
    cases h
  rw [if_pos hlen] at h
  obtain rfl := Option.some.inj h
  clear h
  have HL := Aside0.mk hlen
  clear hlen
  have HR0 := Aside0.mk hr0
  have HC0 := Aside0.mk hc0
  clear hr0 hc0
  have H0 := Aside0.mk (show real_Mean.Is ((l0.take 0).foldl real_Mean.add (some 0)) 0 from ⟨rfl, by decide⟩)
  have hfb := real_Mean.frombits
  go_enter Try.func16, Try.ntmps16
  go_wp2
  go_loopg [3, 9] l0.length (fun kq v3 v9 w' => ∃ (x i : Nat), v3 = .float .f64 x ∧ v9 = .int .i64 (i : Int) ∧ Aside0 (real_Mean.Is ((l0.take i).foldl real_Mean.add (some 0)) x) ∧ Aside0 (kq + i = l0.length) ∧ Drawn0 w w')
  case atStart => exact ⟨0, 0, rfl, rfl, H0, ⟨rfl⟩, by repeat (first | exact Drawn0.refl _ | apply Drawn0.step)⟩
  case round =>
    clear H0
    obtain ⟨x, i, rfl, rfl, HS, HK, ⟨m1, rfl⟩⟩ := hrel
    by_cases c : i < l0.length
    · have hk := HK.out
      obtain ⟨g, rfl⟩ : ∃ g, gk = g + 1 := ⟨gk - 1, by omega⟩
      have c4 : decide ((i : Int) < (l0.length : Int)) = true := decide_eq_true (by omega)
      have p110 : 0 ≤ (i : Int) := by omega
      have q110 : (i : Int) < (l0.length : Int) := by omega
      obtain ⟨ad110, e110, hx110⟩ := Kd.at_int HR0.out (i : Int) p110 q110
      cases e110
      rw [Int.toNat_natCast] at hx110
      have hT := Aside0.mk (real_Mean.take_succ l0 i c)
      have hC := Aside0.mk c
      clear c hk
      replace p110 := eq_true p110
      replace q110 := eq_true q110
      cases hd : Go.Proofs.Ytkhbkhbkcpmiiaa.Flt.D.add x (rd l0 (i : Int)).toNat with
      | some v =>
        have hN := Aside0.mk (show real_Mean.Is ((l0.take (i + 1)).foldl real_Mean.add (some 0)) v from hT.out ▸ real_Mean.is_some HS.out hd)
        have ha : ∀ w, (binOp .add 46 (.float .f64 x) (.float .f64 (rd l0 (i : Int)).toNat)).run Try.prog w = .ok (.float .f64 v) w := fun w => run_float_arith w .add 46 .f64 _ _ v hd
        clear hd
        go_wp2
        go_roundg g
        case measure => omega
        case rel => exact ⟨v, i + 1, rfl, congrArg (Value.int .i64) (real_Mean.succ i (by have := HL.out; have := hC.out; omega)), hN, ⟨by have := HK.out; omega⟩, by repeat (first | exact Drawn0.refl _ | apply Drawn0.step)⟩
      | none =>
        have hN := Aside0.mk (fun t => show real_Mean.Is ((l0.take (i + 1)).foldl real_Mean.add (some 0)) _ from hT.out ▸ real_Mean.is_none HS.out hd t)
        have ha := real_Mean.run_nan .add (.inl rfl) x (rd l0 (i : Int)).toNat hd
        clear hd
        go_wp2
        go_roundg g
        case measure => omega
        case rel => exact ⟨_, i + 1, rfl, congrArg (Value.int .i64) (real_Mean.succ i (by have := HL.out; have := hC.out; omega)), ⟨hN.out _⟩, ⟨by have := HK.out; omega⟩, by repeat (first | exact Drawn0.refl _ | apply Drawn0.step)⟩
    · have hk := HK.out
      have hi : i = l0.length := by omega
      subst hi
      have c4 : decide ((l0.length : Int) < (l0.length : Int)) = false := decide_eq_false (by omega)
      have hS : real_Mean.Is (real_Mean.sum l0) x := by
        have := HS.out
        rw [List.take_length] at this
        exact this
      clear hk c HS HK
      have htb := real_Mean.tobits
      cases hd : Go.Proofs.Ytkhbkhbkcpmiiaa.Flt.D.div x (floatOfInt .f64 (l0.length : Int)) with
      | some v =>
        have e : real_Mean.last (real_Mean.sum l0) (l0.length : Int) = v := by
          unfold real_Mean.last
          cases hs : real_Mean.sum l0 with
          | none =>
            rw [hs] at hS
            rw [real_Mean.div_nan x _ hS] at hd
            cases hd
          | some y =>
            rw [hs] at hS
            obtain ⟨rfl, _⟩ := hS
            show (match Go.Proofs.Ytkhbkhbkcpmiiaa.Flt.D.div x (floatOfInt .f64 (l0.length : Int)) with | some r => r | none => 9221120237041090560) = v
            rw [hd]
        have he := Aside0.mk e
        have ho : (FloatKind.f64.format.order v v == some .eq) = true := by
          have := Go.Proofs.Ytkhbkhbkcpmiiaa.Flt.order_self (n := v) (real_Mean.div_le hd)
          show (Ieee.Format.order Ieee.double v v == some .eq) = true
          rw [this]
          rfl
        have ha : ∀ w, (binOp .quo 46 (.float .f64 x) (.float .f64 (floatOfInt .f64 (l0.length : Int)))).run Try.prog w = .ok (.float .f64 v) w := fun w => run_float_arith w .quo 46 .f64 _ _ v hd
        clear hd e hS
        go_wp2
        go_ret
        exact ⟨by rw [he.out]; rfl, by repeat (first | exact Drawn0.refl _ | apply Drawn0.step)⟩
      | none =>
        have e : real_Mean.last (real_Mean.sum l0) (l0.length : Int) = 9221120237041090560 := by
          unfold real_Mean.last
          cases hs : real_Mean.sum l0 with
          | none => rfl
          | some y =>
            rw [hs] at hS
            obtain ⟨rfl, _⟩ := hS
            show (match Go.Proofs.Ytkhbkhbkcpmiiaa.Flt.D.div x (floatOfInt .f64 (l0.length : Int)) with | some r => r | none => 9221120237041090560) = _
            rw [hd]
        have he := Aside0.mk e
        have ha := real_Mean.run_nan .quo (.inr rfl) x (floatOfInt .f64 (l0.length : Int)) hd
        have ho : ∀ t, (FloatKind.f64.format.order (Question.cut (.nanBits .f64 x (floatOfInt .f64 (l0.length : Int))) t) (Question.cut (.nanBits .f64 x (floatOfInt .f64 (l0.length : Int))) t) == some .eq) = false := by
          intro t
          have := Go.Proofs.Ytkhbkhbkcpmiiaa.Flt.order_self_nan (real_Mean.nan_cut x (floatOfInt .f64 (l0.length : Int)) t) (Question.cut (.nanBits .f64 x (floatOfInt .f64 (l0.length : Int))) t)
          show (Ieee.Format.order Ieee.double _ _ == some .eq) = false
          rw [this]
          rfl
        clear hd e hS
        go_wp2
        go_ret
        exact ⟨by rw [he.out]; rfl, by repeat (first | exact Drawn0.refl _ | apply Drawn0.step)⟩

end Go.Proofs.Ytkhbkhbkcpmiiaa.PReal
