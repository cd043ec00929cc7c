/- What the document's Round tells: the rung that is nearest to a quotient. -/
import Derived.Test.YtkhbkhbkcpmiiaaRung
import Derived.Test.YtkhbkhbkcpmiiaaPRealx6
namespace Go.Proofs.Ytkhbkhbkcpmiiaa.PReal
open Go.RowKit Go.Proofs.YtkhbkhbkcpmiiaaW.PrintWords Go.Proofs.YtkhbkhbkcpmiiaaW.PrintLast Go.Proofs.YtkhbkhbkcpmiiaaW.PrintMore
set_option linter.unusedVariables false
set_option linter.unusedSimpArgs false

theorem rhe_bounds (X Y : Nat) (hY : 0 < Y) (h : X < Y * 9007199254740992) : rhe X Y ≤ 9007199254740992 ∧ (Y * 4503599627370496 ≤ X → 4503599627370496 ≤ rhe X Y) := by
  have h1 : X / Y < 9007199254740992 := by
    rw [Nat.div_lt_iff_lt_mul hY, Nat.mul_comm]
    exact h
  have h2 : Y * 4503599627370496 ≤ X → 4503599627370496 ≤ X / Y := by
    intro g
    rw [Nat.le_div_iff_mul_le hY, Nat.mul_comm]
    exact g
  unfold rhe
  constructor
  · split
    · omega
    · split <;> omega
  · intro g
    have := h2 g
    split
    · omega
    · split <;> omega
theorem round_j6 (e f : Nat) (he : 1 ≤ e) (he1 : e < 1000000) (hf : f ≤ 9007199254740992) (hf1 : f < 9007199254740992) (hge : e = 1 ∨ 4503599627370496 ≤ f) :
    Ev (fun k => cadastreref02_Round.j6 k (e : Int) (f : Int)) ((min ((e - 1) * 4503599627370496 + f) 9218868437227405312 : Nat) : Int) := by
  refine Ev.step (f := fun k => some _) (fun k => ?_) (Ev.now _)
  simp only [cadastreref02_Round.j6]
  by_cases c : e ≥ 2047
  · rw [if_pos (by omega), Nat.min_eq_right (by omega)]
    rfl
  · rw [if_neg (by omega), Nat.min_eq_left (by omega)]
    by_cases g : f < 4503599627370496
    · rw [if_pos (by omega), show e = 1 by omega]
      simp
    · rw [if_neg (by omega), bwuN (n := (e : Int)) (by omega) (by omega), bwuN (n := (e : Int) * 4503599627370496) (by omega) (by omega), bwuN (n := (e : Int) * 4503599627370496 + (f : Int)) (by omega) (by omega), bwuN (by omega) (by omega)]
      congr 1
      omega
theorem round_j5 (X Y e : Nat) (hY : 0 < Y) (he : 1 ≤ e) (he1 : e < 999999) (h : X < Y * 9007199254740992) (hge : e = 1 ∨ Y * 4503599627370496 ≤ X) (lX : (big X).length < 900000) (lY : (big Y).length < 900000) :
    Ev (fun k => cadastreref02_Round.j5 k (big X) (big Y) (e : Int)) ((min ((e - 1) * 4503599627370496 + rhe X Y) 9218868437227405312 : Nat) : Int) := by
  obtain ⟨b1, b2⟩ := rhe_bounds X Y hY h
  have hev := bigeven_ok X Y lX lY hY
  generalize rhe X Y = f at *
  have hs := bigsmall_ok f (by rw [big_len_le, show (2 : Nat) ^ 63 = 9223372036854775808 by decide]; omega)
  by_cases c : f = 9007199254740992
  · subst c
    have hj := round_j6 (e + 1) 4503599627370496 (by omega) (by omega) (by omega) (by omega) (by omega)
    have e1 : (e + 1 - 1) * 4503599627370496 + 4503599627370496 = (e - 1) * 4503599627370496 + 9007199254740992 := by omega
    rw [e1] at hj
    refine Ev.step (f := fun k => (cadastreref02_Even.f k (big X) (big Y)).bind fun t317 => ((cadastreref02_Small.f k t317).bind fun t320 => (if t320 ≥ 9007199254740992 then (cadastreref02_Round.j6 k (wrap64 ((e : Int) + 1)) (IntKind.u64.wrap (Int.tdiv t320 2))) else (cadastreref02_Round.j6 k (e : Int) t320)))) (fun k => ?_) (Ev.bind hev (Ev.bind hs ?_))
    · rw [cadastreref02_Round.j5]
    · refine Ev.congr (fun k => ?_) hj
      rw [if_pos (by omega), show wrap64 ((e : Int) + 1) = ((e + 1 : Nat) : Int) by rw [bwin (by omega) (by omega)]; omega, show IntKind.u64.wrap (Int.tdiv ((9007199254740992 : Nat) : Int) 2) = ((4503599627370496 : Nat) : Int) by decide]
  · have hj := round_j6 e f he (by omega) b1 (by omega) (by omega)
    refine Ev.step (f := fun k => (cadastreref02_Even.f k (big X) (big Y)).bind fun t317 => ((cadastreref02_Small.f k t317).bind fun t320 => (if t320 ≥ 9007199254740992 then (cadastreref02_Round.j6 k (wrap64 ((e : Int) + 1)) (IntKind.u64.wrap (Int.tdiv t320 2))) else (cadastreref02_Round.j6 k (e : Int) t320)))) (fun k => ?_) (Ev.bind hev (Ev.bind hs ?_))
    · rw [cadastreref02_Round.j5]
    · refine Ev.congr (fun k => ?_) hj
      rw [if_neg (by omega)]
/-- X / Y times two to e stands for a / d times two to 1075. -/
def Rel (a d X Y e : Nat) : Prop := X * d * 2 ^ e = a * Y * 2 ^ 1075
theorem Rel.upX {a d X Y e : Nat} (h : Rel a d X Y (e + 1)) : Rel a d (X * 2) Y e := by
  unfold Rel at *
  generalize 2 ^ 1075 = T at *
  rw [← h, Nat.pow_succ]
  ac_rfl
theorem Rel.upXn {a d X Y e n : Nat} (h : Rel a d X Y (e + n)) : Rel a d (X * 2 ^ n) Y e := by
  unfold Rel at *
  generalize 2 ^ 1075 = T at *
  rw [← h, Nat.pow_add]
  ac_rfl
theorem Rel.upYn {a d X Y e : Nat} (n : Nat) (h : Rel a d X Y e) : Rel a d X (Y * 2 ^ n) (e + n) := by
  unfold Rel at *
  generalize 2 ^ 1075 = T at *
  rw [Nat.pow_add, ← Nat.mul_assoc, h]
  ac_rfl
theorem up_len (m n : Nat) : (big (m * 2 ^ n)).length ≤ (big m).length + n := by
  rw [big_len_le, Nat.pow_add]
  exact Nat.mul_lt_mul_of_pos_right ((big_len_le m _).mp (Nat.le_refl _)) (Nat.two_pow_pos n)
theorem up_len_eq (m n : Nat) (h : m ≠ 0) : (big (m * 2 ^ n)).length = (big m).length + n := by
  rw [← big_up n m h, List.length_append, List.length_replicate, Nat.add_comm]
theorem up_52 (Y : Nat) (hl : (big Y).length < 1000000) : Ev (fun k => cadastreref02_Up.f k (big Y) 52) (big (Y * 4503599627370496)) := by
  have h := bigup_ok Y 52 (by decide) hl
  rw [show (2 : Nat) ^ 52 = 4503599627370496 by decide] at h
  exact h
theorem up_53 (Y : Nat) (hl : (big Y).length < 1000000) : Ev (fun k => cadastreref02_Up.f k (big Y) 53) (big (Y * 9007199254740992)) := by
  have h := bigup_ok Y 53 (by decide) hl
  rw [show (2 : Nat) ^ 53 = 9007199254740992 by decide] at h
  exact h
theorem up_1 (Y : Nat) (hl : (big Y).length < 1000000) : Ev (fun k => cadastreref02_Up.f k (big Y) 1) (big (Y * 2)) := by
  have h := bigup_ok Y 1 (by decide) hl
  rw [Nat.pow_one] at h
  exact h
theorem len_52 (Y : Nat) : (big (Y * 4503599627370496)).length ≤ (big Y).length + 52 := by
  have := up_len Y 52
  rw [show (2 : Nat) ^ 52 = 4503599627370496 by decide] at this
  exact this
theorem len_53 (Y : Nat) : (big (Y * 9007199254740992)).length ≤ (big Y).length + 53 := by
  have := up_len Y 53
  rw [show (2 : Nat) ^ 53 = 9007199254740992 by decide] at this
  exact this
theorem len_1 (Y : Nat) : (big (Y * 2)).length ≤ (big Y).length + 1 := by
  have := up_len Y 1
  rw [Nat.pow_one] at this
  exact this
theorem round_done (a d X Y e : Nat) (hY : 0 < Y) (he : 1 ≤ e) (he1 : e < 900000) (hI : Rel a d X Y e) (h : X < Y * 9007199254740992) (hge : e = 1 ∨ Y * 4503599627370496 ≤ X)
    (lX : (big X).length < 900000) (lY : (big Y).length < 900000) :
    ∃ r : Nat, IsRung a d r ∧ Ev (fun k => cadastreref02_Round.j5 k (big X) (big Y) (e : Int)) (r : Int) :=
  ⟨_, ⟨e, X, Y, he, hY, hI, h, hge, rfl⟩, round_j5 X Y e hY he (by omega) h hge lX lY⟩
theorem round_stop (a d X Y e : Nat) (hY : 0 < Y) (he : 1 ≤ e) (he1 : e < 900000) (hI : Rel a d X Y e) (h : X < Y * 9007199254740992) (hge : e = 1 ∨ Y * 4503599627370496 ≤ X)
    (lX : (big X).length < 900000) (lY : (big Y).length < 900000) :
    ∃ r : Nat, IsRung a d r ∧ Ev (fun k => cadastreref02_Round.l1 k (big X) (big Y) (e : Int)) (r : Int) := by
  obtain ⟨r, hr, hj⟩ := round_done a d X Y e hY he he1 hI h hge lX lY
  refine ⟨r, hr, ?_⟩
  by_cases c : e = 1
  · refine Ev.step (f := fun k => cadastreref02_Round.j5 k (big X) (big Y) (e : Int)) (fun k => ?_) hj
    rw [cadastreref02_Round.l1, if_neg (by omega)]
  · have l52 := len_52 Y
    obtain ⟨c', hc, hc1, hc2⟩ := bigcmp_ok X (Y * 4503599627370496) (by omega) (by omega)
    refine Ev.step (f := fun k => (cadastreref02_Up.f k (big Y) 52).bind fun t310 => ((cadastreref02_Cmp.f k (big X) t310).bind fun t313 => (if t313 < 0 then ((cadastreref02_Up.f k (big X) 1).bind fun t314 => (cadastreref02_Round.l1 k t314 (big Y) (wrap64 ((e : Int) - 1)))) else (cadastreref02_Round.j5 k (big X) (big Y) (e : Int))))) (fun k => ?_) (Ev.bind (up_52 Y (by omega)) (Ev.bind hc ?_))
    · rw [cadastreref02_Round.l1, if_pos (by omega)]
    · refine Ev.congr (fun k => ?_) hj
      rw [if_neg (by omega)]
theorem round_l1 (a d : Nat) : ∀ (n X Y e : Nat), 0 < Y → 1 ≤ e → e < 900000 → Rel a d X Y e → X < Y * 9007199254740992 → Y * 4503599627370496 ≤ X * 2 ^ n ∨ e ≤ n + 1 → (big X).length + n < 800000 → (big Y).length < 800000 →
    ∃ r : Nat, IsRung a d r ∧ Ev (fun k => cadastreref02_Round.l1 k (big X) (big Y) (e : Int)) (r : Int) := by
  intro n
  induction n with
  | zero =>
    intro X Y e hY he he1 hI hlt hge lX lY
    refine round_stop a d X Y e hY he he1 hI hlt ?_ (by omega) (by omega)
    rcases hge with h | h
    · exact .inr (by simpa using h)
    · exact .inl (by omega)
  | succ n ih =>
    intro X Y e hY he he1 hI hlt hge lX lY
    by_cases c : e = 1 ∨ Y * 4503599627370496 ≤ X
    · exact round_stop a d X Y e hY he he1 hI hlt c (by omega) (by omega)
    · obtain ⟨e, rfl⟩ : ∃ e', e = e' + 1 := ⟨e - 1, by omega⟩
      have hpow : X * 2 * 2 ^ n = X * 2 ^ (n + 1) := by rw [Nat.pow_succ]; ac_rfl
      have l1 := len_1 X
      have l52 := len_52 Y
      obtain ⟨r, hr, hl⟩ := ih (X * 2) Y e hY (by omega) (by omega) hI.upX (by omega) (by rw [hpow]; omega) (by omega) lY
      refine ⟨r, hr, ?_⟩
      obtain ⟨c', hc, hc1, hc2⟩ := bigcmp_ok X (Y * 4503599627370496) (by omega) (by omega)
      refine Ev.step (f := fun k => (cadastreref02_Up.f k (big Y) 52).bind fun t310 => ((cadastreref02_Cmp.f k (big X) t310).bind fun t313 => (if t313 < 0 then ((cadastreref02_Up.f k (big X) 1).bind fun t314 => (cadastreref02_Round.l1 k t314 (big Y) (wrap64 (((e + 1 : Nat) : Int) - 1)))) else (cadastreref02_Round.j5 k (big X) (big Y) ((e + 1 : Nat) : Int))))) (fun k => ?_) (Ev.bind (up_52 Y (by omega)) (Ev.bind hc ?_))
      · rw [cadastreref02_Round.l1, if_pos (by omega)]
      · refine Ev.congr (fun k => if_pos (by omega)) (Ev.bind (up_1 X (by omega)) ?_)
        rw [show wrap64 (((e + 1 : Nat) : Int) - 1) = (e : Int) by rw [bwin (by omega) (by omega)]; omega]
        exact hl
theorem round_l0 (a d m : Nat) : ∀ (n X Y e : Nat), 0 < Y → 1 ≤ e → e + n < 800000 → Rel a d X Y e → X < Y * 9007199254740992 * 2 ^ n → Y * 4503599627370496 ≤ X * 2 ^ m ∨ e ≤ m + 1 → (big X).length + m < 700000 → (big Y).length + n < 700000 →
    ∃ r : Nat, IsRung a d r ∧ Ev (fun k => cadastreref02_Round.l0 k (big X) (big Y) (e : Int)) (r : Int) := by
  intro n
  induction n with
  | zero =>
    intro X Y e hY he he1 hI hlt hge lX lY
    rw [Nat.pow_zero, Nat.mul_one] at hlt
    obtain ⟨r, hr, hl⟩ := round_l1 a d m X Y e hY he (by omega) hI hlt hge (by omega) (by omega)
    refine ⟨r, hr, ?_⟩
    have l53 := len_53 Y
    obtain ⟨c', hc, hc1, hc2⟩ := bigcmp_ok X (Y * 9007199254740992) (by omega) (by omega)
    refine Ev.step (f := fun k => (cadastreref02_Up.f k (big Y) 53).bind fun t303 => ((cadastreref02_Cmp.f k (big X) t303).bind fun t306 => (if t306 ≥ 0 then ((cadastreref02_Up.f k (big Y) 1).bind fun t307 => (cadastreref02_Round.l0 k (big X) t307 (wrap64 ((e : Int) + 1)))) else (cadastreref02_Round.l1 k (big X) (big Y) (e : Int))))) (fun k => ?_) (Ev.bind (up_53 Y (by omega)) (Ev.bind hc ?_))
    · rw [cadastreref02_Round.l0]
    · refine Ev.congr (fun k => ?_) hl
      rw [if_neg (by omega)]
  | succ n ih =>
    intro X Y e hY he he1 hI hlt hge lX lY
    have l53 := len_53 Y
    have l1 := len_1 Y
    obtain ⟨c', hc, hc1, hc2⟩ := bigcmp_ok X (Y * 9007199254740992) (by omega) (by omega)
    by_cases c : X < Y * 9007199254740992
    · obtain ⟨r, hr, hl⟩ := round_l1 a d m X Y e hY he (by omega) hI c hge (by omega) (by omega)
      refine ⟨r, hr, ?_⟩
      refine Ev.step (f := fun k => (cadastreref02_Up.f k (big Y) 53).bind fun t303 => ((cadastreref02_Cmp.f k (big X) t303).bind fun t306 => (if t306 ≥ 0 then ((cadastreref02_Up.f k (big Y) 1).bind fun t307 => (cadastreref02_Round.l0 k (big X) t307 (wrap64 ((e : Int) + 1)))) else (cadastreref02_Round.l1 k (big X) (big Y) (e : Int))))) (fun k => ?_) (Ev.bind (up_53 Y (by omega)) (Ev.bind hc ?_))
      · rw [cadastreref02_Round.l0]
      · refine Ev.congr (fun k => ?_) hl
        rw [if_neg (by omega)]
    · have hI2 := hI.upYn 1
      rw [Nat.pow_one] at hI2
      have hp := Nat.two_pow_pos m
      have hx : X ≤ X * 2 ^ m := Nat.le_mul_of_pos_right _ hp
      have hpow : Y * 2 * 9007199254740992 * 2 ^ n = Y * 9007199254740992 * 2 ^ (n + 1) := by rw [Nat.pow_succ]; ac_rfl
      obtain ⟨r, hr, hl⟩ := ih X (Y * 2) (e + 1) (by omega) (by omega) (by omega) hI2 (by rw [hpow]; exact hlt) (.inl (by omega)) lX (by omega)
      refine ⟨r, hr, ?_⟩
      refine Ev.step (f := fun k => (cadastreref02_Up.f k (big Y) 53).bind fun t303 => ((cadastreref02_Cmp.f k (big X) t303).bind fun t306 => (if t306 ≥ 0 then ((cadastreref02_Up.f k (big Y) 1).bind fun t307 => (cadastreref02_Round.l0 k (big X) t307 (wrap64 ((e : Int) + 1)))) else (cadastreref02_Round.l1 k (big X) (big Y) (e : Int))))) (fun k => ?_) (Ev.bind (up_53 Y (by omega)) (Ev.bind hc ?_))
      · rw [cadastreref02_Round.l0]
      · refine Ev.congr (fun k => if_pos (by omega)) (Ev.bind (up_1 Y (by omega)) ?_)
        rw [show wrap64 ((e : Int) + 1) = ((e + 1 : Nat) : Int) by rw [bwin (by omega) (by omega)]; omega]
        exact hl
theorem big_bounds (n : Nat) (h : n ≠ 0) : ∃ l, (big n).length = l + 1 ∧ 2 ^ l ≤ n ∧ n < 2 ^ (l + 1) := by
  have h1 := big_len_pos h
  have h2 := (big_len_le n (big n).length).mp (Nat.le_refl _)
  have h3 : (big n).length ≠ 0 := fun h4 => h (big_len_zero.mp h4)
  refine ⟨(big n).length - 1, by omega, h1, ?_⟩
  rw [show (big n).length - 1 + 1 = (big n).length by omega]
  exact h2
theorem round_j2 (a d X Y e : Nat) (hX : X ≠ 0) (hY : Y ≠ 0) (he : 1 ≤ e) (he1 : e < 700000) (hI : Rel a d X Y e) (h1 : (big X).length ≤ (big Y).length + 53) (h2 : (big Y).length + 51 ≤ (big X).length ∨ e = 1)
    (lX : (big X).length < 600000) (lY : (big Y).length < 600000) :
    ∃ r : Nat, IsRung a d r ∧ Ev (fun k => cadastreref02_Round.j2 k (big X) (big Y) (e : Int)) (r : Int) := by
  obtain ⟨x, x1, x2, x3⟩ := big_bounds X hX
  obtain ⟨y, y1, y2, y3⟩ := big_bounds Y hY
  have g1 : X < Y * 9007199254740992 * 2 ^ 1 := by
    rw [Nat.pow_one]
    have p1 := Nat.pow_le_pow_right (show 0 < 2 by decide) (show x + 1 ≤ y + 54 by omega)
    rw [Nat.pow_add 2 y 54, show (2 : Nat) ^ 54 = 18014398509481984 by decide] at p1
    omega
  have g2 : Y * 4503599627370496 ≤ X * 2 ^ 2 ∨ e ≤ 2 + 1 := by
    rw [show (2 : Nat) ^ 2 = 4 by decide]
    clear hI
    rcases h2 with h2 | h2
    · left
      have p1 := Nat.pow_le_pow_right (show 0 < 2 by decide) (show y + 51 ≤ x by omega)
      rw [Nat.pow_add 2 y 51, show (2 : Nat) ^ 51 = 2251799813685248 by decide] at p1
      rw [Nat.pow_succ] at y3
      exact Nat.le_trans (Nat.mul_le_mul_right _ (Nat.le_of_lt y3)) (Nat.le_trans (Nat.le_of_eq (by rw [Nat.mul_assoc, Nat.mul_assoc, show 2 * 4503599627370496 = 2251799813685248 * 4 by decide])) (Nat.mul_le_mul_right 4 (Nat.le_trans p1 x2)))
    · right
      omega
  obtain ⟨r, hr, hl⟩ := round_l0 a d 2 1 X Y e (by omega) he (by omega) hI g1 g2 (by omega) (by omega)
  exact ⟨r, hr, Ev.step (f := fun k => cadastreref02_Round.l0 k (big X) (big Y) (e : Int)) (fun k => by rw [cadastreref02_Round.j2]) hl⟩
theorem round_j0 (a d Y t : Nat) (ha : a ≠ 0) (hY : Y ≠ 0) (ht : t < 100000) (hI : Rel a d a Y (1075 + t)) (h1 : (big a).length ≤ (big Y).length + 53)
    (lX : (big a).length < 300000) (lY : (big Y).length < 300000) :
    ∃ r : Nat, IsRung a d r ∧ Ev (fun k => cadastreref02_Round.j0 k (big a) (big Y) ((1075 + t : Nat) : Int)) (r : Int) := by
  have ew : wrap64 (((1075 + t : Nat) : Int) - 1) = ((1074 + t : Nat) : Int) := by rw [bwin (by omega) (by omega)]; omega
  have sw : wrap64 ((wrap64 (51 - ((big a).length : Int))) + ((big Y).length : Int)) = 51 - ((big a).length : Int) + ((big Y).length : Int) := by rw [bwin (n := 51 - ((big a).length : Int)) (by omega) (by omega), bwin (by omega) (by omega)]
  by_cases c : (big Y).length + 51 ≤ (big a).length
  · obtain ⟨r, hr, hl⟩ := round_j2 a d a Y (1075 + t) ha hY (by omega) (by omega) hI h1 (.inl c) (by omega) (by omega)
    refine ⟨r, hr, ?_⟩
    refine Ev.step (f := fun k => cadastreref02_Round.j1 k (big a) (big Y) ((1075 + t : Nat) : Int) (51 - ((big a).length : Int) + ((big Y).length : Int))) (fun k => ?_) ?_
    · rw [cadastreref02_Round.j0, ew, sw, if_neg (by omega)]
    · refine Ev.step (f := fun k => cadastreref02_Round.j2 k (big a) (big Y) ((1075 + t : Nat) : Int)) (fun k => ?_) hl
      rw [cadastreref02_Round.j1, if_neg (by omega)]
  · have key : ∀ n : Nat, 0 < n → n ≤ 1074 + t → (big a).length + n ≤ (big Y).length + 51 → ((big a).length + n = (big Y).length + 51 ∨ n = 1074 + t) →
        ∃ r : Nat, IsRung a d r ∧ Ev (fun k => cadastreref02_Round.j1 k (big a) (big Y) ((1075 + t : Nat) : Int) (n : Int)) (r : Int) := by
      intro n hn0 hn1 hn2 hn3
      have hI2 : Rel a d (a * 2 ^ n) Y (1075 + t - n) := by
        refine Rel.upXn ?_
        rw [show 1075 + t - n + n = 1075 + t by omega]
        exact hI
      have hl := up_len_eq a n ha
      have hp := Nat.two_pow_pos n
      obtain ⟨r, hr, hj⟩ := round_j2 a d (a * 2 ^ n) Y (1075 + t - n) (Nat.mul_ne_zero ha (by omega)) hY (by omega) (by omega) hI2 (by omega) (by omega) (by omega) (by omega)
      refine ⟨r, hr, ?_⟩
      refine Ev.step (f := fun k => (cadastreref02_Up.f k (big a) (n : Int)).bind fun t300 => cadastreref02_Round.j2 k t300 (big Y) (wrap64 (((1075 + t : Nat) : Int) - (n : Int)))) (fun k => ?_) (Ev.bind (bigup_ok a n (by omega) (by omega)) ?_)
      · rw [cadastreref02_Round.j1, if_pos (by omega)]
      · rw [show wrap64 (((1075 + t : Nat) : Int) - (n : Int)) = ((1075 + t - n : Nat) : Int) by rw [bwin (by omega) (by omega)]; omega]
        exact hj
    by_cases g : 1074 + t < 51 + (big Y).length - (big a).length
    · obtain ⟨r, hr, hj⟩ := key (1074 + t) (by omega) (by omega) (by omega) (.inr rfl)
      refine ⟨r, hr, ?_⟩
      refine Ev.step (f := fun k => cadastreref02_Round.j1 k (big a) (big Y) ((1075 + t : Nat) : Int) ((1074 + t : Nat) : Int)) (fun k => ?_) hj
      rw [cadastreref02_Round.j0, ew, sw, if_pos (by omega)]
    · obtain ⟨r, hr, hj⟩ := key (51 + (big Y).length - (big a).length) (by omega) (by omega) (by omega) (.inl (by omega))
      refine ⟨r, hr, ?_⟩
      refine Ev.step (f := fun k => cadastreref02_Round.j1 k (big a) (big Y) ((1075 + t : Nat) : Int) ((51 + (big Y).length - (big a).length : Nat) : Int)) (fun k => ?_) hj
      rw [cadastreref02_Round.j0, ew, sw, if_neg (by omega), show ((51 + (big Y).length - (big a).length : Nat) : Int) = 51 - ((big a).length : Int) + ((big Y).length : Int) by omega]
/-- The document's Round tells the nearest rung. -/
theorem round_ok (a d : Nat) (ha : a ≠ 0) (hd : d ≠ 0) (la : (big a).length < 50000) (ld : (big d).length < 50000) :
    ∃ r : Nat, IsRung a d r ∧ Ev (fun k => cadastreref02_Round.f k (big a) (big d)) (r : Int) := by
  have hI : Rel a d a d 1075 := rfl
  have w1 : wrap64 ((wrap64 (((big a).length : Int) - ((big d).length : Int))) - 53) = ((big a).length : Int) - ((big d).length : Int) - 53 := by rw [bwin (n := ((big a).length : Int) - ((big d).length : Int)) (by omega) (by omega), bwin (by omega) (by omega)]
  by_cases c : (big d).length + 53 < (big a).length
  · obtain ⟨t, ht⟩ : ∃ t, (big a).length = (big d).length + 53 + t := ⟨(big a).length - (big d).length - 53, by omega⟩
    have hl := up_len_eq d t hd
    have hp := Nat.two_pow_pos t
    obtain ⟨r, hr, hj⟩ := round_j0 a d (d * 2 ^ t) t ha (Nat.mul_ne_zero hd (by omega)) (by omega) (hI.upYn t) (by omega) (by omega) (by omega)
    refine ⟨r, hr, ?_⟩
    refine Ev.congr (f := fun k => (cadastreref02_Up.f k (big d) (t : Int)).bind fun t297 => cadastreref02_Round.j0 k (big a) t297 (wrap64 (1075 + (t : Int)))) (fun k => ?_) (Ev.bind (bigup_ok d t (by omega) (by omega)) ?_)
    · unfold cadastreref02_Round.f
      rw [w1, if_pos (by omega), show ((big a).length : Int) - ((big d).length : Int) - 53 = (t : Int) by omega]
    · rw [show wrap64 (1075 + (t : Int)) = ((1075 + t : Nat) : Int) by rw [bwin (by omega) (by omega)]; omega]
      exact hj
  · obtain ⟨r, hr, hj⟩ := round_j0 a d d 0 ha hd (by omega) hI (by omega) (by omega) (by omega)
    refine ⟨r, hr, ?_⟩
    refine Ev.congr (fun k => ?_) hj
    unfold cadastreref02_Round.f
    rw [w1, if_neg (by omega), show ((1075 + 0 : Nat) : Int) = 1075 by decide]
end Go.Proofs.Ytkhbkhbkcpmiiaa.PReal
