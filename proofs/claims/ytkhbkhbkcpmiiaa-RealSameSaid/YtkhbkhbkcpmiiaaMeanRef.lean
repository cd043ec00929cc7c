/- What the document's Add, By and Mean of floats tell: what IEEE 754's sums and quotients are. -/
import Derived.Test.YtkhbkhbkcpmiiaaMeanBase
import Derived.Test.YtkhbkhbkcpmiiaaRefRound
import Derived.Test.YtkhbkhbkcpmiiaaGrealMean
import Derived.Test.YtkhbkhbkcpmiiaaPRealx7
import Derived.Test.YtkhbkhbkcpmiiaaPRealx7
import Derived.Test.YtkhbkhbkcpmiiaaPRealx8
import Derived.Test.YtkhbkhbkcpmiiaaPRealx6
namespace Go.Proofs.Ytkhbkhbkcpmiiaa.PReal
open Go.RowKit Go.Proofs.YtkhbkhbkcpmiiaaW.PrintWords Go.Proofs.YtkhbkhbkcpmiiaaW.PrintLast Go.Proofs.YtkhbkhbkcpmiiaaW.PrintMore Go.Proofs.Ytkhbkhbkcpmiiaa.Flt
set_option linter.unusedVariables false
set_option linter.unusedSimpArgs false

theorem kind_ok (n : Nat) (hn : n < 18446744073709551616) : cadastreref02_Kind.f (n : Int) = some (if n % 9223372036854775808 < 9218868437227405312 then 0 else if n % 9223372036854775808 = 9218868437227405312 then 1 else 2) := by
  unfold cadastreref02_Kind.f
  rw [Int.tmod_eq_emod_of_nonneg (by omega), Int.tmod_eq_emod_of_nonneg (by omega)]
  by_cases c : n % 9223372036854775808 < 9218868437227405312
  · rw [if_neg (by omega), if_pos c]
  · rw [if_pos (by omega), if_neg c]
    by_cases g : n % 9223372036854775808 = 9218868437227405312
    · rw [if_pos (by omega), if_pos g]
    · rw [if_neg (by omega), if_neg g]
theorem parts_ok (n : Nat) (hn : n < 18446744073709551616) (h : n % 9223372036854775808 < 9218868437227405312) : cadastreref02_Parts.f (n : Int) = some (sg n, (pE n : Int), (pM n : Int), true) := by
  have w1 : wrap64 ((n : Int) / 4503599627370496) = ((n / 4503599627370496 : Nat) : Int) := by rw [bwin (by omega) (by omega)]; omega
  have t1 : Int.tmod ((n / 4503599627370496 : Nat) : Int) 2048 = ((n / 4503599627370496 % 2048 : Nat) : Int) := by rw [Int.tmod_eq_emod_of_nonneg (by omega)]; omega
  have t2 : Int.tmod (n : Int) 4503599627370496 = ((n % 4503599627370496 : Nat) : Int) := by rw [Int.tmod_eq_emod_of_nonneg (by omega)]; omega
  have s1 : ((n : Int) / 9223372036854775808 == 1) = sg n := by
    unfold sg
    rw [Bool.eq_iff_iff, beq_iff_eq, beq_iff_eq]
    omega
  unfold cadastreref02_Parts.f
  rw [w1, t1, t2, s1, if_neg (by omega)]
  unfold pE pM
  by_cases c : n % 9223372036854775808 < 4503599627370496
  · rw [if_pos (by omega), if_pos c, if_pos c]
    congr 4
    omega
  · have w2 : IntKind.u64.wrap (((n % 4503599627370496 : Nat) : Int) + 4503599627370496) = ((n % 4503599627370496 + 4503599627370496 : Nat) : Int) := by rw [bwuN (by omega) (by omega)]; omega
    rw [if_neg (by omega), if_neg c, if_neg c, w2]
    have e1 : n / 4503599627370496 % 2048 = n % 9223372036854775808 / 4503599627370496 := by omega
    have e2 : n % 4503599627370496 + 4503599627370496 = 4503599627370496 + n % 9223372036854775808 % 4503599627370496 := by omega
    rw [e1, e2]
theorem parts_no (n : Nat) (hn : n < 18446744073709551616) (h : ¬ n % 9223372036854775808 < 9218868437227405312) : cadastreref02_Parts.f (n : Int) = some (false, 0, 0, false) := by
  unfold cadastreref02_Parts.f
  rw [bwin (by omega) (by omega), Int.tmod_eq_emod_of_nonneg (by omega), if_pos (by omega)]
theorem IsRung.le {a d r : Nat} (h : IsRung a d r) : r ≤ 9218868437227405312 := by
  obtain ⟨_, _, _, _, _, _, _, _, rfl⟩ := h
  exact Nat.min_le_right _ _
theorem scaled_ok (X low n : Nat) (hX : X ≠ 0) (hn : n ≠ 0) (hn1 : n < 18446744073709551616) (hl : low < 3000) (lX : (big X).length < 10000) :
    ∃ r : Nat, IsRung (X * 2 ^ (low - 1075)) (n * 2 ^ (1075 - low)) r ∧ Ev (fun k => cadastreref02_scaled.f k (big X) (low : Int) (n : Int)) (r : Int) := by
  have o1 := of_ok n hn1
  have l1 : (big n).length ≤ 64 := (big_len_le n 64).mpr hn1
  by_cases c : 1075 ≤ low
  · have hl := up_len X (low - 1075)
    have hp := Nat.two_pow_pos (low - 1075)
    obtain ⟨r, hr, hv⟩ := round_ok (X * 2 ^ (low - 1075)) n (Nat.mul_ne_zero hX (by omega)) hn (by omega) (by omega)
    refine ⟨r, ?_, ?_⟩
    · rw [show 1075 - low = 0 by omega, Nat.pow_zero, Nat.mul_one]
      exact hr
    · refine Ev.congr (f := fun k => (cadastreref02_Up.f k (big X) ((low - 1075 : Nat) : Int)).bind fun t347 => ((cadastreref02_Of.f k (n : Int)).bind fun t350 => ((cadastreref02_Round.f k t347 t350).bind fun t353 => some t353))) (fun k => ?_) (Ev.bind (bigup_ok X (low - 1075) (by omega) (by omega)) (Ev.bind o1 (Ev.bind hv (Ev.now _))))
      unfold cadastreref02_scaled.f
      rw [if_pos (by omega), show wrap64 ((low : Int) - 1075) = ((low - 1075 : Nat) : Int) by rw [bwin (by omega) (by omega)]; omega]
  · have hl := up_len n (1075 - low)
    have hp := Nat.two_pow_pos (1075 - low)
    obtain ⟨r, hr, hv⟩ := round_ok X (n * 2 ^ (1075 - low)) hX (Nat.mul_ne_zero hn (by omega)) (by omega) (by omega)
    refine ⟨r, ?_, ?_⟩
    · rw [show low - 1075 = 0 by omega, Nat.pow_zero, Nat.mul_one]
      exact hr
    · refine Ev.congr (f := fun k => (cadastreref02_Of.f k (n : Int)).bind fun t354 => ((cadastreref02_Up.f k t354 ((1075 - low : Nat) : Int)).bind fun t357 => ((cadastreref02_Round.f k (big X) t357).bind fun t360 => some t360))) (fun k => ?_) (Ev.bind o1 (Ev.bind (bigup_ok n (1075 - low) (by omega) (by omega)) (Ev.bind hv (Ev.now _))))
      unfold cadastreref02_scaled.f
      rw [if_neg (by omega), show wrap64 (1075 - (low : Int)) = ((1075 - low : Nat) : Int) by rw [bwin (by omega) (by omega)]; omega]
theorem add_j3 (z : Bool) : Ev (fun k => cadastreref02_Add.j3 k z) ((if z then 9223372036854775808 else 0 : Nat) : Int) := by
  refine Ev.step (f := fun k => some _) (fun k => ?_) (Ev.now _)
  rw [cadastreref02_Add.j3]
  cases z <;> rfl
theorem add_j2 (s t neg : Bool) (low mag : Nat) (hl : low < 3000) (lm : (big mag).length < 10000) : Ev (fun k => cadastreref02_Add.j2 k s t (low : Int) (big mag) neg) (outW (s && t) neg mag low : Int) := by
  unfold outW
  by_cases c : mag = 0
  · rw [if_pos c]
    refine Ev.step (f := fun k => cadastreref02_Add.j3 k (s && t)) (fun k => ?_) (add_j3 (s && t))
    rw [cadastreref02_Add.j2, c, if_pos (by rw [big_zero]; rfl)]
    cases s
    · rw [if_neg (by decide)]
      rfl
    · rw [if_pos rfl, Bool.true_and]
  · rw [if_neg c]
    have hlen : (big mag).length ≠ 0 := fun h => c (big_len_zero.mp h)
    obtain ⟨r, hr, hv⟩ := scaled_ok mag low 1 c (by decide) (by decide) hl lm
    have hu := hr.unique (Nat.mul_pos (by decide) (Nat.two_pow_pos _)) (nearest_rung mag ((low : Int) - 1075) (mag * 2 ^ (low - 1075)) (1 * 2 ^ (1075 - low)) (low - 1075) (1075 - low) c (by omega) (by rw [Nat.one_mul]; exact Nat.mul_right_comm _ _ _))
    rw [← hu]
    have hle := hr.le
    refine Ev.step (f := fun k => (cadastreref02_scaled.f k (big mag) (low : Int) 1).bind fun t398 => (if neg = true then (some (IntKind.u64.wrap (t398 + 9223372036854775808))) else (some t398))) (fun k => ?_) (Ev.bind hv ?_)
    · rw [cadastreref02_Add.j2, if_neg (by omega)]
    · refine Ev.congr (f := fun k => some _) (fun k => ?_) (Ev.now _)
      cases neg
      · rw [if_neg (by decide), if_neg (by decide)]
      · rw [if_pos rfl, if_pos rfl, bwuN (by omega) (by omega)]
        exact congrArg some (by omega)
theorem add_j1 (s t : Bool) (e m g h low : Nat) (he : low ≤ e) (hg : low ≤ g) (e1 : e < 2048) (g1 : g < 2048) (hm : m < 9007199254740992) (hh : h < 9007199254740992) :
    Ev (fun k => cadastreref02_Add.j1 k s (e : Int) (m : Int) t (g : Int) (h : Int) (low : Int)) (outW (s && t) (addS s t (m * 2 ^ (e - low)) (h * 2 ^ (g - low))) (addM s t (m * 2 ^ (e - low)) (h * 2 ^ (g - low))) low : Int) := by
  have lm : (big m).length ≤ 53 := (big_len_le m 53).mpr hm
  have lh : (big h).length ≤ 53 := (big_len_le h 53).mpr hh
  have o1 := of_ok m (by omega)
  have o2 := of_ok h (by omega)
  have u1 := bigup_ok m (e - low) (by omega) (by omega)
  have u2 := bigup_ok h (g - low) (by omega) (by omega)
  have l1 := up_len m (e - low)
  have l2 := up_len h (g - low)
  have w1 : wrap64 ((e : Int) - (low : Int)) = ((e - low : Nat) : Int) := by rw [bwin (by omega) (by omega)]; omega
  have w2 : wrap64 ((g : Int) - (low : Int)) = ((g - low : Nat) : Int) := by rw [bwin (by omega) (by omega)]; omega
  generalize hA : m * 2 ^ (e - low) = A at *
  generalize hB : h * 2 ^ (g - low) = B at *
  refine Ev.step (f := fun k => (cadastreref02_Of.f k (m : Int)).bind fun t376 => ((cadastreref02_Up.f k t376 ((e - low : Nat) : Int)).bind fun t379 => ((cadastreref02_Of.f k (h : Int)).bind fun t382 => ((cadastreref02_Up.f k t382 ((g - low : Nat) : Int)).bind fun t385 => (if (s == t) = true then ((cadastreref02_Plus.f k t379 t385).bind fun t388 => (cadastreref02_Add.j2 k s t (low : Int) t388 s)) else ((cadastreref02_Cmp.f k t379 t385).bind fun t391 => (if t391 ≥ 0 then ((cadastreref02_Minus.f k t379 t385).bind fun t392 => (cadastreref02_Add.j2 k s t (low : Int) t392 s)) else ((cadastreref02_Minus.f k t385 t379).bind fun t395 => (cadastreref02_Add.j2 k s t (low : Int) t395 t)))))))))
    (fun k => by rw [cadastreref02_Add.j1, w1, w2]) (Ev.bind o1 (Ev.bind u1 (Ev.bind o2 (Ev.bind u2 ?_))))
  unfold addS addM
  by_cases c : s = t
  · rw [if_pos c, if_pos c]
    have hp := bplus_ok (big A) (big B) (by omega) (by omega)
    rw [bval_big, bval_big] at hp
    have hl : (big (A + B)).length < 10000 := by
      obtain ⟨L, hL⟩ : ∃ L, L = 2200 := ⟨_, rfl⟩
      have b1 := (big_len_le A L).mp (by omega)
      have b2 := (big_len_le B L).mp (by omega)
      have : (big (A + B)).length ≤ L + 1 := by
        rw [big_len_le, Nat.pow_succ]
        omega
      omega
    exact Ev.congr (fun k => if_pos (beq_iff_eq.mpr c)) (Ev.bind hp (add_j2 s t s low (A + B) (by omega) hl))
  · rw [if_neg c, if_neg c]
    obtain ⟨cc, hc, hc1, hc2⟩ := bigcmp_ok A B (by omega) (by omega)
    refine Ev.congr (fun k => if_neg (by simpa using c)) (Ev.bind hc ?_)
    by_cases g : B ≤ A
    · rw [if_pos g, if_pos g]
      have hp := bminus_ok (big A) (big B) (by omega) (by omega) (by rw [bval_big, bval_big]; exact g)
      rw [bval_big, bval_big] at hp
      have := len_mono (Nat.sub_le A B)
      exact Ev.congr (fun k => if_pos (by omega)) (Ev.bind hp (add_j2 s t s low (A - B) (by omega) (by omega)))
    · rw [if_neg g, if_neg g]
      have hp := bminus_ok (big B) (big A) (by omega) (by omega) (by rw [bval_big, bval_big]; omega)
      rw [bval_big, bval_big] at hp
      have := len_mono (Nat.sub_le B A)
      exact Ev.congr (fun k => if_neg (by omega)) (Ev.bind hp (add_j2 s t t low (B - A) (by omega) (by omega)))
theorem add_j0_fin (x y : Nat) (hx : x < 18446744073709551616) (hy : y < 18446744073709551616) (fx : x % 9223372036854775808 < 9218868437227405312) (fy : y % 9223372036854775808 < 9218868437227405312) :
    Ev (fun k => cadastreref02_Add.j0 k (x : Int) (y : Int) false) (addW x y : Int) := by
  unfold addW
  have h1 := add_j1 (sg x) (sg y) (pE x) (pM x) (pE y) (pM y) (min (pE x) (pE y)) (Nat.min_le_left _ _) (Nat.min_le_right _ _) (pE_lt x) (pE_lt y) (pM_lt x) (pM_lt y)
  refine Ev.step (fun k => ?_) h1
  rw [cadastreref02_Add.j0, if_neg (by decide), kind_ok x hx, if_pos fx, kind_ok y hy, if_pos fy, parts_ok x hx fx, parts_ok y hy fy]
  simp only [Option.bind_some]
  rw [if_neg (by decide), if_neg (by decide)]
  by_cases c : pE y < pE x
  · rw [if_pos (by omega), Nat.min_eq_right (by omega)]
  · rw [if_neg (by omega), Nat.min_eq_left (by omega)]
theorem word_inf (x : Nat) (hx : x < 18446744073709551616) (h : x % 9223372036854775808 = 9218868437227405312) : D.word (sg x) D.infRung = x := by
  unfold Ieee.Format.word sg
  rw [sw, ir]
  by_cases c : x / 9223372036854775808 % 2 = 1
  · rw [if_pos (beq_iff_eq.mpr c)]
    omega
  · rw [if_neg (by simpa using c)]
    omega
theorem add_nan_right (x y : Nat) (h : 9218868437227405312 < y % 9223372036854775808) : D.add x y = none := by
  obtain ⟨t, ht⟩ := read_nan h
  unfold Ieee.Format.add
  rw [ht]
  cases D.read x <;> rfl
theorem add_inf_inf (x y : Nat) (hx : x < 18446744073709551616) (hy : y < 18446744073709551616) (fx : x % 9223372036854775808 = 9218868437227405312) (fy : y % 9223372036854775808 = 9218868437227405312) :
    D.add x y = if x = y then some x else none := by
  unfold Ieee.Format.add
  have ex := word_inf x hx fx
  have hxy : x = y ↔ sg x = sg y := by
    constructor
    · rintro rfl
      rfl
    · intro h
      unfold sg at h
      rw [Bool.eq_iff_iff, beq_iff_eq, beq_iff_eq] at h
      omega
  rw [read_inf fx, read_inf fy]
  show Option.map D.write (if sg x = sg y then some (.infinity (sg x)) else none) = _
  by_cases c : x = y
  · rw [if_pos c, if_pos (hxy.mp c)]
    exact congrArg some ex
  · rw [if_neg c, if_neg (fun h => c (hxy.mpr h))]
    rfl
theorem add_inf_fin (x y : Nat) (hx : x < 18446744073709551616) (fx : x % 9223372036854775808 = 9218868437227405312) (fy : y % 9223372036854775808 < 9218868437227405312) : D.add x y = some x := by
  unfold Ieee.Format.add
  rw [read_inf fx, read_parts fy]
  exact congrArg some (word_inf x hx fx)
theorem add_fin_inf (x y : Nat) (hy : y < 18446744073709551616) (fx : x % 9223372036854775808 < 9218868437227405312) (fy : y % 9223372036854775808 = 9218868437227405312) : D.add x y = some y := by
  unfold Ieee.Format.add
  rw [read_parts fx, read_inf fy]
  exact congrArg some (word_inf y hy fy)
/-- A running sum is a word, and none of the NaNs. -/
def GoodS (s : Option Nat) : Prop := ∀ x, s = some x → x % 9223372036854775808 ≤ 9218868437227405312 ∧ x < 18446744073709551616
theorem nearest_le (m : Nat) (p : Int) : D.nearest false m p ≤ 9218868437227405312 := nearest_nonneg m p
theorem addW_lt (x y : Nat) : addW x y < 18446744073709551616 := by
  unfold addW outW
  generalize addM _ _ _ _ = mag
  have := nearest_le mag (((min (pE x) (pE y) : Nat) : Int) - 1075)
  split
  · split <;> decide
  · split <;> omega
theorem good_add (s : Option Nat) (b : Nat) (hs : GoodS s) (hb : b < 18446744073709551616) : GoodS (real_Mean.add s (b : Int)) := by
  intro r hr
  cases s with
  | none => cases hr
  | some x =>
    obtain ⟨h1, h2⟩ := hs x rfl
    have hr : D.add x b = some r := hr
    refine ⟨real_Mean.add_le hr, ?_⟩
    by_cases nb : 9218868437227405312 < b % 9223372036854775808
    · rw [add_nan_right x b nb] at hr
      cases hr
    · by_cases ix : x % 9223372036854775808 = 9218868437227405312
      · by_cases ib : b % 9223372036854775808 = 9218868437227405312
        · rw [add_inf_inf x b h2 hb ix ib] at hr
          split at hr
          · cases hr
            exact h2
          · cases hr
        · rw [add_inf_fin x b h2 ix (by omega)] at hr
          cases hr
          exact h2
      · by_cases ib : b % 9223372036854775808 = 9218868437227405312
        · rw [add_fin_inf x b hb (by omega) ib] at hr
          cases hr
          exact hb
        · rw [add_fin (by omega) (by omega)] at hr
          cases hr
          exact addW_lt x b
theorem ref_add (s : Option Nat) (b : Nat) (hs : GoodS s) (hb : b < 18446744073709551616) :
    Ev (fun k => cadastreref02_Add.f k ((s.getD 9221120237041090560 : Nat) : Int) (b : Int)) (((real_Mean.add s (b : Int)).getD 9221120237041090560 : Nat) : Int) := by
  have hnan : ∀ x : Nat, Ev (fun k => cadastreref02_Add.j0 k (x : Int) (b : Int) true) ((9221120237041090560 : Nat) : Int) := by
    intro x
    refine Ev.step (f := fun k => some _) (fun k => ?_) (Ev.now _)
    rw [cadastreref02_Add.j0, if_pos rfl]
    rfl
  cases s with
  | none =>
    show Ev (fun k => cadastreref02_Add.f k ((9221120237041090560 : Nat) : Int) (b : Int)) ((9221120237041090560 : Nat) : Int)
    refine Ev.congr (fun k => ?_) (hnan 9221120237041090560)
    unfold cadastreref02_Add.f
    rw [kind_ok 9221120237041090560 (by decide), if_neg (by decide), if_neg (by decide), Option.bind_some, if_pos rfl]
  | some x =>
    obtain ⟨h1, h2⟩ := hs x rfl
    show Ev (fun k => cadastreref02_Add.f k (x : Int) (b : Int)) (((D.add x b).getD 9221120237041090560 : Nat) : Int)
    by_cases nb : 9218868437227405312 < b % 9223372036854775808
    · rw [add_nan_right x b nb]
      refine Ev.congr (fun k => ?_) (hnan x)
      unfold cadastreref02_Add.f
      rw [kind_ok x h2, kind_ok b hb, if_neg (show ¬ b % 9223372036854775808 < 9218868437227405312 by omega), if_neg (show ¬ b % 9223372036854775808 = 9218868437227405312 by omega), Option.bind_some, Option.bind_some, if_neg (by split <;> (try split) <;> first | omega | decide), if_pos rfl]
    · by_cases ix : x % 9223372036854775808 = 9218868437227405312
      · by_cases ib : b % 9223372036854775808 = 9218868437227405312
        · rw [add_inf_inf x b h2 hb ix ib]
          by_cases c : x = b
          · rw [if_pos c]
            refine Ev.congr (f := fun k => cadastreref02_Add.j0 k (x : Int) (b : Int) false) (fun k => ?_) (Ev.step (f := fun k => some _) (fun k => ?_) (Ev.now _))
            · unfold cadastreref02_Add.f
              rw [kind_ok x h2, if_neg (show ¬ x % 9223372036854775808 < 9218868437227405312 by omega), if_pos ix, kind_ok b hb, if_neg (show ¬ b % 9223372036854775808 < 9218868437227405312 by omega), if_pos ib]
              simp only [Option.bind_some]
              rw [if_neg (by decide), if_neg (by decide), if_pos trivial, if_pos trivial, c, bne_self_eq_false]
            · rw [cadastreref02_Add.j0, if_neg (by decide), kind_ok x h2, if_neg (show ¬ x % 9223372036854775808 < 9218868437227405312 by omega), if_pos ix, Option.bind_some, if_pos rfl]
              rfl
          · rw [if_neg c]
            refine Ev.congr (fun k => ?_) (hnan x)
            unfold cadastreref02_Add.f
            rw [kind_ok x h2, if_neg (show ¬ x % 9223372036854775808 < 9218868437227405312 by omega), if_pos ix, kind_ok b hb, if_neg (show ¬ b % 9223372036854775808 < 9218868437227405312 by omega), if_pos ib]
            simp only [Option.bind_some]
            rw [if_neg (by decide), if_neg (by decide), if_pos trivial, if_pos trivial, bne_iff_ne.mpr (by omega)]
        · rw [add_inf_fin x b h2 ix (by omega)]
          refine Ev.congr (f := fun k => cadastreref02_Add.j0 k (x : Int) (b : Int) false) (fun k => ?_) (Ev.step (f := fun k => some _) (fun k => ?_) (Ev.now _))
          · unfold cadastreref02_Add.f
            rw [kind_ok x h2, if_neg (show ¬ x % 9223372036854775808 < 9218868437227405312 by omega), if_pos ix, kind_ok b hb, if_pos (show b % 9223372036854775808 < 9218868437227405312 by omega)]
            simp only [Option.bind_some]
            rw [if_neg (by decide), if_neg (by decide), if_pos trivial, if_neg (by decide)]
          · rw [cadastreref02_Add.j0, if_neg (by decide), kind_ok x h2, if_neg (show ¬ x % 9223372036854775808 < 9218868437227405312 by omega), if_pos ix, Option.bind_some, if_pos rfl]
            rfl
      · have fx : x % 9223372036854775808 < 9218868437227405312 := by omega
        have hf : ∀ k, cadastreref02_Add.f k (x : Int) (b : Int) = cadastreref02_Add.j0 k (x : Int) (b : Int) false := by
          intro k
          unfold cadastreref02_Add.f
          rw [kind_ok x h2, if_pos fx, kind_ok b hb]
          simp only [Option.bind_some]
          by_cases ib : b % 9223372036854775808 = 9218868437227405312
          · rw [if_neg (show ¬ b % 9223372036854775808 < 9218868437227405312 by omega), if_pos ib, if_neg (by decide), if_neg (by decide), if_neg (by decide)]
          · rw [if_pos (show b % 9223372036854775808 < 9218868437227405312 by omega), if_neg (by decide), if_neg (by decide), if_neg (by decide)]
        refine Ev.congr hf ?_
        by_cases ib : b % 9223372036854775808 = 9218868437227405312
        · rw [add_fin_inf x b hb fx ib]
          refine Ev.step (f := fun k => some _) (fun k => ?_) (Ev.now _)
          rw [cadastreref02_Add.j0, if_neg (by decide), kind_ok x h2, if_pos fx, kind_ok b hb, if_neg (show ¬ b % 9223372036854775808 < 9218868437227405312 by omega), if_pos ib]
          simp only [Option.bind_some]
          rw [if_neg (by decide), if_pos trivial]
          rfl
        · rw [add_fin fx (by omega)]
          exact add_j0_fin x b h2 hb fx (by omega)
/-! ### By -/
theorem div_inf (x n : Nat) (hx : x < 18446744073709551616) (fx : x % 9223372036854775808 = 9218868437227405312) (hn : 0 < n) (hn1 : n ≤ 60) : D.div x (floatOfInt .f64 (n : Int)) = some x := by
  have h1 := small_read ⟨n, by omega⟩ (by show n ≠ 0; omega)
  dsimp only at h1
  unfold Ieee.Format.div
  rw [small_float, h1, read_inf fx]
  simp only [Ieee.Datum.quotient, Bool.xor_false, Option.map_some, Ieee.Format.write]
  exact congrArg some (word_inf x hx fx)
theorem div_zero (x n : Nat) (hx : x < 18446744073709551616) (fx : x % 9223372036854775808 = 0) (hn : 0 < n) (hn1 : n ≤ 60) : D.div x (floatOfInt .f64 (n : Int)) = some x := by
  have h1 := small_read ⟨n, by omega⟩ (by show n ≠ 0; omega)
  dsimp only at h1
  have hn2 : n * 2 ^ (52 - n.log2) ≠ 0 := Nat.mul_ne_zero (by omega) (by have := Nat.two_pow_pos (52 - n.log2); omega)
  have hm : pM x = 0 := by
    unfold pM
    rw [fx]
    rfl
  unfold Ieee.Format.div
  rw [small_float, h1, read_parts (by omega), hm]
  simp only [Ieee.Datum.quotient, if_neg hn2, Bool.xor_false, Option.map_some, Ieee.Format.write, Nat.zero_shiftLeft, Nat.zero_div, Nat.zero_mod, bne_self_eq_false, Bool.toNat_false, Nat.mul_zero, Nat.add_zero]
  rw [nearest_zero]
  refine congrArg some ?_
  unfold sg
  by_cases c : x / 9223372036854775808 % 2 = 1
  · rw [if_pos (beq_iff_eq.mpr c)]
    omega
  · rw [if_neg (by simpa using c)]
    omega
theorem pow_core5 (m n E t : Nat) : m * 2 ^ (E - t) * 2 ^ t * n = m * (n * 2 ^ (t - E)) * 2 ^ E := by
  have e : 2 ^ (E - t) * 2 ^ t = 2 ^ (t - E) * 2 ^ E := by
    rw [← Nat.pow_add, ← Nat.pow_add]
    congr 1
    omega
  have a1 : m * 2 ^ (E - t) * 2 ^ t * n = m * n * (2 ^ (E - t) * 2 ^ t) := by ac_rfl
  rw [a1, e]
  ac_rfl
theorem pM_zero {x : Nat} (h : x % 9223372036854775808 < 9218868437227405312) : pM x = 0 ↔ x % 9223372036854775808 = 0 := by
  unfold pM
  split <;> omega
theorem ref_by (s : Option Nat) (n : Nat) (hs : GoodS s) (hn : 0 < n) (hn1 : n ≤ 60) :
    Ev (fun k => cadastreref02_By.f k ((s.getD 9221120237041090560 : Nat) : Int) (n : Int)) ((real_Mean.last s (n : Int) : Nat) : Int) := by
  cases s with
  | none =>
    refine Ev.congr (f := fun k => some _) (fun k => ?_) (Ev.now _)
    show cadastreref02_By.f k ((9221120237041090560 : Nat) : Int) (n : Int) = some ((9221120237041090560 : Nat) : Int)
    unfold cadastreref02_By.f
    rw [kind_ok 9221120237041090560 (by decide), if_neg (by decide), if_neg (by decide), Option.bind_some, if_pos rfl]
    rfl
  | some x =>
    obtain ⟨h1, h2⟩ := hs x rfl
    have hl : ∀ r, D.div x (floatOfInt .f64 (n : Int)) = some r → real_Mean.last (some x) (n : Int) = r := by
      intro r hr
      unfold real_Mean.last
      rw [Option.bind_some, hr]
    show Ev (fun k => cadastreref02_By.f k (x : Int) (n : Int)) ((real_Mean.last (some x) (n : Int) : Nat) : Int)
    have self : ∀ (m : Int) (E : Int) (z : Bool), Ev (fun k => cadastreref02_By.j0 k (x : Int) (n : Int) z E m true) (x : Int) := by
      intro m E z
      refine Ev.step (f := fun k => some _) (fun k => ?_) (Ev.now _)
      rw [cadastreref02_By.j0, if_pos rfl]
    by_cases ix : x % 9223372036854775808 = 9218868437227405312
    · rw [hl x (div_inf x n h2 ix hn hn1)]
      refine Ev.congr (fun k => ?_) (self 0 0 false)
      unfold cadastreref02_By.f
      rw [kind_ok x h2, if_neg (show ¬ x % 9223372036854775808 < 9218868437227405312 by omega), if_pos ix, parts_no x h2 (by omega)]
      simp only [Option.bind_some]
      rw [if_neg (by decide), if_neg (by decide)]
    · have fx : x % 9223372036854775808 < 9218868437227405312 := by omega
      have hf : ∀ k, cadastreref02_By.f k (x : Int) (n : Int) = cadastreref02_By.j0 k (x : Int) (n : Int) (sg x) (pE x : Int) (pM x : Int) ((pM x : Int) == 0) := by
        intro k
        unfold cadastreref02_By.f
        rw [kind_ok x h2, if_pos fx, parts_ok x h2 fx]
        simp only [Option.bind_some]
        rw [if_neg (by decide), if_pos trivial]
      refine Ev.congr hf ?_
      by_cases z : pM x = 0
      · rw [hl x (div_zero x n h2 ((pM_zero fx).mp z) hn hn1), beq_iff_eq.mpr (show (pM x : Int) = 0 by omega)]
        exact self _ _ _
      · have lm : (big (pM x)).length ≤ 53 := (big_len_le (pM x) 53).mpr (pM_lt x)
        have hE := pE_lt x
        have hM := pM_lt x
        obtain ⟨r, hr, hd⟩ := div_fin fx hn hn1 z (pow_core5 (pM x) n (pE x) 1075)
        obtain ⟨r', hr', hv⟩ := scaled_ok (pM x) (pE x) n z (by omega) (by omega) (by omega) (by omega)
        have hu := hr'.unique (Nat.mul_pos hn (Nat.two_pow_pos _)) hr
        subst hu
        have hle := hr.le
        rw [hl _ hd, beq_eq_false_iff_ne.mpr (show (pM x : Int) ≠ 0 by omega)]
        refine Ev.step (f := fun k => (cadastreref02_Of.f k (pM x : Int)).bind fun t405 => ((cadastreref02_scaled.f k t405 (pE x : Int) (n : Int)).bind fun t408 => (if sg x = true then (some (IntKind.u64.wrap (t408 + 9223372036854775808))) else (some t408)))) (fun k => ?_) (Ev.bind (of_ok (pM x) (by omega)) (Ev.bind hv ?_))
        · rw [cadastreref02_By.j0, if_neg (by decide), bwuN (n := (n : Int)) (by omega) (by omega)]
        · refine Ev.congr (f := fun k => some _) (fun k => ?_) (Ev.now _)
          cases sg x
          · rw [if_neg (by decide), if_neg (by decide)]
          · rw [if_pos rfl, if_pos rfl, bwuN (by omega) (by omega)]
            exact congrArg some (by omega)
/-! ### Mean -/
theorem good_sum (l : List Int) (hl : ∀ b ∈ l, 0 ≤ b ∧ b < 18446744073709551616) : ∀ s, GoodS s → GoodS (l.foldl real_Mean.add s) := by
  induction l with
  | nil => exact fun s hs => hs
  | cons b l ih =>
    intro s hs
    have hb := hl b (by simp)
    obtain ⟨n, rfl⟩ := Int.eq_ofNat_of_zero_le hb.1
    exact ih (fun c hc => hl c (by simp [hc])) _ (good_add s n hs (by omega))
theorem good_zero : GoodS (some 0) := by
  intro x hx
  cases hx
  decide
theorem mean_l0 (l : List Int) (hl : ∀ b ∈ l, 0 ≤ b ∧ b < 18446744073709551616) (h0 : 0 < l.length) (h1 : l.length ≤ 60) : ∀ (d i : Nat), i + d = l.length →
    Ev (fun k => cadastreref02_Mean.l0 k l ((((l.take i).foldl real_Mean.add (some 0)).getD 9221120237041090560 : Nat) : Int) (i : Int)) ((real_Mean.last (real_Mean.sum l) (l.length : Int) : Nat) : Int) := by
  intro d
  induction d with
  | zero =>
    intro i hi
    obtain rfl : i = l.length := by omega
    rw [List.take_length]
    have hb := ref_by (real_Mean.sum l) l.length (good_sum l hl _ good_zero) h0 h1
    refine Ev.step (f := fun k => (cadastreref02_By.f k (((real_Mean.sum l).getD 9221120237041090560 : Nat) : Int) (l.length : Int)).bind fun t412 => some t412) (fun k => ?_) (Ev.bind hb (Ev.now _))
    rw [cadastreref02_Mean.l0, if_neg (by omega)]
    rfl
  | succ d ih =>
    intro i hi
    have hlt : i < l.length := by omega
    have hb := hl l[i] (List.getElem_mem hlt)
    obtain ⟨n, hn⟩ := Int.eq_ofNat_of_zero_le hb.1
    have hr : rd l (i : Int) = (n : Int) := by
      unfold rd
      rw [← hn]
      simp [hlt]
    have ht := real_Mean.take_succ l i hlt
    rw [hr] at ht
    have hg : GoodS ((l.take i).foldl real_Mean.add (some 0)) := good_sum (l.take i) (fun b hb => hl b (List.mem_of_mem_take hb)) _ good_zero
    have ha := ref_add ((l.take i).foldl real_Mean.add (some 0)) n hg (by omega)
    have hn2 := ih (i + 1) (by omega)
    rw [ht] at hn2
    refine Ev.step (f := fun k => (cadastreref02_Add.f k ((((l.take i).foldl real_Mean.add (some 0)).getD 9221120237041090560 : Nat) : Int) (n : Int)).bind fun t411 => cadastreref02_Mean.l0 k l t411 ((i + 1 : Nat) : Int)) (fun k => ?_) (Ev.bind ha hn2)
    rw [cadastreref02_Mean.l0, if_pos (by omega), if_pos (by omega), hr, real_Mean.succ i (by omega)]
theorem ref_mean (l : List Int) (hl : ∀ b ∈ l, 0 ≤ b ∧ b < 18446744073709551616) (h1 : l.length ≤ 60) : Ev (fun k => cadastreref02_Mean.f k l) ((real_Mean.last (real_Mean.sum l) (l.length : Int) : Nat) : Int) := by
  by_cases h0 : l.length = 0
  · obtain rfl := List.eq_nil_of_length_eq_zero h0
    refine Ev.congr (f := fun k => some _) (fun k => ?_) (Ev.now _)
    have : real_Mean.last (real_Mean.sum []) (([] : List Int).length : Int) = 9221120237041090560 := by decide +kernel
    rw [this]
    rfl
  · have h := mean_l0 l hl (by omega) h1 l.length 0 (by omega)
    refine Ev.congr (fun k => ?_) h
    unfold cadastreref02_Mean.f
    rw [if_neg (by omega)]
    rfl
end Go.Proofs.Ytkhbkhbkcpmiiaa.PReal
