/- From a float: what real.From and the document's From tell, as one plain function of the word. -/
import Derived.Test.YtkhbkhbkcpmiiaaFromBase
import Derived.Test.YtkhbkhbkcpmiiaaPRealx8
import Derived.Test.YtkhbkhbkcpmiiaaGrealFrom
namespace Go.Proofs.Ytkhbkhbkcpmiiaa.Pure
open Go.RowKit Go.Proofs.Ytkhbkhbkcpmiiaa.PReal Go.Proofs.YtkhbkhbkcpmiiaaW.PrintWords Go.Proofs.YtkhbkhbkcpmiiaaW.PrintLast Go.Proofs.YtkhbkhbkcpmiiaaW.PrintMore
set_option linter.unusedVariables false
set_option linter.unusedSimpArgs false

/-- A float's size in ten thousandths, of its fraction and its exponent. -/
def sizeT (m E : Nat) : Nat := if 1075 ≤ E then m * 10000 * 2 ^ (E - 1075) else rhe (m * 10000) (2 ^ (1075 - E))
/-- What both tell of a word. -/
def fromN (n : Nat) : Int × Bool :=
  if n / 4503599627370496 % 2048 = 2047 then (0, false)
  else if n / 4503599627370496 % 2048 = 0 then fromS (n / 9223372036854775808 == 1) (sizeT (n % 4503599627370496) 1)
  else fromS (n / 9223372036854775808 == 1) (sizeT (n % 4503599627370496 + 4503599627370496) (n / 4503599627370496 % 2048))

theorem signed_ok (neg : Bool) (T : Nat) (h : T < 9223372036854775808) : Ev (fun k => cadastreref01_Signed.f k neg 0 (T : Int)) ((fromS neg T).1, (fromS neg T).2) := by
  have e : wrap64 (T : Int) = T := bwin (by omega) (by omega)
  refine Ev.step (f := fun k => some _) (fun k => ?_) (Ev.now _)
  unfold cadastreref01_Signed.f fromS
  rw [if_neg (by omega), decide_eq_false (by omega), if_neg (show ¬ 9223372036854775808 ≤ T by omega), cadastreref01_Signed.j0, if_neg (by decide), e]
  cases neg
  · rfl
  · simp
    exact bwin (by omega) (by omega)
theorem from_j0 (neg : Bool) (T : Nat) (hT : (big T).length < 1000000) : Ev (fun k => cadastreref02_From.j0 k neg (big T)) (fromS neg T) := by
  by_cases h : (big T).length ≤ 63
  · have hlt : T < 9223372036854775808 := (big_len_le T 63).mp h
    refine Ev.step (f := fun k => (cadastreref02_Small.f k (big T)).bind fun t => (cadastreref01_Signed.f k neg 0 t).bind fun b => some (b.1, b.2)) (fun k => ?_) (Ev.bind (bigsmall_ok T h) (Ev.bind (signed_ok neg T hlt) (Ev.now _)))
    rw [cadastreref02_From.j0, if_neg (by omega)]
  · have hge : 9223372036854775808 ≤ T := by
      by_cases hc : T < 9223372036854775808
      · exact absurd ((big_len_le T 63).mpr hc) h
      · omega
    refine Ev.step (f := fun k => some _) (fun k => ?_) (Ev.now _)
    rw [cadastreref02_From.j0, if_pos (by omega)]
    unfold fromS
    rw [if_pos hge]
theorem pow1 (x : Nat) : 1 * x = x := Nat.one_mul x
theorem from_tail (neg : Bool) (m E : Nat) (hm : m < 9007199254740992) (hE : 1 ≤ E) (hE1 : E ≤ 2046) :
    Ev (fun k => (cadastreref02_Of.f k (m : Int)).bind fun t227 => ((cadastreref02_Of.f k 10000).bind fun t230 => ((cadastreref02_Times.f k t227 t230).bind fun t233 => (if (E : Int) ≥ 1075 then ((cadastreref02_Up.f k t233 (wrap64 ((E : Int) - 1075))).bind fun t236 => (cadastreref02_From.j0 k neg t236)) else ((cadastreref02_Of.f k 1).bind fun t239 => ((cadastreref02_Up.f k t239 (wrap64 (1075 - (E : Int)))).bind fun t242 => ((cadastreref02_Even.f k t233 t242).bind fun t245 => (cadastreref02_From.j0 k neg t245)))))))) (fromS neg (sizeT m E)) := by
  have hV : m * 10000 < 2 ^ 67 := by
    have : (2 : Nat) ^ 67 = 147573952589676412928 := by decide
    omega
  have l1 : (big m).length < 1000000 := len_of (m := 53) hm (by decide)
  have l2 : (big 10000).length < 1000000 := len_of (m := 14) (by decide) (by decide)
  have l3' : (big (m * 10000)).length ≤ 67 := (big_len_le _ _).mpr hV
  have o1 := of_ok m (by omega)
  have o2 := of_ok 10000 (by decide)
  have o3 := of_ok 1 (by decide)
  have o4 := bigtimes_ok m 10000 (by omega) l1 l2
  refine Ev.bind o1 (Ev.bind o2 (Ev.bind o4 ?_))
  unfold sizeT
  by_cases c : 1075 ≤ E
  · have u := bigup_ok (m * 10000) (E - 1075) (by omega) (by omega)
    have hl : (big (m * 10000 * 2 ^ (E - 1075))).length ≤ 67 + (E - 1075) := by
      rw [big_len_le, Nat.pow_add]
      exact Nat.mul_lt_mul_of_pos_right hV (Nat.two_pow_pos _)
    simp only [if_pos (show (E : Int) ≥ 1075 by omega), if_pos c, show wrap64 ((E : Int) - 1075) = ((E - 1075 : Nat) : Int) by rw [bwin (by omega) (by omega)]; omega]
    exact Ev.bind u (from_j0 neg _ (by omega))
  · have u := bigup_ok 1 (1075 - E) (by omega) (len_of (m := 1) (by decide) (by decide))
    rw [Nat.one_mul] at u
    have hl : (big (2 ^ (1075 - E))).length < 900000 := by
      have : (big (2 ^ (1075 - E))).length ≤ 1075 - E + 1 := by
        rw [big_len_le, Nat.pow_succ]
        have := Nat.two_pow_pos (1075 - E)
        omega
      omega
    have v := bigeven_ok (m * 10000) (2 ^ (1075 - E)) (by omega) hl (Nat.two_pow_pos _)
    have hr : (big (rhe (m * 10000) (2 ^ (1075 - E)))).length ≤ 68 := by
      rw [big_len_le, Nat.pow_succ]
      have := Nat.div_le_self (m * 10000) (2 ^ (1075 - E))
      unfold rhe
      generalize (2 : Nat) ^ 67 = q at *
      split
      · omega
      · split <;> omega
    simp only [if_neg (show ¬ (E : Int) ≥ 1075 by omega), if_neg c, show wrap64 (1075 - (E : Int)) = ((1075 - E : Nat) : Int) by rw [bwin (by omega) (by omega)]; omega]
    exact Ev.bind o3 (Ev.bind u (Ev.bind v (from_j0 neg _ (by omega))))

theorem ref_from (n : Nat) (hn : n < 18446744073709551616) : Ev (fun k => cadastreref02_From.f k (n : Int)) (fromN n) := by
  have w1 : wrap64 ((n : Int) / 4503599627370496) = ((n / 4503599627370496 : Nat) : Int) := by rw [bwin (by omega) (by omega)]; omega
  have t1 : Int.tmod ((n / 4503599627370496 : Nat) : Int) 2048 = ((n / 4503599627370496 % 2048 : Nat) : Int) := by rw [Int.tmod_eq_emod_of_nonneg (by omega)]; omega
  have t2 : Int.tmod (n : Int) 4503599627370496 = ((n % 4503599627370496 : Nat) : Int) := by rw [Int.tmod_eq_emod_of_nonneg (by omega)]; omega
  have s1 : ((n : Int) / 9223372036854775808 == 1) = (n / 9223372036854775808 == 1) := by
    rw [Bool.eq_iff_iff, beq_iff_eq, beq_iff_eq]
    omega
  unfold cadastreref02_From.f cadastreref02_Parts.f fromN
  simp only [w1, t1, t2, s1]
  by_cases c1 : n / 4503599627370496 % 2048 = 2047
  · simp only [if_pos c1, if_pos (show ((n / 4503599627370496 % 2048 : Nat) : Int) = 2047 by omega), Option.bind_some, Bool.false_eq_true, ↓reduceIte]
    exact Ev.now _
  · by_cases c2 : n / 4503599627370496 % 2048 = 0
    · simp only [if_neg c1, if_pos c2, if_neg (show ¬ ((n / 4503599627370496 % 2048 : Nat) : Int) = 2047 by omega), if_pos (show ((n / 4503599627370496 % 2048 : Nat) : Int) = 0 by omega), Option.bind_some, ↓reduceIte]
      exact from_tail _ (n % 4503599627370496) 1 (by omega) (by omega) (by omega)
    · have w2 : IntKind.u64.wrap (((n % 4503599627370496 : Nat) : Int) + 4503599627370496) = ((n % 4503599627370496 + 4503599627370496 : Nat) : Int) := by rw [bwuN (by omega) (by omega)]; omega
      simp only [if_neg c1, if_neg c2, if_neg (show ¬ ((n / 4503599627370496 % 2048 : Nat) : Int) = 2047 by omega), if_neg (show ¬ ((n / 4503599627370496 % 2048 : Nat) : Int) = 0 by omega), Option.bind_some, ↓reduceIte, w2]
      exact from_tail _ (n % 4503599627370496 + 4503599627370496) (n / 4503599627370496 % 2048) (by omega) (by omega) (by omega)

theorem fromS_zero (a b : Bool) : fromS a 0 = fromS b 0 := by cases a <;> cases b <;> rfl
theorem sizeT_zero (E : Nat) : sizeT 0 E = 0 := by
  unfold sizeT rhe
  have := Nat.two_pow_pos (1075 - E)
  split
  · simp
  · rw [Nat.zero_mul, Nat.zero_mod, Nat.zero_div, if_neg (by omega), if_neg (by omega)]
theorem real_tail (neg : Bool) (m E : Nat) (hm : m < 9007199254740992) (hE : 1 ≤ E) (hE1 : E ≤ 2046) (hbig : 1 < E → 4503599627370496 ≤ m) :
    ((bits_Mul64.f (m : Int) 10000).bind fun x => (real_shifted.f x.1 x.2 ((E : Int) - 1075)).bind fun s => some (real_From.res neg s)) = some (fromS neg (sizeT m E)) := by
  have hx : bits_Mul64.f (m : Int) 10000 = some (((m * 10000 / 18446744073709551616 : Nat) : Int), ((m * 10000 % 18446744073709551616 : Nat) : Int)) := by
    unfold bits_Mul64.f
    rw [if_pos ⟨by omega, by omega, by omega, by omega⟩]
    congr 2 <;> omega
  rw [hx]
  simp only [Option.bind_some]
  unfold sizeT
  by_cases c : 1075 ≤ E
  · have hb := hbig (by omega)
    obtain ⟨s, h1, h2⟩ := left_ok (m * 10000) (E - 1075) neg (by omega) (by omega) (by omega)
    rw [show (E : Int) - 1075 = ((E - 1075 : Nat) : Int) by omega, h1, if_pos c]
    simp only [Option.bind_some]
    rw [h2]
  · obtain ⟨s, h1, h2⟩ := right_ok (m * 10000) (1075 - E) neg (by omega) (by omega) (by omega) (by omega)
    rw [show (E : Int) - 1075 = -((1075 - E : Nat) : Int) by omega, h1, if_neg c]
    simp only [Option.bind_some]
    rw [h2]

theorem real_from (n : Nat) (hn : n < 18446744073709551616) : real_From.f (n : Int) = some (fromN n) := by
  have b1 : bits .and .u64 ((n : Int) / 4503599627370496) 2047 = ((n / 4503599627370496 % 2048 : Nat) : Int) := by
    have := bits_mask .u64 64 (by decide) u64_ok 11 (by decide) ((n : Int) / 4503599627370496) (by omega) (by omega)
    rw [show (2 : Int) ^ 11 - 1 = 2047 by decide, show (2 : Int) ^ 11 = 2048 by decide] at this
    rw [this]
    omega
  have b2 : bits .and .u64 (n : Int) 4503599627370495 = ((n % 4503599627370496 : Nat) : Int) := by
    have := bits_mask .u64 64 (by decide) u64_ok 52 (by decide) (n : Int) (by omega) (by omega)
    rw [show (2 : Int) ^ 52 - 1 = 4503599627370495 by decide, show (2 : Int) ^ 52 = 4503599627370496 by decide] at this
    rw [this]
    omega
  have b3 : bits .or .u64 ((n % 4503599627370496 : Nat) : Int) 4503599627370496 = ((n % 4503599627370496 + 4503599627370496 : Nat) : Int) := by
    have hc := (bits_nat .u64 64 (by decide) u64_ok (n % 4503599627370496) 4503599627370496 (by omega) (by decide)).2
    have hc2 := (bits_nat .u64 64 (by decide) u64_ok 4503599627370496 (n % 4503599627370496) (by decide) (by omega)).2
    have hj := bu_or 52 4503599627370496 ((n % 4503599627370496 : Nat) : Int) (by decide) (by decide) (by decide) (by omega) (by rw [show (2 : Int) ^ 52 = 4503599627370496 by decide]; omega) (by decide)
    rw [Nat.or_comm] at hc
    have h2 : ((4503599627370496 ||| n % 4503599627370496 : Nat) : Int) = (4503599627370496 : Int) + ((n % 4503599627370496 : Nat) : Int) := by rw [← hj]; exact hc2.symm
    have h3 : bits .or .u64 ((n % 4503599627370496 : Nat) : Int) 4503599627370496 = ((4503599627370496 ||| n % 4503599627370496 : Nat) : Int) := hc
    rw [h3, h2]
    omega
  have hw : wrap64 ((n / 4503599627370496 % 2048 : Nat) : Int) = ((n / 4503599627370496 % 2048 : Nat) : Int) := bwin (by omega) (by omega)
  unfold real_From.f fromN
  rw [if_pos ⟨by omega, by omega⟩, b1, b2, b3, hw]
  by_cases c1 : n / 4503599627370496 % 2048 = 2047
  · rw [if_pos (by omega), if_pos c1]
  · rw [if_neg (by omega), if_neg c1]
    have sg : n ≠ 9223372036854775808 → decide ((9223372036854775808 : Int) < (n : Int)) = (n / 9223372036854775808 == 1) := by
      intro h
      rw [Bool.eq_iff_iff, decide_eq_true_iff, beq_iff_eq]
      omega
    by_cases c2 : n / 4503599627370496 % 2048 = 0
    · rw [if_pos (by omega), if_pos c2]
      have t := real_tail (decide ((9223372036854775808 : Int) < (n : Int))) (n % 4503599627370496) 1 (by omega) (by omega) (by omega) (by omega)
      rw [show ((1 : Nat) : Int) - 1075 = -1074 by decide] at t
      rw [t]
      by_cases hz : n = 9223372036854775808
      · rw [show n % 4503599627370496 = 0 by omega, sizeT_zero, fromS_zero]
      · rw [sg hz]
    · rw [if_neg (by omega), if_neg c2]
      have t := real_tail (decide ((9223372036854775808 : Int) < (n : Int))) (n % 4503599627370496 + 4503599627370496) (n / 4503599627370496 % 2048) (by omega) (by omega) (by omega) (by omega)
      rw [t, sg (by omega)]
end Go.Proofs.Ytkhbkhbkcpmiiaa.Pure
