/- Whole numbers as lists of bits: which is greater, products, quotients and rests, values, the nearest whole number with halves to the even one. -/
import Derived.Test.YtkhbkhbkcpmiiaaBig
import Derived.Test.YtkhbkhbkcpmiiaaPRealx5
import Derived.Test.YtkhbkhbkcpmiiaaPRealx5
import Derived.Test.YtkhbkhbkcpmiiaaPRealx5
import Derived.Test.YtkhbkhbkcpmiiaaPRealx5
namespace Go.Proofs.Ytkhbkhbkcpmiiaa.PReal
open Go.RowKit Go.Proofs.YtkhbkhbkcpmiiaaW.PrintWords Go.Proofs.YtkhbkhbkcpmiiaaW.PrintLast Go.Proofs.YtkhbkhbkcpmiiaaW.PrintMore
set_option linter.unusedVariables false
set_option linter.unusedSimpArgs false

theorem bval_cut (l : List Bool) (i : Nat) (h : i ≤ l.length) : bval l = bval (l.take i) + 2 ^ i * bval (l.drop i) ∧ bval (l.take i) < 2 ^ i := by
  constructor
  · conv => lhs; rw [← List.take_append_drop i l, bval_append]
    rw [List.length_take, Nat.min_eq_left h]
  · have := bval_lt (l.take i)
    rw [List.length_take, Nat.min_eq_left h] at this
    exact this
theorem rd_nat (l : List Bool) (i : Nat) : rdOf false l (i : Int) = l.getD i false := by
  unfold rdOf
  rw [Int.toNat_natCast]
theorem cut_lt (x y d1 p : Nat) (hx : x < p) : x + p * (0 + 2 * d1) < y + p * (1 + 2 * d1) := by
  rw [Nat.mul_add, Nat.mul_add, Nat.mul_one, Nat.mul_zero]
  omega
theorem cmp_l0 (a b : List Bool) (hab : a.length = b.length) (ha : a.length < 1000000) : ∀ i : Nat, i ≤ a.length → a.drop i = b.drop i →
    ∃ c : Int, Ev (fun k => cadastreref02_Cmp.l0 k a b ((i : Int) - 1)) c ∧ (c < 0 ↔ bval a < bval b) ∧ (c = 0 ↔ bval a = bval b) := by
  intro i
  induction i with
  | zero =>
    intro _ h
    rw [List.drop_zero, List.drop_zero] at h
    subst h
    refine ⟨0, Ev.step (f := fun k => some _) (fun k => ?_) (Ev.now _), by simp, by simp⟩
    simp only [cadastreref02_Cmp.l0]
    rw [if_neg (by omega)]
  | succ i ih =>
    intro hi h
    have e1 : ((i + 1 : Nat) : Int) - 1 = (i : Int) := by omega
    have hw : wrap64 ((i : Int) - 1) = (i : Int) - 1 := bwin (by omega) (by omega)
    rw [e1]
    obtain ⟨ca, la⟩ := bval_cut a i (by omega)
    obtain ⟨cb, lb⟩ := bval_cut b i (by omega)
    have da := bval_drop a i
    have db := bval_drop b i
    rw [← h] at db
    unfold bitAt at da db
    have hga : a.drop i = a.getD i false :: a.drop (i + 1) := by
      rw [List.drop_eq_getElem_cons (show i < a.length by omega)]
      simp [show i < a.length by omega]
    have hgb : b.drop i = b.getD i false :: b.drop (i + 1) := by
      rw [List.drop_eq_getElem_cons (show i < b.length by omega)]
      simp [show i < b.length by omega]
    have hp := Nat.two_pow_pos i
    cases hx : a.getD i false <;> cases hy : b.getD i false
    · rw [hx] at hga
      rw [hy] at hgb
      obtain ⟨c, hc, hc'⟩ := ih (by omega) (by rw [hga, hgb, h])
      refine ⟨c, Ev.step (fun k => ?_) hc, hc'⟩
      simp only [cadastreref02_Cmp.l0]
      rw [if_pos (by omega), if_pos (by omega), if_pos (by omega), if_pos (by omega), rd_nat, rd_nat, hx, hy, hw, if_neg (by decide)]
    · rw [hx] at da
      rw [hy] at db
      have hlt : bval a < bval b := by
        rw [ca, cb, da, db]
        exact cut_lt _ _ _ _ la
      refine ⟨-1, Ev.step (f := fun k => some _) (fun k => ?_) (Ev.now _), by omega, by omega⟩
      simp only [cadastreref02_Cmp.l0]
      rw [if_pos (by omega), if_pos (by omega), if_pos (by omega), if_pos (by omega), rd_nat, rd_nat, hx, hy, if_pos (by decide), if_pos rfl]
    · rw [hx] at da
      rw [hy] at db
      have hlt : bval b < bval a := by
        rw [ca, cb, da, db]
        exact cut_lt _ _ _ _ lb
      refine ⟨1, Ev.step (f := fun k => some _) (fun k => ?_) (Ev.now _), by omega, by omega⟩
      simp only [cadastreref02_Cmp.l0]
      rw [if_pos (by omega), if_pos (by omega), if_pos (by omega), if_pos (by omega), rd_nat, rd_nat, hx, hy, if_pos (by decide), if_neg (by decide)]
    · rw [hx] at hga
      rw [hy] at hgb
      obtain ⟨c, hc, hc'⟩ := ih (by omega) (by rw [hga, hgb, h])
      refine ⟨c, Ev.step (fun k => ?_) hc, hc'⟩
      simp only [cadastreref02_Cmp.l0]
      rw [if_pos (by omega), if_pos (by omega), if_pos (by omega), if_pos (by omega), rd_nat, rd_nat, hx, hy, hw, if_neg (by decide)]
theorem len_lt {a b : Nat} (h : (big a).length < (big b).length) : a < b := by
  have h1 := (big_len_le a (big a).length).mp (Nat.le_refl _)
  have hb : b ≠ 0 := by
    rintro rfl
    rw [big_zero] at h
    simp at h
  have h2 := big_len_pos hb
  have h3 := Nat.pow_le_pow_right (show 0 < 2 by decide) (show (big a).length ≤ (big b).length - 1 by omega)
  omega
theorem bigcmp_ok (a b : Nat) (ha : (big a).length < 1000000) (hb : (big b).length < 1000000) :
    ∃ c : Int, Ev (fun k => cadastreref02_Cmp.f k (big a) (big b)) c ∧ (c < 0 ↔ a < b) ∧ (c = 0 ↔ a = b) := by
  by_cases h : (big a).length = (big b).length
  · obtain ⟨c, hc, h1, h2⟩ := cmp_l0 (big a) (big b) h ha (big a).length (Nat.le_refl _) (by rw [List.drop_of_length_le (Nat.le_refl _), List.drop_of_length_le (by omega)])
    rw [bval_big, bval_big] at h1 h2
    refine ⟨c, Ev.congr (fun k => ?_) hc, h1, h2⟩
    unfold cadastreref02_Cmp.f
    rw [if_pos (by omega), bwin (by omega) (by omega)]
  · refine ⟨((big a).length : Int) - ((big b).length : Int), Ev.congr (f := fun k => some _) (fun k => ?_) (Ev.now _), ?_⟩
    · unfold cadastreref02_Cmp.f
      rw [if_neg (by omega), bwin (by omega) (by omega)]
    · by_cases hl : (big a).length < (big b).length
      · have := len_lt hl
        omega
      · have := len_lt (show (big b).length < (big a).length by omega)
        omega

/-! ### Times -/
theorem drop_bit (n i : Nat) (h : i < (big n).length) : bval ((big n).drop i) = ((big n).getD i false).toNat + 2 * bval ((big n).drop (i + 1)) := bval_drop (big n) i
theorem len_mono {n m : Nat} (h : n ≤ m) : (big n).length ≤ (big m).length := by
  rw [big_len_le]
  have := (big_len_le m (big m).length).mp (Nat.le_refl _)
  omega
theorem len_of {n m : Nat} (h : n < 2 ^ m) (hm : m < 1000000) : (big n).length < 1000000 := Nat.lt_of_le_of_lt ((big_len_le n m).mpr h) hm
theorem len_add (r : Nat) (bit : Bool) : (big (bit.toNat + 2 * r)).length ≤ (big r).length + 1 := by
  rw [big_len_le, Nat.pow_succ]
  have := (big_len_le r (big r).length).mp (Nat.le_refl _)
  have := toNat_bit bit
  omega
theorem divide_l0 (a b : Nat) (ha : (big a).length < 900000) (hb : (big b).length < 900000) (h0 : 0 < b) : ∀ (i r : Nat) (q : List Bool), i ≤ (big a).length → q.length + i = (big a).length → bval ((big a).drop i) = bval q * b + r → r < b →
    Ev (fun k => cadastreref02_Divide.l0 k (big a) (big b) q (big r) ((i : Int) - 1)) (big (a / b), big (a % b)) := by
  intro i
  induction i with
  | zero =>
    intro r q hi hq hI hr
    obtain ⟨K, ht⟩ := trim_ok q (by omega)
    rw [List.drop_zero, bval_big] at hI
    have e1 : a / b = bval q := by
      rw [hI, Nat.mul_comm, Nat.mul_add_div h0, Nat.div_eq_of_lt hr, Nat.add_zero]
    have e2 : a % b = r := by
      rw [hI, Nat.mul_comm, Nat.mul_add_mod, Nat.mod_eq_of_lt hr]
    rw [e1, e2]
    refine Ev.step (f := fun k => (cadastreref02_Trim.f k q).bind fun t => some (t, big r)) (fun k => ?_) (Ev.bind ⟨K, ht⟩ (Ev.now _))
    simp only [cadastreref02_Divide.l0]
    rw [if_neg (by omega)]
  | succ i ih =>
    intro r q hi hq hI hr
    have e1 : ((i + 1 : Nat) : Int) - 1 = (i : Int) := by omega
    have hw : wrap64 ((i : Int) - 1) = (i : Int) - 1 := bwin (by omega) (by omega)
    rw [e1]
    have hd := drop_bit a i (by omega)
    rw [hI] at hd
    have hrl : (big r).length ≤ (big b).length := by
      rw [big_len_le]
      have := (big_len_le b (big b).length).mp (Nat.le_refl _)
      omega
    obtain ⟨bit, hbit⟩ : ∃ x, x = (big a).getD i false := ⟨_, rfl⟩
    rw [← hbit] at hd
    have hT : bval ([bit] ++ big r) = bit.toNat + 2 * r := by
      show bval (bit :: big r) = _
      rw [bval, bval_big]
    have ht := trim_ok ([bit] ++ big r) (by simp; omega)
    rw [hT] at ht
    have hlt := len_add r bit
    have hb1 := toNat_bit bit
    obtain ⟨c, hc, hc1, hc2⟩ := bigcmp_ok (bit.toNat + 2 * r) b (by omega) (by omega)
    obtain ⟨T, hTe⟩ : ∃ T, T = bit.toNat + 2 * r := ⟨_, rfl⟩
    rw [← hTe] at ht hc hc1 hc2 hlt
    by_cases hge : c ≥ 0
    · have hbT : b ≤ T := by omega
      have hm := bminus_ok (big T) (big b) (by omega) (by omega) (by rw [bval_big, bval_big]; exact hbT)
      rw [bval_big, bval_big] at hm
      have hn := ih (T - b) ([true] ++ q) (by omega) (by simp; omega) (by
        show _ = bval (true :: q) * b + _
        rw [hd, bval, Nat.add_mul, Nat.mul_assoc]
        simp
        omega) (by omega)
      refine Ev.step (f := fun k => (cadastreref02_Trim.f k ([bit] ++ big r)).bind fun t185 => ((cadastreref02_Cmp.f k t185 (big b)).bind fun t188 => (if t188 ≥ 0 then ((cadastreref02_Minus.f k t185 (big b)).bind fun t189 => cadastreref02_Divide.l0 k (big a) (big b) ([decide (t188 ≥ 0)] ++ q) t189 ((i : Int) - 1)) else cadastreref02_Divide.l0 k (big a) (big b) ([decide (t188 ≥ 0)] ++ q) t185 ((i : Int) - 1)))) (fun k => ?_) ?_
      · simp only [cadastreref02_Divide.l0]
        rw [if_pos (by omega), if_pos (by omega), if_pos (by omega), rd_nat, ← hbit, hw]
        simp only [Option.bind_some, List.length_cons, List.length_nil]
        rw [if_pos (by omega)]
        simp only [if_pos (show 0 + 1 + q.length < 140737488355328 by omega)]
      · refine Ev.bind ht (Ev.bind hc ?_)
        simp only [if_pos hge, decide_eq_true hge]
        exact Ev.bind hm hn
    · have hbT : T < b := by omega
      have hn := ih T ([false] ++ q) (by omega) (by simp; omega) (by
        show _ = bval (false :: q) * b + _
        rw [hd, bval, Nat.add_mul, Nat.mul_assoc]
        simp
        omega) (by omega)
      refine Ev.step (f := fun k => (cadastreref02_Trim.f k ([bit] ++ big r)).bind fun t185 => ((cadastreref02_Cmp.f k t185 (big b)).bind fun t188 => (if t188 ≥ 0 then ((cadastreref02_Minus.f k t185 (big b)).bind fun t189 => cadastreref02_Divide.l0 k (big a) (big b) ([decide (t188 ≥ 0)] ++ q) t189 ((i : Int) - 1)) else cadastreref02_Divide.l0 k (big a) (big b) ([decide (t188 ≥ 0)] ++ q) t185 ((i : Int) - 1)))) (fun k => ?_) ?_
      · simp only [cadastreref02_Divide.l0]
        rw [if_pos (by omega), if_pos (by omega), if_pos (by omega), rd_nat, ← hbit, hw]
        simp only [Option.bind_some, List.length_cons, List.length_nil]
        rw [if_pos (by omega)]
        simp only [if_pos (show 0 + 1 + q.length < 140737488355328 by omega)]
      · refine Ev.bind ht (Ev.bind hc ?_)
        simp only [if_neg hge, decide_eq_false hge]
        exact hn
theorem bigdivide_ok (a b : Nat) (ha : (big a).length < 900000) (hb : (big b).length < 900000) (h0 : 0 < b) : Ev (fun k => cadastreref02_Divide.f k (big a) (big b)) (big (a / b), big (a % b)) := by
  have := divide_l0 a b ha hb h0 (big a).length 0 [] (Nat.le_refl _) (by simp) (by rw [List.drop_of_length_le (Nat.le_refl _)]; simp [bval]) h0
  rw [big_zero] at this
  refine Ev.congr (fun k => ?_) this
  unfold cadastreref02_Divide.f
  rw [bwin (by omega) (by omega)]

/-! ### Small -/
theorem small_l0 (l : List Bool) (hl : l.length ≤ 63) : ∀ i : Nat, i ≤ l.length → Ev (fun k => cadastreref02_Small.l0 k l (bval (l.drop i) : Int) ((i : Int) - 1)) (bval l : Int) := by
  intro i
  induction i with
  | zero =>
    intro _
    refine Ev.step (f := fun k => some _) (fun k => ?_) (Ev.now _)
    simp only [cadastreref02_Small.l0]
    rw [if_neg (by omega), List.drop_zero]
  | succ i ih =>
    intro hi
    have e1 : ((i + 1 : Nat) : Int) - 1 = (i : Int) := by omega
    have hw : wrap64 ((i : Int) - 1) = (i : Int) - 1 := bwin (by omega) (by omega)
    have hb := bval_lt (l.drop i)
    rw [List.length_drop] at hb
    have h63 : 2 ^ (l.length - i) ≤ 2 ^ 63 := Nat.pow_le_pow_right (by decide) (by omega)
    have h63' : bval (l.drop i) < 9223372036854775808 := Nat.lt_of_lt_of_le hb h63
    have hd := bval_drop l i
    have hbit := bitAt_le l i
    refine Ev.step (fun k => ?_) (ih (by omega))
    simp only [cadastreref02_Small.l0]
    rw [e1, if_pos (by omega), at_ok]
    simp only [Option.bind_some]
    rw [hw, bwuN (n := (bitAt l i : Int)) (by omega) (by omega), bwuN (n := 2 * _) (by omega) (by omega), bwuN (by omega) (by omega), hd]
    congr 1
    omega
theorem bigsmall_ok (n : Nat) (h : (big n).length ≤ 63) : Ev (fun k => cadastreref02_Small.f k (big n)) (n : Int) := by
  have := small_l0 (big n) h (big n).length (Nat.le_refl _)
  rw [List.drop_of_length_le (Nat.le_refl _), bval_big] at this
  refine Ev.congr (fun k => ?_) this
  unfold cadastreref02_Small.f
  rw [bwin (by omega) (by omega)]
  rfl

/-! ### Even -/
/-- The whole number nearest to a / b, of two the even one. -/
def rhe (a b : Nat) : Nat := if b < 2 * (a % b) then a / b + 1 else if 2 * (a % b) = b then a / b + a / b % 2 else a / b
theorem even_j0 (q : Nat) (up : Bool) (hq : (big q).length < 1000000) : Ev (fun k => cadastreref02_Even.j0 k (big q) up) (big (q + up.toNat)) := by
  cases up with
  | true =>
    have h1 := of_ok 1 (by decide)
    have h2 := bplus_ok (big q) (big 1) hq (len_of (m := 1) (by decide) (by decide))
    rw [bval_big, bval_big] at h2
    refine Ev.step (f := fun k => (cadastreref02_Of.f k 1).bind fun t => (cadastreref02_Plus.f k (big q) t).bind fun s => some s) (fun k => ?_) (Ev.bind h1 (Ev.bind h2 (Ev.now _)))
    rw [cadastreref02_Even.j0, if_pos rfl]
  | false =>
    refine Ev.step (f := fun k => some _) (fun k => ?_) (Ev.now _)
    rw [cadastreref02_Even.j0, if_neg (by decide)]
    rfl
theorem bigeven_ok (a b : Nat) (ha : (big a).length < 900000) (hb : (big b).length < 900000) (h0 : 0 < b) : Ev (fun k => cadastreref02_Even.f k (big a) (big b)) (big (rhe a b)) := by
  have hr : a % b < b := Nat.mod_lt _ h0
  have hql : (big (a / b)).length < 900000 := by
    refine Nat.lt_of_le_of_lt ?_ ha
    rw [big_len_le]
    have := (big_len_le a (big a).length).mp (Nat.le_refl _)
    have := Nat.div_le_self a b
    omega
  have hrl : (big (a % b)).length < 900000 := by
    refine Nat.lt_of_le_of_lt ?_ hb
    rw [big_len_le]
    have := (big_len_le b (big b).length).mp (Nat.le_refl _)
    omega
  have hrl2 : (big (a % b * 2 ^ 1)).length < 1000000 := by
    have := len_add (a % b) false
    rw [show a % b * 2 ^ 1 = false.toNat + 2 * (a % b) by simp; omega]
    omega
  have hd := bigdivide_ok a b ha hb h0
  have hu := bigup_ok (a % b) 1 (by decide) (by omega)
  obtain ⟨c, hc, hc1, hc2⟩ := bigcmp_ok (a % b * 2 ^ 1) b hrl2 (by omega)
  rw [Nat.pow_one] at hu hc hc1 hc2
  refine Ev.bind hd ?_
  refine Ev.bind hu (Ev.bind hc ?_)
  unfold rhe
  by_cases g : c > 0
  · rw [if_pos (by omega)]
    simp only [if_pos g]
    exact even_j0 (a / b) true (by omega)
  · simp only [if_neg g]
    rw [if_neg (by omega)]
    by_cases z : c = 0
    · rw [if_pos (by omega)]
      simp only [if_pos z]
      have hat : cadastreref02_at.f (big (a / b)) 0 = some ((a / b % 2 : Nat) : Int) := by
        have := at_ok (big (a / b)) 0
        have h1 := bval_drop (big (a / b)) 0
        rw [List.drop_zero, bval_big] at h1
        have h2 := bitAt_le (big (a / b)) 0
        rw [show a / b % 2 = bitAt (big (a / b)) 0 by omega]
        exact this
      refine Ev.congr (f := fun k => cadastreref02_Even.j0 k (big (a / b)) (((a / b % 2 : Nat) : Int) == 1)) (fun k => ?_) ?_
      · rw [hat]
        rfl
      · have hm : a / b % 2 = ((((a / b % 2 : Nat) : Int) == 1)).toNat := by
          have : a / b % 2 = 0 ∨ a / b % 2 = 1 := by omega
          rcases this with h | h <;> rw [h] <;> rfl
        have := even_j0 (a / b) (((a / b % 2 : Nat) : Int) == 1) (by omega)
        rw [← hm] at this
        exact this
    · rw [if_neg (by omega)]
      simp only [if_neg z]
      exact even_j0 (a / b) false (by omega)
end Go.Proofs.Ytkhbkhbkcpmiiaa.PReal
