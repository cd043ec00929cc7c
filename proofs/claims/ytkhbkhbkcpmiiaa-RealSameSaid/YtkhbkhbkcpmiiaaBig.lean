/- Whole numbers as lists of bits, the lowest first, no nought highest: what the printed functions of cadastreref02's numbers of any size tell: bits, sums, differences, products, which is greater, values. -/
import Derived.Test.YtkhbkhbkcpmiiaaPRealx4
import Derived.Test.YtkhbkhbkcpmiiaaPRealx4
import Derived.Test.YtkhbkhbkcpmiiaaPRealx4
import Derived.Test.YtkhbkhbkcpmiiaaPRealx4
import Derived.Test.YtkhbkhbkcpmiiaaPRealx4
import Derived.Test.YtkhbkhbkcpmiiaaPRealx5
import Derived.Test.YtkhbkhbkcpmiiaaPRealx5
import Derived.Test.YtkhbkhbkcpmiiaaPRealx5
namespace Go.Proofs.Ytkhbkhbkcpmiiaa.PReal
open Go.RowKit Go.Proofs.YtkhbkhbkcpmiiaaW.PrintWords Go.Proofs.YtkhbkhbkcpmiiaaW.PrintLast Go.Proofs.YtkhbkhbkcpmiiaaW.PrintMore
set_option linter.unusedVariables false
set_option linter.unusedSimpArgs false

theorem bw64 (n : Int) : wrap64 n = (n + 9223372036854775808) % 18446744073709551616 - 9223372036854775808 := by unfold wrap64; omega
theorem bwin {n : Int} (h0 : -9223372036854775808 ≤ n) (h1 : n < 9223372036854775808) : wrap64 n = n := by rw [bw64]; omega
theorem bwu (n : Int) : IntKind.u64.wrap n = n % 18446744073709551616 := by simp [IntKind.wrap, IntKind.bits, IntKind.signed]
theorem bwuN {n : Int} (h0 : 0 ≤ n) (h1 : n < 18446744073709551616) : IntKind.u64.wrap n = n := by rw [bwu]; omega

/-- A list of bits' value. -/
def bval : List Bool → Nat
  | [] => 0
  | b :: l => b.toNat + 2 * bval l
/-- A number's bits. -/
def big (n : Nat) : List Bool := if h : n = 0 then [] else (n % 2 == 1) :: big (n / 2)
termination_by n
decreasing_by omega

theorem big_zero : big 0 = [] := by rw [big]; rfl
theorem big_pos {n : Nat} (h : n ≠ 0) : big n = (n % 2 == 1) :: big (n / 2) := by rw [big, dif_neg h]
theorem bval_big : ∀ n, bval (big n) = n := by
  intro n
  induction n using Nat.strongRecOn with
  | _ n ih =>
    by_cases h : n = 0
    · subst h
      rw [big_zero]
      rfl
    · rw [big_pos h, bval, ih (n / 2) (by omega)]
      have : (n % 2 == 1).toNat = n % 2 := by
        have : n % 2 = 0 ∨ n % 2 = 1 := by omega
        rcases this with h1 | h1 <;> rw [h1] <;> rfl
      omega
theorem bval_append : ∀ a b : List Bool, bval (a ++ b) = bval a + 2 ^ a.length * bval b
  | [], b => by simp [bval]
  | x :: a, b => by
    rw [List.cons_append, bval, bval, bval_append a b, List.length_cons, Nat.pow_succ, Nat.mul_add, Nat.mul_right_comm, Nat.mul_comm (2 ^ a.length * bval b) 2, ← Nat.mul_assoc]
    omega
theorem bval_lt : ∀ l : List Bool, bval l < 2 ^ l.length
  | [] => by simp [bval]
  | b :: l => by
    have := bval_lt l
    rw [bval, List.length_cons, Nat.pow_succ]
    cases b <;> simp <;> omega
theorem toNat_bit (b : Bool) : b.toNat = 0 ∨ b.toNat = 1 := by cases b <;> simp
theorem big_cons (b : Bool) (n : Nat) (h : b.toNat + 2 * n ≠ 0) : big (b.toNat + 2 * n) = b :: big n := by
  rw [big_pos h]
  have h1 : (b.toNat + 2 * n) % 2 = b.toNat := by rcases toNat_bit b with h | h <;> omega
  have h2 : (b.toNat + 2 * n) / 2 = n := by rcases toNat_bit b with h | h <;> omega
  rw [h1, h2]
  cases b <;> rfl
theorem bval_top : ∀ l : List Bool, bval (l ++ [true]) ≠ 0
  | [] => by simp [bval]
  | b :: l => by
    have := bval_top l
    rw [List.cons_append, bval]
    omega
theorem big_top : ∀ l : List Bool, big (bval (l ++ [true])) = l ++ [true]
  | [] => by rw [show bval ([] ++ [true]) = 1 by rfl, big_pos (by decide), show (1 : Nat) / 2 = 0 by rfl, big_zero]; rfl
  | b :: l => by
    have h := bval_top (b :: l)
    rw [List.cons_append, bval] at h ⊢
    rw [big_cons _ _ h, big_top l]
theorem bval_snoc_false (l : List Bool) : bval (l ++ [false]) = bval l := by rw [bval_append]; simp [bval]
theorem big_len_le (n m : Nat) : (big n).length ≤ m ↔ n < 2 ^ m := by
  induction m generalizing n with
  | zero =>
    constructor
    · intro h
      by_cases h0 : n = 0
      · omega
      · rw [big_pos h0] at h
        simp at h
    · intro h
      have : n = 0 := by omega
      subst this
      rw [big_zero]
      simp
  | succ m ih =>
    by_cases h0 : n = 0
    · subst h0
      rw [big_zero]
      simp [Nat.two_pow_pos]
    · rw [big_pos h0, List.length_cons, Nat.pow_succ]
      have := ih (n / 2)
      omega
theorem big_len_pos {n : Nat} (h : n ≠ 0) : 2 ^ ((big n).length - 1) ≤ n := by
  by_cases h1 : 2 ^ ((big n).length - 1) ≤ n
  · exact h1
  · have := (big_len_le n ((big n).length - 1)).mpr (by omega)
    have h2 : (big n).length ≠ 0 := by
      intro h3
      have := (big_len_le n 0).mp (by omega)
      omega
    omega
theorem big_len_zero {n : Nat} : (big n).length = 0 ↔ n = 0 := by
  constructor
  · intro h
    have := (big_len_le n 0).mp (by omega)
    omega
  · rintro rfl
    rw [big_zero]
    rfl

/-! ### Trim, at -/
theorem take_snoc' (l : List Bool) (n : Nat) (h : n < l.length) : l.take (n + 1) = l.take n ++ [l[n]] := by
  rw [List.take_succ_eq_append_getElem h]
theorem trim_l0 (l : List Bool) (hl : l.length < 9223372036854775807) : ∀ n : Nat, n ≤ l.length → Ev (fun k => cadastreref02_Trim.l0 k l (n : Int)) (big (bval (l.take n))) := by
  intro n
  induction n with
  | zero =>
    intro _
    refine Ev.step (f := fun k => some _) (fun k => ?_) (Ev.now _)
    simp only [cadastreref02_Trim.l0]
    rw [if_neg (by omega), if_pos (by omega), if_pos (by omega)]
    simp [bval, big_zero]
  | succ n ih =>
    intro hn
    have hw : wrap64 (((n + 1 : Nat) : Int) - 1) = (n : Int) := by rw [bw64]; omega
    have hr : rdOf false l (n : Int) = l[n] := by
      unfold rdOf
      rw [Int.toNat_natCast]
      simp [show n < l.length from hn]
    rw [take_snoc' l n hn]
    cases hb : l[n] with
    | true =>
      refine Ev.step (f := fun k => some _) (fun k => ?_) (Ev.now _)
      simp only [cadastreref02_Trim.l0]
      rw [if_pos (by omega), hw, if_pos (by omega), if_pos (by omega), hr, hb, if_pos rfl, if_pos (by omega), if_pos (by omega), big_top, Int.toNat_natCast, take_snoc' l n hn, hb]
    | false =>
      rw [bval_snoc_false]
      refine Ev.step (f := fun k => cadastreref02_Trim.l0 k l (n : Int)) (fun k => ?_) (ih (by omega))
      simp only [cadastreref02_Trim.l0]
      rw [if_pos (by omega), hw, if_pos (by omega), if_pos (by omega), hr, hb, if_neg (by decide)]
theorem trim_ok (l : List Bool) (hl : l.length < 9223372036854775807) : Ev (fun k => cadastreref02_Trim.f k l) (big (bval l)) := by
  have h := trim_l0 l hl l.length (Nat.le_refl _)
  rw [List.take_length] at h
  exact h

/-- A bit, 0 behind the end. -/
def bitAt (l : List Bool) (i : Nat) : Nat := (l.getD i false).toNat
theorem at_ok (l : List Bool) (i : Nat) : cadastreref02_at.f l (i : Int) = some (bitAt l i : Int) := by
  unfold cadastreref02_at.f bitAt rdOf
  rw [Int.toNat_natCast]
  by_cases h : (i : Int) < (l.length : Int)
  · rw [if_pos h, if_pos (by omega)]
    cases l.getD i false <;> rfl
  · rw [if_neg h]
    have : l.getD i false = false := by
      rw [List.getD_eq_getElem?_getD, List.getElem?_eq_none (by omega)]
      rfl
    rw [this]
    rfl
theorem bval_drop (l : List Bool) (i : Nat) : bval (l.drop i) = bitAt l i + 2 * bval (l.drop (i + 1)) := by
  unfold bitAt
  by_cases h : i < l.length
  · rw [List.drop_eq_getElem_cons h, bval]
    simp [h]
  · rw [List.drop_of_length_le (by omega), List.drop_of_length_le (by omega)]
    rw [List.getD_eq_getElem?_getD, List.getElem?_eq_none (by omega)]
    rfl
theorem bitAt_le (l : List Bool) (i : Nat) : bitAt l i ≤ 1 := by
  unfold bitAt
  cases l.getD i false <;> simp

/-! ### Of, Up -/
theorem of_l0 : ∀ (m n : Nat) (acc : List Bool), n < 2 ^ m → m ≤ 64 → acc.length + m < 140737488355328 → Ev (fun k => cadastreref02_Of.l0 k (n : Int) acc) (acc ++ big n) := by
  intro m
  induction m with
  | zero =>
    intro n acc hn hm hl
    have : n = 0 := by omega
    subst this
    refine Ev.step (f := fun k => some _) (fun k => ?_) (Ev.now _)
    simp only [cadastreref02_Of.l0]
    rw [if_neg (by omega), big_zero, List.append_nil]
  | succ m ih =>
    intro n acc hn hm hl
    by_cases h0 : n = 0
    · subst h0
      refine Ev.step (f := fun k => some _) (fun k => ?_) (Ev.now _)
      simp only [cadastreref02_Of.l0]
      rw [if_neg (by omega), big_zero, List.append_nil]
    · have hlt : n < 18446744073709551616 := by
        have := Nat.pow_le_pow_right (show 0 < 2 by decide) hm
        omega
      have h := ih (n / 2) (acc ++ [(n % 2 == 1)]) (by rw [Nat.pow_succ] at hn; omega) (by omega) (by simp; omega)
      rw [big_pos h0]
      rw [List.append_assoc, List.singleton_append] at h
      refine Ev.step (f := fun k => cadastreref02_Of.l0 k ((n / 2 : Nat) : Int) (acc ++ [(n % 2 == 1)])) (fun k => ?_) h
      simp only [cadastreref02_Of.l0]
      have e1 : IntKind.u64.wrap (Int.tdiv (n : Int) 2) = ((n / 2 : Nat) : Int) := by rw [Int.tdiv_eq_ediv_of_nonneg (by omega), bwuN (by omega) (by omega)]; rfl
      have e2 : ((Int.tmod (n : Int) 2) == 1) = (n % 2 == 1) := by
        rw [Int.tmod_eq_emod_of_nonneg (by omega), Bool.eq_iff_iff, beq_iff_eq, beq_iff_eq]
        omega
      rw [if_pos (by omega), if_pos (by omega), e1, e2]
theorem of_ok (n : Nat) (h : n < 18446744073709551616) : Ev (fun k => cadastreref02_Of.f k (n : Int)) (big n) := by
  have := of_l0 64 n [] (by omega) (by omega) (by simp)
  exact this

theorem bval_rep (n : Nat) : ∀ l : List Bool, bval (List.replicate n false ++ l) = 2 ^ n * bval l := by
  intro l
  rw [bval_append]
  have : bval (List.replicate n false) = 0 := by
    induction n with
    | zero => rfl
    | succ n ih => rw [List.replicate_succ, bval, ih]; rfl
  rw [this, List.length_replicate]
  omega
theorem big_up (n : Nat) : ∀ m : Nat, m ≠ 0 → List.replicate n false ++ big m = big (m * 2 ^ n) := by
  induction n with
  | zero => intro m _; simp
  | succ n ih =>
    intro m hm
    have hp := Nat.two_pow_pos n
    have hne : m * 2 ^ n ≠ 0 := Nat.mul_ne_zero hm (by omega)
    rw [List.replicate_succ, List.cons_append, ih m hm, Nat.pow_succ, ← Nat.mul_assoc]
    have := big_cons false (m * 2 ^ n) (by simp; omega)
    simp only [Bool.toNat_false, Nat.zero_add] at this
    rw [← this, Nat.mul_comm 2]
theorem up_l0 (l : List Bool) (n : Nat) (hn : n < 1000000) (hl : l.length < 1000000) : ∀ (d i : Nat), i + d = n → Ev (fun k => cadastreref02_Up.l0 k l (n : Int) (List.replicate i false) (i : Int)) (List.replicate n false ++ l) := by
  intro d
  induction d with
  | zero =>
    intro i hi
    obtain rfl : i = n := by omega
    refine Ev.step (f := fun k => some _) (fun k => ?_) (Ev.now _)
    simp only [cadastreref02_Up.l0]
    rw [if_neg (by omega), if_pos (by simp; omega)]
  | succ d ih =>
    intro i hi
    refine Ev.step (f := fun k => cadastreref02_Up.l0 k l (n : Int) (List.replicate (i + 1) false) ((i + 1 : Nat) : Int)) (fun k => ?_) (ih (i + 1) (by omega))
    simp only [cadastreref02_Up.l0]
    rw [if_pos (by omega), if_pos (by simp; omega), List.replicate_succ', show wrap64 ((i : Int) + 1) = ((i + 1 : Nat) : Int) by rw [bw64]; omega]
theorem bigup_ok (m n : Nat) (hn : n < 1000000) (hm : (big m).length < 1000000) : Ev (fun k => cadastreref02_Up.f k (big m) (n : Int)) (big (m * 2 ^ n)) := by
  by_cases h : m = 0
  · subst h
    refine Ev.congr (f := fun k => some _) (fun k => ?_) (Ev.now _)
    unfold cadastreref02_Up.f
    rw [Nat.zero_mul, big_zero]
    rfl
  · have h1 := up_l0 (big m) n hn hm n 0 (by omega)
    rw [big_up n m h] at h1
    obtain ⟨K, h1⟩ := h1
    refine ⟨K, fun k hk => ?_⟩
    have h1 := h1 k hk
    dsimp only at h1 ⊢
    unfold cadastreref02_Up.f
    have : (big m).length ≠ 0 := fun h2 => h (big_len_zero.mp h2)
    rw [if_neg (by omega)]
    exact h1

/-! ### Plus, Minus -/
theorem plus_bits (x y c s : Nat) (hx : x ≤ 1) (hy : y ≤ 1) (hc : c ≤ 1) (hs : s = x + y + c) :
    wrap64 ((wrap64 ((x : Int) + (y : Int))) + (c : Int)) = (s : Int) ∧ ((Int.tmod (s : Int) 2) == 1) = (s % 2 == 1) ∧ wrap64 (Int.tdiv (s : Int) 2) = ((s / 2 : Nat) : Int) := by
  refine ⟨by rw [bwin (n := (x : Int) + y) (by omega) (by omega), bwin (by omega) (by omega)]; omega, ?_, ?_⟩
  · rw [Int.tmod_eq_emod_of_nonneg (by omega), Bool.eq_iff_iff, beq_iff_eq, beq_iff_eq]
    omega
  · rw [Int.tdiv_eq_ediv_of_nonneg (by omega), bwin (by omega) (by omega)]
    rfl
theorem wrap_succ (i : Nat) (h : i < 1000000000000) : wrap64 ((i : Int) + 1) = ((i + 1 : Nat) : Int) := by rw [bwin (by omega) (by omega)]; omega
theorem minus_bits (x y c : Nat) (hx : x ≤ 1) (hy : y ≤ 1) (hc : c ≤ 1) : wrap64 ((wrap64 ((x : Int) - (y : Int))) - (c : Int)) = (x : Int) - y - c ∧ wrap64 ((x : Int) - y - c + 2) = (x : Int) - y - c + 2 :=
  ⟨by rw [bwin (n := (x : Int) - y) (by omega) (by omega), bwin (by omega) (by omega)], bwin (by omega) (by omega)⟩
theorem plus_l0 (a b : List Bool) (ha : a.length < 1000000) (hb : b.length < 1000000) : ∀ (d i : Nat) (out : List Bool) (c : Nat), out.length = i → c ≤ 1 → (max a.length b.length + 1 = i + d ∨ max a.length b.length ≤ i ∧ c = 0 ∧ d = 0) → i ≤ max a.length b.length + 1 →
    (i = max a.length b.length + 1 → c = 0) →
    Ev (fun k => cadastreref02_Plus.l0 k a b out (c : Int) (i : Int)) (big (bval out + 2 ^ i * (bval (a.drop i) + bval (b.drop i) + c))) := by
  intro d
  induction d with
  | zero =>
    intro i out c ho hc hd hi hz
    have hia : a.length ≤ i ∧ b.length ≤ i := by omega
    have hc0 : c = 0 := by
      rcases hd with h | h
      · exact hz (by omega)
      · exact h.2.1
    subst hc0
    obtain ⟨K, ht⟩ := trim_ok out (by omega)
    refine ⟨K + 2, fun k hk => ?_⟩
    obtain ⟨k, rfl⟩ : ∃ m, k = m + 1 + 1 := ⟨k - 2, by omega⟩
    have ht := ht k (by omega)
    dsimp only at ht ⊢
    rw [cadastreref02_Plus.l0, if_neg (by omega), if_neg (by omega), decide_eq_false (by omega), cadastreref02_Plus.j1, if_neg (by decide), ht, List.drop_of_length_le hia.1, List.drop_of_length_le hia.2]
    simp [bval]
  | succ d ih =>
    intro i out c ho hc hd hi hz
    have hda := bval_drop a i
    have hdb := bval_drop b i
    have ba := bitAt_le a i
    have bb := bitAt_le b i
    by_cases hend : max a.length b.length ≤ i ∧ c = 0
    · obtain ⟨h1, h2⟩ := hend
      subst h2
      have hia : a.length ≤ i ∧ b.length ≤ i := by omega
      obtain ⟨K, ht⟩ := trim_ok out (by omega)
      refine ⟨K + 2, fun k hk => ?_⟩
      obtain ⟨k, rfl⟩ : ∃ m, k = m + 1 + 1 := ⟨k - 2, by omega⟩
      have ht := ht k (by omega)
      dsimp only at ht ⊢
      rw [cadastreref02_Plus.l0, if_neg (by omega), if_neg (by omega), decide_eq_false (by omega), cadastreref02_Plus.j1, if_neg (by decide), ht, List.drop_of_length_le hia.1, List.drop_of_length_le hia.2]
      simp [bval]
    · have hs : ∃ s, s = bitAt a i + bitAt b i + c := ⟨_, rfl⟩
      obtain ⟨s, hs⟩ := hs
      have hnext : i + 1 = max a.length b.length + 1 → s / 2 = 0 := by
        intro h
        have : bitAt a i = 0 ∧ bitAt b i = 0 := by
          unfold bitAt
          rw [List.getD_eq_getElem?_getD, List.getD_eq_getElem?_getD, List.getElem?_eq_none (by omega), List.getElem?_eq_none (by omega)]
          simp
        omega
      have key := ih (i + 1) (out ++ [(s % 2 == 1)]) (s / 2) (by simp [ho]) (by omega) (by omega) (by omega) hnext
      have e : bval (out ++ [(s % 2 == 1)]) + 2 ^ (i + 1) * (bval (a.drop (i + 1)) + bval (b.drop (i + 1)) + s / 2) = bval out + 2 ^ i * (bval (a.drop i) + bval (b.drop i) + c) := by
        rw [bval_append, ho, hda, hdb, Nat.pow_succ]
        have : bval [(s % 2 == 1)] = s % 2 := by
          have h2 : s % 2 = 0 ∨ s % 2 = 1 := by omega
          rcases h2 with h2 | h2 <;> rw [h2] <;> rfl
        rw [this, Nat.add_assoc, Nat.mul_assoc, ← Nat.mul_add]
        congr 2
        omega
      rw [e] at key
      have hlen : out.length < 140737488355328 := by omega
      have hi6 : i < 1000000000000 := by omega
      have stp : Ev (fun k => cadastreref02_Plus.j1 k a b out (c : Int) (i : Int) true) (big (bval out + 2 ^ i * (bval (a.drop i) + bval (b.drop i) + c))) := by
        refine Ev.step (f := fun k => cadastreref02_Plus.l0 k a b (out ++ [(s % 2 == 1)]) ((s / 2 : Nat) : Int) ((i + 1 : Nat) : Int)) (fun k => ?_) key
        simp only [cadastreref02_Plus.j1, ↓reduceIte]
        rw [at_ok, at_ok]
        simp only [Option.bind_some]
        obtain ⟨e1, e2, e3⟩ := plus_bits _ _ _ s ba bb hc hs
        rw [if_pos hlen, e1, e2, e3, wrap_succ i hi6]
      refine Ev.step (f := fun k => cadastreref02_Plus.j1 k a b out (c : Int) (i : Int) true) (fun k => ?_) stp
      simp only [cadastreref02_Plus.l0]
      by_cases h1 : (i : Int) < (a.length : Int)
      · rw [if_pos h1]
      · rw [if_neg h1]
        by_cases h2 : (i : Int) < (b.length : Int)
        · rw [if_pos h2]
        · rw [if_neg h2, decide_eq_true (by omega)]
theorem bplus_ok (a b : List Bool) (ha : a.length < 1000000) (hb : b.length < 1000000) : Ev (fun k => cadastreref02_Plus.f k a b) (big (bval a + bval b)) := by
  have h := plus_l0 a b ha hb (max a.length b.length + 1) 0 [] 0 rfl (by omega) (by omega) (by omega) (by omega)
  simp only [bval, Nat.pow_zero, List.drop_zero, Nat.add_zero, Nat.one_mul, Nat.zero_add] at h
  exact h

theorem minus_l0 (a b : List Bool) (ha : a.length < 1000000) (hb : b.length < 1000000) (hab : bval b ≤ bval a) : ∀ (d i : Nat) (out : List Bool) (c : Nat), out.length = i → c ≤ 1 → i + d = a.length →
    (bval out : Int) + 2 ^ i * ((bval (a.drop i) : Int) - bval (b.drop i) - c) = (bval a : Int) - bval b →
    Ev (fun k => cadastreref02_Minus.l0 k a b out (c : Int) (i : Int)) (big (bval a - bval b)) := by
  intro d
  induction d with
  | zero =>
    intro i out c ho hc hi hI
    obtain ⟨K, ht⟩ := trim_ok out (by omega)
    refine ⟨K + 1, fun k hk => ?_⟩
    obtain ⟨k, rfl⟩ : ∃ m, k = m + 1 := ⟨k - 1, by omega⟩
    have ht := ht k (by omega)
    dsimp only at ht ⊢
    rw [cadastreref02_Minus.l0, if_neg (by omega), ht]
    have hlt := bval_lt out
    rw [ho] at hlt
    rw [List.drop_of_length_le (show a.length ≤ i by omega)] at hI
    have hz : bval (b.drop i) + c = 0 := by
      by_cases hz : bval (b.drop i) + c = 0
      · exact hz
      · exfalso
        have h1 : (2 : Int) ^ i * 1 ≤ 2 ^ i * ((bval (b.drop i) : Int) + c) := Int.mul_le_mul_of_nonneg_left (by omega) (Int.le_of_lt (Int.pow_pos (by decide)))
        have h2 : (2 : Int) ^ i * (((bval ([] : List Bool) : Nat) : Int) - bval (b.drop i) - c) = -(2 ^ i * ((bval (b.drop i) : Int) + c)) := by
          rw [← Int.mul_neg]
          congr 1
          simp [bval]
          omega
        rw [h2] at hI
        have h3 : (bval out : Int) < 2 ^ i := by exact_mod_cast hlt
        omega
    have : bval out = bval a - bval b := by
      have h4 : ((bval ([] : List Bool) : Nat) : Int) - bval (b.drop i) - c = 0 := by
        simp [bval]
        omega
      rw [h4, Int.mul_zero] at hI
      omega
    rw [this]
    rfl
  | succ d ih =>
    intro i out c ho hc hi hI
    have hda := bval_drop a i
    have hdb := bval_drop b i
    have ba := bitAt_le a i
    have bb := bitAt_le b i
    -- what stands at this place, and what is borrowed
    have go : ∀ (bit : Bool) (c' : Nat), c' ≤ 1 → (bitAt a i : Int) - bitAt b i - c = (bit.toNat : Int) - 2 * c' →
        Ev (fun k => cadastreref02_Minus.l0 k a b (out ++ [bit]) (c' : Int) ((i + 1 : Nat) : Int)) (big (bval a - bval b)) := by
      intro bit c' hc' hb'
      refine ih (i + 1) (out ++ [bit]) c' (by simp [ho]) hc' (by omega) ?_
      rw [bval_append, ho, Int.pow_succ]
      have hbit : bval [bit] = bit.toNat := by simp [bval]
      rw [hbit, ← hI, hda, hdb]
      simp only [Int.natCast_add, Int.natCast_mul, Int.natCast_pow]
      have e : (2 : Int) ^ i * (((bitAt a i : Int) + (2 : Nat) * (bval (List.drop (i + 1) a) : Int)) - ((bitAt b i : Int) + (2 : Nat) * (bval (List.drop (i + 1) b) : Int)) - c) = 2 ^ i * (bit.toNat : Int) + 2 ^ i * 2 * ((bval (List.drop (i + 1) a) : Int) - bval (List.drop (i + 1) b) - c') := by
        rw [Int.mul_assoc, ← Int.mul_add]
        congr 1
        omega
      rw [e]
      have e2 : ((2 : Nat) : Int) = 2 := rfl
      rw [e2]
      omega
    have hlen : out.length < 140737488355328 := by omega
    clear hI ih hda hdb
    have hw := wrap_succ i (by omega)
    obtain ⟨hx, hx2⟩ := minus_bits (bitAt a i) (bitAt b i) c ba bb hc
    by_cases hneg : (bitAt a i : Int) - bitAt b i - c < 0
    · refine Ev.step (f := fun k => cadastreref02_Minus.l0 k a b (out ++ [((bitAt a i : Int) - bitAt b i - c + 2 == 1)]) ((1 : Nat) : Int) ((i + 1 : Nat) : Int)) (fun k => ?_) (go _ 1 (by omega) ?_)
      · simp only [cadastreref02_Minus.l0]
        rw [if_pos (by omega), at_ok, at_ok]
        simp only [Option.bind_some]
        rw [hx, if_pos hneg, if_pos hlen, hw, hx2]
        rfl
      · have : (bitAt a i : Int) - bitAt b i - c = -1 ∨ (bitAt a i : Int) - bitAt b i - c = -2 := by omega
        rcases this with h | h <;> rw [h] <;> decide
    · refine Ev.step (f := fun k => cadastreref02_Minus.l0 k a b (out ++ [((bitAt a i : Int) - bitAt b i - c == 1)]) ((0 : Nat) : Int) ((i + 1 : Nat) : Int)) (fun k => ?_) (go _ 0 (by omega) ?_)
      · simp only [cadastreref02_Minus.l0]
        rw [if_pos (by omega), at_ok, at_ok]
        simp only [Option.bind_some]
        rw [hx, if_neg hneg, if_pos hlen, hw]
        rfl
      · have : (bitAt a i : Int) - bitAt b i - c = 0 ∨ (bitAt a i : Int) - bitAt b i - c = 1 := by omega
        rcases this with h | h <;> rw [h] <;> decide
theorem bminus_ok (a b : List Bool) (ha : a.length < 1000000) (hb : b.length < 1000000) (hab : bval b ≤ bval a) : Ev (fun k => cadastreref02_Minus.f k a b) (big (bval a - bval b)) := by
  have h := minus_l0 a b ha hb hab a.length 0 [] 0 rfl (by omega) (by omega) (by simp [bval])
  exact h
end Go.Proofs.Ytkhbkhbkcpmiiaa.PReal
