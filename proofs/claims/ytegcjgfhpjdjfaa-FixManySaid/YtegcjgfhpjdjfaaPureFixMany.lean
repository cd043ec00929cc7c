/- Sums of many numbers: for each sum s of 128 bits, each list of numbers of 64 bits and each count, fix.Plus, fix.Less and fix.Told tell what the document's tell, and when all have gone again, in another order, the sum is s. The condition: the list has fewer than 2^62 numbers. -/
import Derived.Test.YtegcjgfhpjdjfaaMany
import Derived.Test.YtegcjgfhpjdjfaaPFixx30
namespace Go.Proofs.Ytegcjgfhpjdjfaa.Pure
open Go.RowKit Go.Proofs.Ytegcjgfhpjdjfaa.PFix Go.Proofs.YtegcjgfhpjdjfaaW.PrintWords Go.Proofs.YtegcjgfhpjdjfaaW.PrintLast Go.Proofs.YtegcjgfhpjdjfaaW.PrintMore
set_option linter.unusedVariables false
set_option linter.unusedSimpArgs false

theorem accV (hi lo : Int) (h0 : -9223372036854775808 ≤ hi) (h1 : hi ≤ 9223372036854775807) (l0 : 0 ≤ lo) (l1 : lo ≤ 18446744073709551615) :
    ∃ V, 0 ≤ V ∧ V < 340282366920938463463374607431768211456 ∧ hi = wrap64 (V / 18446744073709551616) ∧ lo = V % 18446744073709551616 :=
  ⟨hi % 18446744073709551616 * 18446744073709551616 + lo, by omega, by omega, by rw [w64i]; omega, by omega⟩

theorem many_less (l : List Int) (g V : Int) (hV : 0 ≤ V) (hV1 : V < 340282366920938463463374607431768211456) (hn : l.length < 4611686018427387904) (hl : ∀ x ∈ l, -9223372036854775808 ≤ x ∧ x ≤ 9223372036854775807) (g0 : 0 ≤ g) (g1 : g ≤ 255)
    (hlive : Ev (fun k => cadastrelaw01_lives.f k) true) : ∀ n : Nat, n ≤ l.length →
    Ev (fun k => cadastrelaw01_FixMany.l1 k l g ((n : Int) - 1) (wrap64 (V / 18446744073709551616)) (V % 18446744073709551616)
      (wrap64 ((V + sumTo (fun j => l.getD ((j + g.toNat) % l.length) 0) n) % 340282366920938463463374607431768211456 / 18446744073709551616)) ((V + sumTo (fun j => l.getD ((j + g.toNat) % l.length) 0) n) % 18446744073709551616)) true := by
  intro n
  induction n with
  | zero =>
    intro _
    obtain ⟨K, h⟩ := hlive
    refine ⟨K + 1, fun k hk => ?_⟩
    obtain ⟨k, rfl⟩ : ∃ m, k = m + 1 := ⟨k - 1, by omega⟩
    have h := h k (by omega)
    dsimp only at h ⊢
    simp only [cadastrelaw01_FixMany.l1, sumTo, Int.add_zero]
    rw [if_neg (by omega), h, Int.emod_eq_of_lt hV hV1]
    simp
  | succ n ih =>
    intro hlt
    have hx : ((n + 1 : Nat) : Int) - 1 = (n : Int) := by omega
    rw [hx]
    generalize hf : (fun j => l.getD ((j + g.toNat) % l.length) 0) = f at *
    have hidx : Int.tmod (wrap64 ((n : Int) + wrap64 g)) (l.length : Int) = (((n + g.toNat) % l.length : Nat) : Int) := by
      have e : wrap64 ((n : Int) + wrap64 g) = ((n + g.toNat : Nat) : Int) := by rw [w64i, w64i]; omega
      rw [e, Int.tmod_eq_emod_of_nonneg (by omega)]
      rfl
    have hm : (n + g.toNat) % l.length < l.length := Nat.mod_lt _ (by omega)
    have hfn : f n = l.getD ((n + g.toNat) % l.length) 0 := by rw [← hf]
    have hrd : rd l (((n + g.toNat) % l.length : Nat) : Int) = f n := by
      rw [hfn]
      unfold rd
      rw [Int.toNat_natCast]
    have hb : -9223372036854775808 ≤ f n ∧ f n ≤ 9223372036854775807 := by
      rw [hfn, List.getD_eq_getElem?_getD, List.getElem?_eq_getElem hm]
      exact hl _ (List.getElem_mem hm)
    have hless := fixLess_ok ((V + sumTo f (n + 1)) % 340282366920938463463374607431768211456) (f n) (by omega) (by omega) hb.1 hb.2
    have e1 : ((V + sumTo f (n + 1)) % 340282366920938463463374607431768211456 - f n) % 340282366920938463463374607431768211456 = (V + sumTo f n) % 340282366920938463463374607431768211456 := by rw [sumTo]; omega
    have e2 : ((V + sumTo f (n + 1)) % 340282366920938463463374607431768211456 - f n) % 18446744073709551616 = (V + sumTo f n) % 18446744073709551616 := by rw [sumTo]; omega
    rw [e1, e2, show (V + sumTo f (n + 1)) % 340282366920938463463374607431768211456 % 18446744073709551616 = (V + sumTo f (n + 1)) % 18446744073709551616 by omega] at hless
    refine Ev.step (f := fun k => cadastrelaw01_FixMany.l1 k l g ((n : Int) - 1) (wrap64 (V / 18446744073709551616)) (V % 18446744073709551616) (wrap64 ((V + sumTo f n) % 340282366920938463463374607431768211456 / 18446744073709551616)) ((V + sumTo f n) % 18446744073709551616)) (fun k => ?_) (ih (by omega))
    simp only [cadastrelaw01_FixMany.l1]
    rw [if_pos (by omega), if_neg (by omega), hidx, if_pos (by omega), if_pos (by omega), hrd, hless]
    simp only [Option.bind_some]
    rw [show wrap64 ((n : Int) - 1) = (n : Int) - 1 by rw [w64i]; omega]

theorem many_plus (l : List Int) (g V : Int) (hV : 0 ≤ V) (hV1 : V < 340282366920938463463374607431768211456) (hn : l.length < 4611686018427387904) (hl : ∀ x ∈ l, -9223372036854775808 ≤ x ∧ x ≤ 9223372036854775807) (g0 : 0 ≤ g) (g1 : g ≤ 255)
    (hlive : Ev (fun k => cadastrelaw01_lives.f k) true) : ∀ d i : Nat, i + d = l.length →
    Ev (fun k => cadastrelaw01_FixMany.l0 k l g (i : Int) (wrap64 (V / 18446744073709551616)) (V % 18446744073709551616)
      (wrap64 ((V + sumTo (fun j => l.getD j 0) i) % 340282366920938463463374607431768211456 / 18446744073709551616)) ((V + sumTo (fun j => l.getD j 0) i) % 18446744073709551616)
      (wrap64 ((V + sumTo (fun j => l.getD j 0) i) % 340282366920938463463374607431768211456 / 18446744073709551616)) ((V + sumTo (fun j => l.getD j 0) i) % 18446744073709551616)) true := by
  intro d
  induction d with
  | zero =>
    intro i hi
    obtain rfl : i = l.length := by omega
    generalize hf : (fun j => l.getD j 0) = f at *
    have hU0 : 0 ≤ (V + sumTo f l.length) % 340282366920938463463374607431768211456 := by omega
    have hU1 : (V + sumTo f l.length) % 340282366920938463463374607431768211456 < 340282366920938463463374607431768211456 := by omega
    obtain ⟨K1, h1⟩ := fixTold_ok _ hU0 hU1
    have h2 := refTold_ok _ hU0 hU1
    rw [show (V + sumTo f l.length) % 340282366920938463463374607431768211456 % 18446744073709551616 = (V + sumTo f l.length) % 18446744073709551616 by omega] at h1 h2
    obtain ⟨K2, h3⟩ := many_less l g V hV hV1 hn hl g0 g1 hlive l.length (Nat.le_refl _)
    rw [sumTo_turn (fun j => l.getD j 0) l.length g.toNat, hf] at h3
    refine ⟨K1 + K2 + 2, fun k hk => ?_⟩
    obtain ⟨k, rfl⟩ : ∃ m, k = m + 1 + 1 := ⟨k - 2, by omega⟩
    have h1 := h1 (k + 1) (by omega)
    have h3 := h3 k (by omega)
    dsimp only at h1 h3 ⊢
    rw [cadastrelaw01_FixMany.l0]
    rw [if_neg (by omega), h1, h2]
    simp only [Option.bind_some, bne_self_eq_false, ↓reduceIte]
    rw [cadastrelaw01_FixMany.j1]
    rw [if_neg (by decide), show wrap64 ((l.length : Int) - 1) = (l.length : Int) - 1 by rw [w64i]; omega]
    exact h3
  | succ d ih =>
    intro i hi
    generalize hf : (fun j => l.getD j 0) = f at *
    have hlt : i < l.length := by omega
    have hfi : f i = l[i] := by
      rw [← hf]
      simp [hlt]
    have hb := hl l[i] (List.getElem_mem hlt)
    rw [← hfi] at hb
    have hrd : rd l (i : Int) = f i := by
      rw [← hf]
      unfold rd
      rw [Int.toNat_natCast]
    have hU0 : 0 ≤ (V + sumTo f i) % 340282366920938463463374607431768211456 := by omega
    have hU1 : (V + sumTo f i) % 340282366920938463463374607431768211456 < 340282366920938463463374607431768211456 := by omega
    have p1 := fixPlus_ok _ (f i) hU0 hU1 hb.1 hb.2
    have p2 := refPlus_ok _ (f i) hU0 hU1 hb.1 hb.2
    have e1 : ((V + sumTo f i) % 340282366920938463463374607431768211456 + f i) % 340282366920938463463374607431768211456 = (V + sumTo f (i + 1)) % 340282366920938463463374607431768211456 := by rw [sumTo]; omega
    have e2 : ((V + sumTo f i) % 340282366920938463463374607431768211456 + f i) % 18446744073709551616 = (V + sumTo f (i + 1)) % 18446744073709551616 := by rw [sumTo]; omega
    have e3 : (V + sumTo f i) % 340282366920938463463374607431768211456 % 18446744073709551616 = (V + sumTo f i) % 18446744073709551616 := by omega
    rw [e1, e2, e3] at p1 p2
    have hW0 : 0 ≤ (V + sumTo f (i + 1)) % 340282366920938463463374607431768211456 := by omega
    have hW1 : (V + sumTo f (i + 1)) % 340282366920938463463374607431768211456 < 340282366920938463463374607431768211456 := by omega
    have q1 := fixLess_ok _ (f i) hW0 hW1 hb.1 hb.2
    have q2 := refLess_ok _ (f i) hW0 hW1 hb.1 hb.2
    rw [show (V + sumTo f (i + 1)) % 340282366920938463463374607431768211456 % 18446744073709551616 = (V + sumTo f (i + 1)) % 18446744073709551616 by omega] at q1 q2
    refine Ev.step (f := fun k => cadastrelaw01_FixMany.l0 k l g ((i + 1 : Nat) : Int) (wrap64 (V / 18446744073709551616)) (V % 18446744073709551616)
      (wrap64 ((V + sumTo f (i + 1)) % 340282366920938463463374607431768211456 / 18446744073709551616)) ((V + sumTo f (i + 1)) % 18446744073709551616)
      (wrap64 ((V + sumTo f (i + 1)) % 340282366920938463463374607431768211456 / 18446744073709551616)) ((V + sumTo f (i + 1)) % 18446744073709551616)) (fun k => ?_) (ih (i + 1) (by omega))
    simp only [cadastrelaw01_FixMany.l0]
    rw [if_pos (by omega), if_pos (by omega), hrd, p1, p2]
    simp only [Option.bind_some, beq_self_eq_true, Bool.not_true, Bool.or_self, Bool.false_eq_true, ↓reduceIte]
    rw [q1, q2]
    simp only [Option.bind_some, beq_self_eq_true, Bool.not_true, Bool.or_self, Bool.false_eq_true, ↓reduceIte]
    rw [show wrap64 ((i : Int) + 1) = ((i + 1 : Nat) : Int) by rw [w64i]; omega]

theorem FixMany (hi lo : Int) (l : List Int) (g : Int) (h0 : (Lit.int .i64 hi).wf = true) (h1 : (Lit.int .u64 lo).wf = true) (hn : l.length < 4611686018427387904) (hl : ∀ x ∈ l, (Lit.int .i64 x).wf = true) (hg : (Lit.int .u8 g).wf = true) :
    ∃ k, cadastrelaw01_FixMany.f k hi lo l g = some true := by
  obtain ⟨a0, a1⟩ := wf64 h0
  have b : 0 ≤ lo ∧ lo ≤ 18446744073709551615 := bounds_u64 h1
  have c : 0 ≤ g ∧ g ≤ 255 := bounds_u8 hg
  obtain ⟨V, hV, hV1, rfl, rfl⟩ := accV hi lo a0 a1 b.1 b.2
  have h := many_plus l g V hV hV1 hn (fun x hx => wf64 (hl x hx)) c.1 c.2 lives_ok l.length 0 (by omega)
  have e : (V + sumTo (fun j => l.getD j 0) 0) % 340282366920938463463374607431768211456 = V := by
    simp only [sumTo, Int.add_zero]
    exact Int.emod_eq_of_lt hV hV1
  have e2 : (V + sumTo (fun j => l.getD j 0) 0) % 18446744073709551616 = V % 18446744073709551616 := by
    simp only [sumTo, Int.add_zero]
  rw [e, e2] at h
  exact Ev.rounds h
end Go.Proofs.Ytegcjgfhpjdjfaa.Pure
