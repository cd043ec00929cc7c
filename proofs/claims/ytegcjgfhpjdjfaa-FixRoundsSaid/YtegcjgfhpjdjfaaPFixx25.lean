/- Printed by a program of this session: for each Go function named below its pure function, and that where this tells an answer the call comes to that answer. No condition. -/
import Derived.Test.YtegcjgfhpjdjfaaPFixx0
import Derived.Test.YtegcjgfhpjdjfaaPFixx10
import Derived.Test.YtegcjgfhpjdjfaaPFixx22
import Derived.Test.YtegcjgfhpjdjfaaPFixx23
import Derived.Test.YtegcjgfhpjdjfaaPFixx24
namespace Go.Proofs.Ytegcjgfhpjdjfaa.PFix
open Go.RowKit Go.Proofs.YtegcjgfhpjdjfaaW.PrintWords Go.Proofs.YtegcjgfhpjdjfaaW.PrintLast Go.Proofs.YtegcjgfhpjdjfaaW.PrintMore
attribute [local go_sem] max2_int min2_int max_two min_two max_three min_three max_four min_four   -- for this text's walks alone
open Go.Proofs.Ytegcjgfhpjdjfaa.Extra
attribute [local go_sem] run_add64_z run_sub64_z
set_option linter.unusedVariables false
set_option linter.unusedSimpArgs false

/-! ### cadastrelaw01_FixRounds: function 9 -/
def cadastrelaw01_FixRounds.j0 : Nat → Int → Int → Int → Bool → Int → Bool → Bool → Option (Bool)
  | 0, _, _, _, _, _, _, _ => none
  | k + 1, x0, x1, x5, x6, x9, x10, x54 => if x54 = true then (some false) else ((fix_Round.f k x9 x1).bind fun bt332 => (if x6 = true then (if (Int.tmod x5 10000) = 0 then (if x5 ≤ x0 then (if x10 = true then (if bt332.1 = x9 then (if bt332.2 = true then ((cadastrelaw01_lives.f k).bind fun t334 => (some t334)) else (some false)) else (some false)) else ((cadastrelaw01_lives.f k).bind fun t335 => (some t335))) else (some false)) else (some false)) else (if x10 = true then (if bt332.1 = x9 then (if bt332.2 = true then ((cadastrelaw01_lives.f k).bind fun t336 => (some t336)) else (some false)) else (some false)) else ((cadastrelaw01_lives.f k).bind fun t337 => (some t337)))))
def cadastrelaw01_FixRounds.f (k : Nat) (a0 : Int) (a1 : Int) : Option (Bool) := (fix_Floor.f k a0).bind fun bt324 => ((cadastreref01_Floor.f k a0).bind fun bt326 => ((fix_Round.f k a0 a1).bind fun bt328 => ((cadastreref01_Round.f k a0 a1).bind fun bt330 => (if bt324.1 = bt326.1 then (if (bt324.2 != bt326.2) = true then (cadastrelaw01_FixRounds.j0 k a0 a1 bt324.1 bt324.2 bt328.1 bt328.2 true) else (if bt328.1 = bt330.1 then (cadastrelaw01_FixRounds.j0 k a0 a1 bt324.1 bt324.2 bt328.1 bt328.2 (bt328.2 != bt330.2)) else (cadastrelaw01_FixRounds.j0 k a0 a1 bt324.1 bt324.2 bt328.1 bt328.2 true))) else (cadastrelaw01_FixRounds.j0 k a0 a1 bt324.1 bt324.2 bt328.1 bt328.2 true)))))
theorem cadastrelaw01_FixRounds.mono_l : ∀ k, (∀ y0 y1 y2 y3 y4 y5 y6, LeO (cadastrelaw01_FixRounds.j0 k y0 y1 y2 y3 y4 y5 y6) (cadastrelaw01_FixRounds.j0 (k + 1) y0 y1 y2 y3 y4 y5 y6))
  | 0 => fun _ _ _ _ _ _ _ r h => by simp [cadastrelaw01_FixRounds.j0] at h
  | k + 1 => by
    have ih0 := cadastrelaw01_FixRounds.mono_l k
    · intro y0 y1 y2 y3 y4 y5 y6
      unfold cadastrelaw01_FixRounds.j0
      repeat' first
      | (with_reducible exact ih0 _ _ _ _ _ _ _)
      | (with_reducible exact cadastrelaw01_lives.mono _)
      | (with_reducible exact cadastreref01_Floor.mono _ _)
      | (with_reducible exact cadastreref01_Round.mono _ _ _)
      | (with_reducible exact fix_Floor.mono _ _)
      | (with_reducible exact fix_Round.mono _ _ _)
      | (with_reducible exact LeO.refl _)
      | (with_reducible exact LeO.none _)
      | (with_reducible refine LeO.ite ?_ ?_)
      | (with_reducible refine LeO.bind ?_ (fun _ => ?_))
      | exact ih0 _ _ _ _ _ _ _
      | exact cadastrelaw01_lives.mono _
      | exact cadastreref01_Floor.mono _ _
      | exact cadastreref01_Round.mono _ _ _
      | exact fix_Floor.mono _ _
      | exact fix_Round.mono _ _ _
      | exact LeO.none _
      | refine LeO.ite ?_ ?_
      | refine LeO.bind ?_ (fun _ => ?_)
theorem cadastrelaw01_FixRounds.mono : ∀ a0 a1 k, LeO (cadastrelaw01_FixRounds.f k a0 a1) (cadastrelaw01_FixRounds.f (k + 1) a0 a1) := by
  intro a0 a1 k
  have ih0 := cadastrelaw01_FixRounds.mono_l k
  unfold cadastrelaw01_FixRounds.f
  repeat' first
      | (with_reducible exact ih0 _ _ _ _ _ _ _)
      | (with_reducible exact cadastrelaw01_lives.mono _)
      | (with_reducible exact cadastreref01_Floor.mono _ _)
      | (with_reducible exact cadastreref01_Round.mono _ _ _)
      | (with_reducible exact fix_Floor.mono _ _)
      | (with_reducible exact fix_Round.mono _ _ _)
      | (with_reducible exact LeO.refl _)
      | (with_reducible exact LeO.none _)
      | (with_reducible refine LeO.ite ?_ ?_)
      | (with_reducible refine LeO.bind ?_ (fun _ => ?_))
      | exact ih0 _ _ _ _ _ _ _
      | exact cadastrelaw01_lives.mono _
      | exact cadastreref01_Floor.mono _ _
      | exact cadastreref01_Round.mono _ _ _
      | exact fix_Floor.mono _ _
      | exact fix_Round.mono _ _ _
      | exact LeO.none _
      | refine LeO.ite ?_ ?_
      | refine LeO.bind ?_ (fun _ => ?_)
set_option maxHeartbeats 8000000 in
set_option maxRecDepth 100000 in
theorem cadastrelaw01_FixRounds.calls (k : Nat) (a0 : Int) (a1 : Int) (r : Bool) (w : World) (h : cadastrelaw01_FixRounds.f k a0 a1 = some r) :
    Calls Try.prog 9 #[.int .i64 a0, .int .i64 a1] w fun e w' => e = .returned (.bool r) ∧ Below w.heap.size w w' := by
  have HB := Aside0.mk (Below.refl w.heap.size w)
  have H : ((fix_Floor.f k a0).bind fun bt324 => ((cadastreref01_Floor.f k a0).bind fun bt326 => ((fix_Round.f k a0 a1).bind fun bt328 => ((cadastreref01_Round.f k a0 a1).bind fun bt330 => (if bt324.1 = bt326.1 then (if (bt324.2 != bt326.2) = true then (cadastrelaw01_FixRounds.j0 k a0 a1 bt324.1 bt324.2 bt328.1 bt328.2 true) else (if bt328.1 = bt330.1 then (cadastrelaw01_FixRounds.j0 k a0 a1 bt324.1 bt324.2 bt328.1 bt328.2 (bt328.2 != bt330.2)) else (cadastrelaw01_FixRounds.j0 k a0 a1 bt324.1 bt324.2 bt328.1 bt328.2 true))) else (cadastrelaw01_FixRounds.j0 k a0 a1 bt324.1 bt324.2 bt328.1 bt328.2 true)))))) = some r := h
  clear h
  replace H := Option.bind_eq_some_iff.mp H
  obtain ⟨⟨t324, t325⟩, A30, H⟩ := H
  replace H : ((cadastreref01_Floor.f k a0).bind fun bt326 => ((fix_Round.f k a0 a1).bind fun bt328 => ((cadastreref01_Round.f k a0 a1).bind fun bt330 => (if t324 = bt326.1 then (if (t325 != bt326.2) = true then (cadastrelaw01_FixRounds.j0 k a0 a1 t324 t325 bt328.1 bt328.2 true) else (if bt328.1 = bt330.1 then (cadastrelaw01_FixRounds.j0 k a0 a1 t324 t325 bt328.1 bt328.2 (bt328.2 != bt330.2)) else (cadastrelaw01_FixRounds.j0 k a0 a1 t324 t325 bt328.1 bt328.2 true))) else (cadastrelaw01_FixRounds.j0 k a0 a1 t324 t325 bt328.1 bt328.2 true))))) = some r := H
  have A3 := Aside0.mk A30
  clear A30
  replace H := Option.bind_eq_some_iff.mp H
  obtain ⟨⟨t326, t327⟩, A40, H⟩ := H
  replace H : ((fix_Round.f k a0 a1).bind fun bt328 => ((cadastreref01_Round.f k a0 a1).bind fun bt330 => (if t324 = t326 then (if (t325 != t327) = true then (cadastrelaw01_FixRounds.j0 k a0 a1 t324 t325 bt328.1 bt328.2 true) else (if bt328.1 = bt330.1 then (cadastrelaw01_FixRounds.j0 k a0 a1 t324 t325 bt328.1 bt328.2 (bt328.2 != bt330.2)) else (cadastrelaw01_FixRounds.j0 k a0 a1 t324 t325 bt328.1 bt328.2 true))) else (cadastrelaw01_FixRounds.j0 k a0 a1 t324 t325 bt328.1 bt328.2 true)))) = some r := H
  have A4 := Aside0.mk A40
  clear A40
  replace H := Option.bind_eq_some_iff.mp H
  obtain ⟨⟨t328, t329⟩, A50, H⟩ := H
  replace H : ((cadastreref01_Round.f k a0 a1).bind fun bt330 => (if t324 = t326 then (if (t325 != t327) = true then (cadastrelaw01_FixRounds.j0 k a0 a1 t324 t325 t328 t329 true) else (if t328 = bt330.1 then (cadastrelaw01_FixRounds.j0 k a0 a1 t324 t325 t328 t329 (t329 != bt330.2)) else (cadastrelaw01_FixRounds.j0 k a0 a1 t324 t325 t328 t329 true))) else (cadastrelaw01_FixRounds.j0 k a0 a1 t324 t325 t328 t329 true))) = some r := H
  have A5 := Aside0.mk A50
  clear A50
  replace H := Option.bind_eq_some_iff.mp H
  obtain ⟨⟨t330, t331⟩, A60, H⟩ := H
  replace H : (if t324 = t326 then (if (t325 != t327) = true then (cadastrelaw01_FixRounds.j0 k a0 a1 t324 t325 t328 t329 true) else (if t328 = t330 then (cadastrelaw01_FixRounds.j0 k a0 a1 t324 t325 t328 t329 (t329 != t331)) else (cadastrelaw01_FixRounds.j0 k a0 a1 t324 t325 t328 t329 true))) else (cadastrelaw01_FixRounds.j0 k a0 a1 t324 t325 t328 t329 true)) = some r := H
  have A6 := Aside0.mk A60
  clear A60
  have HC7 := Aside0.mk H
  clear H
  go_enter Try.func9, Try.ntmps9
  go_upto_region 5 with (first | ((with_reducible refine gate_callee (f := 31) rfl ?_); refine goesL_ (some 17) rfl rfl Try.func31 (by kernel_rfl) rfl #[.int .i64 a0] rfl (by (try simp only [List.map_toArray, List.map_cons, List.map_nil]); first | done | rfl | (simp only [List.length_drop, List.length_take]; rfl)) ?_; (with_reducible refine (fix_Floor.calls k a0 t324 t325 _ A3.out).mono ?_); rintro e w8 ⟨rfl, hb⟩; refine ⟨_, rfl, ?_⟩; have n0_ := Aside0.mk (below_step (by repeat (first | (with_reducible first | exact HB.out | apply below_alloc | apply pw_below_drewN | apply below_drew1) | exact HB.out)) hb); clear HB; have HB := n0_; clear n0_; (try clear hb); (try clear hb2); (try clear hk); (try clear hi)) | ((with_reducible refine gate_callee (f := 32) rfl ?_); refine goesL_ (some 22) rfl rfl Try.func32 (by kernel_rfl) rfl #[.int .i64 a0] rfl (by (try simp only [List.map_toArray, List.map_cons, List.map_nil]); first | done | rfl | (simp only [List.length_drop, List.length_take]; rfl)) ?_; (with_reducible refine (cadastreref01_Floor.calls k a0 t326 t327 _ A4.out).mono ?_); rintro e w9 ⟨rfl, hb⟩; refine ⟨_, rfl, ?_⟩; have n0_ := Aside0.mk (below_step (by repeat (first | (with_reducible first | exact HB.out | apply below_alloc | apply pw_below_drewN | apply below_drew1) | exact HB.out)) hb); clear HB; have HB := n0_; clear n0_; (try clear hb); (try clear hb2); (try clear hk); (try clear hi)) | ((with_reducible refine gate_callee (f := 33) rfl ?_); refine goesL_ (some 28) rfl rfl Try.func33 (by kernel_rfl) rfl #[.int .i64 a0, .int .i64 a1] rfl (by (try simp only [List.map_toArray, List.map_cons, List.map_nil]); first | done | rfl | (simp only [List.length_drop, List.length_take]; rfl)) ?_; (with_reducible refine (fix_Round.calls k a0 a1 t328 t329 _ A5.out).mono ?_); rintro e w10 ⟨rfl, hb⟩; refine ⟨_, rfl, ?_⟩; have n0_ := Aside0.mk (below_step (by repeat (first | (with_reducible first | exact HB.out | apply below_alloc | apply pw_below_drewN | apply below_drew1) | exact HB.out)) hb); clear HB; have HB := n0_; clear n0_; (try clear hb); (try clear hb2); (try clear hk); (try clear hi)) | ((with_reducible refine gate_callee (f := 34) rfl ?_); refine goesL_ (some 34) rfl rfl Try.func34 (by kernel_rfl) rfl #[.int .i64 a0, .int .i64 a1] rfl (by (try simp only [List.map_toArray, List.map_cons, List.map_nil]); first | done | rfl | (simp only [List.length_drop, List.length_take]; rfl)) ?_; (with_reducible refine (cadastreref01_Round.calls k a0 a1 t330 t331 _ A6.out).mono ?_); rintro e w11 ⟨rfl, hb⟩; refine ⟨_, rfl, ?_⟩; have n0_ := Aside0.mk (below_step (by repeat (first | (with_reducible first | exact HB.out | apply below_alloc | apply pw_below_drewN | apply below_drew1) | exact HB.out)) hb); clear HB; have HB := n0_; clear n0_; (try clear hb); (try clear hb2); (try clear hk); (try clear hi)))
  (try simp only [Act.put, List.setIfInBounds_toArray, List.set_cons_zero, List.set_cons_succ])
  go_cut [54] (fun v54 wc => ∃ (kq : Nat) (x54_6 : Bool), v54 = .bool x54_6 ∧ Aside0 (cadastrelaw01_FixRounds.j0 kq a0 a1 t324 t325 t328 t329 x54_6 = some r) ∧ Aside0 (kq ≤ k) ∧ Aside0 (Below w.heap.size w wc))
  case first =>
    have H := HC7.out
    clear HC7
    by_cases c12 : t324 = t326
    · rw [if_pos c12] at H
      have c12b0 : (t324 == t326) = true := beq_iff_eq.mpr c12
      have c12b1 : (t324 != t326) = false := bne_eq_false_iff_eq.mpr c12
      clear c12
      (first | rw [c12b0] | (simp only [i64_w, i32_w]; rw [c12b0]) | skip)
      by_cases c13 : (t325 != t327) = true
      · rw [if_pos c13] at H
        have c13b0 : (t325 != t327) = true := c13
        (try (have c13b1 : decide (t325 = t327) = false := by simpa using c13))
        (try (have c13b2 : (t325 == t327) = false := by simpa using c13))
        (try (have c13b3 : ¬ (t325 = t327) := by simpa using c13))
        clear c13
        have H' := Aside0.mk H
        clear H
        go_wp2
        go_meet
        case rel => exact ⟨_, (true), (by first | rfl | (simp; done) | (simp [*]; done)), H', ⟨by first | omega | exact Nat.le_refl _⟩, ⟨by repeat (first | (with_reducible first | exact HB.out | apply below_alloc | apply pw_below_drewN | apply below_drew1) | exact HB.out)⟩⟩
      · rw [if_neg c13] at H
        have c13b0 : (t325 != t327) = false := by simpa using c13
        (try (have c13b1 : decide (t325 = t327) = true := by simpa using c13))
        (try (have c13b2 : (t325 == t327) = true := by simpa using c13))
        clear c13
        by_cases c14 : t328 = t330
        · rw [if_pos c14] at H
          have c14b0 : (t328 == t330) = true := beq_iff_eq.mpr c14
          have c14b1 : (t328 != t330) = false := bne_eq_false_iff_eq.mpr c14
          clear c14
          have H' := Aside0.mk H
          clear H
          go_wp2
          go_meet
          case rel => exact ⟨_, ((t329 != t331)), (by first | rfl | (simp; done) | (simp [*]; done)), H', ⟨by first | omega | exact Nat.le_refl _⟩, ⟨by repeat (first | (with_reducible first | exact HB.out | apply below_alloc | apply pw_below_drewN | apply below_drew1) | exact HB.out)⟩⟩
        · rw [if_neg c14] at H
          have c14b0 : (t328 == t330) = false := beq_eq_false_iff_ne.mpr c14
          have c14b1 : (t328 != t330) = true := bne_iff_ne.mpr c14
          have H' := Aside0.mk H
          clear H
          go_wp2
          go_meet
          case rel => exact ⟨_, (true), (by first | rfl | (simp; done) | (simp [*]; done)), H', ⟨by first | omega | exact Nat.le_refl _⟩, ⟨by repeat (first | (with_reducible first | exact HB.out | apply below_alloc | apply pw_below_drewN | apply below_drew1) | exact HB.out)⟩⟩
    · rw [if_neg c12] at H
      have c12b0 : (t324 == t326) = false := beq_eq_false_iff_ne.mpr c12
      have c12b1 : (t324 != t326) = true := bne_iff_ne.mpr c12
      (first | rw [c12b0] | (simp only [i64_w, i32_w]; rw [c12b0]) | skip)
      have H' := Aside0.mk H
      clear H
      go_wp2
      go_meet
      case rel => exact ⟨_, (true), (by first | rfl | (simp; done) | (simp [*]; done)), H', ⟨by first | omega | exact Nat.le_refl _⟩, ⟨by repeat (first | (with_reducible first | exact HB.out | apply below_alloc | apply pw_below_drewN | apply below_drew1) | exact HB.out)⟩⟩
  case rest =>
    clear HC7
    try clear c1
    try clear p2
    try clear c3
    try clear c9
    try clear c12
    try clear c12b0
    try clear c12b1
    try clear c13
    try clear c13b0
    try clear c13b1
    try clear c13b2
    try clear c14
    try clear c14b0
    try clear c14b1
    obtain ⟨kq, x54_6, rfl, HA, HJ6, HB⟩ := hcut
    cases kq with
    | zero => exact absurd HA.out (by simp [cadastrelaw01_FixRounds.j0])
    | succ kj6 =>
      have H := HA.out
      clear HA
      simp only [cadastrelaw01_FixRounds.j0] at H
      by_cases c15 : x54_6 = true
      · subst c15
        have H1 : (some false) = some r := by rw [if_pos rfl] at H; exact H
        clear H
        have H := H1
        clear H1
        obtain rfl := Option.some.inj H
        go_wp2
        go_ret
        exact ⟨by first | rfl | (simp [errW_none, errW_some] <;> rfl) | (simp [*, errW_none, errW_some] <;> rfl), by repeat (first | (with_reducible first | exact HB.out | apply below_alloc | apply pw_below_drewN | apply below_drew1) | exact HB.out)⟩
      · replace c15 := Bool.eq_false_iff.mpr c15
        subst c15
        have H1 : ((fix_Round.f kj6 t328 a1).bind fun bt332 => (if t325 = true then (if (Int.tmod t324 10000) = 0 then (if t324 ≤ a0 then (if t329 = true then (if bt332.1 = t328 then (if bt332.2 = true then ((cadastrelaw01_lives.f kj6).bind fun t334 => (some t334)) else (some false)) else (some false)) else ((cadastrelaw01_lives.f kj6).bind fun t335 => (some t335))) else (some false)) else (some false)) else (if t329 = true then (if bt332.1 = t328 then (if bt332.2 = true then ((cadastrelaw01_lives.f kj6).bind fun t336 => (some t336)) else (some false)) else (some false)) else ((cadastrelaw01_lives.f kj6).bind fun t337 => (some t337))))) = some r := by rw [if_neg (show ¬ (false = true) by decide)] at H; exact H
        clear H
        have H := H1
        clear H1
        replace H := Option.bind_eq_some_iff.mp H
        obtain ⟨⟨t332, t333⟩, A160, H⟩ := H
        replace H : (if t325 = true then (if (Int.tmod t324 10000) = 0 then (if t324 ≤ a0 then (if t329 = true then (if t332 = t328 then (if t333 = true then ((cadastrelaw01_lives.f kj6).bind fun t334 => (some t334)) else (some false)) else (some false)) else ((cadastrelaw01_lives.f kj6).bind fun t335 => (some t335))) else (some false)) else (some false)) else (if t329 = true then (if t332 = t328 then (if t333 = true then ((cadastrelaw01_lives.f kj6).bind fun t336 => (some t336)) else (some false)) else (some false)) else ((cadastrelaw01_lives.f kj6).bind fun t337 => (some t337)))) = some r := H
        have A16 := Aside0.mk A160
        clear A160
        by_cases c17 : t325 = true
        · subst c17
          have H1 : (if (Int.tmod t324 10000) = 0 then (if t324 ≤ a0 then (if t329 = true then (if t332 = t328 then (if t333 = true then ((cadastrelaw01_lives.f kj6).bind fun t334 => (some t334)) else (some false)) else (some false)) else ((cadastrelaw01_lives.f kj6).bind fun t335 => (some t335))) else (some false)) else (some false)) = some r := by rw [if_pos rfl] at H; exact H
          clear H
          have H := H1
          clear H1
          by_cases c18 : (Int.tmod t324 10000) = 0
          · rw [if_pos c18] at H
            have c18b0 : ((Int.tmod t324 10000) == 0) = true := beq_iff_eq.mpr c18
            have c18b1 : ((Int.tmod t324 10000) != 0) = false := bne_eq_false_iff_eq.mpr c18
            clear c18
            by_cases c19 : t324 ≤ a0
            · rw [if_pos c19] at H
              have c19b0 : decide (t324 ≤ a0) = true := decide_eq_true c19
              clear c19
              by_cases c20 : t329 = true
              · subst c20
                have H1 : (if t332 = t328 then (if t333 = true then ((cadastrelaw01_lives.f kj6).bind fun t334 => (some t334)) else (some false)) else (some false)) = some r := by rw [if_pos rfl] at H; exact H
                clear H
                have H := H1
                clear H1
                by_cases c21 : t332 = t328
                · rw [if_pos c21] at H
                  have c21b0 : (t332 == t328) = true := beq_iff_eq.mpr c21
                  have c21b1 : (t332 != t328) = false := bne_eq_false_iff_eq.mpr c21
                  clear c21
                  by_cases c22 : t333 = true
                  · subst c22
                    have H1 : ((cadastrelaw01_lives.f kj6).bind fun t334 => (some t334)) = some r := by rw [if_pos rfl] at H; exact H
                    clear H
                    have H := H1
                    clear H1
                    replace H := Option.bind_eq_some_iff.mp H
                    obtain ⟨t334, A230, H⟩ := H
                    replace H : (some t334) = some r := H
                    have A23 := Aside0.mk A230
                    clear A230
                    obtain rfl := Option.some.inj H
                    go_wp2_with (first | ((with_reducible refine gate_callee (f := 33) rfl ?_); refine goesL_ (some 58) rfl rfl Try.func33 (by kernel_rfl) rfl #[.int .i64 t328, .int .i64 a1] rfl (by (try simp only [List.map_toArray, List.map_cons, List.map_nil]); first | done | rfl | (simp only [List.length_drop, List.length_take]; rfl)) ?_; (with_reducible refine (fix_Round.calls kj6 t328 a1 t332 true _ A16.out).mono ?_); rintro e w24 ⟨rfl, hb⟩; refine ⟨_, rfl, ?_⟩; have n0_ := Aside0.mk (below_step (by repeat (first | (with_reducible first | exact HB.out | apply below_alloc | apply pw_below_drewN | apply below_drew1) | exact HB.out)) hb); clear HB; have HB := n0_; clear n0_; (try clear hb); (try clear hb2); (try clear hk); (try clear hi)) | (go_at_call 13; (with_reducible refine (cadastrelaw01_lives.calls kj6  t334 _ A23.out).mono ?_); rintro e w25 ⟨rfl, hb⟩; have n0_ := Aside0.mk (below_step (by repeat (first | (with_reducible first | exact HB.out | apply below_alloc | apply pw_below_drewN | apply below_drew1) | exact HB.out)) hb); clear HB; have HB := n0_; clear n0_; (try clear hb); (try clear hb2); (try clear hk); (try clear hi)))
                    go_ret
                    exact ⟨by first | rfl | (simp [errW_none, errW_some] <;> rfl) | (simp [*, errW_none, errW_some] <;> rfl), by repeat (first | (with_reducible first | exact HB.out | apply below_alloc | apply pw_below_drewN | apply below_drew1) | exact HB.out)⟩
                  · replace c22 := Bool.eq_false_iff.mpr c22
                    subst c22
                    have H1 : (some false) = some r := by rw [if_neg (show ¬ (false = true) by decide)] at H; exact H
                    clear H
                    have H := H1
                    clear H1
                    obtain rfl := Option.some.inj H
                    go_wp2_with (first | ((with_reducible refine gate_callee (f := 33) rfl ?_); refine goesL_ (some 58) rfl rfl Try.func33 (by kernel_rfl) rfl #[.int .i64 t328, .int .i64 a1] rfl (by (try simp only [List.map_toArray, List.map_cons, List.map_nil]); first | done | rfl | (simp only [List.length_drop, List.length_take]; rfl)) ?_; (with_reducible refine (fix_Round.calls kj6 t328 a1 t332 false _ A16.out).mono ?_); rintro e w26 ⟨rfl, hb⟩; refine ⟨_, rfl, ?_⟩; have n0_ := Aside0.mk (below_step (by repeat (first | (with_reducible first | exact HB.out | apply below_alloc | apply pw_below_drewN | apply below_drew1) | exact HB.out)) hb); clear HB; have HB := n0_; clear n0_; (try clear hb); (try clear hb2); (try clear hk); (try clear hi)))
                    go_ret
                    exact ⟨by first | rfl | (simp [errW_none, errW_some] <;> rfl) | (simp [*, errW_none, errW_some] <;> rfl), by repeat (first | (with_reducible first | exact HB.out | apply below_alloc | apply pw_below_drewN | apply below_drew1) | exact HB.out)⟩
                · rw [if_neg c21] at H
                  have c21b0 : (t332 == t328) = false := beq_eq_false_iff_ne.mpr c21
                  have c21b1 : (t332 != t328) = true := bne_iff_ne.mpr c21
                  obtain rfl := Option.some.inj H
                  go_wp2_with (first | ((with_reducible refine gate_callee (f := 33) rfl ?_); refine goesL_ (some 58) rfl rfl Try.func33 (by kernel_rfl) rfl #[.int .i64 t328, .int .i64 a1] rfl (by (try simp only [List.map_toArray, List.map_cons, List.map_nil]); first | done | rfl | (simp only [List.length_drop, List.length_take]; rfl)) ?_; (with_reducible refine (fix_Round.calls kj6 t328 a1 t332 t333 _ A16.out).mono ?_); rintro e w27 ⟨rfl, hb⟩; refine ⟨_, rfl, ?_⟩; have n0_ := Aside0.mk (below_step (by repeat (first | (with_reducible first | exact HB.out | apply below_alloc | apply pw_below_drewN | apply below_drew1) | exact HB.out)) hb); clear HB; have HB := n0_; clear n0_; (try clear hb); (try clear hb2); (try clear hk); (try clear hi)))
                  go_ret
                  exact ⟨by first | rfl | (simp [errW_none, errW_some] <;> rfl) | (simp [*, errW_none, errW_some] <;> rfl), by repeat (first | (with_reducible first | exact HB.out | apply below_alloc | apply pw_below_drewN | apply below_drew1) | exact HB.out)⟩
              · replace c20 := Bool.eq_false_iff.mpr c20
                subst c20
                have H1 : ((cadastrelaw01_lives.f kj6).bind fun t335 => (some t335)) = some r := by rw [if_neg (show ¬ (false = true) by decide)] at H; exact H
                clear H
                have H := H1
                clear H1
                replace H := Option.bind_eq_some_iff.mp H
                obtain ⟨t335, A280, H⟩ := H
                replace H : (some t335) = some r := H
                have A28 := Aside0.mk A280
                clear A280
                obtain rfl := Option.some.inj H
                go_wp2_with (first | ((with_reducible refine gate_callee (f := 33) rfl ?_); refine goesL_ (some 58) rfl rfl Try.func33 (by kernel_rfl) rfl #[.int .i64 t328, .int .i64 a1] rfl (by (try simp only [List.map_toArray, List.map_cons, List.map_nil]); first | done | rfl | (simp only [List.length_drop, List.length_take]; rfl)) ?_; (with_reducible refine (fix_Round.calls kj6 t328 a1 t332 t333 _ A16.out).mono ?_); rintro e w29 ⟨rfl, hb⟩; refine ⟨_, rfl, ?_⟩; have n0_ := Aside0.mk (below_step (by repeat (first | (with_reducible first | exact HB.out | apply below_alloc | apply pw_below_drewN | apply below_drew1) | exact HB.out)) hb); clear HB; have HB := n0_; clear n0_; (try clear hb); (try clear hb2); (try clear hk); (try clear hi)) | (go_at_call 13; (with_reducible refine (cadastrelaw01_lives.calls kj6  t335 _ A28.out).mono ?_); rintro e w30 ⟨rfl, hb⟩; have n0_ := Aside0.mk (below_step (by repeat (first | (with_reducible first | exact HB.out | apply below_alloc | apply pw_below_drewN | apply below_drew1) | exact HB.out)) hb); clear HB; have HB := n0_; clear n0_; (try clear hb); (try clear hb2); (try clear hk); (try clear hi)))
                go_ret
                exact ⟨by first | rfl | (simp [errW_none, errW_some] <;> rfl) | (simp [*, errW_none, errW_some] <;> rfl), by repeat (first | (with_reducible first | exact HB.out | apply below_alloc | apply pw_below_drewN | apply below_drew1) | exact HB.out)⟩
            · rw [if_neg c19] at H
              have c19b0 : decide (t324 ≤ a0) = false := decide_eq_false c19
              clear c19
              obtain rfl := Option.some.inj H
              go_wp2_with (first | ((with_reducible refine gate_callee (f := 33) rfl ?_); refine goesL_ (some 58) rfl rfl Try.func33 (by kernel_rfl) rfl #[.int .i64 t328, .int .i64 a1] rfl (by (try simp only [List.map_toArray, List.map_cons, List.map_nil]); first | done | rfl | (simp only [List.length_drop, List.length_take]; rfl)) ?_; (with_reducible refine (fix_Round.calls kj6 t328 a1 t332 t333 _ A16.out).mono ?_); rintro e w31 ⟨rfl, hb⟩; refine ⟨_, rfl, ?_⟩; have n0_ := Aside0.mk (below_step (by repeat (first | (with_reducible first | exact HB.out | apply below_alloc | apply pw_below_drewN | apply below_drew1) | exact HB.out)) hb); clear HB; have HB := n0_; clear n0_; (try clear hb); (try clear hb2); (try clear hk); (try clear hi)))
              go_ret
              exact ⟨by first | rfl | (simp [errW_none, errW_some] <;> rfl) | (simp [*, errW_none, errW_some] <;> rfl), by repeat (first | (with_reducible first | exact HB.out | apply below_alloc | apply pw_below_drewN | apply below_drew1) | exact HB.out)⟩
          · rw [if_neg c18] at H
            have c18b0 : ((Int.tmod t324 10000) == 0) = false := beq_eq_false_iff_ne.mpr c18
            have c18b1 : ((Int.tmod t324 10000) != 0) = true := bne_iff_ne.mpr c18
            obtain rfl := Option.some.inj H
            go_wp2_with (first | ((with_reducible refine gate_callee (f := 33) rfl ?_); refine goesL_ (some 58) rfl rfl Try.func33 (by kernel_rfl) rfl #[.int .i64 t328, .int .i64 a1] rfl (by (try simp only [List.map_toArray, List.map_cons, List.map_nil]); first | done | rfl | (simp only [List.length_drop, List.length_take]; rfl)) ?_; (with_reducible refine (fix_Round.calls kj6 t328 a1 t332 t333 _ A16.out).mono ?_); rintro e w32 ⟨rfl, hb⟩; refine ⟨_, rfl, ?_⟩; have n0_ := Aside0.mk (below_step (by repeat (first | (with_reducible first | exact HB.out | apply below_alloc | apply pw_below_drewN | apply below_drew1) | exact HB.out)) hb); clear HB; have HB := n0_; clear n0_; (try clear hb); (try clear hb2); (try clear hk); (try clear hi)))
            go_ret
            exact ⟨by first | rfl | (simp [errW_none, errW_some] <;> rfl) | (simp [*, errW_none, errW_some] <;> rfl), by repeat (first | (with_reducible first | exact HB.out | apply below_alloc | apply pw_below_drewN | apply below_drew1) | exact HB.out)⟩
        · replace c17 := Bool.eq_false_iff.mpr c17
          subst c17
          have H1 : (if t329 = true then (if t332 = t328 then (if t333 = true then ((cadastrelaw01_lives.f kj6).bind fun t336 => (some t336)) else (some false)) else (some false)) else ((cadastrelaw01_lives.f kj6).bind fun t337 => (some t337))) = some r := by rw [if_neg (show ¬ (false = true) by decide)] at H; exact H
          clear H
          have H := H1
          clear H1
          by_cases c33 : t329 = true
          · subst c33
            have H1 : (if t332 = t328 then (if t333 = true then ((cadastrelaw01_lives.f kj6).bind fun t336 => (some t336)) else (some false)) else (some false)) = some r := by rw [if_pos rfl] at H; exact H
            clear H
            have H := H1
            clear H1
            by_cases c34 : t332 = t328
            · rw [if_pos c34] at H
              have c34b0 : (t332 == t328) = true := beq_iff_eq.mpr c34
              have c34b1 : (t332 != t328) = false := bne_eq_false_iff_eq.mpr c34
              clear c34
              by_cases c35 : t333 = true
              · subst c35
                have H1 : ((cadastrelaw01_lives.f kj6).bind fun t336 => (some t336)) = some r := by rw [if_pos rfl] at H; exact H
                clear H
                have H := H1
                clear H1
                replace H := Option.bind_eq_some_iff.mp H
                obtain ⟨t336, A360, H⟩ := H
                replace H : (some t336) = some r := H
                have A36 := Aside0.mk A360
                clear A360
                obtain rfl := Option.some.inj H
                go_wp2_with (first | ((with_reducible refine gate_callee (f := 33) rfl ?_); refine goesL_ (some 58) rfl rfl Try.func33 (by kernel_rfl) rfl #[.int .i64 t328, .int .i64 a1] rfl (by (try simp only [List.map_toArray, List.map_cons, List.map_nil]); first | done | rfl | (simp only [List.length_drop, List.length_take]; rfl)) ?_; (with_reducible refine (fix_Round.calls kj6 t328 a1 t332 true _ A16.out).mono ?_); rintro e w37 ⟨rfl, hb⟩; refine ⟨_, rfl, ?_⟩; have n0_ := Aside0.mk (below_step (by repeat (first | (with_reducible first | exact HB.out | apply below_alloc | apply pw_below_drewN | apply below_drew1) | exact HB.out)) hb); clear HB; have HB := n0_; clear n0_; (try clear hb); (try clear hb2); (try clear hk); (try clear hi)) | (go_at_call 13; (with_reducible refine (cadastrelaw01_lives.calls kj6  t336 _ A36.out).mono ?_); rintro e w38 ⟨rfl, hb⟩; have n0_ := Aside0.mk (below_step (by repeat (first | (with_reducible first | exact HB.out | apply below_alloc | apply pw_below_drewN | apply below_drew1) | exact HB.out)) hb); clear HB; have HB := n0_; clear n0_; (try clear hb); (try clear hb2); (try clear hk); (try clear hi)))
                go_ret
                exact ⟨by first | rfl | (simp [errW_none, errW_some] <;> rfl) | (simp [*, errW_none, errW_some] <;> rfl), by repeat (first | (with_reducible first | exact HB.out | apply below_alloc | apply pw_below_drewN | apply below_drew1) | exact HB.out)⟩
              · replace c35 := Bool.eq_false_iff.mpr c35
                subst c35
                have H1 : (some false) = some r := by rw [if_neg (show ¬ (false = true) by decide)] at H; exact H
                clear H
                have H := H1
                clear H1
                obtain rfl := Option.some.inj H
                go_wp2_with (first | ((with_reducible refine gate_callee (f := 33) rfl ?_); refine goesL_ (some 58) rfl rfl Try.func33 (by kernel_rfl) rfl #[.int .i64 t328, .int .i64 a1] rfl (by (try simp only [List.map_toArray, List.map_cons, List.map_nil]); first | done | rfl | (simp only [List.length_drop, List.length_take]; rfl)) ?_; (with_reducible refine (fix_Round.calls kj6 t328 a1 t332 false _ A16.out).mono ?_); rintro e w39 ⟨rfl, hb⟩; refine ⟨_, rfl, ?_⟩; have n0_ := Aside0.mk (below_step (by repeat (first | (with_reducible first | exact HB.out | apply below_alloc | apply pw_below_drewN | apply below_drew1) | exact HB.out)) hb); clear HB; have HB := n0_; clear n0_; (try clear hb); (try clear hb2); (try clear hk); (try clear hi)))
                go_ret
                exact ⟨by first | rfl | (simp [errW_none, errW_some] <;> rfl) | (simp [*, errW_none, errW_some] <;> rfl), by repeat (first | (with_reducible first | exact HB.out | apply below_alloc | apply pw_below_drewN | apply below_drew1) | exact HB.out)⟩
            · rw [if_neg c34] at H
              have c34b0 : (t332 == t328) = false := beq_eq_false_iff_ne.mpr c34
              have c34b1 : (t332 != t328) = true := bne_iff_ne.mpr c34
              obtain rfl := Option.some.inj H
              go_wp2_with (first | ((with_reducible refine gate_callee (f := 33) rfl ?_); refine goesL_ (some 58) rfl rfl Try.func33 (by kernel_rfl) rfl #[.int .i64 t328, .int .i64 a1] rfl (by (try simp only [List.map_toArray, List.map_cons, List.map_nil]); first | done | rfl | (simp only [List.length_drop, List.length_take]; rfl)) ?_; (with_reducible refine (fix_Round.calls kj6 t328 a1 t332 t333 _ A16.out).mono ?_); rintro e w40 ⟨rfl, hb⟩; refine ⟨_, rfl, ?_⟩; have n0_ := Aside0.mk (below_step (by repeat (first | (with_reducible first | exact HB.out | apply below_alloc | apply pw_below_drewN | apply below_drew1) | exact HB.out)) hb); clear HB; have HB := n0_; clear n0_; (try clear hb); (try clear hb2); (try clear hk); (try clear hi)))
              go_ret
              exact ⟨by first | rfl | (simp [errW_none, errW_some] <;> rfl) | (simp [*, errW_none, errW_some] <;> rfl), by repeat (first | (with_reducible first | exact HB.out | apply below_alloc | apply pw_below_drewN | apply below_drew1) | exact HB.out)⟩
          · replace c33 := Bool.eq_false_iff.mpr c33
            subst c33
            have H1 : ((cadastrelaw01_lives.f kj6).bind fun t337 => (some t337)) = some r := by rw [if_neg (show ¬ (false = true) by decide)] at H; exact H
            clear H
            have H := H1
            clear H1
            replace H := Option.bind_eq_some_iff.mp H
            obtain ⟨t337, A410, H⟩ := H
            replace H : (some t337) = some r := H
            have A41 := Aside0.mk A410
            clear A410
            obtain rfl := Option.some.inj H
            go_wp2_with (first | ((with_reducible refine gate_callee (f := 33) rfl ?_); refine goesL_ (some 58) rfl rfl Try.func33 (by kernel_rfl) rfl #[.int .i64 t328, .int .i64 a1] rfl (by (try simp only [List.map_toArray, List.map_cons, List.map_nil]); first | done | rfl | (simp only [List.length_drop, List.length_take]; rfl)) ?_; (with_reducible refine (fix_Round.calls kj6 t328 a1 t332 t333 _ A16.out).mono ?_); rintro e w42 ⟨rfl, hb⟩; refine ⟨_, rfl, ?_⟩; have n0_ := Aside0.mk (below_step (by repeat (first | (with_reducible first | exact HB.out | apply below_alloc | apply pw_below_drewN | apply below_drew1) | exact HB.out)) hb); clear HB; have HB := n0_; clear n0_; (try clear hb); (try clear hb2); (try clear hk); (try clear hi)) | (go_at_call 13; (with_reducible refine (cadastrelaw01_lives.calls kj6  t337 _ A41.out).mono ?_); rintro e w43 ⟨rfl, hb⟩; have n0_ := Aside0.mk (below_step (by repeat (first | (with_reducible first | exact HB.out | apply below_alloc | apply pw_below_drewN | apply below_drew1) | exact HB.out)) hb); clear HB; have HB := n0_; clear n0_; (try clear hb); (try clear hb2); (try clear hk); (try clear hi)))
            go_ret
            exact ⟨by first | rfl | (simp [errW_none, errW_some] <;> rfl) | (simp [*, errW_none, errW_some] <;> rfl), by repeat (first | (with_reducible first | exact HB.out | apply below_alloc | apply pw_below_drewN | apply below_drew1) | exact HB.out)⟩

/-- THE ONE PURE STATEMENT of cadastrelaw01_FixRounds: yours. -/
def cadastrelaw01_FixRounds.Pure : Prop := ∀ (a0 : Int) (a1 : Int), (Lit.int .i64 a0).wf = true → (Lit.int .i64 a1).wf = true → ∃ k, cadastrelaw01_FixRounds.f k a0 a1 = some true
theorem cadastrelaw01_FixRounds.walk (P : cadastrelaw01_FixRounds.Pure) (a0 : Int) (a1 : Int) (w : World) (w0 : (Lit.int .i64 a0).wf = true) (w1 : (Lit.int .i64 a1).wf = true) :
    Calls Try.prog 9 #[.int .i64 a0, .int .i64 a1] w fun e w' => e = .returned (.bool true) ∧ Below w.heap.size w w' := by
  obtain ⟨k, h⟩ := P a0 a1 w0 w1
  refine (cadastrelaw01_FixRounds.calls k a0 a1 true w h).mono ?_
  rintro e w' ⟨rfl, hd⟩
  exact ⟨rfl, hd⟩

end Go.Proofs.Ytegcjgfhpjdjfaa.PFix
