/- Printed by a program of this session: for each Go function named below its pure function, and that where this tells an answer the call comes to that answer. No condition. -/
import Derived.Test.YtegcjgfhpjdjfaaPFixx0
import Derived.Test.YtegcjgfhpjdjfaaPFixx5
import Derived.Test.YtegcjgfhpjdjfaaPFixx10
import Derived.Test.YtegcjgfhpjdjfaaPFixx15
import Derived.Test.YtegcjgfhpjdjfaaPFixx16
import Derived.Test.YtegcjgfhpjdjfaaPFixx20
namespace Go.Proofs.Ytegcjgfhpjdjfaa.PFix
open Go.RowKit Go.Proofs.YtegcjgfhpjdjfaaW.PrintWords Go.Proofs.YtegcjgfhpjdjfaaW.PrintLast Go.Proofs.YtegcjgfhpjdjfaaW.PrintMore
attribute [local go_sem] max2_int min2_int max_two min_two max_three min_three max_four min_four   -- for this text's walks alone
open Go.Proofs.Ytegcjgfhpjdjfaa.Extra
attribute [local go_sem] run_add64_z run_sub64_z
set_option linter.unusedVariables false
set_option linter.unusedSimpArgs false

/-! ### cadastrelaw01_FixSums: function 7 -/
def cadastrelaw01_FixSums.j0 : Nat → Int → Int → Int → Bool → Bool → Option (Bool)
  | 0, _, _, _, _, _ => none
  | k + 1, x0, x1, x5, x6, x63 => if x63 = true then (some false) else ((fix_Sub.f k x5 x1).bind fun bt292 => (if x6 = true then (if bt292.1 = x0 then (if bt292.2 = true then ((cadastrelaw01_lives.f k).bind fun t294 => (some t294)) else (some false)) else (some false)) else ((cadastrelaw01_lives.f k).bind fun t295 => (some t295))))
def cadastrelaw01_FixSums.f (k : Nat) (a0 : Int) (a1 : Int) : Option (Bool) := (fix_Add.f k a0 a1).bind fun bt282 => ((cadastreref01_Add.f k a0 a1).bind fun bt284 => ((fix_Sub.f k a0 a1).bind fun bt286 => ((cadastreref01_Sub.f k a0 a1).bind fun bt288 => (if bt282.1 = bt284.1 then (if (bt282.2 != bt284.2) = true then (cadastrelaw01_FixSums.j0 k a0 a1 bt282.1 bt282.2 true) else (if bt286.1 = bt288.1 then (if (bt286.2 != bt288.2) = true then (cadastrelaw01_FixSums.j0 k a0 a1 bt282.1 bt282.2 true) else ((fix_Can.f k a0).bind fun t290 => ((cadastreref01_Can.f a0).bind fun t291 => (cadastrelaw01_FixSums.j0 k a0 a1 bt282.1 bt282.2 (t290 != t291))))) else (cadastrelaw01_FixSums.j0 k a0 a1 bt282.1 bt282.2 true))) else (cadastrelaw01_FixSums.j0 k a0 a1 bt282.1 bt282.2 true)))))
theorem cadastrelaw01_FixSums.mono_l : ∀ k, (∀ y0 y1 y2 y3 y4, LeO (cadastrelaw01_FixSums.j0 k y0 y1 y2 y3 y4) (cadastrelaw01_FixSums.j0 (k + 1) y0 y1 y2 y3 y4))
  | 0 => fun _ _ _ _ _ r h => by simp [cadastrelaw01_FixSums.j0] at h
  | k + 1 => by
    have ih0 := cadastrelaw01_FixSums.mono_l k
    · intro y0 y1 y2 y3 y4
      unfold cadastrelaw01_FixSums.j0
      repeat' first
      | (with_reducible exact ih0 _ _ _ _ _)
      | (with_reducible exact cadastrelaw01_lives.mono _)
      | (with_reducible exact cadastreref01_Add.mono _ _ _)
      | (with_reducible exact cadastreref01_Sub.mono _ _ _)
      | (with_reducible exact fix_Add.mono _ _ _)
      | (with_reducible exact fix_Can.mono _ _)
      | (with_reducible exact fix_Sub.mono _ _ _)
      | (with_reducible exact LeO.refl _)
      | (with_reducible exact LeO.none _)
      | (with_reducible refine LeO.ite ?_ ?_)
      | (with_reducible refine LeO.bind ?_ (fun _ => ?_))
      | exact ih0 _ _ _ _ _
      | exact cadastrelaw01_lives.mono _
      | exact cadastreref01_Add.mono _ _ _
      | exact cadastreref01_Sub.mono _ _ _
      | exact fix_Add.mono _ _ _
      | exact fix_Can.mono _ _
      | exact fix_Sub.mono _ _ _
      | exact LeO.none _
      | refine LeO.ite ?_ ?_
      | refine LeO.bind ?_ (fun _ => ?_)
theorem cadastrelaw01_FixSums.mono : ∀ a0 a1 k, LeO (cadastrelaw01_FixSums.f k a0 a1) (cadastrelaw01_FixSums.f (k + 1) a0 a1) := by
  intro a0 a1 k
  have ih0 := cadastrelaw01_FixSums.mono_l k
  unfold cadastrelaw01_FixSums.f
  repeat' first
      | (with_reducible exact ih0 _ _ _ _ _)
      | (with_reducible exact cadastrelaw01_lives.mono _)
      | (with_reducible exact cadastreref01_Add.mono _ _ _)
      | (with_reducible exact cadastreref01_Sub.mono _ _ _)
      | (with_reducible exact fix_Add.mono _ _ _)
      | (with_reducible exact fix_Can.mono _ _)
      | (with_reducible exact fix_Sub.mono _ _ _)
      | (with_reducible exact LeO.refl _)
      | (with_reducible exact LeO.none _)
      | (with_reducible refine LeO.ite ?_ ?_)
      | (with_reducible refine LeO.bind ?_ (fun _ => ?_))
      | exact ih0 _ _ _ _ _
      | exact cadastrelaw01_lives.mono _
      | exact cadastreref01_Add.mono _ _ _
      | exact cadastreref01_Sub.mono _ _ _
      | exact fix_Add.mono _ _ _
      | exact fix_Can.mono _ _
      | exact fix_Sub.mono _ _ _
      | exact LeO.none _
      | refine LeO.ite ?_ ?_
      | refine LeO.bind ?_ (fun _ => ?_)
set_option maxHeartbeats 8000000 in
set_option maxRecDepth 100000 in
theorem cadastrelaw01_FixSums.calls (k : Nat) (a0 : Int) (a1 : Int) (r : Bool) (w : World) (h : cadastrelaw01_FixSums.f k a0 a1 = some r) :
    Calls Try.prog 7 #[.int .i64 a0, .int .i64 a1] w fun e w' => e = .returned (.bool r) ∧ Below w.heap.size w w' := by
  have HB := Aside0.mk (Below.refl w.heap.size w)
  have H : ((fix_Add.f k a0 a1).bind fun bt282 => ((cadastreref01_Add.f k a0 a1).bind fun bt284 => ((fix_Sub.f k a0 a1).bind fun bt286 => ((cadastreref01_Sub.f k a0 a1).bind fun bt288 => (if bt282.1 = bt284.1 then (if (bt282.2 != bt284.2) = true then (cadastrelaw01_FixSums.j0 k a0 a1 bt282.1 bt282.2 true) else (if bt286.1 = bt288.1 then (if (bt286.2 != bt288.2) = true then (cadastrelaw01_FixSums.j0 k a0 a1 bt282.1 bt282.2 true) else ((fix_Can.f k a0).bind fun t290 => ((cadastreref01_Can.f a0).bind fun t291 => (cadastrelaw01_FixSums.j0 k a0 a1 bt282.1 bt282.2 (t290 != t291))))) else (cadastrelaw01_FixSums.j0 k a0 a1 bt282.1 bt282.2 true))) else (cadastrelaw01_FixSums.j0 k a0 a1 bt282.1 bt282.2 true)))))) = some r := h
  clear h
  replace H := Option.bind_eq_some_iff.mp H
  obtain ⟨⟨t282, t283⟩, A30, H⟩ := H
  replace H : ((cadastreref01_Add.f k a0 a1).bind fun bt284 => ((fix_Sub.f k a0 a1).bind fun bt286 => ((cadastreref01_Sub.f k a0 a1).bind fun bt288 => (if t282 = bt284.1 then (if (t283 != bt284.2) = true then (cadastrelaw01_FixSums.j0 k a0 a1 t282 t283 true) else (if bt286.1 = bt288.1 then (if (bt286.2 != bt288.2) = true then (cadastrelaw01_FixSums.j0 k a0 a1 t282 t283 true) else ((fix_Can.f k a0).bind fun t290 => ((cadastreref01_Can.f a0).bind fun t291 => (cadastrelaw01_FixSums.j0 k a0 a1 t282 t283 (t290 != t291))))) else (cadastrelaw01_FixSums.j0 k a0 a1 t282 t283 true))) else (cadastrelaw01_FixSums.j0 k a0 a1 t282 t283 true))))) = some r := H
  have A3 := Aside0.mk A30
  clear A30
  replace H := Option.bind_eq_some_iff.mp H
  obtain ⟨⟨t284, t285⟩, A40, H⟩ := H
  replace H : ((fix_Sub.f k a0 a1).bind fun bt286 => ((cadastreref01_Sub.f k a0 a1).bind fun bt288 => (if t282 = t284 then (if (t283 != t285) = true then (cadastrelaw01_FixSums.j0 k a0 a1 t282 t283 true) else (if bt286.1 = bt288.1 then (if (bt286.2 != bt288.2) = true then (cadastrelaw01_FixSums.j0 k a0 a1 t282 t283 true) else ((fix_Can.f k a0).bind fun t290 => ((cadastreref01_Can.f a0).bind fun t291 => (cadastrelaw01_FixSums.j0 k a0 a1 t282 t283 (t290 != t291))))) else (cadastrelaw01_FixSums.j0 k a0 a1 t282 t283 true))) else (cadastrelaw01_FixSums.j0 k a0 a1 t282 t283 true)))) = some r := H
  have A4 := Aside0.mk A40
  clear A40
  replace H := Option.bind_eq_some_iff.mp H
  obtain ⟨⟨t286, t287⟩, A50, H⟩ := H
  replace H : ((cadastreref01_Sub.f k a0 a1).bind fun bt288 => (if t282 = t284 then (if (t283 != t285) = true then (cadastrelaw01_FixSums.j0 k a0 a1 t282 t283 true) else (if t286 = bt288.1 then (if (t287 != bt288.2) = true then (cadastrelaw01_FixSums.j0 k a0 a1 t282 t283 true) else ((fix_Can.f k a0).bind fun t290 => ((cadastreref01_Can.f a0).bind fun t291 => (cadastrelaw01_FixSums.j0 k a0 a1 t282 t283 (t290 != t291))))) else (cadastrelaw01_FixSums.j0 k a0 a1 t282 t283 true))) else (cadastrelaw01_FixSums.j0 k a0 a1 t282 t283 true))) = some r := H
  have A5 := Aside0.mk A50
  clear A50
  replace H := Option.bind_eq_some_iff.mp H
  obtain ⟨⟨t288, t289⟩, A60, H⟩ := H
  replace H : (if t282 = t284 then (if (t283 != t285) = true then (cadastrelaw01_FixSums.j0 k a0 a1 t282 t283 true) else (if t286 = t288 then (if (t287 != t289) = true then (cadastrelaw01_FixSums.j0 k a0 a1 t282 t283 true) else ((fix_Can.f k a0).bind fun t290 => ((cadastreref01_Can.f a0).bind fun t291 => (cadastrelaw01_FixSums.j0 k a0 a1 t282 t283 (t290 != t291))))) else (cadastrelaw01_FixSums.j0 k a0 a1 t282 t283 true))) else (cadastrelaw01_FixSums.j0 k a0 a1 t282 t283 true)) = some r := H
  have A6 := Aside0.mk A60
  clear A60
  have HC7 := Aside0.mk H
  clear H
  go_enter Try.func7, Try.ntmps7
  go_upto_region 5 with (first | ((with_reducible refine gate_callee (f := 21) rfl ?_); refine goesL_ (some 18) rfl rfl Try.func21 (by kernel_rfl) rfl #[.int .i64 a0, .int .i64 a1] rfl (by (try simp only [List.map_toArray, List.map_cons, List.map_nil]); first | done | rfl | (simp only [List.length_drop, List.length_take]; rfl)) ?_; (with_reducible refine (fix_Add.calls k a0 a1 t282 t283 _ A3.out).mono ?_); rintro e w8 ⟨rfl, hb⟩; refine ⟨_, rfl, ?_⟩; have n0_ := Aside0.mk (below_step (by repeat (first | (with_reducible first | exact HB.out | apply below_alloc | apply pw_below_drewN | apply below_drew1) | exact HB.out)) hb); clear HB; have HB := n0_; clear n0_; (try clear hb); (try clear hb2); (try clear hk); (try clear hi)) | ((with_reducible refine gate_callee (f := 22) rfl ?_); refine goesL_ (some 24) rfl rfl Try.func22 (by kernel_rfl) rfl #[.int .i64 a0, .int .i64 a1] rfl (by (try simp only [List.map_toArray, List.map_cons, List.map_nil]); first | done | rfl | (simp only [List.length_drop, List.length_take]; rfl)) ?_; (with_reducible refine (cadastreref01_Add.calls k a0 a1 t284 t285 _ A4.out).mono ?_); rintro e w9 ⟨rfl, hb⟩; refine ⟨_, rfl, ?_⟩; have n0_ := Aside0.mk (below_step (by repeat (first | (with_reducible first | exact HB.out | apply below_alloc | apply pw_below_drewN | apply below_drew1) | exact HB.out)) hb); clear HB; have HB := n0_; clear n0_; (try clear hb); (try clear hb2); (try clear hk); (try clear hi)) | ((with_reducible refine gate_callee (f := 20) rfl ?_); refine goesL_ (some 30) rfl rfl Try.func20 (by kernel_rfl) rfl #[.int .i64 a0, .int .i64 a1] rfl (by (try simp only [List.map_toArray, List.map_cons, List.map_nil]); first | done | rfl | (simp only [List.length_drop, List.length_take]; rfl)) ?_; (with_reducible refine (fix_Sub.calls k a0 a1 t286 t287 _ A5.out).mono ?_); rintro e w10 ⟨rfl, hb⟩; refine ⟨_, rfl, ?_⟩; have n0_ := Aside0.mk (below_step (by repeat (first | (with_reducible first | exact HB.out | apply below_alloc | apply pw_below_drewN | apply below_drew1) | exact HB.out)) hb); clear HB; have HB := n0_; clear n0_; (try clear hb); (try clear hb2); (try clear hk); (try clear hi)) | ((with_reducible refine gate_callee (f := 23) rfl ?_); refine goesL_ (some 36) rfl rfl Try.func23 (by kernel_rfl) rfl #[.int .i64 a0, .int .i64 a1] rfl (by (try simp only [List.map_toArray, List.map_cons, List.map_nil]); first | done | rfl | (simp only [List.length_drop, List.length_take]; rfl)) ?_; (with_reducible refine (cadastreref01_Sub.calls k a0 a1 t288 t289 _ A6.out).mono ?_); rintro e w11 ⟨rfl, hb⟩; refine ⟨_, rfl, ?_⟩; have n0_ := Aside0.mk (below_step (by repeat (first | (with_reducible first | exact HB.out | apply below_alloc | apply pw_below_drewN | apply below_drew1) | exact HB.out)) hb); clear HB; have HB := n0_; clear n0_; (try clear hb); (try clear hb2); (try clear hk); (try clear hi)))
  (try simp only [Act.put, List.setIfInBounds_toArray, List.set_cons_zero, List.set_cons_succ])
  go_cut [63] (fun v63 wc => ∃ (kq : Nat) (x63_6 : Bool), v63 = .bool x63_6 ∧ Aside0 (cadastrelaw01_FixSums.j0 kq a0 a1 t282 t283 x63_6 = some r) ∧ Aside0 (kq ≤ k) ∧ Aside0 (Below w.heap.size w wc))
  case first =>
    have H := HC7.out
    clear HC7
    by_cases c12 : t282 = t284
    · rw [if_pos c12] at H
      have c12b0 : (t282 == t284) = true := beq_iff_eq.mpr c12
      have c12b1 : (t282 != t284) = false := bne_eq_false_iff_eq.mpr c12
      clear c12
      (first | rw [c12b0] | (simp only [i64_w, i32_w]; rw [c12b0]) | skip)
      by_cases c13 : (t283 != t285) = true
      · rw [if_pos c13] at H
        have c13b0 : (t283 != t285) = true := c13
        (try (have c13b1 : decide (t283 = t285) = false := by simpa using c13))
        (try (have c13b2 : (t283 == t285) = false := by simpa using c13))
        (try (have c13b3 : ¬ (t283 = t285) := by simpa using c13))
        clear c13
        have H' := Aside0.mk H
        clear H
        go_wp2
        go_meet
        case rel => exact ⟨_, (true), (by first | rfl | (simp; done) | (simp [*]; done)), H', ⟨by first | omega | exact Nat.le_refl _⟩, ⟨by repeat (first | (with_reducible first | exact HB.out | apply below_alloc | apply pw_below_drewN | apply below_drew1) | exact HB.out)⟩⟩
      · rw [if_neg c13] at H
        have c13b0 : (t283 != t285) = false := by simpa using c13
        (try (have c13b1 : decide (t283 = t285) = true := by simpa using c13))
        (try (have c13b2 : (t283 == t285) = true := by simpa using c13))
        clear c13
        by_cases c14 : t286 = t288
        · rw [if_pos c14] at H
          have c14b0 : (t286 == t288) = true := beq_iff_eq.mpr c14
          have c14b1 : (t286 != t288) = false := bne_eq_false_iff_eq.mpr c14
          clear c14
          by_cases c15 : (t287 != t289) = true
          · rw [if_pos c15] at H
            have c15b0 : (t287 != t289) = true := c15
            (try (have c15b1 : decide (t287 = t289) = false := by simpa using c15))
            (try (have c15b2 : (t287 == t289) = false := by simpa using c15))
            (try (have c15b3 : ¬ (t287 = t289) := by simpa using c15))
            clear c15
            have H' := Aside0.mk H
            clear H
            go_wp2
            go_meet
            case rel => exact ⟨_, (true), (by first | rfl | (simp; done) | (simp [*]; done)), H', ⟨by first | omega | exact Nat.le_refl _⟩, ⟨by repeat (first | (with_reducible first | exact HB.out | apply below_alloc | apply pw_below_drewN | apply below_drew1) | exact HB.out)⟩⟩
          · rw [if_neg c15] at H
            have c15b0 : (t287 != t289) = false := by simpa using c15
            (try (have c15b1 : decide (t287 = t289) = true := by simpa using c15))
            (try (have c15b2 : (t287 == t289) = true := by simpa using c15))
            clear c15
            replace H := Option.bind_eq_some_iff.mp H
            obtain ⟨t290, A160, H⟩ := H
            replace H : ((cadastreref01_Can.f a0).bind fun t291 => (cadastrelaw01_FixSums.j0 k a0 a1 t282 t283 (t290 != t291))) = some r := H
            have A16 := Aside0.mk A160
            clear A160
            replace H := Option.bind_eq_some_iff.mp H
            obtain ⟨t291, A170, H⟩ := H
            replace H : (cadastrelaw01_FixSums.j0 k a0 a1 t282 t283 (t290 != t291)) = some r := H
            have A17 := Aside0.mk A170
            clear A170
            have H' := Aside0.mk H
            clear H
            go_wp2_with (first | (go_at_call 24; (with_reducible refine (fix_Can.calls k a0 t290 _ A16.out).mono ?_); rintro e w18 ⟨rfl, hb⟩; have n0_ := Aside0.mk (below_step (by repeat (first | (with_reducible first | exact HB.out | apply below_alloc | apply pw_below_drewN | apply below_drew1) | exact HB.out)) hb); clear HB; have HB := n0_; clear n0_; (try clear hb); (try clear hb2); (try clear hk); (try clear hi)) | (go_at_call 19; (with_reducible refine (cadastreref01_Can.calls a0 t291 _ A17.out).mono ?_); rintro e w' ⟨rfl, ⟨nd, rfl⟩⟩))
            go_meet
            case rel => exact ⟨_, ((t290 != t291)), (by first | rfl | (simp; done) | (simp [*]; done)), H', ⟨by first | omega | exact Nat.le_refl _⟩, ⟨by repeat (first | (with_reducible first | exact HB.out | apply below_alloc | apply pw_below_drewN | apply below_drew1) | exact HB.out)⟩⟩
        · rw [if_neg c14] at H
          have c14b0 : (t286 == t288) = false := beq_eq_false_iff_ne.mpr c14
          have c14b1 : (t286 != t288) = true := bne_iff_ne.mpr c14
          have H' := Aside0.mk H
          clear H
          go_wp2
          go_meet
          case rel => exact ⟨_, (true), (by first | rfl | (simp; done) | (simp [*]; done)), H', ⟨by first | omega | exact Nat.le_refl _⟩, ⟨by repeat (first | (with_reducible first | exact HB.out | apply below_alloc | apply pw_below_drewN | apply below_drew1) | exact HB.out)⟩⟩
    · rw [if_neg c12] at H
      have c12b0 : (t282 == t284) = false := beq_eq_false_iff_ne.mpr c12
      have c12b1 : (t282 != t284) = true := bne_iff_ne.mpr c12
      (first | rw [c12b0] | (simp only [i64_w, i32_w]; rw [c12b0]) | skip)
      have H' := Aside0.mk H
      clear H
      go_wp2
      go_meet
      case rel => exact ⟨_, (true), (by first | rfl | (simp; done) | (simp [*]; done)), H', ⟨by first | omega | exact Nat.le_refl _⟩, ⟨by repeat (first | (with_reducible first | exact HB.out | apply below_alloc | apply pw_below_drewN | apply below_drew1) | exact HB.out)⟩⟩
  case rest =>
    clear HC7
    try clear c1
    try clear c2
    try clear p2
    try clear c7
    try clear c12
    try clear c12b0
    try clear c12b1
    try clear c13
    try clear c13b0
    try clear c13b1
    try clear c13b2
    try clear c14
    try clear c14b0
    try clear c14b1
    try clear c15
    try clear c15b0
    try clear c15b1
    try clear c15b2
    obtain ⟨kq, x63_6, rfl, HA, HJ6, HB⟩ := hcut
    cases kq with
    | zero => exact absurd HA.out (by simp [cadastrelaw01_FixSums.j0])
    | succ kj6 =>
      have H := HA.out
      clear HA
      simp only [cadastrelaw01_FixSums.j0] at H
      by_cases c19 : x63_6 = true
      · subst c19
        have H1 : (some false) = some r := by rw [if_pos rfl] at H; exact H
        clear H
        have H := H1
        clear H1
        obtain rfl := Option.some.inj H
        go_wp2
        go_ret
        exact ⟨by first | rfl | (simp [errW_none, errW_some] <;> rfl) | (simp [*, errW_none, errW_some] <;> rfl), by repeat (first | (with_reducible first | exact HB.out | apply below_alloc | apply pw_below_drewN | apply below_drew1) | exact HB.out)⟩
      · replace c19 := Bool.eq_false_iff.mpr c19
        subst c19
        have H1 : ((fix_Sub.f kj6 t282 a1).bind fun bt292 => (if t283 = true then (if bt292.1 = a0 then (if bt292.2 = true then ((cadastrelaw01_lives.f kj6).bind fun t294 => (some t294)) else (some false)) else (some false)) else ((cadastrelaw01_lives.f kj6).bind fun t295 => (some t295)))) = some r := by rw [if_neg (show ¬ (false = true) by decide)] at H; exact H
        clear H
        have H := H1
        clear H1
        replace H := Option.bind_eq_some_iff.mp H
        obtain ⟨⟨t292, t293⟩, A200, H⟩ := H
        replace H : (if t283 = true then (if t292 = a0 then (if t293 = true then ((cadastrelaw01_lives.f kj6).bind fun t294 => (some t294)) else (some false)) else (some false)) else ((cadastrelaw01_lives.f kj6).bind fun t295 => (some t295))) = some r := H
        have A20 := Aside0.mk A200
        clear A200
        by_cases c21 : t283 = true
        · subst c21
          have H1 : (if t292 = a0 then (if t293 = true then ((cadastrelaw01_lives.f kj6).bind fun t294 => (some t294)) else (some false)) else (some false)) = some r := by rw [if_pos rfl] at H; exact H
          clear H
          have H := H1
          clear H1
          by_cases c22 : t292 = a0
          · rw [if_pos c22] at H
            have c22b0 : (t292 == a0) = true := beq_iff_eq.mpr c22
            have c22b1 : (t292 != a0) = false := bne_eq_false_iff_eq.mpr c22
            clear c22
            by_cases c23 : t293 = true
            · subst c23
              have H1 : ((cadastrelaw01_lives.f kj6).bind fun t294 => (some t294)) = some r := by rw [if_pos rfl] at H; exact H
              clear H
              have H := H1
              clear H1
              replace H := Option.bind_eq_some_iff.mp H
              obtain ⟨t294, A240, H⟩ := H
              replace H : (some t294) = some r := H
              have A24 := Aside0.mk A240
              clear A240
              obtain rfl := Option.some.inj H
              go_wp2_with (first | ((with_reducible refine gate_callee (f := 20) rfl ?_); refine goesL_ (some 67) rfl rfl Try.func20 (by kernel_rfl) rfl #[.int .i64 t282, .int .i64 a1] rfl (by (try simp only [List.map_toArray, List.map_cons, List.map_nil]); first | done | rfl | (simp only [List.length_drop, List.length_take]; rfl)) ?_; (with_reducible refine (fix_Sub.calls kj6 t282 a1 t292 true _ A20.out).mono ?_); rintro e w25 ⟨rfl, hb⟩; refine ⟨_, rfl, ?_⟩; have n0_ := Aside0.mk (below_step (by repeat (first | (with_reducible first | exact HB.out | apply below_alloc | apply pw_below_drewN | apply below_drew1) | exact HB.out)) hb); clear HB; have HB := n0_; clear n0_; (try clear hb); (try clear hb2); (try clear hk); (try clear hi)) | (go_at_call 13; (with_reducible refine (cadastrelaw01_lives.calls kj6  t294 _ A24.out).mono ?_); rintro e w26 ⟨rfl, hb⟩; have n0_ := Aside0.mk (below_step (by repeat (first | (with_reducible first | exact HB.out | apply below_alloc | apply pw_below_drewN | apply below_drew1) | exact HB.out)) hb); clear HB; have HB := n0_; clear n0_; (try clear hb); (try clear hb2); (try clear hk); (try clear hi)))
              go_ret
              exact ⟨by first | rfl | (simp [errW_none, errW_some] <;> rfl) | (simp [*, errW_none, errW_some] <;> rfl), by repeat (first | (with_reducible first | exact HB.out | apply below_alloc | apply pw_below_drewN | apply below_drew1) | exact HB.out)⟩
            · replace c23 := Bool.eq_false_iff.mpr c23
              subst c23
              have H1 : (some false) = some r := by rw [if_neg (show ¬ (false = true) by decide)] at H; exact H
              clear H
              have H := H1
              clear H1
              obtain rfl := Option.some.inj H
              go_wp2_with (first | ((with_reducible refine gate_callee (f := 20) rfl ?_); refine goesL_ (some 67) rfl rfl Try.func20 (by kernel_rfl) rfl #[.int .i64 t282, .int .i64 a1] rfl (by (try simp only [List.map_toArray, List.map_cons, List.map_nil]); first | done | rfl | (simp only [List.length_drop, List.length_take]; rfl)) ?_; (with_reducible refine (fix_Sub.calls kj6 t282 a1 t292 false _ A20.out).mono ?_); rintro e w27 ⟨rfl, hb⟩; refine ⟨_, rfl, ?_⟩; have n0_ := Aside0.mk (below_step (by repeat (first | (with_reducible first | exact HB.out | apply below_alloc | apply pw_below_drewN | apply below_drew1) | exact HB.out)) hb); clear HB; have HB := n0_; clear n0_; (try clear hb); (try clear hb2); (try clear hk); (try clear hi)))
              go_ret
              exact ⟨by first | rfl | (simp [errW_none, errW_some] <;> rfl) | (simp [*, errW_none, errW_some] <;> rfl), by repeat (first | (with_reducible first | exact HB.out | apply below_alloc | apply pw_below_drewN | apply below_drew1) | exact HB.out)⟩
          · rw [if_neg c22] at H
            have c22b0 : (t292 == a0) = false := beq_eq_false_iff_ne.mpr c22
            have c22b1 : (t292 != a0) = true := bne_iff_ne.mpr c22
            obtain rfl := Option.some.inj H
            go_wp2_with (first | ((with_reducible refine gate_callee (f := 20) rfl ?_); refine goesL_ (some 67) rfl rfl Try.func20 (by kernel_rfl) rfl #[.int .i64 t282, .int .i64 a1] rfl (by (try simp only [List.map_toArray, List.map_cons, List.map_nil]); first | done | rfl | (simp only [List.length_drop, List.length_take]; rfl)) ?_; (with_reducible refine (fix_Sub.calls kj6 t282 a1 t292 t293 _ A20.out).mono ?_); rintro e w28 ⟨rfl, hb⟩; refine ⟨_, rfl, ?_⟩; have n0_ := Aside0.mk (below_step (by repeat (first | (with_reducible first | exact HB.out | apply below_alloc | apply pw_below_drewN | apply below_drew1) | exact HB.out)) hb); clear HB; have HB := n0_; clear n0_; (try clear hb); (try clear hb2); (try clear hk); (try clear hi)))
            go_ret
            exact ⟨by first | rfl | (simp [errW_none, errW_some] <;> rfl) | (simp [*, errW_none, errW_some] <;> rfl), by repeat (first | (with_reducible first | exact HB.out | apply below_alloc | apply pw_below_drewN | apply below_drew1) | exact HB.out)⟩
        · replace c21 := Bool.eq_false_iff.mpr c21
          subst c21
          have H1 : ((cadastrelaw01_lives.f kj6).bind fun t295 => (some t295)) = some r := by rw [if_neg (show ¬ (false = true) by decide)] at H; exact H
          clear H
          have H := H1
          clear H1
          replace H := Option.bind_eq_some_iff.mp H
          obtain ⟨t295, A290, H⟩ := H
          replace H : (some t295) = some r := H
          have A29 := Aside0.mk A290
          clear A290
          obtain rfl := Option.some.inj H
          go_wp2_with (first | ((with_reducible refine gate_callee (f := 20) rfl ?_); refine goesL_ (some 67) rfl rfl Try.func20 (by kernel_rfl) rfl #[.int .i64 t282, .int .i64 a1] rfl (by (try simp only [List.map_toArray, List.map_cons, List.map_nil]); first | done | rfl | (simp only [List.length_drop, List.length_take]; rfl)) ?_; (with_reducible refine (fix_Sub.calls kj6 t282 a1 t292 t293 _ A20.out).mono ?_); rintro e w30 ⟨rfl, hb⟩; refine ⟨_, rfl, ?_⟩; have n0_ := Aside0.mk (below_step (by repeat (first | (with_reducible first | exact HB.out | apply below_alloc | apply pw_below_drewN | apply below_drew1) | exact HB.out)) hb); clear HB; have HB := n0_; clear n0_; (try clear hb); (try clear hb2); (try clear hk); (try clear hi)) | (go_at_call 13; (with_reducible refine (cadastrelaw01_lives.calls kj6  t295 _ A29.out).mono ?_); rintro e w31 ⟨rfl, hb⟩; have n0_ := Aside0.mk (below_step (by repeat (first | (with_reducible first | exact HB.out | apply below_alloc | apply pw_below_drewN | apply below_drew1) | exact HB.out)) hb); clear HB; have HB := n0_; clear n0_; (try clear hb); (try clear hb2); (try clear hk); (try clear hi)))
          go_ret
          exact ⟨by first | rfl | (simp [errW_none, errW_some] <;> rfl) | (simp [*, errW_none, errW_some] <;> rfl), by repeat (first | (with_reducible first | exact HB.out | apply below_alloc | apply pw_below_drewN | apply below_drew1) | exact HB.out)⟩

/-- THE ONE PURE STATEMENT of cadastrelaw01_FixSums: yours. -/
def cadastrelaw01_FixSums.Pure : Prop := ∀ (a0 : Int) (a1 : Int), (Lit.int .i64 a0).wf = true → (Lit.int .i64 a1).wf = true → ∃ k, cadastrelaw01_FixSums.f k a0 a1 = some true
theorem cadastrelaw01_FixSums.walk (P : cadastrelaw01_FixSums.Pure) (a0 : Int) (a1 : Int) (w : World) (w0 : (Lit.int .i64 a0).wf = true) (w1 : (Lit.int .i64 a1).wf = true) :
    Calls Try.prog 7 #[.int .i64 a0, .int .i64 a1] w fun e w' => e = .returned (.bool true) ∧ Below w.heap.size w w' := by
  obtain ⟨k, h⟩ := P a0 a1 w0 w1
  refine (cadastrelaw01_FixSums.calls k a0 a1 true w h).mono ?_
  rintro e w' ⟨rfl, hd⟩
  exact ⟨rfl, hd⟩

end Go.Proofs.Ytegcjgfhpjdjfaa.PFix
