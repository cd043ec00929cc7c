/- Printed by a program of this session: for each Go function named below its pure function, and that where this tells an answer the call comes to that answer. No condition. -/
import Derived.Test.YtegcjgfhpjdjfaaPFixx0
import Derived.Test.YtegcjgfhpjdjfaaPFixx5
import Derived.Test.YtegcjgfhpjdjfaaPFixx10
import Derived.Test.YtegcjgfhpjdjfaaPFixx12
import Derived.Test.YtegcjgfhpjdjfaaPFixx13
namespace Go.Proofs.Ytegcjgfhpjdjfaa.PFix
open Go.RowKit Go.Proofs.YtegcjgfhpjdjfaaW.PrintWords Go.Proofs.YtegcjgfhpjdjfaaW.PrintLast Go.Proofs.YtegcjgfhpjdjfaaW.PrintMore
attribute [local go_sem] max2_int min2_int max_two min_two max_three min_three max_four min_four   -- for this text's walks alone
open Go.Proofs.Ytegcjgfhpjdjfaa.Extra
attribute [local go_sem] run_add64_z run_sub64_z
set_option linter.unusedVariables false
set_option linter.unusedSimpArgs false

/-! ### cadastrelaw01_FixRests: function 5 -/
def cadastrelaw01_FixRests.j0 : Nat → Int → Int → Bool → Bool → Option (Bool)
  | 0, _, _, _, _ => none
  | k + 1, x1, x5, x6, x28 => if x28 = true then (some false) else (if x6 = true then (if x5 = 0 then ((cadastrelaw01_lives.f k).bind fun t225 => (some t225)) else (if ((decide (x5 < 0)) == (decide (x1 < 0))) = true then ((cadastreref01_Size.f x5).bind fun t226 => ((cadastreref01_Size.f x1).bind fun t227 => (if t226 < t227 then ((cadastrelaw01_lives.f k).bind fun t228 => (some t228)) else (some false)))) else (some false))) else ((cadastrelaw01_lives.f k).bind fun t229 => (some t229)))
def cadastrelaw01_FixRests.f (k : Nat) (a0 : Int) (a1 : Int) : Option (Bool) := (fix_Mod.f k a0 a1).bind fun bt221 => ((cadastreref01_Mod.f k a0 a1).bind fun bt223 => (if bt221.1 = bt223.1 then (cadastrelaw01_FixRests.j0 k a1 bt221.1 bt221.2 (bt221.2 != bt223.2)) else (cadastrelaw01_FixRests.j0 k a1 bt221.1 bt221.2 true)))
theorem cadastrelaw01_FixRests.mono_l : ∀ k, (∀ y0 y1 y2 y3, LeO (cadastrelaw01_FixRests.j0 k y0 y1 y2 y3) (cadastrelaw01_FixRests.j0 (k + 1) y0 y1 y2 y3))
  | 0 => fun _ _ _ _ r h => by simp [cadastrelaw01_FixRests.j0] at h
  | k + 1 => by
    have ih0 := cadastrelaw01_FixRests.mono_l k
    · intro y0 y1 y2 y3
      unfold cadastrelaw01_FixRests.j0
      repeat' first
      | (with_reducible exact ih0 _ _ _ _)
      | (with_reducible exact cadastrelaw01_lives.mono _)
      | (with_reducible exact cadastreref01_Mod.mono _ _ _)
      | (with_reducible exact fix_Mod.mono _ _ _)
      | (with_reducible exact LeO.refl _)
      | (with_reducible exact LeO.none _)
      | (with_reducible refine LeO.ite ?_ ?_)
      | (with_reducible refine LeO.bind ?_ (fun _ => ?_))
      | exact ih0 _ _ _ _
      | exact cadastrelaw01_lives.mono _
      | exact cadastreref01_Mod.mono _ _ _
      | exact fix_Mod.mono _ _ _
      | exact LeO.none _
      | refine LeO.ite ?_ ?_
      | refine LeO.bind ?_ (fun _ => ?_)
theorem cadastrelaw01_FixRests.mono : ∀ a0 a1 k, LeO (cadastrelaw01_FixRests.f k a0 a1) (cadastrelaw01_FixRests.f (k + 1) a0 a1) := by
  intro a0 a1 k
  have ih0 := cadastrelaw01_FixRests.mono_l k
  unfold cadastrelaw01_FixRests.f
  repeat' first
      | (with_reducible exact ih0 _ _ _ _)
      | (with_reducible exact cadastrelaw01_lives.mono _)
      | (with_reducible exact cadastreref01_Mod.mono _ _ _)
      | (with_reducible exact fix_Mod.mono _ _ _)
      | (with_reducible exact LeO.refl _)
      | (with_reducible exact LeO.none _)
      | (with_reducible refine LeO.ite ?_ ?_)
      | (with_reducible refine LeO.bind ?_ (fun _ => ?_))
      | exact ih0 _ _ _ _
      | exact cadastrelaw01_lives.mono _
      | exact cadastreref01_Mod.mono _ _ _
      | exact fix_Mod.mono _ _ _
      | exact LeO.none _
      | refine LeO.ite ?_ ?_
      | refine LeO.bind ?_ (fun _ => ?_)
set_option maxHeartbeats 8000000 in
set_option maxRecDepth 100000 in
theorem cadastrelaw01_FixRests.calls (k : Nat) (a0 : Int) (a1 : Int) (r : Bool) (w : World) (h : cadastrelaw01_FixRests.f k a0 a1 = some r) :
    Calls Try.prog 5 #[.int .i64 a0, .int .i64 a1] w fun e w' => e = .returned (.bool r) ∧ Below w.heap.size w w' := by
  have HB := Aside0.mk (Below.refl w.heap.size w)
  have H : ((fix_Mod.f k a0 a1).bind fun bt221 => ((cadastreref01_Mod.f k a0 a1).bind fun bt223 => (if bt221.1 = bt223.1 then (cadastrelaw01_FixRests.j0 k a1 bt221.1 bt221.2 (bt221.2 != bt223.2)) else (cadastrelaw01_FixRests.j0 k a1 bt221.1 bt221.2 true)))) = some r := h
  clear h
  replace H := Option.bind_eq_some_iff.mp H
  obtain ⟨⟨t221, t222⟩, A30, H⟩ := H
  replace H : ((cadastreref01_Mod.f k a0 a1).bind fun bt223 => (if t221 = bt223.1 then (cadastrelaw01_FixRests.j0 k a1 t221 t222 (t222 != bt223.2)) else (cadastrelaw01_FixRests.j0 k a1 t221 t222 true))) = some r := H
  have A3 := Aside0.mk A30
  clear A30
  replace H := Option.bind_eq_some_iff.mp H
  obtain ⟨⟨t223, t224⟩, A40, H⟩ := H
  replace H : (if t221 = t223 then (cadastrelaw01_FixRests.j0 k a1 t221 t222 (t222 != t224)) else (cadastrelaw01_FixRests.j0 k a1 t221 t222 true)) = some r := H
  have A4 := Aside0.mk A40
  clear A40
  have HC5 := Aside0.mk H
  clear H
  go_enter Try.func5, Try.ntmps5
  go_upto_region 3 with (first | ((with_reducible refine gate_callee (f := 16) rfl ?_); refine goesL_ (some 12) rfl rfl Try.func16 (by kernel_rfl) rfl #[.int .i64 a0, .int .i64 a1] rfl (by (try simp only [List.map_toArray, List.map_cons, List.map_nil]); first | done | rfl | (simp only [List.length_drop, List.length_take]; rfl)) ?_; (with_reducible refine (fix_Mod.calls k a0 a1 t221 t222 _ A3.out).mono ?_); rintro e w6 ⟨rfl, hb⟩; refine ⟨_, rfl, ?_⟩; have n0_ := Aside0.mk (below_step (by repeat (first | (with_reducible first | exact HB.out | apply below_alloc | apply pw_below_drewN | apply below_drew1) | exact HB.out)) hb); clear HB; have HB := n0_; clear n0_; (try clear hb); (try clear hb2); (try clear hk); (try clear hi)) | ((with_reducible refine gate_callee (f := 17) rfl ?_); refine goesL_ (some 18) rfl rfl Try.func17 (by kernel_rfl) rfl #[.int .i64 a0, .int .i64 a1] rfl (by (try simp only [List.map_toArray, List.map_cons, List.map_nil]); first | done | rfl | (simp only [List.length_drop, List.length_take]; rfl)) ?_; (with_reducible refine (cadastreref01_Mod.calls k a0 a1 t223 t224 _ A4.out).mono ?_); rintro e w' ⟨rfl, ⟨nd, rfl⟩⟩; refine ⟨_, rfl, ?_⟩))
  (try simp only [Act.put, List.setIfInBounds_toArray, List.set_cons_zero, List.set_cons_succ])
  go_cut [28] (fun v28 wc => ∃ (kq : Nat) (x28_4 : Bool), v28 = .bool x28_4 ∧ Aside0 (cadastrelaw01_FixRests.j0 kq a1 t221 t222 x28_4 = some r) ∧ Aside0 (kq ≤ k) ∧ Aside0 (Below w.heap.size w wc))
  case first =>
    have H := HC5.out
    clear HC5
    by_cases c7 : t221 = t223
    · rw [if_pos c7] at H
      have c7b0 : (t221 == t223) = true := beq_iff_eq.mpr c7
      have c7b1 : (t221 != t223) = false := bne_eq_false_iff_eq.mpr c7
      clear c7
      (first | rw [c7b0] | (simp only [i64_w, i32_w]; rw [c7b0]) | skip)
      have H' := Aside0.mk H
      clear H
      go_wp2
      go_meet
      case rel => exact ⟨_, ((t222 != t224)), (by first | rfl | (simp; done) | (simp [*]; done)), H', ⟨by first | omega | exact Nat.le_refl _⟩, ⟨by repeat (first | (with_reducible first | exact HB.out | apply below_alloc | apply pw_below_drewN | apply below_drew1) | exact HB.out)⟩⟩
    · rw [if_neg c7] at H
      have c7b0 : (t221 == t223) = false := beq_eq_false_iff_ne.mpr c7
      have c7b1 : (t221 != t223) = true := bne_iff_ne.mpr c7
      (first | rw [c7b0] | (simp only [i64_w, i32_w]; rw [c7b0]) | skip)
      have H' := Aside0.mk H
      clear H
      go_wp2
      go_meet
      case rel => exact ⟨_, (true), (by first | rfl | (simp; done) | (simp [*]; done)), H', ⟨by first | omega | exact Nat.le_refl _⟩, ⟨by repeat (first | (with_reducible first | exact HB.out | apply below_alloc | apply pw_below_drewN | apply below_drew1) | exact HB.out)⟩⟩
  case rest =>
    clear HC5
    try clear c1
    try clear p2
    try clear c5
    try clear c7
    try clear c7b0
    try clear c7b1
    obtain ⟨kq, x28_4, rfl, HA, HJ4, HB⟩ := hcut
    cases kq with
    | zero => exact absurd HA.out (by simp [cadastrelaw01_FixRests.j0])
    | succ kj4 =>
      have H := HA.out
      clear HA
      simp only [cadastrelaw01_FixRests.j0] at H
      by_cases c8 : x28_4 = true
      · subst c8
        have H1 : (some false) = some r := by rw [if_pos rfl] at H; exact H
        clear H
        have H := H1
        clear H1
        obtain rfl := Option.some.inj H
        go_wp2
        go_ret
        exact ⟨by first | rfl | (simp [errW_none, errW_some] <;> rfl) | (simp [*, errW_none, errW_some] <;> rfl), by repeat (first | (with_reducible first | exact HB.out | apply below_alloc | apply pw_below_drewN | apply below_drew1) | exact HB.out)⟩
      · replace c8 := Bool.eq_false_iff.mpr c8
        subst c8
        have H1 : (if t222 = true then (if t221 = 0 then ((cadastrelaw01_lives.f kj4).bind fun t225 => (some t225)) else (if ((decide (t221 < 0)) == (decide (a1 < 0))) = true then ((cadastreref01_Size.f t221).bind fun t226 => ((cadastreref01_Size.f a1).bind fun t227 => (if t226 < t227 then ((cadastrelaw01_lives.f kj4).bind fun t228 => (some t228)) else (some false)))) else (some false))) else ((cadastrelaw01_lives.f kj4).bind fun t229 => (some t229))) = some r := by rw [if_neg (show ¬ (false = true) by decide)] at H; exact H
        clear H
        have H := H1
        clear H1
        by_cases c9 : t222 = true
        · subst c9
          have H1 : (if t221 = 0 then ((cadastrelaw01_lives.f kj4).bind fun t225 => (some t225)) else (if ((decide (t221 < 0)) == (decide (a1 < 0))) = true then ((cadastreref01_Size.f t221).bind fun t226 => ((cadastreref01_Size.f a1).bind fun t227 => (if t226 < t227 then ((cadastrelaw01_lives.f kj4).bind fun t228 => (some t228)) else (some false)))) else (some false))) = some r := by rw [if_pos rfl] at H; exact H
          clear H
          have H := H1
          clear H1
          by_cases c10 : t221 = 0
          · rw [if_pos c10] at H
            have c10b0 : (t221 == 0) = true := beq_iff_eq.mpr c10
            have c10b1 : (t221 != 0) = false := bne_eq_false_iff_eq.mpr c10
            clear c10
            replace H := Option.bind_eq_some_iff.mp H
            obtain ⟨t225, A110, H⟩ := H
            replace H : (some t225) = some r := H
            have A11 := Aside0.mk A110
            clear A110
            obtain rfl := Option.some.inj H
            go_wp2_with (first | (go_at_call 13; (with_reducible refine (cadastrelaw01_lives.calls kj4  t225 _ A11.out).mono ?_); rintro e w12 ⟨rfl, hb⟩; have n0_ := Aside0.mk (below_step (by repeat (first | (with_reducible first | exact HB.out | apply below_alloc | apply pw_below_drewN | apply below_drew1) | exact HB.out)) hb); clear HB; have HB := n0_; clear n0_; (try clear hb); (try clear hb2); (try clear hk); (try clear hi)))
            go_ret
            exact ⟨by first | rfl | (simp [errW_none, errW_some] <;> rfl) | (simp [*, errW_none, errW_some] <;> rfl), by repeat (first | (with_reducible first | exact HB.out | apply below_alloc | apply pw_below_drewN | apply below_drew1) | exact HB.out)⟩
          · rw [if_neg c10] at H
            have c10b0 : (t221 == 0) = false := beq_eq_false_iff_ne.mpr c10
            have c10b1 : (t221 != 0) = true := bne_iff_ne.mpr c10
            by_cases c13 : ((decide (t221 < 0)) == (decide (a1 < 0))) = true
            · rw [if_pos c13] at H
              have c13b0 : ((decide (t221 < 0)) == (decide (a1 < 0))) = true := c13
              (try (have c13b1 : decide ((decide (t221 < 0)) = (decide (a1 < 0))) = true := by simpa using c13))
              (try (have c13b2 : ((decide (t221 < 0)) == (decide (a1 < 0))) = true := by simpa using c13))
              clear c13
              replace H := Option.bind_eq_some_iff.mp H
              obtain ⟨t226, A140, H⟩ := H
              replace H : ((cadastreref01_Size.f a1).bind fun t227 => (if t226 < t227 then ((cadastrelaw01_lives.f kj4).bind fun t228 => (some t228)) else (some false))) = some r := H
              have A14 := Aside0.mk A140
              clear A140
              replace H := Option.bind_eq_some_iff.mp H
              obtain ⟨t227, A150, H⟩ := H
              replace H : (if t226 < t227 then ((cadastrelaw01_lives.f kj4).bind fun t228 => (some t228)) else (some false)) = some r := H
              have A15 := Aside0.mk A150
              clear A150
              by_cases c16 : t226 < t227
              · rw [if_pos c16] at H
                have c16b0 : decide (t226 < t227) = true := decide_eq_true c16
                clear c16
                replace H := Option.bind_eq_some_iff.mp H
                obtain ⟨t228, A170, H⟩ := H
                replace H : (some t228) = some r := H
                have A17 := Aside0.mk A170
                clear A170
                obtain rfl := Option.some.inj H
                go_wp2_with (first | (go_at_call 18; (with_reducible refine (cadastreref01_Size.calls t221 t226 _ A14.out).mono ?_); rintro e w' ⟨rfl, ⟨nd, rfl⟩⟩) | (go_at_call 18; (with_reducible refine (cadastreref01_Size.calls a1 t227 _ A15.out).mono ?_); rintro e w' ⟨rfl, ⟨nd, rfl⟩⟩) | (go_at_call 13; (with_reducible refine (cadastrelaw01_lives.calls kj4  t228 _ A17.out).mono ?_); rintro e w18 ⟨rfl, hb⟩; have n0_ := Aside0.mk (below_step (by repeat (first | (with_reducible first | exact HB.out | apply below_alloc | apply pw_below_drewN | apply below_drew1) | exact HB.out)) hb); clear HB; have HB := n0_; clear n0_; (try clear hb); (try clear hb2); (try clear hk); (try clear hi)))
                go_ret
                exact ⟨by first | rfl | (simp [errW_none, errW_some] <;> rfl) | (simp [*, errW_none, errW_some] <;> rfl), by repeat (first | (with_reducible first | exact HB.out | apply below_alloc | apply pw_below_drewN | apply below_drew1) | exact HB.out)⟩
              · rw [if_neg c16] at H
                have c16b0 : decide (t226 < t227) = false := decide_eq_false c16
                clear c16
                obtain rfl := Option.some.inj H
                go_wp2_with (first | (go_at_call 18; (with_reducible refine (cadastreref01_Size.calls t221 t226 _ A14.out).mono ?_); rintro e w' ⟨rfl, ⟨nd, rfl⟩⟩) | (go_at_call 18; (with_reducible refine (cadastreref01_Size.calls a1 t227 _ A15.out).mono ?_); rintro e w' ⟨rfl, ⟨nd, rfl⟩⟩))
                go_ret
                exact ⟨by first | rfl | (simp [errW_none, errW_some] <;> rfl) | (simp [*, errW_none, errW_some] <;> rfl), by repeat (first | (with_reducible first | exact HB.out | apply below_alloc | apply pw_below_drewN | apply below_drew1) | exact HB.out)⟩
            · rw [if_neg c13] at H
              have c13b0 : ((decide (t221 < 0)) == (decide (a1 < 0))) = false := by simpa using c13
              (try (have c13b1 : decide ((decide (t221 < 0)) = (decide (a1 < 0))) = false := by simpa using c13))
              (try (have c13b2 : ((decide (t221 < 0)) == (decide (a1 < 0))) = false := by simpa using c13))
              (try (have c13b3 : ¬ ((decide (t221 < 0)) = (decide (a1 < 0))) := by simpa using c13))
              clear c13
              obtain rfl := Option.some.inj H
              go_wp2
              go_ret
              exact ⟨by first | rfl | (simp [errW_none, errW_some] <;> rfl) | (simp [*, errW_none, errW_some] <;> rfl), by repeat (first | (with_reducible first | exact HB.out | apply below_alloc | apply pw_below_drewN | apply below_drew1) | exact HB.out)⟩
        · replace c9 := Bool.eq_false_iff.mpr c9
          subst c9
          have H1 : ((cadastrelaw01_lives.f kj4).bind fun t229 => (some t229)) = some r := by rw [if_neg (show ¬ (false = true) by decide)] at H; exact H
          clear H
          have H := H1
          clear H1
          replace H := Option.bind_eq_some_iff.mp H
          obtain ⟨t229, A190, H⟩ := H
          replace H : (some t229) = some r := H
          have A19 := Aside0.mk A190
          clear A190
          obtain rfl := Option.some.inj H
          go_wp2_with (first | (go_at_call 13; (with_reducible refine (cadastrelaw01_lives.calls kj4  t229 _ A19.out).mono ?_); rintro e w20 ⟨rfl, hb⟩; have n0_ := Aside0.mk (below_step (by repeat (first | (with_reducible first | exact HB.out | apply below_alloc | apply pw_below_drewN | apply below_drew1) | exact HB.out)) hb); clear HB; have HB := n0_; clear n0_; (try clear hb); (try clear hb2); (try clear hk); (try clear hi)))
          go_ret
          exact ⟨by first | rfl | (simp [errW_none, errW_some] <;> rfl) | (simp [*, errW_none, errW_some] <;> rfl), by repeat (first | (with_reducible first | exact HB.out | apply below_alloc | apply pw_below_drewN | apply below_drew1) | exact HB.out)⟩

/-- THE ONE PURE STATEMENT of cadastrelaw01_FixRests: yours. -/
def cadastrelaw01_FixRests.Pure : Prop := ∀ (a0 : Int) (a1 : Int), (Lit.int .i64 a0).wf = true → (Lit.int .i64 a1).wf = true → ∃ k, cadastrelaw01_FixRests.f k a0 a1 = some true
theorem cadastrelaw01_FixRests.walk (P : cadastrelaw01_FixRests.Pure) (a0 : Int) (a1 : Int) (w : World) (w0 : (Lit.int .i64 a0).wf = true) (w1 : (Lit.int .i64 a1).wf = true) :
    Calls Try.prog 5 #[.int .i64 a0, .int .i64 a1] w fun e w' => e = .returned (.bool true) ∧ Below w.heap.size w w' := by
  obtain ⟨k, h⟩ := P a0 a1 w0 w1
  refine (cadastrelaw01_FixRests.calls k a0 a1 true w h).mono ?_
  rintro e w' ⟨rfl, hd⟩
  exact ⟨rfl, hd⟩

end Go.Proofs.Ytegcjgfhpjdjfaa.PFix
