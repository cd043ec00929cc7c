/- Printed by a program of this session: for each Go function named below its pure function, and that where this tells an answer the call comes to that answer. No condition. -/
import Derived.Test.YtegcjgfhpjdjfaaPFixx0
import Derived.Test.YtegcjgfhpjdjfaaPFixx5
import Derived.Test.YtegcjgfhpjdjfaaPFixx10
import Derived.Test.YtegcjgfhpjdjfaaPFixx12
import Derived.Test.YtegcjgfhpjdjfaaPFixx22
import Derived.Test.YtegcjgfhpjdjfaaPFixx23
import Derived.Test.YtegcjgfhpjdjfaaPFixx24
namespace Go.Proofs.Ytegcjgfhpjdjfaa.PFix
open Go.RowKit Go.Proofs.YtegcjgfhpjdjfaaW.PrintWords Go.Proofs.YtegcjgfhpjdjfaaW.PrintLast Go.Proofs.YtegcjgfhpjdjfaaW.PrintMore
attribute [local go_sem] max2_int min2_int max_two min_two max_three min_three max_four min_four   -- for this text's walks alone
open Go.Proofs.Ytegcjgfhpjdjfaa.Extra
attribute [local go_sem] run_add64_z run_sub64_z
set_option linter.unusedVariables false
set_option linter.unusedSimpArgs false

/-! ### cadastrelaw01_FixWhole: function 10 -/
mutual
def cadastrelaw01_FixWhole.j0 : Nat → Int → Int → Bool → Option (Bool)
  | 0, _, _, _ => none
  | k + 1, x0, x1, x34 => if x34 = true then (some false) else ((fix_Round.f k x0 (wrap64 (Int.tmod x1 5))).bind fun bt342 => (if bt342.2 = true then ((cadastreref01_Can.f x0).bind fun t344 => (cadastrelaw01_FixWhole.j1 k x0 (wrap64 (Int.tmod x1 5)) bt342.1 (!t344))) else (cadastrelaw01_FixWhole.j1 k x0 (wrap64 (Int.tmod x1 5)) bt342.1 true)))
def cadastrelaw01_FixWhole.j1 : Nat → Int → Int → Int → Bool → Option (Bool)
  | 0, _, _, _, _ => none
  | k + 1, x0, x9, x10, x50 => if x50 = true then ((cadastrelaw01_lives.f k).bind fun t345 => (some t345)) else ((cadastreref01_Power.f k (wrap64 (4 - x9))).bind fun t346 => (if (wrap64 (t346)) = 0 then (none) else (if (Int.tmod x10 (wrap64 (t346))) = 0 then (if x10 ≥ x0 then (if (wrap64 (x10 - x0)) ≤ (wrap64 (Int.tdiv (wrap64 (t346)) 2)) then ((cadastrelaw01_lives.f k).bind fun t347 => (some t347)) else (if x10 < x0 then (if (wrap64 (x0 - x10)) ≤ (wrap64 (Int.tdiv (wrap64 (t346)) 2)) then ((cadastrelaw01_lives.f k).bind fun t348 => (some t348)) else (some false)) else (some false))) else (if x10 < x0 then (if (wrap64 (x0 - x10)) ≤ (wrap64 (Int.tdiv (wrap64 (t346)) 2)) then ((cadastrelaw01_lives.f k).bind fun t349 => (some t349)) else (some false)) else (some false))) else (some false))))
end
def cadastrelaw01_FixWhole.f (k : Nat) (a0 : Int) (a1 : Int) : Option (Bool) := (fix_Floor.f k a0).bind fun bt338 => ((fix_Mod.f k a0 10000).bind fun bt340 => (if bt338.2 = true then (if bt340.2 = true then (cadastrelaw01_FixWhole.j0 k a0 a1 ((wrap64 (bt338.1 + bt340.1)) != a0)) else (cadastrelaw01_FixWhole.j0 k a0 a1 true)) else (cadastrelaw01_FixWhole.j0 k a0 a1 false)))
theorem cadastrelaw01_FixWhole.mono_l : ∀ k, (∀ y0 y1 y2, LeO (cadastrelaw01_FixWhole.j0 k y0 y1 y2) (cadastrelaw01_FixWhole.j0 (k + 1) y0 y1 y2)) ∧ (∀ y0 y1 y2 y3, LeO (cadastrelaw01_FixWhole.j1 k y0 y1 y2 y3) (cadastrelaw01_FixWhole.j1 (k + 1) y0 y1 y2 y3))
  | 0 => ⟨fun _ _ _ r h => by simp [cadastrelaw01_FixWhole.j0] at h, fun _ _ _ _ r h => by simp [cadastrelaw01_FixWhole.j1] at h⟩
  | k + 1 => by
    obtain ⟨ih0, ih1⟩ := cadastrelaw01_FixWhole.mono_l k
    refine ⟨?_, ?_⟩
    · intro y0 y1 y2
      unfold cadastrelaw01_FixWhole.j0
      repeat' first
      | (with_reducible exact ih0 _ _ _)
      | (with_reducible exact ih1 _ _ _ _)
      | (with_reducible exact cadastrelaw01_lives.mono _)
      | (with_reducible exact cadastreref01_Power.mono _ _)
      | (with_reducible exact fix_Floor.mono _ _)
      | (with_reducible exact fix_Mod.mono _ _ _)
      | (with_reducible exact fix_Round.mono _ _ _)
      | (with_reducible exact LeO.refl _)
      | (with_reducible exact LeO.none _)
      | (with_reducible refine LeO.ite ?_ ?_)
      | (with_reducible refine LeO.bind ?_ (fun _ => ?_))
      | exact ih0 _ _ _
      | exact ih1 _ _ _ _
      | exact cadastrelaw01_lives.mono _
      | exact cadastreref01_Power.mono _ _
      | exact fix_Floor.mono _ _
      | exact fix_Mod.mono _ _ _
      | exact fix_Round.mono _ _ _
      | exact LeO.none _
      | refine LeO.ite ?_ ?_
      | refine LeO.bind ?_ (fun _ => ?_)
    · intro y0 y1 y2 y3
      unfold cadastrelaw01_FixWhole.j1
      repeat' first
      | (with_reducible exact ih0 _ _ _)
      | (with_reducible exact ih1 _ _ _ _)
      | (with_reducible exact cadastrelaw01_lives.mono _)
      | (with_reducible exact cadastreref01_Power.mono _ _)
      | (with_reducible exact fix_Floor.mono _ _)
      | (with_reducible exact fix_Mod.mono _ _ _)
      | (with_reducible exact fix_Round.mono _ _ _)
      | (with_reducible exact LeO.refl _)
      | (with_reducible exact LeO.none _)
      | (with_reducible refine LeO.ite ?_ ?_)
      | (with_reducible refine LeO.bind ?_ (fun _ => ?_))
      | exact ih0 _ _ _
      | exact ih1 _ _ _ _
      | exact cadastrelaw01_lives.mono _
      | exact cadastreref01_Power.mono _ _
      | exact fix_Floor.mono _ _
      | exact fix_Mod.mono _ _ _
      | exact fix_Round.mono _ _ _
      | exact LeO.none _
      | refine LeO.ite ?_ ?_
      | refine LeO.bind ?_ (fun _ => ?_)
theorem cadastrelaw01_FixWhole.mono : ∀ a0 a1 k, LeO (cadastrelaw01_FixWhole.f k a0 a1) (cadastrelaw01_FixWhole.f (k + 1) a0 a1) := by
  intro a0 a1 k
  obtain ⟨ih0, ih1⟩ := cadastrelaw01_FixWhole.mono_l k
  unfold cadastrelaw01_FixWhole.f
  repeat' first
      | (with_reducible exact ih0 _ _ _)
      | (with_reducible exact ih1 _ _ _ _)
      | (with_reducible exact cadastrelaw01_lives.mono _)
      | (with_reducible exact cadastreref01_Power.mono _ _)
      | (with_reducible exact fix_Floor.mono _ _)
      | (with_reducible exact fix_Mod.mono _ _ _)
      | (with_reducible exact fix_Round.mono _ _ _)
      | (with_reducible exact LeO.refl _)
      | (with_reducible exact LeO.none _)
      | (with_reducible refine LeO.ite ?_ ?_)
      | (with_reducible refine LeO.bind ?_ (fun _ => ?_))
      | exact ih0 _ _ _
      | exact ih1 _ _ _ _
      | exact cadastrelaw01_lives.mono _
      | exact cadastreref01_Power.mono _ _
      | exact fix_Floor.mono _ _
      | exact fix_Mod.mono _ _ _
      | exact fix_Round.mono _ _ _
      | exact LeO.none _
      | refine LeO.ite ?_ ?_
      | refine LeO.bind ?_ (fun _ => ?_)
set_option maxHeartbeats 8000000 in
set_option maxRecDepth 100000 in
theorem cadastrelaw01_FixWhole.calls (k : Nat) (a0 : Int) (a1 : Int) (r : Bool) (w : World) (h : cadastrelaw01_FixWhole.f k a0 a1 = some r) :
    Calls Try.prog 10 #[.int .i64 a0, .int .u8 a1] w fun e w' => e = .returned (.bool r) ∧ Below w.heap.size w w' := by
  have HB := Aside0.mk (Below.refl w.heap.size w)
  have H : ((fix_Floor.f k a0).bind fun bt338 => ((fix_Mod.f k a0 10000).bind fun bt340 => (if bt338.2 = true then (if bt340.2 = true then (cadastrelaw01_FixWhole.j0 k a0 a1 ((wrap64 (bt338.1 + bt340.1)) != a0)) else (cadastrelaw01_FixWhole.j0 k a0 a1 true)) else (cadastrelaw01_FixWhole.j0 k a0 a1 false)))) = some r := h
  clear h
  replace H := Option.bind_eq_some_iff.mp H
  obtain ⟨⟨t338, t339⟩, A30, H⟩ := H
  replace H : ((fix_Mod.f k a0 10000).bind fun bt340 => (if t339 = true then (if bt340.2 = true then (cadastrelaw01_FixWhole.j0 k a0 a1 ((wrap64 (t338 + bt340.1)) != a0)) else (cadastrelaw01_FixWhole.j0 k a0 a1 true)) else (cadastrelaw01_FixWhole.j0 k a0 a1 false))) = some r := H
  have A3 := Aside0.mk A30
  clear A30
  replace H := Option.bind_eq_some_iff.mp H
  obtain ⟨⟨t340, t341⟩, A40, H⟩ := H
  replace H : (if t339 = true then (if t341 = true then (cadastrelaw01_FixWhole.j0 k a0 a1 ((wrap64 (t338 + t340)) != a0)) else (cadastrelaw01_FixWhole.j0 k a0 a1 true)) else (cadastrelaw01_FixWhole.j0 k a0 a1 false)) = some r := H
  have A4 := Aside0.mk A40
  clear A40
  have HC5 := Aside0.mk H
  clear H
  go_enter Try.func10, Try.ntmps10
  go_upto_region 3 with (first | ((with_reducible refine gate_callee (f := 31) rfl ?_); refine goesL_ (some 15) rfl rfl Try.func31 (by kernel_rfl) rfl #[.int .i64 a0] rfl (by (try simp only [List.map_toArray, List.map_cons, List.map_nil]); first | done | rfl | (simp only [List.length_drop, List.length_take]; rfl)) ?_; (with_reducible refine (fix_Floor.calls k a0 t338 t339 _ A3.out).mono ?_); rintro e w6 ⟨rfl, hb⟩; refine ⟨_, rfl, ?_⟩; have n0_ := Aside0.mk (below_step (by repeat (first | (with_reducible first | exact HB.out | apply below_alloc | apply pw_below_drewN | apply below_drew1) | exact HB.out)) hb); clear HB; have HB := n0_; clear n0_; (try clear hb); (try clear hb2); (try clear hk); (try clear hi)) | ((with_reducible refine gate_callee (f := 16) rfl ?_); refine goesL_ (some 20) rfl rfl Try.func16 (by kernel_rfl) rfl #[.int .i64 a0, .int .i64 10000] rfl (by (try simp only [List.map_toArray, List.map_cons, List.map_nil]); first | done | rfl | (simp only [List.length_drop, List.length_take]; rfl)) ?_; (with_reducible refine (fix_Mod.calls k a0 10000 t340 t341 _ A4.out).mono ?_); rintro e w7 ⟨rfl, hb⟩; refine ⟨_, rfl, ?_⟩; have n0_ := Aside0.mk (below_step (by repeat (first | (with_reducible first | exact HB.out | apply below_alloc | apply pw_below_drewN | apply below_drew1) | exact HB.out)) hb); clear HB; have HB := n0_; clear n0_; (try clear hb); (try clear hb2); (try clear hk); (try clear hi)))
  (try simp only [Act.put, List.setIfInBounds_toArray, List.set_cons_zero, List.set_cons_succ])
  go_cut [34] (fun v34 wc => ∃ (kq : Nat) (x34_4 : Bool), v34 = .bool x34_4 ∧ Aside0 (cadastrelaw01_FixWhole.j0 kq a0 a1 x34_4 = some r) ∧ Aside0 (kq ≤ k) ∧ Aside0 (Below w.heap.size w wc))
  case first =>
    have H := HC5.out
    clear HC5
    by_cases c8 : t339 = true
    · subst c8
      have H1 : (if t341 = true then (cadastrelaw01_FixWhole.j0 k a0 a1 ((wrap64 (t338 + t340)) != a0)) else (cadastrelaw01_FixWhole.j0 k a0 a1 true)) = some r := by rw [if_pos rfl] at H; exact H
      clear H
      have H := H1
      clear H1
      by_cases c9 : t341 = true
      · subst c9
        have H1 : (cadastrelaw01_FixWhole.j0 k a0 a1 ((wrap64 (t338 + t340)) != a0)) = some r := by rw [if_pos rfl] at H; exact H
        clear H
        have H := H1
        clear H1
        have H' := Aside0.mk H
        clear H
        go_wp2
        go_meet
        case rel => exact ⟨_, (((wrap64 (t338 + t340)) != a0)), (by first | rfl | (simp; done) | (simp [*]; done)), H', ⟨by first | omega | exact Nat.le_refl _⟩, ⟨by repeat (first | (with_reducible first | exact HB.out | apply below_alloc | apply pw_below_drewN | apply below_drew1) | exact HB.out)⟩⟩
      · replace c9 := Bool.eq_false_iff.mpr c9
        subst c9
        have H1 : (cadastrelaw01_FixWhole.j0 k a0 a1 true) = some r := by rw [if_neg (show ¬ (false = true) by decide)] at H; exact H
        clear H
        have H := H1
        clear H1
        have H' := Aside0.mk H
        clear H
        go_wp2
        go_meet
        case rel => exact ⟨_, (true), (by first | rfl | (simp; done) | (simp [*]; done)), H', ⟨by first | omega | exact Nat.le_refl _⟩, ⟨by repeat (first | (with_reducible first | exact HB.out | apply below_alloc | apply pw_below_drewN | apply below_drew1) | exact HB.out)⟩⟩
    · replace c8 := Bool.eq_false_iff.mpr c8
      subst c8
      have H1 : (cadastrelaw01_FixWhole.j0 k a0 a1 false) = some r := by rw [if_neg (show ¬ (false = true) by decide)] at H; exact H
      clear H
      have H := H1
      clear H1
      have H' := Aside0.mk H
      clear H
      go_wp2
      go_meet
      case rel => exact ⟨_, (false), (by first | rfl | (simp; done) | (simp [*]; done)), H', ⟨by first | omega | exact Nat.le_refl _⟩, ⟨by repeat (first | (with_reducible first | exact HB.out | apply below_alloc | apply pw_below_drewN | apply below_drew1) | exact HB.out)⟩⟩
  case rest =>
    clear HC5
    try clear c1
    try clear p2
    try clear c3
    try clear p6
    try clear c8
    try clear c9
    obtain ⟨kq, x34_4, rfl, HA, HJ4, HB⟩ := hcut
    cases kq with
    | zero => exact absurd HA.out (by simp [cadastrelaw01_FixWhole.j0])
    | succ kj4 =>
      have H := HA.out
      clear HA
      simp only [cadastrelaw01_FixWhole.j0] at H
      by_cases c10 : x34_4 = true
      · subst c10
        have H1 : (some false) = some r := by rw [if_pos rfl] at H; exact H
        clear H
        have H := H1
        clear H1
        obtain rfl := Option.some.inj H
        go_wp2
        go_ret
        exact ⟨by first | rfl | (simp [errW_none, errW_some] <;> rfl) | (simp [*, errW_none, errW_some] <;> rfl), by repeat (first | (with_reducible first | exact HB.out | apply below_alloc | apply pw_below_drewN | apply below_drew1) | exact HB.out)⟩
      · replace c10 := Bool.eq_false_iff.mpr c10
        subst c10
        have H1 : ((fix_Round.f kj4 a0 (wrap64 (Int.tmod a1 5))).bind fun bt342 => (if bt342.2 = true then ((cadastreref01_Can.f a0).bind fun t344 => (cadastrelaw01_FixWhole.j1 kj4 a0 (wrap64 (Int.tmod a1 5)) bt342.1 (!t344))) else (cadastrelaw01_FixWhole.j1 kj4 a0 (wrap64 (Int.tmod a1 5)) bt342.1 true))) = some r := by rw [if_neg (show ¬ (false = true) by decide)] at H; exact H
        clear H
        have H := H1
        clear H1
        replace H := Option.bind_eq_some_iff.mp H
        obtain ⟨⟨t342, t343⟩, A110, H⟩ := H
        replace H : (if t343 = true then ((cadastreref01_Can.f a0).bind fun t344 => (cadastrelaw01_FixWhole.j1 kj4 a0 (wrap64 (Int.tmod a1 5)) t342 (!t344))) else (cadastrelaw01_FixWhole.j1 kj4 a0 (wrap64 (Int.tmod a1 5)) t342 true)) = some r := H
        have A11 := Aside0.mk A110
        clear A110
        have HC12 := Aside0.mk H
        clear H
        go_upto_region 7 with (first | ((with_reducible refine gate_callee (f := 33) rfl ?_); refine goesL_ (some 41) rfl rfl Try.func33 (by kernel_rfl) rfl #[.int .i64 a0, .int .i64 (wrap64 (Int.tmod a1 5))] rfl (by (try simp only [List.map_toArray, List.map_cons, List.map_nil]); first | done | rfl | (simp only [List.length_drop, List.length_take]; rfl)) ?_; (with_reducible refine (fix_Round.calls kj4 a0 (wrap64 (Int.tmod a1 5)) t342 t343 _ A11.out).mono ?_); rintro e w13 ⟨rfl, hb⟩; refine ⟨_, rfl, ?_⟩; have n0_ := Aside0.mk (below_step (by repeat (first | (with_reducible first | exact HB.out | apply below_alloc | apply pw_below_drewN | apply below_drew1) | exact HB.out)) hb); clear HB; have HB := n0_; clear n0_; (try clear hb); (try clear hb2); (try clear hk); (try clear hi)))
        (try simp only [Act.put, List.setIfInBounds_toArray, List.set_cons_zero, List.set_cons_succ])
        go_cut [50] (fun v50 wc => ∃ (kq : Nat) (x50_11 : Bool), v50 = .bool x50_11 ∧ Aside0 (cadastrelaw01_FixWhole.j1 kq a0 (wrap64 (Int.tmod a1 5)) t342 x50_11 = some r) ∧ Aside0 (kq ≤ kj4) ∧ Aside0 (Below w.heap.size w wc))
        case first =>
          have H := HC12.out
          clear HC12
          by_cases c14 : t343 = true
          · subst c14
            have H1 : ((cadastreref01_Can.f a0).bind fun t344 => (cadastrelaw01_FixWhole.j1 kj4 a0 (wrap64 (Int.tmod a1 5)) t342 (!t344))) = some r := by rw [if_pos rfl] at H; exact H
            clear H
            have H := H1
            clear H1
            replace H := Option.bind_eq_some_iff.mp H
            obtain ⟨t344, A150, H⟩ := H
            replace H : (cadastrelaw01_FixWhole.j1 kj4 a0 (wrap64 (Int.tmod a1 5)) t342 (!t344)) = some r := H
            have A15 := Aside0.mk A150
            clear A150
            have H' := Aside0.mk H
            clear H
            go_wp2_with (first | (go_at_call 19; (with_reducible refine (cadastreref01_Can.calls a0 t344 _ A15.out).mono ?_); rintro e w' ⟨rfl, ⟨nd, rfl⟩⟩))
            go_meet
            case rel => exact ⟨_, (!t344), (by first | rfl | (simp; done) | (simp [*]; done)), H', ⟨by have := HJ4.out; first | omega | exact Nat.le_refl _⟩, ⟨by repeat (first | (with_reducible first | exact HB.out | apply below_alloc | apply pw_below_drewN | apply below_drew1) | exact HB.out)⟩⟩
          · replace c14 := Bool.eq_false_iff.mpr c14
            subst c14
            have H1 : (cadastrelaw01_FixWhole.j1 kj4 a0 (wrap64 (Int.tmod a1 5)) t342 true) = some r := by rw [if_neg (show ¬ (false = true) by decide)] at H; exact H
            clear H
            have H := H1
            clear H1
            have H' := Aside0.mk H
            clear H
            go_wp2
            go_meet
            case rel => exact ⟨_, (true), (by first | rfl | (simp; done) | (simp [*]; done)), H', ⟨by have := HJ4.out; first | omega | exact Nat.le_refl _⟩, ⟨by repeat (first | (with_reducible first | exact HB.out | apply below_alloc | apply pw_below_drewN | apply below_drew1) | exact HB.out)⟩⟩
        case rest =>
          clear HC12
          try clear c1
          try clear p2
          try clear c3
          try clear p6
          try clear c8
          try clear c9
          try clear c10
          try clear c14
          try clear p2
          try clear p6
          obtain ⟨kq, x50_11, rfl, HA, HJ11, HB⟩ := hcut
          cases kq with
          | zero => exact absurd HA.out (by simp [cadastrelaw01_FixWhole.j1])
          | succ kj11 =>
            have H := HA.out
            clear HA
            simp only [cadastrelaw01_FixWhole.j1] at H
            by_cases c16 : x50_11 = true
            · subst c16
              have H1 : ((cadastrelaw01_lives.f kj11).bind fun t345 => (some t345)) = some r := by rw [if_pos rfl] at H; exact H
              clear H
              have H := H1
              clear H1
              replace H := Option.bind_eq_some_iff.mp H
              obtain ⟨t345, A170, H⟩ := H
              replace H : (some t345) = some r := H
              have A17 := Aside0.mk A170
              clear A170
              obtain rfl := Option.some.inj H
              go_wp2_with (first | ((with_reducible refine gate_callee (f := 13) rfl ?_); refine goesL_ (some 51) rfl rfl Try.func13 (by kernel_rfl) rfl #[] rfl (by (try simp only [List.map_toArray, List.map_cons, List.map_nil]); first | done | rfl | (simp only [List.length_drop, List.length_take]; rfl)) ?_; (with_reducible refine (cadastrelaw01_lives.calls kj11  t345 _ A17.out).mono ?_); rintro e w18 ⟨rfl, hb⟩; refine ⟨_, rfl, ?_⟩; have n0_ := Aside0.mk (below_step (by repeat (first | (with_reducible first | exact HB.out | apply below_alloc | apply pw_below_drewN | apply below_drew1) | exact HB.out)) hb); clear HB; have HB := n0_; clear n0_; (try clear hb); (try clear hb2); (try clear hk); (try clear hi)))
              go_ret
              exact ⟨by first | rfl | (simp [errW_none, errW_some] <;> rfl) | (simp [*, errW_none, errW_some] <;> rfl), by repeat (first | (with_reducible first | exact HB.out | apply below_alloc | apply pw_below_drewN | apply below_drew1) | exact HB.out)⟩
            · replace c16 := Bool.eq_false_iff.mpr c16
              subst c16
              have H1 : ((cadastreref01_Power.f kj11 (wrap64 (4 - (wrap64 (Int.tmod a1 5))))).bind fun t346 => (if (wrap64 (t346)) = 0 then (none) else (if (Int.tmod t342 (wrap64 (t346))) = 0 then (if t342 ≥ a0 then (if (wrap64 (t342 - a0)) ≤ (wrap64 (Int.tdiv (wrap64 (t346)) 2)) then ((cadastrelaw01_lives.f kj11).bind fun t347 => (some t347)) else (if t342 < a0 then (if (wrap64 (a0 - t342)) ≤ (wrap64 (Int.tdiv (wrap64 (t346)) 2)) then ((cadastrelaw01_lives.f kj11).bind fun t348 => (some t348)) else (some false)) else (some false))) else (if t342 < a0 then (if (wrap64 (a0 - t342)) ≤ (wrap64 (Int.tdiv (wrap64 (t346)) 2)) then ((cadastrelaw01_lives.f kj11).bind fun t349 => (some t349)) else (some false)) else (some false))) else (some false)))) = some r := by rw [if_neg (show ¬ (false = true) by decide)] at H; exact H
              clear H
              have H := H1
              clear H1
              replace H := Option.bind_eq_some_iff.mp H
              obtain ⟨t346, A190, H⟩ := H
              replace H : (if (wrap64 (t346)) = 0 then (none) else (if (Int.tmod t342 (wrap64 (t346))) = 0 then (if t342 ≥ a0 then (if (wrap64 (t342 - a0)) ≤ (wrap64 (Int.tdiv (wrap64 (t346)) 2)) then ((cadastrelaw01_lives.f kj11).bind fun t347 => (some t347)) else (if t342 < a0 then (if (wrap64 (a0 - t342)) ≤ (wrap64 (Int.tdiv (wrap64 (t346)) 2)) then ((cadastrelaw01_lives.f kj11).bind fun t348 => (some t348)) else (some false)) else (some false))) else (if t342 < a0 then (if (wrap64 (a0 - t342)) ≤ (wrap64 (Int.tdiv (wrap64 (t346)) 2)) then ((cadastrelaw01_lives.f kj11).bind fun t349 => (some t349)) else (some false)) else (some false))) else (some false))) = some r := H
              have A19 := Aside0.mk A190
              clear A190
              by_cases c20 : (wrap64 (t346)) = 0
              · rw [if_pos c20] at H
                exact absurd H (by simp)
              · rw [if_neg c20] at H
                have c20b0 : ((wrap64 (t346)) == 0) = false := beq_eq_false_iff_ne.mpr c20
                have c20b1 : ((wrap64 (t346)) != 0) = true := bne_iff_ne.mpr c20
                by_cases c21 : (Int.tmod t342 (wrap64 (t346))) = 0
                · rw [if_pos c21] at H
                  have c21b0 : ((Int.tmod t342 (wrap64 (t346))) == 0) = true := beq_iff_eq.mpr c21
                  have c21b1 : ((Int.tmod t342 (wrap64 (t346))) != 0) = false := bne_eq_false_iff_eq.mpr c21
                  clear c21
                  by_cases c22 : t342 ≥ a0
                  · rw [if_pos c22] at H
                    have c22b0 : decide (a0 ≤ t342) = true := decide_eq_true c22
                    clear c22
                    by_cases c23 : (wrap64 (t342 - a0)) ≤ (wrap64 (Int.tdiv (wrap64 (t346)) 2))
                    · rw [if_pos c23] at H
                      have c23b0 : decide ((wrap64 (t342 - a0)) ≤ (wrap64 (Int.tdiv (wrap64 (t346)) 2))) = true := decide_eq_true c23
                      clear c23
                      replace H := Option.bind_eq_some_iff.mp H
                      obtain ⟨t347, A240, H⟩ := H
                      replace H : (some t347) = some r := H
                      have A24 := Aside0.mk A240
                      clear A240
                      obtain rfl := Option.some.inj H
                      go_wp2_with (first | ((with_reducible refine gate_callee (f := 35) rfl ?_); refine goesL_ (some 54) rfl rfl Try.func35 (by kernel_rfl) rfl #[.int .i64 (wrap64 (4 - (wrap64 (Int.tmod a1 5))))] rfl (by (try simp only [List.map_toArray, List.map_cons, List.map_nil]); first | done | rfl | (simp only [List.length_drop, List.length_take]; rfl)) ?_; (with_reducible refine (cadastreref01_Power.calls kj11 (wrap64 (4 - (wrap64 (Int.tmod a1 5)))) t346 _ A19.out).mono ?_); rintro e w' ⟨rfl, ⟨nd, rfl⟩⟩; refine ⟨_, rfl, ?_⟩) | (go_at_call 13; (with_reducible refine (cadastrelaw01_lives.calls kj11  t347 _ A24.out).mono ?_); rintro e w25 ⟨rfl, hb⟩; have n0_ := Aside0.mk (below_step (by repeat (first | (with_reducible first | exact HB.out | apply below_alloc | apply pw_below_drewN | apply below_drew1) | exact HB.out)) hb); clear HB; have HB := n0_; clear n0_; (try clear hb); (try clear hb2); (try clear hk); (try clear hi)))
                      go_ret
                      exact ⟨by first | rfl | (simp [errW_none, errW_some] <;> rfl) | (simp [*, errW_none, errW_some] <;> rfl), by repeat (first | (with_reducible first | exact HB.out | apply below_alloc | apply pw_below_drewN | apply below_drew1) | exact HB.out)⟩
                    · rw [if_neg c23] at H
                      have c23b0 : decide ((wrap64 (t342 - a0)) ≤ (wrap64 (Int.tdiv (wrap64 (t346)) 2))) = false := decide_eq_false c23
                      clear c23
                      by_cases c26 : t342 < a0
                      · rw [if_pos c26] at H
                        have c26b0 : decide (t342 < a0) = true := decide_eq_true c26
                        clear c26
                        by_cases c27 : (wrap64 (a0 - t342)) ≤ (wrap64 (Int.tdiv (wrap64 (t346)) 2))
                        · rw [if_pos c27] at H
                          have c27b0 : decide ((wrap64 (a0 - t342)) ≤ (wrap64 (Int.tdiv (wrap64 (t346)) 2))) = true := decide_eq_true c27
                          clear c27
                          replace H := Option.bind_eq_some_iff.mp H
                          obtain ⟨t348, A280, H⟩ := H
                          replace H : (some t348) = some r := H
                          have A28 := Aside0.mk A280
                          clear A280
                          obtain rfl := Option.some.inj H
                          go_wp2_with (first | ((with_reducible refine gate_callee (f := 35) rfl ?_); refine goesL_ (some 54) rfl rfl Try.func35 (by kernel_rfl) rfl #[.int .i64 (wrap64 (4 - (wrap64 (Int.tmod a1 5))))] rfl (by (try simp only [List.map_toArray, List.map_cons, List.map_nil]); first | done | rfl | (simp only [List.length_drop, List.length_take]; rfl)) ?_; (with_reducible refine (cadastreref01_Power.calls kj11 (wrap64 (4 - (wrap64 (Int.tmod a1 5)))) t346 _ A19.out).mono ?_); rintro e w' ⟨rfl, ⟨nd, rfl⟩⟩; refine ⟨_, rfl, ?_⟩) | (go_at_call 13; (with_reducible refine (cadastrelaw01_lives.calls kj11  t348 _ A28.out).mono ?_); rintro e w29 ⟨rfl, hb⟩; have n0_ := Aside0.mk (below_step (by repeat (first | (with_reducible first | exact HB.out | apply below_alloc | apply pw_below_drewN | apply below_drew1) | exact HB.out)) hb); clear HB; have HB := n0_; clear n0_; (try clear hb); (try clear hb2); (try clear hk); (try clear hi)))
                          go_ret
                          exact ⟨by first | rfl | (simp [errW_none, errW_some] <;> rfl) | (simp [*, errW_none, errW_some] <;> rfl), by repeat (first | (with_reducible first | exact HB.out | apply below_alloc | apply pw_below_drewN | apply below_drew1) | exact HB.out)⟩
                        · rw [if_neg c27] at H
                          have c27b0 : decide ((wrap64 (a0 - t342)) ≤ (wrap64 (Int.tdiv (wrap64 (t346)) 2))) = false := decide_eq_false c27
                          clear c27
                          obtain rfl := Option.some.inj H
                          go_wp2_with (first | ((with_reducible refine gate_callee (f := 35) rfl ?_); refine goesL_ (some 54) rfl rfl Try.func35 (by kernel_rfl) rfl #[.int .i64 (wrap64 (4 - (wrap64 (Int.tmod a1 5))))] rfl (by (try simp only [List.map_toArray, List.map_cons, List.map_nil]); first | done | rfl | (simp only [List.length_drop, List.length_take]; rfl)) ?_; (with_reducible refine (cadastreref01_Power.calls kj11 (wrap64 (4 - (wrap64 (Int.tmod a1 5)))) t346 _ A19.out).mono ?_); rintro e w' ⟨rfl, ⟨nd, rfl⟩⟩; refine ⟨_, rfl, ?_⟩))
                          go_ret
                          exact ⟨by first | rfl | (simp [errW_none, errW_some] <;> rfl) | (simp [*, errW_none, errW_some] <;> rfl), by repeat (first | (with_reducible first | exact HB.out | apply below_alloc | apply pw_below_drewN | apply below_drew1) | exact HB.out)⟩
                      · rw [if_neg c26] at H
                        have c26b0 : decide (t342 < a0) = false := decide_eq_false c26
                        clear c26
                        obtain rfl := Option.some.inj H
                        go_wp2_with (first | ((with_reducible refine gate_callee (f := 35) rfl ?_); refine goesL_ (some 54) rfl rfl Try.func35 (by kernel_rfl) rfl #[.int .i64 (wrap64 (4 - (wrap64 (Int.tmod a1 5))))] rfl (by (try simp only [List.map_toArray, List.map_cons, List.map_nil]); first | done | rfl | (simp only [List.length_drop, List.length_take]; rfl)) ?_; (with_reducible refine (cadastreref01_Power.calls kj11 (wrap64 (4 - (wrap64 (Int.tmod a1 5)))) t346 _ A19.out).mono ?_); rintro e w' ⟨rfl, ⟨nd, rfl⟩⟩; refine ⟨_, rfl, ?_⟩))
                        go_ret
                        exact ⟨by first | rfl | (simp [errW_none, errW_some] <;> rfl) | (simp [*, errW_none, errW_some] <;> rfl), by repeat (first | (with_reducible first | exact HB.out | apply below_alloc | apply pw_below_drewN | apply below_drew1) | exact HB.out)⟩
                  · rw [if_neg c22] at H
                    have c22b0 : decide (a0 ≤ t342) = false := decide_eq_false c22
                    clear c22
                    by_cases c30 : t342 < a0
                    · rw [if_pos c30] at H
                      have c30b0 : decide (t342 < a0) = true := decide_eq_true c30
                      clear c30
                      by_cases c31 : (wrap64 (a0 - t342)) ≤ (wrap64 (Int.tdiv (wrap64 (t346)) 2))
                      · rw [if_pos c31] at H
                        have c31b0 : decide ((wrap64 (a0 - t342)) ≤ (wrap64 (Int.tdiv (wrap64 (t346)) 2))) = true := decide_eq_true c31
                        clear c31
                        replace H := Option.bind_eq_some_iff.mp H
                        obtain ⟨t349, A320, H⟩ := H
                        replace H : (some t349) = some r := H
                        have A32 := Aside0.mk A320
                        clear A320
                        obtain rfl := Option.some.inj H
                        go_wp2_with (first | ((with_reducible refine gate_callee (f := 35) rfl ?_); refine goesL_ (some 54) rfl rfl Try.func35 (by kernel_rfl) rfl #[.int .i64 (wrap64 (4 - (wrap64 (Int.tmod a1 5))))] rfl (by (try simp only [List.map_toArray, List.map_cons, List.map_nil]); first | done | rfl | (simp only [List.length_drop, List.length_take]; rfl)) ?_; (with_reducible refine (cadastreref01_Power.calls kj11 (wrap64 (4 - (wrap64 (Int.tmod a1 5)))) t346 _ A19.out).mono ?_); rintro e w' ⟨rfl, ⟨nd, rfl⟩⟩; refine ⟨_, rfl, ?_⟩) | (go_at_call 13; (with_reducible refine (cadastrelaw01_lives.calls kj11  t349 _ A32.out).mono ?_); rintro e w33 ⟨rfl, hb⟩; have n0_ := Aside0.mk (below_step (by repeat (first | (with_reducible first | exact HB.out | apply below_alloc | apply pw_below_drewN | apply below_drew1) | exact HB.out)) hb); clear HB; have HB := n0_; clear n0_; (try clear hb); (try clear hb2); (try clear hk); (try clear hi)))
                        go_ret
                        exact ⟨by first | rfl | (simp [errW_none, errW_some] <;> rfl) | (simp [*, errW_none, errW_some] <;> rfl), by repeat (first | (with_reducible first | exact HB.out | apply below_alloc | apply pw_below_drewN | apply below_drew1) | exact HB.out)⟩
                      · rw [if_neg c31] at H
                        have c31b0 : decide ((wrap64 (a0 - t342)) ≤ (wrap64 (Int.tdiv (wrap64 (t346)) 2))) = false := decide_eq_false c31
                        clear c31
                        obtain rfl := Option.some.inj H
                        go_wp2_with (first | ((with_reducible refine gate_callee (f := 35) rfl ?_); refine goesL_ (some 54) rfl rfl Try.func35 (by kernel_rfl) rfl #[.int .i64 (wrap64 (4 - (wrap64 (Int.tmod a1 5))))] rfl (by (try simp only [List.map_toArray, List.map_cons, List.map_nil]); first | done | rfl | (simp only [List.length_drop, List.length_take]; rfl)) ?_; (with_reducible refine (cadastreref01_Power.calls kj11 (wrap64 (4 - (wrap64 (Int.tmod a1 5)))) t346 _ A19.out).mono ?_); rintro e w' ⟨rfl, ⟨nd, rfl⟩⟩; refine ⟨_, rfl, ?_⟩))
                        go_ret
                        exact ⟨by first | rfl | (simp [errW_none, errW_some] <;> rfl) | (simp [*, errW_none, errW_some] <;> rfl), by repeat (first | (with_reducible first | exact HB.out | apply below_alloc | apply pw_below_drewN | apply below_drew1) | exact HB.out)⟩
                    · rw [if_neg c30] at H
                      have c30b0 : decide (t342 < a0) = false := decide_eq_false c30
                      clear c30
                      obtain rfl := Option.some.inj H
                      go_wp2_with (first | ((with_reducible refine gate_callee (f := 35) rfl ?_); refine goesL_ (some 54) rfl rfl Try.func35 (by kernel_rfl) rfl #[.int .i64 (wrap64 (4 - (wrap64 (Int.tmod a1 5))))] rfl (by (try simp only [List.map_toArray, List.map_cons, List.map_nil]); first | done | rfl | (simp only [List.length_drop, List.length_take]; rfl)) ?_; (with_reducible refine (cadastreref01_Power.calls kj11 (wrap64 (4 - (wrap64 (Int.tmod a1 5)))) t346 _ A19.out).mono ?_); rintro e w' ⟨rfl, ⟨nd, rfl⟩⟩; refine ⟨_, rfl, ?_⟩))
                      go_ret
                      exact ⟨by first | rfl | (simp [errW_none, errW_some] <;> rfl) | (simp [*, errW_none, errW_some] <;> rfl), by repeat (first | (with_reducible first | exact HB.out | apply below_alloc | apply pw_below_drewN | apply below_drew1) | exact HB.out)⟩
                · rw [if_neg c21] at H
                  have c21b0 : ((Int.tmod t342 (wrap64 (t346))) == 0) = false := beq_eq_false_iff_ne.mpr c21
                  have c21b1 : ((Int.tmod t342 (wrap64 (t346))) != 0) = true := bne_iff_ne.mpr c21
                  obtain rfl := Option.some.inj H
                  go_wp2_with (first | ((with_reducible refine gate_callee (f := 35) rfl ?_); refine goesL_ (some 54) rfl rfl Try.func35 (by kernel_rfl) rfl #[.int .i64 (wrap64 (4 - (wrap64 (Int.tmod a1 5))))] rfl (by (try simp only [List.map_toArray, List.map_cons, List.map_nil]); first | done | rfl | (simp only [List.length_drop, List.length_take]; rfl)) ?_; (with_reducible refine (cadastreref01_Power.calls kj11 (wrap64 (4 - (wrap64 (Int.tmod a1 5)))) t346 _ A19.out).mono ?_); rintro e w' ⟨rfl, ⟨nd, rfl⟩⟩; refine ⟨_, rfl, ?_⟩))
                  go_ret
                  exact ⟨by first | rfl | (simp [errW_none, errW_some] <;> rfl) | (simp [*, errW_none, errW_some] <;> rfl), by repeat (first | (with_reducible first | exact HB.out | apply below_alloc | apply pw_below_drewN | apply below_drew1) | exact HB.out)⟩

/-- THE ONE PURE STATEMENT of cadastrelaw01_FixWhole: yours. -/
def cadastrelaw01_FixWhole.Pure : Prop := ∀ (a0 : Int) (a1 : Int), (Lit.int .i64 a0).wf = true → (Lit.int .u8 a1).wf = true → ∃ k, cadastrelaw01_FixWhole.f k a0 a1 = some true
theorem cadastrelaw01_FixWhole.walk (P : cadastrelaw01_FixWhole.Pure) (a0 : Int) (a1 : Int) (w : World) (w0 : (Lit.int .i64 a0).wf = true) (w1 : (Lit.int .u8 a1).wf = true) :
    Calls Try.prog 10 #[.int .i64 a0, .int .u8 a1] w fun e w' => e = .returned (.bool true) ∧ Below w.heap.size w w' := by
  obtain ⟨k, h⟩ := P a0 a1 w0 w1
  refine (cadastrelaw01_FixWhole.calls k a0 a1 true w h).mono ?_
  rintro e w' ⟨rfl, hd⟩
  exact ⟨rfl, hd⟩

end Go.Proofs.Ytegcjgfhpjdjfaa.PFix
