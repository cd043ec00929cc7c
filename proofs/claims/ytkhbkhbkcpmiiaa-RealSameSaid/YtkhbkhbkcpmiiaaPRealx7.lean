/- Printed by a program of this session: for each Go function named below its pure function, and that where this tells an answer the call comes to that answer. No condition. -/
import Derived.Test.YtkhbkhbkcpmiiaaPRealx0
import Derived.Test.YtkhbkhbkcpmiiaaPRealx4
import Derived.Test.YtkhbkhbkcpmiiaaPRealx5
import Derived.Test.YtkhbkhbkcpmiiaaPRealx6
namespace Go.Proofs.Ytkhbkhbkcpmiiaa.PReal
open Go.RowKit Go.Proofs.YtkhbkhbkcpmiiaaW.PrintWords Go.Proofs.YtkhbkhbkcpmiiaaW.PrintLast Go.Proofs.YtkhbkhbkcpmiiaaW.PrintMore
attribute [local go_sem] max2_int min2_int max_two min_two max_three min_three max_four min_four   -- for this text's walks alone
set_option linter.unusedVariables false
set_option linter.unusedSimpArgs false

/-! ### cadastreref02_Add: function 39 -/
mutual
def cadastreref02_Add.j0 : Nat → Int → Int → Bool → Option (Int)
  | 0, _, _, _ => none
  | k + 1, x0, x1, x40 => if x40 = true then ((cadastreref02_Nan.f).bind fun t260 => (some t260)) else ((cadastreref02_Kind.f x0).bind fun t261 => (if t261 = 1 then (some x0) else ((cadastreref02_Kind.f x1).bind fun t262 => (if t262 = 1 then (some x1) else ((cadastreref02_Parts.f x0).bind fun bt263 => ((cadastreref02_Parts.f x1).bind fun bt267 => (if bt267.2.1 < bt263.2.1 then (cadastreref02_Add.j1 k bt263.1 bt263.2.1 bt263.2.2.1 bt267.1 bt267.2.1 bt267.2.2.1 bt267.2.1) else (cadastreref02_Add.j1 k bt263.1 bt263.2.1 bt263.2.2.1 bt267.1 bt267.2.1 bt267.2.2.1 bt263.2.1))))))))
def cadastreref02_Add.j1 : Nat → Bool → Int → Int → Bool → Int → Int → Int → Option (Int)
  | 0, _, _, _, _, _, _, _ => none
  | k + 1, x5, x6, x7, x9, x10, x11, x13 => (cadastreref02_Of.f k x7).bind fun t271 => ((cadastreref02_Up.f k t271 (wrap64 (x6 - x13))).bind fun t274 => ((cadastreref02_Of.f k x11).bind fun t277 => ((cadastreref02_Up.f k t277 (wrap64 (x10 - x13))).bind fun t280 => (if (x5 == x9) = true then ((cadastreref02_Plus.f k t274 t280).bind fun t283 => (cadastreref02_Add.j2 k x5 x9 x13 t283 x5)) else ((cadastreref02_Cmp.f k t274 t280).bind fun t286 => (if t286 ≥ 0 then ((cadastreref02_Minus.f k t274 t280).bind fun t287 => (cadastreref02_Add.j2 k x5 x9 x13 t287 x5)) else ((cadastreref02_Minus.f k t280 t274).bind fun t290 => (cadastreref02_Add.j2 k x5 x9 x13 t290 x9))))))))
def cadastreref02_Add.j2 : Nat → Bool → Bool → Int → List Bool → Bool → Option (Int)
  | 0, _, _, _, _, _ => none
  | k + 1, x5, x9, x13, x14, x16 => if (x14.length : Int) = 0 then (if x5 = true then (cadastreref02_Add.j3 k x9) else (cadastreref02_Add.j3 k false)) else ((cadastreref02_scaled.f k x14 x13 1).bind fun t293 => (if x16 = true then (some (IntKind.u64.wrap (t293 + 9223372036854775808))) else (some t293)))
def cadastreref02_Add.j3 : Nat → Bool → Option (Int)
  | 0, _ => none
  | k + 1, x105 => if x105 = true then (some 9223372036854775808) else (some 0)
end
def cadastreref02_Add.f (k : Nat) (a0 : Int) (a1 : Int) : Option (Int) := (cadastreref02_Kind.f a0).bind fun t256 => (if t256 = 2 then (cadastreref02_Add.j0 k a0 a1 true) else ((cadastreref02_Kind.f a1).bind fun t257 => (if t257 = 2 then (cadastreref02_Add.j0 k a0 a1 true) else ((cadastreref02_Kind.f a0).bind fun t258 => (if t258 = 1 then ((cadastreref02_Kind.f a1).bind fun t259 => (if t259 = 1 then (cadastreref02_Add.j0 k a0 a1 (a0 != a1)) else (cadastreref02_Add.j0 k a0 a1 false))) else (cadastreref02_Add.j0 k a0 a1 false))))))
theorem cadastreref02_Add.mono_l : ∀ k, (∀ y0 y1 y2, LeO (cadastreref02_Add.j0 k y0 y1 y2) (cadastreref02_Add.j0 (k + 1) y0 y1 y2)) ∧ (∀ y0 y1 y2 y3 y4 y5 y6, LeO (cadastreref02_Add.j1 k y0 y1 y2 y3 y4 y5 y6) (cadastreref02_Add.j1 (k + 1) y0 y1 y2 y3 y4 y5 y6)) ∧ (∀ y0 y1 y2 y3 y4, LeO (cadastreref02_Add.j2 k y0 y1 y2 y3 y4) (cadastreref02_Add.j2 (k + 1) y0 y1 y2 y3 y4)) ∧ (∀ y0, LeO (cadastreref02_Add.j3 k y0) (cadastreref02_Add.j3 (k + 1) y0))
  | 0 => ⟨fun _ _ _ r h => by simp [cadastreref02_Add.j0] at h, fun _ _ _ _ _ _ _ r h => by simp [cadastreref02_Add.j1] at h, fun _ _ _ _ _ r h => by simp [cadastreref02_Add.j2] at h, fun _ r h => by simp [cadastreref02_Add.j3] at h⟩
  | k + 1 => by
    obtain ⟨ih0, ih1, ih2, ih3⟩ := cadastreref02_Add.mono_l k
    refine ⟨?_, ?_, ?_, ?_⟩
    · intro y0 y1 y2
      unfold cadastreref02_Add.j0
      repeat' first
      | (with_reducible exact ih0 _ _ _)
      | (with_reducible exact ih1 _ _ _ _ _ _ _)
      | (with_reducible exact ih2 _ _ _ _ _)
      | (with_reducible exact ih3 _)
      | (with_reducible exact cadastreref02_Cmp.mono _ _ _)
      | (with_reducible exact cadastreref02_Minus.mono _ _ _)
      | (with_reducible exact cadastreref02_Of.mono _ _)
      | (with_reducible exact cadastreref02_Plus.mono _ _ _)
      | (with_reducible exact cadastreref02_Up.mono _ _ _)
      | (with_reducible exact cadastreref02_scaled.mono _ _ _ _)
      | (with_reducible exact LeO.refl _)
      | (with_reducible exact LeO.none _)
      | (with_reducible refine LeO.ite ?_ ?_)
      | (with_reducible refine LeO.bind ?_ (fun _ => ?_))
      | exact ih0 _ _ _
      | exact ih1 _ _ _ _ _ _ _
      | exact ih2 _ _ _ _ _
      | exact ih3 _
      | exact cadastreref02_Cmp.mono _ _ _
      | exact cadastreref02_Minus.mono _ _ _
      | exact cadastreref02_Of.mono _ _
      | exact cadastreref02_Plus.mono _ _ _
      | exact cadastreref02_Up.mono _ _ _
      | exact cadastreref02_scaled.mono _ _ _ _
      | exact LeO.none _
      | refine LeO.ite ?_ ?_
      | refine LeO.bind ?_ (fun _ => ?_)
    · intro y0 y1 y2 y3 y4 y5 y6
      unfold cadastreref02_Add.j1
      repeat' first
      | (with_reducible exact ih0 _ _ _)
      | (with_reducible exact ih1 _ _ _ _ _ _ _)
      | (with_reducible exact ih2 _ _ _ _ _)
      | (with_reducible exact ih3 _)
      | (with_reducible exact cadastreref02_Cmp.mono _ _ _)
      | (with_reducible exact cadastreref02_Minus.mono _ _ _)
      | (with_reducible exact cadastreref02_Of.mono _ _)
      | (with_reducible exact cadastreref02_Plus.mono _ _ _)
      | (with_reducible exact cadastreref02_Up.mono _ _ _)
      | (with_reducible exact cadastreref02_scaled.mono _ _ _ _)
      | (with_reducible exact LeO.refl _)
      | (with_reducible exact LeO.none _)
      | (with_reducible refine LeO.ite ?_ ?_)
      | (with_reducible refine LeO.bind ?_ (fun _ => ?_))
      | exact ih0 _ _ _
      | exact ih1 _ _ _ _ _ _ _
      | exact ih2 _ _ _ _ _
      | exact ih3 _
      | exact cadastreref02_Cmp.mono _ _ _
      | exact cadastreref02_Minus.mono _ _ _
      | exact cadastreref02_Of.mono _ _
      | exact cadastreref02_Plus.mono _ _ _
      | exact cadastreref02_Up.mono _ _ _
      | exact cadastreref02_scaled.mono _ _ _ _
      | exact LeO.none _
      | refine LeO.ite ?_ ?_
      | refine LeO.bind ?_ (fun _ => ?_)
    · intro y0 y1 y2 y3 y4
      unfold cadastreref02_Add.j2
      repeat' first
      | (with_reducible exact ih0 _ _ _)
      | (with_reducible exact ih1 _ _ _ _ _ _ _)
      | (with_reducible exact ih2 _ _ _ _ _)
      | (with_reducible exact ih3 _)
      | (with_reducible exact cadastreref02_Cmp.mono _ _ _)
      | (with_reducible exact cadastreref02_Minus.mono _ _ _)
      | (with_reducible exact cadastreref02_Of.mono _ _)
      | (with_reducible exact cadastreref02_Plus.mono _ _ _)
      | (with_reducible exact cadastreref02_Up.mono _ _ _)
      | (with_reducible exact cadastreref02_scaled.mono _ _ _ _)
      | (with_reducible exact LeO.refl _)
      | (with_reducible exact LeO.none _)
      | (with_reducible refine LeO.ite ?_ ?_)
      | (with_reducible refine LeO.bind ?_ (fun _ => ?_))
      | exact ih0 _ _ _
      | exact ih1 _ _ _ _ _ _ _
      | exact ih2 _ _ _ _ _
      | exact ih3 _
      | exact cadastreref02_Cmp.mono _ _ _
      | exact cadastreref02_Minus.mono _ _ _
      | exact cadastreref02_Of.mono _ _
      | exact cadastreref02_Plus.mono _ _ _
      | exact cadastreref02_Up.mono _ _ _
      | exact cadastreref02_scaled.mono _ _ _ _
      | exact LeO.none _
      | refine LeO.ite ?_ ?_
      | refine LeO.bind ?_ (fun _ => ?_)
    · intro y0
      unfold cadastreref02_Add.j3
      repeat' first
      | (with_reducible exact ih0 _ _ _)
      | (with_reducible exact ih1 _ _ _ _ _ _ _)
      | (with_reducible exact ih2 _ _ _ _ _)
      | (with_reducible exact ih3 _)
      | (with_reducible exact cadastreref02_Cmp.mono _ _ _)
      | (with_reducible exact cadastreref02_Minus.mono _ _ _)
      | (with_reducible exact cadastreref02_Of.mono _ _)
      | (with_reducible exact cadastreref02_Plus.mono _ _ _)
      | (with_reducible exact cadastreref02_Up.mono _ _ _)
      | (with_reducible exact cadastreref02_scaled.mono _ _ _ _)
      | (with_reducible exact LeO.refl _)
      | (with_reducible exact LeO.none _)
      | (with_reducible refine LeO.ite ?_ ?_)
      | (with_reducible refine LeO.bind ?_ (fun _ => ?_))
      | exact ih0 _ _ _
      | exact ih1 _ _ _ _ _ _ _
      | exact ih2 _ _ _ _ _
      | exact ih3 _
      | exact cadastreref02_Cmp.mono _ _ _
      | exact cadastreref02_Minus.mono _ _ _
      | exact cadastreref02_Of.mono _ _
      | exact cadastreref02_Plus.mono _ _ _
      | exact cadastreref02_Up.mono _ _ _
      | exact cadastreref02_scaled.mono _ _ _ _
      | exact LeO.none _
      | refine LeO.ite ?_ ?_
      | refine LeO.bind ?_ (fun _ => ?_)
theorem cadastreref02_Add.mono : ∀ a0 a1 k, LeO (cadastreref02_Add.f k a0 a1) (cadastreref02_Add.f (k + 1) a0 a1) := by
  intro a0 a1 k
  obtain ⟨ih0, ih1, ih2, ih3⟩ := cadastreref02_Add.mono_l k
  unfold cadastreref02_Add.f
  repeat' first
      | (with_reducible exact ih0 _ _ _)
      | (with_reducible exact ih1 _ _ _ _ _ _ _)
      | (with_reducible exact ih2 _ _ _ _ _)
      | (with_reducible exact ih3 _)
      | (with_reducible exact cadastreref02_Cmp.mono _ _ _)
      | (with_reducible exact cadastreref02_Minus.mono _ _ _)
      | (with_reducible exact cadastreref02_Of.mono _ _)
      | (with_reducible exact cadastreref02_Plus.mono _ _ _)
      | (with_reducible exact cadastreref02_Up.mono _ _ _)
      | (with_reducible exact cadastreref02_scaled.mono _ _ _ _)
      | (with_reducible exact LeO.refl _)
      | (with_reducible exact LeO.none _)
      | (with_reducible refine LeO.ite ?_ ?_)
      | (with_reducible refine LeO.bind ?_ (fun _ => ?_))
      | exact ih0 _ _ _
      | exact ih1 _ _ _ _ _ _ _
      | exact ih2 _ _ _ _ _
      | exact ih3 _
      | exact cadastreref02_Cmp.mono _ _ _
      | exact cadastreref02_Minus.mono _ _ _
      | exact cadastreref02_Of.mono _ _
      | exact cadastreref02_Plus.mono _ _ _
      | exact cadastreref02_Up.mono _ _ _
      | exact cadastreref02_scaled.mono _ _ _ _
      | exact LeO.none _
      | refine LeO.ite ?_ ?_
      | refine LeO.bind ?_ (fun _ => ?_)
set_option maxHeartbeats 8000000 in
set_option maxRecDepth 100000 in
theorem cadastreref02_Add.calls (k : Nat) (a0 : Int) (a1 : Int) (r : Int) (w : World) (h : cadastreref02_Add.f k a0 a1 = some r) :
    Calls Try.prog 39 #[.int .u64 a0, .int .u64 a1] w fun e w' => e = .returned (.int .u64 r) ∧ Below w.heap.size w w' := by
  have HB := Aside0.mk (Below.refl w.heap.size w)
  have H : ((cadastreref02_Kind.f a0).bind fun t256 => (if t256 = 2 then (cadastreref02_Add.j0 k a0 a1 true) else ((cadastreref02_Kind.f a1).bind fun t257 => (if t257 = 2 then (cadastreref02_Add.j0 k a0 a1 true) else ((cadastreref02_Kind.f a0).bind fun t258 => (if t258 = 1 then ((cadastreref02_Kind.f a1).bind fun t259 => (if t259 = 1 then (cadastreref02_Add.j0 k a0 a1 (a0 != a1)) else (cadastreref02_Add.j0 k a0 a1 false))) else (cadastreref02_Add.j0 k a0 a1 false))))))) = some r := h
  clear h
  have HC3 := Aside0.mk H
  clear H
  go_enter Try.func39, Try.ntmps39
  go_upto_region 1 with (fail)
  go_cut [40] (fun v40 wc => ∃ (kq : Nat) (x40_2 : Bool), v40 = .bool x40_2 ∧ Aside0 (cadastreref02_Add.j0 kq a0 a1 x40_2 = some r) ∧ Aside0 (kq ≤ k) ∧ Aside0 (Below w.heap.size w wc))
  case first =>
    have H := HC3.out
    clear HC3
    replace H := Option.bind_eq_some_iff.mp H
    obtain ⟨t256, A40, H⟩ := H
    replace H : (if t256 = 2 then (cadastreref02_Add.j0 k a0 a1 true) else ((cadastreref02_Kind.f a1).bind fun t257 => (if t257 = 2 then (cadastreref02_Add.j0 k a0 a1 true) else ((cadastreref02_Kind.f a0).bind fun t258 => (if t258 = 1 then ((cadastreref02_Kind.f a1).bind fun t259 => (if t259 = 1 then (cadastreref02_Add.j0 k a0 a1 (a0 != a1)) else (cadastreref02_Add.j0 k a0 a1 false))) else (cadastreref02_Add.j0 k a0 a1 false)))))) = some r := H
    have A4 := Aside0.mk A40
    clear A40
    by_cases c5 : t256 = 2
    · rw [if_pos c5] at H
      have c5b0 : (t256 == 2) = true := beq_iff_eq.mpr c5
      have c5b1 : (t256 != 2) = false := bne_eq_false_iff_eq.mpr c5
      clear c5
      (first | rw [c5b0] | (simp only [i64_w, i32_w]; rw [c5b0]) | skip)
      have H' := Aside0.mk H
      clear H
      go_wp2_with (first | ((with_reducible refine gate_callee (f := 18) rfl ?_); refine goesL_ (some 19) rfl rfl Try.func18 (by kernel_rfl) rfl #[.int .u64 a0] rfl (by (try simp only [List.map_toArray, List.map_cons, List.map_nil]); first | done | rfl | (simp only [List.length_drop, List.length_take]; rfl)) ?_; (with_reducible refine (cadastreref02_Kind.calls a0 t256 _ A4.out).mono ?_); rintro e w' ⟨rfl, ⟨nd, rfl⟩⟩; refine ⟨_, rfl, ?_⟩))
      go_meet
      case rel => exact ⟨_, (true), (by first | rfl | (simp; done) | (simp [*]; done)), H', ⟨by first | omega | exact Nat.le_refl _⟩, ⟨by repeat (first | (with_reducible first | exact HB.out | apply below_alloc | apply pw_below_drewN | apply below_drew1) | exact HB.out)⟩⟩
    · rw [if_neg c5] at H
      have c5b0 : (t256 == 2) = false := beq_eq_false_iff_ne.mpr c5
      have c5b1 : (t256 != 2) = true := bne_iff_ne.mpr c5
      (first | rw [c5b0] | (simp only [i64_w, i32_w]; rw [c5b0]) | skip)
      replace H := Option.bind_eq_some_iff.mp H
      obtain ⟨t257, A60, H⟩ := H
      replace H : (if t257 = 2 then (cadastreref02_Add.j0 k a0 a1 true) else ((cadastreref02_Kind.f a0).bind fun t258 => (if t258 = 1 then ((cadastreref02_Kind.f a1).bind fun t259 => (if t259 = 1 then (cadastreref02_Add.j0 k a0 a1 (a0 != a1)) else (cadastreref02_Add.j0 k a0 a1 false))) else (cadastreref02_Add.j0 k a0 a1 false)))) = some r := H
      have A6 := Aside0.mk A60
      clear A60
      by_cases c7 : t257 = 2
      · rw [if_pos c7] at H
        have c7b0 : (t257 == 2) = true := beq_iff_eq.mpr c7
        have c7b1 : (t257 != 2) = false := bne_eq_false_iff_eq.mpr c7
        clear c7
        have H' := Aside0.mk H
        clear H
        go_wp2_with (first | ((with_reducible refine gate_callee (f := 18) rfl ?_); refine goesL_ (some 19) rfl rfl Try.func18 (by kernel_rfl) rfl #[.int .u64 a0] rfl (by (try simp only [List.map_toArray, List.map_cons, List.map_nil]); first | done | rfl | (simp only [List.length_drop, List.length_take]; rfl)) ?_; (with_reducible refine (cadastreref02_Kind.calls a0 t256 _ A4.out).mono ?_); rintro e w' ⟨rfl, ⟨nd, rfl⟩⟩; refine ⟨_, rfl, ?_⟩) | (go_at_call 18; (with_reducible refine (cadastreref02_Kind.calls a1 t257 _ A6.out).mono ?_); rintro e w' ⟨rfl, ⟨nd, rfl⟩⟩))
        go_meet
        case rel => exact ⟨_, (true), (by first | rfl | (simp; done) | (simp [*]; done)), H', ⟨by first | omega | exact Nat.le_refl _⟩, ⟨by repeat (first | (with_reducible first | exact HB.out | apply below_alloc | apply pw_below_drewN | apply below_drew1) | exact HB.out)⟩⟩
      · rw [if_neg c7] at H
        have c7b0 : (t257 == 2) = false := beq_eq_false_iff_ne.mpr c7
        have c7b1 : (t257 != 2) = true := bne_iff_ne.mpr c7
        replace H := Option.bind_eq_some_iff.mp H
        obtain ⟨t258, A80, H⟩ := H
        replace H : (if t258 = 1 then ((cadastreref02_Kind.f a1).bind fun t259 => (if t259 = 1 then (cadastreref02_Add.j0 k a0 a1 (a0 != a1)) else (cadastreref02_Add.j0 k a0 a1 false))) else (cadastreref02_Add.j0 k a0 a1 false)) = some r := H
        obtain rfl := Option.some.inj (A80.symm.trans A4.out)
        have A8 := Aside0.mk A80
        clear A80
        by_cases c9 : t258 = 1
        · rw [if_pos c9] at H
          have c9b0 : (t258 == 1) = true := beq_iff_eq.mpr c9
          have c9b1 : (t258 != 1) = false := bne_eq_false_iff_eq.mpr c9
          clear c9
          replace H := Option.bind_eq_some_iff.mp H
          obtain ⟨t259, A100, H⟩ := H
          replace H : (if t259 = 1 then (cadastreref02_Add.j0 k a0 a1 (a0 != a1)) else (cadastreref02_Add.j0 k a0 a1 false)) = some r := H
          obtain rfl := Option.some.inj (A100.symm.trans A6.out)
          have A10 := Aside0.mk A100
          clear A100
          by_cases c11 : t259 = 1
          · rw [if_pos c11] at H
            have c11b0 : (t259 == 1) = true := beq_iff_eq.mpr c11
            have c11b1 : (t259 != 1) = false := bne_eq_false_iff_eq.mpr c11
            clear c11
            have H' := Aside0.mk H
            clear H
            go_wp2_with (first | ((with_reducible refine gate_callee (f := 18) rfl ?_); refine goesL_ (some 19) rfl rfl Try.func18 (by kernel_rfl) rfl #[.int .u64 a0] rfl (by (try simp only [List.map_toArray, List.map_cons, List.map_nil]); first | done | rfl | (simp only [List.length_drop, List.length_take]; rfl)) ?_; (with_reducible refine (cadastreref02_Kind.calls a0 t256 _ A4.out).mono ?_); rintro e w' ⟨rfl, ⟨nd, rfl⟩⟩; refine ⟨_, rfl, ?_⟩) | (go_at_call 18; (with_reducible refine (cadastreref02_Kind.calls a1 t257 _ A6.out).mono ?_); rintro e w' ⟨rfl, ⟨nd, rfl⟩⟩) | (go_at_call 18; (with_reducible refine (cadastreref02_Kind.calls a0 t258 _ A8.out).mono ?_); rintro e w' ⟨rfl, ⟨nd, rfl⟩⟩) | (go_at_call 18; (with_reducible refine (cadastreref02_Kind.calls a1 t259 _ A10.out).mono ?_); rintro e w' ⟨rfl, ⟨nd, rfl⟩⟩))
            go_meet
            case rel => exact ⟨_, ((a0 != a1)), (by first | rfl | (simp; done) | (simp [*]; done)), H', ⟨by first | omega | exact Nat.le_refl _⟩, ⟨by repeat (first | (with_reducible first | exact HB.out | apply below_alloc | apply pw_below_drewN | apply below_drew1) | exact HB.out)⟩⟩
          · rw [if_neg c11] at H
            have c11b0 : (t259 == 1) = false := beq_eq_false_iff_ne.mpr c11
            have c11b1 : (t259 != 1) = true := bne_iff_ne.mpr c11
            have H' := Aside0.mk H
            clear H
            go_wp2_with (first | ((with_reducible refine gate_callee (f := 18) rfl ?_); refine goesL_ (some 19) rfl rfl Try.func18 (by kernel_rfl) rfl #[.int .u64 a0] rfl (by (try simp only [List.map_toArray, List.map_cons, List.map_nil]); first | done | rfl | (simp only [List.length_drop, List.length_take]; rfl)) ?_; (with_reducible refine (cadastreref02_Kind.calls a0 t256 _ A4.out).mono ?_); rintro e w' ⟨rfl, ⟨nd, rfl⟩⟩; refine ⟨_, rfl, ?_⟩) | (go_at_call 18; (with_reducible refine (cadastreref02_Kind.calls a1 t257 _ A6.out).mono ?_); rintro e w' ⟨rfl, ⟨nd, rfl⟩⟩) | (go_at_call 18; (with_reducible refine (cadastreref02_Kind.calls a0 t258 _ A8.out).mono ?_); rintro e w' ⟨rfl, ⟨nd, rfl⟩⟩) | (go_at_call 18; (with_reducible refine (cadastreref02_Kind.calls a1 t259 _ A10.out).mono ?_); rintro e w' ⟨rfl, ⟨nd, rfl⟩⟩))
            go_meet
            case rel => exact ⟨_, (false), (by first | rfl | (simp; done) | (simp [*]; done)), H', ⟨by first | omega | exact Nat.le_refl _⟩, ⟨by repeat (first | (with_reducible first | exact HB.out | apply below_alloc | apply pw_below_drewN | apply below_drew1) | exact HB.out)⟩⟩
        · rw [if_neg c9] at H
          have c9b0 : (t258 == 1) = false := beq_eq_false_iff_ne.mpr c9
          have c9b1 : (t258 != 1) = true := bne_iff_ne.mpr c9
          have H' := Aside0.mk H
          clear H
          go_wp2_with (first | ((with_reducible refine gate_callee (f := 18) rfl ?_); refine goesL_ (some 19) rfl rfl Try.func18 (by kernel_rfl) rfl #[.int .u64 a0] rfl (by (try simp only [List.map_toArray, List.map_cons, List.map_nil]); first | done | rfl | (simp only [List.length_drop, List.length_take]; rfl)) ?_; (with_reducible refine (cadastreref02_Kind.calls a0 t256 _ A4.out).mono ?_); rintro e w' ⟨rfl, ⟨nd, rfl⟩⟩; refine ⟨_, rfl, ?_⟩) | (go_at_call 18; (with_reducible refine (cadastreref02_Kind.calls a1 t257 _ A6.out).mono ?_); rintro e w' ⟨rfl, ⟨nd, rfl⟩⟩) | (go_at_call 18; (with_reducible refine (cadastreref02_Kind.calls a0 t258 _ A8.out).mono ?_); rintro e w' ⟨rfl, ⟨nd, rfl⟩⟩))
          go_meet
          case rel => exact ⟨_, (false), (by first | rfl | (simp; done) | (simp [*]; done)), H', ⟨by first | omega | exact Nat.le_refl _⟩, ⟨by repeat (first | (with_reducible first | exact HB.out | apply below_alloc | apply pw_below_drewN | apply below_drew1) | exact HB.out)⟩⟩
  case rest =>
    clear HC3
    try clear c1
    try clear p2
    try clear c3
    try clear c5
    try clear c5b0
    try clear c5b1
    try clear c7
    try clear c7b0
    try clear c7b1
    try clear c9
    try clear c9b0
    try clear c9b1
    try clear c11
    try clear c11b0
    try clear c11b1
    obtain ⟨kq, x40_2, rfl, HA, HJ2, HB⟩ := hcut
    cases kq with
    | zero => exact absurd HA.out (by simp [cadastreref02_Add.j0])
    | succ kj2 =>
      have H := HA.out
      clear HA
      simp only [cadastreref02_Add.j0] at H
      by_cases c12 : x40_2 = true
      · subst c12
        have H1 : ((cadastreref02_Nan.f).bind fun t260 => (some t260)) = some r := by rw [if_pos rfl] at H; exact H
        clear H
        have H := H1
        clear H1
        replace H := Option.bind_eq_some_iff.mp H
        obtain ⟨t260, A130, H⟩ := H
        replace H : (some t260) = some r := H
        have A13 := Aside0.mk A130
        clear A130
        obtain rfl := Option.some.inj H
        go_wp2_with (first | ((with_reducible refine gate_callee (f := 19) rfl ?_); refine goesL_ (some 41) rfl rfl Try.func19 (by kernel_rfl) rfl #[] rfl (by (try simp only [List.map_toArray, List.map_cons, List.map_nil]); first | done | rfl | (simp only [List.length_drop, List.length_take]; rfl)) ?_; (with_reducible refine (cadastreref02_Nan.calls  t260 _ A13.out).mono ?_); rintro e w' ⟨rfl, ⟨nd, rfl⟩⟩; refine ⟨_, rfl, ?_⟩))
        go_ret
        exact ⟨by first | rfl | (simp [errW_none, errW_some] <;> rfl) | (simp [*, errW_none, errW_some] <;> rfl), by repeat (first | (with_reducible first | exact HB.out | apply below_alloc | apply pw_below_drewN | apply below_drew1) | exact HB.out)⟩
      · replace c12 := Bool.eq_false_iff.mpr c12
        subst c12
        have H1 : ((cadastreref02_Kind.f a0).bind fun t261 => (if t261 = 1 then (some a0) else ((cadastreref02_Kind.f a1).bind fun t262 => (if t262 = 1 then (some a1) else ((cadastreref02_Parts.f a0).bind fun bt263 => ((cadastreref02_Parts.f a1).bind fun bt267 => (if bt267.2.1 < bt263.2.1 then (cadastreref02_Add.j1 kj2 bt263.1 bt263.2.1 bt263.2.2.1 bt267.1 bt267.2.1 bt267.2.2.1 bt267.2.1) else (cadastreref02_Add.j1 kj2 bt263.1 bt263.2.1 bt263.2.2.1 bt267.1 bt267.2.1 bt267.2.2.1 bt263.2.1)))))))) = some r := by rw [if_neg (show ¬ (false = true) by decide)] at H; exact H
        clear H
        have H := H1
        clear H1
        replace H := Option.bind_eq_some_iff.mp H
        obtain ⟨t261, A140, H⟩ := H
        replace H : (if t261 = 1 then (some a0) else ((cadastreref02_Kind.f a1).bind fun t262 => (if t262 = 1 then (some a1) else ((cadastreref02_Parts.f a0).bind fun bt263 => ((cadastreref02_Parts.f a1).bind fun bt267 => (if bt267.2.1 < bt263.2.1 then (cadastreref02_Add.j1 kj2 bt263.1 bt263.2.1 bt263.2.2.1 bt267.1 bt267.2.1 bt267.2.2.1 bt267.2.1) else (cadastreref02_Add.j1 kj2 bt263.1 bt263.2.1 bt263.2.2.1 bt267.1 bt267.2.1 bt267.2.2.1 bt263.2.1))))))) = some r := H
        have A14 := Aside0.mk A140
        clear A140
        by_cases c15 : t261 = 1
        · rw [if_pos c15] at H
          have c15b0 : (t261 == 1) = true := beq_iff_eq.mpr c15
          have c15b1 : (t261 != 1) = false := bne_eq_false_iff_eq.mpr c15
          clear c15
          obtain rfl := Option.some.inj H
          go_wp2_with (first | ((with_reducible refine gate_callee (f := 18) rfl ?_); refine goesL_ (some 43) rfl rfl Try.func18 (by kernel_rfl) rfl #[.int .u64 a0] rfl (by (try simp only [List.map_toArray, List.map_cons, List.map_nil]); first | done | rfl | (simp only [List.length_drop, List.length_take]; rfl)) ?_; (with_reducible refine (cadastreref02_Kind.calls a0 t261 _ A14.out).mono ?_); rintro e w' ⟨rfl, ⟨nd, rfl⟩⟩; refine ⟨_, rfl, ?_⟩))
          go_ret
          exact ⟨by first | rfl | (simp [errW_none, errW_some] <;> rfl) | (simp [*, errW_none, errW_some] <;> rfl), by repeat (first | (with_reducible first | exact HB.out | apply below_alloc | apply pw_below_drewN | apply below_drew1) | exact HB.out)⟩
        · rw [if_neg c15] at H
          have c15b0 : (t261 == 1) = false := beq_eq_false_iff_ne.mpr c15
          have c15b1 : (t261 != 1) = true := bne_iff_ne.mpr c15
          replace H := Option.bind_eq_some_iff.mp H
          obtain ⟨t262, A160, H⟩ := H
          replace H : (if t262 = 1 then (some a1) else ((cadastreref02_Parts.f a0).bind fun bt263 => ((cadastreref02_Parts.f a1).bind fun bt267 => (if bt267.2.1 < bt263.2.1 then (cadastreref02_Add.j1 kj2 bt263.1 bt263.2.1 bt263.2.2.1 bt267.1 bt267.2.1 bt267.2.2.1 bt267.2.1) else (cadastreref02_Add.j1 kj2 bt263.1 bt263.2.1 bt263.2.2.1 bt267.1 bt267.2.1 bt267.2.2.1 bt263.2.1))))) = some r := H
          have A16 := Aside0.mk A160
          clear A160
          by_cases c17 : t262 = 1
          · rw [if_pos c17] at H
            have c17b0 : (t262 == 1) = true := beq_iff_eq.mpr c17
            have c17b1 : (t262 != 1) = false := bne_eq_false_iff_eq.mpr c17
            clear c17
            obtain rfl := Option.some.inj H
            go_wp2_with (first | ((with_reducible refine gate_callee (f := 18) rfl ?_); refine goesL_ (some 43) rfl rfl Try.func18 (by kernel_rfl) rfl #[.int .u64 a0] rfl (by (try simp only [List.map_toArray, List.map_cons, List.map_nil]); first | done | rfl | (simp only [List.length_drop, List.length_take]; rfl)) ?_; (with_reducible refine (cadastreref02_Kind.calls a0 t261 _ A14.out).mono ?_); rintro e w' ⟨rfl, ⟨nd, rfl⟩⟩; refine ⟨_, rfl, ?_⟩) | ((with_reducible refine gate_callee (f := 18) rfl ?_); refine goesL_ (some 47) rfl rfl Try.func18 (by kernel_rfl) rfl #[.int .u64 a1] rfl (by (try simp only [List.map_toArray, List.map_cons, List.map_nil]); first | done | rfl | (simp only [List.length_drop, List.length_take]; rfl)) ?_; (with_reducible refine (cadastreref02_Kind.calls a1 t262 _ A16.out).mono ?_); rintro e w' ⟨rfl, ⟨nd, rfl⟩⟩; refine ⟨_, rfl, ?_⟩))
            go_ret
            exact ⟨by first | rfl | (simp [errW_none, errW_some] <;> rfl) | (simp [*, errW_none, errW_some] <;> rfl), by repeat (first | (with_reducible first | exact HB.out | apply below_alloc | apply pw_below_drewN | apply below_drew1) | exact HB.out)⟩
          · rw [if_neg c17] at H
            have c17b0 : (t262 == 1) = false := beq_eq_false_iff_ne.mpr c17
            have c17b1 : (t262 != 1) = true := bne_iff_ne.mpr c17
            replace H := Option.bind_eq_some_iff.mp H
            obtain ⟨⟨t263, t264, t265, t266⟩, A180, H⟩ := H
            replace H : ((cadastreref02_Parts.f a1).bind fun bt267 => (if bt267.2.1 < t264 then (cadastreref02_Add.j1 kj2 t263 t264 t265 bt267.1 bt267.2.1 bt267.2.2.1 bt267.2.1) else (cadastreref02_Add.j1 kj2 t263 t264 t265 bt267.1 bt267.2.1 bt267.2.2.1 t264))) = some r := H
            have A18 := Aside0.mk A180
            clear A180
            replace H := Option.bind_eq_some_iff.mp H
            obtain ⟨⟨t267, t268, t269, t270⟩, A190, H⟩ := H
            replace H : (if t268 < t264 then (cadastreref02_Add.j1 kj2 t263 t264 t265 t267 t268 t269 t268) else (cadastreref02_Add.j1 kj2 t263 t264 t265 t267 t268 t269 t264)) = some r := H
            have A19 := Aside0.mk A190
            clear A190
            have HC20 := Aside0.mk H
            clear H
            go_upto_if 67 with (first | ((with_reducible refine gate_callee (f := 18) rfl ?_); refine goesL_ (some 43) rfl rfl Try.func18 (by kernel_rfl) rfl #[.int .u64 a0] rfl (by (try simp only [List.map_toArray, List.map_cons, List.map_nil]); first | done | rfl | (simp only [List.length_drop, List.length_take]; rfl)) ?_; (with_reducible refine (cadastreref02_Kind.calls a0 t261 _ A14.out).mono ?_); rintro e w' ⟨rfl, ⟨nd, rfl⟩⟩; refine ⟨_, rfl, ?_⟩) | ((with_reducible refine gate_callee (f := 18) rfl ?_); refine goesL_ (some 47) rfl rfl Try.func18 (by kernel_rfl) rfl #[.int .u64 a1] rfl (by (try simp only [List.map_toArray, List.map_cons, List.map_nil]); first | done | rfl | (simp only [List.length_drop, List.length_take]; rfl)) ?_; (with_reducible refine (cadastreref02_Kind.calls a1 t262 _ A16.out).mono ?_); rintro e w' ⟨rfl, ⟨nd, rfl⟩⟩; refine ⟨_, rfl, ?_⟩) | ((with_reducible refine gate_callee (f := 27) rfl ?_); refine goesL_ (some 52) rfl rfl Try.func27 (by kernel_rfl) rfl #[.int .u64 a0] rfl (by (try simp only [List.map_toArray, List.map_cons, List.map_nil]); first | done | rfl | (simp only [List.length_drop, List.length_take]; rfl)) ?_; (with_reducible refine (cadastreref02_Parts.calls a0 t263 t264 t265 t266 _ A18.out).mono ?_); rintro e w' ⟨rfl, ⟨nd, rfl⟩⟩; refine ⟨_, rfl, ?_⟩) | ((with_reducible refine gate_callee (f := 27) rfl ?_); refine goesL_ (some 59) rfl rfl Try.func27 (by kernel_rfl) rfl #[.int .u64 a1] rfl (by (try simp only [List.map_toArray, List.map_cons, List.map_nil]); first | done | rfl | (simp only [List.length_drop, List.length_take]; rfl)) ?_; (with_reducible refine (cadastreref02_Parts.calls a1 t267 t268 t269 t270 _ A19.out).mono ?_); rintro e w' ⟨rfl, ⟨nd, rfl⟩⟩; refine ⟨_, rfl, ?_⟩))
            (try simp only [Act.put, List.setIfInBounds_toArray, List.set_cons_zero, List.set_cons_succ])
            go_cut [13] (fun v13 wc => ∃ (kq : Nat) (x13_19 : Int), v13 = .int .i64 x13_19 ∧ Aside0 (cadastreref02_Add.j1 kq t263 t264 t265 t267 t268 t269 x13_19 = some r) ∧ Aside0 (kq ≤ kj2) ∧ Aside0 (Below w.heap.size w wc))
            case first =>
              have H := HC20.out
              clear HC20
              by_cases c21 : t268 < t264
              · rw [if_pos c21] at H
                have c21b0 : decide (t268 < t264) = true := decide_eq_true c21
                clear c21
                (first | rw [c21b0] | (simp only [i64_w, i32_w]; rw [c21b0]) | skip)
                have H' := Aside0.mk H
                clear H
                go_wp2
                go_meet
                case rel => exact ⟨_, (t268), (by first | rfl | (simp; done) | (simp [*]; done)), H', ⟨by have := HJ2.out; first | omega | exact Nat.le_refl _⟩, ⟨by repeat (first | (with_reducible first | exact HB.out | apply below_alloc | apply pw_below_drewN | apply below_drew1) | exact HB.out)⟩⟩
              · rw [if_neg c21] at H
                have c21b0 : decide (t268 < t264) = false := decide_eq_false c21
                clear c21
                (first | rw [c21b0] | (simp only [i64_w, i32_w]; rw [c21b0]) | skip)
                have H' := Aside0.mk H
                clear H
                go_wp2
                go_meet
                case rel => exact ⟨_, (t264), (by first | rfl | (simp; done) | (simp [*]; done)), H', ⟨by have := HJ2.out; first | omega | exact Nat.le_refl _⟩, ⟨by repeat (first | (with_reducible first | exact HB.out | apply below_alloc | apply pw_below_drewN | apply below_drew1) | exact HB.out)⟩⟩
            case rest =>
              clear HC20
              try clear c1
              try clear c2
              try clear p2
              try clear c3
              try clear c5
              try clear c5b0
              try clear c5b1
              try clear c7
              try clear c7b0
              try clear c7b1
              try clear c9
              try clear c9b0
              try clear c9b1
              try clear c11
              try clear c11b0
              try clear c11b1
              try clear c12
              try clear c15
              try clear c15b0
              try clear c15b1
              try clear c17
              try clear c17b0
              try clear c17b1
              try clear c18
              try clear c19
              try clear c21
              try clear c21b0
              try clear p2
              obtain ⟨kq, x13_19, rfl, HA, HJ19, HB⟩ := hcut
              cases kq with
              | zero => exact absurd HA.out (by simp [cadastreref02_Add.j1])
              | succ kj19 =>
                have H := HA.out
                clear HA
                simp only [cadastreref02_Add.j1] at H
                replace H := Option.bind_eq_some_iff.mp H
                obtain ⟨t271, A220, H⟩ := H
                replace H : ((cadastreref02_Up.f kj19 t271 (wrap64 (t264 - x13_19))).bind fun t274 => ((cadastreref02_Of.f kj19 t269).bind fun t277 => ((cadastreref02_Up.f kj19 t277 (wrap64 (t268 - x13_19))).bind fun t280 => (if (t263 == t267) = true then ((cadastreref02_Plus.f kj19 t274 t280).bind fun t283 => (cadastreref02_Add.j2 kj19 t263 t267 x13_19 t283 t263)) else ((cadastreref02_Cmp.f kj19 t274 t280).bind fun t286 => (if t286 ≥ 0 then ((cadastreref02_Minus.f kj19 t274 t280).bind fun t287 => (cadastreref02_Add.j2 kj19 t263 t267 x13_19 t287 t263)) else ((cadastreref02_Minus.f kj19 t280 t274).bind fun t290 => (cadastreref02_Add.j2 kj19 t263 t267 x13_19 t290 t267)))))))) = some r := H
                have A22 := Aside0.mk A220
                clear A220
                replace H := Option.bind_eq_some_iff.mp H
                obtain ⟨t274, A230, H⟩ := H
                replace H : ((cadastreref02_Of.f kj19 t269).bind fun t277 => ((cadastreref02_Up.f kj19 t277 (wrap64 (t268 - x13_19))).bind fun t280 => (if (t263 == t267) = true then ((cadastreref02_Plus.f kj19 t274 t280).bind fun t283 => (cadastreref02_Add.j2 kj19 t263 t267 x13_19 t283 t263)) else ((cadastreref02_Cmp.f kj19 t274 t280).bind fun t286 => (if t286 ≥ 0 then ((cadastreref02_Minus.f kj19 t274 t280).bind fun t287 => (cadastreref02_Add.j2 kj19 t263 t267 x13_19 t287 t263)) else ((cadastreref02_Minus.f kj19 t280 t274).bind fun t290 => (cadastreref02_Add.j2 kj19 t263 t267 x13_19 t290 t267))))))) = some r := H
                have A23 := Aside0.mk A230
                clear A230
                replace H := Option.bind_eq_some_iff.mp H
                obtain ⟨t277, A240, H⟩ := H
                replace H : ((cadastreref02_Up.f kj19 t277 (wrap64 (t268 - x13_19))).bind fun t280 => (if (t263 == t267) = true then ((cadastreref02_Plus.f kj19 t274 t280).bind fun t283 => (cadastreref02_Add.j2 kj19 t263 t267 x13_19 t283 t263)) else ((cadastreref02_Cmp.f kj19 t274 t280).bind fun t286 => (if t286 ≥ 0 then ((cadastreref02_Minus.f kj19 t274 t280).bind fun t287 => (cadastreref02_Add.j2 kj19 t263 t267 x13_19 t287 t263)) else ((cadastreref02_Minus.f kj19 t280 t274).bind fun t290 => (cadastreref02_Add.j2 kj19 t263 t267 x13_19 t290 t267)))))) = some r := H
                have A24 := Aside0.mk A240
                clear A240
                replace H := Option.bind_eq_some_iff.mp H
                obtain ⟨t280, A250, H⟩ := H
                replace H : (if (t263 == t267) = true then ((cadastreref02_Plus.f kj19 t274 t280).bind fun t283 => (cadastreref02_Add.j2 kj19 t263 t267 x13_19 t283 t263)) else ((cadastreref02_Cmp.f kj19 t274 t280).bind fun t286 => (if t286 ≥ 0 then ((cadastreref02_Minus.f kj19 t274 t280).bind fun t287 => (cadastreref02_Add.j2 kj19 t263 t267 x13_19 t287 t263)) else ((cadastreref02_Minus.f kj19 t280 t274).bind fun t290 => (cadastreref02_Add.j2 kj19 t263 t267 x13_19 t290 t267))))) = some r := H
                have A25 := Aside0.mk A250
                clear A250
                have HC26 := Aside0.mk H
                clear H
                go_upto_if 84 with (first | ((with_reducible refine gate_callee (f := 29) rfl ?_); refine goesL_ (some 70) rfl rfl Try.func29 (by kernel_rfl) rfl #[.int .u64 t265] rfl (by (try simp only [List.map_toArray, List.map_cons, List.map_nil]); first | done | rfl | (simp only [List.length_drop, List.length_take]; rfl)) ?_; (with_reducible refine (cadastreref02_Of.calls kj19 t265 t271 _ A22.out).mono ?_); rintro e w27 ⟨v272, rfl, ho0, hb⟩; refine ⟨_, rfl, ?_⟩; have n0_ := Aside0.mk (Kd.R_lower ho0 (below_size (by repeat (first | (with_reducible first | exact HB.out | apply below_alloc | apply pw_below_drewN | apply below_drew1) | exact HB.out)))); have n1_ := Aside0.mk (below_step (by repeat (first | (with_reducible first | exact HB.out | apply below_alloc | apply pw_below_drewN | apply below_drew1) | exact HB.out)) hb); clear HB; have HO273 := n0_; have HB := n1_; clear n0_ n1_; (try clear hb); (try clear hb2); (try clear hk); (try clear hi); (try clear ho0); obtain ⟨Ao28, co28, eo28⟩ := Kd.R_slice HO273.out; subst eo28) | ((with_reducible refine gate_callee (f := 30) rfl ?_); refine goesL_ (some 74) rfl rfl Try.func30 (by kernel_rfl) rfl #[.slice Ao28 t271.length co28, .int .i64 (wrap64 (t264 - x13_19))] rfl (by (try simp only [List.map_toArray, List.map_cons, List.map_nil]); first | done | rfl | (simp only [List.length_drop, List.length_take]; rfl)) ?_; (with_reducible refine (cadastreref02_Up.calls kj19 (fun k_ => some k_ = (.slice Ao28 t271.length co28 : Value).ownBlock) _ _ t271 (wrap64 (t264 - x13_19)) t274 _ ?side1 A23.out).mono ?_); (case side1 => exact Kd.R_V (Kd.R_tight rfl (HO273.out))); rintro e w29 ⟨v275, rfl, ho0, hb⟩; refine ⟨_, rfl, ?_⟩; have n0_ := Aside0.mk (Kd.R_below (by (with_reducible repeat (first | apply Kd.R_alloc | apply Kd.R_drewN | apply Kd.R_drew)); exact HO273.out) hb); have n1_ := Aside0.mk (Kd.V_lower (Kd.V_mono (ok' := fun k_ => True) ho0 (fun k_ hk_ => trivial)) (below_size (by repeat (first | (with_reducible first | exact HB.out | apply below_alloc | apply pw_below_drewN | apply below_drew1) | exact HB.out)))); have n2_ := Aside0.mk (below_step (by repeat (first | (with_reducible first | exact HB.out | apply below_alloc | apply pw_below_drewN | apply below_drew1) | exact HB.out)) hb); clear HO273; clear HB; have HO273 := n0_; have HO276 := n1_; have HB := n2_; clear n0_ n1_ n2_; (try clear hb); (try clear hb2); (try clear hk); (try clear hi); (try clear ho0)) | ((with_reducible refine gate_callee (f := 29) rfl ?_); refine goesL_ (some 76) rfl rfl Try.func29 (by kernel_rfl) rfl #[.int .u64 t269] rfl (by (try simp only [List.map_toArray, List.map_cons, List.map_nil]); first | done | rfl | (simp only [List.length_drop, List.length_take]; rfl)) ?_; (with_reducible refine (cadastreref02_Of.calls kj19 t269 t277 _ A24.out).mono ?_); rintro e w30 ⟨v278, rfl, ho0, hb⟩; refine ⟨_, rfl, ?_⟩; have n0_ := Aside0.mk (Kd.R_elder' (by (with_reducible repeat (first | apply Kd.R_alloc | apply Kd.R_drewN | apply Kd.R_drew)); exact HO273.out) (Kd.R_base ho0) hb); have n1_ := Aside0.mk (Kd.V_elder' (by (with_reducible repeat (first | apply Kd.V_alloc | apply Kd.V_drewN | apply Kd.V_drew)); exact HO276.out) (Kd.R_base ho0) hb); have n2_ := Aside0.mk (Kd.R_lower (Kd.R_new' ho0 (Kd.R_lt (by (with_reducible repeat (first | apply Kd.R_alloc | apply Kd.R_drewN | apply Kd.R_drew)); exact HO273.out))) (below_size (by repeat (first | (with_reducible first | exact HB.out | apply below_alloc | apply pw_below_drewN | apply below_drew1) | exact HB.out)))); have n3_ := Aside0.mk (below_step (by repeat (first | (with_reducible first | exact HB.out | apply below_alloc | apply pw_below_drewN | apply below_drew1) | exact HB.out)) hb); clear HO273; clear HO276; clear HB; have HO273 := n0_; have HO276 := n1_; have HO279 := n2_; have HB := n3_; clear n0_ n1_ n2_ n3_; (try clear hb); (try clear hb2); (try clear hk); (try clear hi); (try clear ho0); obtain ⟨Ao31, co31, eo31⟩ := Kd.R_slice HO279.out; subst eo31) | ((with_reducible refine gate_callee (f := 30) rfl ?_); refine goesL_ (some 80) rfl rfl Try.func30 (by kernel_rfl) rfl #[.slice Ao31 t277.length co31, .int .i64 (wrap64 (t268 - x13_19))] rfl (by (try simp only [List.map_toArray, List.map_cons, List.map_nil]); first | done | rfl | (simp only [List.length_drop, List.length_take]; rfl)) ?_; (with_reducible refine (cadastreref02_Up.calls kj19 (fun k_ => some k_ = (.slice Ao31 t277.length co31 : Value).ownBlock) _ _ t277 (wrap64 (t268 - x13_19)) t280 _ ?side1 A25.out).mono ?_); (case side1 => exact Kd.R_V (Kd.R_tight rfl (HO279.out))); rintro e w32 ⟨v281, rfl, ho0, hb⟩; refine ⟨_, rfl, ?_⟩; have n0_ := Aside0.mk (Kd.R_below (by (with_reducible repeat (first | apply Kd.R_alloc | apply Kd.R_drewN | apply Kd.R_drew)); exact HO273.out) hb); have n1_ := Aside0.mk (Kd.V_below (by (with_reducible repeat (first | apply Kd.V_alloc | apply Kd.V_drewN | apply Kd.V_drew)); exact HO276.out) hb); have n2_ := Aside0.mk (Kd.R_below (by (with_reducible repeat (first | apply Kd.R_alloc | apply Kd.R_drewN | apply Kd.R_drew)); exact HO279.out) hb); have n3_ := Aside0.mk (Kd.V_lower (Kd.V_mono (ok' := fun k_ => some k_ ≠ (.slice Ao28 t271.length co28 : Value).ownBlock) ho0 (fun k_ hk_ => Or.elim hk_ (fun hs_ => ((HO279.out).1 k_ hs_.symm).2) (fun hn_ => (Kd.fresh' (Kd.R_lt (by (with_reducible repeat (first | apply Kd.R_alloc | apply Kd.R_drewN | apply Kd.R_drew)); exact HO273.out)) k_ hn_)))) (below_size (by repeat (first | (with_reducible first | exact HB.out | apply below_alloc | apply pw_below_drewN | apply below_drew1) | exact HB.out)))); have n4_ := Aside0.mk (below_step (by repeat (first | (with_reducible first | exact HB.out | apply below_alloc | apply pw_below_drewN | apply below_drew1) | exact HB.out)) hb); clear HO273; clear HO276; clear HO279; clear HB; have HO273 := n0_; have HO276 := n1_; have HO279 := n2_; have HO282 := n3_; have HB := n4_; clear n0_ n1_ n2_ n3_ n4_; (try clear hb); (try clear hb2); (try clear hk); (try clear hi); (try clear ho0)))
                (try simp only [Act.put, List.setIfInBounds_toArray, List.set_cons_zero, List.set_cons_succ])
                go_cut [14, 16] (fun v14 v16 wc => ∃ (kq : Nat) (x14_25 : List Bool) (x16_25 : Bool), v16 = .bool x16_25 ∧ Aside0 (cadastreref02_Add.j2 kq t263 t267 x13_19 x14_25 x16_25 = some r) ∧ Aside0 (kq ≤ kj19) ∧ Aside0 (Kd.V Kd.bool 4 wc w.heap.size (fun _ => True) v14 x14_25) ∧ Aside0 (Below w.heap.size w wc))
                case first =>
                  have H := HC26.out
                  clear HC26
                  by_cases c33 : (t263 == t267) = true
                  · rw [if_pos c33] at H
                    have c33b0 : (t263 == t267) = true := c33
                    (try (have c33b1 : decide (t263 = t267) = true := by simpa using c33))
                    (try (have c33b2 : (t263 == t267) = true := by simpa using c33))
                    clear c33
                    (first | rw [c33b0] | (simp only [i64_w, i32_w]; rw [c33b0]) | skip)
                    replace H := Option.bind_eq_some_iff.mp H
                    obtain ⟨t283, A340, H⟩ := H
                    replace H : (cadastreref02_Add.j2 kj19 t263 t267 x13_19 t283 t263) = some r := H
                    have A34 := Aside0.mk A340
                    clear A340
                    have H' := Aside0.mk H
                    clear H
                    obtain ⟨Ao35, co35, eo35⟩ := Kd.V_slice HO276.out
                    subst eo35
                    obtain ⟨Ao36, co36, eo36⟩ := Kd.V_slice HO282.out
                    subst eo36
                    go_wp2_with (first | ((with_reducible refine gate_callee (f := 47) rfl ?_); refine goesL_ (some 87) rfl rfl Try.func47 (by kernel_rfl) rfl #[.slice Ao35 t274.length co35, .slice Ao36 t280.length co36] rfl (by (try simp only [List.map_toArray, List.map_cons, List.map_nil]); first | done | rfl | (simp only [List.length_drop, List.length_take]; rfl)) ?_; (with_reducible refine (cadastreref02_Plus.calls kj19 _ _ t274 _ _ t280 t283 _ ?side1 ?side2 ?side3 ?side4 A34.out).mono ?_); (case side1 => repeat (first | exact (Kd.V_reads' HO276.out).2.2 | (with_reducible refine Kd.C_alloc ?_ _) | (with_reducible refine Kd.C_drewN ?_ _) | (with_reducible refine Kd.C_drew ?_))); (case side2 => exact (Kd.V_reads' HO276.out).2.1); (case side3 => repeat (first | exact (Kd.V_reads' HO282.out).2.2 | (with_reducible refine Kd.C_alloc ?_ _) | (with_reducible refine Kd.C_drewN ?_ _) | (with_reducible refine Kd.C_drew ?_))); (case side4 => exact (Kd.V_reads' HO282.out).2.1); rintro e w37 ⟨v284, rfl, ho0, hb⟩; refine ⟨_, rfl, ?_⟩; have n0_ := Aside0.mk (Kd.R_below (by (with_reducible repeat (first | apply Kd.R_alloc | apply Kd.R_drewN | apply Kd.R_drew)); exact HO273.out) hb); have n1_ := Aside0.mk (Kd.V_below (by (with_reducible repeat (first | apply Kd.V_alloc | apply Kd.V_drewN | apply Kd.V_drew)); exact HO276.out) hb); have n2_ := Aside0.mk (Kd.R_below (by (with_reducible repeat (first | apply Kd.R_alloc | apply Kd.R_drewN | apply Kd.R_drew)); exact HO279.out) hb); have n3_ := Aside0.mk (Kd.V_below (by (with_reducible repeat (first | apply Kd.V_alloc | apply Kd.V_drewN | apply Kd.V_drew)); exact HO282.out) hb); have n4_ := Aside0.mk (Kd.V_lower (Kd.V_mono (ok' := fun k_ => some k_ ≠ (.slice Ao28 t271.length co28 : Value).ownBlock ∧ some k_ ≠ (.slice Ao31 t277.length co31 : Value).ownBlock) ho0 (fun k_ hk_ => ⟨(Kd.fresh' (Kd.R_lt (by (with_reducible repeat (first | apply Kd.R_alloc | apply Kd.R_drewN | apply Kd.R_drew)); exact HO273.out)) k_ hk_), (Kd.fresh' (Kd.R_lt (by (with_reducible repeat (first | apply Kd.R_alloc | apply Kd.R_drewN | apply Kd.R_drew)); exact HO279.out)) k_ hk_)⟩)) (below_size (by repeat (first | (with_reducible first | exact HB.out | apply below_alloc | apply pw_below_drewN | apply below_drew1) | exact HB.out)))); have n5_ := Aside0.mk (below_step (by repeat (first | (with_reducible first | exact HB.out | apply below_alloc | apply pw_below_drewN | apply below_drew1) | exact HB.out)) hb); clear HO273; clear HO276; clear HO279; clear HO282; clear HB; have HO273 := n0_; have HO276 := n1_; have HO279 := n2_; have HO282 := n3_; have HO285 := n4_; have HB := n5_; clear n0_ n1_ n2_ n3_ n4_ n5_; (try clear hb); (try clear hb2); (try clear hk); (try clear hi); (try clear ho0)))
                    go_meet
                    case rel => exact ⟨_, (t283), (t263), (by first | rfl | (simp; done) | (simp [*]; done)), H', ⟨by have := HJ2.out; have := HJ19.out; first | omega | exact Nat.le_refl _⟩, ⟨by (with_reducible repeat (first | apply Kd.V_alloc | apply Kd.V_drewN | apply Kd.V_drew)); exact Kd.V_mono HO285.out (fun _ hk => trivial)⟩, ⟨by repeat (first | (with_reducible first | exact HB.out | apply below_alloc | apply pw_below_drewN | apply below_drew1) | exact HB.out)⟩⟩
                  · rw [if_neg c33] at H
                    have c33b0 : (t263 == t267) = false := by simpa using c33
                    (try (have c33b1 : decide (t263 = t267) = false := by simpa using c33))
                    (try (have c33b2 : (t263 == t267) = false := by simpa using c33))
                    (try (have c33b3 : ¬ (t263 = t267) := by simpa using c33))
                    clear c33
                    (first | rw [c33b0] | (simp only [i64_w, i32_w]; rw [c33b0]) | skip)
                    replace H := Option.bind_eq_some_iff.mp H
                    obtain ⟨t286, A380, H⟩ := H
                    replace H : (if t286 ≥ 0 then ((cadastreref02_Minus.f kj19 t274 t280).bind fun t287 => (cadastreref02_Add.j2 kj19 t263 t267 x13_19 t287 t263)) else ((cadastreref02_Minus.f kj19 t280 t274).bind fun t290 => (cadastreref02_Add.j2 kj19 t263 t267 x13_19 t290 t267))) = some r := H
                    have A38 := Aside0.mk A380
                    clear A380
                    by_cases c39 : t286 ≥ 0
                    · rw [if_pos c39] at H
                      have c39b0 : decide (0 ≤ t286) = true := decide_eq_true c39
                      clear c39
                      replace H := Option.bind_eq_some_iff.mp H
                      obtain ⟨t287, A400, H⟩ := H
                      replace H : (cadastreref02_Add.j2 kj19 t263 t267 x13_19 t287 t263) = some r := H
                      have A40 := Aside0.mk A400
                      clear A400
                      have H' := Aside0.mk H
                      clear H
                      obtain ⟨Ao41, co41, eo41⟩ := Kd.V_slice HO276.out
                      subst eo41
                      obtain ⟨Ao42, co42, eo42⟩ := Kd.V_slice HO282.out
                      subst eo42
                      go_wp2_with (first | ((with_reducible refine gate_callee (f := 49) rfl ?_); refine goesL_ (some 90) rfl rfl Try.func49 (by kernel_rfl) rfl #[.slice Ao41 t274.length co41, .slice Ao42 t280.length co42] rfl (by (try simp only [List.map_toArray, List.map_cons, List.map_nil]); first | done | rfl | (simp only [List.length_drop, List.length_take]; rfl)) ?_; (with_reducible refine (cadastreref02_Cmp.calls kj19 _ _ t274 _ _ t280 t286 _ ?side1 ?side2 ?side3 ?side4 A38.out).mono ?_); (case side1 => repeat (first | exact (Kd.V_reads' HO276.out).2.2 | (with_reducible refine Kd.C_alloc ?_ _) | (with_reducible refine Kd.C_drewN ?_ _) | (with_reducible refine Kd.C_drew ?_))); (case side2 => exact (Kd.V_reads' HO276.out).2.1); (case side3 => repeat (first | exact (Kd.V_reads' HO282.out).2.2 | (with_reducible refine Kd.C_alloc ?_ _) | (with_reducible refine Kd.C_drewN ?_ _) | (with_reducible refine Kd.C_drew ?_))); (case side4 => exact (Kd.V_reads' HO282.out).2.1); rintro e w' ⟨rfl, ⟨nd, rfl⟩⟩; refine ⟨_, rfl, ?_⟩) | ((with_reducible refine gate_callee (f := 52) rfl ?_); refine goesL_ (some 94) rfl rfl Try.func52 (by kernel_rfl) rfl #[.slice Ao41 t274.length co41, .slice Ao42 t280.length co42] rfl (by (try simp only [List.map_toArray, List.map_cons, List.map_nil]); first | done | rfl | (simp only [List.length_drop, List.length_take]; rfl)) ?_; (with_reducible refine (cadastreref02_Minus.calls kj19 _ _ t274 _ _ t280 t287 _ ?side1 ?side2 ?side3 ?side4 A40.out).mono ?_); (case side1 => repeat (first | exact (Kd.V_reads' HO276.out).2.2 | (with_reducible refine Kd.C_alloc ?_ _) | (with_reducible refine Kd.C_drewN ?_ _) | (with_reducible refine Kd.C_drew ?_))); (case side2 => exact (Kd.V_reads' HO276.out).2.1); (case side3 => repeat (first | exact (Kd.V_reads' HO282.out).2.2 | (with_reducible refine Kd.C_alloc ?_ _) | (with_reducible refine Kd.C_drewN ?_ _) | (with_reducible refine Kd.C_drew ?_))); (case side4 => exact (Kd.V_reads' HO282.out).2.1); rintro e w43 ⟨v288, rfl, ho0, hb⟩; refine ⟨_, rfl, ?_⟩; have n0_ := Aside0.mk (Kd.R_below (by (with_reducible repeat (first | apply Kd.R_alloc | apply Kd.R_drewN | apply Kd.R_drew)); exact HO273.out) hb); have n1_ := Aside0.mk (Kd.V_below (by (with_reducible repeat (first | apply Kd.V_alloc | apply Kd.V_drewN | apply Kd.V_drew)); exact HO276.out) hb); have n2_ := Aside0.mk (Kd.R_below (by (with_reducible repeat (first | apply Kd.R_alloc | apply Kd.R_drewN | apply Kd.R_drew)); exact HO279.out) hb); have n3_ := Aside0.mk (Kd.V_below (by (with_reducible repeat (first | apply Kd.V_alloc | apply Kd.V_drewN | apply Kd.V_drew)); exact HO282.out) hb); have n4_ := Aside0.mk (Kd.V_lower (Kd.V_mono (ok' := fun k_ => some k_ ≠ (.slice Ao28 t271.length co28 : Value).ownBlock ∧ some k_ ≠ (.slice Ao31 t277.length co31 : Value).ownBlock) ho0 (fun k_ hk_ => ⟨(Kd.fresh' (Kd.R_lt (by (with_reducible repeat (first | apply Kd.R_alloc | apply Kd.R_drewN | apply Kd.R_drew)); exact HO273.out)) k_ hk_), (Kd.fresh' (Kd.R_lt (by (with_reducible repeat (first | apply Kd.R_alloc | apply Kd.R_drewN | apply Kd.R_drew)); exact HO279.out)) k_ hk_)⟩)) (below_size (by repeat (first | (with_reducible first | exact HB.out | apply below_alloc | apply pw_below_drewN | apply below_drew1) | exact HB.out)))); have n5_ := Aside0.mk (below_step (by repeat (first | (with_reducible first | exact HB.out | apply below_alloc | apply pw_below_drewN | apply below_drew1) | exact HB.out)) hb); clear HO273; clear HO276; clear HO279; clear HO282; clear HB; have HO273 := n0_; have HO276 := n1_; have HO279 := n2_; have HO282 := n3_; have HO289 := n4_; have HB := n5_; clear n0_ n1_ n2_ n3_ n4_ n5_; (try clear hb); (try clear hb2); (try clear hk); (try clear hi); (try clear ho0)))
                      go_meet
                      case rel => exact ⟨_, (t287), (t263), (by first | rfl | (simp; done) | (simp [*]; done)), H', ⟨by have := HJ2.out; have := HJ19.out; first | omega | exact Nat.le_refl _⟩, ⟨by (with_reducible repeat (first | apply Kd.V_alloc | apply Kd.V_drewN | apply Kd.V_drew)); exact Kd.V_mono HO289.out (fun _ hk => trivial)⟩, ⟨by repeat (first | (with_reducible first | exact HB.out | apply below_alloc | apply pw_below_drewN | apply below_drew1) | exact HB.out)⟩⟩
                    · rw [if_neg c39] at H
                      have c39b0 : decide (0 ≤ t286) = false := decide_eq_false c39
                      clear c39
                      replace H := Option.bind_eq_some_iff.mp H
                      obtain ⟨t290, A440, H⟩ := H
                      replace H : (cadastreref02_Add.j2 kj19 t263 t267 x13_19 t290 t267) = some r := H
                      have A44 := Aside0.mk A440
                      clear A440
                      have H' := Aside0.mk H
                      clear H
                      obtain ⟨Ao45, co45, eo45⟩ := Kd.V_slice HO276.out
                      subst eo45
                      obtain ⟨Ao46, co46, eo46⟩ := Kd.V_slice HO282.out
                      subst eo46
                      go_wp2_with (first | ((with_reducible refine gate_callee (f := 49) rfl ?_); refine goesL_ (some 90) rfl rfl Try.func49 (by kernel_rfl) rfl #[.slice Ao45 t274.length co45, .slice Ao46 t280.length co46] rfl (by (try simp only [List.map_toArray, List.map_cons, List.map_nil]); first | done | rfl | (simp only [List.length_drop, List.length_take]; rfl)) ?_; (with_reducible refine (cadastreref02_Cmp.calls kj19 _ _ t274 _ _ t280 t286 _ ?side1 ?side2 ?side3 ?side4 A38.out).mono ?_); (case side1 => repeat (first | exact (Kd.V_reads' HO276.out).2.2 | (with_reducible refine Kd.C_alloc ?_ _) | (with_reducible refine Kd.C_drewN ?_ _) | (with_reducible refine Kd.C_drew ?_))); (case side2 => exact (Kd.V_reads' HO276.out).2.1); (case side3 => repeat (first | exact (Kd.V_reads' HO282.out).2.2 | (with_reducible refine Kd.C_alloc ?_ _) | (with_reducible refine Kd.C_drewN ?_ _) | (with_reducible refine Kd.C_drew ?_))); (case side4 => exact (Kd.V_reads' HO282.out).2.1); rintro e w' ⟨rfl, ⟨nd, rfl⟩⟩; refine ⟨_, rfl, ?_⟩) | ((with_reducible refine gate_callee (f := 52) rfl ?_); refine goesL_ (some 97) rfl rfl Try.func52 (by kernel_rfl) rfl #[.slice Ao46 t280.length co46, .slice Ao45 t274.length co45] rfl (by (try simp only [List.map_toArray, List.map_cons, List.map_nil]); first | done | rfl | (simp only [List.length_drop, List.length_take]; rfl)) ?_; (with_reducible refine (cadastreref02_Minus.calls kj19 _ _ t280 _ _ t274 t290 _ ?side1 ?side2 ?side3 ?side4 A44.out).mono ?_); (case side1 => repeat (first | exact (Kd.V_reads' HO282.out).2.2 | (with_reducible refine Kd.C_alloc ?_ _) | (with_reducible refine Kd.C_drewN ?_ _) | (with_reducible refine Kd.C_drew ?_))); (case side2 => exact (Kd.V_reads' HO282.out).2.1); (case side3 => repeat (first | exact (Kd.V_reads' HO276.out).2.2 | (with_reducible refine Kd.C_alloc ?_ _) | (with_reducible refine Kd.C_drewN ?_ _) | (with_reducible refine Kd.C_drew ?_))); (case side4 => exact (Kd.V_reads' HO276.out).2.1); rintro e w47 ⟨v291, rfl, ho0, hb⟩; refine ⟨_, rfl, ?_⟩; have n0_ := Aside0.mk (Kd.R_below (by (with_reducible repeat (first | apply Kd.R_alloc | apply Kd.R_drewN | apply Kd.R_drew)); exact HO273.out) hb); have n1_ := Aside0.mk (Kd.V_below (by (with_reducible repeat (first | apply Kd.V_alloc | apply Kd.V_drewN | apply Kd.V_drew)); exact HO276.out) hb); have n2_ := Aside0.mk (Kd.R_below (by (with_reducible repeat (first | apply Kd.R_alloc | apply Kd.R_drewN | apply Kd.R_drew)); exact HO279.out) hb); have n3_ := Aside0.mk (Kd.V_below (by (with_reducible repeat (first | apply Kd.V_alloc | apply Kd.V_drewN | apply Kd.V_drew)); exact HO282.out) hb); have n4_ := Aside0.mk (Kd.V_lower (Kd.V_mono (ok' := fun k_ => some k_ ≠ (.slice Ao28 t271.length co28 : Value).ownBlock ∧ some k_ ≠ (.slice Ao31 t277.length co31 : Value).ownBlock) ho0 (fun k_ hk_ => ⟨(Kd.fresh' (Kd.R_lt (by (with_reducible repeat (first | apply Kd.R_alloc | apply Kd.R_drewN | apply Kd.R_drew)); exact HO273.out)) k_ hk_), (Kd.fresh' (Kd.R_lt (by (with_reducible repeat (first | apply Kd.R_alloc | apply Kd.R_drewN | apply Kd.R_drew)); exact HO279.out)) k_ hk_)⟩)) (below_size (by repeat (first | (with_reducible first | exact HB.out | apply below_alloc | apply pw_below_drewN | apply below_drew1) | exact HB.out)))); have n5_ := Aside0.mk (below_step (by repeat (first | (with_reducible first | exact HB.out | apply below_alloc | apply pw_below_drewN | apply below_drew1) | exact HB.out)) hb); clear HO273; clear HO276; clear HO279; clear HO282; clear HB; have HO273 := n0_; have HO276 := n1_; have HO279 := n2_; have HO282 := n3_; have HO292 := n4_; have HB := n5_; clear n0_ n1_ n2_ n3_ n4_ n5_; (try clear hb); (try clear hb2); (try clear hk); (try clear hi); (try clear ho0)))
                      go_meet
                      case rel => exact ⟨_, (t290), (t267), (by first | rfl | (simp; done) | (simp [*]; done)), H', ⟨by have := HJ2.out; have := HJ19.out; first | omega | exact Nat.le_refl _⟩, ⟨by (with_reducible repeat (first | apply Kd.V_alloc | apply Kd.V_drewN | apply Kd.V_drew)); exact Kd.V_mono HO292.out (fun _ hk => trivial)⟩, ⟨by repeat (first | (with_reducible first | exact HB.out | apply below_alloc | apply pw_below_drewN | apply below_drew1) | exact HB.out)⟩⟩
                case rest =>
                  clear HC26
                  try clear c1
                  try clear c2
                  try clear p2
                  try clear c3
                  try clear c4
                  try clear c5
                  try clear c5b0
                  try clear c5b1
                  try clear p6
                  try clear c7
                  try clear c7b0
                  try clear c7b1
                  try clear c9
                  try clear c9b0
                  try clear c9b1
                  try clear c11
                  try clear c11b0
                  try clear c11b1
                  try clear c12
                  try clear c15
                  try clear c15b0
                  try clear c15b1
                  try clear c17
                  try clear c17b0
                  try clear c17b1
                  try clear c18
                  try clear c19
                  try clear c21
                  try clear c21b0
                  try clear c27
                  try clear c29
                  try clear c30
                  try clear c33
                  try clear c33b0
                  try clear c33b1
                  try clear c33b2
                  try clear c39
                  try clear c39b0
                  try clear c47
                  try clear p2
                  obtain ⟨kq, x14_25, x16_25, rfl, HA, HJ25, HO_14, HB⟩ := hcut
                  cases kq with
                  | zero => exact absurd HA.out (by simp [cadastreref02_Add.j2])
                  | succ kj25 =>
                    have H := HA.out
                    clear HA
                    simp only [cadastreref02_Add.j2] at H
                    by_cases c48 : (x14_25.length : Int) = 0
                    · rw [if_pos c48] at H
                      have c48b0 : ((x14_25.length : Int) == 0) = true := beq_iff_eq.mpr c48
                      have c48b1 : ((x14_25.length : Int) != 0) = false := bne_eq_false_iff_eq.mpr c48
                      clear c48
                      have HC49 := Aside0.mk H
                      clear H
                      obtain ⟨Ao50, co50, eo50⟩ := Kd.V_slice HO_14.out
                      subst eo50
                      go_upto_region 19 with (fail)
                      go_cut [105] (fun v105 wc => ∃ (kq : Nat) (x105_48 : Bool), v105 = .bool x105_48 ∧ Aside0 (cadastreref02_Add.j3 kq x105_48 = some r) ∧ Aside0 (kq ≤ kj25) ∧ Aside0 (Below w.heap.size w wc))
                      case first =>
                        have H := HC49.out
                        clear HC49
                        by_cases c51 : t263 = true
                        · subst c51
                          have H1 : (cadastreref02_Add.j3 kj25 t267) = some r := by rw [if_pos rfl] at H; exact H
                          clear H
                          have H := H1
                          clear H1
                          have H' := Aside0.mk H
                          clear H
                          go_wp2
                          go_meet
                          case rel => exact ⟨_, (t267), (by first | rfl | (simp; done) | (simp [*]; done)), H', ⟨by have := HJ2.out; have := HJ19.out; have := HJ25.out; first | omega | exact Nat.le_refl _⟩, ⟨by repeat (first | (with_reducible first | exact HB.out | apply below_alloc | apply pw_below_drewN | apply below_drew1) | exact HB.out)⟩⟩
                        · replace c51 := Bool.eq_false_iff.mpr c51
                          subst c51
                          have H1 : (cadastreref02_Add.j3 kj25 false) = some r := by rw [if_neg (show ¬ (false = true) by decide)] at H; exact H
                          clear H
                          have H := H1
                          clear H1
                          have H' := Aside0.mk H
                          clear H
                          go_wp2
                          go_meet
                          case rel => exact ⟨_, (false), (by first | rfl | (simp; done) | (simp [*]; done)), H', ⟨by have := HJ2.out; have := HJ19.out; have := HJ25.out; first | omega | exact Nat.le_refl _⟩, ⟨by repeat (first | (with_reducible first | exact HB.out | apply below_alloc | apply pw_below_drewN | apply below_drew1) | exact HB.out)⟩⟩
                      case rest =>
                        clear HC49
                        try clear c1
                        try clear c2
                        try clear p2
                        try clear c3
                        try clear c4
                        try clear c5
                        try clear c5b0
                        try clear c5b1
                        try clear p6
                        try clear c7
                        try clear c7b0
                        try clear c7b1
                        try clear c9
                        try clear c9b0
                        try clear c9b1
                        try clear c11
                        try clear c11b0
                        try clear c11b1
                        try clear c12
                        try clear c15
                        try clear c15b0
                        try clear c15b1
                        try clear c17
                        try clear c17b0
                        try clear c17b1
                        try clear c18
                        try clear c19
                        try clear c21
                        try clear c21b0
                        try clear c27
                        try clear c29
                        try clear c30
                        try clear c33
                        try clear c33b0
                        try clear c33b1
                        try clear c33b2
                        try clear c39
                        try clear c39b0
                        try clear c47
                        try clear c48
                        try clear c48b0
                        try clear c48b1
                        try clear c49
                        try clear c51
                        try clear p2
                        try clear p6
                        obtain ⟨kq, x105_48, rfl, HA, HJ48, HB⟩ := hcut
                        cases kq with
                        | zero => exact absurd HA.out (by simp [cadastreref02_Add.j3])
                        | succ kj48 =>
                          have H := HA.out
                          clear HA
                          simp only [cadastreref02_Add.j3] at H
                          by_cases c52 : x105_48 = true
                          · subst c52
                            have H1 : (some 9223372036854775808) = some r := by rw [if_pos rfl] at H; exact H
                            clear H
                            have H := H1
                            clear H1
                            obtain rfl := Option.some.inj H
                            go_wp2
                            go_ret
                            exact ⟨by first | rfl | (simp [errW_none, errW_some] <;> rfl) | (simp [*, errW_none, errW_some] <;> rfl), by repeat (first | (with_reducible first | exact HB.out | apply below_alloc | apply pw_below_drewN | apply below_drew1) | exact HB.out)⟩
                          · replace c52 := Bool.eq_false_iff.mpr c52
                            subst c52
                            have H1 : (some 0) = some r := by rw [if_neg (show ¬ (false = true) by decide)] at H; exact H
                            clear H
                            have H := H1
                            clear H1
                            obtain rfl := Option.some.inj H
                            go_wp2
                            go_ret
                            exact ⟨by first | rfl | (simp [errW_none, errW_some] <;> rfl) | (simp [*, errW_none, errW_some] <;> rfl), by repeat (first | (with_reducible first | exact HB.out | apply below_alloc | apply pw_below_drewN | apply below_drew1) | exact HB.out)⟩
                    · rw [if_neg c48] at H
                      have c48b0 : ((x14_25.length : Int) == 0) = false := beq_eq_false_iff_ne.mpr c48
                      have c48b1 : ((x14_25.length : Int) != 0) = true := bne_iff_ne.mpr c48
                      have c48b2 : ¬ (x14_25 = []) := fun h_ => c48 (by rw [h_]; rfl)
                      replace H := Option.bind_eq_some_iff.mp H
                      obtain ⟨t293, A530, H⟩ := H
                      replace H : (if x16_25 = true then (some (IntKind.u64.wrap (t293 + 9223372036854775808))) else (some t293)) = some r := H
                      have A53 := Aside0.mk A530
                      clear A530
                      by_cases c54 : x16_25 = true
                      · subst c54
                        have H1 : (some (IntKind.u64.wrap (t293 + 9223372036854775808))) = some r := by rw [if_pos rfl] at H; exact H
                        clear H
                        have H := H1
                        clear H1
                        obtain rfl := Option.some.inj H
                        obtain ⟨Ao55, co55, eo55⟩ := Kd.V_slice HO_14.out
                        subst eo55
                        go_wp2_with (first | ((with_reducible refine gate_callee (f := 53) rfl ?_); refine goesL_ (some 108) rfl rfl Try.func53 (by kernel_rfl) rfl #[.slice Ao55 x14_25.length co55, .int .i64 x13_19, .int .u64 1] rfl (by (try simp only [List.map_toArray, List.map_cons, List.map_nil]); first | done | rfl | (simp only [List.length_drop, List.length_take]; rfl)) ?_; (with_reducible refine (cadastreref02_scaled.calls kj25 _ _ x14_25 x13_19 1 t293 _ ?side1 ?side2 A53.out).mono ?_); (case side1 => repeat (first | exact (Kd.V_reads' HO_14.out).2.2 | (with_reducible refine Kd.C_alloc ?_ _) | (with_reducible refine Kd.C_drewN ?_ _) | (with_reducible refine Kd.C_drew ?_))); (case side2 => exact (Kd.V_reads' HO_14.out).2.1); rintro e w56 ⟨rfl, hb⟩; refine ⟨_, rfl, ?_⟩; have n0_ := Aside0.mk (Kd.V_below (by (with_reducible repeat (first | apply Kd.V_alloc | apply Kd.V_drewN | apply Kd.V_drew)); exact HO_14.out) hb); have n1_ := Aside0.mk (below_step (by repeat (first | (with_reducible first | exact HB.out | apply below_alloc | apply pw_below_drewN | apply below_drew1) | exact HB.out)) hb); clear HO_14; clear HB; have HO_14 := n0_; have HB := n1_; clear n0_ n1_; (try clear hb); (try clear hb2); (try clear hk); (try clear hi)))
                        go_ret
                        exact ⟨by first | rfl | (simp [errW_none, errW_some] <;> rfl) | (simp [*, errW_none, errW_some] <;> rfl), by repeat (first | (with_reducible first | exact HB.out | apply below_alloc | apply pw_below_drewN | apply below_drew1) | exact HB.out)⟩
                      · replace c54 := Bool.eq_false_iff.mpr c54
                        subst c54
                        have H1 : (some t293) = some r := by rw [if_neg (show ¬ (false = true) by decide)] at H; exact H
                        clear H
                        have H := H1
                        clear H1
                        obtain rfl := Option.some.inj H
                        obtain ⟨Ao57, co57, eo57⟩ := Kd.V_slice HO_14.out
                        subst eo57
                        go_wp2_with (first | ((with_reducible refine gate_callee (f := 53) rfl ?_); refine goesL_ (some 108) rfl rfl Try.func53 (by kernel_rfl) rfl #[.slice Ao57 x14_25.length co57, .int .i64 x13_19, .int .u64 1] rfl (by (try simp only [List.map_toArray, List.map_cons, List.map_nil]); first | done | rfl | (simp only [List.length_drop, List.length_take]; rfl)) ?_; (with_reducible refine (cadastreref02_scaled.calls kj25 _ _ x14_25 x13_19 1 t293 _ ?side1 ?side2 A53.out).mono ?_); (case side1 => repeat (first | exact (Kd.V_reads' HO_14.out).2.2 | (with_reducible refine Kd.C_alloc ?_ _) | (with_reducible refine Kd.C_drewN ?_ _) | (with_reducible refine Kd.C_drew ?_))); (case side2 => exact (Kd.V_reads' HO_14.out).2.1); rintro e w58 ⟨rfl, hb⟩; refine ⟨_, rfl, ?_⟩; have n0_ := Aside0.mk (Kd.V_below (by (with_reducible repeat (first | apply Kd.V_alloc | apply Kd.V_drewN | apply Kd.V_drew)); exact HO_14.out) hb); have n1_ := Aside0.mk (below_step (by repeat (first | (with_reducible first | exact HB.out | apply below_alloc | apply pw_below_drewN | apply below_drew1) | exact HB.out)) hb); clear HO_14; clear HB; have HO_14 := n0_; have HB := n1_; clear n0_ n1_; (try clear hb); (try clear hb2); (try clear hk); (try clear hi)))
                        go_ret
                        exact ⟨by first | rfl | (simp [errW_none, errW_some] <;> rfl) | (simp [*, errW_none, errW_some] <;> rfl), by repeat (first | (with_reducible first | exact HB.out | apply below_alloc | apply pw_below_drewN | apply below_drew1) | exact HB.out)⟩

/-! ### cadastreref02_By: function 40 -/
def cadastreref02_By.j0 : Nat → Int → Int → Bool → Int → Int → Bool → Option (Int)
  | 0, _, _, _, _, _, _ => none
  | k + 1, x0, x1, x5, x6, x7, x26 => if x26 = true then (some x0) else ((cadastreref02_Of.f k x7).bind fun t300 => ((cadastreref02_scaled.f k t300 x6 (IntKind.u64.wrap (x1))).bind fun t303 => (if x5 = true then (some (IntKind.u64.wrap (t303 + 9223372036854775808))) else (some t303))))
def cadastreref02_By.f (k : Nat) (a0 : Int) (a1 : Int) : Option (Int) := (cadastreref02_Kind.f a0).bind fun t294 => (if t294 = 2 then ((cadastreref02_Nan.f).bind fun t295 => (some t295)) else ((cadastreref02_Parts.f a0).bind fun bt296 => (if bt296.2.2.2 = true then (cadastreref02_By.j0 k a0 a1 bt296.1 bt296.2.1 bt296.2.2.1 (bt296.2.2.1 == 0)) else (cadastreref02_By.j0 k a0 a1 bt296.1 bt296.2.1 bt296.2.2.1 true))))
theorem cadastreref02_By.mono_l : ∀ k, (∀ y0 y1 y2 y3 y4 y5, LeO (cadastreref02_By.j0 k y0 y1 y2 y3 y4 y5) (cadastreref02_By.j0 (k + 1) y0 y1 y2 y3 y4 y5))
  | 0 => fun _ _ _ _ _ _ r h => by simp [cadastreref02_By.j0] at h
  | k + 1 => by
    have ih0 := cadastreref02_By.mono_l k
    · intro y0 y1 y2 y3 y4 y5
      unfold cadastreref02_By.j0
      repeat' first
      | (with_reducible exact ih0 _ _ _ _ _ _)
      | (with_reducible exact cadastreref02_Of.mono _ _)
      | (with_reducible exact cadastreref02_scaled.mono _ _ _ _)
      | (with_reducible exact LeO.refl _)
      | (with_reducible exact LeO.none _)
      | (with_reducible refine LeO.ite ?_ ?_)
      | (with_reducible refine LeO.bind ?_ (fun _ => ?_))
      | exact ih0 _ _ _ _ _ _
      | exact cadastreref02_Of.mono _ _
      | exact cadastreref02_scaled.mono _ _ _ _
      | exact LeO.none _
      | refine LeO.ite ?_ ?_
      | refine LeO.bind ?_ (fun _ => ?_)
theorem cadastreref02_By.mono : ∀ a0 a1 k, LeO (cadastreref02_By.f k a0 a1) (cadastreref02_By.f (k + 1) a0 a1) := by
  intro a0 a1 k
  have ih0 := cadastreref02_By.mono_l k
  unfold cadastreref02_By.f
  repeat' first
      | (with_reducible exact ih0 _ _ _ _ _ _)
      | (with_reducible exact cadastreref02_Of.mono _ _)
      | (with_reducible exact cadastreref02_scaled.mono _ _ _ _)
      | (with_reducible exact LeO.refl _)
      | (with_reducible exact LeO.none _)
      | (with_reducible refine LeO.ite ?_ ?_)
      | (with_reducible refine LeO.bind ?_ (fun _ => ?_))
      | exact ih0 _ _ _ _ _ _
      | exact cadastreref02_Of.mono _ _
      | exact cadastreref02_scaled.mono _ _ _ _
      | exact LeO.none _
      | refine LeO.ite ?_ ?_
      | refine LeO.bind ?_ (fun _ => ?_)
set_option maxHeartbeats 8000000 in
set_option maxRecDepth 100000 in
theorem cadastreref02_By.calls (k : Nat) (a0 : Int) (a1 : Int) (r : Int) (w : World) (h : cadastreref02_By.f k a0 a1 = some r) :
    Calls Try.prog 40 #[.int .u64 a0, .int .i64 a1] w fun e w' => e = .returned (.int .u64 r) ∧ Below w.heap.size w w' := by
  have HB := Aside0.mk (Below.refl w.heap.size w)
  have H : ((cadastreref02_Kind.f a0).bind fun t294 => (if t294 = 2 then ((cadastreref02_Nan.f).bind fun t295 => (some t295)) else ((cadastreref02_Parts.f a0).bind fun bt296 => (if bt296.2.2.2 = true then (cadastreref02_By.j0 k a0 a1 bt296.1 bt296.2.1 bt296.2.2.1 (bt296.2.2.1 == 0)) else (cadastreref02_By.j0 k a0 a1 bt296.1 bt296.2.1 bt296.2.2.1 true))))) = some r := h
  clear h
  replace H := Option.bind_eq_some_iff.mp H
  obtain ⟨t294, A30, H⟩ := H
  replace H : (if t294 = 2 then ((cadastreref02_Nan.f).bind fun t295 => (some t295)) else ((cadastreref02_Parts.f a0).bind fun bt296 => (if bt296.2.2.2 = true then (cadastreref02_By.j0 k a0 a1 bt296.1 bt296.2.1 bt296.2.2.1 (bt296.2.2.1 == 0)) else (cadastreref02_By.j0 k a0 a1 bt296.1 bt296.2.1 bt296.2.2.1 true)))) = some r := H
  have A3 := Aside0.mk A30
  clear A30
  by_cases c4 : t294 = 2
  · rw [if_pos c4] at H
    have c4b0 : (t294 == 2) = true := beq_iff_eq.mpr c4
    have c4b1 : (t294 != 2) = false := bne_eq_false_iff_eq.mpr c4
    clear c4
    replace H := Option.bind_eq_some_iff.mp H
    obtain ⟨t295, A50, H⟩ := H
    replace H : (some t295) = some r := H
    have A5 := Aside0.mk A50
    clear A50
    obtain rfl := Option.some.inj H
    go_enter Try.func40, Try.ntmps40
    go_wp2_with (first | ((with_reducible refine gate_callee (f := 18) rfl ?_); refine goesL_ (some 11) rfl rfl Try.func18 (by kernel_rfl) rfl #[.int .u64 a0] rfl (by (try simp only [List.map_toArray, List.map_cons, List.map_nil]); first | done | rfl | (simp only [List.length_drop, List.length_take]; rfl)) ?_; (with_reducible refine (cadastreref02_Kind.calls a0 t294 _ A3.out).mono ?_); rintro e w' ⟨rfl, ⟨nd, rfl⟩⟩; refine ⟨_, rfl, ?_⟩) | ((with_reducible refine gate_callee (f := 19) rfl ?_); refine goesL_ (some 13) rfl rfl Try.func19 (by kernel_rfl) rfl #[] rfl (by (try simp only [List.map_toArray, List.map_cons, List.map_nil]); first | done | rfl | (simp only [List.length_drop, List.length_take]; rfl)) ?_; (with_reducible refine (cadastreref02_Nan.calls  t295 _ A5.out).mono ?_); rintro e w' ⟨rfl, ⟨nd, rfl⟩⟩; refine ⟨_, rfl, ?_⟩))
    go_ret
    exact ⟨by first | rfl | (simp [errW_none, errW_some] <;> rfl) | (simp [*, errW_none, errW_some] <;> rfl), by repeat (first | (with_reducible first | exact HB.out | apply below_alloc | apply pw_below_drewN | apply below_drew1) | exact HB.out)⟩
  · rw [if_neg c4] at H
    have c4b0 : (t294 == 2) = false := beq_eq_false_iff_ne.mpr c4
    have c4b1 : (t294 != 2) = true := bne_iff_ne.mpr c4
    replace H := Option.bind_eq_some_iff.mp H
    obtain ⟨⟨t296, t297, t298, t299⟩, A60, H⟩ := H
    replace H : (if t299 = true then (cadastreref02_By.j0 k a0 a1 t296 t297 t298 (t298 == 0)) else (cadastreref02_By.j0 k a0 a1 t296 t297 t298 true)) = some r := H
    have A6 := Aside0.mk A60
    clear A60
    have HC7 := Aside0.mk H
    clear H
    go_enter Try.func40, Try.ntmps40
    go_upto_region 4 with (first | ((with_reducible refine gate_callee (f := 18) rfl ?_); refine goesL_ (some 11) rfl rfl Try.func18 (by kernel_rfl) rfl #[.int .u64 a0] rfl (by (try simp only [List.map_toArray, List.map_cons, List.map_nil]); first | done | rfl | (simp only [List.length_drop, List.length_take]; rfl)) ?_; (with_reducible refine (cadastreref02_Kind.calls a0 t294 _ A3.out).mono ?_); rintro e w' ⟨rfl, ⟨nd, rfl⟩⟩; refine ⟨_, rfl, ?_⟩) | ((with_reducible refine gate_callee (f := 27) rfl ?_); refine goesL_ (some 16) rfl rfl Try.func27 (by kernel_rfl) rfl #[.int .u64 a0] rfl (by (try simp only [List.map_toArray, List.map_cons, List.map_nil]); first | done | rfl | (simp only [List.length_drop, List.length_take]; rfl)) ?_; (with_reducible refine (cadastreref02_Parts.calls a0 t296 t297 t298 t299 _ A6.out).mono ?_); rintro e w' ⟨rfl, ⟨nd, rfl⟩⟩; refine ⟨_, rfl, ?_⟩))
    (try simp only [Act.put, List.setIfInBounds_toArray, List.set_cons_zero, List.set_cons_succ])
    go_cut [26] (fun v26 wc => ∃ (kq : Nat) (x26_6 : Bool), v26 = .bool x26_6 ∧ Aside0 (cadastreref02_By.j0 kq a0 a1 t296 t297 t298 x26_6 = some r) ∧ Aside0 (kq ≤ k) ∧ Aside0 (Below w.heap.size w wc))
    case first =>
      have H := HC7.out
      clear HC7
      by_cases c8 : t299 = true
      · subst c8
        have H1 : (cadastreref02_By.j0 k a0 a1 t296 t297 t298 (t298 == 0)) = some r := by rw [if_pos rfl] at H; exact H
        clear H
        have H := H1
        clear H1
        have H' := Aside0.mk H
        clear H
        go_wp2
        go_meet
        case rel => exact ⟨_, ((t298 == 0)), (by first | rfl | (simp; done) | (simp [*]; done)), H', ⟨by first | omega | exact Nat.le_refl _⟩, ⟨by repeat (first | (with_reducible first | exact HB.out | apply below_alloc | apply pw_below_drewN | apply below_drew1) | exact HB.out)⟩⟩
      · replace c8 := Bool.eq_false_iff.mpr c8
        subst c8
        have H1 : (cadastreref02_By.j0 k a0 a1 t296 t297 t298 true) = some r := by rw [if_neg (show ¬ (false = true) by decide)] at H; exact H
        clear H
        have H := H1
        clear H1
        have H' := Aside0.mk H
        clear H
        go_wp2
        go_meet
        case rel => exact ⟨_, (true), (by first | rfl | (simp; done) | (simp [*]; done)), H', ⟨by first | omega | exact Nat.le_refl _⟩, ⟨by repeat (first | (with_reducible first | exact HB.out | apply below_alloc | apply pw_below_drewN | apply below_drew1) | exact HB.out)⟩⟩
    case rest =>
      clear HC7
      try clear c1
      try clear c2
      try clear p2
      try clear c4
      try clear c4b0
      try clear c4b1
      try clear c8
      obtain ⟨kq, x26_6, rfl, HA, HJ6, HB⟩ := hcut
      cases kq with
      | zero => exact absurd HA.out (by simp [cadastreref02_By.j0])
      | succ kj6 =>
        have H := HA.out
        clear HA
        simp only [cadastreref02_By.j0] at H
        by_cases c9 : x26_6 = true
        · subst c9
          have H1 : (some a0) = some r := by rw [if_pos rfl] at H; exact H
          clear H
          have H := H1
          clear H1
          obtain rfl := Option.some.inj H
          go_wp2
          go_ret
          exact ⟨by first | rfl | (simp [errW_none, errW_some] <;> rfl) | (simp [*, errW_none, errW_some] <;> rfl), by repeat (first | (with_reducible first | exact HB.out | apply below_alloc | apply pw_below_drewN | apply below_drew1) | exact HB.out)⟩
        · replace c9 := Bool.eq_false_iff.mpr c9
          subst c9
          have H1 : ((cadastreref02_Of.f kj6 t298).bind fun t300 => ((cadastreref02_scaled.f kj6 t300 t297 (IntKind.u64.wrap (a1))).bind fun t303 => (if t296 = true then (some (IntKind.u64.wrap (t303 + 9223372036854775808))) else (some t303)))) = some r := by rw [if_neg (show ¬ (false = true) by decide)] at H; exact H
          clear H
          have H := H1
          clear H1
          replace H := Option.bind_eq_some_iff.mp H
          obtain ⟨t300, A100, H⟩ := H
          replace H : ((cadastreref02_scaled.f kj6 t300 t297 (IntKind.u64.wrap (a1))).bind fun t303 => (if t296 = true then (some (IntKind.u64.wrap (t303 + 9223372036854775808))) else (some t303))) = some r := H
          have A10 := Aside0.mk A100
          clear A100
          replace H := Option.bind_eq_some_iff.mp H
          obtain ⟨t303, A110, H⟩ := H
          replace H : (if t296 = true then (some (IntKind.u64.wrap (t303 + 9223372036854775808))) else (some t303)) = some r := H
          have A11 := Aside0.mk A110
          clear A110
          by_cases c12 : t296 = true
          · subst c12
            have H1 : (some (IntKind.u64.wrap (t303 + 9223372036854775808))) = some r := by rw [if_pos rfl] at H; exact H
            clear H
            have H := H1
            clear H1
            obtain rfl := Option.some.inj H
            go_wp2_with (first | ((with_reducible refine gate_callee (f := 29) rfl ?_); refine goesL_ (some 29) rfl rfl Try.func29 (by kernel_rfl) rfl #[.int .u64 t298] rfl (by (try simp only [List.map_toArray, List.map_cons, List.map_nil]); first | done | rfl | (simp only [List.length_drop, List.length_take]; rfl)) ?_; (with_reducible refine (cadastreref02_Of.calls kj6 t298 t300 _ A10.out).mono ?_); rintro e w13 ⟨v301, rfl, ho0, hb⟩; refine ⟨_, rfl, ?_⟩; have n0_ := Aside0.mk (Kd.R_lower ho0 (below_size (by repeat (first | (with_reducible first | exact HB.out | apply below_alloc | apply pw_below_drewN | apply below_drew1) | exact HB.out)))); have n1_ := Aside0.mk (below_step (by repeat (first | (with_reducible first | exact HB.out | apply below_alloc | apply pw_below_drewN | apply below_drew1) | exact HB.out)) hb); clear HB; have HO302 := n0_; have HB := n1_; clear n0_ n1_; (try clear hb); (try clear hb2); (try clear hk); (try clear hi); (try clear ho0); obtain ⟨Ao14, co14, eo14⟩ := Kd.R_slice HO302.out; subst eo14) | ((with_reducible refine gate_callee (f := 53) rfl ?_); refine goesL_ (some 33) rfl rfl Try.func53 (by kernel_rfl) rfl #[.slice Ao14 t300.length co14, .int .i64 t297, .int .u64 (IntKind.u64.wrap (a1))] rfl (by (try simp only [List.map_toArray, List.map_cons, List.map_nil]); first | done | rfl | (simp only [List.length_drop, List.length_take]; rfl)) ?_; (with_reducible refine (cadastreref02_scaled.calls kj6 _ _ t300 t297 (IntKind.u64.wrap (a1)) t303 _ ?side1 ?side2 A11.out).mono ?_); (case side1 => repeat (first | exact (Kd.R_reads' HO302.out).2.2 | (with_reducible refine Kd.C_alloc ?_ _) | (with_reducible refine Kd.C_drewN ?_ _) | (with_reducible refine Kd.C_drew ?_))); (case side2 => exact (Kd.R_reads' HO302.out).2.1); rintro e w15 ⟨rfl, hb⟩; refine ⟨_, rfl, ?_⟩; have n0_ := Aside0.mk (Kd.R_below (by (with_reducible repeat (first | apply Kd.R_alloc | apply Kd.R_drewN | apply Kd.R_drew)); exact HO302.out) hb); have n1_ := Aside0.mk (below_step (by repeat (first | (with_reducible first | exact HB.out | apply below_alloc | apply pw_below_drewN | apply below_drew1) | exact HB.out)) hb); clear HO302; clear HB; have HO302 := n0_; have HB := n1_; clear n0_ n1_; (try clear hb); (try clear hb2); (try clear hk); (try clear hi)))
            go_ret
            exact ⟨by first | rfl | (simp [errW_none, errW_some] <;> rfl) | (simp [*, errW_none, errW_some] <;> rfl), by repeat (first | (with_reducible first | exact HB.out | apply below_alloc | apply pw_below_drewN | apply below_drew1) | exact HB.out)⟩
          · replace c12 := Bool.eq_false_iff.mpr c12
            subst c12
            have H1 : (some t303) = some r := by rw [if_neg (show ¬ (false = true) by decide)] at H; exact H
            clear H
            have H := H1
            clear H1
            obtain rfl := Option.some.inj H
            go_wp2_with (first | ((with_reducible refine gate_callee (f := 29) rfl ?_); refine goesL_ (some 29) rfl rfl Try.func29 (by kernel_rfl) rfl #[.int .u64 t298] rfl (by (try simp only [List.map_toArray, List.map_cons, List.map_nil]); first | done | rfl | (simp only [List.length_drop, List.length_take]; rfl)) ?_; (with_reducible refine (cadastreref02_Of.calls kj6 t298 t300 _ A10.out).mono ?_); rintro e w16 ⟨v301, rfl, ho0, hb⟩; refine ⟨_, rfl, ?_⟩; have n0_ := Aside0.mk (Kd.R_lower ho0 (below_size (by repeat (first | (with_reducible first | exact HB.out | apply below_alloc | apply pw_below_drewN | apply below_drew1) | exact HB.out)))); have n1_ := Aside0.mk (below_step (by repeat (first | (with_reducible first | exact HB.out | apply below_alloc | apply pw_below_drewN | apply below_drew1) | exact HB.out)) hb); clear HB; have HO302 := n0_; have HB := n1_; clear n0_ n1_; (try clear hb); (try clear hb2); (try clear hk); (try clear hi); (try clear ho0); obtain ⟨Ao17, co17, eo17⟩ := Kd.R_slice HO302.out; subst eo17) | ((with_reducible refine gate_callee (f := 53) rfl ?_); refine goesL_ (some 33) rfl rfl Try.func53 (by kernel_rfl) rfl #[.slice Ao17 t300.length co17, .int .i64 t297, .int .u64 (IntKind.u64.wrap (a1))] rfl (by (try simp only [List.map_toArray, List.map_cons, List.map_nil]); first | done | rfl | (simp only [List.length_drop, List.length_take]; rfl)) ?_; (with_reducible refine (cadastreref02_scaled.calls kj6 _ _ t300 t297 (IntKind.u64.wrap (a1)) t303 _ ?side1 ?side2 A11.out).mono ?_); (case side1 => repeat (first | exact (Kd.R_reads' HO302.out).2.2 | (with_reducible refine Kd.C_alloc ?_ _) | (with_reducible refine Kd.C_drewN ?_ _) | (with_reducible refine Kd.C_drew ?_))); (case side2 => exact (Kd.R_reads' HO302.out).2.1); rintro e w18 ⟨rfl, hb⟩; refine ⟨_, rfl, ?_⟩; have n0_ := Aside0.mk (Kd.R_below (by (with_reducible repeat (first | apply Kd.R_alloc | apply Kd.R_drewN | apply Kd.R_drew)); exact HO302.out) hb); have n1_ := Aside0.mk (below_step (by repeat (first | (with_reducible first | exact HB.out | apply below_alloc | apply pw_below_drewN | apply below_drew1) | exact HB.out)) hb); clear HO302; clear HB; have HO302 := n0_; have HB := n1_; clear n0_ n1_; (try clear hb); (try clear hb2); (try clear hk); (try clear hi)))
            go_ret
            exact ⟨by first | rfl | (simp [errW_none, errW_some] <;> rfl) | (simp [*, errW_none, errW_some] <;> rfl), by repeat (first | (with_reducible first | exact HB.out | apply below_alloc | apply pw_below_drewN | apply below_drew1) | exact HB.out)⟩

end Go.Proofs.Ytkhbkhbkcpmiiaa.PReal
