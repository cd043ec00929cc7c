/- The walk of cadastrelaw02.RealRises: where the floats' numbers and the numbers' floats are told, and neither falls, the call comes to true. -/
import Derived.Test.YtkhbkhbkcpmiiaaPRealx8
import Derived.Test.YtkhbkhbkcpmiiaaPRealx3
import Derived.Test.YtkhbkhbkcpmiiaaGrealTo
namespace Go.Proofs.Ytkhbkhbkcpmiiaa.PReal
open Go.RowKit Go.Proofs.YtkhbkhbkcpmiiaaW.PrintWords Go.Proofs.YtkhbkhbkcpmiiaaW.PrintLast Go.Proofs.YtkhbkhbkcpmiiaaW.PrintMore
set_option linter.unusedVariables false
set_option linter.unusedSimpArgs false
set_option maxHeartbeats 8000000
set_option maxRecDepth 100000

theorem rises_chain {w b c : World} (h : Below w.heap.size w b) (k : Below b.heap.size b c) : Below w.heap.size w c := h.trans (k.mono h.size)
theorem rises_walk00 (a b c d x y f g : Int) (is may : Bool) (w : World)
    (A : Aside0 (real_From.f a = some (x, false))) (B : Aside0 (real_From.f b = some (y, is))) (C : Aside0 (real_To.f c = some (f, false))) (D : Aside0 (real_To.f d = some (g, may))) (L : Aside0 (cadastrelaw02_lives.f = some true)) :
    Calls Try.prog 8 #[.agg #[.int .u64 a, .int .u64 b], .int .i64 c, .int .i64 d] w fun e w' => e = .returned (.bool true) ∧ Below w.heap.size w w' := by
  go_enter Try.func8, Try.ntmps8
  go_wp2_with (fail)
  go_quiet (fail)
  go_wp2_with (first | (go_at_call 9; (first | (with_reducible refine (real_From.calls a x _ _ A.out).mono ?_) | (with_reducible refine (real_From.calls b y _ _ B.out).mono ?_)); rintro e w' ⟨rfl, ⟨n1, rfl⟩⟩) | (go_at_call 20; with_reducible refine (real_To.calls c f _ _ C.out).mono ?_; rintro e wc ⟨rfl, hbc⟩) | (go_at_call 20; with_reducible refine (real_To.calls d g _ _ D.out).mono ?_; rintro e wd ⟨rfl, hbd⟩) | (go_at_call 11; (with_reducible refine (cadastrelaw02_lives.calls _ _ L.out).mono ?_); rintro e w' ⟨rfl, ⟨n1, rfl⟩⟩))
  go_ret
  exact ⟨rfl, by repeat (first | exact Below.refl _ _ | exact Below.alloc (Below.refl _ _) (Nat.le_refl _) _ | refine below_drewN ?_ _ | refine rises_chain ?_ hbd | refine rises_chain ?_ hbc)⟩
theorem rises_walk01 (a b c d x y f g : Int) (is : Bool) (w : World)
    (A : Aside0 (real_From.f a = some (x, false))) (B : Aside0 (real_From.f b = some (y, is))) (C : Aside0 (real_To.f c = some (f, true))) (D : Aside0 (real_To.f d = some (g, false))) (L : Aside0 (cadastrelaw02_lives.f = some true)) :
    Calls Try.prog 8 #[.agg #[.int .u64 a, .int .u64 b], .int .i64 c, .int .i64 d] w fun e w' => e = .returned (.bool true) ∧ Below w.heap.size w w' := by
  go_enter Try.func8, Try.ntmps8
  go_wp2_with (fail)
  go_quiet (fail)
  go_wp2_with (first | (go_at_call 9; (first | (with_reducible refine (real_From.calls a x _ _ A.out).mono ?_) | (with_reducible refine (real_From.calls b y _ _ B.out).mono ?_)); rintro e w' ⟨rfl, ⟨n1, rfl⟩⟩) | (go_at_call 20; with_reducible refine (real_To.calls c f _ _ C.out).mono ?_; rintro e wc ⟨rfl, hbc⟩) | (go_at_call 20; with_reducible refine (real_To.calls d g _ _ D.out).mono ?_; rintro e wd ⟨rfl, hbd⟩) | (go_at_call 11; (with_reducible refine (cadastrelaw02_lives.calls _ _ L.out).mono ?_); rintro e w' ⟨rfl, ⟨n1, rfl⟩⟩))
  go_ret
  exact ⟨rfl, by repeat (first | exact Below.refl _ _ | exact Below.alloc (Below.refl _ _) (Nat.le_refl _) _ | refine below_drewN ?_ _ | refine rises_chain ?_ hbd | refine rises_chain ?_ hbc)⟩
theorem rises_walk02 (a b c d x y f g : Int) (is : Bool) (w : World)
    (A : Aside0 (real_From.f a = some (x, false))) (B : Aside0 (real_From.f b = some (y, is))) (C : Aside0 (real_To.f c = some (f, true))) (D : Aside0 (real_To.f d = some (g, true))) (Y : decide (d < c) = true) (L : Aside0 (cadastrelaw02_lives.f = some true)) :
    Calls Try.prog 8 #[.agg #[.int .u64 a, .int .u64 b], .int .i64 c, .int .i64 d] w fun e w' => e = .returned (.bool true) ∧ Below w.heap.size w w' := by
  go_enter Try.func8, Try.ntmps8
  go_wp2_with (fail)
  go_quiet (fail)
  go_wp2_with (first | (go_at_call 9; (first | (with_reducible refine (real_From.calls a x _ _ A.out).mono ?_) | (with_reducible refine (real_From.calls b y _ _ B.out).mono ?_)); rintro e w' ⟨rfl, ⟨n1, rfl⟩⟩) | (go_at_call 20; with_reducible refine (real_To.calls c f _ _ C.out).mono ?_; rintro e wc ⟨rfl, hbc⟩) | (go_at_call 20; with_reducible refine (real_To.calls d g _ _ D.out).mono ?_; rintro e wd ⟨rfl, hbd⟩) | (go_at_call 11; (with_reducible refine (cadastrelaw02_lives.calls _ _ L.out).mono ?_); rintro e w' ⟨rfl, ⟨n1, rfl⟩⟩))
  go_ret
  exact ⟨rfl, by repeat (first | exact Below.refl _ _ | exact Below.alloc (Below.refl _ _) (Nat.le_refl _) _ | refine below_drewN ?_ _ | refine rises_chain ?_ hbd | refine rises_chain ?_ hbc)⟩
theorem rises_walk03 (a b c d x y f g : Int) (is : Bool) (w : World)
    (A : Aside0 (real_From.f a = some (x, false))) (B : Aside0 (real_From.f b = some (y, is))) (C : Aside0 (real_To.f c = some (f, true))) (D : Aside0 (real_To.f d = some (g, true))) (Y : decide (d < c) = false) (L2 : Aside0 (cadastreref02_Less.f g f = some false)) (L : Aside0 (cadastrelaw02_lives.f = some true)) :
    Calls Try.prog 8 #[.agg #[.int .u64 a, .int .u64 b], .int .i64 c, .int .i64 d] w fun e w' => e = .returned (.bool true) ∧ Below w.heap.size w w' := by
  go_enter Try.func8, Try.ntmps8
  go_wp2_with (fail)
  go_quiet (fail)
  go_wp2_with (first | (go_at_call 9; (first | (with_reducible refine (real_From.calls a x _ _ A.out).mono ?_) | (with_reducible refine (real_From.calls b y _ _ B.out).mono ?_)); rintro e w' ⟨rfl, ⟨n1, rfl⟩⟩) | (go_at_call 23; (first | (with_reducible refine (cadastreref02_Less.calls g f _ _ L2.out).mono ?_)); rintro e w' ⟨rfl, ⟨n1, rfl⟩⟩) | (go_at_call 20; with_reducible refine (real_To.calls c f _ _ C.out).mono ?_; rintro e wc ⟨rfl, hbc⟩) | (go_at_call 20; with_reducible refine (real_To.calls d g _ _ D.out).mono ?_; rintro e wd ⟨rfl, hbd⟩) | (go_at_call 11; (with_reducible refine (cadastrelaw02_lives.calls _ _ L.out).mono ?_); rintro e w' ⟨rfl, ⟨n1, rfl⟩⟩))
  go_ret
  exact ⟨rfl, by repeat (first | exact Below.refl _ _ | exact Below.alloc (Below.refl _ _) (Nat.le_refl _) _ | refine below_drewN ?_ _ | refine rises_chain ?_ hbd | refine rises_chain ?_ hbc)⟩
theorem rises_walk10 (a b c d x y f g : Int) (may : Bool) (w : World)
    (A : Aside0 (real_From.f a = some (x, true))) (B : Aside0 (real_From.f b = some (y, false))) (C : Aside0 (real_To.f c = some (f, false))) (D : Aside0 (real_To.f d = some (g, may))) (L : Aside0 (cadastrelaw02_lives.f = some true)) :
    Calls Try.prog 8 #[.agg #[.int .u64 a, .int .u64 b], .int .i64 c, .int .i64 d] w fun e w' => e = .returned (.bool true) ∧ Below w.heap.size w w' := by
  go_enter Try.func8, Try.ntmps8
  go_wp2_with (fail)
  go_quiet (fail)
  go_wp2_with (first | (go_at_call 9; (first | (with_reducible refine (real_From.calls a x _ _ A.out).mono ?_) | (with_reducible refine (real_From.calls b y _ _ B.out).mono ?_)); rintro e w' ⟨rfl, ⟨n1, rfl⟩⟩) | (go_at_call 20; with_reducible refine (real_To.calls c f _ _ C.out).mono ?_; rintro e wc ⟨rfl, hbc⟩) | (go_at_call 20; with_reducible refine (real_To.calls d g _ _ D.out).mono ?_; rintro e wd ⟨rfl, hbd⟩) | (go_at_call 11; (with_reducible refine (cadastrelaw02_lives.calls _ _ L.out).mono ?_); rintro e w' ⟨rfl, ⟨n1, rfl⟩⟩))
  go_ret
  exact ⟨rfl, by repeat (first | exact Below.refl _ _ | exact Below.alloc (Below.refl _ _) (Nat.le_refl _) _ | refine below_drewN ?_ _ | refine rises_chain ?_ hbd | refine rises_chain ?_ hbc)⟩
theorem rises_walk11 (a b c d x y f g : Int) (w : World)
    (A : Aside0 (real_From.f a = some (x, true))) (B : Aside0 (real_From.f b = some (y, false))) (C : Aside0 (real_To.f c = some (f, true))) (D : Aside0 (real_To.f d = some (g, false))) (L : Aside0 (cadastrelaw02_lives.f = some true)) :
    Calls Try.prog 8 #[.agg #[.int .u64 a, .int .u64 b], .int .i64 c, .int .i64 d] w fun e w' => e = .returned (.bool true) ∧ Below w.heap.size w w' := by
  go_enter Try.func8, Try.ntmps8
  go_wp2_with (fail)
  go_quiet (fail)
  go_wp2_with (first | (go_at_call 9; (first | (with_reducible refine (real_From.calls a x _ _ A.out).mono ?_) | (with_reducible refine (real_From.calls b y _ _ B.out).mono ?_)); rintro e w' ⟨rfl, ⟨n1, rfl⟩⟩) | (go_at_call 20; with_reducible refine (real_To.calls c f _ _ C.out).mono ?_; rintro e wc ⟨rfl, hbc⟩) | (go_at_call 20; with_reducible refine (real_To.calls d g _ _ D.out).mono ?_; rintro e wd ⟨rfl, hbd⟩) | (go_at_call 11; (with_reducible refine (cadastrelaw02_lives.calls _ _ L.out).mono ?_); rintro e w' ⟨rfl, ⟨n1, rfl⟩⟩))
  go_ret
  exact ⟨rfl, by repeat (first | exact Below.refl _ _ | exact Below.alloc (Below.refl _ _) (Nat.le_refl _) _ | refine below_drewN ?_ _ | refine rises_chain ?_ hbd | refine rises_chain ?_ hbc)⟩
theorem rises_walk12 (a b c d x y f g : Int) (w : World)
    (A : Aside0 (real_From.f a = some (x, true))) (B : Aside0 (real_From.f b = some (y, false))) (C : Aside0 (real_To.f c = some (f, true))) (D : Aside0 (real_To.f d = some (g, true))) (Y : decide (d < c) = true) (L : Aside0 (cadastrelaw02_lives.f = some true)) :
    Calls Try.prog 8 #[.agg #[.int .u64 a, .int .u64 b], .int .i64 c, .int .i64 d] w fun e w' => e = .returned (.bool true) ∧ Below w.heap.size w w' := by
  go_enter Try.func8, Try.ntmps8
  go_wp2_with (fail)
  go_quiet (fail)
  go_wp2_with (first | (go_at_call 9; (first | (with_reducible refine (real_From.calls a x _ _ A.out).mono ?_) | (with_reducible refine (real_From.calls b y _ _ B.out).mono ?_)); rintro e w' ⟨rfl, ⟨n1, rfl⟩⟩) | (go_at_call 20; with_reducible refine (real_To.calls c f _ _ C.out).mono ?_; rintro e wc ⟨rfl, hbc⟩) | (go_at_call 20; with_reducible refine (real_To.calls d g _ _ D.out).mono ?_; rintro e wd ⟨rfl, hbd⟩) | (go_at_call 11; (with_reducible refine (cadastrelaw02_lives.calls _ _ L.out).mono ?_); rintro e w' ⟨rfl, ⟨n1, rfl⟩⟩))
  go_ret
  exact ⟨rfl, by repeat (first | exact Below.refl _ _ | exact Below.alloc (Below.refl _ _) (Nat.le_refl _) _ | refine below_drewN ?_ _ | refine rises_chain ?_ hbd | refine rises_chain ?_ hbc)⟩
theorem rises_walk13 (a b c d x y f g : Int) (w : World)
    (A : Aside0 (real_From.f a = some (x, true))) (B : Aside0 (real_From.f b = some (y, false))) (C : Aside0 (real_To.f c = some (f, true))) (D : Aside0 (real_To.f d = some (g, true))) (Y : decide (d < c) = false) (L2 : Aside0 (cadastreref02_Less.f g f = some false)) (L : Aside0 (cadastrelaw02_lives.f = some true)) :
    Calls Try.prog 8 #[.agg #[.int .u64 a, .int .u64 b], .int .i64 c, .int .i64 d] w fun e w' => e = .returned (.bool true) ∧ Below w.heap.size w w' := by
  go_enter Try.func8, Try.ntmps8
  go_wp2_with (fail)
  go_quiet (fail)
  go_wp2_with (first | (go_at_call 9; (first | (with_reducible refine (real_From.calls a x _ _ A.out).mono ?_) | (with_reducible refine (real_From.calls b y _ _ B.out).mono ?_)); rintro e w' ⟨rfl, ⟨n1, rfl⟩⟩) | (go_at_call 23; (first | (with_reducible refine (cadastreref02_Less.calls g f _ _ L2.out).mono ?_)); rintro e w' ⟨rfl, ⟨n1, rfl⟩⟩) | (go_at_call 20; with_reducible refine (real_To.calls c f _ _ C.out).mono ?_; rintro e wc ⟨rfl, hbc⟩) | (go_at_call 20; with_reducible refine (real_To.calls d g _ _ D.out).mono ?_; rintro e wd ⟨rfl, hbd⟩) | (go_at_call 11; (with_reducible refine (cadastrelaw02_lives.calls _ _ L.out).mono ?_); rintro e w' ⟨rfl, ⟨n1, rfl⟩⟩))
  go_ret
  exact ⟨rfl, by repeat (first | exact Below.refl _ _ | exact Below.alloc (Below.refl _ _) (Nat.le_refl _) _ | refine below_drewN ?_ _ | refine rises_chain ?_ hbd | refine rises_chain ?_ hbc)⟩
theorem rises_walk20 (a b c d x y f g : Int) (may : Bool) (w : World)
    (A : Aside0 (real_From.f a = some (x, true))) (B : Aside0 (real_From.f b = some (y, true))) (L1 : Aside0 (cadastreref02_Less.f a b = some false)) (C : Aside0 (real_To.f c = some (f, false))) (D : Aside0 (real_To.f d = some (g, may))) (L : Aside0 (cadastrelaw02_lives.f = some true)) :
    Calls Try.prog 8 #[.agg #[.int .u64 a, .int .u64 b], .int .i64 c, .int .i64 d] w fun e w' => e = .returned (.bool true) ∧ Below w.heap.size w w' := by
  go_enter Try.func8, Try.ntmps8
  go_wp2_with (fail)
  go_quiet (fail)
  go_wp2_with (first | (go_at_call 9; (first | (with_reducible refine (real_From.calls a x _ _ A.out).mono ?_) | (with_reducible refine (real_From.calls b y _ _ B.out).mono ?_)); rintro e w' ⟨rfl, ⟨n1, rfl⟩⟩) | (go_at_call 23; (first | (with_reducible refine (cadastreref02_Less.calls a b _ _ L1.out).mono ?_)); rintro e w' ⟨rfl, ⟨n1, rfl⟩⟩) | (go_at_call 20; with_reducible refine (real_To.calls c f _ _ C.out).mono ?_; rintro e wc ⟨rfl, hbc⟩) | (go_at_call 20; with_reducible refine (real_To.calls d g _ _ D.out).mono ?_; rintro e wd ⟨rfl, hbd⟩) | (go_at_call 11; (with_reducible refine (cadastrelaw02_lives.calls _ _ L.out).mono ?_); rintro e w' ⟨rfl, ⟨n1, rfl⟩⟩))
  go_ret
  exact ⟨rfl, by repeat (first | exact Below.refl _ _ | exact Below.alloc (Below.refl _ _) (Nat.le_refl _) _ | refine below_drewN ?_ _ | refine rises_chain ?_ hbd | refine rises_chain ?_ hbc)⟩
theorem rises_walk21 (a b c d x y f g : Int) (w : World)
    (A : Aside0 (real_From.f a = some (x, true))) (B : Aside0 (real_From.f b = some (y, true))) (L1 : Aside0 (cadastreref02_Less.f a b = some false)) (C : Aside0 (real_To.f c = some (f, true))) (D : Aside0 (real_To.f d = some (g, false))) (L : Aside0 (cadastrelaw02_lives.f = some true)) :
    Calls Try.prog 8 #[.agg #[.int .u64 a, .int .u64 b], .int .i64 c, .int .i64 d] w fun e w' => e = .returned (.bool true) ∧ Below w.heap.size w w' := by
  go_enter Try.func8, Try.ntmps8
  go_wp2_with (fail)
  go_quiet (fail)
  go_wp2_with (first | (go_at_call 9; (first | (with_reducible refine (real_From.calls a x _ _ A.out).mono ?_) | (with_reducible refine (real_From.calls b y _ _ B.out).mono ?_)); rintro e w' ⟨rfl, ⟨n1, rfl⟩⟩) | (go_at_call 23; (first | (with_reducible refine (cadastreref02_Less.calls a b _ _ L1.out).mono ?_)); rintro e w' ⟨rfl, ⟨n1, rfl⟩⟩) | (go_at_call 20; with_reducible refine (real_To.calls c f _ _ C.out).mono ?_; rintro e wc ⟨rfl, hbc⟩) | (go_at_call 20; with_reducible refine (real_To.calls d g _ _ D.out).mono ?_; rintro e wd ⟨rfl, hbd⟩) | (go_at_call 11; (with_reducible refine (cadastrelaw02_lives.calls _ _ L.out).mono ?_); rintro e w' ⟨rfl, ⟨n1, rfl⟩⟩))
  go_ret
  exact ⟨rfl, by repeat (first | exact Below.refl _ _ | exact Below.alloc (Below.refl _ _) (Nat.le_refl _) _ | refine below_drewN ?_ _ | refine rises_chain ?_ hbd | refine rises_chain ?_ hbc)⟩
theorem rises_walk22 (a b c d x y f g : Int) (w : World)
    (A : Aside0 (real_From.f a = some (x, true))) (B : Aside0 (real_From.f b = some (y, true))) (L1 : Aside0 (cadastreref02_Less.f a b = some false)) (C : Aside0 (real_To.f c = some (f, true))) (D : Aside0 (real_To.f d = some (g, true))) (Y : decide (d < c) = true) (L : Aside0 (cadastrelaw02_lives.f = some true)) :
    Calls Try.prog 8 #[.agg #[.int .u64 a, .int .u64 b], .int .i64 c, .int .i64 d] w fun e w' => e = .returned (.bool true) ∧ Below w.heap.size w w' := by
  go_enter Try.func8, Try.ntmps8
  go_wp2_with (fail)
  go_quiet (fail)
  go_wp2_with (first | (go_at_call 9; (first | (with_reducible refine (real_From.calls a x _ _ A.out).mono ?_) | (with_reducible refine (real_From.calls b y _ _ B.out).mono ?_)); rintro e w' ⟨rfl, ⟨n1, rfl⟩⟩) | (go_at_call 23; (first | (with_reducible refine (cadastreref02_Less.calls a b _ _ L1.out).mono ?_)); rintro e w' ⟨rfl, ⟨n1, rfl⟩⟩) | (go_at_call 20; with_reducible refine (real_To.calls c f _ _ C.out).mono ?_; rintro e wc ⟨rfl, hbc⟩) | (go_at_call 20; with_reducible refine (real_To.calls d g _ _ D.out).mono ?_; rintro e wd ⟨rfl, hbd⟩) | (go_at_call 11; (with_reducible refine (cadastrelaw02_lives.calls _ _ L.out).mono ?_); rintro e w' ⟨rfl, ⟨n1, rfl⟩⟩))
  go_ret
  exact ⟨rfl, by repeat (first | exact Below.refl _ _ | exact Below.alloc (Below.refl _ _) (Nat.le_refl _) _ | refine below_drewN ?_ _ | refine rises_chain ?_ hbd | refine rises_chain ?_ hbc)⟩
theorem rises_walk23 (a b c d x y f g : Int) (w : World)
    (A : Aside0 (real_From.f a = some (x, true))) (B : Aside0 (real_From.f b = some (y, true))) (L1 : Aside0 (cadastreref02_Less.f a b = some false)) (C : Aside0 (real_To.f c = some (f, true))) (D : Aside0 (real_To.f d = some (g, true))) (Y : decide (d < c) = false) (L2 : Aside0 (cadastreref02_Less.f g f = some false)) (L : Aside0 (cadastrelaw02_lives.f = some true)) :
    Calls Try.prog 8 #[.agg #[.int .u64 a, .int .u64 b], .int .i64 c, .int .i64 d] w fun e w' => e = .returned (.bool true) ∧ Below w.heap.size w w' := by
  go_enter Try.func8, Try.ntmps8
  go_wp2_with (fail)
  go_quiet (fail)
  go_wp2_with (first | (go_at_call 9; (first | (with_reducible refine (real_From.calls a x _ _ A.out).mono ?_) | (with_reducible refine (real_From.calls b y _ _ B.out).mono ?_)); rintro e w' ⟨rfl, ⟨n1, rfl⟩⟩) | (go_at_call 23; (first | (with_reducible refine (cadastreref02_Less.calls a b _ _ L1.out).mono ?_) | (with_reducible refine (cadastreref02_Less.calls g f _ _ L2.out).mono ?_)); rintro e w' ⟨rfl, ⟨n1, rfl⟩⟩) | (go_at_call 20; with_reducible refine (real_To.calls c f _ _ C.out).mono ?_; rintro e wc ⟨rfl, hbc⟩) | (go_at_call 20; with_reducible refine (real_To.calls d g _ _ D.out).mono ?_; rintro e wd ⟨rfl, hbd⟩) | (go_at_call 11; (with_reducible refine (cadastrelaw02_lives.calls _ _ L.out).mono ?_); rintro e w' ⟨rfl, ⟨n1, rfl⟩⟩))
  go_ret
  exact ⟨rfl, by repeat (first | exact Below.refl _ _ | exact Below.alloc (Below.refl _ _) (Nat.le_refl _) _ | refine below_drewN ?_ _ | refine rises_chain ?_ hbd | refine rises_chain ?_ hbc)⟩
theorem rises_walk30 (a b c d x y f g : Int) (may : Bool) (w : World)
    (A : Aside0 (real_From.f a = some (x, true))) (B : Aside0 (real_From.f b = some (y, true))) (L1 : Aside0 (cadastreref02_Less.f a b = some true)) (X : decide (y < x) = false) (C : Aside0 (real_To.f c = some (f, false))) (D : Aside0 (real_To.f d = some (g, may))) (L : Aside0 (cadastrelaw02_lives.f = some true)) :
    Calls Try.prog 8 #[.agg #[.int .u64 a, .int .u64 b], .int .i64 c, .int .i64 d] w fun e w' => e = .returned (.bool true) ∧ Below w.heap.size w w' := by
  go_enter Try.func8, Try.ntmps8
  go_wp2_with (fail)
  go_quiet (fail)
  go_wp2_with (first | (go_at_call 9; (first | (with_reducible refine (real_From.calls a x _ _ A.out).mono ?_) | (with_reducible refine (real_From.calls b y _ _ B.out).mono ?_)); rintro e w' ⟨rfl, ⟨n1, rfl⟩⟩) | (go_at_call 23; (first | (with_reducible refine (cadastreref02_Less.calls a b _ _ L1.out).mono ?_)); rintro e w' ⟨rfl, ⟨n1, rfl⟩⟩) | (go_at_call 20; with_reducible refine (real_To.calls c f _ _ C.out).mono ?_; rintro e wc ⟨rfl, hbc⟩) | (go_at_call 20; with_reducible refine (real_To.calls d g _ _ D.out).mono ?_; rintro e wd ⟨rfl, hbd⟩) | (go_at_call 11; (with_reducible refine (cadastrelaw02_lives.calls _ _ L.out).mono ?_); rintro e w' ⟨rfl, ⟨n1, rfl⟩⟩))
  go_ret
  exact ⟨rfl, by repeat (first | exact Below.refl _ _ | exact Below.alloc (Below.refl _ _) (Nat.le_refl _) _ | refine below_drewN ?_ _ | refine rises_chain ?_ hbd | refine rises_chain ?_ hbc)⟩
theorem rises_walk31 (a b c d x y f g : Int) (w : World)
    (A : Aside0 (real_From.f a = some (x, true))) (B : Aside0 (real_From.f b = some (y, true))) (L1 : Aside0 (cadastreref02_Less.f a b = some true)) (X : decide (y < x) = false) (C : Aside0 (real_To.f c = some (f, true))) (D : Aside0 (real_To.f d = some (g, false))) (L : Aside0 (cadastrelaw02_lives.f = some true)) :
    Calls Try.prog 8 #[.agg #[.int .u64 a, .int .u64 b], .int .i64 c, .int .i64 d] w fun e w' => e = .returned (.bool true) ∧ Below w.heap.size w w' := by
  go_enter Try.func8, Try.ntmps8
  go_wp2_with (fail)
  go_quiet (fail)
  go_wp2_with (first | (go_at_call 9; (first | (with_reducible refine (real_From.calls a x _ _ A.out).mono ?_) | (with_reducible refine (real_From.calls b y _ _ B.out).mono ?_)); rintro e w' ⟨rfl, ⟨n1, rfl⟩⟩) | (go_at_call 23; (first | (with_reducible refine (cadastreref02_Less.calls a b _ _ L1.out).mono ?_)); rintro e w' ⟨rfl, ⟨n1, rfl⟩⟩) | (go_at_call 20; with_reducible refine (real_To.calls c f _ _ C.out).mono ?_; rintro e wc ⟨rfl, hbc⟩) | (go_at_call 20; with_reducible refine (real_To.calls d g _ _ D.out).mono ?_; rintro e wd ⟨rfl, hbd⟩) | (go_at_call 11; (with_reducible refine (cadastrelaw02_lives.calls _ _ L.out).mono ?_); rintro e w' ⟨rfl, ⟨n1, rfl⟩⟩))
  go_ret
  exact ⟨rfl, by repeat (first | exact Below.refl _ _ | exact Below.alloc (Below.refl _ _) (Nat.le_refl _) _ | refine below_drewN ?_ _ | refine rises_chain ?_ hbd | refine rises_chain ?_ hbc)⟩
theorem rises_walk32 (a b c d x y f g : Int) (w : World)
    (A : Aside0 (real_From.f a = some (x, true))) (B : Aside0 (real_From.f b = some (y, true))) (L1 : Aside0 (cadastreref02_Less.f a b = some true)) (X : decide (y < x) = false) (C : Aside0 (real_To.f c = some (f, true))) (D : Aside0 (real_To.f d = some (g, true))) (Y : decide (d < c) = true) (L : Aside0 (cadastrelaw02_lives.f = some true)) :
    Calls Try.prog 8 #[.agg #[.int .u64 a, .int .u64 b], .int .i64 c, .int .i64 d] w fun e w' => e = .returned (.bool true) ∧ Below w.heap.size w w' := by
  go_enter Try.func8, Try.ntmps8
  go_wp2_with (fail)
  go_quiet (fail)
  go_wp2_with (first | (go_at_call 9; (first | (with_reducible refine (real_From.calls a x _ _ A.out).mono ?_) | (with_reducible refine (real_From.calls b y _ _ B.out).mono ?_)); rintro e w' ⟨rfl, ⟨n1, rfl⟩⟩) | (go_at_call 23; (first | (with_reducible refine (cadastreref02_Less.calls a b _ _ L1.out).mono ?_)); rintro e w' ⟨rfl, ⟨n1, rfl⟩⟩) | (go_at_call 20; with_reducible refine (real_To.calls c f _ _ C.out).mono ?_; rintro e wc ⟨rfl, hbc⟩) | (go_at_call 20; with_reducible refine (real_To.calls d g _ _ D.out).mono ?_; rintro e wd ⟨rfl, hbd⟩) | (go_at_call 11; (with_reducible refine (cadastrelaw02_lives.calls _ _ L.out).mono ?_); rintro e w' ⟨rfl, ⟨n1, rfl⟩⟩))
  go_ret
  exact ⟨rfl, by repeat (first | exact Below.refl _ _ | exact Below.alloc (Below.refl _ _) (Nat.le_refl _) _ | refine below_drewN ?_ _ | refine rises_chain ?_ hbd | refine rises_chain ?_ hbc)⟩
theorem rises_walk33 (a b c d x y f g : Int) (w : World)
    (A : Aside0 (real_From.f a = some (x, true))) (B : Aside0 (real_From.f b = some (y, true))) (L1 : Aside0 (cadastreref02_Less.f a b = some true)) (X : decide (y < x) = false) (C : Aside0 (real_To.f c = some (f, true))) (D : Aside0 (real_To.f d = some (g, true))) (Y : decide (d < c) = false) (L2 : Aside0 (cadastreref02_Less.f g f = some false)) (L : Aside0 (cadastrelaw02_lives.f = some true)) :
    Calls Try.prog 8 #[.agg #[.int .u64 a, .int .u64 b], .int .i64 c, .int .i64 d] w fun e w' => e = .returned (.bool true) ∧ Below w.heap.size w w' := by
  go_enter Try.func8, Try.ntmps8
  go_wp2_with (fail)
  go_quiet (fail)
  go_wp2_with (first | (go_at_call 9; (first | (with_reducible refine (real_From.calls a x _ _ A.out).mono ?_) | (with_reducible refine (real_From.calls b y _ _ B.out).mono ?_)); rintro e w' ⟨rfl, ⟨n1, rfl⟩⟩) | (go_at_call 23; (first | (with_reducible refine (cadastreref02_Less.calls a b _ _ L1.out).mono ?_) | (with_reducible refine (cadastreref02_Less.calls g f _ _ L2.out).mono ?_)); rintro e w' ⟨rfl, ⟨n1, rfl⟩⟩) | (go_at_call 20; with_reducible refine (real_To.calls c f _ _ C.out).mono ?_; rintro e wc ⟨rfl, hbc⟩) | (go_at_call 20; with_reducible refine (real_To.calls d g _ _ D.out).mono ?_; rintro e wd ⟨rfl, hbd⟩) | (go_at_call 11; (with_reducible refine (cadastrelaw02_lives.calls _ _ L.out).mono ?_); rintro e w' ⟨rfl, ⟨n1, rfl⟩⟩))
  go_ret
  exact ⟨rfl, by repeat (first | exact Below.refl _ _ | exact Below.alloc (Below.refl _ _) (Nat.le_refl _) _ | refine below_drewN ?_ _ | refine rises_chain ?_ hbd | refine rises_chain ?_ hbc)⟩
end Go.Proofs.Ytkhbkhbkcpmiiaa.PReal
