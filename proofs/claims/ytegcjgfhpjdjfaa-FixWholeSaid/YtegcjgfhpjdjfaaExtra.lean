/- Calls of math/bits.Add64 and Sub64 (the compiler's own) with a carry of 0, as equations of the run, whatever the two words. -/
import Derived.Test.YtegcjgfhpjdjfaaProg
import Derived.Laws.Externs
import Derived.KernelRfl
namespace Go.Proofs.Ytegcjgfhpjdjfaa.Extra
/-- The lower word of a sum of two words, and what is carried. -/
def add64s (x y : Int) : Int := (((x.toNat + y.toNat) % 18446744073709551616 : Nat) : Int)
def add64c (x y : Int) : Int := (((x.toNat + y.toNat) / 18446744073709551616 : Nat) : Int)
/-- The lower word of a difference of two words, and what is borrowed. -/
def sub64s (x y : Int) : Int := (((x.toNat + 18446744073709551616 - y.toNat) % 18446744073709551616 : Nat) : Int)
def sub64c (x y : Int) : Int := ((if x.toNat < y.toNat then 1 else 0 : Nat) : Int)
theorem run_add64_z (x y : Int) (w : World) :
    (callFunc 45 #[.int .u64 x, .int .u64 y, .int .u64 0]).run Try.prog w = .ok (.value (.tuple #[.int .u64 (add64s x y), .int .u64 (add64c x y)])) w := by
  rw [run_callFunc_extern Try.func45 (by kernel_rfl) (by kernel_rfl) (by kernel_rfl) (e := add64Entry) (by kernel_rfl)]
  have h : (add64Entry #[.int .u64 x, .int .u64 y, .int .u64 0]).run Try.prog w = .ok (Extern.MathBitsCarry.pair ((x.toNat + y.toNat + 0) % Extern.MathBitsCarry.m64) ((x.toNat + y.toNat + 0) / Extern.MathBitsCarry.m64)) w := rfl
  rw [h]
  rfl
def subEntry : Array Value → Sem Value := fun args => do
  let (x, y, b) ← Extern.MathBitsCarry.three "Sub64" args
  pure (Extern.MathBitsCarry.pair ((x + Extern.MathBitsCarry.m64 - y - b) % Extern.MathBitsCarry.m64) (if x < y + b then 1 else 0))
theorem run_sub64_z (x y : Int) (w : World) :
    (callFunc 48 #[.int .u64 x, .int .u64 y, .int .u64 0]).run Try.prog w = .ok (.value (.tuple #[.int .u64 (sub64s x y), .int .u64 (sub64c x y)])) w := by
  rw [run_callFunc_extern Try.func48 (by kernel_rfl) (by kernel_rfl) (by kernel_rfl) (e := subEntry) (by kernel_rfl)]
  have h : (subEntry #[.int .u64 x, .int .u64 y, .int .u64 0]).run Try.prog w = .ok (Extern.MathBitsCarry.pair ((x.toNat + Extern.MathBitsCarry.m64 - y.toNat - 0) % Extern.MathBitsCarry.m64) (if x.toNat < y.toNat + 0 then 1 else 0)) w := rfl
  rw [h]
  rfl
end Go.Proofs.Ytegcjgfhpjdjfaa.Extra
