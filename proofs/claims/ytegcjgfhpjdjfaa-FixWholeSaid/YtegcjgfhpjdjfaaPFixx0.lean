/- Printed by a program of this session: for each Go function named below its pure function, and that where this tells an answer the call comes to that answer. No condition. -/
import Derived.Test.YtegcjgfhpjdjfaaProg
import Derived.Below
import Derived.Deep.Draws
import Derived.Deep.AppendLies
import Derived.Maps.AppendAt
import Derived.OwnWalk
import Derived.Laws.BytesArg
import Derived.Laws.MakeOwn
import Derived.Laws.OwnMore
import Derived.Deep.OwnRows
import Derived.Tactics
import Derived.Lib.ConvBytes
import Derived.Laws.Slices
import Derived.WalkKit
import Derived.KernelRfl
import Derived.RowKit3
import Derived.Deep.LoopGhost
import Derived.Deep.QuietTactic
import Derived.BigQuiet
import Derived.WideLaws
import Derived.Deep.DeepCutAuto
import Derived.Deep.CutBlock
import Derived.Deep.RegionHeld3
import Derived.Laws.Rows
import Derived.Lib.AppendStr
import Derived.ArgAppend
import Derived.Laws.IdiomCopy
import Derived.OrdersHeld
import Derived.Laws.BitsLemmas
import Derived.RowKit
import Derived.Test.YtegcjgfhpjdjfaaExtra
import Derived.Test.YtegcjgfhpjdjfaaWWords
import Derived.Test.YtegcjgfhpjdjfaaWLast
import Derived.Test.YtegcjgfhpjdjfaaWTab
import Derived.Test.YtegcjgfhpjdjfaaWFour
import Derived.Test.YtegcjgfhpjdjfaaWQPut
import Derived.Test.YtegcjgfhpjdjfaaWApart
import Derived.Test.YtegcjgfhpjdjfaaWArr
import Derived.Test.YtegcjgfhpjdjfaaWZeros
import Derived.Test.YtegcjgfhpjdjfaaWFoot
import Derived.Test.YtegcjgfhpjdjfaaWKept
import Derived.Test.YtegcjgfhpjdjfaaWShare
import Derived.Test.YtegcjgfhpjdjfaaWN
import Derived.Test.YtegcjgfhpjdjfaaWFootNe
import Derived.Test.YtegcjgfhpjdjfaaWAt
import Derived.Test.YtegcjgfhpjdjfaaWEqStruct
import Derived.Test.YtegcjgfhpjdjfaaWRepsOne
import Derived.Test.YtegcjgfhpjdjfaaWInv
import Derived.Test.YtegcjgfhpjdjfaaWInvWords
import Derived.Test.YtegcjgfhpjdjfaaWGuard
import Derived.Test.YtegcjgfhpjdjfaaWNEv
import Derived.Test.YtegcjgfhpjdjfaaWMore
namespace Go.Proofs.Ytegcjgfhpjdjfaa.PFix
open Go.RowKit Go.Proofs.YtegcjgfhpjdjfaaW.PrintWords Go.Proofs.YtegcjgfhpjdjfaaW.PrintLast Go.Proofs.YtegcjgfhpjdjfaaW.PrintMore
attribute [local go_sem] max2_int min2_int max_two min_two max_three min_three max_four min_four   -- for this text's walks alone
open Go.Proofs.Ytegcjgfhpjdjfaa.Extra
attribute [local go_sem] run_add64_z run_sub64_z
set_option linter.unusedVariables false
set_option linter.unusedSimpArgs false



def errW : Option Int → Value
  | none => .nilIface
  | some c => .iface 0 (.int .i64 c)
theorem errW_none : errW none = .nilIface := rfl
theorem errW_some (c : Int) : errW (some c) = .iface 0 (.int .i64 c) := rfl

theorem info2 : (Try.prog.info? 2).map (fun i => (i.zero, i.size, i.bytes)) = some (some (.int .i64 0), 1, 8) := by kernel_rfl
-- the values' own types

end Go.Proofs.Ytegcjgfhpjdjfaa.PFix
