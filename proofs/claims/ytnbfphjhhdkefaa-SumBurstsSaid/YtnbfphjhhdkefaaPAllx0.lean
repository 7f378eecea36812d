-- Written by a program of this session out of the seat's translation; Lean checks it.
import Derived.Test.YtnbfphjhhdkefaaProg
import Derived.Below
import Derived.Deep.Draws
import Derived.Deep.AppendLies
import Derived.Maps.AppendAt
import Derived.OwnWalk
import Derived.Laws.BytesArg
import Derived.Laws.MakeOwn
import Derived.Laws.OwnMore
import Derived.Deep.OwnRows
import Derived.Tactics
import Derived.Lib.ConvBytes
import Derived.Laws.Slices
import Derived.WalkKit
import Derived.KernelRfl
import Derived.RowKit3
import Derived.Deep.LoopGhost
import Derived.Deep.QuietTactic
import Derived.BigQuiet
import Derived.WideLaws
import Derived.Deep.DeepCutAuto
import Derived.Deep.CutBlock
import Derived.Deep.RegionHeld3
import Derived.Laws.Rows
import Derived.Lib.AppendStr
import Derived.ArgAppend
import Derived.Laws.IdiomCopy
import Derived.OrdersHeld
import Derived.Laws.BitsLemmas
import Derived.RowKit
import Derived.Test.YtnbfphjhhdkefaaWWords
import Derived.Test.YtnbfphjhhdkefaaWLast
import Derived.Test.YtnbfphjhhdkefaaWTab
import Derived.Test.YtnbfphjhhdkefaaWFour
import Derived.Test.YtnbfphjhhdkefaaWQPut
import Derived.Test.YtnbfphjhhdkefaaWApart
import Derived.Test.YtnbfphjhhdkefaaWArr
import Derived.Test.YtnbfphjhhdkefaaWZeros
import Derived.Test.YtnbfphjhhdkefaaWFoot
import Derived.Test.YtnbfphjhhdkefaaWKept
import Derived.Test.YtnbfphjhhdkefaaWShare
import Derived.Test.YtnbfphjhhdkefaaWN
import Derived.Test.YtnbfphjhhdkefaaWFootNe
import Derived.Test.YtnbfphjhhdkefaaWAt
import Derived.Test.YtnbfphjhhdkefaaWEqStruct
import Derived.Test.YtnbfphjhhdkefaaWRepsOne
import Derived.Test.YtnbfphjhhdkefaaWInv
import Derived.Test.YtnbfphjhhdkefaaWInvWords
import Derived.Test.YtnbfphjhhdkefaaWGuard
import Derived.Test.YtnbfphjhhdkefaaWNEv
import Derived.Test.YtnbfphjhhdkefaaWMore
namespace Go.Proofs.Ytnbfphjhhdkefaa.PAll
open Go.RowKit Go.Proofs.YtnbfphjhhdkefaaW.PrintWords Go.Proofs.YtnbfphjhhdkefaaW.PrintLast Go.Proofs.YtnbfphjhhdkefaaW.PrintMore
attribute [local go_sem] max2_int min2_int max_two min_two max_three min_three max_four min_four   -- for this text's walks alone
set_option linter.unusedVariables false
set_option linter.unusedSimpArgs false



def errW : Option Int → Value
  | none => .nilIface
  | some c => .iface 0 (.int .i64 c)
theorem errW_none : errW none = .nilIface := rfl
theorem errW_some (c : Int) : errW (some c) = .iface 0 (.int .i64 c) := rfl

theorem info5 : (Try.prog.info? 5).map (fun i => (i.zero, i.size, i.bytes)) = some (some (.int .u8 0), 1, 1) := by kernel_rfl
-- the values' own types

end Go.Proofs.Ytnbfphjhhdkefaa.PAll
