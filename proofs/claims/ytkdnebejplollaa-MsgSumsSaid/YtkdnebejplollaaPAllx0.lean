-- Written by a program of this session out of the seat's translation; Lean checks it.
import Derived.Test.YtkdnebejplollaaProg
import Derived.Below
import Derived.Deep.Draws
import Derived.Deep.AppendLies
import Derived.Maps.AppendAt
import Derived.OwnWalk
import Derived.Laws.BytesArg
import Derived.Laws.MakeOwn
import Derived.Laws.OwnMore
import Derived.Deep.OwnRows
import Derived.Tactics
import Derived.Lib.ConvBytes
import Derived.Laws.Slices
import Derived.WalkKit
import Derived.KernelRfl
import Derived.RowKit3
import Derived.Deep.LoopGhost
import Derived.Deep.QuietTactic
import Derived.BigQuiet
import Derived.WideLaws
import Derived.Deep.DeepCutAuto
import Derived.Deep.CutBlock
import Derived.Deep.RegionHeld3
import Derived.Laws.Rows
import Derived.Lib.AppendStr
import Derived.ArgAppend
import Derived.Laws.IdiomCopy
import Derived.OrdersHeld
import Derived.Laws.BitsLemmas
import Derived.RowKit
import Derived.Test.YtkdnebejplollaaWWords
import Derived.Test.YtkdnebejplollaaWLast
import Derived.Test.YtkdnebejplollaaWTab
import Derived.Test.YtkdnebejplollaaWFour
import Derived.Test.YtkdnebejplollaaWQPut
import Derived.Test.YtkdnebejplollaaWApart
import Derived.Test.YtkdnebejplollaaWArr
import Derived.Test.YtkdnebejplollaaWZeros
import Derived.Test.YtkdnebejplollaaWFoot
import Derived.Test.YtkdnebejplollaaWKept
import Derived.Test.YtkdnebejplollaaWShare
import Derived.Test.YtkdnebejplollaaWN
import Derived.Test.YtkdnebejplollaaWFootNe
import Derived.Test.YtkdnebejplollaaWAt
import Derived.Test.YtkdnebejplollaaWEqStruct
import Derived.Test.YtkdnebejplollaaWRepsOne
import Derived.Test.YtkdnebejplollaaWInv
import Derived.Test.YtkdnebejplollaaWInvWords
import Derived.Test.YtkdnebejplollaaWGuard
import Derived.Test.YtkdnebejplollaaWNEv
import Derived.Test.YtkdnebejplollaaWMore
namespace Go.Proofs.Ytkdnebejplollaa.PAll
open Go.RowKit Go.Proofs.YtkdnebejplollaaW.PrintWords Go.Proofs.YtkdnebejplollaaW.PrintLast Go.Proofs.YtkdnebejplollaaW.PrintMore
attribute [local go_sem] max2_int min2_int max_two min_two max_three min_three max_four min_four   -- for this text's walks alone
set_option linter.unusedVariables false
set_option linter.unusedSimpArgs false



def errW : Option Int → Value
  | none => .nilIface
  | some c => .iface 0 (.int .i64 c)
theorem errW_none : errW none = .nilIface := rfl
theorem errW_some (c : Int) : errW (some c) = .iface 0 (.int .i64 c) := rfl

theorem info3 : (Try.prog.info? 3).map (fun i => (i.zero, i.size, i.bytes)) = some (some (.int .i64 0), 1, 8) := by kernel_rfl
theorem info5 : (Try.prog.info? 5).map (fun i => (i.zero, i.size, i.bytes)) = some (some (.int .u8 0), 1, 1) := by kernel_rfl
-- the values' own types

end Go.Proofs.Ytkdnebejplollaa.PAll
