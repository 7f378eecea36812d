-- Written by a program of this session out of the seat's translation; Lean checks it.
import Derived.Test.YtfipchighkpobaaProg
import Derived.Below
import Derived.Deep.Draws
import Derived.Deep.AppendLies
import Derived.Maps.AppendAt
import Derived.OwnWalk
import Derived.Laws.BytesArg
import Derived.Laws.MakeOwn
import Derived.Laws.OwnMore
import Derived.Deep.OwnRows
import Derived.Tactics
import Derived.Lib.ConvBytes
import Derived.Laws.Slices
import Derived.WalkKit
import Derived.KernelRfl
import Derived.RowKit3
import Derived.Deep.LoopGhost
import Derived.Deep.QuietTactic
import Derived.BigQuiet
import Derived.WideLaws
import Derived.Deep.DeepCutAuto
import Derived.Deep.CutBlock
import Derived.Deep.RegionHeld3
import Derived.Laws.Rows
import Derived.Lib.AppendStr
import Derived.ArgAppend
import Derived.Laws.IdiomCopy
import Derived.OrdersHeld
import Derived.Laws.BitsLemmas
import Derived.RowKit
import Derived.Test.YtfipchighkpobaaWWords
import Derived.Test.YtfipchighkpobaaWLast
import Derived.Test.YtfipchighkpobaaWTab
import Derived.Test.YtfipchighkpobaaWFour
import Derived.Test.YtfipchighkpobaaWQPut
import Derived.Test.YtfipchighkpobaaWApart
import Derived.Test.YtfipchighkpobaaWArr
import Derived.Test.YtfipchighkpobaaWZeros
import Derived.Test.YtfipchighkpobaaWFoot
import Derived.Test.YtfipchighkpobaaWKept
import Derived.Test.YtfipchighkpobaaWShare
import Derived.Test.YtfipchighkpobaaWN
import Derived.Test.YtfipchighkpobaaWFootNe
import Derived.Test.YtfipchighkpobaaWAt
import Derived.Test.YtfipchighkpobaaWEqStruct
import Derived.Test.YtfipchighkpobaaWRepsOne
import Derived.Test.YtfipchighkpobaaWInv
import Derived.Test.YtfipchighkpobaaWInvWords
import Derived.Test.YtfipchighkpobaaWGuard
import Derived.Test.YtfipchighkpobaaWNEv
import Derived.Test.YtfipchighkpobaaWMore
namespace Go.Proofs.Ytfipchighkpobaa.PAll
open Go.RowKit Go.Proofs.YtfipchighkpobaaW.PrintWords Go.Proofs.YtfipchighkpobaaW.PrintLast Go.Proofs.YtfipchighkpobaaW.PrintMore
attribute [local go_sem] max2_int min2_int max_two min_two max_three min_three max_four min_four   -- for this text's walks alone
set_option linter.unusedVariables false
set_option linter.unusedSimpArgs false



def errW : Option Int → Value
  | none => .nilIface
  | some c => .iface 0 (.int .i64 c)
theorem errW_none : errW none = .nilIface := rfl
theorem errW_some (c : Int) : errW (some c) = .iface 0 (.int .i64 c) := rfl

theorem info9 : (Try.prog.info? 9).map (fun i => (i.zero, i.size, i.bytes)) = some (some (.string ⟨#[]⟩), 1, 16) := by kernel_rfl
-- the values' own types

end Go.Proofs.Ytfipchighkpobaa.PAll
