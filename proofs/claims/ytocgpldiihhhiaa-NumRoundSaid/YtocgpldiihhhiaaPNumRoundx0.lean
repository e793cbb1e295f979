-- laid by stubprint.py, a program of this claim's session, over the kit's print: the functions that the print does not take are proved by hand
import Derived.Test.YtocgpldiihhhiaaProg
import Derived.Below
import Derived.Deep.Draws
import Derived.Deep.AppendLies
import Derived.Maps.AppendAt
import Derived.OwnWalk
import Derived.Laws.BytesArg
import Derived.Laws.MakeOwn
import Derived.Laws.OwnMore
import Derived.Deep.OwnRows
import Derived.Tactics
import Derived.Lib.ConvBytes
import Derived.Laws.Slices
import Derived.WalkKit
import Derived.KernelRfl
import Derived.RowKit3
import Derived.Deep.LoopGhost
import Derived.Deep.QuietTactic
import Derived.BigQuiet
import Derived.WideLaws
import Derived.Deep.DeepCutAuto
import Derived.Deep.CutBlock
import Derived.Deep.RegionHeld3
import Derived.Laws.Rows
import Derived.Lib.AppendStr
import Derived.ArgAppend
import Derived.Laws.IdiomCopy
import Derived.OrdersHeld
import Derived.Laws.BitsLemmas
import Derived.RowKit
import Derived.Test.YtocgpldiihhhiaaHand2
import Derived.Test.YtocgpldiihhhiaaWWords
import Derived.Test.YtocgpldiihhhiaaWLast
import Derived.Test.YtocgpldiihhhiaaWTab
import Derived.Test.YtocgpldiihhhiaaWFour
import Derived.Test.YtocgpldiihhhiaaWQPut
import Derived.Test.YtocgpldiihhhiaaWApart
import Derived.Test.YtocgpldiihhhiaaWArr
import Derived.Test.YtocgpldiihhhiaaWZeros
import Derived.Test.YtocgpldiihhhiaaWFoot
import Derived.Test.YtocgpldiihhhiaaWKept
import Derived.Test.YtocgpldiihhhiaaWShare
import Derived.Test.YtocgpldiihhhiaaWN
import Derived.Test.YtocgpldiihhhiaaWFootNe
import Derived.Test.YtocgpldiihhhiaaWAt
import Derived.Test.YtocgpldiihhhiaaWEqStruct
import Derived.Test.YtocgpldiihhhiaaWRepsOne
import Derived.Test.YtocgpldiihhhiaaWInv
import Derived.Test.YtocgpldiihhhiaaWInvWords
import Derived.Test.YtocgpldiihhhiaaWGuard
import Derived.Test.YtocgpldiihhhiaaWNEv
import Derived.Test.YtocgpldiihhhiaaWMore
namespace Go.Proofs.Ytocgpldiihhhiaa.PNumRound
open Go.RowKit Go.Proofs.YtocgpldiihhhiaaW.PrintWords Go.Proofs.YtocgpldiihhhiaaW.PrintLast Go.Proofs.YtocgpldiihhhiaaW.PrintMore
attribute [local go_sem] max2_int min2_int max_two min_two max_three min_three max_four min_four   -- for this text's walks alone
set_option linter.unusedVariables false
set_option linter.unusedSimpArgs false



def errW : Option Int → Value
  | none => .nilIface
  | some c => .iface 0 (.int .i64 c)
theorem errW_none : errW none = .nilIface := rfl
theorem errW_some (c : Int) : errW (some c) = .iface 0 (.int .i64 c) := rfl

theorem info3 : (Try.prog.info? 3).map (fun i => (i.zero, i.size, i.bytes)) = some (some (.int .i64 0), 1, 8) := by kernel_rfl
-- the values' own types

end Go.Proofs.Ytocgpldiihhhiaa.PNumRound
