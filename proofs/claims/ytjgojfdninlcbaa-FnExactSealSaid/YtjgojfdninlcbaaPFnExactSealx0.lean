/- Laid by this session's program pp.py (over the kit's printer) out of the translation: Go functions as Lean functions, and that the calls come to them. -/
import Derived.Test.YtjgojfdninlcbaaProg
import Derived.Below
import Derived.Deep.Draws
import Derived.Deep.AppendLies
import Derived.Maps.AppendAt
import Derived.OwnWalk
import Derived.Laws.BytesArg
import Derived.Laws.MakeOwn
import Derived.Laws.OwnMore
import Derived.Deep.OwnRows
import Derived.Tactics
import Derived.Lib.ConvBytes
import Derived.Laws.Slices
import Derived.WalkKit
import Derived.KernelRfl
import Derived.RowKit3
import Derived.Deep.LoopGhost
import Derived.Deep.QuietTactic
import Derived.BigQuiet
import Derived.WideLaws
import Derived.Deep.DeepCutAuto
import Derived.Deep.CutBlock
import Derived.Deep.RegionHeld3
import Derived.Laws.Rows
import Derived.Lib.AppendStr
import Derived.ArgAppend
import Derived.Laws.IdiomCopy
import Derived.OrdersHeld
import Derived.Laws.BitsLemmas
import Derived.RowKit
import Derived.Test.YtjgojfdninlcbaaHBytes
import Derived.Test.YtjgojfdninlcbaaWWords
import Derived.Test.YtjgojfdninlcbaaWLast
import Derived.Test.YtjgojfdninlcbaaWTab
import Derived.Test.YtjgojfdninlcbaaWFour
import Derived.Test.YtjgojfdninlcbaaWQPut
import Derived.Test.YtjgojfdninlcbaaWApart
import Derived.Test.YtjgojfdninlcbaaWArr
import Derived.Test.YtjgojfdninlcbaaWZeros
import Derived.Test.YtjgojfdninlcbaaWFoot
import Derived.Test.YtjgojfdninlcbaaWKept
import Derived.Test.YtjgojfdninlcbaaWShare
import Derived.Test.YtjgojfdninlcbaaWN
import Derived.Test.YtjgojfdninlcbaaWFootNe
import Derived.Test.YtjgojfdninlcbaaWAt
import Derived.Test.YtjgojfdninlcbaaWEqStruct
import Derived.Test.YtjgojfdninlcbaaWRepsOne
import Derived.Test.YtjgojfdninlcbaaWInv
import Derived.Test.YtjgojfdninlcbaaWInvWords
import Derived.Test.YtjgojfdninlcbaaWGuard
import Derived.Test.YtjgojfdninlcbaaWNEv
import Derived.Test.YtjgojfdninlcbaaWMore
namespace Go.Proofs.Ytjgojfdninlcbaa.PFnExactSeal
open Go.RowKit Go.Proofs.YtjgojfdninlcbaaW.PrintWords Go.Proofs.YtjgojfdninlcbaaW.PrintLast Go.Proofs.YtjgojfdninlcbaaW.PrintMore
attribute [local go_sem] max2_int min2_int max_two min_two max_three min_three max_four min_four   -- for this text's walks alone
set_option linter.unusedVariables false
set_option linter.unusedSimpArgs false



def errW : Option Int → Value
  | none => .nilIface
  | some c => .iface 0 (.int .i64 c)
theorem errW_none : errW none = .nilIface := rfl
theorem errW_some (c : Int) : errW (some c) = .iface 0 (.int .i64 c) := rfl

theorem info5 : (Try.prog.info? 5).map (fun i => (i.zero, i.size, i.bytes)) = some (some (.int .u8 0), 1, 1) := by kernel_rfl
-- the values' own types

end Go.Proofs.Ytjgojfdninlcbaa.PFnExactSeal
