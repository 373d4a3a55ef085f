/- Laid by this session's program pp.py (over the kit's printer) out of the translation: Go functions as Lean functions, and that the calls come to them. -/
import Derived.Test.YtpadikfnnfnelaaProg
import Derived.Below
import Derived.Deep.Draws
import Derived.Deep.AppendLies
import Derived.Maps.AppendAt
import Derived.OwnWalk
import Derived.Laws.BytesArg
import Derived.Laws.MakeOwn
import Derived.Laws.OwnMore
import Derived.Deep.OwnRows
import Derived.Tactics
import Derived.Lib.ConvBytes
import Derived.Laws.Slices
import Derived.WalkKit
import Derived.KernelRfl
import Derived.RowKit3
import Derived.Deep.LoopGhost
import Derived.Deep.QuietTactic
import Derived.BigQuiet
import Derived.WideLaws
import Derived.Deep.DeepCutAuto
import Derived.Deep.CutBlock
import Derived.Deep.RegionHeld3
import Derived.Laws.Rows
import Derived.Lib.AppendStr
import Derived.ArgAppend
import Derived.Laws.IdiomCopy
import Derived.OrdersHeld
import Derived.Laws.BitsLemmas
import Derived.RowKit
import Derived.Lib.SliceRun
import Derived.Test.YtpadikfnnfnelaaWWords
import Derived.Test.YtpadikfnnfnelaaWLast
import Derived.Test.YtpadikfnnfnelaaWTab
import Derived.Test.YtpadikfnnfnelaaWFour
import Derived.Test.YtpadikfnnfnelaaWQPut
import Derived.Test.YtpadikfnnfnelaaWApart
import Derived.Test.YtpadikfnnfnelaaWArr
import Derived.Test.YtpadikfnnfnelaaWZeros
import Derived.Test.YtpadikfnnfnelaaWFoot
import Derived.Test.YtpadikfnnfnelaaWKept
import Derived.Test.YtpadikfnnfnelaaWShare
import Derived.Test.YtpadikfnnfnelaaWN
import Derived.Test.YtpadikfnnfnelaaWFootNe
import Derived.Test.YtpadikfnnfnelaaWAt
import Derived.Test.YtpadikfnnfnelaaWEqStruct
import Derived.Test.YtpadikfnnfnelaaWRepsOne
import Derived.Test.YtpadikfnnfnelaaWInv
import Derived.Test.YtpadikfnnfnelaaWInvWords
import Derived.Test.YtpadikfnnfnelaaWGuard
import Derived.Test.YtpadikfnnfnelaaWNEv
import Derived.Test.YtpadikfnnfnelaaWMore
namespace Go.Proofs.Ytpadikfnnfnelaa.PFnExactTurnNext
open Go.RowKit Go.Proofs.YtpadikfnnfnelaaW.PrintWords Go.Proofs.YtpadikfnnfnelaaW.PrintLast Go.Proofs.YtpadikfnnfnelaaW.PrintMore
attribute [local go_sem] max2_int min2_int max_two min_two max_three min_three max_four min_four   -- for this text's walks alone
set_option linter.unusedVariables false
set_option linter.unusedSimpArgs false



def errW : Option Int → Value
  | none => .nilIface
  | some c => .iface 0 (.int .i64 c)
theorem errW_none : errW none = .nilIface := rfl
theorem errW_some (c : Int) : errW (some c) = .iface 0 (.int .i64 c) := rfl

theorem info2 : (Try.prog.info? 2).map (fun i => (i.zero, i.size, i.bytes)) = some (some (.int .i64 0), 1, 8) := by kernel_rfl
-- the values' own types

end Go.Proofs.Ytpadikfnnfnelaa.PFnExactTurnNext
