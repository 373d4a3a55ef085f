/- Laid by this session's program pp.py (over the kit's printer) out of the translation: Go functions as Lean functions, and that the calls come to them. -/
import Derived.Test.YthgofcgkmdbcdaaProg
import Derived.Below
import Derived.Deep.Draws
import Derived.Deep.AppendLies
import Derived.Maps.AppendAt
import Derived.OwnWalk
import Derived.Laws.BytesArg
import Derived.Laws.MakeOwn
import Derived.Laws.OwnMore
import Derived.Deep.OwnRows
import Derived.Tactics
import Derived.Lib.ConvBytes
import Derived.Laws.Slices
import Derived.WalkKit
import Derived.KernelRfl
import Derived.RowKit3
import Derived.Deep.LoopGhost
import Derived.Deep.QuietTactic
import Derived.BigQuiet
import Derived.WideLaws
import Derived.Deep.DeepCutAuto
import Derived.Deep.CutBlock
import Derived.Deep.RegionHeld3
import Derived.Laws.Rows
import Derived.Lib.AppendStr
import Derived.ArgAppend
import Derived.Laws.IdiomCopy
import Derived.OrdersHeld
import Derived.Laws.BitsLemmas
import Derived.RowKit
import Derived.Lib.SliceRun
import Derived.Test.YthgofcgkmdbcdaaHIns
import Derived.Test.YthgofcgkmdbcdaaWWords
import Derived.Test.YthgofcgkmdbcdaaWLast
import Derived.Test.YthgofcgkmdbcdaaWTab
import Derived.Test.YthgofcgkmdbcdaaWFour
import Derived.Test.YthgofcgkmdbcdaaWQPut
import Derived.Test.YthgofcgkmdbcdaaWApart
import Derived.Test.YthgofcgkmdbcdaaWArr
import Derived.Test.YthgofcgkmdbcdaaWZeros
import Derived.Test.YthgofcgkmdbcdaaWFoot
import Derived.Test.YthgofcgkmdbcdaaWKept
import Derived.Test.YthgofcgkmdbcdaaWShare
import Derived.Test.YthgofcgkmdbcdaaWN
import Derived.Test.YthgofcgkmdbcdaaWFootNe
import Derived.Test.YthgofcgkmdbcdaaWAt
import Derived.Test.YthgofcgkmdbcdaaWEqStruct
import Derived.Test.YthgofcgkmdbcdaaWRepsOne
import Derived.Test.YthgofcgkmdbcdaaWInv
import Derived.Test.YthgofcgkmdbcdaaWInvWords
import Derived.Test.YthgofcgkmdbcdaaWGuard
import Derived.Test.YthgofcgkmdbcdaaWNEv
import Derived.Test.YthgofcgkmdbcdaaWMore
namespace Go.Proofs.Ythgofcgkmdbcdaa.PFnExactSetPut
open Go.RowKit Go.Proofs.YthgofcgkmdbcdaaW.PrintWords Go.Proofs.YthgofcgkmdbcdaaW.PrintLast Go.Proofs.YthgofcgkmdbcdaaW.PrintMore
attribute [local go_sem] max2_int min2_int max_two min_two max_three min_three max_four min_four   -- for this text's walks alone
set_option linter.unusedVariables false
set_option linter.unusedSimpArgs false



def errW : Option Int → Value
  | none => .nilIface
  | some c => .iface 0 (.int .i64 c)
theorem errW_none : errW none = .nilIface := rfl
theorem errW_some (c : Int) : errW (some c) = .iface 0 (.int .i64 c) := rfl

theorem info2 : (Try.prog.info? 2).map (fun i => (i.zero, i.size, i.bytes)) = some (some (.int .i64 0), 1, 8) := by kernel_rfl
-- the values' own types

end Go.Proofs.Ythgofcgkmdbcdaa.PFnExactSetPut
