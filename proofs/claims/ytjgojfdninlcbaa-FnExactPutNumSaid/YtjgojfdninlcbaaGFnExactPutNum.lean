/- What the law FnExactPutNum was handed, as lists and numbers; and the one plain statement that is left. -/
import Derived.Test.YtjgojfdninlcbaaPFnExactPutNumx1
import Derived.Test.YtjgojfdninlcbaaHOpen
import Derived.KernelRfl
import Derived.WideShapes
import Derived.ChangeSame
namespace Go.Proofs.Ytjgojfdninlcbaa.PFnExactPutNum
open Go.RowKit Go.ChangeShapes Go.WideShapes Go.Proofs.YtjgojfdninlcbaaW.PrintWords Go.Proofs.YtjgojfdninlcbaaH
set_option linter.unusedVariables false
set_option maxRecDepth 100000
theorem o2 : Opens Try.prog 2 (Kd.int .i64) (fun y => (Lit.int .i64 y).wf = true) := opens_int Try.underlying2
def laws_FnExactPutNum.Goal : Prop := ∀ (a0 : Int), (Lit.int .i64 a0).wf = true → ∃ k, laws_FnExactPutNum.f k a0 = some true
end Go.Proofs.Ytjgojfdninlcbaa.PFnExactPutNum
