/- What the law FnExactGetText was handed, as lists and numbers; and the one plain statement that is left. -/
import Derived.Test.YtfemkhfjngepmaaPFnExactGetTextx3
import Derived.Test.YtfemkhfjngepmaaHOpen
import Derived.KernelRfl
import Derived.WideShapes
import Derived.ChangeSame
namespace Go.Proofs.Ytfemkhfjngepmaa.PFnExactGetText
open Go.RowKit Go.ChangeShapes Go.WideShapes Go.Proofs.YtfemkhfjngepmaaW.PrintWords Go.Proofs.YtfemkhfjngepmaaH
set_option linter.unusedVariables false
set_option maxRecDepth 100000
theorem o9 : Opens Try.prog 9 Kd.string (fun y => y.size ≤ maxLen) := opens_string Try.underlying9
theorem o2 : Opens Try.prog 2 (Kd.int .i64) (fun y => (Lit.int .i64 y).wf = true) := opens_int Try.underlying2
def laws_FnExactGetText.Goal : Prop := ∀ (a0 : ByteArray) (a1 : Int), a0.size ≤ maxLen → (Lit.int .i64 a1).wf = true → ∃ k, laws_FnExactGetText.f k a0 a1 = some true
end Go.Proofs.Ytfemkhfjngepmaa.PFnExactGetText
