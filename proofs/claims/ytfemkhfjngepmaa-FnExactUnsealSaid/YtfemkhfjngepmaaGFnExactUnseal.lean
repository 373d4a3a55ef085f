/- What the law FnExactUnseal was handed, as lists and numbers; and the one plain statement that is left. -/
import Derived.Test.YtfemkhfjngepmaaPFnExactUnsealx2
import Derived.Test.YtfemkhfjngepmaaHOpen
import Derived.KernelRfl
import Derived.WideShapes
import Derived.ChangeSame
namespace Go.Proofs.Ytfemkhfjngepmaa.PFnExactUnseal
open Go.RowKit Go.ChangeShapes Go.WideShapes Go.Proofs.YtfemkhfjngepmaaW.PrintWords Go.Proofs.YtfemkhfjngepmaaH
set_option linter.unusedVariables false
set_option maxRecDepth 100000
theorem o9 : Opens Try.prog 9 Kd.string (fun y => y.size ≤ maxLen) := opens_string Try.underlying9
def laws_FnExactUnseal.Goal : Prop := ∀ (a0 : ByteArray), a0.size ≤ maxLen → ∃ k, laws_FnExactUnseal.f k a0 = some true
end Go.Proofs.Ytfemkhfjngepmaa.PFnExactUnseal
