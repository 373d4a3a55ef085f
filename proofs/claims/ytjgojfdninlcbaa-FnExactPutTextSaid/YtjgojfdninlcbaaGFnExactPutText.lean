/- What the law FnExactPutText was handed, as lists and numbers; and the one plain statement that is left. -/
import Derived.Test.YtjgojfdninlcbaaPFnExactPutTextx1
import Derived.Test.YtjgojfdninlcbaaHOpen
import Derived.KernelRfl
import Derived.WideShapes
import Derived.ChangeSame
namespace Go.Proofs.Ytjgojfdninlcbaa.PFnExactPutText
open Go.RowKit Go.ChangeShapes Go.WideShapes Go.Proofs.YtjgojfdninlcbaaW.PrintWords Go.Proofs.YtjgojfdninlcbaaH
set_option linter.unusedVariables false
set_option maxRecDepth 100000
theorem o9 : Opens Try.prog 9 Kd.string (fun y => y.size ≤ maxLen) := opens_string Try.underlying9
def laws_FnExactPutText.Goal : Prop := ∀ (a0 : ByteArray), a0.size ≤ maxLen → ∃ k, laws_FnExactPutText.f k a0 = some true
end Go.Proofs.Ytjgojfdninlcbaa.PFnExactPutText
