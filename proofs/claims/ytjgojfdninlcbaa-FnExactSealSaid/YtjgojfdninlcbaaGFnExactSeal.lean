/- What the law FnExactSeal was handed, as lists and numbers; and the one plain statement that is left. -/
import Derived.Test.YtjgojfdninlcbaaPFnExactSealx1
import Derived.Test.YtjgojfdninlcbaaHOpen
import Derived.KernelRfl
import Derived.WideShapes
import Derived.ChangeSame
namespace Go.Proofs.Ytjgojfdninlcbaa.PFnExactSeal
open Go.RowKit Go.ChangeShapes Go.WideShapes Go.Proofs.YtjgojfdninlcbaaW.PrintWords Go.Proofs.YtjgojfdninlcbaaH
set_option linter.unusedVariables false
set_option maxRecDepth 100000
theorem o9 : Opens Try.prog 9 Kd.string (fun y => y.size ≤ maxLen) := opens_string Try.underlying9
def laws_FnExactSeal.Goal : Prop := ∀ (a0 : ByteArray), a0.size ≤ maxLen → ∃ k, laws_FnExactSeal.f k a0 = some true
end Go.Proofs.Ytjgojfdninlcbaa.PFnExactSeal
