/- What the law FnExactCrcMore was handed, as lists and numbers; and the one plain statement that is left. -/
import Derived.Test.YtjgojfdninlcbaaPFnExactCrcMorex1
import Derived.Test.YtjgojfdninlcbaaHOpen
import Derived.KernelRfl
import Derived.WideShapes
import Derived.ChangeSame
namespace Go.Proofs.Ytjgojfdninlcbaa.PFnExactCrcMore
open Go.RowKit Go.ChangeShapes Go.WideShapes Go.Proofs.YtjgojfdninlcbaaW.PrintWords Go.Proofs.YtjgojfdninlcbaaH
set_option linter.unusedVariables false
set_option maxRecDepth 100000
theorem o2 : Opens Try.prog 2 (Kd.int .i64) (fun y => (Lit.int .i64 y).wf = true) := opens_int Try.underlying2
theorem o9 : Opens Try.prog 9 Kd.string (fun y => y.size ≤ maxLen) := opens_string Try.underlying9
def laws_FnExactCrcMore.Goal : Prop := ∀ (a0 : Int) (a1 : ByteArray), (Lit.int .i64 a0).wf = true → a1.size ≤ maxLen → ∃ k, laws_FnExactCrcMore.f k a0 a1 = some true
end Go.Proofs.Ytjgojfdninlcbaa.PFnExactCrcMore
