/- What the law FnExactSetRight was handed, as lists and numbers; and the one plain statement that is left. -/
import Derived.Test.YtjgojfdninlcbaaPFnExactSetRightx1
import Derived.Test.YtjgojfdninlcbaaHOpen
import Derived.KernelRfl
import Derived.WideShapes
import Derived.ChangeSame
namespace Go.Proofs.Ytjgojfdninlcbaa.PFnExactSetRight
open Go.RowKit Go.ChangeShapes Go.WideShapes Go.Proofs.YtjgojfdninlcbaaW.PrintWords Go.Proofs.YtjgojfdninlcbaaH
set_option linter.unusedVariables false
set_option maxRecDepth 100000
theorem o2 : Opens Try.prog 2 (Kd.int .i64) (fun y => (Lit.int .i64 y).wf = true) := opens_int Try.underlying2
theorem o39 : Opens Try.prog 39 (Kd.slice 2 (Kd.int .i64)) (fun l => (∀ y ∈ l, (Lit.int .i64 y).wf = true)) := opens_slice Try.underlying39 (by kernel_rfl) o2
def laws_FnExactSetRight.Goal : Prop := ∀ (l0 : List Int), (∀ y ∈ l0, (Lit.int .i64 y).wf = true) → ∃ k, laws_FnExactSetRight.f k l0 = some true
end Go.Proofs.Ytjgojfdninlcbaa.PFnExactSetRight
