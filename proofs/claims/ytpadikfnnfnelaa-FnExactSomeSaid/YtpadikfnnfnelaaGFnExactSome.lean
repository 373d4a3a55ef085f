/- What the law FnExactSome was handed, as lists and numbers; and the one plain statement that is left. -/
import Derived.Test.YtpadikfnnfnelaaPFnExactSomex4
import Derived.Test.YtpadikfnnfnelaaHOpen
import Derived.KernelRfl
import Derived.WideShapes
import Derived.ChangeSame
namespace Go.Proofs.Ytpadikfnnfnelaa.PFnExactSome
open Go.RowKit Go.ChangeShapes Go.WideShapes Go.Proofs.YtpadikfnnfnelaaW.PrintWords Go.Proofs.YtpadikfnnfnelaaH
set_option linter.unusedVariables false
set_option maxRecDepth 100000
theorem o2 : Opens Try.prog 2 (Kd.int .i64) (fun y => (Lit.int .i64 y).wf = true) := opens_int Try.underlying2
theorem o22 : Opens Try.prog 22 (Kd.slice 2 (Kd.int .i64)) (fun l => (∀ y ∈ l, (Lit.int .i64 y).wf = true)) := opens_slice Try.underlying22 (by kernel_rfl) o2
def laws_FnExactSome.Goal : Prop := ∀ (l0 : List Int) (a1 : Int) (a2 : Int), l0.length ≤ 9223372036854775807 → (∀ y ∈ l0, (Lit.int .i64 y).wf = true) → (Lit.int .i64 a1).wf = true → (Lit.int .i64 a2).wf = true → ∃ k, laws_FnExactSome.f k l0 a1 a2 = some true
end Go.Proofs.Ytpadikfnnfnelaa.PFnExactSome
