/- What the law FnExactSetPut was handed, as lists and numbers; and the one plain statement that is left. -/
import Derived.Test.YthgofcgkmdbcdaaPFnExactSetPutx3
import Derived.Test.YthgofcgkmdbcdaaHOpen
import Derived.KernelRfl
import Derived.WideShapes
import Derived.ChangeSame
namespace Go.Proofs.Ythgofcgkmdbcdaa.PFnExactSetPut
open Go.RowKit Go.ChangeShapes Go.WideShapes Go.Proofs.YthgofcgkmdbcdaaW.PrintWords Go.Proofs.YthgofcgkmdbcdaaH
set_option linter.unusedVariables false
set_option maxRecDepth 100000
theorem o2 : Opens Try.prog 2 (Kd.int .i64) (fun y => (Lit.int .i64 y).wf = true) := opens_int Try.underlying2
theorem o22 : Opens Try.prog 22 (Kd.slice 2 (Kd.int .i64)) (fun l => (∀ y ∈ l, (Lit.int .i64 y).wf = true)) := opens_slice Try.underlying22 (by kernel_rfl) o2
def laws_FnExactSetPut.Goal : Prop := ∀ (l0 : List Int) (a1 : Int), l0.length ≤ 9223372036854775807 → (∀ y ∈ l0, (Lit.int .i64 y).wf = true) → (Lit.int .i64 a1).wf = true → ∃ k, laws_FnExactSetPut.f k l0 a1 = some true
end Go.Proofs.Ythgofcgkmdbcdaa.PFnExactSetPut
