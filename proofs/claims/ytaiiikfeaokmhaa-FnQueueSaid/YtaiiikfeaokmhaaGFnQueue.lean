/- What the law FnQueue was handed, as lists and numbers; and the one plain statement that is left. -/
import Derived.Test.YtaiiikfeaokmhaaPFnQueuex13
import Derived.Test.YtaiiikfeaokmhaaXFnQueue
import Derived.KernelRfl
import Derived.WideShapes
import Derived.ChangeSame
namespace Go.Proofs.Ytaiiikfeaokmhaa.PFnQueue
open Go.RowKit Go.ChangeShapes Go.WideShapes Go.Proofs.YtaiiikfeaokmhaaW.PrintWords Go.Proofs.YtaiiikfeaokmhaaH
set_option linter.unusedVariables false
set_option maxRecDepth 100000
theorem o5 : Opens Try.prog 5 (Kd.int .u8) (fun y => (Lit.int .u8 y).wf = true) := opens_int Try.underlying5
theorem o22 : Opens Try.prog 22 (Kd.slice 5 (Kd.int .u8)) (fun l => (∀ y ∈ l, (Lit.int .u8 y).wf = true)) := opens_slice Try.underlying22 (by kernel_rfl) o5
def laws_FnQueue.Goal : Prop := ∀ (l0 : List Int) (l1 : List Int), l0.length ≤ 9223372036854775807 → (∀ y ∈ l0, (Lit.int .u8 y).wf = true) → l1.length ≤ 9223372036854775807 → (∀ y ∈ l1, (Lit.int .u8 y).wf = true) → ∃ k, laws_FnQueue.f k l0 l1 = some true
end Go.Proofs.Ytaiiikfeaokmhaa.PFnQueue
