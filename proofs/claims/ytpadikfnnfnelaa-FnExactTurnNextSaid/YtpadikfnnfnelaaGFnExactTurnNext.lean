/- What the law FnExactTurnNext was handed, as lists and numbers; and the one plain statement that is left. -/
import Derived.Test.YtpadikfnnfnelaaPFnExactTurnNextx8
import Derived.Test.YtpadikfnnfnelaaHOpen
import Derived.KernelRfl
import Derived.WideShapes
import Derived.ChangeSame
namespace Go.Proofs.Ytpadikfnnfnelaa.PFnExactTurnNext
open Go.RowKit Go.ChangeShapes Go.WideShapes Go.Proofs.YtpadikfnnfnelaaW.PrintWords Go.Proofs.YtpadikfnnfnelaaH
set_option linter.unusedVariables false
set_option maxRecDepth 100000
theorem o2 : Opens Try.prog 2 (Kd.int .i64) (fun y => (Lit.int .i64 y).wf = true) := opens_int Try.underlying2
theorem o22 : Opens Try.prog 22 (Kd.slice 2 (Kd.int .i64)) (fun l => (∀ y ∈ l, (Lit.int .i64 y).wf = true)) := opens_slice Try.underlying22 (by kernel_rfl) o2
theorem f24 {H : Type} (enc : TypeId × Value → H) (w : World) (sp : Nat → Bool) (hd : Bool) (fuel : Nat) (cs : List Value) (x : DataW H × List MemPlace) (h : DataW.trod enc Try.prog w 0 sp hd fuel 24 cs = some x) :
    ∃ (b_0 : List Int) (Ab_0 : Option Addr) (cb_0 : Nat) (b_1 : Int), cs = [.slice Ab_0 b_0.length cb_0, .int .i64 b_1] ∧ (b_0.length ≤ cb_0 ∧ Kd.C (Kd.int .i64) w Ab_0 b_0.length b_0 ∧ (∀ y ∈ b_0, (Lit.int .i64 y).wf = true)) ∧ (Lit.int .i64 b_1).wf = true := by
  obtain ⟨xs, n, _, _, hl, hlen, hf⟩ := DataW.trod_struct Try.underlying24 h
  have hc : cs.length = 2 := hl.trans (by kernel_rfl)
  match cs, hc with
  | [q0, q1], _ =>
    obtain ⟨y0, hy0⟩ : ∃ y, xs[0]? = some y := ⟨_, List.getElem?_eq_getElem (by rw [hlen]; decide)⟩
    have g0 : DataW.trod enc Try.prog w 0 sp hd n 22 (([q0, q1].drop 0).take (Try.prog.cellsOf 22)) = some y0 := (hf 0 _ rfl).trans hy0
    rw [show Try.prog.cellsOf 22 = 1 from by kernel_rfl] at g0
    replace g0 : DataW.trod enc Try.prog w 0 sp hd n 22 [q0] = some y0 := g0
    obtain ⟨b_0, ⟨Ab_0, cb_0, e0, rl0, rc0⟩, rw0⟩ := o22 enc w sp hd n _ _ g0
    simp only [List.cons.injEq, and_true] at e0
    obtain ⟨y1, hy1⟩ : ∃ y, xs[1]? = some y := ⟨_, List.getElem?_eq_getElem (by rw [hlen]; decide)⟩
    have g1 : DataW.trod enc Try.prog w 0 sp hd n 2 (([q0, q1].drop 1).take (Try.prog.cellsOf 2)) = some y1 := (hf 1 _ rfl).trans hy1
    rw [show Try.prog.cellsOf 2 = 1 from by kernel_rfl] at g1
    replace g1 : DataW.trod enc Try.prog w 0 sp hd n 2 [q1] = some y1 := g1
    obtain ⟨b_1, e1, rb_1⟩ := o2 enc w sp hd n _ _ g1
    have e1 : [q1] = [.int .i64 b_1] := e1
    simp only [List.cons.injEq, and_true] at e1
    subst e0 e1
    exact ⟨b_0, Ab_0, cb_0, b_1, rfl, ⟨rl0, rc0, rw0⟩, rb_1⟩
def laws_FnExactTurnNext.Goal : Prop := ∀ (l0_0 : List Int) (a0_1 : Int) (l1 : List Int) (a2 : Int), l0_0.length ≤ 9223372036854775807 → (∀ y ∈ l0_0, (Lit.int .i64 y).wf = true) → (Lit.int .i64 a0_1).wf = true → l1.length ≤ 9223372036854775807 → (∀ y ∈ l1, (Lit.int .i64 y).wf = true) → (Lit.int .i64 a2).wf = true → ∃ k, laws_FnExactTurnNext.f k l0_0 a0_1 l1 a2 = some true
end Go.Proofs.Ytpadikfnnfnelaa.PFnExactTurnNext
