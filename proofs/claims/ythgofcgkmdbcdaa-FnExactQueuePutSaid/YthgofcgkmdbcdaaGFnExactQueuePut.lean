/- What the law FnExactQueuePut was handed, as lists and numbers; and the one plain statement that is left. -/
import Derived.Test.YthgofcgkmdbcdaaPFnExactQueuePutx10
import Derived.Test.YthgofcgkmdbcdaaXFnExactQueuePut
import Derived.KernelRfl
import Derived.WideShapes
import Derived.ChangeSame
namespace Go.Proofs.Ythgofcgkmdbcdaa.PFnExactQueuePut
open Go.RowKit Go.ChangeShapes Go.WideShapes Go.Proofs.YthgofcgkmdbcdaaW.PrintWords Go.Proofs.YthgofcgkmdbcdaaH
set_option linter.unusedVariables false
set_option maxRecDepth 100000
theorem o2 : Opens Try.prog 2 (Kd.int .i64) (fun y => (Lit.int .i64 y).wf = true) := opens_int Try.underlying2
theorem o9 : Opens Try.prog 9 Kd.string (fun y => y.size ≤ maxLen) := opens_string Try.underlying9
theorem f30 {H : Type} (enc : TypeId × Value → H) (w : World) (sp : Nat → Bool) (hd : Bool) (fuel : Nat) (cs : List Value) (x : DataW H × List MemPlace) (h : DataW.trod enc Try.prog w 0 sp hd fuel 30 cs = some x) :
    ∃ (b_0 : Int) (b_1 : Int) (b_2 : Int) (b_3 : ByteArray), cs = [.int .i64 b_0, .int .i64 b_1, .int .i64 b_2, .string b_3] ∧ (Lit.int .i64 b_0).wf = true ∧ (Lit.int .i64 b_1).wf = true ∧ (Lit.int .i64 b_2).wf = true ∧ b_3.size ≤ maxLen := by
  obtain ⟨xs, n, _, _, hl, hlen, hf⟩ := DataW.trod_struct Try.underlying30 h
  have hc : cs.length = 4 := hl.trans (by kernel_rfl)
  match cs, hc with
  | [q0, q1, q2, q3], _ =>
    obtain ⟨y0, hy0⟩ : ∃ y, xs[0]? = some y := ⟨_, List.getElem?_eq_getElem (by rw [hlen]; decide)⟩
    have g0 : DataW.trod enc Try.prog w 0 sp hd n 2 (([q0, q1, q2, q3].drop 0).take (Try.prog.cellsOf 2)) = some y0 := (hf 0 _ rfl).trans hy0
    rw [show Try.prog.cellsOf 2 = 1 from by kernel_rfl] at g0
    replace g0 : DataW.trod enc Try.prog w 0 sp hd n 2 [q0] = some y0 := g0
    obtain ⟨b_0, e0, rb_0⟩ := o2 enc w sp hd n _ _ g0
    have e0 : [q0] = [.int .i64 b_0] := e0
    simp only [List.cons.injEq, and_true] at e0
    obtain ⟨y1, hy1⟩ : ∃ y, xs[1]? = some y := ⟨_, List.getElem?_eq_getElem (by rw [hlen]; decide)⟩
    have g1 : DataW.trod enc Try.prog w 0 sp hd n 2 (([q0, q1, q2, q3].drop 1).take (Try.prog.cellsOf 2)) = some y1 := (hf 1 _ rfl).trans hy1
    rw [show Try.prog.cellsOf 2 = 1 from by kernel_rfl] at g1
    replace g1 : DataW.trod enc Try.prog w 0 sp hd n 2 [q1] = some y1 := g1
    obtain ⟨b_1, e1, rb_1⟩ := o2 enc w sp hd n _ _ g1
    have e1 : [q1] = [.int .i64 b_1] := e1
    simp only [List.cons.injEq, and_true] at e1
    obtain ⟨y2, hy2⟩ : ∃ y, xs[2]? = some y := ⟨_, List.getElem?_eq_getElem (by rw [hlen]; decide)⟩
    have g2 : DataW.trod enc Try.prog w 0 sp hd n 2 (([q0, q1, q2, q3].drop 2).take (Try.prog.cellsOf 2)) = some y2 := (hf 2 _ rfl).trans hy2
    rw [show Try.prog.cellsOf 2 = 1 from by kernel_rfl] at g2
    replace g2 : DataW.trod enc Try.prog w 0 sp hd n 2 [q2] = some y2 := g2
    obtain ⟨b_2, e2, rb_2⟩ := o2 enc w sp hd n _ _ g2
    have e2 : [q2] = [.int .i64 b_2] := e2
    simp only [List.cons.injEq, and_true] at e2
    obtain ⟨y3, hy3⟩ : ∃ y, xs[3]? = some y := ⟨_, List.getElem?_eq_getElem (by rw [hlen]; decide)⟩
    have g3 : DataW.trod enc Try.prog w 0 sp hd n 9 (([q0, q1, q2, q3].drop 3).take (Try.prog.cellsOf 9)) = some y3 := (hf 3 _ rfl).trans hy3
    rw [show Try.prog.cellsOf 9 = 1 from by kernel_rfl] at g3
    replace g3 : DataW.trod enc Try.prog w 0 sp hd n 9 [q3] = some y3 := g3
    obtain ⟨b_3, e3, rb_3⟩ := o9 enc w sp hd n _ _ g3
    have e3 : [q3] = [.string b_3] := e3
    simp only [List.cons.injEq, and_true] at e3
    subst e0 e1 e2 e3
    exact ⟨b_0, b_1, b_2, b_3, rfl, rb_0, rb_1, rb_2, rb_3⟩
def Wf30 (x : S30) : Prop := (Lit.int .i64 x.f0).wf = true ∧ (Lit.int .i64 x.f1).wf = true ∧ (Lit.int .i64 x.f2).wf = true ∧ x.f3.size ≤ maxLen
theorem os30 : Opens Try.prog 30 k30 Wf30 := by
  intro H enc w sp hd fuel cs x h
  obtain ⟨b_0, b_1, b_2, b_3, rfl, rb_0, rb_1, rb_2, rb_3⟩ := f30 enc w sp hd fuel cs x h
  exact ⟨⟨b_0, b_1, b_2, b_3⟩, k30_mk w _, ⟨rb_0, rb_1, rb_2, rb_3⟩⟩
theorem o30 : Opens Try.prog 30 k30 Wf30 := os30
theorem o28 : Opens Try.prog 28 (Kd.slice 30 k30) (fun l => (∀ y ∈ l, Wf30 y)) := opens_slice Try.underlying28 (by kernel_rfl) o30
def laws_FnExactQueuePut.Goal : Prop := ∀ (l0 : List (S30)) (a1_0 : Int) (a1_1 : Int) (a1_2 : Int) (a1_3 : ByteArray), l0.length ≤ 9223372036854775807 → (∀ y ∈ l0, Wf30 y) → (Lit.int .i64 a1_0).wf = true → (Lit.int .i64 a1_1).wf = true → (Lit.int .i64 a1_2).wf = true → a1_3.size ≤ maxLen → ∃ k, laws_FnExactQueuePut.f k l0 a1_0 a1_1 a1_2 a1_3 = some true
end Go.Proofs.Ythgofcgkmdbcdaa.PFnExactQueuePut
