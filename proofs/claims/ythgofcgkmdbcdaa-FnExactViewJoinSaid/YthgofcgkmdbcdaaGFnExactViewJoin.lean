/- What the law FnExactViewJoin was handed, as lists and numbers; and the one plain statement that is left. -/
import Derived.Test.YthgofcgkmdbcdaaPFnExactViewJoinx11
import Derived.Test.YthgofcgkmdbcdaaXFnExactViewJoin
import Derived.KernelRfl
import Derived.WideShapes
import Derived.ChangeSame
namespace Go.Proofs.Ythgofcgkmdbcdaa.PFnExactViewJoin
open Go.RowKit Go.ChangeShapes Go.WideShapes Go.Proofs.YthgofcgkmdbcdaaW.PrintWords Go.Proofs.YthgofcgkmdbcdaaH
set_option linter.unusedVariables false
set_option maxRecDepth 100000
theorem o2 : Opens Try.prog 2 (Kd.int .i64) (fun y => (Lit.int .i64 y).wf = true) := opens_int Try.underlying2
theorem f47 {H : Type} (enc : TypeId × Value → H) (w : World) (sp : Nat → Bool) (hd : Bool) (fuel : Nat) (cs : List Value) (x : DataW H × List MemPlace) (h : DataW.trod enc Try.prog w 0 sp hd fuel 47 cs = some x) :
    ∃ (b_0 : Int) (b_1 : Int) (b_2 : Int), cs = [.int .i64 b_0, .int .i64 b_1, .int .i64 b_2] ∧ (Lit.int .i64 b_0).wf = true ∧ (Lit.int .i64 b_1).wf = true ∧ (Lit.int .i64 b_2).wf = true := by
  obtain ⟨xs, n, _, _, hl, hlen, hf⟩ := DataW.trod_struct Try.underlying47 h
  have hc : cs.length = 3 := hl.trans (by kernel_rfl)
  match cs, hc with
  | [q0, q1, q2], _ =>
    obtain ⟨y0, hy0⟩ : ∃ y, xs[0]? = some y := ⟨_, List.getElem?_eq_getElem (by rw [hlen]; decide)⟩
    have g0 : DataW.trod enc Try.prog w 0 sp hd n 2 (([q0, q1, q2].drop 0).take (Try.prog.cellsOf 2)) = some y0 := (hf 0 _ rfl).trans hy0
    rw [show Try.prog.cellsOf 2 = 1 from by kernel_rfl] at g0
    replace g0 : DataW.trod enc Try.prog w 0 sp hd n 2 [q0] = some y0 := g0
    obtain ⟨b_0, e0, rb_0⟩ := o2 enc w sp hd n _ _ g0
    have e0 : [q0] = [.int .i64 b_0] := e0
    simp only [List.cons.injEq, and_true] at e0
    obtain ⟨y1, hy1⟩ : ∃ y, xs[1]? = some y := ⟨_, List.getElem?_eq_getElem (by rw [hlen]; decide)⟩
    have g1 : DataW.trod enc Try.prog w 0 sp hd n 2 (([q0, q1, q2].drop 1).take (Try.prog.cellsOf 2)) = some y1 := (hf 1 _ rfl).trans hy1
    rw [show Try.prog.cellsOf 2 = 1 from by kernel_rfl] at g1
    replace g1 : DataW.trod enc Try.prog w 0 sp hd n 2 [q1] = some y1 := g1
    obtain ⟨b_1, e1, rb_1⟩ := o2 enc w sp hd n _ _ g1
    have e1 : [q1] = [.int .i64 b_1] := e1
    simp only [List.cons.injEq, and_true] at e1
    obtain ⟨y2, hy2⟩ : ∃ y, xs[2]? = some y := ⟨_, List.getElem?_eq_getElem (by rw [hlen]; decide)⟩
    have g2 : DataW.trod enc Try.prog w 0 sp hd n 2 (([q0, q1, q2].drop 2).take (Try.prog.cellsOf 2)) = some y2 := (hf 2 _ rfl).trans hy2
    rw [show Try.prog.cellsOf 2 = 1 from by kernel_rfl] at g2
    replace g2 : DataW.trod enc Try.prog w 0 sp hd n 2 [q2] = some y2 := g2
    obtain ⟨b_2, e2, rb_2⟩ := o2 enc w sp hd n _ _ g2
    have e2 : [q2] = [.int .i64 b_2] := e2
    simp only [List.cons.injEq, and_true] at e2
    subst e0 e1 e2
    exact ⟨b_0, b_1, b_2, rfl, rb_0, rb_1, rb_2⟩
def Wf47 (x : S47) : Prop := (Lit.int .i64 x.f0).wf = true ∧ (Lit.int .i64 x.f1).wf = true ∧ (Lit.int .i64 x.f2).wf = true
theorem os47 : Opens Try.prog 47 k47 Wf47 := by
  intro H enc w sp hd fuel cs x h
  obtain ⟨b_0, b_1, b_2, rfl, rb_0, rb_1, rb_2⟩ := f47 enc w sp hd fuel cs x h
  exact ⟨⟨b_0, b_1, b_2⟩, k47_mk w _, ⟨rb_0, rb_1, rb_2⟩⟩
theorem o47 : Opens Try.prog 47 k47 Wf47 := os47
theorem o45 : Opens Try.prog 45 (Kd.slice 47 k47) (fun l => (∀ y ∈ l, Wf47 y)) := opens_slice Try.underlying45 (by kernel_rfl) o47
def laws_FnExactViewJoin.Goal : Prop := ∀ (l0 : List (S47)) (l1 : List (S47)), l0.length ≤ 9223372036854775807 → (∀ y ∈ l0, Wf47 y) → l1.length ≤ 9223372036854775807 → (∀ y ∈ l1, Wf47 y) → ∃ k, laws_FnExactViewJoin.f k l0 l1 = some true
end Go.Proofs.Ythgofcgkmdbcdaa.PFnExactViewJoin
