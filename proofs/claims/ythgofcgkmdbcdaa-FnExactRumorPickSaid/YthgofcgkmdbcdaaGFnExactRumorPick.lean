/- What the law FnExactRumorPick was handed, as lists and numbers; and the one plain statement that is left. -/
import Derived.Test.YthgofcgkmdbcdaaPFnExactRumorPickx10
import Derived.Test.YthgofcgkmdbcdaaXFnExactRumorPick
import Derived.KernelRfl
import Derived.WideShapes
import Derived.ChangeSame
namespace Go.Proofs.Ythgofcgkmdbcdaa.PFnExactRumorPick
open Go.RowKit Go.ChangeShapes Go.WideShapes Go.Proofs.YthgofcgkmdbcdaaW.PrintWords Go.Proofs.YthgofcgkmdbcdaaH
set_option linter.unusedVariables false
set_option maxRecDepth 100000
theorem o2 : Opens Try.prog 2 (Kd.int .i64) (fun y => (Lit.int .i64 y).wf = true) := opens_int Try.underlying2
theorem f47 {H : Type} (enc : TypeId × Value → H) (w : World) (sp : Nat → Bool) (hd : Bool) (fuel : Nat) (cs : List Value) (x : DataW H × List MemPlace) (h : DataW.trod enc Try.prog w 0 sp hd fuel 47 cs = some x) :
    ∃ (b_0 : Int) (b_1 : Int) (b_2 : Int), cs = [.int .i64 b_0, .int .i64 b_1, .int .i64 b_2] ∧ (Lit.int .i64 b_0).wf = true ∧ (Lit.int .i64 b_1).wf = true ∧ (Lit.int .i64 b_2).wf = true := by
  obtain ⟨xs, n, _, _, hl, hlen, hf⟩ := DataW.trod_struct Try.underlying47 h
  have hc : cs.length = 3 := hl.trans (by kernel_rfl)
  match cs, hc with
  | [q0, q1, q2], _ =>
    obtain ⟨y0, hy0⟩ : ∃ y, xs[0]? = some y := ⟨_, List.getElem?_eq_getElem (by rw [hlen]; decide)⟩
    have g0 : DataW.trod enc Try.prog w 0 sp hd n 2 (([q0, q1, q2].drop 0).take (Try.prog.cellsOf 2)) = some y0 := (hf 0 _ rfl).trans hy0
    rw [show Try.prog.cellsOf 2 = 1 from by kernel_rfl] at g0
    replace g0 : DataW.trod enc Try.prog w 0 sp hd n 2 [q0] = some y0 := g0
    obtain ⟨b_0, e0, rb_0⟩ := o2 enc w sp hd n _ _ g0
    have e0 : [q0] = [.int .i64 b_0] := e0
    simp only [List.cons.injEq, and_true] at e0
    obtain ⟨y1, hy1⟩ : ∃ y, xs[1]? = some y := ⟨_, List.getElem?_eq_getElem (by rw [hlen]; decide)⟩
    have g1 : DataW.trod enc Try.prog w 0 sp hd n 2 (([q0, q1, q2].drop 1).take (Try.prog.cellsOf 2)) = some y1 := (hf 1 _ rfl).trans hy1
    rw [show Try.prog.cellsOf 2 = 1 from by kernel_rfl] at g1
    replace g1 : DataW.trod enc Try.prog w 0 sp hd n 2 [q1] = some y1 := g1
    obtain ⟨b_1, e1, rb_1⟩ := o2 enc w sp hd n _ _ g1
    have e1 : [q1] = [.int .i64 b_1] := e1
    simp only [List.cons.injEq, and_true] at e1
    obtain ⟨y2, hy2⟩ : ∃ y, xs[2]? = some y := ⟨_, List.getElem?_eq_getElem (by rw [hlen]; decide)⟩
    have g2 : DataW.trod enc Try.prog w 0 sp hd n 2 (([q0, q1, q2].drop 2).take (Try.prog.cellsOf 2)) = some y2 := (hf 2 _ rfl).trans hy2
    rw [show Try.prog.cellsOf 2 = 1 from by kernel_rfl] at g2
    replace g2 : DataW.trod enc Try.prog w 0 sp hd n 2 [q2] = some y2 := g2
    obtain ⟨b_2, e2, rb_2⟩ := o2 enc w sp hd n _ _ g2
    have e2 : [q2] = [.int .i64 b_2] := e2
    simp only [List.cons.injEq, and_true] at e2
    subst e0 e1 e2
    exact ⟨b_0, b_1, b_2, rfl, rb_0, rb_1, rb_2⟩
theorem f103 {H : Type} (enc : TypeId × Value → H) (w : World) (sp : Nat → Bool) (hd : Bool) (fuel : Nat) (cs : List Value) (x : DataW H × List MemPlace) (h : DataW.trod enc Try.prog w 0 sp hd fuel 103 cs = some x) :
    ∃ (b_0_0 : Int) (b_0_1 : Int) (b_0_2 : Int) (b_1 : Int), cs = [.int .i64 b_0_0, .int .i64 b_0_1, .int .i64 b_0_2, .int .i64 b_1] ∧ (Lit.int .i64 b_0_0).wf = true ∧ (Lit.int .i64 b_0_1).wf = true ∧ (Lit.int .i64 b_0_2).wf = true ∧ (Lit.int .i64 b_1).wf = true := by
  obtain ⟨xs, n, _, _, hl, hlen, hf⟩ := DataW.trod_struct Try.underlying103 h
  have hc : cs.length = 4 := hl.trans (by kernel_rfl)
  match cs, hc with
  | [q0, q1, q2, q3], _ =>
    obtain ⟨y0, hy0⟩ : ∃ y, xs[0]? = some y := ⟨_, List.getElem?_eq_getElem (by rw [hlen]; decide)⟩
    have g0 : DataW.trod enc Try.prog w 0 sp hd n 47 (([q0, q1, q2, q3].drop 0).take (Try.prog.cellsOf 47)) = some y0 := (hf 0 _ rfl).trans hy0
    rw [show Try.prog.cellsOf 47 = 3 from by kernel_rfl] at g0
    replace g0 : DataW.trod enc Try.prog w 0 sp hd n 47 [q0, q1, q2] = some y0 := g0
    obtain ⟨b_0_0, b_0_1, b_0_2, e0, rb_0_0, rb_0_1, rb_0_2⟩ := f47 enc w sp hd n _ _ g0
    simp only [List.cons.injEq, and_true] at e0
    obtain ⟨E0_0, E0_1, E0_2⟩ := e0
    obtain ⟨y1, hy1⟩ : ∃ y, xs[1]? = some y := ⟨_, List.getElem?_eq_getElem (by rw [hlen]; decide)⟩
    have g1 : DataW.trod enc Try.prog w 0 sp hd n 2 (([q0, q1, q2, q3].drop 3).take (Try.prog.cellsOf 2)) = some y1 := (hf 1 _ rfl).trans hy1
    rw [show Try.prog.cellsOf 2 = 1 from by kernel_rfl] at g1
    replace g1 : DataW.trod enc Try.prog w 0 sp hd n 2 [q3] = some y1 := g1
    obtain ⟨b_1, e1, rb_1⟩ := o2 enc w sp hd n _ _ g1
    have e1 : [q3] = [.int .i64 b_1] := e1
    simp only [List.cons.injEq, and_true] at e1
    subst E0_0 E0_1 E0_2 e1
    exact ⟨b_0_0, b_0_1, b_0_2, b_1, rfl, rb_0_0, rb_0_1, rb_0_2, rb_1⟩
def Wf47 (x : S47) : Prop := (Lit.int .i64 x.f0).wf = true ∧ (Lit.int .i64 x.f1).wf = true ∧ (Lit.int .i64 x.f2).wf = true
theorem os47 : Opens Try.prog 47 k47 Wf47 := by
  intro H enc w sp hd fuel cs x h
  obtain ⟨b_0, b_1, b_2, rfl, rb_0, rb_1, rb_2⟩ := f47 enc w sp hd fuel cs x h
  exact ⟨⟨b_0, b_1, b_2⟩, k47_mk w _, ⟨rb_0, rb_1, rb_2⟩⟩
theorem o47 : Opens Try.prog 47 k47 Wf47 := os47
def Wf103 (x : S103) : Prop := Wf47 x.f0 ∧ (Lit.int .i64 x.f1).wf = true
theorem os103 : Opens Try.prog 103 k103 Wf103 := by
  intro H enc w sp hd fuel cs x h
  obtain ⟨b_0_0, b_0_1, b_0_2, b_1, rfl, rb_0_0, rb_0_1, rb_0_2, rb_1⟩ := f103 enc w sp hd fuel cs x h
  exact ⟨⟨⟨b_0_0, b_0_1, b_0_2⟩, b_1⟩, k103_mk w _, ⟨⟨rb_0_0, rb_0_1, rb_0_2⟩, rb_1⟩⟩
theorem o103 : Opens Try.prog 103 k103 Wf103 := os103
theorem o63 : Opens Try.prog 63 (Kd.slice 103 k103) (fun l => (∀ y ∈ l, Wf103 y)) := opens_slice Try.underlying63 (by kernel_rfl) o103
def laws_FnExactRumorPick.Goal : Prop := ∀ (l0 : List (S103)) (a1 : Int), l0.length ≤ 9223372036854775807 → (∀ y ∈ l0, Wf103 y) → (Lit.int .i64 a1).wf = true → ∃ k, laws_FnExactRumorPick.f k l0 a1 = some true
end Go.Proofs.Ythgofcgkmdbcdaa.PFnExactRumorPick
