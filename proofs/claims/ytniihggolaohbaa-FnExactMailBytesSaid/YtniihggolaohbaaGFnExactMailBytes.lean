/- What the law FnExactMailBytes was handed, as lists and numbers; and the one plain statement that is left. -/
import Derived.Test.YtniihggolaohbaaPFnExactMailBytesx11
import Derived.Test.YtniihggolaohbaaXFnExactMailBytes
import Derived.KernelRfl
import Derived.WideShapes
import Derived.ChangeSame
namespace Go.Proofs.Ytniihggolaohbaa.PFnExactMailBytes
open Go.RowKit Go.ChangeShapes Go.WideShapes Go.Proofs.YtniihggolaohbaaW.PrintWords Go.Proofs.YtniihggolaohbaaH
set_option linter.unusedVariables false
set_option maxRecDepth 100000
theorem o2 : Opens Try.prog 2 (Kd.int .i64) (fun y => (Lit.int .i64 y).wf = true) := opens_int Try.underlying2
theorem f97 {H : Type} (enc : TypeId × Value → H) (w : World) (sp : Nat → Bool) (hd : Bool) (fuel : Nat) (cs : List Value) (x : DataW H × List MemPlace) (h : DataW.trod enc Try.prog w 0 sp hd fuel 97 cs = some x) :
    ∃ (b_0 : Int) (b_1 : Int) (b_2 : Int), cs = [.int .i64 b_0, .int .i64 b_1, .int .i64 b_2] ∧ (Lit.int .i64 b_0).wf = true ∧ (Lit.int .i64 b_1).wf = true ∧ (Lit.int .i64 b_2).wf = true := by
  obtain ⟨xs, n, _, _, hl, hlen, hf⟩ := DataW.trod_struct Try.underlying97 h
  have hc : cs.length = 3 := hl.trans (by kernel_rfl)
  match cs, hc with
  | [q0, q1, q2], _ =>
    obtain ⟨y0, hy0⟩ : ∃ y, xs[0]? = some y := ⟨_, List.getElem?_eq_getElem (by rw [hlen]; decide)⟩
    have g0 : DataW.trod enc Try.prog w 0 sp hd n 2 (([q0, q1, q2].drop 0).take (Try.prog.cellsOf 2)) = some y0 := (hf 0 _ rfl).trans hy0
    rw [show Try.prog.cellsOf 2 = 1 from by kernel_rfl] at g0
    replace g0 : DataW.trod enc Try.prog w 0 sp hd n 2 [q0] = some y0 := g0
    obtain ⟨b_0, e0, rb_0⟩ := o2 enc w sp hd n _ _ g0
    have e0 : [q0] = [.int .i64 b_0] := e0
    simp only [List.cons.injEq, and_true] at e0
    obtain ⟨y1, hy1⟩ : ∃ y, xs[1]? = some y := ⟨_, List.getElem?_eq_getElem (by rw [hlen]; decide)⟩
    have g1 : DataW.trod enc Try.prog w 0 sp hd n 2 (([q0, q1, q2].drop 1).take (Try.prog.cellsOf 2)) = some y1 := (hf 1 _ rfl).trans hy1
    rw [show Try.prog.cellsOf 2 = 1 from by kernel_rfl] at g1
    replace g1 : DataW.trod enc Try.prog w 0 sp hd n 2 [q1] = some y1 := g1
    obtain ⟨b_1, e1, rb_1⟩ := o2 enc w sp hd n _ _ g1
    have e1 : [q1] = [.int .i64 b_1] := e1
    simp only [List.cons.injEq, and_true] at e1
    obtain ⟨y2, hy2⟩ : ∃ y, xs[2]? = some y := ⟨_, List.getElem?_eq_getElem (by rw [hlen]; decide)⟩
    have g2 : DataW.trod enc Try.prog w 0 sp hd n 2 (([q0, q1, q2].drop 2).take (Try.prog.cellsOf 2)) = some y2 := (hf 2 _ rfl).trans hy2
    rw [show Try.prog.cellsOf 2 = 1 from by kernel_rfl] at g2
    replace g2 : DataW.trod enc Try.prog w 0 sp hd n 2 [q2] = some y2 := g2
    obtain ⟨b_2, e2, rb_2⟩ := o2 enc w sp hd n _ _ g2
    have e2 : [q2] = [.int .i64 b_2] := e2
    simp only [List.cons.injEq, and_true] at e2
    subst e0 e1 e2
    exact ⟨b_0, b_1, b_2, rfl, rb_0, rb_1, rb_2⟩
def Wf97 (x : S97) : Prop := (Lit.int .i64 x.f0).wf = true ∧ (Lit.int .i64 x.f1).wf = true ∧ (Lit.int .i64 x.f2).wf = true
theorem os97 : Opens Try.prog 97 k97 Wf97 := by
  intro H enc w sp hd fuel cs x h
  obtain ⟨b_0, b_1, b_2, rfl, rb_0, rb_1, rb_2⟩ := f97 enc w sp hd fuel cs x h
  exact ⟨⟨b_0, b_1, b_2⟩, k97_mk w _, ⟨rb_0, rb_1, rb_2⟩⟩
theorem o97 : Opens Try.prog 97 k97 Wf97 := os97
theorem o22 : Opens Try.prog 22 (Kd.slice 97 k97) (fun l => (∀ y ∈ l, Wf97 y)) := opens_slice Try.underlying22 (by kernel_rfl) o97
theorem f24 {H : Type} (enc : TypeId × Value → H) (w : World) (sp : Nat → Bool) (hd : Bool) (fuel : Nat) (cs : List Value) (x : DataW H × List MemPlace) (h : DataW.trod enc Try.prog w 0 sp hd fuel 24 cs = some x) :
    ∃ (b_0 : Int) (b_1 : Int) (b_2 : Int) (b_3 : Int) (b_4 : Int) (b_5 : Int) (b_6 : List (S97)) (Ab_6 : Option Addr) (cb_6 : Nat), cs = [.int .i64 b_0, .int .i64 b_1, .int .i64 b_2, .int .i64 b_3, .int .i64 b_4, .int .i64 b_5, .slice Ab_6 b_6.length cb_6] ∧ (Lit.int .i64 b_0).wf = true ∧ (Lit.int .i64 b_1).wf = true ∧ (Lit.int .i64 b_2).wf = true ∧ (Lit.int .i64 b_3).wf = true ∧ (Lit.int .i64 b_4).wf = true ∧ (Lit.int .i64 b_5).wf = true ∧ (b_6.length ≤ cb_6 ∧ Kd.C k97 w Ab_6 b_6.length b_6 ∧ (∀ y ∈ b_6, Wf97 y)) := by
  obtain ⟨xs, n, _, _, hl, hlen, hf⟩ := DataW.trod_struct Try.underlying24 h
  have hc : cs.length = 7 := hl.trans (by kernel_rfl)
  match cs, hc with
  | [q0, q1, q2, q3, q4, q5, q6], _ =>
    obtain ⟨y0, hy0⟩ : ∃ y, xs[0]? = some y := ⟨_, List.getElem?_eq_getElem (by rw [hlen]; decide)⟩
    have g0 : DataW.trod enc Try.prog w 0 sp hd n 2 (([q0, q1, q2, q3, q4, q5, q6].drop 0).take (Try.prog.cellsOf 2)) = some y0 := (hf 0 _ rfl).trans hy0
    rw [show Try.prog.cellsOf 2 = 1 from by kernel_rfl] at g0
    replace g0 : DataW.trod enc Try.prog w 0 sp hd n 2 [q0] = some y0 := g0
    obtain ⟨b_0, e0, rb_0⟩ := o2 enc w sp hd n _ _ g0
    have e0 : [q0] = [.int .i64 b_0] := e0
    simp only [List.cons.injEq, and_true] at e0
    obtain ⟨y1, hy1⟩ : ∃ y, xs[1]? = some y := ⟨_, List.getElem?_eq_getElem (by rw [hlen]; decide)⟩
    have g1 : DataW.trod enc Try.prog w 0 sp hd n 2 (([q0, q1, q2, q3, q4, q5, q6].drop 1).take (Try.prog.cellsOf 2)) = some y1 := (hf 1 _ rfl).trans hy1
    rw [show Try.prog.cellsOf 2 = 1 from by kernel_rfl] at g1
    replace g1 : DataW.trod enc Try.prog w 0 sp hd n 2 [q1] = some y1 := g1
    obtain ⟨b_1, e1, rb_1⟩ := o2 enc w sp hd n _ _ g1
    have e1 : [q1] = [.int .i64 b_1] := e1
    simp only [List.cons.injEq, and_true] at e1
    obtain ⟨y2, hy2⟩ : ∃ y, xs[2]? = some y := ⟨_, List.getElem?_eq_getElem (by rw [hlen]; decide)⟩
    have g2 : DataW.trod enc Try.prog w 0 sp hd n 2 (([q0, q1, q2, q3, q4, q5, q6].drop 2).take (Try.prog.cellsOf 2)) = some y2 := (hf 2 _ rfl).trans hy2
    rw [show Try.prog.cellsOf 2 = 1 from by kernel_rfl] at g2
    replace g2 : DataW.trod enc Try.prog w 0 sp hd n 2 [q2] = some y2 := g2
    obtain ⟨b_2, e2, rb_2⟩ := o2 enc w sp hd n _ _ g2
    have e2 : [q2] = [.int .i64 b_2] := e2
    simp only [List.cons.injEq, and_true] at e2
    obtain ⟨y3, hy3⟩ : ∃ y, xs[3]? = some y := ⟨_, List.getElem?_eq_getElem (by rw [hlen]; decide)⟩
    have g3 : DataW.trod enc Try.prog w 0 sp hd n 2 (([q0, q1, q2, q3, q4, q5, q6].drop 3).take (Try.prog.cellsOf 2)) = some y3 := (hf 3 _ rfl).trans hy3
    rw [show Try.prog.cellsOf 2 = 1 from by kernel_rfl] at g3
    replace g3 : DataW.trod enc Try.prog w 0 sp hd n 2 [q3] = some y3 := g3
    obtain ⟨b_3, e3, rb_3⟩ := o2 enc w sp hd n _ _ g3
    have e3 : [q3] = [.int .i64 b_3] := e3
    simp only [List.cons.injEq, and_true] at e3
    obtain ⟨y4, hy4⟩ : ∃ y, xs[4]? = some y := ⟨_, List.getElem?_eq_getElem (by rw [hlen]; decide)⟩
    have g4 : DataW.trod enc Try.prog w 0 sp hd n 2 (([q0, q1, q2, q3, q4, q5, q6].drop 4).take (Try.prog.cellsOf 2)) = some y4 := (hf 4 _ rfl).trans hy4
    rw [show Try.prog.cellsOf 2 = 1 from by kernel_rfl] at g4
    replace g4 : DataW.trod enc Try.prog w 0 sp hd n 2 [q4] = some y4 := g4
    obtain ⟨b_4, e4, rb_4⟩ := o2 enc w sp hd n _ _ g4
    have e4 : [q4] = [.int .i64 b_4] := e4
    simp only [List.cons.injEq, and_true] at e4
    obtain ⟨y5, hy5⟩ : ∃ y, xs[5]? = some y := ⟨_, List.getElem?_eq_getElem (by rw [hlen]; decide)⟩
    have g5 : DataW.trod enc Try.prog w 0 sp hd n 2 (([q0, q1, q2, q3, q4, q5, q6].drop 5).take (Try.prog.cellsOf 2)) = some y5 := (hf 5 _ rfl).trans hy5
    rw [show Try.prog.cellsOf 2 = 1 from by kernel_rfl] at g5
    replace g5 : DataW.trod enc Try.prog w 0 sp hd n 2 [q5] = some y5 := g5
    obtain ⟨b_5, e5, rb_5⟩ := o2 enc w sp hd n _ _ g5
    have e5 : [q5] = [.int .i64 b_5] := e5
    simp only [List.cons.injEq, and_true] at e5
    obtain ⟨y6, hy6⟩ : ∃ y, xs[6]? = some y := ⟨_, List.getElem?_eq_getElem (by rw [hlen]; decide)⟩
    have g6 : DataW.trod enc Try.prog w 0 sp hd n 22 (([q0, q1, q2, q3, q4, q5, q6].drop 6).take (Try.prog.cellsOf 22)) = some y6 := (hf 6 _ rfl).trans hy6
    rw [show Try.prog.cellsOf 22 = 1 from by kernel_rfl] at g6
    replace g6 : DataW.trod enc Try.prog w 0 sp hd n 22 [q6] = some y6 := g6
    obtain ⟨b_6, ⟨Ab_6, cb_6, e6, rl6, rc6⟩, rw6⟩ := o22 enc w sp hd n _ _ g6
    simp only [List.cons.injEq, and_true] at e6
    subst e0 e1 e2 e3 e4 e5 e6
    exact ⟨b_0, b_1, b_2, b_3, b_4, b_5, b_6, Ab_6, cb_6, rfl, rb_0, rb_1, rb_2, rb_3, rb_4, rb_5, ⟨rl6, rc6, rw6⟩⟩
def laws_FnExactMailBytes.Goal : Prop := ∀ (a0_0 : Int) (a0_1 : Int) (a0_2 : Int) (a0_3 : Int) (a0_4 : Int) (a0_5 : Int) (l0_6 : List (S97)), (Lit.int .i64 a0_0).wf = true → (Lit.int .i64 a0_1).wf = true → (Lit.int .i64 a0_2).wf = true → (Lit.int .i64 a0_3).wf = true → (Lit.int .i64 a0_4).wf = true → (Lit.int .i64 a0_5).wf = true → l0_6.length ≤ 9223372036854775807 → (∀ y ∈ l0_6, Wf97 y) → ∃ k, laws_FnExactMailBytes.f k a0_0 a0_1 a0_2 a0_3 a0_4 a0_5 l0_6 = some true
end Go.Proofs.Ytniihggolaohbaa.PFnExactMailBytes
