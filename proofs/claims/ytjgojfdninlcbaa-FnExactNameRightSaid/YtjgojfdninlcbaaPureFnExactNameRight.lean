/- The plain law of FnExactNameRight: what the Lean functions of the printed texts answer. -/
import Derived.Test.YtjgojfdninlcbaaPFnExactNameRightx1
import Derived.Test.YtjgojfdninlcbaaHSem
namespace Go.Proofs.Ytjgojfdninlcbaa.Pure
open Go.RowKit Go.Proofs.Ytjgojfdninlcbaa.PFnExactNameRight Go.Proofs.YtjgojfdninlcbaaW.PrintWords Go.Proofs.YtjgojfdninlcbaaW.PrintLast Go.Proofs.YtjgojfdninlcbaaW.PrintMore Go.Proofs.YtjgojfdninlcbaaH
set_option linter.unusedVariables false
set_option linter.unusedSimpArgs false


/-- Is byte i one that may stand at place i of a name? -/
def okc (s : ByteArray) (i : Nat) : Prop := (97 ≤ bt s (i : Int) ∧ bt s (i : Int) ≤ 122) ∨ (i ≠ 0 ∧ (bt s (i : Int) = 95 ∨ (48 ≤ bt s (i : Int) ∧ bt s (i : Int) ≤ 57)))
instance (s : ByteArray) (i : Nat) : Decidable (okc s i) := by unfold okc; exact inferInstance
def allok (s : ByteArray) : Nat → Nat → Bool
  | _, 0 => true
  | i, d + 1 => decide (okc s i) && allok s (i + 1) d

theorem specName_l0 (s : ByteArray) (hs : s.size ≤ 140737488355328) : ∀ d i : Nat, i + d = s.size → Ev (fun k => spec_NameRight.l0 k s (i : Int)) (allok s i d)
  | 0, i, h => Ev.step (f := fun _ => some true) (fun k => by simp only [spec_NameRight.l0]; rw [if_neg (by omega)]) (Ev.now _)
  | d + 1, i, h => by
    have hw := wrap_succ (i := i) (n := s.size) (by omega) hs
    by_cases ho : okc s i
    · refine Ev.step (f := fun k => spec_NameRight.l0 k s ((i + 1 : Nat) : Int)) (fun k => ?_) (by simpa [allok, ho] using specName_l0 s hs d (i + 1) (by omega))
      simp only [spec_NameRight.l0]; unfold okc at ho
      rw [hw]
      repeat' split
      all_goals first | rfl | omega
    · refine Ev.step (f := fun k => some false) (fun k => ?_) (by simpa [allok, ho] using Ev.now _)
      simp only [spec_NameRight.l0]; unfold okc at ho
      repeat' split
      all_goals first | rfl | omega

theorem implName_l0 (s : ByteArray) (hs : s.size ≤ 140737488355328) : ∀ d i : Nat, i + d = s.size → Ev (fun k => impl_NameRight.l0 k s (s.size : Int) (i : Int)) (allok s i d && decide (1 ≤ s.size ∧ s.size ≤ 20))
  | 0, i, h => Ev.step (f := fun _ => some (decide (1 ≤ s.size ∧ s.size ≤ 20))) (fun k => by
      simp only [impl_NameRight.l0, impl_within.f]; rw [if_neg (by omega)]
      split
      · simp only [Option.bind_some]; congr 1; rw [decide_eq_decide]; omega
      · simp only [Option.bind_some]; congr 1; symm; rw [decide_eq_false_iff_not]; omega) (by simpa [allok] using Ev.now _)
  | d + 1, i, h => by
    have hw := wrap_succ (i := i) (n := s.size) (by omega) hs
    by_cases ho : okc s i
    · refine Ev.step (f := fun k => impl_NameRight.l0 k s (s.size : Int) ((i + 1 : Nat) : Int)) (fun k => ?_) (by simpa [allok, ho] using implName_l0 s hs d (i + 1) (by omega))
      simp only [impl_NameRight.l0]; unfold okc at ho
      rw [hw]
      repeat' split
      all_goals first | rfl | omega
    · refine Ev.step (f := fun k => some false) (fun k => ?_) (by simpa [allok, ho] using Ev.now _)
      simp only [impl_NameRight.l0]; unfold okc at ho
      repeat' split
      all_goals first | rfl | omega

theorem specName_ev (s : ByteArray) (hs : s.size ≤ 140737488355328) : Ev (fun k => spec_NameRight.f k s) (allok s 0 s.size && decide (1 ≤ s.size ∧ s.size ≤ 20)) := by
  by_cases h1 : 1 ≤ s.size ∧ s.size ≤ 20
  · refine Ev.congr (f := fun k => spec_NameRight.j0 k s false) (fun k => ?_) (Ev.step (f := fun k => spec_NameRight.l0 k s ((0 : Nat) : Int)) (fun k => ?_) ?_)
    · simp only [spec_NameRight.f]; rw [if_neg (by omega)]; congr 1; rw [decide_eq_false_iff_not]; omega
    · simp [spec_NameRight.j0]
    · simpa [h1] using specName_l0 s hs s.size 0 (by omega)
  · refine Ev.congr (f := fun k => spec_NameRight.j0 k s true) (fun k => ?_) (Ev.step (f := fun k => some false) (fun k => ?_) ?_)
    · simp only [spec_NameRight.f]; split
      · rfl
      · congr 1; rw [decide_eq_true_iff]; omega
    · simp [spec_NameRight.j0]
    · simpa [h1] using Ev.now _

/-- YOURS. -/
theorem FnExactNameRight : laws_FnExactNameRight.Pure := by
  intro s hs
  by_cases hb : (s.size : Int) > 1048576
  · exact ⟨0, by simp only [laws_FnExactNameRight.f]; rw [if_pos hb]⟩
  · refine Ev.rounds (Ev.congr (f := fun k => (spec_NameRight.f k s).bind fun t102 => ((impl_NameRight.f k s).bind fun t103 => (if (t103 != t102) = true then (some false) else (some true)))) (fun k => by simp only [laws_FnExactNameRight.f]; rw [if_neg hb]) ?_)
    refine Ev.bind (specName_ev s (by omega)) (Ev.bind (implName_l0 s (by omega) s.size 0 (by omega)) ?_)
    simpa using Ev.now _

end Go.Proofs.Ytjgojfdninlcbaa.Pure
