/- The plain law of FnExactSetRight: what the Lean functions of the printed texts answer. -/
import Derived.Test.YtjgojfdninlcbaaGFnExactSetRight
import Derived.Test.YtjgojfdninlcbaaHSem
namespace Go.Proofs.Ytjgojfdninlcbaa.Pure
open Go.RowKit Go.Proofs.Ytjgojfdninlcbaa.PFnExactSetRight Go.Proofs.YtjgojfdninlcbaaW.PrintWords Go.Proofs.YtjgojfdninlcbaaW.PrintLast Go.Proofs.YtjgojfdninlcbaaW.PrintMore Go.Proofs.YtjgojfdninlcbaaH
set_option linter.unusedVariables false
set_option linter.unusedSimpArgs false

theorem specSet_l0 (l : List Int) (hl : l.length ≤ 140737488355328) : ∀ d i : Nat, 0 < i → (i + d = l.length ∨ (d = 0 ∧ l.length ≤ i)) → Ev (fun k => spec_SetRight.l0 k l (i : Int)) (rises l i d)
  | 0, i, h0, h => Ev.step (f := fun _ => some true) (fun k => by simp only [spec_SetRight.l0]; rw [if_neg (by omega)]) (Ev.now _)
  | d + 1, i, h0, h => by
    have hw := wrap_succ (i := i) (n := l.length) (by omega) hl
    have hp := wrap_pred (i := i) (n := l.length) h0 (by omega) hl
    by_cases ho : l.getD (i - 1) 0 < l.getD i 0
    · refine Ev.step (f := fun k => spec_SetRight.l0 k l ((i + 1 : Nat) : Int)) (fun k => ?_) (by rw [rises, decide_eq_true ho, Bool.true_and]; exact specSet_l0 l hl d (i + 1) (by omega) (by omega))
      simp only [spec_SetRight.l0]
      rw [hw, hp, rd_nat, rd_nat]
      repeat' split
      all_goals first | rfl | omega
    · refine Ev.step (f := fun k => some false) (fun k => ?_) (by rw [rises, decide_eq_false ho, Bool.false_and]; exact Ev.now _)
      simp only [spec_SetRight.l0]
      rw [hw, hp, rd_nat, rd_nat]
      repeat' split
      all_goals first | rfl | omega

theorem specSet_ev (l : List Int) (hl : l.length ≤ 140737488355328) : Ev (fun k => spec_SetRight.f k l) (rises l 1 (l.length - 1) && decide (l.length ≤ 400)) := by
  by_cases h : l.length ≤ 400
  · refine Ev.congr (f := fun k => spec_SetRight.l0 k l ((1 : Nat) : Int)) (fun k => ?_) (by simpa [h] using specSet_l0 l hl (l.length - 1) 1 (by omega) (by omega))
    simp only [spec_SetRight.f]; rw [if_neg (by omega)]; rfl
  · refine Ev.congr (f := fun k => some false) (fun k => ?_) (by simpa [h] using Ev.now _)
    simp only [spec_SetRight.f]; rw [if_pos (by omega)]


theorem implSet_l0 (l : List Int) (hl : l.length ≤ 140737488355328) : ∀ d i : Nat, 0 < i → (i + d = l.length ∨ (d = 0 ∧ l.length ≤ i)) → Ev (fun k => impl_SetRight.l0 k l (i : Int)) (rises l i d && decide (l.length ≤ 400))
  | 0, i, h0, h => Ev.step (f := fun _ => some (decide (l.length ≤ 400))) (fun k => by
      simp only [impl_SetRight.l0, impl_longList_int64.f, Option.bind_some]; rw [if_neg (by omega)]
      congr 1; rw [Bool.eq_iff_iff]; simp; omega) (by simpa [rises] using Ev.now _)
  | d + 1, i, h0, h => by
    have hw := wrap_succ (i := i) (n := l.length) (by omega) hl
    have hp := wrap_pred (i := i) (n := l.length) h0 (by omega) hl
    by_cases ho : l.getD (i - 1) 0 < l.getD i 0
    · refine Ev.step (f := fun k => impl_SetRight.l0 k l ((i + 1 : Nat) : Int)) (fun k => ?_) (by rw [rises, decide_eq_true ho, Bool.true_and]; exact implSet_l0 l hl d (i + 1) (by omega) (by omega))
      simp only [impl_SetRight.l0]
      rw [hw, hp, rd_nat, rd_nat]
      repeat' split
      all_goals first | rfl | omega
    · refine Ev.step (f := fun k => some false) (fun k => ?_) (by rw [rises, decide_eq_false ho, Bool.false_and, Bool.false_and]; exact Ev.now _)
      simp only [impl_SetRight.l0]
      rw [hw, hp, rd_nat, rd_nat]
      repeat' split
      all_goals first | rfl | omega

theorem implSet_ev (l : List Int) (hl : l.length ≤ 140737488355328) : Ev (fun k => impl_SetRight.f k l) (rises l 1 (l.length - 1) && decide (l.length ≤ 400)) :=
  implSet_l0 l hl (l.length - 1) 1 (by omega) (by omega)


theorem toInts_l0 (l : List Int) (hl : l.length ≤ 140737488355328) : ∀ (d i : Nat) (ys : List Int), i + d = l.length → ys.length = l.length → Ev (fun k => laws_toInt64S.l0 k l ys (i : Int)) (ys.take i ++ l.drop i)
  | 0, i, ys, h, hy => Ev.step (f := fun _ => some ys) (fun k => by simp only [laws_toInt64S.l0]; rw [if_neg (by omega)]) (by
      have e : ys.take i ++ l.drop i = ys := by
        rw [List.drop_of_length_le (show l.length ≤ i by omega), List.append_nil, List.take_of_length_le (by omega)]
      rw [e]; exact Ev.now _)
  | d + 1, i, ys, h, hy => by
    have hw := wrap_succ (i := i) (n := l.length) (by omega) hl
    have e : (ys.set i (l.getD i 0)).take (i + 1) ++ l.drop (i + 1) = ys.take i ++ l.drop i := by
      have h1 : (ys.set i (l.getD i 0)).take (i + 1) = ys.take i ++ [l.getD i 0] := by
        rw [List.take_add_one, List.take_set, List.set_eq_of_length_le (by simp; omega), List.getElem?_set_self (by omega)]
        rfl
      rw [h1, List.append_assoc]
      congr 1
      rw [List.drop_eq_getElem_cons (show i < l.length by omega)]
      simp [List.getD, show i < l.length by omega]
    refine Ev.step (f := fun k => laws_toInt64S.l0 k l (ys.set i (l.getD i 0)) ((i + 1 : Nat) : Int)) (fun k => ?_) (by have := toInts_l0 l hl d (i + 1) (ys.set i (l.getD i 0)) (by omega) (by simpa using hy); rw [e] at this; exact this)
    simp only [laws_toInt64S.l0]
    rw [hw, rd_nat, if_pos (by omega), if_pos (by omega), if_pos (by omega)]
    simp

theorem toInts_ev (l : List Int) (hl : l.length ≤ 1048576) : Ev (fun k => laws_toInt64S.f k l) l := by
  refine Ev.congr (f := fun k => laws_toInt64S.l0 k l (List.replicate l.length 0) ((0 : Nat) : Int)) (fun k => ?_) (by simpa using toInts_l0 l (by omega) l.length 0 (List.replicate l.length 0) (by omega) (by simp))
  simp only [laws_toInt64S.f]
  rw [if_pos (by omega), if_pos (by omega)]
  simp


theorem eqInts_l0 (l m : List Int) (hl : l.length ≤ 140737488355328) (hm : m.length = l.length) : ∀ d i : Nat, i + d = l.length → Ev (fun k => laws_eqInt64S.l0 k l m (i : Int)) (decide (l.drop i = m.drop i))
  | 0, i, h => Ev.step (f := fun _ => some true) (fun k => by simp only [laws_eqInt64S.l0]; rw [if_neg (by omega)]) (by
      rw [List.drop_of_length_le (show l.length ≤ i by omega), List.drop_of_length_le (show m.length ≤ i by omega)]; exact Ev.now _)
  | d + 1, i, h => by
    have hw := wrap_succ (i := i) (n := l.length) (by omega) hl
    have e1 : l.drop i = l.getD i 0 :: l.drop (i + 1) := by
      rw [List.drop_eq_getElem_cons (show i < l.length by omega)]; simp [List.getD, show i < l.length by omega]
    have e2 : m.drop i = m.getD i 0 :: m.drop (i + 1) := by
      rw [List.drop_eq_getElem_cons (show i < m.length by omega)]; simp [List.getD, show i < m.length by omega]
    by_cases ho : l.getD i 0 = m.getD i 0
    · refine Ev.step (f := fun k => laws_eqInt64S.l0 k l m ((i + 1 : Nat) : Int)) (fun k => ?_) (by have := eqInts_l0 l m hl hm d (i + 1) (by omega); rw [e1, e2, ho, decide_eq_decide.2 (show (m.getD i 0 :: l.drop (i + 1) = m.getD i 0 :: m.drop (i + 1)) ↔ (l.drop (i + 1) = m.drop (i + 1)) by simp)]; exact this)
      simp only [laws_eqInt64S.l0]
      rw [hw, rd_nat, rd_nat, if_pos (by omega), if_pos (by omega), if_pos (by omega), if_pos ho]
    · refine Ev.step (f := fun k => some false) (fun k => ?_) (by rw [e1, e2, decide_eq_false (fun h => ho (List.cons.inj h).1)]; exact Ev.now _)
      simp only [laws_eqInt64S.l0]
      rw [rd_nat, rd_nat, if_pos (by omega), if_pos (by omega), if_pos (by omega), if_neg ho]

theorem eqInts_ev (l m : List Int) (hl : l.length ≤ 140737488355328) : Ev (fun k => laws_eqInt64S.f k l m) (decide (l = m)) := by
  by_cases h : m.length = l.length
  · refine Ev.congr (f := fun k => laws_eqInt64S.l0 k l m ((0 : Nat) : Int)) (fun k => ?_) (by simpa using eqInts_l0 l m hl h l.length 0 (by omega))
    simp only [laws_eqInt64S.f]; rw [if_pos (by omega)]; rfl
  · refine Ev.congr (f := fun k => some false) (fun k => ?_) (by
      have : l ≠ m := by rintro rfl; exact h rfl
      simpa [this] using Ev.now _)
    simp only [laws_eqInt64S.f]; rw [if_neg (by omega)]

theorem FnExactSetRight : laws_FnExactSetRight.Goal := by
  intro l _
  by_cases hb : (l.length : Int) > 1048576
  · exact ⟨0, by simp only [laws_FnExactSetRight.f]; rw [if_pos hb]⟩
  · have hl : l.length ≤ 1048576 := by omega
    refine Ev.rounds (Ev.congr (fun k => by simp only [laws_FnExactSetRight.f]; rw [if_neg hb]) ?_)
    refine Ev.bind (toInts_ev l hl) (Ev.bind (specSet_ev l (by omega)) (Ev.bind (toInts_ev l hl) (Ev.bind (implSet_ev l (by omega)) ?_)))
    simp only [bne_self_eq_false, Bool.false_eq_true, if_false]
    refine Ev.bind (toInts_ev l hl) (Ev.bind (eqInts_ev l l (by omega)) ?_)
    simpa using Ev.now _

end Go.Proofs.Ytjgojfdninlcbaa.Pure
