/- The plain law of FnExactSetHas: what the Lean functions of the printed texts answer. -/
import Derived.Test.YtfemkhfjngepmaaGFnExactSetHas
import Derived.Test.YtfemkhfjngepmaaHSem
namespace Go.Proofs.Ytfemkhfjngepmaa.Pure
open Go.RowKit Go.Proofs.Ytfemkhfjngepmaa.PFnExactSetHas Go.Proofs.YtfemkhfjngepmaaW.PrintWords Go.Proofs.YtfemkhfjngepmaaW.PrintLast Go.Proofs.YtfemkhfjngepmaaW.PrintMore Go.Proofs.YtfemkhfjngepmaaH
set_option linter.unusedVariables false
set_option linter.unusedSimpArgs false

theorem specSet_l0 (l : List Int) (hl : l.length ≤ 140737488355328) : ∀ d i : Nat, 0 < i → (i + d = l.length ∨ (d = 0 ∧ l.length ≤ i)) → Ev (fun k => spec_SetRight.l0 k l (i : Int)) (rises l i d)
  | 0, i, h0, h => Ev.step (f := fun _ => some true) (fun k => by simp only [spec_SetRight.l0]; rw [if_neg (by omega)]) (Ev.now _)
  | d + 1, i, h0, h => by
    have hw := wrap_succ (i := i) (n := l.length) (by omega) hl
    have hp := wrap_pred (i := i) (n := l.length) h0 (by omega) hl
    by_cases ho : l.getD (i - 1) 0 < l.getD i 0
    · refine Ev.step (f := fun k => spec_SetRight.l0 k l ((i + 1 : Nat) : Int)) (fun k => ?_) (by rw [rises, decide_eq_true ho, Bool.true_and]; exact specSet_l0 l hl d (i + 1) (by omega) (by omega))
      simp only [spec_SetRight.l0]
      rw [hw, hp, rd_nat, rd_nat]
      repeat' split
      all_goals first | rfl | omega
    · refine Ev.step (f := fun k => some false) (fun k => ?_) (by rw [rises, decide_eq_false ho, Bool.false_and]; exact Ev.now _)
      simp only [spec_SetRight.l0]
      rw [hw, hp, rd_nat, rd_nat]
      repeat' split
      all_goals first | rfl | omega

theorem specSet_ev (l : List Int) (hl : l.length ≤ 140737488355328) : Ev (fun k => spec_SetRight.f k l) (rises l 1 (l.length - 1) && decide (l.length ≤ 400)) := by
  by_cases h : l.length ≤ 400
  · refine Ev.congr (f := fun k => spec_SetRight.l0 k l ((1 : Nat) : Int)) (fun k => ?_) (by simpa [h] using specSet_l0 l hl (l.length - 1) 1 (by omega) (by omega))
    simp only [spec_SetRight.f]; rw [if_neg (by omega)]; rfl
  · refine Ev.congr (f := fun k => some false) (fun k => ?_) (by simpa [h] using Ev.now _)
    simp only [spec_SetRight.f]; rw [if_pos (by omega)]


theorem implSet_l0 (l : List Int) (hl : l.length ≤ 140737488355328) : ∀ d i : Nat, 0 < i → (i + d = l.length ∨ (d = 0 ∧ l.length ≤ i)) → Ev (fun k => impl_SetRight.l0 k l (i : Int)) (rises l i d && decide (l.length ≤ 400))
  | 0, i, h0, h => Ev.step (f := fun _ => some (decide (l.length ≤ 400))) (fun k => by
      simp only [impl_SetRight.l0, impl_longList_int64.f, Option.bind_some]; rw [if_neg (by omega)]
      congr 1; rw [Bool.eq_iff_iff]; simp; omega) (by simpa [rises] using Ev.now _)
  | d + 1, i, h0, h => by
    have hw := wrap_succ (i := i) (n := l.length) (by omega) hl
    have hp := wrap_pred (i := i) (n := l.length) h0 (by omega) hl
    by_cases ho : l.getD (i - 1) 0 < l.getD i 0
    · refine Ev.step (f := fun k => impl_SetRight.l0 k l ((i + 1 : Nat) : Int)) (fun k => ?_) (by rw [rises, decide_eq_true ho, Bool.true_and]; exact implSet_l0 l hl d (i + 1) (by omega) (by omega))
      simp only [impl_SetRight.l0]
      rw [hw, hp, rd_nat, rd_nat]
      repeat' split
      all_goals first | rfl | omega
    · refine Ev.step (f := fun k => some false) (fun k => ?_) (by rw [rises, decide_eq_false ho, Bool.false_and, Bool.false_and]; exact Ev.now _)
      simp only [impl_SetRight.l0]
      rw [hw, hp, rd_nat, rd_nat]
      repeat' split
      all_goals first | rfl | omega

theorem implSet_ev (l : List Int) (hl : l.length ≤ 140737488355328) : Ev (fun k => impl_SetRight.f k l) (rises l 1 (l.length - 1) && decide (l.length ≤ 400)) :=
  implSet_l0 l hl (l.length - 1) 1 (by omega) (by omega)


theorem specHas_l0 (l : List Int) (n : Int) (hl : l.length ≤ 140737488355328) : ∀ d i : Nat, i + d = l.length → Ev (fun k => spec_l02Has.l0 k l n (i : Int)) ((l.drop i).contains n)
  | 0, i, h => Ev.step (f := fun _ => some false) (fun k => by simp only [spec_l02Has.l0]; rw [if_neg (by omega)]) (by rw [List.drop_of_length_le (by omega)]; exact Ev.now _)
  | d + 1, i, h => by
    have hw := wrap_succ (i := i) (n := l.length) (by omega) hl
    rw [drop_at l 0 (show i < l.length by omega), List.contains_cons]
    by_cases ho : l.getD i 0 = n
    · refine Ev.step (f := fun k => some true) (fun k => ?_) (by rw [ho, beq_self_eq_true, Bool.true_or]; exact Ev.now _)
      simp only [spec_l02Has.l0]
      rw [rd_nat, if_pos (by omega), if_pos (by omega), if_pos ho]
    · refine Ev.step (f := fun k => spec_l02Has.l0 k l n ((i + 1 : Nat) : Int)) (fun k => ?_) (by rw [beq_eq_false_iff_ne.2 (Ne.symm ho), Bool.false_or]; exact specHas_l0 l n hl d (i + 1) (by omega))
      simp only [spec_l02Has.l0]
      rw [hw, rd_nat, if_pos (by omega), if_pos (by omega), if_neg ho]
theorem specHas_ev (l : List Int) (n : Int) (hl : l.length ≤ 140737488355328) : Ev (fun k => spec_l02Has.f k l n) (l.contains n) := specHas_l0 l n hl l.length 0 (by omega)

theorem slIndex_l0 (l : List Int) (n : Int) (hl : l.length ≤ 140737488355328) : ∀ d i : Nat, i + d = l.length → ∃ r : Int, Ev (fun k => slices_Index_int64_int64.l0 k l n (l.length : Int) (i : Int)) r ∧ (0 ≤ r ↔ (l.drop i).contains n = true)
  | 0, i, h => ⟨-1, Ev.step (f := fun _ => some (-1)) (fun k => by simp only [slices_Index_int64_int64.l0]; rw [if_neg (by omega)]) (Ev.now _), by rw [List.drop_of_length_le (by omega)]; simp⟩
  | d + 1, i, h => by
    have hw := wrap_succ (i := i) (n := l.length) (by omega) hl
    rw [drop_at l 0 (show i < l.length by omega), List.contains_cons]
    by_cases ho : n = l.getD i 0
    · refine ⟨(i : Int), Ev.step (f := fun k => some (i : Int)) (fun k => ?_) (Ev.now _), by rw [← ho]; simp⟩
      simp only [slices_Index_int64_int64.l0]
      rw [rd_nat, if_pos (by omega), if_pos (by omega), if_pos (by omega), if_pos ho]
    · obtain ⟨r, hr, hc⟩ := slIndex_l0 l n hl d (i + 1) (by omega)
      refine ⟨r, Ev.step (f := fun k => slices_Index_int64_int64.l0 k l n (l.length : Int) ((i + 1 : Nat) : Int)) (fun k => ?_) hr, by rw [beq_eq_false_iff_ne.2 ho, Bool.false_or]; exact hc⟩
      simp only [slices_Index_int64_int64.l0]
      rw [hw, rd_nat, if_pos (by omega), if_pos (by omega), if_pos (by omega), if_neg ho]
theorem slContains_ev (l : List Int) (n : Int) (hl : l.length ≤ 140737488355328) : Ev (fun k => slices_Contains_int64_int64.f k l n) (l.contains n) := by
  obtain ⟨r, hr, hc⟩ := slIndex_l0 l n hl l.length 0 (by omega)
  refine Ev.congr (fun k => rfl) (Ev.bind (g := fun k => slices_Index_int64_int64.f k l n) hr (f := fun _ t => some (decide (t ≥ 0))) ?_)
  rw [show decide (r ≥ 0) = l.contains n by rw [Bool.eq_iff_iff, decide_eq_true_iff]; exact hc]
  exact Ev.now _

/-- Is a set right? -/
def setR (l : List Int) : Bool := rises l 1 (l.length - 1) && decide (l.length ≤ 400)
theorem specSetHas_ev (l : List Int) (n : Int) (hl : l.length ≤ 140737488355328) : Ev (fun k => spec_SetHas.f k l n) (setR l && l.contains n) := by
  refine Ev.congr (fun k => rfl) (Ev.bind (specSet_ev l hl) ?_)
  show Ev _ (setR l && l.contains n)
  unfold setR
  cases h : rises l 1 (l.length - 1) && decide (l.length ≤ 400)
  · simpa using Ev.now _
  · simpa using specHas_ev l n hl
theorem implSetHas_ev (l : List Int) (n : Int) (hl : l.length ≤ 140737488355328) : Ev (fun k => impl_SetHas.f k l n) (setR l && l.contains n) := by
  refine Ev.congr (fun k => rfl) (Ev.bind (implSet_ev l hl) ?_)
  show Ev _ (setR l && l.contains n)
  unfold setR
  cases h : rises l 1 (l.length - 1) && decide (l.length ≤ 400)
  · simpa using Ev.now _
  · simpa using slContains_ev l n hl

theorem toInts_l0 (l : List Int) (hl : l.length ≤ 140737488355328) : ∀ (d i : Nat) (ys : List Int), i + d = l.length → ys.length = l.length → Ev (fun k => laws_toInt64S.l0 k l ys (i : Int)) (ys.take i ++ l.drop i)
  | 0, i, ys, h, hy => Ev.step (f := fun _ => some ys) (fun k => by simp only [laws_toInt64S.l0]; rw [if_neg (by omega)]) (by
      have e : ys.take i ++ l.drop i = ys := by
        rw [List.drop_of_length_le (show l.length ≤ i by omega), List.append_nil, List.take_of_length_le (by omega)]
      rw [e]; exact Ev.now _)
  | d + 1, i, ys, h, hy => by
    have hw := wrap_succ (i := i) (n := l.length) (by omega) hl
    have e : (ys.set i (l.getD i 0)).take (i + 1) ++ l.drop (i + 1) = ys.take i ++ l.drop i := by
      have h1 : (ys.set i (l.getD i 0)).take (i + 1) = ys.take i ++ [l.getD i 0] := by
        rw [List.take_add_one, List.take_set, List.set_eq_of_length_le (by simp; omega), List.getElem?_set_self (by omega)]
        rfl
      rw [h1, List.append_assoc]
      congr 1
      rw [List.drop_eq_getElem_cons (show i < l.length by omega)]
      simp [List.getD, show i < l.length by omega]
    refine Ev.step (f := fun k => laws_toInt64S.l0 k l (ys.set i (l.getD i 0)) ((i + 1 : Nat) : Int)) (fun k => ?_) (by have := toInts_l0 l hl d (i + 1) (ys.set i (l.getD i 0)) (by omega) (by simpa using hy); rw [e] at this; exact this)
    simp only [laws_toInt64S.l0]
    rw [hw, rd_nat, if_pos (by omega), if_pos (by omega), if_pos (by omega)]
    simp

theorem toInts_ev (l : List Int) (hl : l.length ≤ 1048576) : Ev (fun k => laws_toInt64S.f k l) l := by
  refine Ev.congr (f := fun k => laws_toInt64S.l0 k l (List.replicate l.length 0) ((0 : Nat) : Int)) (fun k => ?_) (by simpa using toInts_l0 l (by omega) l.length 0 (List.replicate l.length 0) (by omega) (by simp))
  simp only [laws_toInt64S.f]
  rw [if_pos (by omega), if_pos (by omega)]
  simp


theorem eqInts_l0 (l m : List Int) (hl : l.length ≤ 140737488355328) (hm : m.length = l.length) : ∀ d i : Nat, i + d = l.length → Ev (fun k => laws_eqInt64S.l0 k l m (i : Int)) (decide (l.drop i = m.drop i))
  | 0, i, h => Ev.step (f := fun _ => some true) (fun k => by simp only [laws_eqInt64S.l0]; rw [if_neg (by omega)]) (by
      rw [List.drop_of_length_le (show l.length ≤ i by omega), List.drop_of_length_le (show m.length ≤ i by omega)]; exact Ev.now _)
  | d + 1, i, h => by
    have hw := wrap_succ (i := i) (n := l.length) (by omega) hl
    have e1 : l.drop i = l.getD i 0 :: l.drop (i + 1) := by
      rw [List.drop_eq_getElem_cons (show i < l.length by omega)]; simp [List.getD, show i < l.length by omega]
    have e2 : m.drop i = m.getD i 0 :: m.drop (i + 1) := by
      rw [List.drop_eq_getElem_cons (show i < m.length by omega)]; simp [List.getD, show i < m.length by omega]
    by_cases ho : l.getD i 0 = m.getD i 0
    · refine Ev.step (f := fun k => laws_eqInt64S.l0 k l m ((i + 1 : Nat) : Int)) (fun k => ?_) (by have := eqInts_l0 l m hl hm d (i + 1) (by omega); rw [e1, e2, ho, decide_eq_decide.2 (show (m.getD i 0 :: l.drop (i + 1) = m.getD i 0 :: m.drop (i + 1)) ↔ (l.drop (i + 1) = m.drop (i + 1)) by simp)]; exact this)
      simp only [laws_eqInt64S.l0]
      rw [hw, rd_nat, rd_nat, if_pos (by omega), if_pos (by omega), if_pos (by omega), if_pos ho]
    · refine Ev.step (f := fun k => some false) (fun k => ?_) (by rw [e1, e2, decide_eq_false (fun h => ho (List.cons.inj h).1)]; exact Ev.now _)
      simp only [laws_eqInt64S.l0]
      rw [rd_nat, rd_nat, if_pos (by omega), if_pos (by omega), if_pos (by omega), if_neg ho]

theorem eqInts_ev (l m : List Int) (hl : l.length ≤ 140737488355328) : Ev (fun k => laws_eqInt64S.f k l m) (decide (l = m)) := by
  by_cases h : m.length = l.length
  · refine Ev.congr (f := fun k => laws_eqInt64S.l0 k l m ((0 : Nat) : Int)) (fun k => ?_) (by simpa using eqInts_l0 l m hl h l.length 0 (by omega))
    simp only [laws_eqInt64S.f]; rw [if_pos (by omega)]; rfl
  · refine Ev.congr (f := fun k => some false) (fun k => ?_) (by
      have : l ≠ m := by rintro rfl; exact h rfl
      simpa [this] using Ev.now _)
    simp only [laws_eqInt64S.f]; rw [if_neg (by omega)]

theorem FnExactSetHas : laws_FnExactSetHas.Goal := by
  intro l n _ _
  by_cases hb : (l.length : Int) > 1048576
  · exact ⟨0, by simp only [laws_FnExactSetHas.f]; rw [if_pos hb]⟩
  · have hl : l.length ≤ 1048576 := by omega
    refine Ev.rounds (Ev.congr (fun k => by simp only [laws_FnExactSetHas.f]; rw [if_neg hb]) ?_)
    refine Ev.bind (toInts_ev l hl) (Ev.bind (specSetHas_ev l n (by omega)) (Ev.bind (toInts_ev l hl) (Ev.bind (implSetHas_ev l n (by omega)) ?_)))
    simp only [bne_self_eq_false, Bool.false_eq_true, if_false]
    refine Ev.bind (toInts_ev l hl) (Ev.bind (eqInts_ev l l (by omega)) ?_)
    simpa using Ev.now _

end Go.Proofs.Ytfemkhfjngepmaa.Pure
