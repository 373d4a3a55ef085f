/- The plain law of FnExactTurnRight: what the Lean functions of the printed texts answer. -/
import Derived.Test.YtpadikfnnfnelaaGFnExactTurnRight
import Derived.Test.YtpadikfnnfnelaaHSem
namespace Go.Proofs.Ytpadikfnnfnelaa.Pure
open Go.RowKit Go.Proofs.Ytpadikfnnfnelaa.PFnExactTurnRight Go.Proofs.YtpadikfnnfnelaaW.PrintWords Go.Proofs.YtpadikfnnfnelaaW.PrintLast Go.Proofs.YtpadikfnnfnelaaW.PrintMore Go.Proofs.YtpadikfnnfnelaaH
set_option linter.unusedVariables false
set_option linter.unusedSimpArgs false

theorem toInts_l0 (l : List Int) (hl : l.length ≤ 140737488355328) : ∀ (d i : Nat) (ys : List Int), i + d = l.length → ys.length = l.length → Ev (fun k => laws_toInt64S.l0 k l ys (i : Int)) (ys.take i ++ l.drop i)
  | 0, i, ys, h, hy => Ev.step (f := fun _ => some ys) (fun k => by simp only [laws_toInt64S.l0]; rw [if_neg (by omega)]) (by
      have e : ys.take i ++ l.drop i = ys := by
        rw [List.drop_of_length_le (show l.length ≤ i by omega), List.append_nil, List.take_of_length_le (by omega)]
      rw [e]; exact Ev.now _)
  | d + 1, i, ys, h, hy => by
    have hw := wrap_succ (i := i) (n := l.length) (by omega) hl
    have e : (ys.set i (l.getD i 0)).take (i + 1) ++ l.drop (i + 1) = ys.take i ++ l.drop i := by
      have h1 : (ys.set i (l.getD i 0)).take (i + 1) = ys.take i ++ [l.getD i 0] := by
        rw [List.take_add_one, List.take_set, List.set_eq_of_length_le (by simp; omega), List.getElem?_set_self (by omega)]
        rfl
      rw [h1, List.append_assoc]
      congr 1
      rw [List.drop_eq_getElem_cons (show i < l.length by omega)]
      simp [List.getD, show i < l.length by omega]
    refine Ev.step (f := fun k => laws_toInt64S.l0 k l (ys.set i (l.getD i 0)) ((i + 1 : Nat) : Int)) (fun k => ?_) (by have := toInts_l0 l hl d (i + 1) (ys.set i (l.getD i 0)) (by omega) (by simpa using hy); rw [e] at this; exact this)
    simp only [laws_toInt64S.l0]
    rw [hw, rd_nat, if_pos (by omega), if_pos (by omega), if_pos (by omega)]
    simp

theorem toInts_ev (l : List Int) (hl : l.length ≤ 1048576) : Ev (fun k => laws_toInt64S.f k l) l := by
  refine Ev.congr (f := fun k => laws_toInt64S.l0 k l (List.replicate l.length 0) ((0 : Nat) : Int)) (fun k => ?_) (by simpa using toInts_l0 l (by omega) l.length 0 (List.replicate l.length 0) (by omega) (by simp))
  simp only [laws_toInt64S.f]
  rw [if_pos (by omega), if_pos (by omega)]
  simp


theorem eqInts_l0 (l m : List Int) (hl : l.length ≤ 140737488355328) (hm : m.length = l.length) : ∀ d i : Nat, i + d = l.length → Ev (fun k => laws_eqInt64S.l0 k l m (i : Int)) (decide (l.drop i = m.drop i))
  | 0, i, h => Ev.step (f := fun _ => some true) (fun k => by simp only [laws_eqInt64S.l0]; rw [if_neg (by omega)]) (by
      rw [List.drop_of_length_le (show l.length ≤ i by omega), List.drop_of_length_le (show m.length ≤ i by omega)]; exact Ev.now _)
  | d + 1, i, h => by
    have hw := wrap_succ (i := i) (n := l.length) (by omega) hl
    have e1 : l.drop i = l.getD i 0 :: l.drop (i + 1) := by
      rw [List.drop_eq_getElem_cons (show i < l.length by omega)]; simp [List.getD, show i < l.length by omega]
    have e2 : m.drop i = m.getD i 0 :: m.drop (i + 1) := by
      rw [List.drop_eq_getElem_cons (show i < m.length by omega)]; simp [List.getD, show i < m.length by omega]
    by_cases ho : l.getD i 0 = m.getD i 0
    · refine Ev.step (f := fun k => laws_eqInt64S.l0 k l m ((i + 1 : Nat) : Int)) (fun k => ?_) (by have := eqInts_l0 l m hl hm d (i + 1) (by omega); rw [e1, e2, ho, decide_eq_decide.2 (show (m.getD i 0 :: l.drop (i + 1) = m.getD i 0 :: m.drop (i + 1)) ↔ (l.drop (i + 1) = m.drop (i + 1)) by simp)]; exact this)
      simp only [laws_eqInt64S.l0]
      rw [hw, rd_nat, rd_nat, if_pos (by omega), if_pos (by omega), if_pos (by omega), if_pos ho]
    · refine Ev.step (f := fun k => some false) (fun k => ?_) (by rw [e1, e2, decide_eq_false (fun h => ho (List.cons.inj h).1)]; exact Ev.now _)
      simp only [laws_eqInt64S.l0]
      rw [rd_nat, rd_nat, if_pos (by omega), if_pos (by omega), if_pos (by omega), if_neg ho]

theorem eqInts_ev (l m : List Int) (hl : l.length ≤ 140737488355328) : Ev (fun k => laws_eqInt64S.f k l m) (decide (l = m)) := by
  by_cases h : m.length = l.length
  · refine Ev.congr (f := fun k => laws_eqInt64S.l0 k l m ((0 : Nat) : Int)) (fun k => ?_) (by simpa using eqInts_l0 l m hl h l.length 0 (by omega))
    simp only [laws_eqInt64S.f]; rw [if_pos (by omega)]; rfl
  · refine Ev.congr (f := fun k => some false) (fun k => ?_) (by
      have : l ≠ m := by rintro rfl; exact h rfl
      simpa [this] using Ev.now _)
    simp only [laws_eqInt64S.f]; rw [if_neg (by omega)]

theorem szTurn_eq (l : List Int) (a : Int) (hl : (l.length : Int) ≤ 9223372036854775807) : laws_szTurn.f l a 1048576 = some (if 1048576 < l.length then -1 else 1048576 - (l.length : Int)) := by
  have h : laws_szInt64S.f l 1048576 = some (if 1048576 < l.length then -1 else 1048576 - (l.length : Int)) := by
    unfold laws_szInt64S.f
    rw [wrap_id (by omega) (by omega)]
    split <;> split <;> first | rfl | omega
  simp only [laws_szTurn.f, h, Option.bind_some]
  split <;> split <;> first | rfl | omega
theorem toTurn_ev (l : List Int) (a : Int) (hl : l.length ≤ 1048576) : Ev (fun k => laws_toTurn.f k l a) (l, a) := Ev.congr (fun k => rfl) (Ev.bind (toInts_ev l hl) (Ev.now _))
theorem eqTurn_ev (l : List Int) (a : Int) (m : List Int) (b : Int) (hl : l.length ≤ 140737488355328) : Ev (fun k => laws_eqTurn.f k l a m b) (decide (l = m) && decide (a = b)) := by
  refine Ev.congr (fun k => rfl) (Ev.bind (eqInts_ev l m hl) ?_)
  by_cases h : l = m <;> by_cases h2 : a = b <;> simp [h, h2] <;> exact Ev.now _

theorem spec_l02Is_eq (a b c : Int) : spec_l02Is.f a b c = some (inR a b c) := by
  by_cases h : b ≤ a <;> simp [spec_l02Is.f, inR, h]

theorem specHas_l0 (l : List Int) (n : Int) (hl : l.length ≤ 140737488355328) : ∀ d i : Nat, i + d = l.length → Ev (fun k => spec_l02Has.l0 k l n (i : Int)) ((l.drop i).contains n)
  | 0, i, h => Ev.step (f := fun _ => some false) (fun k => by simp only [spec_l02Has.l0]; rw [if_neg (by omega)]) (by rw [List.drop_of_length_le (by omega)]; exact Ev.now _)
  | d + 1, i, h => by
    have hw := wrap_succ (i := i) (n := l.length) (by omega) hl
    rw [drop_at l 0 (show i < l.length by omega), List.contains_cons]
    by_cases ho : l.getD i 0 = n
    · refine Ev.step (f := fun k => some true) (fun k => ?_) (by rw [ho, beq_self_eq_true, Bool.true_or]; exact Ev.now _)
      simp only [spec_l02Has.l0]
      rw [rd_nat, if_pos (by omega), if_pos (by omega), if_pos ho]
    · refine Ev.step (f := fun k => spec_l02Has.l0 k l n ((i + 1 : Nat) : Int)) (fun k => ?_) (by rw [beq_eq_false_iff_ne.2 (Ne.symm ho), Bool.false_or]; exact specHas_l0 l n hl d (i + 1) (by omega))
      simp only [spec_l02Has.l0]
      rw [hw, rd_nat, if_pos (by omega), if_pos (by omega), if_neg ho]
theorem specHas_ev (l : List Int) (n : Int) (hl : l.length ≤ 140737488355328) : Ev (fun k => spec_l02Has.f k l n) (l.contains n) := specHas_l0 l n hl l.length 0 (by omega)

/-- May the number at place i stand there, as a node that is not ahead of it? -/
def nodesT (l : List Int) (i : Nat) : Bool := inR (l.getD i 0) 1 6 && !(l.take i).contains (l.getD i 0)
/-- Nodes, no two alike. -/
def nodesR (l : List Int) : Bool := allB (nodesT l) 0 l.length
theorem nodesR_six {l : List Int} (h : nodesR l = true) : (∀ x ∈ l, 1 ≤ x ∧ x ≤ 6) ∧ l.Nodup ∧ l.length ≤ 6 := by
  have key : ∀ j, j < l.length → (1 ≤ l.getD j 0 ∧ l.getD j 0 ≤ 6) ∧ (l.take j).contains (l.getD j 0) = false := by
    intro j hj
    have := (allB_iff _ _ _).1 h j (by omega) (by omega)
    rw [nodesT, Bool.and_eq_true, inR_iff, Bool.not_eq_true'] at this
    exact this
  have h1 : ∀ x ∈ l, 1 ≤ x ∧ x ≤ 6 := by
    intro x hx
    obtain ⟨j, hj, rfl⟩ := List.getElem_of_mem hx
    have := (key j hj).1
    simpa [List.getD, hj] using this
  have h2 := nodup_of_all l (fun j hj => (key j hj).2)
  exact ⟨h1, h2, apart_six l h1 h2⟩
/-- Is a turn right? -/
def turnR (l : List Int) (a : Int) : Bool := nodesR l && inR a 0 l.length

theorem spec_l04Node_eq' (a : Int) : spec_l04Node.f a = some (inR a 1 6) := by simp [spec_l04Node.f, spec_l02Is_eq]
theorem specNodes_ev (l : List Int) : Ev (fun k => spec_l07Nodes.f k l) (nodesR l) := by
  by_cases h6 : l.length ≤ 6
  · have hh := allLoopE l.length (nodesT l) true (fun k i => spec_l07Nodes.l0 k l i) (fun i hi R hR => by
        have hb : Ev (fun k => spec_l02Has.f k (l.take i) (l.getD i 0)) ((l.take i).contains (l.getD i 0)) := specHas_ev _ _ (by simp; omega)
        rw [nodesT, Bool.and_assoc]
        refine Ev.step (f := fun k => if inR (l.getD i 0) 1 6 = true then (spec_l02Has.f k (l.take i) (l.getD i 0)).bind fun t109 => (if t109 = true then (some false) else (spec_l07Nodes.l0 k l ((i + 1 : Nat) : Int))) else some false) (fun k => ?_) ?_
        · simp only [spec_l07Nodes.l0, spec_l04Node_eq', Option.bind_some]
          rw [if_pos (by omega), if_pos (by omega), rd_nat, wrap_succ hi (by omega)]
          simp only [if_pos (show (i : Int) ≤ (l.length : Int) by omega), Int.toNat_natCast]
        · by_cases hr : inR (l.getD i 0) 1 6 = true
          · simp only [if_pos hr]
            refine Ev.bind hb ?_
            rw [hr, Bool.true_and]
            cases (l.take i).contains (l.getD i 0) with
            | true => simpa using Ev.now false
            | false => simpa using hR
          · simp only [if_neg hr]
            rw [Bool.not_eq_true] at hr
            rw [hr, Bool.false_and]
            exact Ev.now _) (Ev.step (f := fun _ => some true) (fun k => by simp only [spec_l07Nodes.l0]; rw [if_neg (by omega)]) (Ev.now _)) l.length 0 (by omega)
    rw [Bool.and_true] at hh
    refine Ev.congr (fun k => ?_) hh
    simp only [spec_l07Nodes.f]; rw [if_neg (by omega)]; rfl
  · have : nodesR l = false := by
      cases h : nodesR l with
      | false => rfl
      | true => exact absurd (nodesR_six h).2.2 h6
    rw [this]
    refine Ev.congr (f := fun _ => some false) (fun k => ?_) (Ev.now _)
    simp only [spec_l07Nodes.f]; rw [if_pos (by omega)]
theorem specTurn_ev (l : List Int) (a : Int) : Ev (fun k => spec_TurnRight.f k l a) (turnR l a) := by
  refine Ev.congr (fun k => rfl) (Ev.bind (specNodes_ev l) ?_)
  unfold turnR
  simp only [spec_l02Is_eq, Option.bind_some]
  cases nodesR l with
  | true => simpa using Ev.now _
  | false => simpa using Ev.now _

theorem impl_within_eq (a b c : Int) : impl_within.f a b c = some (inR a b c) := by
  by_cases h : b ≤ a <;> simp [impl_within.f, inR, h]

theorem slIndex_l0 (l : List Int) (n : Int) (hl : l.length ≤ 140737488355328) : ∀ d i : Nat, i + d = l.length → ∃ r : Int, Ev (fun k => slices_Index_int64_int64.l0 k l n (l.length : Int) (i : Int)) r ∧ (0 ≤ r ↔ (l.drop i).contains n = true)
  | 0, i, h => ⟨-1, Ev.step (f := fun _ => some (-1)) (fun k => by simp only [slices_Index_int64_int64.l0]; rw [if_neg (by omega)]) (Ev.now _), by rw [List.drop_of_length_le (by omega)]; simp⟩
  | d + 1, i, h => by
    have hw := wrap_succ (i := i) (n := l.length) (by omega) hl
    rw [drop_at l 0 (show i < l.length by omega), List.contains_cons]
    by_cases ho : n = l.getD i 0
    · refine ⟨(i : Int), Ev.step (f := fun k => some (i : Int)) (fun k => ?_) (Ev.now _), by rw [← ho]; simp⟩
      simp only [slices_Index_int64_int64.l0]
      rw [rd_nat, if_pos (by omega), if_pos (by omega), if_pos (by omega), if_pos ho]
    · obtain ⟨r, hr, hc⟩ := slIndex_l0 l n hl d (i + 1) (by omega)
      refine ⟨r, Ev.step (f := fun k => slices_Index_int64_int64.l0 k l n (l.length : Int) ((i + 1 : Nat) : Int)) (fun k => ?_) hr, by rw [beq_eq_false_iff_ne.2 ho, Bool.false_or]; exact hc⟩
      simp only [slices_Index_int64_int64.l0]
      rw [hw, rd_nat, if_pos (by omega), if_pos (by omega), if_pos (by omega), if_neg ho]
theorem slContains_ev (l : List Int) (n : Int) (hl : l.length ≤ 140737488355328) : Ev (fun k => slices_Contains_int64_int64.f k l n) (l.contains n) := by
  obtain ⟨r, hr, hc⟩ := slIndex_l0 l n hl l.length 0 (by omega)
  refine Ev.congr (fun k => rfl) (Ev.bind (g := fun k => slices_Index_int64_int64.f k l n) hr (f := fun _ t => some (decide (t ≥ 0))) ?_)
  rw [show decide (r ≥ 0) = l.contains n by rw [Bool.eq_iff_iff, decide_eq_true_iff]; exact hc]
  exact Ev.now _

theorem impl_isNode_eq' (a : Int) : impl_isNode.f a = some (inR a 1 6) := by simp [impl_isNode.f, impl_within_eq]
theorem implTurn_ev (l : List Int) (a : Int) (hl : l.length ≤ 140737488355328) : Ev (fun k => impl_TurnRight.f k l a) (turnR l a) := by
  have hh := allLoopE l.length (nodesT l) (decide (l.length ≤ 6) && inR a 0 l.length) (fun k i => impl_TurnRight.l0 k l (l.length : Int) i l a) (fun i hi R hR => by
        have hb : Ev (fun k => slices_Contains_int64_int64.f k (l.take i) (l.getD i 0)) ((l.take i).contains (l.getD i 0)) := slContains_ev _ _ (by simp; omega)
        rw [nodesT, Bool.and_assoc]
        refine Ev.step (f := fun k => if inR (l.getD i 0) 1 6 = true then (slices_Contains_int64_int64.f k (l.take i) (l.getD i 0)).bind fun t109 => (if t109 = true then (some false) else (impl_TurnRight.l0 k l (l.length : Int) ((i + 1 : Nat) : Int) l a)) else some false) (fun k => ?_) ?_
        · simp only [impl_TurnRight.l0, impl_isNode_eq', Option.bind_some]
          rw [if_pos (by omega), if_pos (by omega), if_pos (by omega), rd_nat, wrap_succ hi hl]
          simp only [if_pos (show (i : Int) ≤ (l.length : Int) by omega), Int.toNat_natCast]
        · by_cases hr : inR (l.getD i 0) 1 6 = true
          · simp only [if_pos hr]
            refine Ev.bind hb ?_
            rw [hr, Bool.true_and]
            cases (l.take i).contains (l.getD i 0) with
            | true => simpa using Ev.now false
            | false => simpa using hR
          · simp only [if_neg hr]
            rw [Bool.not_eq_true] at hr
            rw [hr, Bool.false_and]
            exact Ev.now _) (Ev.step (f := fun _ => some (decide (l.length ≤ 6) && inR a 0 l.length)) (fun k => by
        simp only [impl_TurnRight.l0, impl_within_eq, Option.bind_some]
        rw [if_neg (by omega)]
        by_cases h6 : l.length ≤ 6
        · rw [if_pos (by omega), decide_eq_true h6, Bool.true_and]
        · rw [if_neg (by omega), decide_eq_false h6, Bool.false_and]) (Ev.now _)) l.length 0 (by omega)
  refine Ev.ofBool hh ?_
  show (nodesR l && _) = _
  unfold turnR
  cases h : nodesR l with
  | false => rfl
  | true => rw [decide_eq_true (nodesR_six h).2.2]; simp

theorem FnExactTurnRight : laws_FnExactTurnRight.Goal := by
  intro l a hm _ _
  by_cases hb : 1048576 < l.length
  · refine Ev.rounds (Ev.congr (f := fun _ => some true) (fun k => ?_) (Ev.now _))
    simp only [laws_FnExactTurnRight.f, szTurn_eq l a (by omega), Option.bind_some]
    rw [if_pos hb, if_pos (by omega)]
  · have hl : l.length ≤ 1048576 := by omega
    refine Ev.rounds (Ev.congr (fun k => by simp only [laws_FnExactTurnRight.f, szTurn_eq l a (by omega), Option.bind_some]; rw [if_neg hb, if_neg (by omega)]) ?_)
    refine Ev.bind (toTurn_ev l a hl) (Ev.bind (specTurn_ev l a) (Ev.bind (toTurn_ev l a hl) (Ev.bind (implTurn_ev l a (by omega)) ?_)))
    simp only [bne_self_eq_false, Bool.false_eq_true, if_false]
    refine Ev.bind (toTurn_ev l a hl) (Ev.bind (eqTurn_ev l a l a (by omega)) ?_)
    simpa using Ev.now _

end Go.Proofs.Ytpadikfnnfnelaa.Pure
