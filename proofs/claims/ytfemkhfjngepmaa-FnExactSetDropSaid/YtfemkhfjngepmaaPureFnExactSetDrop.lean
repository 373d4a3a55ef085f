/- The plain law of FnExactSetDrop: what the Lean functions of the printed texts answer. -/
import Derived.Test.YtfemkhfjngepmaaGFnExactSetDrop
import Derived.Test.YtfemkhfjngepmaaHSem
namespace Go.Proofs.Ytfemkhfjngepmaa.Pure
open Go.RowKit Go.Proofs.Ytfemkhfjngepmaa.PFnExactSetDrop Go.Proofs.YtfemkhfjngepmaaW.PrintWords Go.Proofs.YtfemkhfjngepmaaW.PrintLast Go.Proofs.YtfemkhfjngepmaaW.PrintMore Go.Proofs.YtfemkhfjngepmaaH
set_option linter.unusedVariables false
set_option linter.unusedSimpArgs false

/-- Is a set right? -/
def setR (l : List Int) : Bool := rises l 1 (l.length - 1) && decide (l.length ≤ 400)
theorem rises_iff (l : List Int) : ∀ d i : Nat, rises l i d = true ↔ ∀ j, i ≤ j → j < i + d → l.getD (j - 1) 0 < l.getD j 0
  | 0, i => by simp [rises]; intro j h1 h2; omega
  | d + 1, i => by
    rw [rises, Bool.and_eq_true, rises_iff l d (i + 1), decide_eq_true_iff]
    constructor
    · rintro ⟨h1, h2⟩ j hj hk
      rcases Nat.lt_or_ge i j with h | h
      · exact h2 j h (by omega)
      · have : j = i := by omega
        rw [this]; exact h1
    · intro h
      exact ⟨h i (by omega) (by omega), fun j h1 h2 => h j (by omega) (by omega)⟩
theorem setR_lt {l : List Int} (h : setR l = true) : ∀ b a : Nat, a < b → b < l.length → l.getD a 0 < l.getD b 0 := by
  rw [setR, Bool.and_eq_true, rises_iff] at h
  intro b
  induction b with
  | zero => intro a h1; omega
  | succ b ih =>
    intro a h1 h2
    have h3 := h.1 (b + 1) (by omega) (by omega)
    rw [Nat.add_sub_cancel] at h3
    rcases Nat.lt_or_ge a b with h4 | h4
    · have := ih a h4 (by omega); omega
    · have : a = b := by omega
      subst this; exact h3

theorem specSet_l0 (l : List Int) (hl : l.length ≤ 140737488355328) : ∀ d i : Nat, 0 < i → (i + d = l.length ∨ (d = 0 ∧ l.length ≤ i)) → Ev (fun k => spec_SetRight.l0 k l (i : Int)) (rises l i d)
  | 0, i, h0, h => Ev.step (f := fun _ => some true) (fun k => by simp only [spec_SetRight.l0]; rw [if_neg (by omega)]) (Ev.now _)
  | d + 1, i, h0, h => by
    have hw := wrap_succ (i := i) (n := l.length) (by omega) hl
    have hp := wrap_pred (i := i) (n := l.length) h0 (by omega) hl
    by_cases ho : l.getD (i - 1) 0 < l.getD i 0
    · refine Ev.step (f := fun k => spec_SetRight.l0 k l ((i + 1 : Nat) : Int)) (fun k => ?_) (by rw [rises, decide_eq_true ho, Bool.true_and]; exact specSet_l0 l hl d (i + 1) (by omega) (by omega))
      simp only [spec_SetRight.l0]
      rw [hw, hp, rd_nat, rd_nat]
      repeat' split
      all_goals first | rfl | omega
    · refine Ev.step (f := fun k => some false) (fun k => ?_) (by rw [rises, decide_eq_false ho, Bool.false_and]; exact Ev.now _)
      simp only [spec_SetRight.l0]
      rw [hw, hp, rd_nat, rd_nat]
      repeat' split
      all_goals first | rfl | omega

theorem specSet_ev (l : List Int) (hl : l.length ≤ 140737488355328) : Ev (fun k => spec_SetRight.f k l) (rises l 1 (l.length - 1) && decide (l.length ≤ 400)) := by
  by_cases h : l.length ≤ 400
  · refine Ev.congr (f := fun k => spec_SetRight.l0 k l ((1 : Nat) : Int)) (fun k => ?_) (by simpa [h] using specSet_l0 l hl (l.length - 1) 1 (by omega) (by omega))
    simp only [spec_SetRight.f]; rw [if_neg (by omega)]; rfl
  · refine Ev.congr (f := fun k => some false) (fun k => ?_) (by simpa [h] using Ev.now _)
    simp only [spec_SetRight.f]; rw [if_pos (by omega)]


theorem implSet_l0 (l : List Int) (hl : l.length ≤ 140737488355328) : ∀ d i : Nat, 0 < i → (i + d = l.length ∨ (d = 0 ∧ l.length ≤ i)) → Ev (fun k => impl_SetRight.l0 k l (i : Int)) (rises l i d && decide (l.length ≤ 400))
  | 0, i, h0, h => Ev.step (f := fun _ => some (decide (l.length ≤ 400))) (fun k => by
      simp only [impl_SetRight.l0, impl_longList_int64.f, Option.bind_some]; rw [if_neg (by omega)]
      congr 1; rw [Bool.eq_iff_iff]; simp; omega) (by simpa [rises] using Ev.now _)
  | d + 1, i, h0, h => by
    have hw := wrap_succ (i := i) (n := l.length) (by omega) hl
    have hp := wrap_pred (i := i) (n := l.length) h0 (by omega) hl
    by_cases ho : l.getD (i - 1) 0 < l.getD i 0
    · refine Ev.step (f := fun k => impl_SetRight.l0 k l ((i + 1 : Nat) : Int)) (fun k => ?_) (by rw [rises, decide_eq_true ho, Bool.true_and]; exact implSet_l0 l hl d (i + 1) (by omega) (by omega))
      simp only [impl_SetRight.l0]
      rw [hw, hp, rd_nat, rd_nat]
      repeat' split
      all_goals first | rfl | omega
    · refine Ev.step (f := fun k => some false) (fun k => ?_) (by rw [rises, decide_eq_false ho, Bool.false_and, Bool.false_and]; exact Ev.now _)
      simp only [impl_SetRight.l0]
      rw [hw, hp, rd_nat, rd_nat]
      repeat' split
      all_goals first | rfl | omega

theorem implSet_ev (l : List Int) (hl : l.length ≤ 140737488355328) : Ev (fun k => impl_SetRight.f k l) (rises l 1 (l.length - 1) && decide (l.length ≤ 400)) :=
  implSet_l0 l hl (l.length - 1) 1 (by omega) (by omega)


/-- SetDrop. -/
def setDropS (l : List Int) (n : Int) : List Int := if 400 < l.length then [] else if setR l = true then l.filter (fun x => !impl_without.p n x) else l
theorem setDropS_length (l : List Int) (n : Int) : (setDropS l n).length ≤ 400 := by
  unfold setDropS
  repeat' split
  · simp
  · have := List.length_filter_le (fun x => !impl_without.p n x) l
    omega
  · omega
theorem specSDrop_l0 (l : List Int) (n : Int) (hl : l.length ≤ 400) : ∀ (d i : Nat) (acc : List Int), i + d = l.length → acc.length ≤ i → Ev (fun k => spec_l02Drop.l0 k l n acc (i : Int)) (acc ++ (l.drop i).filter (fun x => !impl_without.p n x))
  | 0, i, acc, h, ha => by
    refine Ev.step (f := fun _ => some acc) (fun k => ?_) ?_
    · simp only [spec_l02Drop.l0]; rw [if_neg (by omega)]
    · rw [List.drop_of_length_le (by omega)]
      simpa using Ev.now acc
  | d + 1, i, acc, h, ha => by
    have hi : i < l.length := by omega
    have hw : wrap64 ((i : Int) + 1) = ((i + 1 : Nat) : Int) := wrap_succ hi (by omega)
    rw [drop_at l 0 hi]
    by_cases hc : l.getD i 0 = n
    · have hp : impl_without.p n (l.getD i 0) = true := by simp [impl_without.p, -List.getD_eq_getElem?_getD, hc]
      rw [List.filter_cons, hp]
      refine Ev.step (fun k => ?_) (specSDrop_l0 l n hl d (i + 1) acc (by omega) (by omega))
      simp only [spec_l02Drop.l0]
      rw [if_pos (by omega), if_pos (by omega), rd_nat, if_pos hc, hw]
    · have hp : impl_without.p n (l.getD i 0) = false := by simp [impl_without.p, -List.getD_eq_getElem?_getD, hc]
      rw [List.filter_cons, hp]
      have := specSDrop_l0 l n hl d (i + 1) (acc ++ [l.getD i 0]) (by omega) (by rw [List.length_append, List.length_singleton]; omega)
      rw [List.append_assoc] at this
      refine Ev.step (fun k => ?_) this
      simp only [spec_l02Drop.l0]
      rw [if_pos (by omega), if_pos (by omega), rd_nat, if_neg hc, if_pos (by omega), hw]
theorem specSetDrop_ev (l : List Int) (n : Int) (hl : l.length ≤ 140737488355328) : Ev (fun k => spec_SetDrop.f k l n) (setDropS l n) := by
  unfold setDropS
  by_cases h4 : 400 < l.length
  · rw [if_pos h4]
    refine Ev.congr (f := fun _ => some _) (fun k => ?_) (Ev.now _)
    simp only [spec_SetDrop.f]; rw [if_pos (by omega)]
  · rw [if_neg h4]
    refine Ev.congr (fun k => by simp only [spec_SetDrop.f]; rw [if_neg (by omega)]) (Ev.bind (specSet_ev l hl) ?_)
    rw [← setR]
    by_cases hq : setR l = true
    · simp only [if_pos hq]
      have := specSDrop_l0 l n (by omega) l.length 0 [] (by omega) (by simp)
      rw [List.nil_append, List.drop_zero] at this
      exact Ev.bind (Ev.congr (fun k => rfl) this) (Ev.now _)
    · simp only [if_neg hq, Option.bind_some, List.length_nil, Nat.zero_add, List.nil_append]
      rw [if_pos (by omega)]
      exact Ev.now _
theorem implSetDrop_ev (l : List Int) (n : Int) (hl : l.length ≤ 1048576) : Ev (fun k => impl_SetDrop.f k l n) (setDropS l n) := by
  unfold setDropS
  by_cases h4 : 400 < l.length
  · rw [if_pos h4]
    refine Ev.congr (f := fun _ => some _) (fun k => ?_) (Ev.now _)
    simp only [impl_SetDrop.f, impl_longList_int64.f, Option.bind_some]; rw [if_pos (by simp; omega)]
  · rw [if_neg h4]
    refine Ev.congr (fun k => by simp only [impl_SetDrop.f, impl_longList_int64.f, Option.bind_some]; rw [if_neg (by simp; omega)]) (Ev.bind (implSet_ev l (by omega)) ?_)
    rw [← setR]
    by_cases hq : setR l = true
    · simp only [if_pos hq, impl_without.f, slices_Clone_int64_int64.f]
      rw [if_pos (by omega), if_pos (by omega)]
      exact Ev.now _
    · simp only [if_neg hq, slices_Clone_int64_int64.f]
      rw [if_pos (by omega)]
      exact Ev.now _

theorem toInts_l0 (l : List Int) (hl : l.length ≤ 140737488355328) : ∀ (d i : Nat) (ys : List Int), i + d = l.length → ys.length = l.length → Ev (fun k => laws_toInt64S.l0 k l ys (i : Int)) (ys.take i ++ l.drop i)
  | 0, i, ys, h, hy => Ev.step (f := fun _ => some ys) (fun k => by simp only [laws_toInt64S.l0]; rw [if_neg (by omega)]) (by
      have e : ys.take i ++ l.drop i = ys := by
        rw [List.drop_of_length_le (show l.length ≤ i by omega), List.append_nil, List.take_of_length_le (by omega)]
      rw [e]; exact Ev.now _)
  | d + 1, i, ys, h, hy => by
    have hw := wrap_succ (i := i) (n := l.length) (by omega) hl
    have e : (ys.set i (l.getD i 0)).take (i + 1) ++ l.drop (i + 1) = ys.take i ++ l.drop i := by
      have h1 : (ys.set i (l.getD i 0)).take (i + 1) = ys.take i ++ [l.getD i 0] := by
        rw [List.take_add_one, List.take_set, List.set_eq_of_length_le (by simp; omega), List.getElem?_set_self (by omega)]
        rfl
      rw [h1, List.append_assoc]
      congr 1
      rw [List.drop_eq_getElem_cons (show i < l.length by omega)]
      simp [List.getD, show i < l.length by omega]
    refine Ev.step (f := fun k => laws_toInt64S.l0 k l (ys.set i (l.getD i 0)) ((i + 1 : Nat) : Int)) (fun k => ?_) (by have := toInts_l0 l hl d (i + 1) (ys.set i (l.getD i 0)) (by omega) (by simpa using hy); rw [e] at this; exact this)
    simp only [laws_toInt64S.l0]
    rw [hw, rd_nat, if_pos (by omega), if_pos (by omega), if_pos (by omega)]
    simp

theorem toInts_ev (l : List Int) (hl : l.length ≤ 1048576) : Ev (fun k => laws_toInt64S.f k l) l := by
  refine Ev.congr (f := fun k => laws_toInt64S.l0 k l (List.replicate l.length 0) ((0 : Nat) : Int)) (fun k => ?_) (by simpa using toInts_l0 l (by omega) l.length 0 (List.replicate l.length 0) (by omega) (by simp))
  simp only [laws_toInt64S.f]
  rw [if_pos (by omega), if_pos (by omega)]
  simp


theorem eqInts_l0 (l m : List Int) (hl : l.length ≤ 140737488355328) (hm : m.length = l.length) : ∀ d i : Nat, i + d = l.length → Ev (fun k => laws_eqInt64S.l0 k l m (i : Int)) (decide (l.drop i = m.drop i))
  | 0, i, h => Ev.step (f := fun _ => some true) (fun k => by simp only [laws_eqInt64S.l0]; rw [if_neg (by omega)]) (by
      rw [List.drop_of_length_le (show l.length ≤ i by omega), List.drop_of_length_le (show m.length ≤ i by omega)]; exact Ev.now _)
  | d + 1, i, h => by
    have hw := wrap_succ (i := i) (n := l.length) (by omega) hl
    have e1 : l.drop i = l.getD i 0 :: l.drop (i + 1) := by
      rw [List.drop_eq_getElem_cons (show i < l.length by omega)]; simp [List.getD, show i < l.length by omega]
    have e2 : m.drop i = m.getD i 0 :: m.drop (i + 1) := by
      rw [List.drop_eq_getElem_cons (show i < m.length by omega)]; simp [List.getD, show i < m.length by omega]
    by_cases ho : l.getD i 0 = m.getD i 0
    · refine Ev.step (f := fun k => laws_eqInt64S.l0 k l m ((i + 1 : Nat) : Int)) (fun k => ?_) (by have := eqInts_l0 l m hl hm d (i + 1) (by omega); rw [e1, e2, ho, decide_eq_decide.2 (show (m.getD i 0 :: l.drop (i + 1) = m.getD i 0 :: m.drop (i + 1)) ↔ (l.drop (i + 1) = m.drop (i + 1)) by simp)]; exact this)
      simp only [laws_eqInt64S.l0]
      rw [hw, rd_nat, rd_nat, if_pos (by omega), if_pos (by omega), if_pos (by omega), if_pos ho]
    · refine Ev.step (f := fun k => some false) (fun k => ?_) (by rw [e1, e2, decide_eq_false (fun h => ho (List.cons.inj h).1)]; exact Ev.now _)
      simp only [laws_eqInt64S.l0]
      rw [rd_nat, rd_nat, if_pos (by omega), if_pos (by omega), if_pos (by omega), if_neg ho]

theorem eqInts_ev (l m : List Int) (hl : l.length ≤ 140737488355328) : Ev (fun k => laws_eqInt64S.f k l m) (decide (l = m)) := by
  by_cases h : m.length = l.length
  · refine Ev.congr (f := fun k => laws_eqInt64S.l0 k l m ((0 : Nat) : Int)) (fun k => ?_) (by simpa using eqInts_l0 l m hl h l.length 0 (by omega))
    simp only [laws_eqInt64S.f]; rw [if_pos (by omega)]; rfl
  · refine Ev.congr (f := fun k => some false) (fun k => ?_) (by
      have : l ≠ m := by rintro rfl; exact h rfl
      simpa [this] using Ev.now _)
    simp only [laws_eqInt64S.f]; rw [if_neg (by omega)]

theorem markInts_ev (l : List Int) (a : Int) (ha : 0 ≤ a) (hb : a + l.length ≤ 4611686018427387904) : Ev (fun k => laws_markInt64S.f k l a) (a + l.length, marks (fun x => x) 1 a l.length) := by
  have h := markLoop l.length (fun x : Int => x) 1 (by omega) (fun k ys a i => laws_markInt64S.l0 k ys a i) (fun k i a ys hi hy h0 h1 => by
      simp only [laws_markInt64S.l0]
      rw [if_pos (by omega), if_pos (by omega), wrap_id (x := a + 1) (by omega) (by omega), wrap_id (x := (i : Int) + 1) (by omega) (by omega)]
      simp) (fun k a ys hy => by
      simp only [laws_markInt64S.l0]
      rw [if_neg (by omega)]) l.length 0 a l (by omega) rfl ha (by omega)
  simpa [Int.one_mul, laws_markInt64S.f] using h

theorem heldInts_ev (n : Nat) (a : Int) (ha : 0 ≤ a) (hb : a + n ≤ 4611686018427387904) : Ev (fun k => laws_heldInt64S.f k (marks (fun x => x) 1 a n) a) (a + n) := by
  have hl := marks_length (fun x : Int => x) 1 n a
  have h := heldLoop n 1 (by omega) a ha (by omega) (fun k x i => laws_heldInt64S.l0 k (marks (fun x => x) 1 a n) x i) (fun k i hi h1 h2 => by
      simp only [laws_heldInt64S.l0]
      rw [if_pos (by omega), if_pos (by omega), rd_nat, marks_at _ _ 0 n i a hi, if_pos rfl, wrap_id (x := a + 1 * (i : Int) + 1) (by omega) (by omega), wrap_id (x := (i : Int) + 1) (by omega) (by omega)]
      rfl) (fun k x => by
      simp only [laws_heldInt64S.l0]
      rw [if_neg (by omega)]) n 0 (by omega)
  simpa [Int.one_mul, laws_heldInt64S.f] using h

theorem dropTail (l : List Int) (n : Int) (hl : l.length ≤ 1048576) (T : List Int) (hT : T = setDropS l n) : Ev (fun k => laws_FnExactSetDrop.j0 k l n T T false) true := by
  have h4 : T.length ≤ 400 := hT ▸ setDropS_length _ _
  refine Ev.step (fun k => by simp only [laws_FnExactSetDrop.j0, Bool.false_eq_true, if_false]; rfl) ?_
  refine Ev.bind (markInts_ev T 1 (by omega) (by omega)) (Ev.bind (heldInts_ev T.length 1 (by omega) (by omega)) ?_)
  simp only [if_neg (show ¬ (1 + (T.length : Int)) < 0 by omega), if_true]
  refine Ev.bind (toInts_ev l hl) (Ev.bind (implSetDrop_ev l n hl) ?_)
  rw [← hT]
  refine Ev.bind (eqInts_ev T T (by omega)) ?_
  simp only [decide_true, if_true]
  refine Ev.bind (heldInts_ev T.length 1 (by omega) (by omega)) ?_
  simp only [if_neg (show ¬ (1 + (T.length : Int)) < 0 by omega), if_true]
  exact Ev.now _
theorem FnExactSetDrop : laws_FnExactSetDrop.Goal := by
  intro l n _ _ _
  by_cases hb : (l.length : Int) > 1048576
  · exact ⟨0, by simp only [laws_FnExactSetDrop.f]; rw [if_pos hb]⟩
  · have hl : l.length ≤ 1048576 := by omega
    have h4 := setDropS_length l n
    refine Ev.rounds (Ev.congr (fun k => by simp only [laws_FnExactSetDrop.f]; rw [if_neg hb]) ?_)
    refine Ev.bind (toInts_ev l hl) (Ev.bind (specSetDrop_ev l n (by omega)) (Ev.bind (toInts_ev l hl) (Ev.bind (implSetDrop_ev l n hl) (Ev.bind (eqInts_ev _ _ (by omega)) ?_))))
    simp only [decide_true, if_true]
    refine Ev.bind (toInts_ev l hl) (Ev.bind (eqInts_ev l l (by omega)) ?_)
    simp only [decide_true, if_true]
    refine Ev.bind (markInts_ev l 1 (by omega) (by omega)) ?_
    simp only [if_neg (show ¬ (1 + (l.length : Int)) < 0 by omega)]
    refine Ev.bind (eqInts_ev _ _ (by omega)) ?_
    simp only [decide_true, Bool.not_true]
    exact dropTail l n hl _ rfl

end Go.Proofs.Ytfemkhfjngepmaa.Pure
