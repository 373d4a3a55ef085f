/- The plain law of FnChance: what the Lean functions of the printed texts answer. -/
import Derived.Test.YtkgjikjnciihmaaGFnChance
import Derived.Test.YtkgjikjnciihmaaHSem
import Derived.Test.YtkgjikjnciihmaaHBin
namespace Go.Proofs.Ytkgjikjnciihmaa.Pure
open Go.RowKit Go.Proofs.Ytkgjikjnciihmaa.PFnChance Go.Proofs.YtkgjikjnciihmaaW.PrintWords Go.Proofs.YtkgjikjnciihmaaW.PrintLast Go.Proofs.YtkgjikjnciihmaaW.PrintMore Go.Proofs.YtkgjikjnciihmaaH
set_option linter.unusedVariables false
set_option linter.unusedSimpArgs false

/-- Is a set right? -/
def setR (l : List Int) : Bool := rises l 1 (l.length - 1) && decide (l.length ≤ 400)
theorem rises_iff (l : List Int) : ∀ d i : Nat, rises l i d = true ↔ ∀ j, i ≤ j → j < i + d → l.getD (j - 1) 0 < l.getD j 0
  | 0, i => by simp [rises]; intro j h1 h2; omega
  | d + 1, i => by
    rw [rises, Bool.and_eq_true, rises_iff l d (i + 1), decide_eq_true_iff]
    constructor
    · rintro ⟨h1, h2⟩ j hj hk
      rcases Nat.lt_or_ge i j with h | h
      · exact h2 j h (by omega)
      · have : j = i := by omega
        rw [this]; exact h1
    · intro h
      exact ⟨h i (by omega) (by omega), fun j h1 h2 => h j (by omega) (by omega)⟩
theorem setR_lt {l : List Int} (h : setR l = true) : ∀ b a : Nat, a < b → b < l.length → l.getD a 0 < l.getD b 0 := by
  rw [setR, Bool.and_eq_true, rises_iff] at h
  intro b
  induction b with
  | zero => intro a h1; omega
  | succ b ih =>
    intro a h1 h2
    have h3 := h.1 (b + 1) (by omega) (by omega)
    rw [Nat.add_sub_cancel] at h3
    rcases Nat.lt_or_ge a b with h4 | h4
    · have := ih a h4 (by omega); omega
    · have : a = b := by omega
      subst this; exact h3

theorem specSet_l0 (l : List Int) (hl : l.length ≤ 140737488355328) : ∀ d i : Nat, 0 < i → (i + d = l.length ∨ (d = 0 ∧ l.length ≤ i)) → Ev (fun k => spec_SetRight.l0 k l (i : Int)) (rises l i d)
  | 0, i, h0, h => Ev.step (f := fun _ => some true) (fun k => by simp only [spec_SetRight.l0]; rw [if_neg (by omega)]) (Ev.now _)
  | d + 1, i, h0, h => by
    have hw := wrap_succ (i := i) (n := l.length) (by omega) hl
    have hp := wrap_pred (i := i) (n := l.length) h0 (by omega) hl
    by_cases ho : l.getD (i - 1) 0 < l.getD i 0
    · refine Ev.step (f := fun k => spec_SetRight.l0 k l ((i + 1 : Nat) : Int)) (fun k => ?_) (by rw [rises, decide_eq_true ho, Bool.true_and]; exact specSet_l0 l hl d (i + 1) (by omega) (by omega))
      simp only [spec_SetRight.l0]
      rw [hw, hp, rd_nat, rd_nat]
      repeat' split
      all_goals first | rfl | omega
    · refine Ev.step (f := fun k => some false) (fun k => ?_) (by rw [rises, decide_eq_false ho, Bool.false_and]; exact Ev.now _)
      simp only [spec_SetRight.l0]
      rw [hw, hp, rd_nat, rd_nat]
      repeat' split
      all_goals first | rfl | omega

theorem specSet_ev (l : List Int) (hl : l.length ≤ 140737488355328) : Ev (fun k => spec_SetRight.f k l) (rises l 1 (l.length - 1) && decide (l.length ≤ 400)) := by
  by_cases h : l.length ≤ 400
  · refine Ev.congr (f := fun k => spec_SetRight.l0 k l ((1 : Nat) : Int)) (fun k => ?_) (by simpa [h] using specSet_l0 l hl (l.length - 1) 1 (by omega) (by omega))
    simp only [spec_SetRight.f]; rw [if_neg (by omega)]; rfl
  · refine Ev.congr (f := fun k => some false) (fun k => ?_) (by simpa [h] using Ev.now _)
    simp only [spec_SetRight.f]; rw [if_pos (by omega)]


theorem implSet_l0 (l : List Int) (hl : l.length ≤ 140737488355328) : ∀ d i : Nat, 0 < i → (i + d = l.length ∨ (d = 0 ∧ l.length ≤ i)) → Ev (fun k => impl_SetRight.l0 k l (i : Int)) (rises l i d && decide (l.length ≤ 400))
  | 0, i, h0, h => Ev.step (f := fun _ => some (decide (l.length ≤ 400))) (fun k => by
      simp only [impl_SetRight.l0, impl_longList_int64.f, Option.bind_some]; rw [if_neg (by omega)]
      congr 1; rw [Bool.eq_iff_iff]; simp; omega) (by simpa [rises] using Ev.now _)
  | d + 1, i, h0, h => by
    have hw := wrap_succ (i := i) (n := l.length) (by omega) hl
    have hp := wrap_pred (i := i) (n := l.length) h0 (by omega) hl
    by_cases ho : l.getD (i - 1) 0 < l.getD i 0
    · refine Ev.step (f := fun k => impl_SetRight.l0 k l ((i + 1 : Nat) : Int)) (fun k => ?_) (by rw [rises, decide_eq_true ho, Bool.true_and]; exact implSet_l0 l hl d (i + 1) (by omega) (by omega))
      simp only [impl_SetRight.l0]
      rw [hw, hp, rd_nat, rd_nat]
      repeat' split
      all_goals first | rfl | omega
    · refine Ev.step (f := fun k => some false) (fun k => ?_) (by rw [rises, decide_eq_false ho, Bool.false_and, Bool.false_and]; exact Ev.now _)
      simp only [impl_SetRight.l0]
      rw [hw, hp, rd_nat, rd_nat]
      repeat' split
      all_goals first | rfl | omega

theorem implSet_ev (l : List Int) (hl : l.length ≤ 140737488355328) : Ev (fun k => impl_SetRight.f k l) (rises l 1 (l.length - 1) && decide (l.length ≤ 400)) :=
  implSet_l0 l hl (l.length - 1) 1 (by omega) (by omega)


theorem specHas_l0 (l : List Int) (n : Int) (hl : l.length ≤ 140737488355328) : ∀ d i : Nat, i + d = l.length → Ev (fun k => spec_l02Has.l0 k l n (i : Int)) ((l.drop i).contains n)
  | 0, i, h => Ev.step (f := fun _ => some false) (fun k => by simp only [spec_l02Has.l0]; rw [if_neg (by omega)]) (by rw [List.drop_of_length_le (by omega)]; exact Ev.now _)
  | d + 1, i, h => by
    have hw := wrap_succ (i := i) (n := l.length) (by omega) hl
    rw [drop_at l 0 (show i < l.length by omega), List.contains_cons]
    by_cases ho : l.getD i 0 = n
    · refine Ev.step (f := fun k => some true) (fun k => ?_) (by rw [ho, beq_self_eq_true, Bool.true_or]; exact Ev.now _)
      simp only [spec_l02Has.l0]
      rw [rd_nat, if_pos (by omega), if_pos (by omega), if_pos ho]
    · refine Ev.step (f := fun k => spec_l02Has.l0 k l n ((i + 1 : Nat) : Int)) (fun k => ?_) (by rw [beq_eq_false_iff_ne.2 (Ne.symm ho), Bool.false_or]; exact specHas_l0 l n hl d (i + 1) (by omega))
      simp only [spec_l02Has.l0]
      rw [hw, rd_nat, if_pos (by omega), if_pos (by omega), if_neg ho]
theorem specHas_ev (l : List Int) (n : Int) (hl : l.length ≤ 140737488355328) : Ev (fun k => spec_l02Has.f k l n) (l.contains n) := specHas_l0 l n hl l.length 0 (by omega)

/-- SetPut. -/
def setPutS (l : List Int) (n : Int) : List Int := if 400 < l.length then [] else if setR l = true ∧ l.contains n = false ∧ l.length ≠ 400 then putW (fun x => decide (x < n)) n l else l
theorem setPutS_length (l : List Int) (n : Int) : (setPutS l n).length ≤ 400 := by
  unfold setPutS
  repeat' split
  · simp
  · rw [putW_length]; omega
  · omega
theorem specPut_ev (l : List Int) (n : Int) (hl : l.length ≤ 400) : Ev (fun k => spec_l02Put.f k l n) (if l.contains n = false then putW (fun x => decide (x < n)) n l else l) := by
  cases hc : l.contains n with
  | true =>
    rw [if_neg (by decide)]
    refine Ev.bind (specHas_ev l n (by omega)) ?_
    simp only [hc, if_true, Option.bind_some, List.nil_append, List.length_nil]
    rw [if_pos (by omega)]
    exact Ev.now _
  | false =>
    rw [if_pos rfl]
    refine Ev.bind (specHas_ev l n (by omega)) ?_
    simp only [hc, Bool.false_eq_true, if_false]
    obtain ⟨m, _, a2, a3, a4, a5⟩ := seekLoop l.length (fun i => decide (l.getD i 0 < n)) (fun k i => spec_l02Put.l0 k l n i) (fun m => l.take m ++ [n] ++ l.drop m) (fun k i hi hb => by
      have hw := wrap_succ (i := i) (n := l.length) hi (by omega)
      simp only [spec_l02Put.l0]
      rw [if_pos (by omega), if_pos (by omega), rd_nat, if_pos (of_decide_eq_true hb), hw]) (fun k i hi hb => by
      have e1 : (l.take i).length ≤ 400 := by rw [List.length_take]; omega
      have e2 : (l.drop i).length ≤ 400 := by rw [List.length_drop]; omega
      simp only [spec_l02Put.l0, Option.bind_some, List.nil_append, List.length_nil, Int.toNat_natCast, List.length_append, List.length_singleton, rd_nat]
      by_cases h : i < l.length
      · have h2 := of_decide_eq_false (hb h)
        rw [if_pos (by omega), if_pos (by omega), if_neg h2, if_pos (by omega), if_pos (by omega), if_pos (by omega), if_pos (by omega)]
      · rw [if_neg (by omega), if_pos (by omega), if_pos (by omega), if_pos (by omega), if_pos (by omega), if_pos (by omega)]) l.length 0 (by omega)
    rw [← putW_at (fun x => decide (x < n)) 0 n l m a2 (fun j hj => a4 j (by omega) hj) a5]
    exact a3
theorem specSetPut_ev (l : List Int) (n : Int) (hl : l.length ≤ 140737488355328) : Ev (fun k => spec_SetPut.f k l n) (setPutS l n) := by
  unfold setPutS
  by_cases h4 : 400 < l.length
  · rw [if_pos h4]
    refine Ev.congr (f := fun _ => some _) (fun k => ?_) (Ev.now _)
    simp only [spec_SetPut.f]; rw [if_pos (by omega)]
  · rw [if_neg h4]
    refine Ev.congr (fun k => by simp only [spec_SetPut.f]; rw [if_neg (by omega)]) (Ev.bind (specSet_ev l hl) ?_)
    rw [← setR]
    by_cases hq : setR l = true
    · simp only [if_pos hq]
      by_cases h5 : l.length = 400
      · simp only [if_pos (show (l.length : Int) ≥ 400 by omega), Option.bind_some, List.length_nil, Nat.zero_add, List.nil_append]
        rw [if_pos (by omega), if_neg (fun h => h.2.2 h5)]
        exact Ev.now _
      · simp only [if_neg (show ¬ (l.length : Int) ≥ 400 by omega)]
        have := specPut_ev l n (by omega)
        by_cases hc : l.contains n = false
        · rw [if_pos hc] at this
          rw [if_pos ⟨hq, hc, h5⟩]
          exact Ev.bind this (Ev.now _)
        · rw [if_neg hc] at this
          rw [if_neg (fun h => hc h.2.1)]
          exact Ev.bind this (Ev.now _)
    · rw [if_neg (fun h => hq h.1)]
      simp only [if_neg hq, Option.bind_some, List.length_nil, Nat.zero_add, List.nil_append]
      rw [if_pos (by omega)]
      exact Ev.now _
/-- What the search by halves answers. -/
theorem binS_ev (l : List Int) (n : Int) (hl : l.length ≤ 1048576) : ∃ m, m ≤ l.length ∧ Ev (fun k => slices_BinarySearch_int64_int64.f k l n) ((m : Int), decide (m < l.length ∧ l.getD m 0 = n)) ∧ (0 < m → l.getD (m - 1) 0 < n) ∧ (m < l.length → ¬ l.getD m 0 < n) := by
  obtain ⟨m, _, a2, a3, a4, a5⟩ := binLoop l.length (fun i => decide (l.getD i 0 < n)) (fun k i j => slices_BinarySearch_int64_int64.l0 k l n (l.length : Int) i j) (fun m => ((m : Int), decide (m < l.length ∧ l.getD m 0 = n))) (fun k i j hij hj => by
      simp only [slices_BinarySearch_int64_int64.l0, cmp_Less_int64.f, cmp_isNaN_int64.f, Option.bind_some, bne_self_eq_false, Bool.false_eq_true, if_false]
      rw [mid_eq (by omega), if_pos (by omega), if_pos (by omega), if_pos (by omega), rd_nat, wrap_id (by omega) (by omega)]
      rfl) (fun k i hi => by
      simp only [slices_BinarySearch_int64_int64.l0, slices_isNaN_int64.f, Option.bind_some, bne_self_eq_false, Bool.false_eq_true, if_false]
      rw [if_neg (by omega)]
      by_cases h : i < l.length
      · rw [if_pos (by omega), if_pos (by omega), if_pos (by omega), rd_nat]
        by_cases e : l.getD i 0 = n
        · rw [if_pos e, decide_eq_true ⟨h, e⟩]
        · rw [if_neg e, decide_eq_false (fun z => e z.2)]
      · rw [if_neg (by omega), decide_eq_false (fun z => h z.1)]) l.length 0 l.length (by omega) (by omega) (by omega)
  exact ⟨m, a2, a3, fun h => of_decide_eq_true (a4 h), fun h => of_decide_eq_false (a5 h)⟩
theorem implSetPut_ev (l : List Int) (n : Int) (hl : l.length ≤ 1048576) : Ev (fun k => impl_SetPut.f k l n) (setPutS l n) := by
  unfold setPutS
  by_cases h4 : 400 < l.length
  · rw [if_pos h4]
    refine Ev.congr (f := fun _ => some _) (fun k => ?_) (Ev.now _)
    simp only [impl_SetPut.f, impl_longList_int64.f, Option.bind_some]; rw [if_pos (by simp; omega)]
  · rw [if_neg h4]
    obtain ⟨m, a2, a3, a4, a5⟩ := binS_ev l n hl
    refine Ev.congr (fun k => by simp only [impl_SetPut.f, impl_longList_int64.f, Option.bind_some]; rw [if_neg (by simp; omega)]) (Ev.bind a3 (Ev.bind (implSet_ev l (by omega)) ?_))
    rw [← setR]
    have hcl : slices_Clone_int64_int64.f l = some l := by simp only [slices_Clone_int64_int64.f]; rw [if_pos (by omega)]
    by_cases hq : setR l = true
    · have hlt := setR_lt hq
      have hcon : l.contains n = decide (m < l.length ∧ l.getD m 0 = n) := by
        rw [Bool.eq_iff_iff, decide_eq_true_iff, List.contains_iff_mem]
        constructor
        · intro hm
          obtain ⟨j, hj, rfl⟩ := List.getElem_of_mem hm
          have ej : l.getD j 0 = l[j] := by simp [List.getD, hj]
          rcases Nat.lt_trichotomy j m with h | h | h
          · exfalso
            have h1 := a4 (by omega)
            rw [← ej] at h1
            rcases Nat.lt_or_ge j (m - 1) with h2 | h2
            · have := hlt (m - 1) j h2 (by omega); omega
            · rw [show m - 1 = j by omega] at h1; omega
          · subst h; exact ⟨hj, ej⟩
          · exfalso
            have h1 := a5 (by omega)
            rw [← ej] at h1
            have := hlt j m h hj; omega
        · rintro ⟨h1, h2⟩
          rw [← h2]
          simp only [List.getD, List.getElem?_eq_getElem h1, Option.getD_some]
          exact List.getElem_mem h1
      simp only [hq, true_and, ← hcon, Int.toNat_natCast]
      by_cases h5 : l.length = 400
      · simp only [if_neg (show ¬ (l.contains n = false ∧ l.length ≠ 400) from fun h => h.2 h5), hcl]
        exact Ev.now _
      · by_cases hc : l.contains n = false
        · simp only [if_pos (show l.contains n = false ∧ l.length ≠ 400 from ⟨hc, h5⟩)]
          rw [if_pos (by omega), ← putW_at (fun x => decide (x < n)) 0 n l m a2 (fun j hj => decide_eq_true (by
            have h1 := a4 (by omega)
            rcases Nat.lt_or_ge j (m - 1) with h2 | h2
            · have := hlt (m - 1) j h2 (by omega); omega
            · rw [show m - 1 = j by omega] at h1; exact h1)) (fun h => decide_eq_false (a5 h))]
          exact Ev.now _
        · simp only [if_neg (show ¬ (l.contains n = false ∧ l.length ≠ 400) from fun h => hc h.1), hcl]
          exact Ev.now _
    · simp only [if_neg (show ¬ (setR l = true ∧ l.contains n = false ∧ l.length ≠ 400) from fun h => hq h.1), if_neg (show ¬ (setR l = true ∧ decide (m < l.length ∧ l.getD m 0 = n) = false ∧ l.length ≠ 400) from fun h => hq h.1), hcl]
      exact Ev.now _

/-- SetDrop. -/
def setDropS (l : List Int) (n : Int) : List Int := if 400 < l.length then [] else if setR l = true then l.filter (fun x => !impl_without.p n x) else l
theorem setDropS_length (l : List Int) (n : Int) : (setDropS l n).length ≤ 400 := by
  unfold setDropS
  repeat' split
  · simp
  · have := List.length_filter_le (fun x => !impl_without.p n x) l
    omega
  · omega
theorem specSDrop_l0 (l : List Int) (n : Int) (hl : l.length ≤ 400) : ∀ (d i : Nat) (acc : List Int), i + d = l.length → acc.length ≤ i → Ev (fun k => spec_l02Drop.l0 k l n acc (i : Int)) (acc ++ (l.drop i).filter (fun x => !impl_without.p n x))
  | 0, i, acc, h, ha => by
    refine Ev.step (f := fun _ => some acc) (fun k => ?_) ?_
    · simp only [spec_l02Drop.l0]; rw [if_neg (by omega)]
    · rw [List.drop_of_length_le (by omega)]
      simpa using Ev.now acc
  | d + 1, i, acc, h, ha => by
    have hi : i < l.length := by omega
    have hw : wrap64 ((i : Int) + 1) = ((i + 1 : Nat) : Int) := wrap_succ hi (by omega)
    rw [drop_at l 0 hi]
    by_cases hc : l.getD i 0 = n
    · have hp : impl_without.p n (l.getD i 0) = true := by simp [impl_without.p, -List.getD_eq_getElem?_getD, hc]
      rw [List.filter_cons, hp]
      refine Ev.step (fun k => ?_) (specSDrop_l0 l n hl d (i + 1) acc (by omega) (by omega))
      simp only [spec_l02Drop.l0]
      rw [if_pos (by omega), if_pos (by omega), rd_nat, if_pos hc, hw]
    · have hp : impl_without.p n (l.getD i 0) = false := by simp [impl_without.p, -List.getD_eq_getElem?_getD, hc]
      rw [List.filter_cons, hp]
      have := specSDrop_l0 l n hl d (i + 1) (acc ++ [l.getD i 0]) (by omega) (by rw [List.length_append, List.length_singleton]; omega)
      rw [List.append_assoc] at this
      refine Ev.step (fun k => ?_) this
      simp only [spec_l02Drop.l0]
      rw [if_pos (by omega), if_pos (by omega), rd_nat, if_neg hc, if_pos (by omega), hw]
theorem specSetDrop_ev (l : List Int) (n : Int) (hl : l.length ≤ 140737488355328) : Ev (fun k => spec_SetDrop.f k l n) (setDropS l n) := by
  unfold setDropS
  by_cases h4 : 400 < l.length
  · rw [if_pos h4]
    refine Ev.congr (f := fun _ => some _) (fun k => ?_) (Ev.now _)
    simp only [spec_SetDrop.f]; rw [if_pos (by omega)]
  · rw [if_neg h4]
    refine Ev.congr (fun k => by simp only [spec_SetDrop.f]; rw [if_neg (by omega)]) (Ev.bind (specSet_ev l hl) ?_)
    rw [← setR]
    by_cases hq : setR l = true
    · simp only [if_pos hq]
      have := specSDrop_l0 l n (by omega) l.length 0 [] (by omega) (by simp)
      rw [List.nil_append, List.drop_zero] at this
      exact Ev.bind (Ev.congr (fun k => rfl) this) (Ev.now _)
    · simp only [if_neg hq, Option.bind_some, List.length_nil, Nat.zero_add, List.nil_append]
      rw [if_pos (by omega)]
      exact Ev.now _
theorem implSetDrop_ev (l : List Int) (n : Int) (hl : l.length ≤ 1048576) : Ev (fun k => impl_SetDrop.f k l n) (setDropS l n) := by
  unfold setDropS
  by_cases h4 : 400 < l.length
  · rw [if_pos h4]
    refine Ev.congr (f := fun _ => some _) (fun k => ?_) (Ev.now _)
    simp only [impl_SetDrop.f, impl_longList_int64.f, Option.bind_some]; rw [if_pos (by simp; omega)]
  · rw [if_neg h4]
    refine Ev.congr (fun k => by simp only [impl_SetDrop.f, impl_longList_int64.f, Option.bind_some]; rw [if_neg (by simp; omega)]) (Ev.bind (implSet_ev l (by omega)) ?_)
    rw [← setR]
    by_cases hq : setR l = true
    · simp only [if_pos hq, impl_without.f, slices_Clone_int64_int64.f]
      rw [if_pos (by omega), if_pos (by omega)]
      exact Ev.now _
    · simp only [if_neg hq, slices_Clone_int64_int64.f]
      rw [if_pos (by omega)]
      exact Ev.now _

theorem slIndex_l0 (l : List Int) (n : Int) (hl : l.length ≤ 140737488355328) : ∀ d i : Nat, i + d = l.length → ∃ r : Int, Ev (fun k => slices_Index_int64_int64.l0 k l n (l.length : Int) (i : Int)) r ∧ (0 ≤ r ↔ (l.drop i).contains n = true)
  | 0, i, h => ⟨-1, Ev.step (f := fun _ => some (-1)) (fun k => by simp only [slices_Index_int64_int64.l0]; rw [if_neg (by omega)]) (Ev.now _), by rw [List.drop_of_length_le (by omega)]; simp⟩
  | d + 1, i, h => by
    have hw := wrap_succ (i := i) (n := l.length) (by omega) hl
    rw [drop_at l 0 (show i < l.length by omega), List.contains_cons]
    by_cases ho : n = l.getD i 0
    · refine ⟨(i : Int), Ev.step (f := fun k => some (i : Int)) (fun k => ?_) (Ev.now _), by rw [← ho]; simp⟩
      simp only [slices_Index_int64_int64.l0]
      rw [rd_nat, if_pos (by omega), if_pos (by omega), if_pos (by omega), if_pos ho]
    · obtain ⟨r, hr, hc⟩ := slIndex_l0 l n hl d (i + 1) (by omega)
      refine ⟨r, Ev.step (f := fun k => slices_Index_int64_int64.l0 k l n (l.length : Int) ((i + 1 : Nat) : Int)) (fun k => ?_) hr, by rw [beq_eq_false_iff_ne.2 ho, Bool.false_or]; exact hc⟩
      simp only [slices_Index_int64_int64.l0]
      rw [hw, rd_nat, if_pos (by omega), if_pos (by omega), if_pos (by omega), if_neg ho]
theorem slContains_ev (l : List Int) (n : Int) (hl : l.length ≤ 140737488355328) : Ev (fun k => slices_Contains_int64_int64.f k l n) (l.contains n) := by
  obtain ⟨r, hr, hc⟩ := slIndex_l0 l n hl l.length 0 (by omega)
  refine Ev.congr (fun k => rfl) (Ev.bind (g := fun k => slices_Index_int64_int64.f k l n) hr (f := fun _ t => some (decide (t ≥ 0))) ?_)
  rw [show decide (r ≥ 0) = l.contains n by rw [Bool.eq_iff_iff, decide_eq_true_iff]; exact hc]
  exact Ev.now _

theorem specSetHas_ev (l : List Int) (n : Int) (hl : l.length ≤ 140737488355328) : Ev (fun k => spec_SetHas.f k l n) (setR l && l.contains n) := by
  refine Ev.congr (fun k => rfl) (Ev.bind (specSet_ev l hl) ?_)
  show Ev _ (setR l && l.contains n)
  unfold setR
  cases h : rises l 1 (l.length - 1) && decide (l.length ≤ 400)
  · simpa using Ev.now _
  · simpa using specHas_ev l n hl
theorem implSetHas_ev (l : List Int) (n : Int) (hl : l.length ≤ 140737488355328) : Ev (fun k => impl_SetHas.f k l n) (setR l && l.contains n) := by
  refine Ev.congr (fun k => rfl) (Ev.bind (implSet_ev l hl) ?_)
  show Ev _ (setR l && l.contains n)
  unfold setR
  cases h : rises l 1 (l.length - 1) && decide (l.length ≤ 400)
  · simpa using Ev.now _
  · simpa using slContains_ev l n hl

theorem spec_l02Is_eq (a b c : Int) : spec_l02Is.f a b c = some (inR a b c) := by
  by_cases h : b ≤ a <;> simp [spec_l02Is.f, inR, h]

theorem impl_within_eq (a b c : Int) : impl_within.f a b c = some (inR a b c) := by
  by_cases h : b ≤ a <;> simp [impl_within.f, inR, h]

/-- The next seed. -/
def nextS (s : Int) : Int := (s * 91813 + 30011) % 2147483648
theorem nextS_range (s : Int) : 0 ≤ nextS s ∧ nextS s ≤ 2147483647 := by
  unfold nextS
  omega
theorem next_num (s : Int) (h0 : 0 ≤ s) (h1 : s ≤ 2147483647) : Int.tmod (wrap64 ((wrap64 (s * 91813)) + 30011)) 2147483648 = nextS s := by
  rw [wrap_id (x := s * 91813) (by omega) (by omega), wrap_id (x := s * 91813 + 30011) (by omega) (by omega), Int.tmod_eq_emod_of_nonneg (by omega)]
  rfl
theorem below_num (s m : Int) (hm : 0 < m) : Int.tmod (wrap64 (Int.tdiv (nextS s) 256)) m = nextS s / 256 % m := by
  have h := nextS_range s
  rw [Int.tdiv_eq_ediv_of_nonneg h.1, wrap_id (by omega) (by omega), Int.tmod_eq_emod_of_nonneg (by omega)]
/-- Shuffled from place i down. -/
def shufS : Nat → List Int → Int → Int × List Int
  | 0, l, s => (s, l)
  | i + 1, l, s => shufS i ((l.set (i + 1) (l.getD (nextS s / 256 % ((i : Int) + 2)).toNat 0)).set (nextS s / 256 % ((i : Int) + 2)).toNat (l.getD (i + 1) 0)) (nextS s)
theorem shufS_length : ∀ (i : Nat) (l : List Int) (s : Int), (shufS i l s).2.length = l.length
  | 0, _, _ => rfl
  | i + 1, l, s => by rw [shufS, shufS_length i]; simp
/-- Shuffle. -/
def shuffleS (l : List Int) (s : Int) : Int × List Int := if 400 < l.length then (0, []) else if inR s 0 2147483647 = true then shufS (l.length - 1) l s else (0, [])
theorem shuffleS_length (l : List Int) (s : Int) : (shuffleS l s).2.length ≤ 400 := by
  unfold shuffleS
  split
  · simp
  · split
    · rw [shufS_length]; omega
    · simp

theorem spec_l02Seed_eq (a : Int) : spec_l02Seed.f a = some (inR a 0 2147483647) := by simp [spec_l02Seed.f, spec_l02Is_eq]
theorem specDraw_eq (s m : Int) (h0 : 0 ≤ s) (h1 : s ≤ 2147483647) (hm : 1 ≤ m) : spec_l02Draw.f s m = some (nextS s, nextS s / 256 % m) := by
  simp only [spec_l02Draw.f]
  rw [if_neg (by omega), next_num s h0 h1, below_num s m (by omega)]
theorem specMix_l0 : ∀ (i : Nat) (l : List Int) (s : Int), (i < l.length ∨ i = 0) → l.length ≤ 400 → 0 ≤ s → s ≤ 2147483647 → Ev (fun k => spec_l02Mix.l0 k s l (i : Int)) (shufS i l s)
  | 0, l, s, _, _, _, _ => Ev.step (f := fun _ => some (s, l)) (fun k => by simp only [spec_l02Mix.l0]; rw [if_neg (by omega)]) (Ev.now _)
  | i + 1, l, s, hi, hl, h0, h1 => by
    have hn := nextS_range s
    have hi : i + 1 < l.length := by omega
    have hm : 0 ≤ nextS s / 256 % ((i : Int) + 2) ∧ nextS s / 256 % ((i : Int) + 2) < (i : Int) + 2 := ⟨Int.emod_nonneg _ (by omega), Int.emod_lt_of_pos _ (by omega)⟩
    have e : wrap64 (((i + 1 : Nat) : Int) + 1) = (i : Int) + 2 := by rw [wrap_id (by omega) (by omega)]; omega
    have e2 : wrap64 (((i + 1 : Nat) : Int) - 1) = (i : Int) := by rw [wrap_id (by omega) (by omega)]; omega
    rw [shufS]
    refine Ev.step (fun k => ?_) (specMix_l0 i _ (nextS s) (by simp; omega) (by simpa using hl) hn.1 hn.2)
    simp only [spec_l02Mix.l0]
    rw [if_pos (by omega), e, specDraw_eq s _ h0 h1 (by omega), Option.bind_some]
    simp only
    rw [if_pos (by omega), if_pos (by omega), if_pos hm.1, if_pos (by omega), e2]
    simp only [rd, Int.toNat_natCast]
theorem specMix_ev (l : List Int) (s : Int) (hl : l.length ≤ 400) (h0 : 0 ≤ s) (h1 : s ≤ 2147483647) : Ev (fun k => spec_l02Mix.f k l s) (shufS (l.length - 1) l s) := by
  have hw : wrap64 ((l.length : Int) - 1) = (l.length : Int) - 1 := wrap_id (by omega) (by omega)
  have key : Ev (fun k => spec_l02Mix.l0 k s l (wrap64 ((l.length : Int) - 1))) (shufS (l.length - 1) l s) := by
    rw [hw]
    by_cases h0 : l.length = 0
    · rw [h0]
      refine Ev.step (f := fun _ => some (s, l)) (fun k => ?_) (Ev.now _)
      simp only [spec_l02Mix.l0]; rw [if_neg (by omega)]
    · have := specMix_l0 (l.length - 1) l s (by omega) (by omega) (by omega) (by omega)
      rwa [show ((l.length - 1 : Nat) : Int) = (l.length : Int) - 1 by omega] at this
  refine Ev.congr (fun k => ?_) key
  simp only [spec_l02Mix.f, Option.bind_some, List.nil_append, List.length_nil, Nat.zero_add]
  rw [if_pos (by omega)]

theorem specShuffle_ev (l : List Int) (s : Int) (hl : l.length ≤ 140737488355328) : Ev (fun k => spec_Shuffle.f k l s) (shuffleS l s) := by
  unfold shuffleS
  by_cases h : 400 < l.length
  · rw [if_pos h]
    refine Ev.congr (f := fun _ => some _) (fun k => ?_) (Ev.now _)
    simp only [spec_Shuffle.f]; rw [if_pos (by omega)]
  · rw [if_neg h]
    by_cases hs : inR s 0 2147483647 = true
    · rw [if_pos hs]
      have hr := inR_iff.1 hs
      refine Ev.congr (fun k => ?_) (Ev.bind (specMix_ev l s (by omega) hr.1 hr.2) (f := fun _ t => some (t.1, t.2)) (Ev.now _))
      simp only [spec_Shuffle.f, spec_l02Seed_eq, Option.bind_some]
      rw [if_neg (by omega), if_pos hs]
    · rw [if_neg hs]
      refine Ev.congr (f := fun _ => some _) (fun k => ?_) (Ev.now _)
      simp only [spec_Shuffle.f, spec_l02Seed_eq, Option.bind_some]; rw [if_neg (by omega), if_neg hs]

theorem impl_isSeed_eq (a : Int) : impl_isSeed.f a = some (inR a 0 2147483647) := by simp [impl_isSeed.f, impl_within_eq]
theorem implChance_eq (s m : Int) (h0 : 0 ≤ s) (h1 : s ≤ 2147483647) (hm : 1 ≤ m) (hm2 : m ≤ 1000000) : impl_Chance.f s m = some (nextS s, nextS s / 256 % m) := by
  simp only [impl_Chance.f, impl_isSeed_eq, impl_within_eq, Option.bind_some]
  rw [if_pos (inR_iff.2 ⟨h0, h1⟩), if_pos (inR_iff.2 ⟨hm, hm2⟩), if_neg (by omega), next_num s h0 h1, below_num s m (by omega)]
theorem rd_toNat (l : List Int) (i : Int) : rd l i = l.getD i.toNat 0 := by simp [rd]
theorem implShuf_l0 : ∀ (i : Nat) (l : List Int) (s : Int), (i < l.length ∨ i = 0) → l.length ≤ 400 → 0 ≤ s → s ≤ 2147483647 → impl_Shuffle.l0 i l s = some (shufS i l s)
  | 0, _, _, _, _, _, _ => rfl
  | i + 1, l, s, hi, hl, h0, h1 => by
    have hn := nextS_range s
    have hi : i + 1 < l.length := by omega
    have hm : 0 ≤ nextS s / 256 % ((i : Int) + 2) ∧ nextS s / 256 % ((i : Int) + 2) < (i : Int) + 2 := ⟨Int.emod_nonneg _ (by omega), Int.emod_lt_of_pos _ (by omega)⟩
    have e : (((i + 1 : Nat) : Int) + 1) = (i : Int) + 2 := by omega
    rw [impl_Shuffle.l0, e, implChance_eq s _ h0 h1 (by omega) (by omega), Option.bind_some, if_pos (by simp only; omega)]
    simp only [rd_toNat, Int.toNat_natCast]
    exact implShuf_l0 i _ _ (by simp; omega) (by simpa using hl) hn.1 hn.2
theorem implShuffle_eq (l : List Int) (s : Int) (hl : l.length ≤ 17592186044415) : impl_Shuffle.f l s = some (shuffleS l s) := by
  unfold shuffleS
  simp only [impl_Shuffle.f, impl_longList_int64.f, impl_isSeed_eq, Option.bind_some]
  by_cases h : 400 < l.length
  · rw [if_pos h, if_pos (by simp; omega)]
  · rw [if_neg h, if_neg (by simp; omega)]
    by_cases hs : inR s 0 2147483647 = true
    · rw [if_pos hs, if_pos hs, slices_Clone_int64_int64.f, if_pos (by omega), Option.bind_some]
      have := inR_iff.1 hs
      exact implShuf_l0 _ l s (by omega) (by omega) this.1 this.2
    · rw [if_neg hs, if_neg hs]

theorem evSome {α β : Type} {o : Option α} {x : α} {f : Nat → α → Option β} {r : β} (h : o = some x) (k : Ev (fun n => f n x) r) : Ev (fun n => o.bind (f n)) r := by subst h; exact k
/-- What is drawn lies below what was asked for; the place stays within the bytes. -/
theorem src_val (v m a : Int) (h : 1 < a) (h2 : a ≤ 9223372036854775807) : 0 ≤ spec_l01Src_n.val v m a ∧ spec_l01Src_n.val v m a < a := by
  unfold spec_l01Src_n.val
  rw [u64w, u64w, show a % 18446744073709551616 = a by omega, Int.tmod_eq_emod_of_nonneg (by omega)]
  have h3 := Int.emod_nonneg ((v + m / 1048576) % 18446744073709551616) (show a ≠ 0 by omega)
  have h4 := Int.emod_lt_of_pos ((v + m / 1048576) % 18446744073709551616) (show 0 < a by omega)
  rw [wrap_id (by omega) (by omega)]
  exact ⟨h3, h4⟩
theorem src_n (b : List Int) (p m z a : Int) (hb : b.length ≤ 9223372036854775807) (h0 : 0 ≤ p) (h1 : p ≤ b.length) (ha : a ≤ 9223372036854775807) :
    ∃ r p' m', spec_l01Src_n.f b p m z a = some (r, p', m', z) ∧ 0 ≤ r ∧ (r < a ∨ r = 0) ∧ 0 ≤ p' ∧ p' ≤ b.length := by
  unfold spec_l01Src_n.f
  by_cases h : a ≤ 1
  · exact ⟨0, p, m, by rw [if_pos h], by omega, .inr rfl, h0, h1⟩
  · rw [if_neg h, if_neg (by rw [u64w]; omega)]
    by_cases h2 : p < (b.length : Int)
    · obtain ⟨h3, h4⟩ := src_val (IntKind.u64.wrap (rd b p)) (spec_l01Src_n.mx m) a (by omega) ha
      exact ⟨_, _, _, by rw [if_pos h2, if_pos h0, wrap_id (by omega) (by omega)], h3, .inl h4, by omega, by omega⟩
    · obtain ⟨h3, h4⟩ := src_val 0 (spec_l01Src_n.mx m) a (by omega) ha
      exact ⟨_, _, _, by rw [if_neg h2], h3, .inl h4, h0, h1⟩
theorem src_loop (l : List Int) (hl : l.length ≤ 9223372036854775807) : ∀ (d i : Nat) (m : Int), i + d = 64 → ∃ m' z, Ev (fun k => spec_l01Source.l0 k l (i : Int) l 0 m 0) (l, 0, m', z) ∧ 0 ≤ z ∧ z ≤ 12
  | d, i, m, h => by
    have hz : ∃ z, (∀ m' : Int, (if (wrap64 ((l.length : Int) / 20)) > 12 then (some (l, (0 : Int), m', (12 : Int))) else (some (l, 0, m', wrap64 ((l.length : Int) / 20)))) = some (l, 0, m', z)) ∧ 0 ≤ z ∧ z ≤ 12 := by
      rw [wrap_id (x := (l.length : Int) / 20) (by omega) (by omega)]
      by_cases h12 : (l.length : Int) / 20 > 12
      · exact ⟨12, fun m' => by rw [if_pos h12], by omega, by omega⟩
      · exact ⟨(l.length : Int) / 20, fun m' => by rw [if_neg h12], by omega, by omega⟩
    obtain ⟨z, hz, z0, z1⟩ := hz
    by_cases h1 : (i : Int) < (l.length : Int)
    · match d, h with
      | 0, h => exact ⟨m, z, Ev.step (f := fun _ => some (l, 0, m, z)) (fun k => by simp only [spec_l01Source.l0]; rw [if_pos h1, if_neg (by omega)]; exact hz m) (Ev.now _), z0, z1⟩
      | d + 1, h =>
        obtain ⟨m', z', hE, a0, a1⟩ := src_loop l hl d (i + 1) (IntKind.u64.wrap ((Go.bits .xor .u64 m (IntKind.u64.wrap (rd l (i : Int)))) * 1099511628211)) (by omega)
        exact ⟨m', z', Ev.step (fun k => by simp only [spec_l01Source.l0]; rw [if_pos h1, if_pos (by omega), if_pos (by omega), wrap_id (x := (i : Int) + 1) (by omega) (by omega)]; rfl) hE, a0, a1⟩
    · exact ⟨m, z, Ev.step (f := fun _ => some (l, 0, m, z)) (fun k => by simp only [spec_l01Source.l0]; rw [if_neg h1]; exact hz m) (Ev.now _), z0, z1⟩
theorem src_source (l : List Int) (hl : l.length ≤ 9223372036854775807) : ∃ m z, Ev (fun k => spec_l01Source.f k l) (l, 0, m, z) ∧ 0 ≤ z ∧ z ≤ 12 := by
  obtain ⟨m, z, h, z0, z1⟩ := src_loop l hl 64 0 88172645463325252 (by omega)
  exact ⟨m, z, Ev.congr (fun k => rfl) h, z0, z1⟩

theorem src_edge (b : List Int) (p m z : Int) (hb : b.length ≤ 9223372036854775807) (h0 : 0 ≤ p) (h1 : p ≤ b.length) :
    ∃ r p' m', spec_l01Src_edge.f b p m z = some (r, p', m', z) ∧ -9223372036854775808 ≤ r ∧ r ≤ 9223372036854775807 ∧ 0 ≤ p' ∧ p' ≤ b.length := by
  obtain ⟨r, p', m', h, h4, h5, h2, h3⟩ := src_n b p m z 14 hb h0 h1 (by omega)
  obtain ⟨q, rfl⟩ : ∃ q : Nat, r = (q : Int) := ⟨r.toNat, by omega⟩
  have hq : q < 14 := by omega
  refine ⟨_, p', m', by unfold spec_l01Src_edge.f; rw [Option.bind_some, h, Option.bind_some]; simp only []; rw [if_pos h4, if_pos (by simp only [List.length_cons, List.length_nil]; omega)], ?_, ?_, h2, h3⟩ <;>
  · rw [rd_nat]
    have : q = 0 ∨ q = 1 ∨ q = 2 ∨ q = 3 ∨ q = 4 ∨ q = 5 ∨ q = 6 ∨ q = 7 ∨ q = 8 ∨ q = 9 ∨ q = 10 ∨ q = 11 ∨ q = 12 ∨ q = 13 := by omega
    rcases this with h | h | h | h | h | h | h | h | h | h | h | h | h | h <;> subst h <;> simp

theorem src_between (b : List Int) (p m z lo hi : Int) (hb : b.length ≤ 9223372036854775807) (h0 : 0 ≤ p) (h1 : p ≤ b.length) (a0 : -1000000 ≤ lo) (a1 : lo ≤ hi) (a2 : hi ≤ 1000000) :
    ∃ r p' m', spec_l01Src_between.f b p m z lo hi = some (r, p', m', z) ∧ 0 ≤ p' ∧ p' ≤ b.length := by
  unfold spec_l01Src_between.f
  obtain ⟨r, p', m', h, _, _, h2, h3⟩ := src_n b p m z (wrap64 ((wrap64 (hi - lo)) + 1)) hb h0 h1 (by rw [wrap_id (x := hi - lo) (by omega) (by omega), wrap_id (by omega) (by omega)]; omega)
  exact ⟨_, p', m', by rw [h]; rfl, h2, h3⟩
theorem src_list (b : List Int) (z lo hi : Int) (hb : b.length ≤ 9223372036854775807) (a0 : -1000000 ≤ lo) (a1 : lo ≤ hi) (a2 : hi ≤ 1000000) : ∀ (d : Nat) (xs : List Int) (p m : Int), d + xs.length ≤ 100000 → 0 ≤ p → p ≤ b.length →
    ∃ l p' m', Ev (fun k => spec_l01Src_list.l0 k (d : Int) lo hi xs b p m z) (l, p', m', z) ∧ l.length = d + xs.length ∧ 0 ≤ p' ∧ p' ≤ b.length
  | 0, xs, p, m, _, h0, h1 => ⟨xs, p, m, Ev.step (f := fun _ => some (xs, p, m, z)) (fun k => by simp only [spec_l01Src_list.l0]; rw [if_neg (by omega)]) (Ev.now _), by omega, h0, h1⟩
  | d + 1, xs, p, m, h, h0, h1 => by
    obtain ⟨r, p', m', h4, h2, h3⟩ := src_between b p m z lo hi hb h0 h1 a0 a1 a2
    obtain ⟨l, p2, m2, hE, hl, h5, h6⟩ := src_list b z lo hi hb a0 a1 a2 d (xs ++ [r]) p' m' (by simp; omega) h2 h3
    refine ⟨l, p2, m2, Ev.step (fun k => ?_) hE, by simp at hl; omega, h5, h6⟩
    simp only [spec_l01Src_list.l0]
    rw [if_pos (by omega), h4, Option.bind_some]
    simp only []
    rw [if_pos (by omega), wrap_id (x := ((d + 1 : Nat) : Int) - 1) (by omega) (by omega), show ((d + 1 : Nat) : Int) - 1 = (d : Int) by omega]

theorem src_one (b : List Int) (p m z a : Int) (hb : b.length ≤ 9223372036854775807) (h0 : 0 ≤ p) (h1 : p ≤ b.length) (ha : a ≤ 9223372036854775807) :
    ∃ c p' m', spec_l01Src_one.f b p m z a = some (c, p', m', z) ∧ 0 ≤ p' ∧ p' ≤ b.length := by
  obtain ⟨r, p', m', h, _, _, h2, h3⟩ := src_n b p m z a hb h0 h1 ha
  exact ⟨r == 0, p', m', by unfold spec_l01Src_one.f; rw [h]; rfl, h2, h3⟩

theorem src_rising (b : List Int) (z of : Int) (n : Nat) (hn : n ≤ 100000) (hof : of ≤ 1000000) (hb : b.length ≤ 9223372036854775807) : ∀ (d i : Nat) (xs : List Int) (p m : Int), i + d = n → xs.length ≤ i → 0 ≤ p → p ≤ b.length →
    ∃ l p' m', Ev (fun k => spec_l01Src_rising.l0 k (n : Int) of xs (i : Int) b p m z) (l, p', m', z) ∧ l.length ≤ n ∧ 0 ≤ p' ∧ p' ≤ b.length
  | 0, i, xs, p, m, h, hx, h0, h1 => ⟨xs, p, m, Ev.step (f := fun _ => some (xs, p, m, z)) (fun k => by simp only [spec_l01Src_rising.l0]; rw [if_neg (by omega)]) (Ev.now _), by omega, h0, h1⟩
  | d + 1, i, xs, p, m, h, hx, h0, h1 => by
    obtain ⟨c, p', m', h4, h2, h3⟩ := src_one b p m z of hb h0 h1 (by omega)
    cases c
    · obtain ⟨l, p2, m2, hE, hl, h5, h6⟩ := src_rising b z of n hn hof hb d (i + 1) xs p' m' (by omega) (by omega) h2 h3
      refine ⟨l, p2, m2, Ev.step (fun k => ?_) hE, hl, h5, h6⟩
      simp only [spec_l01Src_rising.l0]
      rw [if_pos (by omega), h4, Option.bind_some]
      simp only []
      rw [if_neg (by decide), wrap_succ (n := n) (by omega) (by omega)]
    · obtain ⟨l, p2, m2, hE, hl, h5, h6⟩ := src_rising b z of n hn hof hb d (i + 1) (xs ++ [(i : Int)]) p' m' (by omega) (by simp; omega) h2 h3
      refine ⟨l, p2, m2, Ev.step (fun k => ?_) hE, hl, h5, h6⟩
      simp only [spec_l01Src_rising.l0]
      rw [if_pos (by omega), h4, Option.bind_some]
      simp only []
      rw [if_pos trivial, if_pos (by omega), wrap_succ (n := n) (by omega) (by omega)]
theorem src_fill (b : List Int) (z : Int) (hb : b.length ≤ 9223372036854775807) : ∀ (d i : Nat) (xs : List Int) (p m : Int), i + d = 401 → xs.length = i → 0 ≤ p → p ≤ b.length →
    ∃ l p' m', Ev (fun k => spec_l01Src_l02Set.l0 k xs (i : Int) b p m z) (l, p', m', z) ∧ l.length ≤ 401 ∧ 0 ≤ p' ∧ p' ≤ b.length
  | d, i, xs, p, m, h, hx, h0, h1 => by
    obtain ⟨r, p', m', h4, r0, r1, h2, h3⟩ := src_n b p m z 2 hb h0 h1 (by omega)
    by_cases hlt : (i : Int) < 399 + r
    · match d, h with
      | 0, h => omega
      | d + 1, h =>
        obtain ⟨l, p2, m2, hE, hl, h5, h6⟩ := src_fill b z hb d (i + 1) (xs ++ [(i : Int)]) p' m' (by omega) (by simp; omega) h2 h3
        refine ⟨l, p2, m2, Ev.step (fun k => ?_) hE, hl, h5, h6⟩
        simp only [spec_l01Src_l02Set.l0]
        rw [h4, Option.bind_some]
        simp only []
        rw [wrap_id (x := 399 + r) (by omega) (by omega), if_pos hlt, if_pos (by omega), wrap_succ (n := 1000) (by omega) (by omega)]
    · refine ⟨xs, p', m', Ev.step (f := fun _ => some (xs, p', m', z)) (fun k => ?_) (Ev.now _), by omega, h2, h3⟩
      simp only [spec_l01Src_l02Set.l0]
      rw [h4, Option.bind_some]
      simp only []
      rw [wrap_id (x := 399 + r) (by omega) (by omega), if_neg hlt]
theorem src_set (b : List Int) (z : Int) (hb : b.length ≤ 9223372036854775807) (p m : Int) (h0 : 0 ≤ p) (h1 : p ≤ b.length) :
    ∃ l p' m', Ev (fun k => spec_l01Src_l02Set.f k b p m z) (l, p', m', z) ∧ l.length ≤ 401 ∧ 0 ≤ p' ∧ p' ≤ b.length := by
  obtain ⟨l, p1, m1, hE, hl, q0, q1⟩ := src_rising b z 2 10 (by omega) (by omega) hb 10 0 [] p m (by omega) (by simp) h0 h1
  obtain ⟨c, p2, m2, h2, q2, q3⟩ := src_one b p1 m1 z 12 hb q0 q1 (by omega)
  cases c
  · obtain ⟨c, p3, m3, h3, q4, q5⟩ := src_one b p2 m2 z 40 hb q2 q3 (by omega)
    cases c
    · exact ⟨l, p3, m3, Ev.congr (fun k => rfl) (Ev.bind (Ev.congr (fun k => rfl) hE) (evSome h2 (evElse Bool.false_ne_true (evSome h3 (evElse Bool.false_ne_true (Ev.now _)))))), by omega, q4, q5⟩
    · obtain ⟨l', p4, m4, hE', hl', q6, q7⟩ := src_fill b z hb 401 0 [] p3 m3 (by omega) rfl q4 q5
      exact ⟨l', p4, m4, Ev.congr (fun k => rfl) (Ev.bind (Ev.congr (fun k => rfl) hE) (evSome h2 (evElse Bool.false_ne_true (evSome h3 (evIf rfl hE'))))), hl', q6, q7⟩
  · exact ⟨l ++ [3], p2, m2, Ev.congr (fun k => rfl) (Ev.bind (Ev.congr (fun k => rfl) hE) (evSome h2 (evIf rfl (evIf (by simp only []; omega) (Ev.now _))))), by simp; omega, q2, q3⟩

theorem lwNums_refl (l : List Int) (hl : l.length ≤ 1048576) : Ev (fun k => laws_lwNums.f k l l) true := by
  have key : ∀ (d i : Nat), i + d = l.length → Ev (fun k => laws_lwNums.l0 k l l (i : Int)) true := by
    intro d
    induction d with
    | zero => intro i h; exact Ev.step (f := fun _ => some true) (fun k => by simp only [laws_lwNums.l0]; rw [if_neg (by omega)]) (Ev.now _)
    | succ d ih =>
      intro i h
      refine Ev.step (fun k => ?_) (ih (i + 1) (by omega))
      simp only [laws_lwNums.l0]
      rw [if_pos (by omega), if_pos (by omega), if_pos (by omega), if_pos trivial, wrap_succ (n := l.length) (by omega) (by omega)]
  exact Ev.congr (fun k => by simp only [laws_lwNums.f]; rw [if_pos trivial]; rfl) (key l.length 0 (by omega))

theorem lwMany_ev (l : List Int) (n : Int) (hl : l.length ≤ 1048576) : Ev (fun k => laws_lwMany.f k l n) ((l.count n : Nat) : Int) := by
  have key : ∀ (d i c : Nat), i + d = l.length → c ≤ i → Ev (fun k => laws_lwMany.l0 k l n (c : Int) (i : Int)) ((c + (l.drop i).count n : Nat) : Int) := by
    intro d
    induction d with
    | zero =>
      intro i c h hc
      rw [List.drop_of_length_le (by omega)]
      exact Ev.step (f := fun _ => some (c : Int)) (fun k => by simp only [laws_lwMany.l0]; rw [if_neg (by omega)]) (Ev.now _)
    | succ d ih =>
      intro i c h hc
      have hi : i < l.length := by omega
      rw [drop_at l 0 hi, List.count_cons]
      by_cases e : l.getD i 0 = n
      · have := ih (i + 1) (c + 1) (by omega) (by omega)
        rw [show c + ((l.drop (i + 1)).count n + if (l.getD i 0 == n) = true then 1 else 0) = c + 1 + (l.drop (i + 1)).count n by rw [if_pos (beq_iff_eq.2 e)]; omega]
        refine Ev.step (fun k => ?_) this
        simp only [laws_lwMany.l0]
        rw [if_pos (by omega), if_pos (by omega), rd_nat, if_pos e, wrap_succ (n := l.length) (by omega) (by omega), wrap_succ (n := l.length) (by omega) (by omega)]
      · have := ih (i + 1) c (by omega) (by omega)
        rw [if_neg (by simpa using e), Nat.add_zero]
        refine Ev.step (fun k => ?_) this
        simp only [laws_lwMany.l0]
        rw [if_pos (by omega), if_pos (by omega), rd_nat, if_neg e, wrap_succ (n := l.length) (by omega) (by omega)]
  have := key l.length 0 0 (by omega) (by omega)
  rw [List.drop_zero, Nat.zero_add] at this
  exact Ev.congr (fun k => rfl) this

/-! The draws. -/
theorem drawChance (l : List Int) (hl : l.length ≤ 9223372036854775807) : ∃ s m, Ev (fun k => spec_DrawChance.f k l) (s, m) := by
  obtain ⟨mx, z, h, _, _⟩ := src_source l hl
  obtain ⟨b, p, m, h1, q0, q1⟩ := src_one l 0 mx z 4 hl (by omega) (by omega) (by omega)
  cases b
  · obtain ⟨r2, p2, m2, h2, _, _, q2, q3⟩ := src_n l p m z 256 hl q0 q1 (by omega)
    obtain ⟨r3, p3, m3, h3, _, _, q4, q5⟩ := src_n l p2 m2 z 256 hl q2 q3 (by omega)
    obtain ⟨r4, p4, m4, h4, _, _, q6, q7⟩ := src_n l p3 m3 z 256 hl q4 q5 (by omega)
    obtain ⟨r5, p5, m5, h5, _, _, q8, q9⟩ := src_n l p4 m4 z 100 hl q6 q7 (by omega)
    exact ⟨_, _, Ev.congr (fun k => rfl) (Ev.bind h (evSome h1 (evElse Bool.false_ne_true (evSome h2 (evSome h3 (evSome h4 (evSome h5 (Ev.now _))))))))⟩
  · obtain ⟨r2, p2, m2, h2, _, _, q2, q3⟩ := src_edge l p m z hl q0 q1
    obtain ⟨r3, p3, m3, h3, a0, a1, q4, q5⟩ := src_n l p2 m2 z 5 hl q2 q3 (by omega)
    obtain ⟨r4, p4, m4, h4, a2, a3, q6, q7⟩ := src_n l p3 m3 z 4 hl q4 q5 (by omega)
    exact ⟨_, _, Ev.congr (fun k => rfl) (Ev.bind h (evSome h1 (evIf rfl (evSome h2 (evSome rfl (evSome h3 (evIf a0 (evIf (by simp only [List.length_cons, List.length_nil]; omega) (evSome rfl (evSome h4 (evIf a2 (evIf (by simp only [List.length_cons, List.length_nil]; omega) (Ev.now _)))))))))))))⟩
theorem drawShuffle (l : List Int) (hl : l.length ≤ 9223372036854775807) : ∃ s m, Ev (fun k => spec_DrawShuffle.f k l) (s, m) ∧ s.length ≤ 9 := by
  obtain ⟨mx, z, h, _, _⟩ := src_source l hl
  obtain ⟨r, p, m, h1, a0, a1, q0, q1⟩ := src_n l 0 mx z 9 hl (by omega) (by omega) (by omega)
  obtain ⟨s, p2, m2, h2, hs, q2, q3⟩ := src_list l z 0 9 hl (by omega) (by omega) (by omega) r.toNat [] p m (by simp; omega) q0 q1
  rw [Int.toNat_of_nonneg a0] at h2
  obtain ⟨b, p3, m3, h3, q4, q5⟩ := src_one l p2 m2 z 10 hl q2 q3 (by omega)
  have hs9 : s.length ≤ 9 := by simp at hs; omega
  cases b
  · obtain ⟨r4, p4, m4, h4, _, _, q6, q7⟩ := src_n l p3 m3 z 256 hl q4 q5 (by omega)
    obtain ⟨r5, p5, m5, h5, _, _, q8, q9⟩ := src_n l p4 m4 z 256 hl q6 q7 (by omega)
    exact ⟨s, _, Ev.congr (fun k => rfl) (Ev.bind h (evSome h1 (Ev.bind (Ev.congr (fun k => rfl) h2) (evSome h3 (evElse Bool.false_ne_true (evSome h4 (evSome h5 (Ev.now _)))))))), hs9⟩
  · obtain ⟨r4, p4, m4, h4, _, _, q6, q7⟩ := src_edge l p3 m3 z hl q4 q5
    exact ⟨s, _, Ev.congr (fun k => rfl) (Ev.bind h (evSome h1 (Ev.bind (Ev.congr (fun k => rfl) h2) (evSome h3 (evIf rfl (evSome h4 (Ev.now _))))))), hs9⟩
theorem drawPut (l : List Int) (hl : l.length ≤ 9223372036854775807) : ∃ s n, Ev (fun k => spec_DrawSetPut.f k l) (s, n) ∧ s.length ≤ 401 := by
  obtain ⟨mx, z, h, _, _⟩ := src_source l hl
  obtain ⟨s, p2, m2, h2, hs, q2, q3⟩ := src_set l z hl 0 mx (by omega) (by omega)
  obtain ⟨b, p3, m3, h3, q4, q5⟩ := src_one l p2 m2 z 8 hl q2 q3 (by omega)
  cases b
  · obtain ⟨r4, p4, m4, h4, _, _, q6, q7⟩ := src_n l p3 m3 z 11 hl q4 q5 (by omega)
    exact ⟨s, _, Ev.congr (fun k => rfl) (Ev.bind h (Ev.bind h2 (evSome h3 (evElse Bool.false_ne_true (evSome h4 (Ev.now _)))))), hs⟩
  · obtain ⟨r4, p4, m4, h4, _, _, q6, q7⟩ := src_edge l p3 m3 z hl q4 q5
    exact ⟨s, _, Ev.congr (fun k => rfl) (Ev.bind h (Ev.bind h2 (evSome h3 (evIf rfl (evSome h4 (Ev.now _)))))), hs⟩
/-! What is shuffled is the same numbers. -/
theorem swap_count (l : List Int) (i j : Nat) (hi : i < l.length) (hj : j < l.length) (n : Int) : ((l.set i (l.getD j 0)).set j (l.getD i 0)).count n = l.count n := by
  have gi : l.getD i 0 = l[i] := by simp [List.getD, hi]
  have gj : l.getD j 0 = l[j] := by simp [List.getD, hj]
  rw [gi, gj, List.count_set (by simpa using hj), List.count_set hi]
  rw [List.getElem_set]
  have h1 : ∀ q, (hq : q < l.length) → (l[q] == n) = true → 0 < l.count n := fun q hq e => List.count_pos_iff.2 ((beq_iff_eq.1 e) ▸ List.getElem_mem hq)
  by_cases e : i = j
  · subst e
    by_cases a : (l[i] == n) = true
    · have := h1 i hi a
      simp only [if_true, a]; omega
    · simp only [if_true, if_neg a]; omega
  · simp only [if_neg e]
    by_cases a : (l[i] == n) = true
    · have := h1 i hi a
      by_cases b : (l[j] == n) = true
      · simp only [a, b, if_true]; omega
      · simp only [a, if_neg b, if_true]; omega
    · by_cases b : (l[j] == n) = true
      · have := h1 j hj b
        simp only [b, if_neg a, if_true]; omega
      · simp only [if_neg a, if_neg b]; omega
theorem shufS_count (n : Int) : ∀ (i : Nat) (l : List Int) (s : Int), (i < l.length ∨ i = 0) → (shufS i l s).2.count n = l.count n
  | 0, _, _, _ => rfl
  | i + 1, l, s, hi => by
    have hm : 0 ≤ nextS s / 256 % ((i : Int) + 2) ∧ nextS s / 256 % ((i : Int) + 2) < (i : Int) + 2 := ⟨Int.emod_nonneg _ (by omega), Int.emod_lt_of_pos _ (by omega)⟩
    rw [shufS, shufS_count n i _ _ (by simp; omega)]
    exact swap_count l (i + 1) _ (by omega) (by omega) n
/-! A set that is put to and dropped from. -/
theorem setR_of {l : List Int} (h : ∀ b a : Nat, a < b → b < l.length → l.getD a 0 < l.getD b 0) (hl : l.length ≤ 400) : setR l = true := by
  rw [setR, Bool.and_eq_true, rises_iff]
  exact ⟨fun j h1 h2 => h j (j - 1) (by omega) (by omega), decide_eq_true hl⟩
theorem pairs_of {l : List Int} (h : setR l = true) : l.Pairwise (· < ·) := by
  rw [List.pairwise_iff_getElem]
  intro i j hi hj hij
  have := setR_lt h j i hij hj
  simpa [List.getD, hi, hj] using this
theorem setR_pairs {l : List Int} (h : l.Pairwise (· < ·)) (hl : l.length ≤ 400) : setR l = true := by
  refine setR_of (fun b a hab hb => ?_) hl
  have := (List.pairwise_iff_getElem.1 h) a b (by omega) hb hab
  simpa [List.getD, hb, show a < l.length by omega] using this
theorem putW_pairs {l : List Int} (n : Int) (h : l.Pairwise (· < ·)) (hn : n ∉ l) : (putW (fun x => decide (x < n)) n l).Pairwise (· < ·) ∧ (∀ y, y ∈ putW (fun x => decide (x < n)) n l ↔ y = n ∨ y ∈ l) ∧ (putW (fun x => decide (x < n)) n l).filter (fun x => !impl_without.p n x) = l := by
  unfold putW
  induction l with
  | nil => simp [impl_without.p]
  | cons a l ih =>
    have ha : a ≠ n := fun e => hn (e ▸ List.mem_cons_self)
    have hn' : n ∉ l := fun e => hn (List.mem_cons_of_mem _ e)
    rw [List.pairwise_cons] at h
    obtain ⟨i1, i2, i3⟩ := ih h.2 hn'
    have hf : l.filter (fun x => !impl_without.p n x) = l := List.filter_eq_self.2 (fun y hy => by simp [impl_without.p]; exact fun e => hn' (e ▸ hy))
    by_cases hlt : a < n
    · rw [List.takeWhile_cons_of_pos (by simpa using hlt), List.dropWhile_cons_of_pos (by simpa using hlt)]
      refine ⟨?_, ?_, ?_⟩
      · rw [List.cons_append, List.cons_append, List.pairwise_cons]
        refine ⟨fun y hy => ?_, i1⟩
        rcases (i2 y).1 hy with rfl | hy
        · exact hlt
        · exact h.1 y hy
      · intro y
        rw [List.cons_append, List.cons_append, List.mem_cons, i2 y, List.mem_cons]
        constructor
        · rintro (h | h | h)
          · exact .inr (.inl h)
          · exact .inl h
          · exact .inr (.inr h)
        · rintro (h | h | h)
          · exact .inr (.inl h)
          · exact .inl h
          · exact .inr (.inr h)
      · rw [List.cons_append, List.cons_append, List.filter_cons, if_pos (by simp [impl_without.p, ha]), i3]
    · rw [List.takeWhile_cons_of_neg (by simpa using hlt), List.dropWhile_cons_of_neg (by simpa using hlt)]
      refine ⟨?_, ?_, ?_⟩
      · rw [List.nil_append, List.singleton_append, List.pairwise_cons, List.pairwise_cons]
        refine ⟨fun y hy => ?_, h⟩
        rcases List.mem_cons.1 hy with rfl | hy
        · omega
        · have := h.1 y hy; omega
      · intro y; simp
      · rw [List.nil_append, List.singleton_append, List.filter_cons, if_neg (by simp [impl_without.p]), List.filter_cons, if_pos (by simp [impl_without.p, ha]), hf]
theorem filter_put {l : List Int} (n : Int) (h : l.Pairwise (· < ·)) (hn : n ∈ l) : putW (fun x => decide (x < n)) n (l.filter (fun x => !impl_without.p n x)) = l := by
  induction l with
  | nil => cases hn
  | cons a l ih =>
    rw [List.pairwise_cons] at h
    by_cases ha : a = n
    · subst ha
      have hf : l.filter (fun x => !impl_without.p a x) = l := List.filter_eq_self.2 (fun y hy => by have := h.1 y hy; simp [impl_without.p]; omega)
      rw [List.filter_cons, if_neg (by simp [impl_without.p]), hf]
      unfold putW
      cases l with
      | nil => rfl
      | cons b l =>
        have := h.1 b List.mem_cons_self
        rw [List.takeWhile_cons_of_neg (by simp; omega), List.dropWhile_cons_of_neg (by simp; omega)]
        rfl
    · have hn' : n ∈ l := (List.mem_cons.1 hn).resolve_left (fun e => ha e.symm)
      have hlt := h.1 n hn'
      rw [List.filter_cons, if_pos (by simp [impl_without.p, ha])]
      have := ih h.2 hn'
      unfold putW at this ⊢
      rw [List.takeWhile_cons_of_pos (by simpa using hlt), List.dropWhile_cons_of_pos (by simpa using hlt), List.cons_append, List.cons_append, this]
/-- The last word of the law. -/
theorem chance_end (s : List Int) (n : Int) (hs : s.length ≤ 401) : Ev (fun k => laws_FnChance.j5 k s n (setPutS s n) (setDropS s n)) true := by
  have hp := setPutS_length s n
  have hd := setDropS_length s n
  refine Ev.step (fun k => rfl) (Ev.bind (specSet_ev s (by omega)) ?_)
  rw [← setR]
  have yes : Ev (fun k => laws_FnChance.j6 k n (setPutS s n) (setDropS s n) true) true := Ev.step (f := fun _ => some true) (fun k => by simp only [laws_FnChance.j6]; rw [if_pos trivial]) (Ev.now _)
  by_cases hr : setR s = true
  rotate_left
  · exact evElse hr yes
  refine evIf hr ?_
  by_cases hz : (s.length : Int) ≥ 400
  · rw [decide_eq_true hz]; exact yes
  rw [decide_eq_false hz]
  have hpw := pairs_of hr
  refine Ev.step (fun k => by simp only [laws_FnChance.j6]; rw [if_neg (by decide)]) (Ev.bind (implSetHas_ev _ n (by omega)) ?_)
  -- the set with n, the set without n
  have hP : (setPutS s n).Pairwise (· < ·) ∧ n ∈ setPutS s n ∧ (setPutS s n).filter (fun x => !impl_without.p n x) = setDropS s n := by
    unfold setPutS setDropS
    rw [if_neg (show ¬ 400 < s.length by omega), if_neg (show ¬ 400 < s.length by omega), if_pos hr]
    by_cases hc : s.contains n = false
    · rw [if_pos ⟨hr, hc, by omega⟩]
      have hm : n ∉ s := fun h => by rw [List.contains_iff_mem.2 h] at hc; cases hc
      obtain ⟨a, b, c⟩ := putW_pairs n hpw hm
      refine ⟨a, (b n).2 (.inl rfl), ?_⟩
      rw [c]
      exact (List.filter_eq_self.2 (fun y hy => by simp [impl_without.p]; exact fun e => hm (e ▸ hy))).symm
    · rw [if_neg (fun h => hc h.2.1)]
      exact ⟨hpw, by simpa using hc, rfl⟩
  have hD : (setDropS s n).Pairwise (· < ·) ∧ n ∉ setDropS s n := by
    unfold setDropS
    rw [if_neg (show ¬ 400 < s.length by omega), if_pos hr]
    exact ⟨hpw.filter _, fun h => by simp [impl_without.p] at h⟩
  have hPr := setR_pairs hP.1 hp
  have hDr := setR_pairs hD.1 hd
  rw [hPr, List.contains_iff_mem.2 hP.2.1]
  refine evIf rfl (Ev.bind (implSetHas_ev _ n (by omega)) ?_)
  have hDc : (setDropS s n).contains n = false := by
    rw [Bool.eq_false_iff]; intro h; exact hD.2 (List.contains_iff_mem.1 h)
  rw [hDr, hDc]
  refine evElse (by decide) (Ev.bind (implSetDrop_ev _ n (by omega)) ?_)
  have e1 : setDropS (setPutS s n) n = setDropS s n := by
    conv => lhs; unfold setDropS
    rw [if_neg (show ¬ 400 < (setPutS s n).length by omega), if_pos hPr, hP.2.2]
  rw [e1]
  refine Ev.bind (lwNums_refl _ (by omega)) (evIf rfl (Ev.bind (implSetPut_ev _ n (by omega)) ?_))
  have e2 : setPutS (setDropS s n) n = setPutS s n := by
    have hdl : (setDropS s n).length ≤ s.length := by
      unfold setDropS
      rw [if_neg (show ¬ 400 < s.length by omega), if_pos hr]
      exact List.length_filter_le _ _
    conv => lhs; unfold setPutS
    rw [if_neg (show ¬ 400 < (setDropS s n).length by omega), if_pos ⟨hDr, hDc, by omega⟩]
    rw [← hP.2.2]
    exact filter_put n hP.1 hP.2.1
  rw [e2]
  exact Ev.bind (lwNums_refl _ (by omega)) (Ev.now _)
theorem chance_loop (l s P D : List Int) (n fr : Int) (hl : l.length ≤ 9) (h0 : 0 ≤ fr) (h1 : fr ≤ 2147483647) (hend : Ev (fun k => laws_FnChance.j5 k s n P D) true) (x0 : Int) : ∀ (d i : Nat), i + d = l.length →
    Ev (fun k => laws_FnChance.l0 k l s n P D (i : Int) x0 (shuffleS l fr).2) true
  | 0, i, h => Ev.step (fun k => by simp only [laws_FnChance.l0]; rw [if_neg (by omega)]) hend
  | d + 1, i, h => by
    have hz := shuffleS_length l fr
    refine Ev.step (fun k => by simp only [laws_FnChance.l0]; rw [if_pos (by omega), if_pos (by omega)]) (Ev.bind (lwMany_ev (shuffleS l fr).2 (rd l (i : Int)) (by omega)) (Ev.bind (lwMany_ev l (rd l (i : Int)) (by omega)) (evIf ?_ ?_)))
    · unfold shuffleS
      rw [if_neg (by omega), if_pos (inR_iff.2 ⟨h0, h1⟩), shufS_count _ _ _ _ (by omega)]
    · rw [wrap_succ (n := l.length) (by omega) (by omega)]
      exact chance_loop l s P D n fr hl h0 h1 hend x0 d (i + 1) (by omega)
theorem FnChance : laws_FnChance.Goal := by
  intro l0 l1 hl0 _ hl1 _
  have last : ∀ k, laws_FnChance.j0 (k + 1) l0 l1 true = some true := fun k => by simp only [laws_FnChance.j0]; rw [if_pos trivial]
  by_cases hb : (l0.length : Int) > 1048576
  · exact ⟨1, by simp only [laws_FnChance.f]; rw [if_pos hb]; exact last 0⟩
  by_cases hb2 : (l1.length : Int) > 1048576
  · exact ⟨1, by simp only [laws_FnChance.f]; rw [if_neg hb, decide_eq_true hb2]; exact last 0⟩
  obtain ⟨sd, mo, hd1⟩ := drawChance l0 hl0
  obtain ⟨l, fr, hd2, hl9⟩ := drawShuffle l1 hl1
  obtain ⟨s, n, hd3, hs⟩ := drawPut l0 hl0
  have hch : impl_Chance.f sd mo = spec_Chance.f sd mo := by
    simp only [impl_Chance.f, spec_Chance.f, impl_isSeed.f, spec_l02Seed.f, impl_within.f, spec_l02Is.f, spec_l02Draw.f, ge_iff_le, apply_ite (fun o : Option Bool => o.bind _), Option.bind_some]
    repeat' split
    all_goals first | rfl | omega
  have hc2 : ∃ c, spec_Chance.f sd mo = some c := by
    simp only [spec_Chance.f, spec_l02Seed.f, spec_l02Is.f, spec_l02Draw.f]
    by_cases h0 : sd ≥ 0 <;> by_cases h1 : sd ≤ 2147483647 <;> by_cases h2 : mo ≥ 1 <;> by_cases h3 : mo ≤ 1000000 <;> simp [h0, h1, h2, h3]
    rw [if_neg (by omega)]
    exact ⟨_, _, rfl⟩
  obtain ⟨⟨c1, c2⟩, hc⟩ := hc2
  have hci : impl_Chance.f sd mo = some (c1, c2) := hch.trans hc
  have hrange : sd ≥ 0 → sd ≤ 2147483647 → mo ≥ 1 → mo ≤ 1000000 → 0 ≤ c1 ∧ c1 ≤ 2147483647 ∧ 0 ≤ c2 ∧ c2 < mo := by
    intro h0 h1 h2 h3
    have h4 := implChance_eq sd mo h0 h1 h2 h3
    rw [hci] at h4
    injection h4 with h4
    injection h4 with h5 h6
    have hn := nextS_range sd
    have := Int.emod_nonneg (nextS sd / 256) (show mo ≠ 0 by omega)
    have := Int.emod_lt_of_pos (nextS sd / 256) (show 0 < mo by omega)
    omega
  have hend := chance_end s n hs
  have hz1 := setPutS_length s n
  have hz2 := setDropS_length s n
  have hz3 := shuffleS_length l fr
  have t3 : ∀ b : Bool, (b = true → 0 ≤ fr ∧ fr ≤ 2147483647) → Ev (fun k => laws_FnChance.j3 k l s n (setPutS s n) (setDropS s n) b (shuffleS l fr).1 (shuffleS l fr).2) true := by
    intro b hbr
    cases b
    · exact Ev.step (fun k => by simp only [laws_FnChance.j3]; rw [if_neg (by decide)]) hend
    · obtain ⟨h0, h1⟩ := hbr rfl
      exact Ev.step (fun k => by simp only [laws_FnChance.j3]; rw [if_pos trivial]; rfl) (chance_loop l s _ _ n fr hl9 h0 h1 hend _ l.length 0 (by omega))
  have t2 : Ev (fun k => laws_FnChance.j2 k l fr s n (setPutS s n) (setDropS s n) false (shuffleS l fr).1 (shuffleS l fr).2) true := by
    by_cases h0 : fr ≥ 0
    · exact Ev.step (fun k => by simp only [laws_FnChance.j2]; rw [if_neg (by decide), if_pos h0]) (t3 _ (fun h => ⟨h0, of_decide_eq_true h⟩))
    · exact Ev.step (fun k => by simp only [laws_FnChance.j2]; rw [if_neg (by decide), if_neg h0]) (t3 false (fun h => by cases h))
  have t1 : Ev (fun k => laws_FnChance.j1 k sd mo l fr s n (setPutS s n) (setDropS s n) false c1 c2 (shuffleS l fr).1 (shuffleS l fr).2) true := by
    by_cases h0 : sd ≥ 0
    rotate_left
    · exact Ev.step (fun k => by simp only [laws_FnChance.j1]; rw [if_neg (by decide), if_neg h0]) t2
    by_cases h1 : sd ≤ 2147483647
    rotate_left
    · exact Ev.step (fun k => by simp only [laws_FnChance.j1]; rw [if_neg (by decide), if_pos h0, if_neg h1]) t2
    by_cases h2 : mo ≥ 1
    rotate_left
    · exact Ev.step (fun k => by simp only [laws_FnChance.j1]; rw [if_neg (by decide), if_pos h0, if_pos h1, if_neg h2]) t2
    by_cases h3 : mo ≤ 1000000
    rotate_left
    · exact Ev.step (fun k => by simp only [laws_FnChance.j1]; rw [if_neg (by decide), if_pos h0, if_pos h1, if_pos h2, if_neg h3]) t2
    obtain ⟨r0, r1, r2, r3⟩ := hrange h0 h1 h2 h3
    exact Ev.step (fun k => by simp only [laws_FnChance.j1]; rw [if_neg (by decide), if_pos h0, if_pos h1, if_pos h2, if_pos h3, if_neg (by omega), if_neg (by omega), if_neg (by omega), decide_eq_false (by omega)]) t2
  refine Ev.rounds (Ev.congr (fun k => by simp only [laws_FnChance.f]; rw [if_neg hb, decide_eq_false hb2]) ?_)
  refine Ev.step (fun k => by simp only [laws_FnChance.j0]; rw [if_neg (by decide)]) (Ev.bind hd1 (evSome hci (Ev.bind hd2 ?_)))
  refine evSome (implShuffle_eq l fr (by omega)) ?_
  refine Ev.bind (specShuffle_ev l fr (by omega)) (Ev.bind hd3 ?_)
  refine Ev.bind (implSetPut_ev s n (by omega)) ?_
  refine Ev.bind (implSetDrop_ev s n (by omega)) ?_
  refine evSome hc ?_
  refine evElse (by simp) ?_
  refine evIf rfl ?_
  refine Ev.bind (lwNums_refl _ (by omega)) ?_
  refine evIf rfl ?_
  refine Ev.bind (specSetPut_ev s n (by omega)) ?_
  refine Ev.bind (lwNums_refl _ (by omega)) ?_
  refine evIf rfl ?_
  refine Ev.bind (specSetDrop_ev s n (by omega)) ?_
  refine Ev.bind (lwNums_refl _ (by omega)) ?_
  refine evIf rfl ?_
  refine Ev.bind (implSetHas_ev s n (by omega)) ?_
  refine Ev.bind (specSetHas_ev s n (by omega)) ?_
  refine evElse (by simp) ?_
  refine Ev.bind (implSet_ev s (by omega)) ?_
  refine Ev.bind (specSet_ev s (by omega)) ?_
  rw [bne_self_eq_false]
  exact t1

end Go.Proofs.Ytkgjikjnciihmaa.Pure
