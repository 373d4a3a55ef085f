/- The plain law of FnExactSetPut: what the Lean functions of the printed texts answer. -/
import Derived.Test.YthgofcgkmdbcdaaGFnExactSetPut
import Derived.Test.YthgofcgkmdbcdaaHSem
import Derived.Test.YthgofcgkmdbcdaaHBin
namespace Go.Proofs.Ythgofcgkmdbcdaa.Pure
open Go.RowKit Go.Proofs.Ythgofcgkmdbcdaa.PFnExactSetPut Go.Proofs.YthgofcgkmdbcdaaW.PrintWords Go.Proofs.YthgofcgkmdbcdaaW.PrintLast Go.Proofs.YthgofcgkmdbcdaaW.PrintMore Go.Proofs.YthgofcgkmdbcdaaH
set_option linter.unusedVariables false
set_option linter.unusedSimpArgs false

/-- Is a set right? -/
def setR (l : List Int) : Bool := rises l 1 (l.length - 1) && decide (l.length ≤ 400)
theorem rises_iff (l : List Int) : ∀ d i : Nat, rises l i d = true ↔ ∀ j, i ≤ j → j < i + d → l.getD (j - 1) 0 < l.getD j 0
  | 0, i => by simp [rises]; intro j h1 h2; omega
  | d + 1, i => by
    rw [rises, Bool.and_eq_true, rises_iff l d (i + 1), decide_eq_true_iff]
    constructor
    · rintro ⟨h1, h2⟩ j hj hk
      rcases Nat.lt_or_ge i j with h | h
      · exact h2 j h (by omega)
      · have : j = i := by omega
        rw [this]; exact h1
    · intro h
      exact ⟨h i (by omega) (by omega), fun j h1 h2 => h j (by omega) (by omega)⟩
theorem setR_lt {l : List Int} (h : setR l = true) : ∀ b a : Nat, a < b → b < l.length → l.getD a 0 < l.getD b 0 := by
  rw [setR, Bool.and_eq_true, rises_iff] at h
  intro b
  induction b with
  | zero => intro a h1; omega
  | succ b ih =>
    intro a h1 h2
    have h3 := h.1 (b + 1) (by omega) (by omega)
    rw [Nat.add_sub_cancel] at h3
    rcases Nat.lt_or_ge a b with h4 | h4
    · have := ih a h4 (by omega); omega
    · have : a = b := by omega
      subst this; exact h3

theorem specSet_l0 (l : List Int) (hl : l.length ≤ 140737488355328) : ∀ d i : Nat, 0 < i → (i + d = l.length ∨ (d = 0 ∧ l.length ≤ i)) → Ev (fun k => spec_SetRight.l0 k l (i : Int)) (rises l i d)
  | 0, i, h0, h => Ev.step (f := fun _ => some true) (fun k => by simp only [spec_SetRight.l0]; rw [if_neg (by omega)]) (Ev.now _)
  | d + 1, i, h0, h => by
    have hw := wrap_succ (i := i) (n := l.length) (by omega) hl
    have hp := wrap_pred (i := i) (n := l.length) h0 (by omega) hl
    by_cases ho : l.getD (i - 1) 0 < l.getD i 0
    · refine Ev.step (f := fun k => spec_SetRight.l0 k l ((i + 1 : Nat) : Int)) (fun k => ?_) (by rw [rises, decide_eq_true ho, Bool.true_and]; exact specSet_l0 l hl d (i + 1) (by omega) (by omega))
      simp only [spec_SetRight.l0]
      rw [hw, hp, rd_nat, rd_nat]
      repeat' split
      all_goals first | rfl | omega
    · refine Ev.step (f := fun k => some false) (fun k => ?_) (by rw [rises, decide_eq_false ho, Bool.false_and]; exact Ev.now _)
      simp only [spec_SetRight.l0]
      rw [hw, hp, rd_nat, rd_nat]
      repeat' split
      all_goals first | rfl | omega

theorem specSet_ev (l : List Int) (hl : l.length ≤ 140737488355328) : Ev (fun k => spec_SetRight.f k l) (rises l 1 (l.length - 1) && decide (l.length ≤ 400)) := by
  by_cases h : l.length ≤ 400
  · refine Ev.congr (f := fun k => spec_SetRight.l0 k l ((1 : Nat) : Int)) (fun k => ?_) (by simpa [h] using specSet_l0 l hl (l.length - 1) 1 (by omega) (by omega))
    simp only [spec_SetRight.f]; rw [if_neg (by omega)]; rfl
  · refine Ev.congr (f := fun k => some false) (fun k => ?_) (by simpa [h] using Ev.now _)
    simp only [spec_SetRight.f]; rw [if_pos (by omega)]


theorem implSet_l0 (l : List Int) (hl : l.length ≤ 140737488355328) : ∀ d i : Nat, 0 < i → (i + d = l.length ∨ (d = 0 ∧ l.length ≤ i)) → Ev (fun k => impl_SetRight.l0 k l (i : Int)) (rises l i d && decide (l.length ≤ 400))
  | 0, i, h0, h => Ev.step (f := fun _ => some (decide (l.length ≤ 400))) (fun k => by
      simp only [impl_SetRight.l0, impl_longList_int64.f, Option.bind_some]; rw [if_neg (by omega)]
      congr 1; rw [Bool.eq_iff_iff]; simp; omega) (by simpa [rises] using Ev.now _)
  | d + 1, i, h0, h => by
    have hw := wrap_succ (i := i) (n := l.length) (by omega) hl
    have hp := wrap_pred (i := i) (n := l.length) h0 (by omega) hl
    by_cases ho : l.getD (i - 1) 0 < l.getD i 0
    · refine Ev.step (f := fun k => impl_SetRight.l0 k l ((i + 1 : Nat) : Int)) (fun k => ?_) (by rw [rises, decide_eq_true ho, Bool.true_and]; exact implSet_l0 l hl d (i + 1) (by omega) (by omega))
      simp only [impl_SetRight.l0]
      rw [hw, hp, rd_nat, rd_nat]
      repeat' split
      all_goals first | rfl | omega
    · refine Ev.step (f := fun k => some false) (fun k => ?_) (by rw [rises, decide_eq_false ho, Bool.false_and, Bool.false_and]; exact Ev.now _)
      simp only [impl_SetRight.l0]
      rw [hw, hp, rd_nat, rd_nat]
      repeat' split
      all_goals first | rfl | omega

theorem implSet_ev (l : List Int) (hl : l.length ≤ 140737488355328) : Ev (fun k => impl_SetRight.f k l) (rises l 1 (l.length - 1) && decide (l.length ≤ 400)) :=
  implSet_l0 l hl (l.length - 1) 1 (by omega) (by omega)


theorem specHas_l0 (l : List Int) (n : Int) (hl : l.length ≤ 140737488355328) : ∀ d i : Nat, i + d = l.length → Ev (fun k => spec_l02Has.l0 k l n (i : Int)) ((l.drop i).contains n)
  | 0, i, h => Ev.step (f := fun _ => some false) (fun k => by simp only [spec_l02Has.l0]; rw [if_neg (by omega)]) (by rw [List.drop_of_length_le (by omega)]; exact Ev.now _)
  | d + 1, i, h => by
    have hw := wrap_succ (i := i) (n := l.length) (by omega) hl
    rw [drop_at l 0 (show i < l.length by omega), List.contains_cons]
    by_cases ho : l.getD i 0 = n
    · refine Ev.step (f := fun k => some true) (fun k => ?_) (by rw [ho, beq_self_eq_true, Bool.true_or]; exact Ev.now _)
      simp only [spec_l02Has.l0]
      rw [rd_nat, if_pos (by omega), if_pos (by omega), if_pos ho]
    · refine Ev.step (f := fun k => spec_l02Has.l0 k l n ((i + 1 : Nat) : Int)) (fun k => ?_) (by rw [beq_eq_false_iff_ne.2 (Ne.symm ho), Bool.false_or]; exact specHas_l0 l n hl d (i + 1) (by omega))
      simp only [spec_l02Has.l0]
      rw [hw, rd_nat, if_pos (by omega), if_pos (by omega), if_neg ho]
theorem specHas_ev (l : List Int) (n : Int) (hl : l.length ≤ 140737488355328) : Ev (fun k => spec_l02Has.f k l n) (l.contains n) := specHas_l0 l n hl l.length 0 (by omega)

/-- SetPut. -/
def setPutS (l : List Int) (n : Int) : List Int := if 400 < l.length then [] else if setR l = true ∧ l.contains n = false ∧ l.length ≠ 400 then putW (fun x => decide (x < n)) n l else l
theorem setPutS_length (l : List Int) (n : Int) : (setPutS l n).length ≤ 400 := by
  unfold setPutS
  repeat' split
  · simp
  · rw [putW_length]; omega
  · omega
theorem specPut_ev (l : List Int) (n : Int) (hl : l.length ≤ 400) : Ev (fun k => spec_l02Put.f k l n) (if l.contains n = false then putW (fun x => decide (x < n)) n l else l) := by
  cases hc : l.contains n with
  | true =>
    rw [if_neg (by decide)]
    refine Ev.bind (specHas_ev l n (by omega)) ?_
    simp only [hc, if_true, Option.bind_some, List.nil_append, List.length_nil]
    rw [if_pos (by omega)]
    exact Ev.now _
  | false =>
    rw [if_pos rfl]
    refine Ev.bind (specHas_ev l n (by omega)) ?_
    simp only [hc, Bool.false_eq_true, if_false]
    obtain ⟨m, _, a2, a3, a4, a5⟩ := seekLoop l.length (fun i => decide (l.getD i 0 < n)) (fun k i => spec_l02Put.l0 k l n i) (fun m => l.take m ++ [n] ++ l.drop m) (fun k i hi hb => by
      have hw := wrap_succ (i := i) (n := l.length) hi (by omega)
      simp only [spec_l02Put.l0]
      rw [if_pos (by omega), if_pos (by omega), rd_nat, if_pos (of_decide_eq_true hb), hw]) (fun k i hi hb => by
      have e1 : (l.take i).length ≤ 400 := by rw [List.length_take]; omega
      have e2 : (l.drop i).length ≤ 400 := by rw [List.length_drop]; omega
      simp only [spec_l02Put.l0, Option.bind_some, List.nil_append, List.length_nil, Int.toNat_natCast, List.length_append, List.length_singleton, rd_nat]
      by_cases h : i < l.length
      · have h2 := of_decide_eq_false (hb h)
        rw [if_pos (by omega), if_pos (by omega), if_neg h2, if_pos (by omega), if_pos (by omega), if_pos (by omega), if_pos (by omega)]
      · rw [if_neg (by omega), if_pos (by omega), if_pos (by omega), if_pos (by omega), if_pos (by omega), if_pos (by omega)]) l.length 0 (by omega)
    rw [← putW_at (fun x => decide (x < n)) 0 n l m a2 (fun j hj => a4 j (by omega) hj) a5]
    exact a3
theorem specSetPut_ev (l : List Int) (n : Int) (hl : l.length ≤ 140737488355328) : Ev (fun k => spec_SetPut.f k l n) (setPutS l n) := by
  unfold setPutS
  by_cases h4 : 400 < l.length
  · rw [if_pos h4]
    refine Ev.congr (f := fun _ => some _) (fun k => ?_) (Ev.now _)
    simp only [spec_SetPut.f]; rw [if_pos (by omega)]
  · rw [if_neg h4]
    refine Ev.congr (fun k => by simp only [spec_SetPut.f]; rw [if_neg (by omega)]) (Ev.bind (specSet_ev l hl) ?_)
    rw [← setR]
    by_cases hq : setR l = true
    · simp only [if_pos hq]
      by_cases h5 : l.length = 400
      · simp only [if_pos (show (l.length : Int) ≥ 400 by omega), Option.bind_some, List.length_nil, Nat.zero_add, List.nil_append]
        rw [if_pos (by omega), if_neg (fun h => h.2.2 h5)]
        exact Ev.now _
      · simp only [if_neg (show ¬ (l.length : Int) ≥ 400 by omega)]
        have := specPut_ev l n (by omega)
        by_cases hc : l.contains n = false
        · rw [if_pos hc] at this
          rw [if_pos ⟨hq, hc, h5⟩]
          exact Ev.bind this (Ev.now _)
        · rw [if_neg hc] at this
          rw [if_neg (fun h => hc h.2.1)]
          exact Ev.bind this (Ev.now _)
    · rw [if_neg (fun h => hq h.1)]
      simp only [if_neg hq, Option.bind_some, List.length_nil, Nat.zero_add, List.nil_append]
      rw [if_pos (by omega)]
      exact Ev.now _
/-- What the search by halves answers. -/
theorem binS_ev (l : List Int) (n : Int) (hl : l.length ≤ 1048576) : ∃ m, m ≤ l.length ∧ Ev (fun k => slices_BinarySearch_int64_int64.f k l n) ((m : Int), decide (m < l.length ∧ l.getD m 0 = n)) ∧ (0 < m → l.getD (m - 1) 0 < n) ∧ (m < l.length → ¬ l.getD m 0 < n) := by
  obtain ⟨m, _, a2, a3, a4, a5⟩ := binLoop l.length (fun i => decide (l.getD i 0 < n)) (fun k i j => slices_BinarySearch_int64_int64.l0 k l n (l.length : Int) i j) (fun m => ((m : Int), decide (m < l.length ∧ l.getD m 0 = n))) (fun k i j hij hj => by
      simp only [slices_BinarySearch_int64_int64.l0, cmp_Less_int64.f, cmp_isNaN_int64.f, Option.bind_some, bne_self_eq_false, Bool.false_eq_true, if_false]
      rw [mid_eq (by omega), if_pos (by omega), if_pos (by omega), if_pos (by omega), rd_nat, wrap_id (by omega) (by omega)]
      rfl) (fun k i hi => by
      simp only [slices_BinarySearch_int64_int64.l0, slices_isNaN_int64.f, Option.bind_some, bne_self_eq_false, Bool.false_eq_true, if_false]
      rw [if_neg (by omega)]
      by_cases h : i < l.length
      · rw [if_pos (by omega), if_pos (by omega), if_pos (by omega), rd_nat]
        by_cases e : l.getD i 0 = n
        · rw [if_pos e, decide_eq_true ⟨h, e⟩]
        · rw [if_neg e, decide_eq_false (fun z => e z.2)]
      · rw [if_neg (by omega), decide_eq_false (fun z => h z.1)]) l.length 0 l.length (by omega) (by omega) (by omega)
  exact ⟨m, a2, a3, fun h => of_decide_eq_true (a4 h), fun h => of_decide_eq_false (a5 h)⟩
theorem implSetPut_ev (l : List Int) (n : Int) (hl : l.length ≤ 1048576) : Ev (fun k => impl_SetPut.f k l n) (setPutS l n) := by
  unfold setPutS
  by_cases h4 : 400 < l.length
  · rw [if_pos h4]
    refine Ev.congr (f := fun _ => some _) (fun k => ?_) (Ev.now _)
    simp only [impl_SetPut.f, impl_longList_int64.f, Option.bind_some]; rw [if_pos (by simp; omega)]
  · rw [if_neg h4]
    obtain ⟨m, a2, a3, a4, a5⟩ := binS_ev l n hl
    refine Ev.congr (fun k => by simp only [impl_SetPut.f, impl_longList_int64.f, Option.bind_some]; rw [if_neg (by simp; omega)]) (Ev.bind a3 (Ev.bind (implSet_ev l (by omega)) ?_))
    rw [← setR]
    have hcl : slices_Clone_int64_int64.f l = some l := by simp only [slices_Clone_int64_int64.f]; rw [if_pos (by omega)]
    by_cases hq : setR l = true
    · have hlt := setR_lt hq
      have hcon : l.contains n = decide (m < l.length ∧ l.getD m 0 = n) := by
        rw [Bool.eq_iff_iff, decide_eq_true_iff, List.contains_iff_mem]
        constructor
        · intro hm
          obtain ⟨j, hj, rfl⟩ := List.getElem_of_mem hm
          have ej : l.getD j 0 = l[j] := by simp [List.getD, hj]
          rcases Nat.lt_trichotomy j m with h | h | h
          · exfalso
            have h1 := a4 (by omega)
            rw [← ej] at h1
            rcases Nat.lt_or_ge j (m - 1) with h2 | h2
            · have := hlt (m - 1) j h2 (by omega); omega
            · rw [show m - 1 = j by omega] at h1; omega
          · subst h; exact ⟨hj, ej⟩
          · exfalso
            have h1 := a5 (by omega)
            rw [← ej] at h1
            have := hlt j m h hj; omega
        · rintro ⟨h1, h2⟩
          rw [← h2]
          simp only [List.getD, List.getElem?_eq_getElem h1, Option.getD_some]
          exact List.getElem_mem h1
      simp only [hq, true_and, ← hcon, Int.toNat_natCast]
      by_cases h5 : l.length = 400
      · simp only [if_neg (show ¬ (l.contains n = false ∧ l.length ≠ 400) from fun h => h.2 h5), hcl]
        exact Ev.now _
      · by_cases hc : l.contains n = false
        · simp only [if_pos (show l.contains n = false ∧ l.length ≠ 400 from ⟨hc, h5⟩)]
          rw [if_pos (by omega), ← putW_at (fun x => decide (x < n)) 0 n l m a2 (fun j hj => decide_eq_true (by
            have h1 := a4 (by omega)
            rcases Nat.lt_or_ge j (m - 1) with h2 | h2
            · have := hlt (m - 1) j h2 (by omega); omega
            · rw [show m - 1 = j by omega] at h1; exact h1)) (fun h => decide_eq_false (a5 h))]
          exact Ev.now _
        · simp only [if_neg (show ¬ (l.contains n = false ∧ l.length ≠ 400) from fun h => hc h.1), hcl]
          exact Ev.now _
    · simp only [if_neg (show ¬ (setR l = true ∧ l.contains n = false ∧ l.length ≠ 400) from fun h => hq h.1), if_neg (show ¬ (setR l = true ∧ decide (m < l.length ∧ l.getD m 0 = n) = false ∧ l.length ≠ 400) from fun h => hq h.1), hcl]
      exact Ev.now _

theorem toInts_l0 (l : List Int) (hl : l.length ≤ 140737488355328) : ∀ (d i : Nat) (ys : List Int), i + d = l.length → ys.length = l.length → Ev (fun k => laws_toInt64S.l0 k l ys (i : Int)) (ys.take i ++ l.drop i)
  | 0, i, ys, h, hy => Ev.step (f := fun _ => some ys) (fun k => by simp only [laws_toInt64S.l0]; rw [if_neg (by omega)]) (by
      have e : ys.take i ++ l.drop i = ys := by
        rw [List.drop_of_length_le (show l.length ≤ i by omega), List.append_nil, List.take_of_length_le (by omega)]
      rw [e]; exact Ev.now _)
  | d + 1, i, ys, h, hy => by
    have hw := wrap_succ (i := i) (n := l.length) (by omega) hl
    have e : (ys.set i (l.getD i 0)).take (i + 1) ++ l.drop (i + 1) = ys.take i ++ l.drop i := by
      have h1 : (ys.set i (l.getD i 0)).take (i + 1) = ys.take i ++ [l.getD i 0] := by
        rw [List.take_add_one, List.take_set, List.set_eq_of_length_le (by simp; omega), List.getElem?_set_self (by omega)]
        rfl
      rw [h1, List.append_assoc]
      congr 1
      rw [List.drop_eq_getElem_cons (show i < l.length by omega)]
      simp [List.getD, show i < l.length by omega]
    refine Ev.step (f := fun k => laws_toInt64S.l0 k l (ys.set i (l.getD i 0)) ((i + 1 : Nat) : Int)) (fun k => ?_) (by have := toInts_l0 l hl d (i + 1) (ys.set i (l.getD i 0)) (by omega) (by simpa using hy); rw [e] at this; exact this)
    simp only [laws_toInt64S.l0]
    rw [hw, rd_nat, if_pos (by omega), if_pos (by omega), if_pos (by omega)]
    simp

theorem toInts_ev (l : List Int) (hl : l.length ≤ 1048576) : Ev (fun k => laws_toInt64S.f k l) l := by
  refine Ev.congr (f := fun k => laws_toInt64S.l0 k l (List.replicate l.length 0) ((0 : Nat) : Int)) (fun k => ?_) (by simpa using toInts_l0 l (by omega) l.length 0 (List.replicate l.length 0) (by omega) (by simp))
  simp only [laws_toInt64S.f]
  rw [if_pos (by omega), if_pos (by omega)]
  simp


theorem eqInts_l0 (l m : List Int) (hl : l.length ≤ 140737488355328) (hm : m.length = l.length) : ∀ d i : Nat, i + d = l.length → Ev (fun k => laws_eqInt64S.l0 k l m (i : Int)) (decide (l.drop i = m.drop i))
  | 0, i, h => Ev.step (f := fun _ => some true) (fun k => by simp only [laws_eqInt64S.l0]; rw [if_neg (by omega)]) (by
      rw [List.drop_of_length_le (show l.length ≤ i by omega), List.drop_of_length_le (show m.length ≤ i by omega)]; exact Ev.now _)
  | d + 1, i, h => by
    have hw := wrap_succ (i := i) (n := l.length) (by omega) hl
    have e1 : l.drop i = l.getD i 0 :: l.drop (i + 1) := by
      rw [List.drop_eq_getElem_cons (show i < l.length by omega)]; simp [List.getD, show i < l.length by omega]
    have e2 : m.drop i = m.getD i 0 :: m.drop (i + 1) := by
      rw [List.drop_eq_getElem_cons (show i < m.length by omega)]; simp [List.getD, show i < m.length by omega]
    by_cases ho : l.getD i 0 = m.getD i 0
    · refine Ev.step (f := fun k => laws_eqInt64S.l0 k l m ((i + 1 : Nat) : Int)) (fun k => ?_) (by have := eqInts_l0 l m hl hm d (i + 1) (by omega); rw [e1, e2, ho, decide_eq_decide.2 (show (m.getD i 0 :: l.drop (i + 1) = m.getD i 0 :: m.drop (i + 1)) ↔ (l.drop (i + 1) = m.drop (i + 1)) by simp)]; exact this)
      simp only [laws_eqInt64S.l0]
      rw [hw, rd_nat, rd_nat, if_pos (by omega), if_pos (by omega), if_pos (by omega), if_pos ho]
    · refine Ev.step (f := fun k => some false) (fun k => ?_) (by rw [e1, e2, decide_eq_false (fun h => ho (List.cons.inj h).1)]; exact Ev.now _)
      simp only [laws_eqInt64S.l0]
      rw [rd_nat, rd_nat, if_pos (by omega), if_pos (by omega), if_pos (by omega), if_neg ho]

theorem eqInts_ev (l m : List Int) (hl : l.length ≤ 140737488355328) : Ev (fun k => laws_eqInt64S.f k l m) (decide (l = m)) := by
  by_cases h : m.length = l.length
  · refine Ev.congr (f := fun k => laws_eqInt64S.l0 k l m ((0 : Nat) : Int)) (fun k => ?_) (by simpa using eqInts_l0 l m hl h l.length 0 (by omega))
    simp only [laws_eqInt64S.f]; rw [if_pos (by omega)]; rfl
  · refine Ev.congr (f := fun k => some false) (fun k => ?_) (by
      have : l ≠ m := by rintro rfl; exact h rfl
      simpa [this] using Ev.now _)
    simp only [laws_eqInt64S.f]; rw [if_neg (by omega)]

theorem markInts_ev (l : List Int) (a : Int) (ha : 0 ≤ a) (hb : a + l.length ≤ 4611686018427387904) : Ev (fun k => laws_markInt64S.f k l a) (a + l.length, marks (fun x => x) 1 a l.length) := by
  have h := markLoop l.length (fun x : Int => x) 1 (by omega) (fun k ys a i => laws_markInt64S.l0 k ys a i) (fun k i a ys hi hy h0 h1 => by
      simp only [laws_markInt64S.l0]
      rw [if_pos (by omega), if_pos (by omega), wrap_id (x := a + 1) (by omega) (by omega), wrap_id (x := (i : Int) + 1) (by omega) (by omega)]
      simp) (fun k a ys hy => by
      simp only [laws_markInt64S.l0]
      rw [if_neg (by omega)]) l.length 0 a l (by omega) rfl ha (by omega)
  simpa [Int.one_mul, laws_markInt64S.f] using h

theorem heldInts_ev (n : Nat) (a : Int) (ha : 0 ≤ a) (hb : a + n ≤ 4611686018427387904) : Ev (fun k => laws_heldInt64S.f k (marks (fun x => x) 1 a n) a) (a + n) := by
  have hl := marks_length (fun x : Int => x) 1 n a
  have h := heldLoop n 1 (by omega) a ha (by omega) (fun k x i => laws_heldInt64S.l0 k (marks (fun x => x) 1 a n) x i) (fun k i hi h1 h2 => by
      simp only [laws_heldInt64S.l0]
      rw [if_pos (by omega), if_pos (by omega), rd_nat, marks_at _ _ 0 n i a hi, if_pos rfl, wrap_id (x := a + 1 * (i : Int) + 1) (by omega) (by omega), wrap_id (x := (i : Int) + 1) (by omega) (by omega)]
      rfl) (fun k x => by
      simp only [laws_heldInt64S.l0]
      rw [if_neg (by omega)]) n 0 (by omega)
  simpa [Int.one_mul, laws_heldInt64S.f] using h

theorem putTail (l : List Int) (n : Int) (hl : l.length ≤ 1048576) (T : List Int) (hT : T = setPutS l n) : Ev (fun k => laws_FnExactSetPut.j0 k l n T T false) true := by
  have h4 : T.length ≤ 400 := hT ▸ setPutS_length _ _
  refine Ev.step (fun k => by simp only [laws_FnExactSetPut.j0, Bool.false_eq_true, if_false]; rfl) ?_
  refine Ev.bind (markInts_ev T 1 (by omega) (by omega)) (Ev.bind (heldInts_ev T.length 1 (by omega) (by omega)) ?_)
  simp only [if_neg (show ¬ (1 + (T.length : Int)) < 0 by omega), if_true]
  refine Ev.bind (toInts_ev l hl) (Ev.bind (implSetPut_ev l n hl) ?_)
  rw [← hT]
  refine Ev.bind (eqInts_ev T T (by omega)) ?_
  simp only [decide_true, if_true]
  refine Ev.bind (heldInts_ev T.length 1 (by omega) (by omega)) ?_
  simp only [if_neg (show ¬ (1 + (T.length : Int)) < 0 by omega), if_true]
  exact Ev.now _
theorem FnExactSetPut : laws_FnExactSetPut.Goal := by
  intro l n _ _ _
  by_cases hb : (l.length : Int) > 1048576
  · exact ⟨0, by simp only [laws_FnExactSetPut.f]; rw [if_pos hb]⟩
  · have hl : l.length ≤ 1048576 := by omega
    have h4 := setPutS_length l n
    refine Ev.rounds (Ev.congr (fun k => by simp only [laws_FnExactSetPut.f]; rw [if_neg hb]) ?_)
    refine Ev.bind (toInts_ev l hl) (Ev.bind (specSetPut_ev l n (by omega)) (Ev.bind (toInts_ev l hl) (Ev.bind (implSetPut_ev l n hl) (Ev.bind (eqInts_ev _ _ (by omega)) ?_))))
    simp only [decide_true, if_true]
    refine Ev.bind (toInts_ev l hl) (Ev.bind (eqInts_ev l l (by omega)) ?_)
    simp only [decide_true, if_true]
    refine Ev.bind (markInts_ev l 1 (by omega) (by omega)) ?_
    simp only [if_neg (show ¬ (1 + (l.length : Int)) < 0 by omega)]
    refine Ev.bind (eqInts_ev _ _ (by omega)) ?_
    simp only [decide_true, Bool.not_true]
    exact putTail l n hl _ rfl

end Go.Proofs.Ythgofcgkmdbcdaa.Pure
