/- The plain law of FnExactNotGone: what the Lean functions of the printed texts answer. -/
import Derived.Test.YtffjlefjegcgaaaGFnExactNotGone
import Derived.Test.YtffjlefjegcgaaaHSem
namespace Go.Proofs.Ytffjlefjegcgaaa.Pure
open Go.RowKit Go.Proofs.Ytffjlefjegcgaaa.PFnExactNotGone Go.Proofs.YtffjlefjegcgaaaW.PrintWords Go.Proofs.YtffjlefjegcgaaaW.PrintLast Go.Proofs.YtffjlefjegcgaaaW.PrintMore Go.Proofs.YtffjlefjegcgaaaH
set_option linter.unusedVariables false
set_option linter.unusedSimpArgs false

/-- A fact, as the program has it. -/
def toF (x : S39) : S30 := ⟨x.f0, x.f1, x.f2⟩
theorem szFactS_eq (l : List S39) (hl : (l.length : Int) ≤ 9223372036854775807) : laws_szFactS.f l 1048576 = some (if 1048576 < l.length then -1 else 1048576 - (l.length : Int)) := by
  unfold laws_szFactS.f
  rw [wrap_id (by omega) (by omega)]
  split <;> split <;> first | rfl | omega
theorem toFactS_ev (l : List S39) (hl : l.length ≤ 1048576) : Ev (fun k => laws_toFactS.f k l) (l.map toF) := by
  have h := fillLoop l.length (fun i => toF (l.getD i z39)) (fun k ys i => laws_toFactS.l0 k l ys i) (fun k i ys hi hy => by
      simp only [laws_toFactS.l0, laws_toFact.f, Option.bind_some]
      rw [if_pos (by omega), if_pos (by omega), if_pos (by omega), wrap_succ hi (by omega)]
      simp [rd_T39, toF]) (fun k ys hy => by
      simp only [laws_toFactS.l0]
      rw [if_neg (by omega)]) l.length 0 (List.replicate l.length z30) (by omega) (by simp)
  rw [map_range] at h
  refine Ev.congr (fun k => ?_) (by simpa using h)
  simp only [laws_toFactS.f]
  rw [if_pos (by omega), if_pos (by omega)]
  simp

theorem eqFact_eq (a b c a' b' c' : Int) : laws_eqFact.f a b c a' b' c' = some (decide (a = a') && (decide (b = b') && decide (c = c'))) := by
  unfold laws_eqFact.f
  repeat' split
  all_goals simp [*]
theorem fact_ext (x y : S30) : (decide (x.f0 = y.f0) && (decide (x.f1 = y.f1) && decide (x.f2 = y.f2))) = true ↔ x = y := by
  cases x; cases y; simp
theorem eqFactS_ev (l m : List S30) (hl : l.length ≤ 140737488355328) : ∃ b : Bool, (b = true ↔ l = m) ∧ Ev (fun k => laws_eqFactS.f k l m) b := by
  by_cases h : m.length = l.length
  · have hh := allLoop l.length (fun i => (decide ((l.getD i z30).f0 = (m.getD i z30).f0) && (decide ((l.getD i z30).f1 = (m.getD i z30).f1) && decide ((l.getD i z30).f2 = (m.getD i z30).f2)))) true (fun k i => laws_eqFactS.l0 k l m i) (fun k i hi => by
        simp only [laws_eqFactS.l0, eqFact_eq, Option.bind_some, rd_T30]
        rw [if_pos (by omega), if_pos (by omega), if_pos (by omega), wrap_succ hi hl]
        simp only [Int.toNat_natCast]) (fun k => by
        simp only [laws_eqFactS.l0]
        rw [if_neg (by omega)]) l.length 0 (by omega)
    refine ⟨_, ?_, Ev.congr (fun k => ?_) hh⟩
    · rw [Bool.and_true, allB_iff]
      constructor
      · intro hj
        apply List.ext_getElem h.symm
        intro i h1 h2
        have := (fact_ext _ _).1 (hj i (by omega) (by omega))
        simpa [List.getD, h1, h2] using this
      · rintro rfl j _ _
        simp
    · simp only [laws_eqFactS.f]; rw [if_pos (by omega)]; rfl
  · refine ⟨false, ⟨fun h => by simp at h, fun e => by rw [e] at h; exact absurd rfl h⟩, Ev.congr (f := fun k => some false) (fun k => ?_) (Ev.now _)⟩
    simp only [laws_eqFactS.f]; rw [if_neg (by omega)]

theorem spec_l02Is_eq (a b c : Int) : spec_l02Is.f a b c = some (inR a b c) := by
  by_cases h : b ≤ a <;> simp [spec_l02Is.f, inR, h]

theorem spec_l04Node_eq (a : Int) : spec_l04Node.f a = some (inR a 1 6) := by simp [spec_l04Node.f, spec_l02Is_eq]
theorem spec_l03Time_eq (a : Int) : spec_l03Time.f a = some (inR a 0 1000000) := by simp [spec_l03Time.f, spec_l02Is_eq]
theorem spec_FactRight_eq (a b c : Int) : spec_FactRight.f a b c = some (factR a b c) := by
  simp only [spec_FactRight.f, spec_l04Node_eq, spec_l03Time_eq, spec_l02Is_eq, Option.bind_some, factR]
  cases inR a 1 6 <;> cases inR b 0 1000000 <;> simp

/-- Is the fact at place i one that may stand there? -/
def viewT (l : List S30) (i : Nat) : Bool := factR (l.getD i z30).f0 (l.getD i z30).f1 (l.getD i z30).f2 && (decide (i = 0) || decide ((l.getD (i - 1) z30).f0 < (l.getD i z30).f0))
/-- Is a view right? -/
def viewR (l : List S30) : Bool := allB (viewT l) 0 l.length
theorem factR_iff {a b c : Int} : factR a b c = true ↔ (1 ≤ a ∧ a ≤ 6) ∧ (0 ≤ b ∧ b ≤ 1000000) ∧ (1 ≤ c ∧ c ≤ 3) := by
  simp only [factR, Bool.and_eq_true, inR_iff]
theorem rdF_nat (l : List S30) (i : Nat) : rd_T30 l (i : Int) = l.getD i z30 := by simp [rd_T30]
theorem viewT_iff {l : List S30} {i : Nat} : viewT l i = true ↔ factR (l.getD i z30).f0 (l.getD i z30).f1 (l.getD i z30).f2 = true ∧ (i = 0 ∨ (l.getD (i - 1) z30).f0 < (l.getD i z30).f0) := by
  simp only [viewT, Bool.and_eq_true, Bool.or_eq_true, decide_eq_true_eq]
theorem viewR_six {l : List S30} (h : viewR l = true) : l.length ≤ 6 := by
  refine rising_six (fun j => (l.getD j z30).f0) l.length (fun j hj => ?_)
  have := (allB_iff _ _ _).1 h j (by omega) (by omega)
  simp only [viewT, Bool.and_eq_true, Bool.or_eq_true, decide_eq_true_eq, factR_iff] at this
  obtain ⟨⟨⟨h1, h2⟩, _⟩, h3⟩ := this
  exact ⟨h1, h2, fun h0 => by rcases h3 with h3 | h3; omega; exact h3⟩

theorem specView_ev (l : List S30) : Ev (fun k => spec_ViewRight.f k l) (viewR l) := by
  by_cases h6 : l.length ≤ 6
  · have hh := allLoop l.length (viewT l) true (fun k i => spec_ViewRight.l0 k l i) (fun k i hi => by
        simp only [spec_ViewRight.l0, spec_FactRight_eq, Option.bind_some]
        rw [if_pos (by omega), if_pos (by omega), wrap_succ hi (by omega), rdF_nat]
        by_cases hf : factR (l.getD i z30).f0 (l.getD i z30).f1 (l.getD i z30).f2 = true
        · rw [if_pos hf]
          by_cases h0 : i = 0
          · rw [if_neg (by omega), if_pos (viewT_iff.2 ⟨hf, .inl h0⟩)]
          · rw [if_pos (by omega), wrap_pred (by omega) hi (by omega), if_pos (by omega), if_pos (by omega), rdF_nat]
            by_cases hlt : (l.getD (i - 1) z30).f0 < (l.getD i z30).f0
            · rw [if_neg (by omega), if_pos (viewT_iff.2 ⟨hf, .inr hlt⟩)]
            · rw [if_pos (by omega), if_neg (fun h => by have := (viewT_iff.1 h).2; omega)]
        · rw [if_neg hf, if_neg (fun h => hf (viewT_iff.1 h).1)]) (fun k => by
        simp only [spec_ViewRight.l0]
        rw [if_neg (by omega)]) l.length 0 (by omega)
    rw [Bool.and_true] at hh
    refine Ev.congr (fun k => ?_) hh
    simp only [spec_ViewRight.f]; rw [if_neg (by omega)]; rfl
  · have : viewR l = false := by
      cases h : viewR l with
      | false => rfl
      | true => exact absurd (viewR_six h) h6
    rw [this]
    refine Ev.congr (f := fun _ => some false) (fun k => ?_) (Ev.now _)
    simp only [spec_ViewRight.f]; rw [if_pos (by omega)]

theorem impl_within_eq (a b c : Int) : impl_within.f a b c = some (inR a b c) := by
  by_cases h : b ≤ a <;> simp [impl_within.f, inR, h]

theorem impl_isNode_eq (a : Int) : impl_isNode.f a = some (inR a 1 6) := by simp [impl_isNode.f, impl_within_eq]
theorem impl_isTime_eq (a : Int) : impl_isTime.f a = some (inR a 0 1000000) := by simp [impl_isTime.f, impl_within_eq]
theorem impl_FactRight_eq (a b c : Int) : impl_FactRight.f a b c = some (factR a b c) := by
  simp only [impl_FactRight.f, impl_isNode_eq, impl_isTime_eq, impl_within_eq, Option.bind_some, factR]
  cases inR a 1 6 <;> cases inR b 0 1000000 <;> simp

theorem implView_ev (l : List S30) (hl : l.length ≤ 140737488355328) : Ev (fun k => impl_ViewRight.f k l) (viewR l) := by
  have hh := allLoop l.length (viewT l) true (fun k i => impl_ViewRight.l0 k l l (l.length : Int) i) (fun k i hi => by
        simp only [impl_ViewRight.l0, impl_FactRight_eq, Option.bind_some]
        rw [if_pos (by omega), if_pos (by omega), if_pos (by omega), wrap_succ hi hl, rdF_nat]
        by_cases hf : factR (l.getD i z30).f0 (l.getD i z30).f1 (l.getD i z30).f2 = true
        · rw [if_pos hf]
          by_cases h0 : i = 0
          · rw [if_neg (by omega), if_pos (viewT_iff.2 ⟨hf, .inl h0⟩)]
          · rw [if_pos (by omega), wrap_pred (by omega) hi hl, if_pos (by omega), if_pos (by omega), rdF_nat]
            by_cases hlt : (l.getD (i - 1) z30).f0 < (l.getD i z30).f0
            · rw [if_neg (by omega), if_pos (viewT_iff.2 ⟨hf, .inr hlt⟩)]
            · rw [if_pos (by omega), if_neg (fun h => by have := (viewT_iff.1 h).2; omega)]
        · rw [if_neg hf, if_neg (fun h => hf (viewT_iff.1 h).1)]) (fun k => by
        simp only [impl_ViewRight.l0]
        rw [if_neg (by omega)]) l.length 0 (by omega)
  rw [Bool.and_true] at hh
  exact hh

/-- The nodes that are not gone. -/
def leftS : List S30 → List Int
  | [] => []
  | x :: l => if x.f2 = 3 then leftS l else x.f0 :: leftS l
theorem leftS_length : ∀ l : List S30, (leftS l).length ≤ l.length
  | [] => Nat.le_refl _
  | x :: l => by
    have := leftS_length l
    rw [leftS]
    split <;> simp <;> omega
def notGoneS (l : List S30) : List Int := if viewR l = true then leftS l else []
theorem specLeft_l0 (l : List S30) (hl : l.length ≤ 1048576) : ∀ (d i : Nat) (acc : List Int), i + d = l.length → acc.length ≤ i → Ev (fun k => spec_l04Left.l0 k l acc (i : Int)) (acc ++ leftS (l.drop i))
  | 0, i, acc, h, ha => Ev.step (f := fun _ => some acc) (fun k => by simp only [spec_l04Left.l0]; rw [if_neg (by omega)]) (by rw [List.drop_of_length_le (by omega)]; simpa [leftS] using Ev.now _)
  | d + 1, i, acc, h, ha => by
    rw [drop_at l z30 (show i < l.length by omega), leftS]
    by_cases ho : (l.getD i z30).f2 = 3
    · rw [if_pos ho]
      refine Ev.step (fun k => ?_) (specLeft_l0 l hl d (i + 1) acc (by omega) (by omega))
      simp only [spec_l04Left.l0]
      rw [wrap_succ (n := l.length) (by omega) (by omega), rdF_nat, if_pos (by omega), if_pos (by omega), if_pos ho]
    · rw [if_neg ho]
      refine Ev.step (fun k => ?_) (by have := specLeft_l0 l hl d (i + 1) (acc ++ [(l.getD i z30).f0]) (by omega) (by simp; omega); rw [List.append_assoc] at this; exact this)
      simp only [spec_l04Left.l0]
      rw [wrap_succ (n := l.length) (by omega) (by omega), rdF_nat, if_pos (by omega), if_pos (by omega), if_neg ho, if_pos (by omega)]
theorem specNotGone_ev (l : List S30) (hl : l.length ≤ 1048576) : Ev (fun k => spec_NotGone.f k l) (notGoneS l) := by
  refine Ev.congr (fun k => rfl) (Ev.bind (specView_ev l) ?_)
  unfold notGoneS
  by_cases h : viewR l = true
  · simp only [if_pos h]
    exact Ev.bind (by have := specLeft_l0 l hl l.length 0 [] (by omega) (by simp); exact this) (Ev.now _)
  · simp only [if_neg h]
    exact Ev.now _
theorem implLeft_l0 (l : List S30) (hl : l.length ≤ 1048576) : ∀ (d i : Nat) (acc : List Int), i + d = l.length → acc.length ≤ i → Ev (fun k => impl_NotGone.l0 k l acc l (l.length : Int) (i : Int)) (if viewR l = true then acc ++ leftS (l.drop i) else acc)
  | 0, i, acc, h, ha => Ev.step (f := fun _ => some acc) (fun k => by simp only [impl_NotGone.l0]; rw [if_neg (by omega)]) (by rw [List.drop_of_length_le (by omega)]; split <;> simpa [leftS] using Ev.now _)
  | d + 1, i, acc, h, ha => by
    rw [drop_at l z30 (show i < l.length by omega), leftS]
    have hV := implView_ev l (by omega)
    by_cases hv : viewR l = true
    · rw [if_pos hv]
      have ih := fun acc' h1 => implLeft_l0 l hl d (i + 1) acc' (by omega) h1
      simp only [if_pos hv] at ih
      by_cases ho : (l.getD i z30).f2 = 3
      · rw [if_pos ho]
        refine Ev.step (fun k => ?_) (Ev.bind hV (f := fun k t => if t = true then impl_NotGone.l0 k l acc l (l.length : Int) ((i + 1 : Nat) : Int) else impl_NotGone.l0 k l acc l (l.length : Int) ((i + 1 : Nat) : Int)) ?_)
        · simp only [impl_NotGone.l0]
          rw [wrap_succ (n := l.length) (by omega) (by omega), rdF_nat, if_pos (by omega), if_pos (by omega), if_pos (by omega), if_pos ho]
        · simp only [if_pos hv]
          exact ih acc (by omega)
      · rw [if_neg ho]
        refine Ev.step (fun k => ?_) (Ev.bind hV (f := fun k t => if t = true then impl_NotGone.l0 k l (acc ++ [(l.getD i z30).f0]) l (l.length : Int) ((i + 1 : Nat) : Int) else impl_NotGone.l0 k l acc l (l.length : Int) ((i + 1 : Nat) : Int)) ?_)
        · simp only [impl_NotGone.l0]
          rw [wrap_succ (n := l.length) (by omega) (by omega), rdF_nat, if_pos (by omega), if_pos (by omega), if_pos (by omega), if_neg ho, if_pos (by omega)]
        · simp only [if_pos hv]
          have := ih (acc ++ [(l.getD i z30).f0]) (by simp; omega)
          rw [List.append_assoc] at this
          exact this
    · rw [if_neg hv]
      have ih := implLeft_l0 l hl d (i + 1) acc (by omega) (by omega)
      rw [if_neg hv] at ih
      refine Ev.step (fun k => ?_) (Ev.bind hV (f := fun k t => if t = true then (if (l.getD i z30).f2 = 3 then impl_NotGone.l0 k l acc l (l.length : Int) ((i + 1 : Nat) : Int) else if acc.length < 17592186044416 then impl_NotGone.l0 k l (acc ++ [(l.getD i z30).f0]) l (l.length : Int) ((i + 1 : Nat) : Int) else none) else impl_NotGone.l0 k l acc l (l.length : Int) ((i + 1 : Nat) : Int)) ?_)
      · simp only [impl_NotGone.l0]
        rw [wrap_succ (n := l.length) (by omega) (by omega), rdF_nat, if_pos (by omega), if_pos (by omega), if_pos (by omega)]
      · simp only [if_neg hv]
        exact ih
theorem implNotGone_ev (l : List S30) (hl : l.length ≤ 1048576) : Ev (fun k => impl_NotGone.f k l) (notGoneS l) := by
  have := implLeft_l0 l hl l.length 0 [] (by omega) (by simp)
  exact this
theorem notGone_six (l : List S30) : (notGoneS l).length ≤ 6 := by
  unfold notGoneS
  split
  · rename_i h
    have := viewR_six h
    have := leftS_length l
    omega
  · simp

theorem eqInts_l0 (l m : List Int) (hl : l.length ≤ 140737488355328) (hm : m.length = l.length) : ∀ d i : Nat, i + d = l.length → Ev (fun k => laws_eqInt64S.l0 k l m (i : Int)) (decide (l.drop i = m.drop i))
  | 0, i, h => Ev.step (f := fun _ => some true) (fun k => by simp only [laws_eqInt64S.l0]; rw [if_neg (by omega)]) (by
      rw [List.drop_of_length_le (show l.length ≤ i by omega), List.drop_of_length_le (show m.length ≤ i by omega)]; exact Ev.now _)
  | d + 1, i, h => by
    have hw := wrap_succ (i := i) (n := l.length) (by omega) hl
    have e1 : l.drop i = l.getD i 0 :: l.drop (i + 1) := by
      rw [List.drop_eq_getElem_cons (show i < l.length by omega)]; simp [List.getD, show i < l.length by omega]
    have e2 : m.drop i = m.getD i 0 :: m.drop (i + 1) := by
      rw [List.drop_eq_getElem_cons (show i < m.length by omega)]; simp [List.getD, show i < m.length by omega]
    by_cases ho : l.getD i 0 = m.getD i 0
    · refine Ev.step (f := fun k => laws_eqInt64S.l0 k l m ((i + 1 : Nat) : Int)) (fun k => ?_) (by have := eqInts_l0 l m hl hm d (i + 1) (by omega); rw [e1, e2, ho, decide_eq_decide.2 (show (m.getD i 0 :: l.drop (i + 1) = m.getD i 0 :: m.drop (i + 1)) ↔ (l.drop (i + 1) = m.drop (i + 1)) by simp)]; exact this)
      simp only [laws_eqInt64S.l0]
      rw [hw, rd_nat, rd_nat, if_pos (by omega), if_pos (by omega), if_pos (by omega), if_pos ho]
    · refine Ev.step (f := fun k => some false) (fun k => ?_) (by rw [e1, e2, decide_eq_false (fun h => ho (List.cons.inj h).1)]; exact Ev.now _)
      simp only [laws_eqInt64S.l0]
      rw [rd_nat, rd_nat, if_pos (by omega), if_pos (by omega), if_pos (by omega), if_neg ho]

theorem eqInts_ev (l m : List Int) (hl : l.length ≤ 140737488355328) : Ev (fun k => laws_eqInt64S.f k l m) (decide (l = m)) := by
  by_cases h : m.length = l.length
  · refine Ev.congr (f := fun k => laws_eqInt64S.l0 k l m ((0 : Nat) : Int)) (fun k => ?_) (by simpa using eqInts_l0 l m hl h l.length 0 (by omega))
    simp only [laws_eqInt64S.f]; rw [if_pos (by omega)]; rfl
  · refine Ev.congr (f := fun k => some false) (fun k => ?_) (by
      have : l ≠ m := by rintro rfl; exact h rfl
      simpa [this] using Ev.now _)
    simp only [laws_eqInt64S.f]; rw [if_neg (by omega)]

/-- A fact's marks. -/
def markF (a : Int) : S30 := ⟨a, a + 1, a + 2⟩
theorem getD_set_self {β : Type} (ys : List β) (z x : β) (i : Nat) (h : i < ys.length) : (ys.set i x).getD i z = x := by simp [List.getD, h]
theorem markFacts_ev (l : List S30) (a : Int) (ha : 0 ≤ a) (hb : a + 3 * l.length ≤ 4611686018427387904) : Ev (fun k => laws_markFactS.f k l a) (a + 3 * l.length, marks markF 3 a l.length) := by
  have h := markLoop l.length markF 3 (by omega) (fun k ys a i => laws_markFactS.l0 k ys a i) (fun k i a ys hi hy h0 h1 => by
      simp only [laws_markFactS.l0, Option.bind_some]
      rw [if_pos (by omega), if_pos (by omega), wrap_id (x := a + 1) (by omega) (by omega), wrap_id (x := a + 1 + 1) (by omega) (by omega), wrap_id (x := a + 1 + 1 + 1) (by omega) (by omega), wrap_id (x := (i : Int) + 1) (by omega) (by omega)]
      simp only [rdF_nat, Int.toNat_natCast, List.set_set, getD_set_self _ _ _ i (show i < ys.length by omega)]
      rw [show a + 1 + 1 = a + 2 by omega, show a + 2 + 1 = a + 3 by omega]
      rfl) (fun k a ys hy => by
      simp only [laws_markFactS.l0]
      rw [if_neg (by omega)]) l.length 0 a l (by omega) rfl ha (by omega)
  simpa [laws_markFactS.f] using h

theorem markInts_ev (l : List Int) (a : Int) (ha : 0 ≤ a) (hb : a + l.length ≤ 4611686018427387904) : Ev (fun k => laws_markInt64S.f k l a) (a + l.length, marks (fun x => x) 1 a l.length) := by
  have h := markLoop l.length (fun x : Int => x) 1 (by omega) (fun k ys a i => laws_markInt64S.l0 k ys a i) (fun k i a ys hi hy h0 h1 => by
      simp only [laws_markInt64S.l0]
      rw [if_pos (by omega), if_pos (by omega), wrap_id (x := a + 1) (by omega) (by omega), wrap_id (x := (i : Int) + 1) (by omega) (by omega)]
      simp) (fun k a ys hy => by
      simp only [laws_markInt64S.l0]
      rw [if_neg (by omega)]) l.length 0 a l (by omega) rfl ha (by omega)
  simpa [Int.one_mul, laws_markInt64S.f] using h

theorem heldInts_ev (n : Nat) (a : Int) (ha : 0 ≤ a) (hb : a + n ≤ 4611686018427387904) : Ev (fun k => laws_heldInt64S.f k (marks (fun x => x) 1 a n) a) (a + n) := by
  have hl := marks_length (fun x : Int => x) 1 n a
  have h := heldLoop n 1 (by omega) a ha (by omega) (fun k x i => laws_heldInt64S.l0 k (marks (fun x => x) 1 a n) x i) (fun k i hi h1 h2 => by
      simp only [laws_heldInt64S.l0]
      rw [if_pos (by omega), if_pos (by omega), rd_nat, marks_at _ _ 0 n i a hi, if_pos rfl, wrap_id (x := a + 1 * (i : Int) + 1) (by omega) (by omega), wrap_id (x := (i : Int) + 1) (by omega) (by omega)]
      rfl) (fun k x => by
      simp only [laws_heldInt64S.l0]
      rw [if_neg (by omega)]) n 0 (by omega)
  simpa [Int.one_mul, laws_heldInt64S.f] using h

theorem FnExactNotGone : laws_FnExactNotGone.Goal := by
  intro l hm _
  by_cases hb : 1048576 < l.length
  · refine Ev.rounds (Ev.congr (f := fun _ => some true) (fun k => ?_) (Ev.now _))
    simp only [laws_FnExactNotGone.f, szFactS_eq l (by omega), Option.bind_some]
    rw [if_pos hb, if_pos (by omega)]
  · have hl : l.length ≤ 1048576 := by omega
    have hlm : (l.map toF).length = l.length := by simp
    obtain ⟨m, hmm⟩ : ∃ m, m = l.map toF := ⟨_, rfl⟩
    have hto : Ev (fun k => laws_toFactS.f k l) m := by rw [hmm]; exact toFactS_ev l hl
    have hml : m.length ≤ 1048576 := by rw [hmm]; omega
    have h6 := notGone_six m
    have eqI := fun a b : List Int => eqInts_ev a b
    refine Ev.rounds (Ev.congr (fun k => by simp only [laws_FnExactNotGone.f, szFactS_eq l (by omega), Option.bind_some]; rw [if_neg hb, if_neg (by omega)]) ?_)
    refine Ev.bind hto (Ev.bind (specNotGone_ev m hml) (Ev.bind hto (Ev.bind (implNotGone_ev m hml) (Ev.bind (eqInts_ev _ _ (by omega)) ?_))))
    simp only [decide_true, if_true]
    obtain ⟨b, hb1, hb2⟩ := eqFactS_ev m m (by omega)
    refine Ev.bind hto (Ev.bind hb2 ?_)
    rw [hb1.2 rfl]
    simp only [if_true]
    refine Ev.bind (markFacts_ev m 1 (by omega) (by omega)) ?_
    simp only [if_neg (show ¬ (1 + 3 * (m.length : Int)) < 0 by omega)]
    refine Ev.bind (eqInts_ev _ _ (by omega)) ?_
    simp only [decide_true, Bool.not_true]
    refine Ev.step (fun k => by simp only [laws_FnExactNotGone.j0]; rw [if_neg (by simp)]) ?_
    refine Ev.bind (markInts_ev _ 1 (by omega) (by omega)) (Ev.bind (heldInts_ev _ 1 (by omega) (by omega)) ?_)
    simp only [if_neg (show ¬ (1 + ((notGoneS m).length : Int)) < 0 by omega), if_true]
    refine Ev.bind hto (Ev.bind (implNotGone_ev m hml) (Ev.bind (eqInts_ev _ _ (by omega)) ?_))
    simp only [decide_true, if_true]
    refine Ev.bind (heldInts_ev _ 1 (by omega) (by omega)) ?_
    simp only [if_neg (show ¬ (1 + ((notGoneS m).length : Int)) < 0 by omega), if_true]
    exact Ev.now _

end Go.Proofs.Ytffjlefjegcgaaa.Pure
