/- The plain law of FnExactViewRight: what the Lean functions of the printed texts answer. -/
import Derived.Test.YtffjlefjegcgaaaGFnExactViewRight
import Derived.Test.YtffjlefjegcgaaaHSem
namespace Go.Proofs.Ytffjlefjegcgaaa.Pure
open Go.RowKit Go.Proofs.Ytffjlefjegcgaaa.PFnExactViewRight Go.Proofs.YtffjlefjegcgaaaW.PrintWords Go.Proofs.YtffjlefjegcgaaaW.PrintLast Go.Proofs.YtffjlefjegcgaaaW.PrintMore Go.Proofs.YtffjlefjegcgaaaH
set_option linter.unusedVariables false
set_option linter.unusedSimpArgs false

/-- A fact, as the program has it. -/
def toF (x : S39) : S30 := ⟨x.f0, x.f1, x.f2⟩
theorem szFactS_eq (l : List S39) (hl : (l.length : Int) ≤ 9223372036854775807) : laws_szFactS.f l 1048576 = some (if 1048576 < l.length then -1 else 1048576 - (l.length : Int)) := by
  unfold laws_szFactS.f
  rw [wrap_id (by omega) (by omega)]
  split <;> split <;> first | rfl | omega
theorem toFactS_ev (l : List S39) (hl : l.length ≤ 1048576) : Ev (fun k => laws_toFactS.f k l) (l.map toF) := by
  have h := fillLoop l.length (fun i => toF (l.getD i z39)) (fun k ys i => laws_toFactS.l0 k l ys i) (fun k i ys hi hy => by
      simp only [laws_toFactS.l0, laws_toFact.f, Option.bind_some]
      rw [if_pos (by omega), if_pos (by omega), if_pos (by omega), wrap_succ hi (by omega)]
      simp [rd_T39, toF]) (fun k ys hy => by
      simp only [laws_toFactS.l0]
      rw [if_neg (by omega)]) l.length 0 (List.replicate l.length z30) (by omega) (by simp)
  rw [map_range] at h
  refine Ev.congr (fun k => ?_) (by simpa using h)
  simp only [laws_toFactS.f]
  rw [if_pos (by omega), if_pos (by omega)]
  simp

theorem eqFact_eq (a b c a' b' c' : Int) : laws_eqFact.f a b c a' b' c' = some (decide (a = a') && (decide (b = b') && decide (c = c'))) := by
  unfold laws_eqFact.f
  repeat' split
  all_goals simp [*]
theorem fact_ext (x y : S30) : (decide (x.f0 = y.f0) && (decide (x.f1 = y.f1) && decide (x.f2 = y.f2))) = true ↔ x = y := by
  cases x; cases y; simp
theorem eqFactS_ev (l m : List S30) (hl : l.length ≤ 140737488355328) : ∃ b : Bool, (b = true ↔ l = m) ∧ Ev (fun k => laws_eqFactS.f k l m) b := by
  by_cases h : m.length = l.length
  · have hh := allLoop l.length (fun i => (decide ((l.getD i z30).f0 = (m.getD i z30).f0) && (decide ((l.getD i z30).f1 = (m.getD i z30).f1) && decide ((l.getD i z30).f2 = (m.getD i z30).f2)))) true (fun k i => laws_eqFactS.l0 k l m i) (fun k i hi => by
        simp only [laws_eqFactS.l0, eqFact_eq, Option.bind_some, rd_T30]
        rw [if_pos (by omega), if_pos (by omega), if_pos (by omega), wrap_succ hi hl]
        simp only [Int.toNat_natCast]) (fun k => by
        simp only [laws_eqFactS.l0]
        rw [if_neg (by omega)]) l.length 0 (by omega)
    refine ⟨_, ?_, Ev.congr (fun k => ?_) hh⟩
    · rw [Bool.and_true, allB_iff]
      constructor
      · intro hj
        apply List.ext_getElem h.symm
        intro i h1 h2
        have := (fact_ext _ _).1 (hj i (by omega) (by omega))
        simpa [List.getD, h1, h2] using this
      · rintro rfl j _ _
        simp
    · simp only [laws_eqFactS.f]; rw [if_pos (by omega)]; rfl
  · refine ⟨false, ⟨fun h => by simp at h, fun e => by rw [e] at h; exact absurd rfl h⟩, Ev.congr (f := fun k => some false) (fun k => ?_) (Ev.now _)⟩
    simp only [laws_eqFactS.f]; rw [if_neg (by omega)]

theorem spec_l02Is_eq (a b c : Int) : spec_l02Is.f a b c = some (inR a b c) := by
  by_cases h : b ≤ a <;> simp [spec_l02Is.f, inR, h]

theorem spec_l04Node_eq (a : Int) : spec_l04Node.f a = some (inR a 1 6) := by simp [spec_l04Node.f, spec_l02Is_eq]
theorem spec_l03Time_eq (a : Int) : spec_l03Time.f a = some (inR a 0 1000000) := by simp [spec_l03Time.f, spec_l02Is_eq]
theorem spec_FactRight_eq (a b c : Int) : spec_FactRight.f a b c = some (factR a b c) := by
  simp only [spec_FactRight.f, spec_l04Node_eq, spec_l03Time_eq, spec_l02Is_eq, Option.bind_some, factR]
  cases inR a 1 6 <;> cases inR b 0 1000000 <;> simp

/-- Is the fact at place i one that may stand there? -/
def viewT (l : List S30) (i : Nat) : Bool := factR (l.getD i z30).f0 (l.getD i z30).f1 (l.getD i z30).f2 && (decide (i = 0) || decide ((l.getD (i - 1) z30).f0 < (l.getD i z30).f0))
/-- Is a view right? -/
def viewR (l : List S30) : Bool := allB (viewT l) 0 l.length
theorem factR_iff {a b c : Int} : factR a b c = true ↔ (1 ≤ a ∧ a ≤ 6) ∧ (0 ≤ b ∧ b ≤ 1000000) ∧ (1 ≤ c ∧ c ≤ 3) := by
  simp only [factR, Bool.and_eq_true, inR_iff]
theorem rdF_nat (l : List S30) (i : Nat) : rd_T30 l (i : Int) = l.getD i z30 := by simp [rd_T30]
theorem viewT_iff {l : List S30} {i : Nat} : viewT l i = true ↔ factR (l.getD i z30).f0 (l.getD i z30).f1 (l.getD i z30).f2 = true ∧ (i = 0 ∨ (l.getD (i - 1) z30).f0 < (l.getD i z30).f0) := by
  simp only [viewT, Bool.and_eq_true, Bool.or_eq_true, decide_eq_true_eq]
theorem viewR_six {l : List S30} (h : viewR l = true) : l.length ≤ 6 := by
  refine rising_six (fun j => (l.getD j z30).f0) l.length (fun j hj => ?_)
  have := (allB_iff _ _ _).1 h j (by omega) (by omega)
  simp only [viewT, Bool.and_eq_true, Bool.or_eq_true, decide_eq_true_eq, factR_iff] at this
  obtain ⟨⟨⟨h1, h2⟩, _⟩, h3⟩ := this
  exact ⟨h1, h2, fun h0 => by rcases h3 with h3 | h3; omega; exact h3⟩

theorem specView_ev (l : List S30) : Ev (fun k => spec_ViewRight.f k l) (viewR l) := by
  by_cases h6 : l.length ≤ 6
  · have hh := allLoop l.length (viewT l) true (fun k i => spec_ViewRight.l0 k l i) (fun k i hi => by
        simp only [spec_ViewRight.l0, spec_FactRight_eq, Option.bind_some]
        rw [if_pos (by omega), if_pos (by omega), wrap_succ hi (by omega), rdF_nat]
        by_cases hf : factR (l.getD i z30).f0 (l.getD i z30).f1 (l.getD i z30).f2 = true
        · rw [if_pos hf]
          by_cases h0 : i = 0
          · rw [if_neg (by omega), if_pos (viewT_iff.2 ⟨hf, .inl h0⟩)]
          · rw [if_pos (by omega), wrap_pred (by omega) hi (by omega), if_pos (by omega), if_pos (by omega), rdF_nat]
            by_cases hlt : (l.getD (i - 1) z30).f0 < (l.getD i z30).f0
            · rw [if_neg (by omega), if_pos (viewT_iff.2 ⟨hf, .inr hlt⟩)]
            · rw [if_pos (by omega), if_neg (fun h => by have := (viewT_iff.1 h).2; omega)]
        · rw [if_neg hf, if_neg (fun h => hf (viewT_iff.1 h).1)]) (fun k => by
        simp only [spec_ViewRight.l0]
        rw [if_neg (by omega)]) l.length 0 (by omega)
    rw [Bool.and_true] at hh
    refine Ev.congr (fun k => ?_) hh
    simp only [spec_ViewRight.f]; rw [if_neg (by omega)]; rfl
  · have : viewR l = false := by
      cases h : viewR l with
      | false => rfl
      | true => exact absurd (viewR_six h) h6
    rw [this]
    refine Ev.congr (f := fun _ => some false) (fun k => ?_) (Ev.now _)
    simp only [spec_ViewRight.f]; rw [if_pos (by omega)]

theorem impl_within_eq (a b c : Int) : impl_within.f a b c = some (inR a b c) := by
  by_cases h : b ≤ a <;> simp [impl_within.f, inR, h]

theorem impl_isNode_eq (a : Int) : impl_isNode.f a = some (inR a 1 6) := by simp [impl_isNode.f, impl_within_eq]
theorem impl_isTime_eq (a : Int) : impl_isTime.f a = some (inR a 0 1000000) := by simp [impl_isTime.f, impl_within_eq]
theorem impl_FactRight_eq (a b c : Int) : impl_FactRight.f a b c = some (factR a b c) := by
  simp only [impl_FactRight.f, impl_isNode_eq, impl_isTime_eq, impl_within_eq, Option.bind_some, factR]
  cases inR a 1 6 <;> cases inR b 0 1000000 <;> simp

theorem implView_ev (l : List S30) (hl : l.length ≤ 140737488355328) : Ev (fun k => impl_ViewRight.f k l) (viewR l) := by
  have hh := allLoop l.length (viewT l) true (fun k i => impl_ViewRight.l0 k l l (l.length : Int) i) (fun k i hi => by
        simp only [impl_ViewRight.l0, impl_FactRight_eq, Option.bind_some]
        rw [if_pos (by omega), if_pos (by omega), if_pos (by omega), wrap_succ hi hl, rdF_nat]
        by_cases hf : factR (l.getD i z30).f0 (l.getD i z30).f1 (l.getD i z30).f2 = true
        · rw [if_pos hf]
          by_cases h0 : i = 0
          · rw [if_neg (by omega), if_pos (viewT_iff.2 ⟨hf, .inl h0⟩)]
          · rw [if_pos (by omega), wrap_pred (by omega) hi hl, if_pos (by omega), if_pos (by omega), rdF_nat]
            by_cases hlt : (l.getD (i - 1) z30).f0 < (l.getD i z30).f0
            · rw [if_neg (by omega), if_pos (viewT_iff.2 ⟨hf, .inr hlt⟩)]
            · rw [if_pos (by omega), if_neg (fun h => by have := (viewT_iff.1 h).2; omega)]
        · rw [if_neg hf, if_neg (fun h => hf (viewT_iff.1 h).1)]) (fun k => by
        simp only [impl_ViewRight.l0]
        rw [if_neg (by omega)]) l.length 0 (by omega)
  rw [Bool.and_true] at hh
  exact hh

theorem FnExactViewRight : laws_FnExactViewRight.Goal := by
  intro l hm _
  · by_cases hb : 1048576 < l.length
    · refine Ev.rounds (Ev.congr (f := fun _ => some true) (fun k => ?_) (Ev.now _))
      simp only [laws_FnExactViewRight.f, szFactS_eq l (by omega), Option.bind_some]
      rw [if_pos hb, if_pos (by omega)]
    · have hl : l.length ≤ 1048576 := by omega
      refine Ev.rounds (Ev.congr (fun k => by simp only [laws_FnExactViewRight.f, szFactS_eq l (by omega), Option.bind_some]; rw [if_neg hb, if_neg (by omega)]) ?_)
      refine Ev.bind (toFactS_ev l hl) (Ev.bind (specView_ev _) (Ev.bind (toFactS_ev l hl) (Ev.bind (implView_ev _ (by simp; omega)) ?_)))
      simp only [bne_self_eq_false, Bool.false_eq_true, if_false]
      obtain ⟨b, hb1, hb2⟩ := eqFactS_ev (l.map toF) (l.map toF) (by simp; omega)
      refine Ev.bind (toFactS_ev l hl) (Ev.bind hb2 ?_)
      rw [hb1.2 rfl]
      simpa using Ev.now _

end Go.Proofs.Ytffjlefjegcgaaa.Pure
