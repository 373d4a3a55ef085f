/- The plain law of FnExactMailRight: what the Lean functions of the printed texts answer. -/
import Derived.Test.YtniihggolaohbaaGFnExactMailRight
import Derived.Test.YtniihggolaohbaaHSem
namespace Go.Proofs.Ytniihggolaohbaa.Pure
open Go.RowKit Go.Proofs.Ytniihggolaohbaa.PFnExactMailRight Go.Proofs.YtniihggolaohbaaW.PrintWords Go.Proofs.YtniihggolaohbaaW.PrintLast Go.Proofs.YtniihggolaohbaaW.PrintMore Go.Proofs.YtniihggolaohbaaH
set_option linter.unusedVariables false
set_option linter.unusedSimpArgs false

/-- A fact, as the program has it. -/
def toF (x : S97) : S69 := ⟨x.f0, x.f1, x.f2⟩
theorem szFactS_eq (l : List S97) (hl : (l.length : Int) ≤ 9223372036854775807) : laws_szFactS.f l 1048576 = some (if 1048576 < l.length then -1 else 1048576 - (l.length : Int)) := by
  unfold laws_szFactS.f
  rw [wrap_id (by omega) (by omega)]
  split <;> split <;> first | rfl | omega
theorem toFactS_ev (l : List S97) (hl : l.length ≤ 1048576) : Ev (fun k => laws_toFactS.f k l) (l.map toF) := by
  have h := fillLoop l.length (fun i => toF (l.getD i z97)) (fun k ys i => laws_toFactS.l0 k l ys i) (fun k i ys hi hy => by
      simp only [laws_toFactS.l0, laws_toFact.f, Option.bind_some]
      rw [if_pos (by omega), if_pos (by omega), if_pos (by omega), wrap_succ hi (by omega)]
      simp [rd_T97, toF]) (fun k ys hy => by
      simp only [laws_toFactS.l0]
      rw [if_neg (by omega)]) l.length 0 (List.replicate l.length z69) (by omega) (by simp)
  rw [map_range] at h
  refine Ev.congr (fun k => ?_) (by simpa using h)
  simp only [laws_toFactS.f]
  rw [if_pos (by omega), if_pos (by omega)]
  simp

theorem eqFact_eq (a b c a' b' c' : Int) : laws_eqFact.f a b c a' b' c' = some (decide (a = a') && (decide (b = b') && decide (c = c'))) := by
  unfold laws_eqFact.f
  repeat' split
  all_goals simp [*]
theorem fact_ext (x y : S69) : (decide (x.f0 = y.f0) && (decide (x.f1 = y.f1) && decide (x.f2 = y.f2))) = true ↔ x = y := by
  cases x; cases y; simp
theorem eqFactS_ev (l m : List S69) (hl : l.length ≤ 140737488355328) : ∃ b : Bool, (b = true ↔ l = m) ∧ Ev (fun k => laws_eqFactS.f k l m) b := by
  by_cases h : m.length = l.length
  · have hh := allLoop l.length (fun i => (decide ((l.getD i z69).f0 = (m.getD i z69).f0) && (decide ((l.getD i z69).f1 = (m.getD i z69).f1) && decide ((l.getD i z69).f2 = (m.getD i z69).f2)))) true (fun k i => laws_eqFactS.l0 k l m i) (fun k i hi => by
        simp only [laws_eqFactS.l0, eqFact_eq, Option.bind_some, rd_T69]
        rw [if_pos (by omega), if_pos (by omega), if_pos (by omega), wrap_succ hi hl]
        simp only [Int.toNat_natCast]) (fun k => by
        simp only [laws_eqFactS.l0]
        rw [if_neg (by omega)]) l.length 0 (by omega)
    refine ⟨_, ?_, Ev.congr (fun k => ?_) hh⟩
    · rw [Bool.and_true, allB_iff]
      constructor
      · intro hj
        apply List.ext_getElem h.symm
        intro i h1 h2
        have := (fact_ext _ _).1 (hj i (by omega) (by omega))
        simpa [List.getD, h1, h2] using this
      · rintro rfl j _ _
        simp
    · simp only [laws_eqFactS.f]; rw [if_pos (by omega)]; rfl
  · refine ⟨false, ⟨fun h => by simp at h, fun e => by rw [e] at h; exact absurd rfl h⟩, Ev.congr (f := fun k => some false) (fun k => ?_) (Ev.now _)⟩
    simp only [laws_eqFactS.f]; rw [if_neg (by omega)]

theorem szMail_eq (kd fr tt nu ab fo : Int) (l : List S97) (hl : (l.length : Int) ≤ 9223372036854775807) : laws_szMail.f kd fr tt nu ab fo l 1048576 = some (if 1048576 < l.length then -1 else 1048576 - (l.length : Int)) := by
  simp only [laws_szMail.f, szFactS_eq l hl, Option.bind_some]
  split <;> split <;> first | rfl | omega
theorem toMail_ev (kd fr tt nu ab fo : Int) (l : List S97) (hl : l.length ≤ 1048576) : Ev (fun k => laws_toMail.f k kd fr tt nu ab fo l) (kd, fr, tt, nu, ab, fo, l.map toF) := Ev.congr (fun k => rfl) (Ev.bind (toFactS_ev l hl) (Ev.now _))
theorem eqMail_refl (kd fr tt nu ab fo : Int) (l : List S69) (hl : l.length ≤ 140737488355328) : Ev (fun k => laws_eqMail.f k kd fr tt nu ab fo l kd fr tt nu ab fo l) true := by
  obtain ⟨b, hb1, hb2⟩ := eqFactS_ev l l hl
  simp only [laws_eqMail.f, if_true]
  refine Ev.bind hb2 ?_
  rw [hb1.2 rfl]
  simpa using Ev.now _

theorem spec_l02Is_eq (a b c : Int) : spec_l02Is.f a b c = some (inR a b c) := by
  by_cases h : b ≤ a <;> simp [spec_l02Is.f, inR, h]

theorem spec_l04Node_eq (a : Int) : spec_l04Node.f a = some (inR a 1 6) := by simp [spec_l04Node.f, spec_l02Is_eq]
theorem spec_l03Time_eq (a : Int) : spec_l03Time.f a = some (inR a 0 1000000) := by simp [spec_l03Time.f, spec_l02Is_eq]
theorem spec_FactRight_eq (a b c : Int) : spec_FactRight.f a b c = some (factR a b c) := by
  simp only [spec_FactRight.f, spec_l04Node_eq, spec_l03Time_eq, spec_l02Is_eq, Option.bind_some, factR]
  cases inR a 1 6 <;> cases inR b 0 1000000 <;> simp

/-- Is the fact at place i one that may stand there? -/
def viewT (l : List S69) (i : Nat) : Bool := factR (l.getD i z69).f0 (l.getD i z69).f1 (l.getD i z69).f2 && (decide (i = 0) || decide ((l.getD (i - 1) z69).f0 < (l.getD i z69).f0))
/-- Is a view right? -/
def viewR (l : List S69) : Bool := allB (viewT l) 0 l.length
theorem factR_iff {a b c : Int} : factR a b c = true ↔ (1 ≤ a ∧ a ≤ 6) ∧ (0 ≤ b ∧ b ≤ 1000000) ∧ (1 ≤ c ∧ c ≤ 3) := by
  simp only [factR, Bool.and_eq_true, inR_iff]
theorem rdF_nat (l : List S69) (i : Nat) : rd_T69 l (i : Int) = l.getD i z69 := by simp [rd_T69]
theorem viewT_iff {l : List S69} {i : Nat} : viewT l i = true ↔ factR (l.getD i z69).f0 (l.getD i z69).f1 (l.getD i z69).f2 = true ∧ (i = 0 ∨ (l.getD (i - 1) z69).f0 < (l.getD i z69).f0) := by
  simp only [viewT, Bool.and_eq_true, Bool.or_eq_true, decide_eq_true_eq]
theorem viewR_six {l : List S69} (h : viewR l = true) : l.length ≤ 6 := by
  refine rising_six (fun j => (l.getD j z69).f0) l.length (fun j hj => ?_)
  have := (allB_iff _ _ _).1 h j (by omega) (by omega)
  simp only [viewT, Bool.and_eq_true, Bool.or_eq_true, decide_eq_true_eq, factR_iff] at this
  obtain ⟨⟨⟨h1, h2⟩, _⟩, h3⟩ := this
  exact ⟨h1, h2, fun h0 => by rcases h3 with h3 | h3; omega; exact h3⟩

theorem specView_ev (l : List S69) : Ev (fun k => spec_ViewRight.f k l) (viewR l) := by
  by_cases h6 : l.length ≤ 6
  · have hh := allLoop l.length (viewT l) true (fun k i => spec_ViewRight.l0 k l i) (fun k i hi => by
        simp only [spec_ViewRight.l0, spec_FactRight_eq, Option.bind_some]
        rw [if_pos (by omega), if_pos (by omega), wrap_succ hi (by omega), rdF_nat]
        by_cases hf : factR (l.getD i z69).f0 (l.getD i z69).f1 (l.getD i z69).f2 = true
        · rw [if_pos hf]
          by_cases h0 : i = 0
          · rw [if_neg (by omega), if_pos (viewT_iff.2 ⟨hf, .inl h0⟩)]
          · rw [if_pos (by omega), wrap_pred (by omega) hi (by omega), if_pos (by omega), if_pos (by omega), rdF_nat]
            by_cases hlt : (l.getD (i - 1) z69).f0 < (l.getD i z69).f0
            · rw [if_neg (by omega), if_pos (viewT_iff.2 ⟨hf, .inr hlt⟩)]
            · rw [if_pos (by omega), if_neg (fun h => by have := (viewT_iff.1 h).2; omega)]
        · rw [if_neg hf, if_neg (fun h => hf (viewT_iff.1 h).1)]) (fun k => by
        simp only [spec_ViewRight.l0]
        rw [if_neg (by omega)]) l.length 0 (by omega)
    rw [Bool.and_true] at hh
    refine Ev.congr (fun k => ?_) hh
    simp only [spec_ViewRight.f]; rw [if_neg (by omega)]; rfl
  · have : viewR l = false := by
      cases h : viewR l with
      | false => rfl
      | true => exact absurd (viewR_six h) h6
    rw [this]
    refine Ev.congr (f := fun _ => some false) (fun k => ?_) (Ev.now _)
    simp only [spec_ViewRight.f]; rw [if_pos (by omega)]

/-- About, For and how many Facts a mail may have. -/
def aboutS (kd fr tt ab : Int) : Bool := if kd = 2 then inR ab 1 6 else if kd = 3 then inR ab 1 6 && (!decide (ab = fr) && !decide (ab = tt)) else decide (ab = 0)
def tailS (kd fo : Int) (n : Nat) : Bool := (decide (fo = 0) || (decide (kd ≤ 2) && inR fo 1 6)) && (decide (3 < kd) || decide (n ≤ 3))
/-- Is a mail right? -/
def mailR (kd fr tt nu ab fo : Int) (fs : List S69) : Bool := inR kd 1 5 && (inR fr 1 6 && (inR tt 1 6 && (!decide (fr = tt) && (inR nu 0 1000000 && (viewR fs && (aboutS kd fr tt ab && tailS kd fo fs.length))))))

theorem specMail_tail (kd fo : Int) (n : Nat) : (if fo = 0 then (if kd > 3 then (some true) else (some (decide ((n : Int) ≤ 3)))) else (if kd > 2 then (some false) else ((spec_l04Node.f fo).bind fun t => (if t = true then (if kd > 3 then (some true) else (some (decide ((n : Int) ≤ 3)))) else (some false))))) = some (tailS kd fo n) := by
  have e : decide ((n : Int) ≤ 3) = decide (n ≤ 3) := by rw [decide_eq_decide]; omega
  unfold tailS
  rw [e]
  by_cases h0 : fo = 0
  · rw [if_pos h0, decide_eq_true h0, Bool.true_or, Bool.true_and]
    by_cases h3 : kd > 3
    · rw [if_pos h3, decide_eq_true (show 3 < kd by omega), Bool.true_or]
    · rw [if_neg h3, decide_eq_false (show ¬ 3 < kd by omega), Bool.false_or]
  · rw [if_neg h0, decide_eq_false h0, Bool.false_or]
    by_cases h2 : kd > 2
    · rw [if_pos h2, decide_eq_false (show ¬ kd ≤ 2 by omega), Bool.false_and, Bool.false_and]
    · rw [if_neg h2, decide_eq_true (show kd ≤ 2 by omega), Bool.true_and, spec_l04Node_eq, Option.bind_some, if_neg (show ¬ kd > 3 by omega), decide_eq_false (show ¬ 3 < kd by omega), Bool.false_or]
      cases inR fo 1 6 <;> rfl
theorem specMail_j1 (k : Nat) (b : Bool) (kd fr tt nu ab fo : Int) (fs : List S69) : spec_MailRight.j1 (k + 1) b kd fr tt nu ab fo fs = some (!b && tailS kd fo fs.length) := by
  simp only [spec_MailRight.j1]
  rw [specMail_tail]
  cases b <;> rfl
theorem specMail_j0 (k : Nat) (b : Bool) (kd fr tt nu ab fo : Int) (fs : List S69) : spec_MailRight.j0 (k + 2) b kd fr tt nu ab fo fs = some (!b && (aboutS kd fr tt ab && tailS kd fo fs.length)) := by
  simp only [spec_MailRight.j0, specMail_j1]
  rw [specMail_tail, spec_l04Node_eq]
  simp only [Option.bind_some, ← ite_some]
  cases b with
  | true => rfl
  | false =>
    rw [if_neg (by simp)]
    unfold aboutS
    by_cases h2 : kd = 2
    · rw [if_pos h2, if_pos h2]
      cases inR ab 1 6 <;> rfl
    · rw [if_neg h2, if_neg h2]
      by_cases h3 : kd = 3
      · rw [if_pos h3, if_pos h3]
        cases inR ab 1 6 with
        | false => rfl
        | true =>
          by_cases ha : ab = fr
          · simp [ha]
          · by_cases hb : ab = tt <;> simp [ha, hb]
      · rw [if_neg h3, if_neg h3]
        by_cases ha : ab = 0 <;> simp [ha]
theorem specMail_j0_ev (b : Bool) (kd fr tt nu ab fo : Int) (fs : List S69) : Ev (fun k => spec_MailRight.j0 k b kd fr tt nu ab fo fs) (!b && (aboutS kd fr tt ab && tailS kd fo fs.length)) :=
  ⟨2, fun k hk => by
    obtain ⟨m, rfl⟩ : ∃ m, k = m + 2 := ⟨k - 2, by omega⟩
    exact specMail_j0 m b kd fr tt nu ab fo fs⟩
theorem specMail_ev (kd fr tt nu ab fo : Int) (fs : List S69) : Ev (fun k => spec_MailRight.f k kd fr tt nu ab fo fs) (mailR kd fr tt nu ab fo fs) := by
  have ht := specMail_j0_ev true kd fr tt nu ab fo fs
  rw [Bool.not_true, Bool.false_and] at ht
  have hs := fun b => specMail_j0_ev b kd fr tt nu ab fo fs
  simp only [spec_MailRight.f, spec_l02Is_eq, spec_l04Node_eq, spec_l03Time_eq, Option.bind_some, mailR]
  cases inR kd 1 5 with
  | false => simpa using ht
  | true =>
    cases inR fr 1 6 with
    | false => simpa using ht
    | true =>
      cases inR tt 1 6 with
      | false => simpa using ht
      | true =>
        by_cases hft : fr = tt
        · simp only [if_true, if_pos hft, decide_eq_true hft, Bool.true_and, Bool.not_true, Bool.false_and]
          exact ht
        · simp only [if_true, if_neg hft, decide_eq_false hft, Bool.true_and, Bool.not_false]
          cases inR nu 0 1000000 with
          | false => simpa using ht
          | true =>
            simp only [if_true, Bool.true_and]
            refine Ev.bind (specView_ev fs) ?_
            have := hs (!viewR fs)
            rw [Bool.not_not] at this
            exact this

theorem impl_within_eq (a b c : Int) : impl_within.f a b c = some (inR a b c) := by
  by_cases h : b ≤ a <;> simp [impl_within.f, inR, h]

theorem impl_isNode_eq (a : Int) : impl_isNode.f a = some (inR a 1 6) := by simp [impl_isNode.f, impl_within_eq]
theorem impl_isTime_eq (a : Int) : impl_isTime.f a = some (inR a 0 1000000) := by simp [impl_isTime.f, impl_within_eq]
theorem impl_FactRight_eq (a b c : Int) : impl_FactRight.f a b c = some (factR a b c) := by
  simp only [impl_FactRight.f, impl_isNode_eq, impl_isTime_eq, impl_within_eq, Option.bind_some, factR]
  cases inR a 1 6 <;> cases inR b 0 1000000 <;> simp

theorem implView_ev (l : List S69) (hl : l.length ≤ 140737488355328) : Ev (fun k => impl_ViewRight.f k l) (viewR l) := by
  have hh := allLoop l.length (viewT l) true (fun k i => impl_ViewRight.l0 k l l (l.length : Int) i) (fun k i hi => by
        simp only [impl_ViewRight.l0, impl_FactRight_eq, Option.bind_some]
        rw [if_pos (by omega), if_pos (by omega), if_pos (by omega), wrap_succ hi hl, rdF_nat]
        by_cases hf : factR (l.getD i z69).f0 (l.getD i z69).f1 (l.getD i z69).f2 = true
        · rw [if_pos hf]
          by_cases h0 : i = 0
          · rw [if_neg (by omega), if_pos (viewT_iff.2 ⟨hf, .inl h0⟩)]
          · rw [if_pos (by omega), wrap_pred (by omega) hi hl, if_pos (by omega), if_pos (by omega), rdF_nat]
            by_cases hlt : (l.getD (i - 1) z69).f0 < (l.getD i z69).f0
            · rw [if_neg (by omega), if_pos (viewT_iff.2 ⟨hf, .inr hlt⟩)]
            · rw [if_pos (by omega), if_neg (fun h => by have := (viewT_iff.1 h).2; omega)]
        · rw [if_neg hf, if_neg (fun h => hf (viewT_iff.1 h).1)]) (fun k => by
        simp only [impl_ViewRight.l0]
        rw [if_neg (by omega)]) l.length 0 (by omega)
  rw [Bool.and_true] at hh
  exact hh

theorem implMail_j1_ev (x3 x4 x5 : Bool) (kd fr tt nu ab fo : Int) (fs : List S69) (hl : fs.length ≤ 140737488355328) : Ev (fun k => impl_MailRight.j1 k x3 x4 x5 kd fr tt nu ab fo fs) (inR fr 1 6 && (inR tt 1 6 && (!decide (fr = tt) && (inR nu 0 1000000 && (x3 && (x4 && ((decide (fo = 0) || x5) && viewR fs))))))) := by
  have hv : Ev (fun k => (impl_ViewRight.f k fs).bind fun t => some t) (viewR fs) := Ev.bind (implView_ev fs hl) (Ev.now _)
  refine Ev.step (fun k => by simp only [impl_MailRight.j1, impl_isNode_eq, impl_isTime_eq, Option.bind_some]; rfl) ?_
  cases inR fr 1 6 with
  | false => simpa using Ev.now false
  | true =>
    cases inR tt 1 6 with
    | false => simpa using Ev.now false
    | true =>
      by_cases hft : fr = tt
      · simp only [if_true, if_pos hft, decide_eq_true hft, Bool.true_and, Bool.not_true, Bool.false_and]
        exact Ev.now _
      · simp only [if_true, if_neg hft, decide_eq_false hft, Bool.true_and, Bool.not_false]
        cases inR nu 0 1000000 with
        | false => simpa using Ev.now false
        | true =>
          cases x3 with
          | false => simpa using Ev.now false
          | true =>
            cases x4 with
            | false => simpa using Ev.now false
            | true =>
              simp only [if_true, Bool.true_and]
              by_cases h0 : fo = 0
              · simp only [if_pos h0, decide_eq_true h0, Bool.true_or, Bool.true_and]
                exact hv
              · simp only [if_neg h0, decide_eq_false h0, Bool.false_or]
                cases x5 with
                | false => simpa using Ev.now false
                | true =>
                  simp only [if_true, Bool.true_and]
                  exact hv
theorem implMail_j0_ev (x3 x4 : Bool) (kd fr tt nu ab fo : Int) (fs : List S69) (hl : fs.length ≤ 140737488355328) : Ev (fun k => impl_MailRight.j0 k x3 x4 kd fr tt nu ab fo fs) (inR fr 1 6 && (inR tt 1 6 && (!decide (fr = tt) && (inR nu 0 1000000 && (x3 && (x4 && ((decide (fo = 0) || ((decide (kd = 1) || decide (kd = 2)) && inR fo 1 6)) && viewR fs))))))) := by
  refine Ev.step (fun k => by simp only [impl_MailRight.j0, impl_isNode_eq, Option.bind_some]; rfl) ?_
  have h := fun x5 => implMail_j1_ev x3 x4 x5 kd fr tt nu ab fo fs hl
  by_cases h1 : kd = 1
  · simp only [if_pos h1]
    exact Ev.ofBool (h _) (by rw [decide_eq_true h1, Bool.true_or, Bool.true_and])
  · by_cases h2 : kd = 2
    · simp only [if_neg h1, if_pos h2]
      exact Ev.ofBool (h _) (by rw [decide_eq_true h2, Bool.or_true, Bool.true_and])
    · simp only [if_neg h1, if_neg h2]
      exact Ev.ofBool (h _) (by simp [h1, h2])
theorem implMail_ev (kd fr tt nu ab fo : Int) (fs : List S69) (hl : fs.length ≤ 140737488355328) : Ev (fun k => impl_MailRight.f k kd fr tt nu ab fo fs) (mailR kd fr tt nu ab fo fs) := by
  have h := fun x3 x4 => implMail_j0_ev x3 x4 kd fr tt nu ab fo fs hl
  have e : decide ((fs.length : Int) ≤ 3) = decide (fs.length ≤ 3) := by rw [decide_eq_decide]; omega
  simp only [impl_MailRight.f, impl_isNode_eq, Option.bind_some, e]
  unfold mailR aboutS tailS
  by_cases h1 : kd = 1
  · subst h1
    simp only [if_true]
    refine Ev.ofBool (h _ _) ?_
    rw [show inR 1 1 5 = true from rfl, Bool.true_and]
    simp only [show ¬ (1 : Int) = 2 by omega, show ¬ (1 : Int) = 3 by omega, if_false, show (1 : Int) ≤ 2 by omega, show ¬ (3 : Int) < 1 by omega, decide_true, decide_false, Bool.true_or, Bool.false_or, Bool.true_and]
    cases inR fr 1 6 <;> cases inR tt 1 6 <;> cases inR nu 0 1000000 <;> cases viewR fs <;> cases decide (fs.length ≤ 3) <;> by_cases hab : ab = 0 <;> simp [hab]
  by_cases h2 : kd = 2
  · subst h2
    simp only [show ¬ (2 : Int) = 1 by omega, if_false, if_true]
    refine Ev.ofBool (h _ _) ?_
    rw [show inR 2 1 5 = true from rfl, Bool.true_and]
    simp only [show ¬ (3 : Int) < 2 by omega, show (2 : Int) ≤ 2 by omega, decide_true, decide_false, Bool.or_true, Bool.false_or, Bool.true_and]
    cases inR fr 1 6 <;> cases inR tt 1 6 <;> cases inR nu 0 1000000 <;> cases viewR fs <;> cases decide (fs.length ≤ 3) <;> cases inR ab 1 6 <;> simp
  by_cases h3 : kd = 3
  · subst h3
    simp only [show ¬ (3 : Int) = 1 by omega, show ¬ (3 : Int) = 2 by omega, if_false, if_true]
    rw [show inR 3 1 5 = true from rfl, Bool.true_and]
    simp only [show ¬ (3 : Int) < 3 by omega, show ¬ (3 : Int) ≤ 2 by omega, decide_false, Bool.false_or, Bool.false_and, Bool.or_false]
    cases inR ab 1 6 with
    | false =>
      simp only [Bool.false_eq_true, if_false]
      exact Ev.ofBool (h _ _) (by simp)
    | true =>
      simp only [if_true]
      by_cases ha : ab = fr
      · simp only [if_pos ha]
        exact Ev.ofBool (h _ _) (by simp [ha])
      · simp only [if_neg ha]
        refine Ev.ofBool (h _ _) ?_
        rw [show (ab != tt) = !decide (ab = tt) from rfl]
        cases inR fr 1 6 <;> cases inR tt 1 6 <;> cases inR nu 0 1000000 <;> cases viewR fs <;> cases decide (fs.length ≤ 3) <;> by_cases hb : ab = tt <;> simp [ha, hb]
  by_cases h4 : kd = 4
  · subst h4
    simp only [show ¬ (4 : Int) = 1 by omega, show ¬ (4 : Int) = 2 by omega, show ¬ (4 : Int) = 3 by omega, if_false, if_true]
    refine Ev.ofBool (h _ _) ?_
    rw [show inR 4 1 5 = true from rfl, Bool.true_and]
    cases inR fr 1 6 <;> cases inR tt 1 6 <;> cases inR nu 0 1000000 <;> cases viewR fs <;> by_cases hab : ab = 0 <;> simp [hab]
  by_cases h5 : kd = 5
  · subst h5
    simp only [show ¬ (5 : Int) = 1 by omega, show ¬ (5 : Int) = 2 by omega, show ¬ (5 : Int) = 3 by omega, show ¬ (5 : Int) = 4 by omega, if_false, if_true]
    refine Ev.ofBool (h _ _) ?_
    rw [show inR 5 1 5 = true from rfl, Bool.true_and]
    cases inR fr 1 6 <;> cases inR tt 1 6 <;> cases inR nu 0 1000000 <;> cases viewR fs <;> by_cases hab : ab = 0 <;> simp [hab]
  simp only [if_neg h1, if_neg h2, if_neg h3, if_neg h4, if_neg h5]
  have : inR kd 1 5 = false := by
    rw [← Bool.not_eq_true, inR_iff]
    omega
  rw [this, Bool.false_and]
  exact Ev.now _

theorem FnExactMailRight : laws_FnExactMailRight.Goal := by
  intro kd fr tt nu ab fo l _ _ _ _ _ _ hm _
  by_cases hb : 1048576 < l.length
  · refine Ev.rounds (Ev.congr (f := fun _ => some true) (fun k => ?_) (Ev.now _))
    simp only [laws_FnExactMailRight.f, szMail_eq kd fr tt nu ab fo l (by omega), Option.bind_some]
    rw [if_pos hb, if_pos (by omega)]
  · have hl : l.length ≤ 1048576 := by omega
    refine Ev.rounds (Ev.congr (fun k => by simp only [laws_FnExactMailRight.f, szMail_eq kd fr tt nu ab fo l (by omega), Option.bind_some]; rw [if_neg hb, if_neg (by omega)]) ?_)
    refine Ev.bind (toMail_ev kd fr tt nu ab fo l hl) (Ev.bind (specMail_ev kd fr tt nu ab fo _) (Ev.bind (toMail_ev kd fr tt nu ab fo l hl) (Ev.bind (implMail_ev kd fr tt nu ab fo _ (by simp; omega)) ?_)))
    simp only [bne_self_eq_false, Bool.false_eq_true, if_false]
    refine Ev.bind (toMail_ev kd fr tt nu ab fo l hl) (Ev.bind (eqMail_refl kd fr tt nu ab fo _ (by simp; omega)) ?_)
    simpa using Ev.now _

end Go.Proofs.Ytniihggolaohbaa.Pure
