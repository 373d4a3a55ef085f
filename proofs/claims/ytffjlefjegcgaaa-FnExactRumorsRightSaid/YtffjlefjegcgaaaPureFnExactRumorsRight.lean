/- The plain law of FnExactRumorsRight: what the Lean functions of the printed texts answer. -/
import Derived.Test.YtffjlefjegcgaaaGFnExactRumorsRight
import Derived.Test.YtffjlefjegcgaaaHSem
namespace Go.Proofs.Ytffjlefjegcgaaa.Pure
open Go.RowKit Go.Proofs.Ytffjlefjegcgaaa.PFnExactRumorsRight Go.Proofs.YtffjlefjegcgaaaW.PrintWords Go.Proofs.YtffjlefjegcgaaaW.PrintLast Go.Proofs.YtffjlefjegcgaaaW.PrintMore Go.Proofs.YtffjlefjegcgaaaH
set_option linter.unusedVariables false
set_option linter.unusedSimpArgs false

/-- A rumor, as the program has it. -/
def toR (x : S93) : S80 := ⟨⟨x.f0.f0, x.f0.f1, x.f0.f2⟩, x.f1⟩
theorem szRumorS_eq (l : List S93) (hl : (l.length : Int) ≤ 9223372036854775807) : laws_szRumorS.f l 1048576 = some (if 1048576 < l.length then -1 else 1048576 - (l.length : Int)) := by
  unfold laws_szRumorS.f
  rw [wrap_id (by omega) (by omega)]
  split <;> split <;> first | rfl | omega
theorem toRumorS_ev (l : List S93) (hl : l.length ≤ 1048576) : Ev (fun k => laws_toRumorS.f k l) (l.map toR) := by
  have h := fillLoop l.length (fun i => toR (l.getD i z93)) (fun k ys i => laws_toRumorS.l0 k l ys i) (fun k i ys hi hy => by
      simp only [laws_toRumorS.l0, laws_toRumor.f, laws_toFact.f, Option.bind_some]
      rw [if_pos (by omega), if_pos (by omega), if_pos (by omega), wrap_succ hi (by omega)]
      simp [rd_T93, toR]) (fun k ys hy => by
      simp only [laws_toRumorS.l0]
      rw [if_neg (by omega)]) l.length 0 (List.replicate l.length z80) (by omega) (by simp)
  rw [map_range] at h
  refine Ev.congr (fun k => ?_) (by simpa using h)
  simp only [laws_toRumorS.f]
  rw [if_pos (by omega), if_pos (by omega)]
  simp

theorem eqFact_eq' (a b c a' b' c' : Int) : laws_eqFact.f a b c a' b' c' = some (decide (a = a') && (decide (b = b') && decide (c = c'))) := by
  unfold laws_eqFact.f
  repeat' split
  all_goals simp [*]
theorem eqRumor_eq (a b c d a' b' c' d' : Int) : laws_eqRumor.f a b c d a' b' c' d' = some ((decide (a = a') && (decide (b = b') && decide (c = c'))) && decide (d = d')) := by
  simp only [laws_eqRumor.f, eqFact_eq', Option.bind_some]
  by_cases h : (decide (a = a') && (decide (b = b') && decide (c = c'))) = true
  · rw [if_pos h, h, Bool.true_and]
    split <;> simp [*]
  · rw [if_neg h]
    rw [Bool.not_eq_true] at h
    rw [h, Bool.false_and]
theorem rumor_ext (x y : S80) : ((decide (x.f0.f0 = y.f0.f0) && (decide (x.f0.f1 = y.f0.f1) && decide (x.f0.f2 = y.f0.f2))) && decide (x.f1 = y.f1)) = true ↔ x = y := by
  obtain ⟨⟨a, b, c⟩, d⟩ := x
  obtain ⟨⟨a', b', c'⟩, d'⟩ := y
  simp [and_assoc]
theorem eqRumorS_ev (l m : List S80) (hl : l.length ≤ 140737488355328) : ∃ b : Bool, (b = true ↔ l = m) ∧ Ev (fun k => laws_eqRumorS.f k l m) b := by
  by_cases h : m.length = l.length
  · have hh := allLoop l.length (fun i => ((decide ((l.getD i z80).f0.f0 = (m.getD i z80).f0.f0) && (decide ((l.getD i z80).f0.f1 = (m.getD i z80).f0.f1) && decide ((l.getD i z80).f0.f2 = (m.getD i z80).f0.f2))) && decide ((l.getD i z80).f1 = (m.getD i z80).f1))) true (fun k i => laws_eqRumorS.l0 k l m i) (fun k i hi => by
        simp only [laws_eqRumorS.l0, eqRumor_eq, Option.bind_some, rd_T80]
        rw [if_pos (by omega), if_pos (by omega), if_pos (by omega), wrap_succ hi hl]
        simp only [Int.toNat_natCast]) (fun k => by
        simp only [laws_eqRumorS.l0]
        rw [if_neg (by omega)]) l.length 0 (by omega)
    refine ⟨_, ?_, Ev.congr (fun k => ?_) hh⟩
    · rw [Bool.and_true, allB_iff]
      constructor
      · intro hj
        apply List.ext_getElem h.symm
        intro i h1 h2
        have := (rumor_ext _ _).1 (hj i (by omega) (by omega))
        simpa [List.getD, h1, h2] using this
      · rintro rfl j _ _
        simp
    · simp only [laws_eqRumorS.f]; rw [if_pos (by omega)]; rfl
  · refine ⟨false, ⟨fun h => by simp at h, fun e => by rw [e] at h; exact absurd rfl h⟩, Ev.congr (f := fun k => some false) (fun k => ?_) (Ev.now _)⟩
    simp only [laws_eqRumorS.f]; rw [if_neg (by omega)]

theorem spec_l02Is_eq (a b c : Int) : spec_l02Is.f a b c = some (inR a b c) := by
  by_cases h : b ≤ a <;> simp [spec_l02Is.f, inR, h]

theorem spec_l04Node_eq (a : Int) : spec_l04Node.f a = some (inR a 1 6) := by simp [spec_l04Node.f, spec_l02Is_eq]
theorem spec_l03Time_eq (a : Int) : spec_l03Time.f a = some (inR a 0 1000000) := by simp [spec_l03Time.f, spec_l02Is_eq]
theorem spec_FactRight_eq (a b c : Int) : spec_FactRight.f a b c = some (factR a b c) := by
  simp only [spec_FactRight.f, spec_l04Node_eq, spec_l03Time_eq, spec_l02Is_eq, Option.bind_some, factR]
  cases inR a 1 6 <;> cases inR b 0 1000000 <;> simp

/-- The nodes of rumors. -/
def nodesOf (l : List S80) : List Int := l.map (fun x => x.f0.f0)
theorem nodesOf_length (l : List S80) : (nodesOf l).length = l.length := by simp [nodesOf]
theorem nodesOf_at (l : List S80) {i : Nat} (h : i < l.length) : (nodesOf l).getD i 0 = (l.getD i z80).f0.f0 := by simp [nodesOf, List.getD, h]
theorem rdR_nat (l : List S80) (i : Nat) : rd_T80 l (i : Int) = l.getD i z80 := by simp [rd_T80]
/-- Fact and count of a rumor. -/
def rumorF (x : S80) : Bool := factR x.f0.f0 x.f0.f1 x.f0.f2 && inR x.f1 0 3
def rumorT (l : List S80) (i : Nat) : Bool := rumorF (l.getD i z80) && !((nodesOf l).take i).contains ((nodesOf l).getD i 0)
/-- Are rumors right? -/
def rumorsR (l : List S80) : Bool := allB (rumorT l) 0 l.length
theorem factR_iff' {a b c : Int} : factR a b c = true ↔ (1 ≤ a ∧ a ≤ 6) ∧ (0 ≤ b ∧ b ≤ 1000000) ∧ (1 ≤ c ∧ c ≤ 3) := by
  simp only [factR, Bool.and_eq_true, inR_iff]
theorem rumorsR_six {l : List S80} (h : rumorsR l = true) : (∀ x ∈ l, rumorF x = true) ∧ (nodesOf l).Nodup ∧ l.length ≤ 6 := by
  have key : ∀ j, j < l.length → rumorF (l.getD j z80) = true ∧ ((nodesOf l).take j).contains ((nodesOf l).getD j 0) = false := by
    intro j hj
    have := (allB_iff _ _ _).1 h j (by omega) (by omega)
    rw [rumorT, Bool.and_eq_true, Bool.not_eq_true'] at this
    exact this
  have h1 : ∀ x ∈ l, rumorF x = true := by
    intro x hx
    obtain ⟨j, hj, rfl⟩ := List.getElem_of_mem hx
    have := (key j hj).1
    simpa [List.getD, hj] using this
  have h2 := nodup_of_all (nodesOf l) (fun j hj => (key j (by rw [nodesOf_length] at hj; exact hj)).2)
  have h3 := apart_six (nodesOf l) (fun x hx => by
    obtain ⟨y, hy, rfl⟩ := List.mem_map.1 hx
    have := h1 y hy
    rw [rumorF, Bool.and_eq_true, factR_iff'] at this
    exact this.1.1) h2
  rw [nodesOf_length] at h3
  exact ⟨h1, h2, h3⟩

theorem specRum_l1 (l : List S80) (i : Nat) (hi : i < l.length) (hl : l.length ≤ 6) (R : Bool) (hR : Ev (fun k => spec_RumorsRight.l0 k l (wrap64 ((i : Int) + 1))) R) : ∀ d j : Nat, j + d = i → Ev (fun k => spec_RumorsRight.l1 k l (i : Int) (j : Int)) (!(((nodesOf l).take i).drop j).contains ((nodesOf l).getD i 0) && R)
  | 0, j, h => by
    rw [List.drop_of_length_le (by simp; omega)]
    refine Ev.step (fun k => ?_) (Ev.ofBool hR (by simp))
    simp only [spec_RumorsRight.l1]
    rw [if_neg (by omega)]
  | d + 1, j, h => by
    have hn := nodesOf_length l
    rw [drop_at _ 0 (show j < ((nodesOf l).take i).length by simp; omega), List.contains_cons]
    have ej : ((nodesOf l).take i).getD j 0 = (l.getD j z80).f0.f0 := by
      rw [← nodesOf_at l (show j < l.length by omega)]
      simp [List.getD, List.getElem?_take, show j < i by omega]
    rw [ej, nodesOf_at l hi]
    have ih := specRum_l1 l i hi hl R hR d (j + 1) (by omega)
    rw [nodesOf_at l hi] at ih
    by_cases he : (l.getD j z80).f0.f0 = (l.getD i z80).f0.f0
    · rw [he]
      refine Ev.step (f := fun _ => some false) (fun k => ?_) (by simpa using Ev.now false)
      simp only [spec_RumorsRight.l1]
      rw [if_pos (by omega), if_pos (by omega), if_pos (by omega), if_pos (by omega), if_pos (by omega), rdR_nat, rdR_nat, if_pos he]
    · rw [beq_eq_false_iff_ne.2 (Ne.symm he), Bool.false_or]
      refine Ev.step (fun k => ?_) ih
      simp only [spec_RumorsRight.l1]
      rw [if_pos (by omega), if_pos (by omega), if_pos (by omega), if_pos (by omega), if_pos (by omega), rdR_nat, rdR_nat, if_neg he, wrap_succ (n := l.length) (by omega) (by omega)]
theorem specRumors_ev (l : List S80) : Ev (fun k => spec_RumorsRight.f k l) (rumorsR l) := by
  by_cases h6 : l.length ≤ 6
  · have hh := allLoopE l.length (rumorT l) true (fun k i => spec_RumorsRight.l0 k l i) (fun i hi R hR => by
        have hw := wrap_succ hi (show l.length ≤ 140737488355328 by omega)
        have hin := specRum_l1 l i hi h6 R (by rw [hw]; exact hR) i 0 (by omega)
        rw [List.drop_zero] at hin
        have step : ∀ k, spec_RumorsRight.l0 (k + 1) l (i : Int) = spec_RumorsRight.j1 k l (i : Int) (!rumorF (l.getD i z80)) := by
          intro k
          simp only [spec_RumorsRight.l0, spec_FactRight_eq, spec_l02Is_eq, Option.bind_some]
          rw [if_pos (by omega), if_pos (by omega), rdR_nat]
          unfold rumorF
          by_cases hf : factR (l.getD i z80).f0.f0 (l.getD i z80).f0.f1 (l.getD i z80).f0.f2 = true
          · rw [if_pos hf, hf, Bool.true_and]
          · rw [if_neg hf, Bool.not_eq_true] at *
            rw [hf, Bool.false_and]
            rfl
        refine Ev.step step ?_
        rw [rumorT, Bool.and_assoc]
        cases hr : rumorF (l.getD i z80) with
        | false =>
          refine Ev.step (f := fun _ => some false) (fun k => ?_) (Ev.now _)
          simp only [spec_RumorsRight.j1]
          rw [if_pos (by simp)]
        | true =>
          rw [Bool.true_and]
          refine Ev.step (fun k => ?_) hin
          simp only [spec_RumorsRight.j1]
          rw [if_neg (by simp)]
          rfl) (Ev.step (f := fun _ => some true) (fun k => by simp only [spec_RumorsRight.l0]; rw [if_neg (by omega)]) (Ev.now _)) l.length 0 (by omega)
    rw [Bool.and_true] at hh
    refine Ev.congr (fun k => ?_) hh
    simp only [spec_RumorsRight.f]; rw [if_neg (by omega)]; rfl
  · have : rumorsR l = false := by
      cases h : rumorsR l with
      | false => rfl
      | true => exact absurd (rumorsR_six h).2.2 h6
    rw [this]
    refine Ev.congr (f := fun _ => some false) (fun k => ?_) (Ev.now _)
    simp only [spec_RumorsRight.f]; rw [if_pos (by omega)]

theorem impl_within_eq (a b c : Int) : impl_within.f a b c = some (inR a b c) := by
  by_cases h : b ≤ a <;> simp [impl_within.f, inR, h]

theorem impl_isNode_eq (a : Int) : impl_isNode.f a = some (inR a 1 6) := by simp [impl_isNode.f, impl_within_eq]
theorem impl_isTime_eq (a : Int) : impl_isTime.f a = some (inR a 0 1000000) := by simp [impl_isTime.f, impl_within_eq]
theorem impl_FactRight_eq (a b c : Int) : impl_FactRight.f a b c = some (factR a b c) := by
  simp only [impl_FactRight.f, impl_isNode_eq, impl_isTime_eq, impl_within_eq, Option.bind_some, factR]
  cases inR a 1 6 <;> cases inR b 0 1000000 <;> simp

theorem slIndex_l0 (l : List Int) (n : Int) (hl : l.length ≤ 140737488355328) : ∀ d i : Nat, i + d = l.length → ∃ r : Int, Ev (fun k => slices_Index_int64_int64.l0 k l n (l.length : Int) (i : Int)) r ∧ (0 ≤ r ↔ (l.drop i).contains n = true)
  | 0, i, h => ⟨-1, Ev.step (f := fun _ => some (-1)) (fun k => by simp only [slices_Index_int64_int64.l0]; rw [if_neg (by omega)]) (Ev.now _), by rw [List.drop_of_length_le (by omega)]; simp⟩
  | d + 1, i, h => by
    have hw := wrap_succ (i := i) (n := l.length) (by omega) hl
    rw [drop_at l 0 (show i < l.length by omega), List.contains_cons]
    by_cases ho : n = l.getD i 0
    · refine ⟨(i : Int), Ev.step (f := fun k => some (i : Int)) (fun k => ?_) (Ev.now _), by rw [← ho]; simp⟩
      simp only [slices_Index_int64_int64.l0]
      rw [rd_nat, if_pos (by omega), if_pos (by omega), if_pos (by omega), if_pos ho]
    · obtain ⟨r, hr, hc⟩ := slIndex_l0 l n hl d (i + 1) (by omega)
      refine ⟨r, Ev.step (f := fun k => slices_Index_int64_int64.l0 k l n (l.length : Int) ((i + 1 : Nat) : Int)) (fun k => ?_) hr, by rw [beq_eq_false_iff_ne.2 ho, Bool.false_or]; exact hc⟩
      simp only [slices_Index_int64_int64.l0]
      rw [hw, rd_nat, if_pos (by omega), if_pos (by omega), if_pos (by omega), if_neg ho]
theorem slContains_ev (l : List Int) (n : Int) (hl : l.length ≤ 140737488355328) : Ev (fun k => slices_Contains_int64_int64.f k l n) (l.contains n) := by
  obtain ⟨r, hr, hc⟩ := slIndex_l0 l n hl l.length 0 (by omega)
  refine Ev.congr (fun k => rfl) (Ev.bind (g := fun k => slices_Index_int64_int64.f k l n) hr (f := fun _ t => some (decide (t ≥ 0))) ?_)
  rw [show decide (r ≥ 0) = l.contains n by rw [Bool.eq_iff_iff, decide_eq_true_iff]; exact hc]
  exact Ev.now _

theorem implRum_l0 (l : List S80) (hl : l.length ≤ 1048576) : ∀ d i : Nat, i + d = l.length → Ev (fun k => impl_RumorsRight.l0 k ((nodesOf l).take i) l (l.length : Int) (i : Int)) (allB (rumorT l) i d)
  | 0, i, h => Ev.step (f := fun _ => some true) (fun k => by simp only [impl_RumorsRight.l0]; rw [if_neg (by omega)]) (Ev.now _)
  | d + 1, i, h => by
    have hi : i < l.length := by omega
    have hn := nodesOf_length l
    have hb : Ev (fun k => slices_Contains_int64_int64.f k ((nodesOf l).take i) ((nodesOf l).getD i 0)) (((nodesOf l).take i).contains ((nodesOf l).getD i 0)) := slContains_ev _ _ (by simp; omega)
    have ih := implRum_l0 l hl d (i + 1) (by omega)
    have et : (nodesOf l).take (i + 1) = (nodesOf l).take i ++ [(nodesOf l).getD i 0] := by
      rw [List.take_add_one]
      simp [List.getD, show i < (nodesOf l).length by omega]
    rw [et] at ih
    rw [allB, rumorT, rumorF, Bool.and_assoc, Bool.and_assoc]
    refine Ev.step (f := fun k => if factR (l.getD i z80).f0.f0 (l.getD i z80).f0.f1 (l.getD i z80).f0.f2 = true then (if inR (l.getD i z80).f1 0 3 = true then (slices_Contains_int64_int64.f k ((nodesOf l).take i) ((nodesOf l).getD i 0)).bind fun t => (if t = true then some false else impl_RumorsRight.l0 k ((nodesOf l).take i ++ [(nodesOf l).getD i 0]) l (l.length : Int) ((i + 1 : Nat) : Int)) else some false) else some false) (fun k => ?_) ?_
    · simp only [impl_RumorsRight.l0, impl_FactRight_eq, impl_within_eq, Option.bind_some]
      rw [if_pos (by omega), if_pos (by omega), if_pos (by omega), rdR_nat, nodesOf_at l hi, wrap_succ hi (by omega)]
      simp only [if_pos (show ((nodesOf l).take i).length < 17592186044416 by simp; omega)]
    · by_cases hf : factR (l.getD i z80).f0.f0 (l.getD i z80).f0.f1 (l.getD i z80).f0.f2 = true
      · simp only [if_pos hf]
        rw [hf, Bool.true_and]
        by_cases hs : inR (l.getD i z80).f1 0 3 = true
        · simp only [if_pos hs]
          rw [hs, Bool.true_and]
          refine Ev.bind hb ?_
          cases ((nodesOf l).take i).contains ((nodesOf l).getD i 0) with
          | true => simpa using Ev.now false
          | false => simpa using ih
        · simp only [if_neg hs]
          rw [Bool.not_eq_true] at hs
          rw [hs, Bool.false_and]
          exact Ev.now _
      · simp only [if_neg hf]
        rw [Bool.not_eq_true] at hf
        rw [hf, Bool.false_and]
        exact Ev.now _
theorem implRumors_ev (l : List S80) (hl : l.length ≤ 1048576) : Ev (fun k => impl_RumorsRight.f k l) (rumorsR l) := by
  have := implRum_l0 l hl l.length 0 (by omega)
  rw [List.take_zero] at this
  exact this

theorem FnExactRumorsRight : laws_FnExactRumorsRight.Goal := by
  intro l hm _
  by_cases hb : 1048576 < l.length
  · refine Ev.rounds (Ev.congr (f := fun _ => some true) (fun k => ?_) (Ev.now _))
    simp only [laws_FnExactRumorsRight.f, szRumorS_eq l (by omega), Option.bind_some]
    rw [if_pos hb, if_pos (by omega)]
  · have hl : l.length ≤ 1048576 := by omega
    refine Ev.rounds (Ev.congr (fun k => by simp only [laws_FnExactRumorsRight.f, szRumorS_eq l (by omega), Option.bind_some]; rw [if_neg hb, if_neg (by omega)]) ?_)
    refine Ev.bind (toRumorS_ev l hl) (Ev.bind (specRumors_ev _) (Ev.bind (toRumorS_ev l hl) (Ev.bind (implRumors_ev _ (by simpa using hl)) ?_)))
    simp only [bne_self_eq_false, Bool.false_eq_true, if_false]
    obtain ⟨b, hb1, hb2⟩ := eqRumorS_ev (l.map toR) (l.map toR) (by simp; omega)
    refine Ev.bind (toRumorS_ev l hl) (Ev.bind hb2 ?_)
    rw [hb1.2 rfl]
    simpa using Ev.now _

end Go.Proofs.Ytffjlefjegcgaaa.Pure
