/- The plain law of FnExactRumorPut: what the Lean functions of the printed texts answer. -/
import Derived.Test.YtffjlefjegcgaaaGFnExactRumorPut
import Derived.Test.YtffjlefjegcgaaaHSem
namespace Go.Proofs.Ytffjlefjegcgaaa.Pure
open Go.RowKit Go.Proofs.Ytffjlefjegcgaaa.PFnExactRumorPut Go.Proofs.YtffjlefjegcgaaaW.PrintWords Go.Proofs.YtffjlefjegcgaaaW.PrintLast Go.Proofs.YtffjlefjegcgaaaW.PrintMore Go.Proofs.YtffjlefjegcgaaaH
set_option linter.unusedVariables false
set_option linter.unusedSimpArgs false

/-- A rumor, as the program has it. -/
def toR (x : S93) : S80 := ⟨⟨x.f0.f0, x.f0.f1, x.f0.f2⟩, x.f1⟩
theorem szRumorS_eq (l : List S93) (hl : (l.length : Int) ≤ 9223372036854775807) : laws_szRumorS.f l 1048576 = some (if 1048576 < l.length then -1 else 1048576 - (l.length : Int)) := by
  unfold laws_szRumorS.f
  rw [wrap_id (by omega) (by omega)]
  split <;> split <;> first | rfl | omega
theorem toRumorS_ev (l : List S93) (hl : l.length ≤ 1048576) : Ev (fun k => laws_toRumorS.f k l) (l.map toR) := by
  have h := fillLoop l.length (fun i => toR (l.getD i z93)) (fun k ys i => laws_toRumorS.l0 k l ys i) (fun k i ys hi hy => by
      simp only [laws_toRumorS.l0, laws_toRumor.f, laws_toFact.f, Option.bind_some]
      rw [if_pos (by omega), if_pos (by omega), if_pos (by omega), wrap_succ hi (by omega)]
      simp [rd_T93, toR]) (fun k ys hy => by
      simp only [laws_toRumorS.l0]
      rw [if_neg (by omega)]) l.length 0 (List.replicate l.length z80) (by omega) (by simp)
  rw [map_range] at h
  refine Ev.congr (fun k => ?_) (by simpa using h)
  simp only [laws_toRumorS.f]
  rw [if_pos (by omega), if_pos (by omega)]
  simp

theorem eqFact_eq' (a b c a' b' c' : Int) : laws_eqFact.f a b c a' b' c' = some (decide (a = a') && (decide (b = b') && decide (c = c'))) := by
  unfold laws_eqFact.f
  repeat' split
  all_goals simp [*]
theorem eqRumor_eq (a b c d a' b' c' d' : Int) : laws_eqRumor.f a b c d a' b' c' d' = some ((decide (a = a') && (decide (b = b') && decide (c = c'))) && decide (d = d')) := by
  simp only [laws_eqRumor.f, eqFact_eq', Option.bind_some]
  by_cases h : (decide (a = a') && (decide (b = b') && decide (c = c'))) = true
  · rw [if_pos h, h, Bool.true_and]
    split <;> simp [*]
  · rw [if_neg h]
    rw [Bool.not_eq_true] at h
    rw [h, Bool.false_and]
theorem rumor_ext (x y : S80) : ((decide (x.f0.f0 = y.f0.f0) && (decide (x.f0.f1 = y.f0.f1) && decide (x.f0.f2 = y.f0.f2))) && decide (x.f1 = y.f1)) = true ↔ x = y := by
  obtain ⟨⟨a, b, c⟩, d⟩ := x
  obtain ⟨⟨a', b', c'⟩, d'⟩ := y
  simp [and_assoc]
theorem eqRumorS_ev (l m : List S80) (hl : l.length ≤ 140737488355328) : ∃ b : Bool, (b = true ↔ l = m) ∧ Ev (fun k => laws_eqRumorS.f k l m) b := by
  by_cases h : m.length = l.length
  · have hh := allLoop l.length (fun i => ((decide ((l.getD i z80).f0.f0 = (m.getD i z80).f0.f0) && (decide ((l.getD i z80).f0.f1 = (m.getD i z80).f0.f1) && decide ((l.getD i z80).f0.f2 = (m.getD i z80).f0.f2))) && decide ((l.getD i z80).f1 = (m.getD i z80).f1))) true (fun k i => laws_eqRumorS.l0 k l m i) (fun k i hi => by
        simp only [laws_eqRumorS.l0, eqRumor_eq, Option.bind_some, rd_T80]
        rw [if_pos (by omega), if_pos (by omega), if_pos (by omega), wrap_succ hi hl]
        simp only [Int.toNat_natCast]) (fun k => by
        simp only [laws_eqRumorS.l0]
        rw [if_neg (by omega)]) l.length 0 (by omega)
    refine ⟨_, ?_, Ev.congr (fun k => ?_) hh⟩
    · rw [Bool.and_true, allB_iff]
      constructor
      · intro hj
        apply List.ext_getElem h.symm
        intro i h1 h2
        have := (rumor_ext _ _).1 (hj i (by omega) (by omega))
        simpa [List.getD, h1, h2] using this
      · rintro rfl j _ _
        simp
    · simp only [laws_eqRumorS.f]; rw [if_pos (by omega)]; rfl
  · refine ⟨false, ⟨fun h => by simp at h, fun e => by rw [e] at h; exact absurd rfl h⟩, Ev.congr (f := fun k => some false) (fun k => ?_) (Ev.now _)⟩
    simp only [laws_eqRumorS.f]; rw [if_neg (by omega)]

theorem eqFact_eq (a b c a' b' c' : Int) : laws_eqFact.f a b c a' b' c' = some (decide (a = a') && (decide (b = b') && decide (c = c'))) := by
  unfold laws_eqFact.f
  repeat' split
  all_goals simp [*]
theorem fact_ext (x y : S30) : (decide (x.f0 = y.f0) && (decide (x.f1 = y.f1) && decide (x.f2 = y.f2))) = true ↔ x = y := by
  cases x; cases y; simp
theorem eqFactS_ev (l m : List S30) (hl : l.length ≤ 140737488355328) : ∃ b : Bool, (b = true ↔ l = m) ∧ Ev (fun k => laws_eqFactS.f k l m) b := by
  by_cases h : m.length = l.length
  · have hh := allLoop l.length (fun i => (decide ((l.getD i z30).f0 = (m.getD i z30).f0) && (decide ((l.getD i z30).f1 = (m.getD i z30).f1) && decide ((l.getD i z30).f2 = (m.getD i z30).f2)))) true (fun k i => laws_eqFactS.l0 k l m i) (fun k i hi => by
        simp only [laws_eqFactS.l0, eqFact_eq, Option.bind_some, rd_T30]
        rw [if_pos (by omega), if_pos (by omega), if_pos (by omega), wrap_succ hi hl]
        simp only [Int.toNat_natCast]) (fun k => by
        simp only [laws_eqFactS.l0]
        rw [if_neg (by omega)]) l.length 0 (by omega)
    refine ⟨_, ?_, Ev.congr (fun k => ?_) hh⟩
    · rw [Bool.and_true, allB_iff]
      constructor
      · intro hj
        apply List.ext_getElem h.symm
        intro i h1 h2
        have := (fact_ext _ _).1 (hj i (by omega) (by omega))
        simpa [List.getD, h1, h2] using this
      · rintro rfl j _ _
        simp
    · simp only [laws_eqFactS.f]; rw [if_pos (by omega)]; rfl
  · refine ⟨false, ⟨fun h => by simp at h, fun e => by rw [e] at h; exact absurd rfl h⟩, Ev.congr (f := fun k => some false) (fun k => ?_) (Ev.now _)⟩
    simp only [laws_eqFactS.f]; rw [if_neg (by omega)]

/-- The nodes of rumors. -/
def nodesOf (l : List S80) : List Int := l.map (fun x => x.f0.f0)
theorem nodesOf_length (l : List S80) : (nodesOf l).length = l.length := by simp [nodesOf]
theorem nodesOf_at (l : List S80) {i : Nat} (h : i < l.length) : (nodesOf l).getD i 0 = (l.getD i z80).f0.f0 := by simp [nodesOf, List.getD, h]
theorem rdR_nat (l : List S80) (i : Nat) : rd_T80 l (i : Int) = l.getD i z80 := by simp [rd_T80]
/-- Fact and count of a rumor. -/
def rumorF (x : S80) : Bool := factR x.f0.f0 x.f0.f1 x.f0.f2 && inR x.f1 0 3
def rumorT (l : List S80) (i : Nat) : Bool := rumorF (l.getD i z80) && !((nodesOf l).take i).contains ((nodesOf l).getD i 0)
/-- Are rumors right? -/
def rumorsR (l : List S80) : Bool := allB (rumorT l) 0 l.length
theorem factR_iff' {a b c : Int} : factR a b c = true ↔ (1 ≤ a ∧ a ≤ 6) ∧ (0 ≤ b ∧ b ≤ 1000000) ∧ (1 ≤ c ∧ c ≤ 3) := by
  simp only [factR, Bool.and_eq_true, inR_iff]
theorem rumorsR_six {l : List S80} (h : rumorsR l = true) : (∀ x ∈ l, rumorF x = true) ∧ (nodesOf l).Nodup ∧ l.length ≤ 6 := by
  have key : ∀ j, j < l.length → rumorF (l.getD j z80) = true ∧ ((nodesOf l).take j).contains ((nodesOf l).getD j 0) = false := by
    intro j hj
    have := (allB_iff _ _ _).1 h j (by omega) (by omega)
    rw [rumorT, Bool.and_eq_true, Bool.not_eq_true'] at this
    exact this
  have h1 : ∀ x ∈ l, rumorF x = true := by
    intro x hx
    obtain ⟨j, hj, rfl⟩ := List.getElem_of_mem hx
    have := (key j hj).1
    simpa [List.getD, hj] using this
  have h2 := nodup_of_all (nodesOf l) (fun j hj => (key j (by rw [nodesOf_length] at hj; exact hj)).2)
  have h3 := apart_six (nodesOf l) (fun x hx => by
    obtain ⟨y, hy, rfl⟩ := List.mem_map.1 hx
    have := h1 y hy
    rw [rumorF, Bool.and_eq_true, factR_iff'] at this
    exact this.1.1) h2
  rw [nodesOf_length] at h3
  exact ⟨h1, h2, h3⟩

/-- A rumor's marks. -/
def markR (a : Int) : S80 := ⟨⟨a, a + 1, a + 2⟩, a + 3⟩
theorem markRumors_ev (l : List S80) (a : Int) (ha : 0 ≤ a) (hb : a + 4 * l.length ≤ 4611686018427387904) : Ev (fun k => laws_markRumorS.f k l a) (a + 4 * l.length, marks markR 4 a l.length) := by
  have h := markLoop l.length markR 4 (by omega) (fun k ys a i => laws_markRumorS.l0 k ys a i) (fun k i a ys hi hy h0 h1 => by
      simp only [laws_markRumorS.l0, Option.bind_some]
      rw [if_pos (by omega), if_pos (by omega), wrap_id (x := a + 1) (by omega) (by omega), wrap_id (x := a + 1 + 1) (by omega) (by omega), wrap_id (x := a + 1 + 1 + 1) (by omega) (by omega), wrap_id (x := a + 1 + 1 + 1 + 1) (by omega) (by omega), wrap_id (x := (i : Int) + 1) (by omega) (by omega)]
      simp only [rdR_nat, Int.toNat_natCast, List.set_set, getD_set_self _ _ _ i (show i < ys.length by omega)]
      rw [show a + 1 + 1 = a + 2 by omega, show a + 2 + 1 = a + 3 by omega, show a + 3 + 1 = a + 4 by omega]
      rfl) (fun k a ys hy => by
      simp only [laws_markRumorS.l0]
      rw [if_neg (by omega)]) l.length 0 a l (by omega) rfl ha (by omega)
  simpa [laws_markRumorS.f] using h
theorem heldRumors_ev (n : Nat) (a : Int) (ha : 0 ≤ a) (hb : a + 4 * n ≤ 4611686018427387904) : Ev (fun k => laws_heldRumorS.f k (marks markR 4 a n) a) (a + 4 * n) := by
  have hl := marks_length markR 4 n a
  have h := heldLoop n 4 (by omega) a ha (by omega) (fun k x i => laws_heldRumorS.l0 k (marks markR 4 a n) x i) (fun k i hi h1 h2 => by
      have em : (marks markR 4 a n).getD i z80 = markR (a + 4 * i) := marks_at _ _ _ n i a hi
      simp only [laws_heldRumorS.l0]
      rw [if_pos (by omega), if_pos (by omega), rdR_nat, em, if_pos (show (markR (a + 4 * (i : Int))).f0.f0 = a + 4 * (i : Int) from rfl), wrap_id (x := a + 4 * (i : Int) + 1) (by omega) (by omega), if_pos (show (markR (a + 4 * (i : Int))).f0.f1 = a + 4 * (i : Int) + 1 from rfl), wrap_id (x := a + 4 * (i : Int) + 1 + 1) (by omega) (by omega), if_pos (show (markR (a + 4 * (i : Int))).f0.f2 = a + 4 * (i : Int) + 1 + 1 by simp only [markR]; omega), wrap_id (x := a + 4 * (i : Int) + 1 + 1 + 1) (by omega) (by omega), if_pos (show (markR (a + 4 * (i : Int))).f1 = a + 4 * (i : Int) + 1 + 1 + 1 by simp only [markR]; omega), wrap_id (x := a + 4 * (i : Int) + 1 + 1 + 1 + 1) (by omega) (by omega), wrap_id (x := (i : Int) + 1) (by omega) (by omega)]
      rw [show a + 4 * (i : Int) + 1 + 1 + 1 + 1 = a + 4 * i + 4 by omega]
      rfl) (fun k x => by
      simp only [laws_heldRumorS.l0]
      rw [if_neg (by omega)]) n 0 (by omega)
  simpa [laws_heldRumorS.f] using h

/-- Is the fact at place i one that may stand there? -/
def viewT (l : List S30) (i : Nat) : Bool := factR (l.getD i z30).f0 (l.getD i z30).f1 (l.getD i z30).f2 && (decide (i = 0) || decide ((l.getD (i - 1) z30).f0 < (l.getD i z30).f0))
/-- Is a view right? -/
def viewR (l : List S30) : Bool := allB (viewT l) 0 l.length
theorem factR_iff {a b c : Int} : factR a b c = true ↔ (1 ≤ a ∧ a ≤ 6) ∧ (0 ≤ b ∧ b ≤ 1000000) ∧ (1 ≤ c ∧ c ≤ 3) := by
  simp only [factR, Bool.and_eq_true, inR_iff]
theorem rdF_nat (l : List S30) (i : Nat) : rd_T30 l (i : Int) = l.getD i z30 := by simp [rd_T30]
theorem viewT_iff {l : List S30} {i : Nat} : viewT l i = true ↔ factR (l.getD i z30).f0 (l.getD i z30).f1 (l.getD i z30).f2 = true ∧ (i = 0 ∨ (l.getD (i - 1) z30).f0 < (l.getD i z30).f0) := by
  simp only [viewT, Bool.and_eq_true, Bool.or_eq_true, decide_eq_true_eq]
theorem viewR_six {l : List S30} (h : viewR l = true) : l.length ≤ 6 := by
  refine rising_six (fun j => (l.getD j z30).f0) l.length (fun j hj => ?_)
  have := (allB_iff _ _ _).1 h j (by omega) (by omega)
  simp only [viewT, Bool.and_eq_true, Bool.or_eq_true, decide_eq_true_eq, factR_iff] at this
  obtain ⟨⟨⟨h1, h2⟩, _⟩, h3⟩ := this
  exact ⟨h1, h2, fun h0 => by rcases h3 with h3 | h3; omega; exact h3⟩

/-- A fact's marks. -/
def markF (a : Int) : S30 := ⟨a, a + 1, a + 2⟩
theorem markFacts_ev (l : List S30) (a : Int) (ha : 0 ≤ a) (hb : a + 3 * l.length ≤ 4611686018427387904) : Ev (fun k => laws_markFactS.f k l a) (a + 3 * l.length, marks markF 3 a l.length) := by
  have h := markLoop l.length markF 3 (by omega) (fun k ys a i => laws_markFactS.l0 k ys a i) (fun k i a ys hi hy h0 h1 => by
      simp only [laws_markFactS.l0, Option.bind_some]
      rw [if_pos (by omega), if_pos (by omega), wrap_id (x := a + 1) (by omega) (by omega), wrap_id (x := a + 1 + 1) (by omega) (by omega), wrap_id (x := a + 1 + 1 + 1) (by omega) (by omega), wrap_id (x := (i : Int) + 1) (by omega) (by omega)]
      simp only [rdF_nat, Int.toNat_natCast, List.set_set, getD_set_self _ _ _ i (show i < ys.length by omega)]
      rw [show a + 1 + 1 = a + 2 by omega, show a + 2 + 1 = a + 3 by omega]
      rfl) (fun k a ys hy => by
      simp only [laws_markFactS.l0]
      rw [if_neg (by omega)]) l.length 0 a l (by omega) rfl ha (by omega)
  simpa [laws_markFactS.f] using h

theorem heldFacts_ev (n : Nat) (a : Int) (ha : 0 ≤ a) (hb : a + 3 * n ≤ 4611686018427387904) : Ev (fun k => laws_heldFactS.f k (marks markF 3 a n) a) (a + 3 * n) := by
  have hl := marks_length markF 3 n a
  have h := heldLoop n 3 (by omega) a ha (by omega) (fun k x i => laws_heldFactS.l0 k (marks markF 3 a n) x i) (fun k i hi h1 h2 => by
      have em : (marks markF 3 a n).getD i z30 = markF (a + 3 * i) := marks_at _ _ _ n i a hi
      simp only [laws_heldFactS.l0]
      rw [if_pos (by omega), if_pos (by omega), rdF_nat, em, if_pos (show (markF (a + 3 * (i : Int))).f0 = a + 3 * (i : Int) from rfl), wrap_id (x := a + 3 * (i : Int) + 1) (by omega) (by omega), if_pos (show (markF (a + 3 * (i : Int))).f1 = a + 3 * (i : Int) + 1 from rfl), wrap_id (x := a + 3 * (i : Int) + 1 + 1) (by omega) (by omega), if_pos (show (markF (a + 3 * (i : Int))).f2 = a + 3 * (i : Int) + 1 + 1 by simp only [markF]; omega), wrap_id (x := a + 3 * (i : Int) + 1 + 1 + 1) (by omega) (by omega), wrap_id (x := (i : Int) + 1) (by omega) (by omega)]
      rw [show a + 3 * (i : Int) + 1 + 1 + 1 = a + 3 * i + 3 by omega]
      rfl) (fun k x => by
      simp only [laws_heldFactS.l0]
      rw [if_neg (by omega)]) n 0 (by omega)
  simpa [laws_heldFactS.f] using h

theorem eqRumors_refl (l : List S80) (hl : l.length ≤ 140737488355328) : Ev (fun k => laws_eqRumorS.f k l l) true := by
  obtain ⟨b, hb1, hb2⟩ := eqRumorS_ev l l hl
  rw [hb1.2 rfl] at hb2
  exact hb2
theorem eqFacts_refl (l : List S30) (hl : l.length ≤ 140737488355328) : Ev (fun k => laws_eqFactS.f k l l) true := by
  obtain ⟨b, hb1, hb2⟩ := eqFactS_ev l l hl
  rw [hb1.2 rfl] at hb2
  exact hb2
theorem eqRumorOut_refl (l : List S80) (m : List S30) (c : Int) (hl : l.length ≤ 140737488355328) (hm : m.length ≤ 140737488355328) : Ev (fun k => laws_eqRumorOut.f k l m c l m c) true := by
  refine Ev.bind (eqRumors_refl l hl) ?_
  simp only [if_true]
  refine Ev.bind (eqFacts_refl m hm) ?_
  simp only [if_true]
  exact Ev.now _
theorem markRumorOut_ev (l : List S80) (m : List S30) (c : Int) (hl : l.length ≤ 140737488355328) (hm : m.length ≤ 140737488355328) : Ev (fun k => laws_markRumorOut.f k l m c 1) (1 + 4 * (l.length : Int) + 3 * (m.length : Int), marks markR 4 1 l.length, marks markF 3 (1 + 4 * (l.length : Int)) m.length) :=
  Ev.bind (markRumors_ev l 1 (by omega) (by omega)) (Ev.bind (markFacts_ev m _ (by omega) (by omega)) (Ev.now _))
theorem heldRumorOut_ev (n m : Nat) (c : Int) (hl : n ≤ 140737488355328) (hm : m ≤ 140737488355328) : Ev (fun k => laws_heldRumorOut.f k (marks markR 4 1 n) (marks markF 3 (1 + 4 * (n : Int)) m) c 1) (1 + 4 * (n : Int) + 3 * (m : Int)) := by
  refine Ev.bind (heldRumors_ev n 1 (by omega) (by omega)) ?_
  refine evElse (by omega) (Ev.bind (heldFacts_ev m _ (by omega) (by omega)) ?_)
  rw [if_neg (by omega)]
  exact Ev.now _

theorem spec_l02Is_eq (a b c : Int) : spec_l02Is.f a b c = some (inR a b c) := by
  by_cases h : b ≤ a <;> simp [spec_l02Is.f, inR, h]

theorem spec_l04Node_eq (a : Int) : spec_l04Node.f a = some (inR a 1 6) := by simp [spec_l04Node.f, spec_l02Is_eq]
theorem spec_l03Time_eq (a : Int) : spec_l03Time.f a = some (inR a 0 1000000) := by simp [spec_l03Time.f, spec_l02Is_eq]
theorem spec_FactRight_eq (a b c : Int) : spec_FactRight.f a b c = some (factR a b c) := by
  simp only [spec_FactRight.f, spec_l04Node_eq, spec_l03Time_eq, spec_l02Is_eq, Option.bind_some, factR]
  cases inR a 1 6 <;> cases inR b 0 1000000 <;> simp

theorem specRum_l1 (l : List S80) (i : Nat) (hi : i < l.length) (hl : l.length ≤ 6) (R : Bool) (hR : Ev (fun k => spec_RumorsRight.l0 k l (wrap64 ((i : Int) + 1))) R) : ∀ d j : Nat, j + d = i → Ev (fun k => spec_RumorsRight.l1 k l (i : Int) (j : Int)) (!(((nodesOf l).take i).drop j).contains ((nodesOf l).getD i 0) && R)
  | 0, j, h => by
    rw [List.drop_of_length_le (by simp; omega)]
    refine Ev.step (fun k => ?_) (Ev.ofBool hR (by simp))
    simp only [spec_RumorsRight.l1]
    rw [if_neg (by omega)]
  | d + 1, j, h => by
    have hn := nodesOf_length l
    rw [drop_at _ 0 (show j < ((nodesOf l).take i).length by simp; omega), List.contains_cons]
    have ej : ((nodesOf l).take i).getD j 0 = (l.getD j z80).f0.f0 := by
      rw [← nodesOf_at l (show j < l.length by omega)]
      simp [List.getD, List.getElem?_take, show j < i by omega]
    rw [ej, nodesOf_at l hi]
    have ih := specRum_l1 l i hi hl R hR d (j + 1) (by omega)
    rw [nodesOf_at l hi] at ih
    by_cases he : (l.getD j z80).f0.f0 = (l.getD i z80).f0.f0
    · rw [he]
      refine Ev.step (f := fun _ => some false) (fun k => ?_) (by simpa using Ev.now false)
      simp only [spec_RumorsRight.l1]
      rw [if_pos (by omega), if_pos (by omega), if_pos (by omega), if_pos (by omega), if_pos (by omega), rdR_nat, rdR_nat, if_pos he]
    · rw [beq_eq_false_iff_ne.2 (Ne.symm he), Bool.false_or]
      refine Ev.step (fun k => ?_) ih
      simp only [spec_RumorsRight.l1]
      rw [if_pos (by omega), if_pos (by omega), if_pos (by omega), if_pos (by omega), if_pos (by omega), rdR_nat, rdR_nat, if_neg he, wrap_succ (n := l.length) (by omega) (by omega)]
theorem specRumors_ev (l : List S80) : Ev (fun k => spec_RumorsRight.f k l) (rumorsR l) := by
  by_cases h6 : l.length ≤ 6
  · have hh := allLoopE l.length (rumorT l) true (fun k i => spec_RumorsRight.l0 k l i) (fun i hi R hR => by
        have hw := wrap_succ hi (show l.length ≤ 140737488355328 by omega)
        have hin := specRum_l1 l i hi h6 R (by rw [hw]; exact hR) i 0 (by omega)
        rw [List.drop_zero] at hin
        have step : ∀ k, spec_RumorsRight.l0 (k + 1) l (i : Int) = spec_RumorsRight.j1 k l (i : Int) (!rumorF (l.getD i z80)) := by
          intro k
          simp only [spec_RumorsRight.l0, spec_FactRight_eq, spec_l02Is_eq, Option.bind_some]
          rw [if_pos (by omega), if_pos (by omega), rdR_nat]
          unfold rumorF
          by_cases hf : factR (l.getD i z80).f0.f0 (l.getD i z80).f0.f1 (l.getD i z80).f0.f2 = true
          · rw [if_pos hf, hf, Bool.true_and]
          · rw [if_neg hf, Bool.not_eq_true] at *
            rw [hf, Bool.false_and]
            rfl
        refine Ev.step step ?_
        rw [rumorT, Bool.and_assoc]
        cases hr : rumorF (l.getD i z80) with
        | false =>
          refine Ev.step (f := fun _ => some false) (fun k => ?_) (Ev.now _)
          simp only [spec_RumorsRight.j1]
          rw [if_pos (by simp)]
        | true =>
          rw [Bool.true_and]
          refine Ev.step (fun k => ?_) hin
          simp only [spec_RumorsRight.j1]
          rw [if_neg (by simp)]
          rfl) (Ev.step (f := fun _ => some true) (fun k => by simp only [spec_RumorsRight.l0]; rw [if_neg (by omega)]) (Ev.now _)) l.length 0 (by omega)
    rw [Bool.and_true] at hh
    refine Ev.congr (fun k => ?_) hh
    simp only [spec_RumorsRight.f]; rw [if_neg (by omega)]; rfl
  · have : rumorsR l = false := by
      cases h : rumorsR l with
      | false => rfl
      | true => exact absurd (rumorsR_six h).2.2 h6
    rw [this]
    refine Ev.congr (f := fun _ => some false) (fun k => ?_) (Ev.now _)
    simp only [spec_RumorsRight.f]; rw [if_pos (by omega)]

theorem impl_within_eq (a b c : Int) : impl_within.f a b c = some (inR a b c) := by
  by_cases h : b ≤ a <;> simp [impl_within.f, inR, h]

theorem impl_isNode_eq (a : Int) : impl_isNode.f a = some (inR a 1 6) := by simp [impl_isNode.f, impl_within_eq]
theorem impl_isTime_eq (a : Int) : impl_isTime.f a = some (inR a 0 1000000) := by simp [impl_isTime.f, impl_within_eq]
theorem impl_FactRight_eq (a b c : Int) : impl_FactRight.f a b c = some (factR a b c) := by
  simp only [impl_FactRight.f, impl_isNode_eq, impl_isTime_eq, impl_within_eq, Option.bind_some, factR]
  cases inR a 1 6 <;> cases inR b 0 1000000 <;> simp

theorem slIndex_l0 (l : List Int) (n : Int) (hl : l.length ≤ 140737488355328) : ∀ d i : Nat, i + d = l.length → ∃ r : Int, Ev (fun k => slices_Index_int64_int64.l0 k l n (l.length : Int) (i : Int)) r ∧ (0 ≤ r ↔ (l.drop i).contains n = true)
  | 0, i, h => ⟨-1, Ev.step (f := fun _ => some (-1)) (fun k => by simp only [slices_Index_int64_int64.l0]; rw [if_neg (by omega)]) (Ev.now _), by rw [List.drop_of_length_le (by omega)]; simp⟩
  | d + 1, i, h => by
    have hw := wrap_succ (i := i) (n := l.length) (by omega) hl
    rw [drop_at l 0 (show i < l.length by omega), List.contains_cons]
    by_cases ho : n = l.getD i 0
    · refine ⟨(i : Int), Ev.step (f := fun k => some (i : Int)) (fun k => ?_) (Ev.now _), by rw [← ho]; simp⟩
      simp only [slices_Index_int64_int64.l0]
      rw [rd_nat, if_pos (by omega), if_pos (by omega), if_pos (by omega), if_pos ho]
    · obtain ⟨r, hr, hc⟩ := slIndex_l0 l n hl d (i + 1) (by omega)
      refine ⟨r, Ev.step (f := fun k => slices_Index_int64_int64.l0 k l n (l.length : Int) ((i + 1 : Nat) : Int)) (fun k => ?_) hr, by rw [beq_eq_false_iff_ne.2 ho, Bool.false_or]; exact hc⟩
      simp only [slices_Index_int64_int64.l0]
      rw [hw, rd_nat, if_pos (by omega), if_pos (by omega), if_pos (by omega), if_neg ho]
theorem slContains_ev (l : List Int) (n : Int) (hl : l.length ≤ 140737488355328) : Ev (fun k => slices_Contains_int64_int64.f k l n) (l.contains n) := by
  obtain ⟨r, hr, hc⟩ := slIndex_l0 l n hl l.length 0 (by omega)
  refine Ev.congr (fun k => rfl) (Ev.bind (g := fun k => slices_Index_int64_int64.f k l n) hr (f := fun _ t => some (decide (t ≥ 0))) ?_)
  rw [show decide (r ≥ 0) = l.contains n by rw [Bool.eq_iff_iff, decide_eq_true_iff]; exact hc]
  exact Ev.now _

theorem implRum_l0 (l : List S80) (hl : l.length ≤ 1048576) : ∀ d i : Nat, i + d = l.length → Ev (fun k => impl_RumorsRight.l0 k ((nodesOf l).take i) l (l.length : Int) (i : Int)) (allB (rumorT l) i d)
  | 0, i, h => Ev.step (f := fun _ => some true) (fun k => by simp only [impl_RumorsRight.l0]; rw [if_neg (by omega)]) (Ev.now _)
  | d + 1, i, h => by
    have hi : i < l.length := by omega
    have hn := nodesOf_length l
    have hb : Ev (fun k => slices_Contains_int64_int64.f k ((nodesOf l).take i) ((nodesOf l).getD i 0)) (((nodesOf l).take i).contains ((nodesOf l).getD i 0)) := slContains_ev _ _ (by simp; omega)
    have ih := implRum_l0 l hl d (i + 1) (by omega)
    have et : (nodesOf l).take (i + 1) = (nodesOf l).take i ++ [(nodesOf l).getD i 0] := by
      rw [List.take_add_one]
      simp [List.getD, show i < (nodesOf l).length by omega]
    rw [et] at ih
    rw [allB, rumorT, rumorF, Bool.and_assoc, Bool.and_assoc]
    refine Ev.step (f := fun k => if factR (l.getD i z80).f0.f0 (l.getD i z80).f0.f1 (l.getD i z80).f0.f2 = true then (if inR (l.getD i z80).f1 0 3 = true then (slices_Contains_int64_int64.f k ((nodesOf l).take i) ((nodesOf l).getD i 0)).bind fun t => (if t = true then some false else impl_RumorsRight.l0 k ((nodesOf l).take i ++ [(nodesOf l).getD i 0]) l (l.length : Int) ((i + 1 : Nat) : Int)) else some false) else some false) (fun k => ?_) ?_
    · simp only [impl_RumorsRight.l0, impl_FactRight_eq, impl_within_eq, Option.bind_some]
      rw [if_pos (by omega), if_pos (by omega), if_pos (by omega), rdR_nat, nodesOf_at l hi, wrap_succ hi (by omega)]
      simp only [if_pos (show ((nodesOf l).take i).length < 17592186044416 by simp; omega)]
    · by_cases hf : factR (l.getD i z80).f0.f0 (l.getD i z80).f0.f1 (l.getD i z80).f0.f2 = true
      · simp only [if_pos hf]
        rw [hf, Bool.true_and]
        by_cases hs : inR (l.getD i z80).f1 0 3 = true
        · simp only [if_pos hs]
          rw [hs, Bool.true_and]
          refine Ev.bind hb ?_
          cases ((nodesOf l).take i).contains ((nodesOf l).getD i 0) with
          | true => simpa using Ev.now false
          | false => simpa using ih
        · simp only [if_neg hs]
          rw [Bool.not_eq_true] at hs
          rw [hs, Bool.false_and]
          exact Ev.now _
      · simp only [if_neg hf]
        rw [Bool.not_eq_true] at hf
        rw [hf, Bool.false_and]
        exact Ev.now _
theorem implRumors_ev (l : List S80) (hl : l.length ≤ 1048576) : Ev (fun k => impl_RumorsRight.f k l) (rumorsR l) := by
  have := implRum_l0 l hl l.length 0 (by omega)
  rw [List.take_zero] at this
  exact this

/-- RumorPut. -/
def rumorPutS (l : List S80) (a b c : Int) : List S80 × List S30 × Int :=
  if 400 < l.length then ([], [], 2) else if (rumorsR l && factR a b c) = true then (l.filter (fun x => !impl_rumored.p a x) ++ [(⟨⟨a, b, c⟩, 0⟩ : S80)], [], 0) else ([], [], 1)
theorem rumorPutS_length (l : List S80) (a b c : Int) : (rumorPutS l a b c).1.length ≤ 401 ∧ (rumorPutS l a b c).2.1.length = 0 := by
  unfold rumorPutS
  repeat' split
  · simp
  · have := List.length_filter_le (fun x => !impl_rumored.p a x) l
    exact ⟨by simp only [List.length_append, List.length_singleton]; omega, rfl⟩
  · simp
theorem specPut_l0 (l : List S80) (a b c : Int) (hl : l.length ≤ 400) : ∀ (d i : Nat) (acc : List S80), i + d = l.length → acc.length ≤ i → Ev (fun k => spec_l06Put.l0 k l acc (i : Int) a b c) (acc ++ (l.drop i).filter (fun x => !impl_rumored.p a x) ++ [(⟨⟨a, b, c⟩, 0⟩ : S80)])
  | 0, i, acc, h, ha => by
    refine Ev.step (f := fun _ => some (acc ++ [(⟨⟨a, b, c⟩, 0⟩ : S80)])) (fun k => ?_) ?_
    · simp only [spec_l06Put.l0]; rw [if_neg (by omega), if_pos (by omega)]
    · rw [List.drop_of_length_le (by omega), List.filter_nil, List.append_nil]
      exact Ev.now _
  | d + 1, i, acc, h, ha => by
    have hi : i < l.length := by omega
    have hw : wrap64 ((i : Int) + 1) = ((i + 1 : Nat) : Int) := wrap_succ hi (by omega)
    rw [drop_at l z80 hi]
    by_cases hc : (l.getD i z80).f0.f0 = a
    · have hp : impl_rumored.p a (l.getD i z80) = true := by simp [impl_rumored.p, -List.getD_eq_getElem?_getD, hc]
      rw [List.filter_cons, hp]
      refine Ev.step (fun k => ?_) (specPut_l0 l a b c hl d (i + 1) acc (by omega) (by omega))
      simp only [spec_l06Put.l0]
      rw [if_pos (by omega), if_pos (by omega), rdR_nat, if_pos hc, hw]
    · have hp : impl_rumored.p a (l.getD i z80) = false := by simp [impl_rumored.p, -List.getD_eq_getElem?_getD, hc]
      rw [List.filter_cons, hp]
      have := specPut_l0 l a b c hl d (i + 1) (acc ++ [l.getD i z80]) (by omega) (by rw [List.length_append, List.length_singleton]; omega)
      rw [List.append_assoc acc] at this
      refine Ev.step (fun k => ?_) this
      simp only [spec_l06Put.l0]
      rw [if_pos (by omega), if_pos (by omega), rdR_nat, if_neg hc, if_pos (by omega), hw]
theorem specRumorPut_ev (l : List S80) (a b c : Int) : Ev (fun k => spec_RumorPut.f k l a b c) (rumorPutS l a b c) := by
  unfold rumorPutS
  by_cases h4 : 400 < l.length
  · rw [if_pos h4]
    refine Ev.congr (f := fun _ => some _) (fun k => ?_) (Ev.now _)
    simp only [spec_RumorPut.f]; rw [if_pos (by omega)]
  · rw [if_neg h4]
    refine Ev.congr (fun k => by simp only [spec_RumorPut.f]; rw [if_neg (by omega)]) (Ev.bind (specRumors_ev l) ?_)
    cases hq : rumorsR l with
    | false => simp only [Bool.false_and, Bool.false_eq_true, if_false]; exact Ev.now _
    | true =>
      simp only [Bool.true_and, if_true, spec_FactRight_eq, Option.bind_some]
      cases hf : factR a b c with
      | false => simp only [Bool.false_eq_true, if_false]; exact Ev.now _
      | true =>
        simp only [if_true]
        have := specPut_l0 l a b c (by omega) l.length 0 [] (by omega) (by simp)
        rw [List.nil_append, List.drop_zero] at this
        exact Ev.bind (Ev.congr (fun k => rfl) this) (Ev.now _)
theorem implRumorPut_ev (l : List S80) (a b c : Int) (hl : l.length ≤ 1048576) : Ev (fun k => impl_RumorPut.f k l a b c) (rumorPutS l a b c) := by
  unfold rumorPutS
  by_cases h4 : 400 < l.length
  · rw [if_pos h4]
    refine Ev.congr (f := fun _ => some _) (fun k => ?_) (Ev.now _)
    simp only [impl_RumorPut.f, impl_Rumor_90.f, Option.bind_some]; rw [if_pos (by simp; omega)]
  · rw [if_neg h4]
    refine Ev.congr (fun k => by simp only [impl_RumorPut.f, impl_Rumor_90.f, Option.bind_some]; rw [if_neg (by simp; omega)]) (Ev.bind (implRumors_ev l hl) ?_)
    cases hq : rumorsR l with
    | false => simp only [Bool.false_and, Bool.false_eq_true, if_false]; exact Ev.now _
    | true =>
      simp only [Bool.true_and, if_true, impl_FactRight_eq, Option.bind_some]
      cases hf : factR a b c with
      | false => simp only [Bool.false_eq_true, if_false]; exact Ev.now _
      | true =>
        simp only [if_true, impl_rumored.f, impl_Rumor_101.f]
        rw [if_pos (by omega), if_pos (by omega)]
        exact Ev.now _

theorem rumTail (l : List S93) (a b c : Int) (hl : l.length ≤ 1048576) (T : List S80 × List S30 × Int) (hT : T = rumorPutS (l.map toR) a b c) : Ev (fun k => laws_FnExactRumorPut.j0 k l false a b c T.1 T.2.1 T.2.2 T.1 T.2.1 T.2.2) true := by
  have h4 : T.1.length ≤ 401 ∧ T.2.1.length = 0 := hT ▸ rumorPutS_length _ _ _ _
  refine Ev.step (fun k => by simp only [laws_FnExactRumorPut.j0, Bool.false_eq_true, if_false]; rfl) ?_
  refine Ev.bind (markRumorOut_ev T.1 T.2.1 T.2.2 (by omega) (by omega)) (Ev.bind (heldRumorOut_ev T.1.length T.2.1.length T.2.2 (by omega) (by omega)) ?_)
  simp only [if_neg (show ¬ (1 + 4 * (T.1.length : Int) + 3 * (T.2.1.length : Int)) < 0 by omega), if_true, laws_toFact.f, Option.bind_some]
  refine Ev.bind (toRumorS_ev l hl) (Ev.bind (implRumorPut_ev _ a b c (by simpa using hl)) ?_)
  rw [← hT]
  refine Ev.bind (eqRumorOut_refl T.1 T.2.1 T.2.2 (by omega) (by omega)) ?_
  simp only [if_true]
  refine Ev.bind (heldRumorOut_ev T.1.length T.2.1.length T.2.2 (by omega) (by omega)) ?_
  simp only [if_neg (show ¬ (1 + 4 * (T.1.length : Int) + 3 * (T.2.1.length : Int)) < 0 by omega), if_true]
  exact Ev.now _
theorem FnExactRumorPut : laws_FnExactRumorPut.Goal := by
  intro l a b c hm _ _ _ _
  by_cases hb : 1048576 < l.length
  · refine Ev.rounds (Ev.congr (f := fun _ => some true) (fun k => ?_) (Ev.now _))
    simp only [laws_FnExactRumorPut.f, szRumorS_eq l (by omega), Option.bind_some]
    rw [if_pos hb, if_pos (by omega)]
  · have hl : l.length ≤ 1048576 := by omega
    have h4 := rumorPutS_length (l.map toR) a b c
    refine Ev.rounds (Ev.congr (fun k => by simp only [laws_FnExactRumorPut.f, szRumorS_eq l (by omega), Option.bind_some, laws_toFact.f]; rw [if_neg hb, if_neg (by omega)]) ?_)
    refine Ev.bind (toRumorS_ev l hl) (Ev.bind (specRumorPut_ev _ a b c) (Ev.bind (toRumorS_ev l hl) (Ev.bind (implRumorPut_ev _ a b c (by simpa using hl)) (Ev.bind (eqRumorOut_refl _ _ _ (by omega) (by omega)) ?_))))
    simp only [if_true]
    refine Ev.bind (toRumorS_ev l hl) (Ev.bind (eqRumors_refl _ (by simp; omega)) ?_)
    simp only [if_true]
    refine Ev.bind (markRumors_ev (l.map toR) 1 (by omega) (by simp; omega)) ?_
    simp only [if_neg (show ¬ (1 + 4 * ((l.map toR).length : Int)) < 0 by omega)]
    refine Ev.bind (eqRumorOut_refl _ _ _ (by omega) (by omega)) ?_
    exact rumTail l a b c hl _ rfl

end Go.Proofs.Ytffjlefjegcgaaa.Pure
