/- The plain law of FnExactRumorPick: what the Lean functions of the printed texts answer. -/
import Derived.Test.YthgofcgkmdbcdaaGFnExactRumorPick
import Derived.Test.YthgofcgkmdbcdaaXFnExactRumorPick
namespace Go.Proofs.Ythgofcgkmdbcdaa.Pure
open Go.RowKit Go.Proofs.Ythgofcgkmdbcdaa.PFnExactRumorPick Go.Proofs.YthgofcgkmdbcdaaW.PrintWords Go.Proofs.YthgofcgkmdbcdaaW.PrintLast Go.Proofs.YthgofcgkmdbcdaaW.PrintMore Go.Proofs.YthgofcgkmdbcdaaH
set_option linter.unusedVariables false
set_option linter.unusedSimpArgs false

/-- A rumor, as the program has it. -/
def toR (x : S103) : S100 := ⟨⟨x.f0.f0, x.f0.f1, x.f0.f2⟩, x.f1⟩
theorem szRumorS_eq (l : List S103) (hl : (l.length : Int) ≤ 9223372036854775807) : laws_szRumorS.f l 1048576 = some (if 1048576 < l.length then -1 else 1048576 - (l.length : Int)) := by
  unfold laws_szRumorS.f
  rw [wrap_id (by omega) (by omega)]
  split <;> split <;> first | rfl | omega
theorem toRumorS_ev (l : List S103) (hl : l.length ≤ 1048576) : Ev (fun k => laws_toRumorS.f k l) (l.map toR) := by
  have h := fillLoop l.length (fun i => toR (l.getD i z103)) (fun k ys i => laws_toRumorS.l0 k l ys i) (fun k i ys hi hy => by
      simp only [laws_toRumorS.l0, laws_toRumor.f, laws_toFact.f, Option.bind_some]
      rw [if_pos (by omega), if_pos (by omega), if_pos (by omega), wrap_succ hi (by omega)]
      simp [rd_T103, toR]) (fun k ys hy => by
      simp only [laws_toRumorS.l0]
      rw [if_neg (by omega)]) l.length 0 (List.replicate l.length z100) (by omega) (by simp)
  rw [map_range] at h
  refine Ev.congr (fun k => ?_) (by simpa using h)
  simp only [laws_toRumorS.f]
  rw [if_pos (by omega), if_pos (by omega)]
  simp

theorem eqFact_eq' (a b c a' b' c' : Int) : laws_eqFact.f a b c a' b' c' = some (decide (a = a') && (decide (b = b') && decide (c = c'))) := by
  unfold laws_eqFact.f
  repeat' split
  all_goals simp [*]
theorem eqRumor_eq (a b c d a' b' c' d' : Int) : laws_eqRumor.f a b c d a' b' c' d' = some ((decide (a = a') && (decide (b = b') && decide (c = c'))) && decide (d = d')) := by
  simp only [laws_eqRumor.f, eqFact_eq', Option.bind_some]
  by_cases h : (decide (a = a') && (decide (b = b') && decide (c = c'))) = true
  · rw [if_pos h, h, Bool.true_and]
    split <;> simp [*]
  · rw [if_neg h]
    rw [Bool.not_eq_true] at h
    rw [h, Bool.false_and]
theorem rumor_ext (x y : S100) : ((decide (x.f0.f0 = y.f0.f0) && (decide (x.f0.f1 = y.f0.f1) && decide (x.f0.f2 = y.f0.f2))) && decide (x.f1 = y.f1)) = true ↔ x = y := by
  obtain ⟨⟨a, b, c⟩, d⟩ := x
  obtain ⟨⟨a', b', c'⟩, d'⟩ := y
  simp [and_assoc]
theorem eqRumorS_ev (l m : List S100) (hl : l.length ≤ 140737488355328) : ∃ b : Bool, (b = true ↔ l = m) ∧ Ev (fun k => laws_eqRumorS.f k l m) b := by
  by_cases h : m.length = l.length
  · have hh := allLoop l.length (fun i => ((decide ((l.getD i z100).f0.f0 = (m.getD i z100).f0.f0) && (decide ((l.getD i z100).f0.f1 = (m.getD i z100).f0.f1) && decide ((l.getD i z100).f0.f2 = (m.getD i z100).f0.f2))) && decide ((l.getD i z100).f1 = (m.getD i z100).f1))) true (fun k i => laws_eqRumorS.l0 k l m i) (fun k i hi => by
        simp only [laws_eqRumorS.l0, eqRumor_eq, Option.bind_some, rd_T100]
        rw [if_pos (by omega), if_pos (by omega), if_pos (by omega), wrap_succ hi hl]
        simp only [Int.toNat_natCast]) (fun k => by
        simp only [laws_eqRumorS.l0]
        rw [if_neg (by omega)]) l.length 0 (by omega)
    refine ⟨_, ?_, Ev.congr (fun k => ?_) hh⟩
    · rw [Bool.and_true, allB_iff]
      constructor
      · intro hj
        apply List.ext_getElem h.symm
        intro i h1 h2
        have := (rumor_ext _ _).1 (hj i (by omega) (by omega))
        simpa [List.getD, h1, h2] using this
      · rintro rfl j _ _
        simp
    · simp only [laws_eqRumorS.f]; rw [if_pos (by omega)]; rfl
  · refine ⟨false, ⟨fun h => by simp at h, fun e => by rw [e] at h; exact absurd rfl h⟩, Ev.congr (f := fun k => some false) (fun k => ?_) (Ev.now _)⟩
    simp only [laws_eqRumorS.f]; rw [if_neg (by omega)]

theorem eqFact_eq (a b c a' b' c' : Int) : laws_eqFact.f a b c a' b' c' = some (decide (a = a') && (decide (b = b') && decide (c = c'))) := by
  unfold laws_eqFact.f
  repeat' split
  all_goals simp [*]
theorem fact_ext (x y : S54) : (decide (x.f0 = y.f0) && (decide (x.f1 = y.f1) && decide (x.f2 = y.f2))) = true ↔ x = y := by
  cases x; cases y; simp
theorem eqFactS_ev (l m : List S54) (hl : l.length ≤ 140737488355328) : ∃ b : Bool, (b = true ↔ l = m) ∧ Ev (fun k => laws_eqFactS.f k l m) b := by
  by_cases h : m.length = l.length
  · have hh := allLoop l.length (fun i => (decide ((l.getD i z54).f0 = (m.getD i z54).f0) && (decide ((l.getD i z54).f1 = (m.getD i z54).f1) && decide ((l.getD i z54).f2 = (m.getD i z54).f2)))) true (fun k i => laws_eqFactS.l0 k l m i) (fun k i hi => by
        simp only [laws_eqFactS.l0, eqFact_eq, Option.bind_some, rd_T54]
        rw [if_pos (by omega), if_pos (by omega), if_pos (by omega), wrap_succ hi hl]
        simp only [Int.toNat_natCast]) (fun k => by
        simp only [laws_eqFactS.l0]
        rw [if_neg (by omega)]) l.length 0 (by omega)
    refine ⟨_, ?_, Ev.congr (fun k => ?_) hh⟩
    · rw [Bool.and_true, allB_iff]
      constructor
      · intro hj
        apply List.ext_getElem h.symm
        intro i h1 h2
        have := (fact_ext _ _).1 (hj i (by omega) (by omega))
        simpa [List.getD, h1, h2] using this
      · rintro rfl j _ _
        simp
    · simp only [laws_eqFactS.f]; rw [if_pos (by omega)]; rfl
  · refine ⟨false, ⟨fun h => by simp at h, fun e => by rw [e] at h; exact absurd rfl h⟩, Ev.congr (f := fun k => some false) (fun k => ?_) (Ev.now _)⟩
    simp only [laws_eqFactS.f]; rw [if_neg (by omega)]

/-- The nodes of rumors. -/
def nodesOf (l : List S100) : List Int := l.map (fun x => x.f0.f0)
theorem nodesOf_length (l : List S100) : (nodesOf l).length = l.length := by simp [nodesOf]
theorem nodesOf_at (l : List S100) {i : Nat} (h : i < l.length) : (nodesOf l).getD i 0 = (l.getD i z100).f0.f0 := by simp [nodesOf, List.getD, h]
theorem rdR_nat (l : List S100) (i : Nat) : rd_T100 l (i : Int) = l.getD i z100 := by simp [rd_T100]
/-- Fact and count of a rumor. -/
def rumorF (x : S100) : Bool := factR x.f0.f0 x.f0.f1 x.f0.f2 && inR x.f1 0 3
def rumorT (l : List S100) (i : Nat) : Bool := rumorF (l.getD i z100) && !((nodesOf l).take i).contains ((nodesOf l).getD i 0)
/-- Are rumors right? -/
def rumorsR (l : List S100) : Bool := allB (rumorT l) 0 l.length
theorem factR_iff' {a b c : Int} : factR a b c = true ↔ (1 ≤ a ∧ a ≤ 6) ∧ (0 ≤ b ∧ b ≤ 1000000) ∧ (1 ≤ c ∧ c ≤ 3) := by
  simp only [factR, Bool.and_eq_true, inR_iff]
theorem rumorsR_six {l : List S100} (h : rumorsR l = true) : (∀ x ∈ l, rumorF x = true) ∧ (nodesOf l).Nodup ∧ l.length ≤ 6 := by
  have key : ∀ j, j < l.length → rumorF (l.getD j z100) = true ∧ ((nodesOf l).take j).contains ((nodesOf l).getD j 0) = false := by
    intro j hj
    have := (allB_iff _ _ _).1 h j (by omega) (by omega)
    rw [rumorT, Bool.and_eq_true, Bool.not_eq_true'] at this
    exact this
  have h1 : ∀ x ∈ l, rumorF x = true := by
    intro x hx
    obtain ⟨j, hj, rfl⟩ := List.getElem_of_mem hx
    have := (key j hj).1
    simpa [List.getD, hj] using this
  have h2 := nodup_of_all (nodesOf l) (fun j hj => (key j (by rw [nodesOf_length] at hj; exact hj)).2)
  have h3 := apart_six (nodesOf l) (fun x hx => by
    obtain ⟨y, hy, rfl⟩ := List.mem_map.1 hx
    have := h1 y hy
    rw [rumorF, Bool.and_eq_true, factR_iff'] at this
    exact this.1.1) h2
  rw [nodesOf_length] at h3
  exact ⟨h1, h2, h3⟩

/-- A rumor's marks. -/
def markR (a : Int) : S100 := ⟨⟨a, a + 1, a + 2⟩, a + 3⟩
theorem markRumors_ev (l : List S100) (a : Int) (ha : 0 ≤ a) (hb : a + 4 * l.length ≤ 4611686018427387904) : Ev (fun k => laws_markRumorS.f k l a) (a + 4 * l.length, marks markR 4 a l.length) := by
  have h := markLoop l.length markR 4 (by omega) (fun k ys a i => laws_markRumorS.l0 k ys a i) (fun k i a ys hi hy h0 h1 => by
      simp only [laws_markRumorS.l0, Option.bind_some]
      rw [if_pos (by omega), if_pos (by omega), wrap_id (x := a + 1) (by omega) (by omega), wrap_id (x := a + 1 + 1) (by omega) (by omega), wrap_id (x := a + 1 + 1 + 1) (by omega) (by omega), wrap_id (x := a + 1 + 1 + 1 + 1) (by omega) (by omega), wrap_id (x := (i : Int) + 1) (by omega) (by omega)]
      simp only [rdR_nat, Int.toNat_natCast, List.set_set, getD_set_self _ _ _ i (show i < ys.length by omega)]
      rw [show a + 1 + 1 = a + 2 by omega, show a + 2 + 1 = a + 3 by omega, show a + 3 + 1 = a + 4 by omega]
      rfl) (fun k a ys hy => by
      simp only [laws_markRumorS.l0]
      rw [if_neg (by omega)]) l.length 0 a l (by omega) rfl ha (by omega)
  simpa [laws_markRumorS.f] using h
theorem heldRumors_ev (n : Nat) (a : Int) (ha : 0 ≤ a) (hb : a + 4 * n ≤ 4611686018427387904) : Ev (fun k => laws_heldRumorS.f k (marks markR 4 a n) a) (a + 4 * n) := by
  have hl := marks_length markR 4 n a
  have h := heldLoop n 4 (by omega) a ha (by omega) (fun k x i => laws_heldRumorS.l0 k (marks markR 4 a n) x i) (fun k i hi h1 h2 => by
      have em : (marks markR 4 a n).getD i z100 = markR (a + 4 * i) := marks_at _ _ _ n i a hi
      simp only [laws_heldRumorS.l0]
      rw [if_pos (by omega), if_pos (by omega), rdR_nat, em, if_pos (show (markR (a + 4 * (i : Int))).f0.f0 = a + 4 * (i : Int) from rfl), wrap_id (x := a + 4 * (i : Int) + 1) (by omega) (by omega), if_pos (show (markR (a + 4 * (i : Int))).f0.f1 = a + 4 * (i : Int) + 1 from rfl), wrap_id (x := a + 4 * (i : Int) + 1 + 1) (by omega) (by omega), if_pos (show (markR (a + 4 * (i : Int))).f0.f2 = a + 4 * (i : Int) + 1 + 1 by simp only [markR]; omega), wrap_id (x := a + 4 * (i : Int) + 1 + 1 + 1) (by omega) (by omega), if_pos (show (markR (a + 4 * (i : Int))).f1 = a + 4 * (i : Int) + 1 + 1 + 1 by simp only [markR]; omega), wrap_id (x := a + 4 * (i : Int) + 1 + 1 + 1 + 1) (by omega) (by omega), wrap_id (x := (i : Int) + 1) (by omega) (by omega)]
      rw [show a + 4 * (i : Int) + 1 + 1 + 1 + 1 = a + 4 * i + 4 by omega]
      rfl) (fun k x => by
      simp only [laws_heldRumorS.l0]
      rw [if_neg (by omega)]) n 0 (by omega)
  simpa [laws_heldRumorS.f] using h

/-- Is the fact at place i one that may stand there? -/
def viewT (l : List S54) (i : Nat) : Bool := factR (l.getD i z54).f0 (l.getD i z54).f1 (l.getD i z54).f2 && (decide (i = 0) || decide ((l.getD (i - 1) z54).f0 < (l.getD i z54).f0))
/-- Is a view right? -/
def viewR (l : List S54) : Bool := allB (viewT l) 0 l.length
theorem factR_iff {a b c : Int} : factR a b c = true ↔ (1 ≤ a ∧ a ≤ 6) ∧ (0 ≤ b ∧ b ≤ 1000000) ∧ (1 ≤ c ∧ c ≤ 3) := by
  simp only [factR, Bool.and_eq_true, inR_iff]
theorem rdF_nat (l : List S54) (i : Nat) : rd_T54 l (i : Int) = l.getD i z54 := by simp [rd_T54]
theorem viewT_iff {l : List S54} {i : Nat} : viewT l i = true ↔ factR (l.getD i z54).f0 (l.getD i z54).f1 (l.getD i z54).f2 = true ∧ (i = 0 ∨ (l.getD (i - 1) z54).f0 < (l.getD i z54).f0) := by
  simp only [viewT, Bool.and_eq_true, Bool.or_eq_true, decide_eq_true_eq]
theorem viewR_six {l : List S54} (h : viewR l = true) : l.length ≤ 6 := by
  refine rising_six (fun j => (l.getD j z54).f0) l.length (fun j hj => ?_)
  have := (allB_iff _ _ _).1 h j (by omega) (by omega)
  simp only [viewT, Bool.and_eq_true, Bool.or_eq_true, decide_eq_true_eq, factR_iff] at this
  obtain ⟨⟨⟨h1, h2⟩, _⟩, h3⟩ := this
  exact ⟨h1, h2, fun h0 => by rcases h3 with h3 | h3; omega; exact h3⟩

/-- A fact's marks. -/
def markF (a : Int) : S54 := ⟨a, a + 1, a + 2⟩
theorem markFacts_ev (l : List S54) (a : Int) (ha : 0 ≤ a) (hb : a + 3 * l.length ≤ 4611686018427387904) : Ev (fun k => laws_markFactS.f k l a) (a + 3 * l.length, marks markF 3 a l.length) := by
  have h := markLoop l.length markF 3 (by omega) (fun k ys a i => laws_markFactS.l0 k ys a i) (fun k i a ys hi hy h0 h1 => by
      simp only [laws_markFactS.l0, Option.bind_some]
      rw [if_pos (by omega), if_pos (by omega), wrap_id (x := a + 1) (by omega) (by omega), wrap_id (x := a + 1 + 1) (by omega) (by omega), wrap_id (x := a + 1 + 1 + 1) (by omega) (by omega), wrap_id (x := (i : Int) + 1) (by omega) (by omega)]
      simp only [rdF_nat, Int.toNat_natCast, List.set_set, getD_set_self _ _ _ i (show i < ys.length by omega)]
      rw [show a + 1 + 1 = a + 2 by omega, show a + 2 + 1 = a + 3 by omega]
      rfl) (fun k a ys hy => by
      simp only [laws_markFactS.l0]
      rw [if_neg (by omega)]) l.length 0 a l (by omega) rfl ha (by omega)
  simpa [laws_markFactS.f] using h

theorem heldFacts_ev (n : Nat) (a : Int) (ha : 0 ≤ a) (hb : a + 3 * n ≤ 4611686018427387904) : Ev (fun k => laws_heldFactS.f k (marks markF 3 a n) a) (a + 3 * n) := by
  have hl := marks_length markF 3 n a
  have h := heldLoop n 3 (by omega) a ha (by omega) (fun k x i => laws_heldFactS.l0 k (marks markF 3 a n) x i) (fun k i hi h1 h2 => by
      have em : (marks markF 3 a n).getD i z54 = markF (a + 3 * i) := marks_at _ _ _ n i a hi
      simp only [laws_heldFactS.l0]
      rw [if_pos (by omega), if_pos (by omega), rdF_nat, em, if_pos (show (markF (a + 3 * (i : Int))).f0 = a + 3 * (i : Int) from rfl), wrap_id (x := a + 3 * (i : Int) + 1) (by omega) (by omega), if_pos (show (markF (a + 3 * (i : Int))).f1 = a + 3 * (i : Int) + 1 from rfl), wrap_id (x := a + 3 * (i : Int) + 1 + 1) (by omega) (by omega), if_pos (show (markF (a + 3 * (i : Int))).f2 = a + 3 * (i : Int) + 1 + 1 by simp only [markF]; omega), wrap_id (x := a + 3 * (i : Int) + 1 + 1 + 1) (by omega) (by omega), wrap_id (x := (i : Int) + 1) (by omega) (by omega)]
      rw [show a + 3 * (i : Int) + 1 + 1 + 1 = a + 3 * i + 3 by omega]
      rfl) (fun k x => by
      simp only [laws_heldFactS.l0]
      rw [if_neg (by omega)]) n 0 (by omega)
  simpa [laws_heldFactS.f] using h

theorem eqRumors_refl (l : List S100) (hl : l.length ≤ 140737488355328) : Ev (fun k => laws_eqRumorS.f k l l) true := by
  obtain ⟨b, hb1, hb2⟩ := eqRumorS_ev l l hl
  rw [hb1.2 rfl] at hb2
  exact hb2
theorem eqFacts_refl (l : List S54) (hl : l.length ≤ 140737488355328) : Ev (fun k => laws_eqFactS.f k l l) true := by
  obtain ⟨b, hb1, hb2⟩ := eqFactS_ev l l hl
  rw [hb1.2 rfl] at hb2
  exact hb2
theorem eqRumorOut_refl (l : List S100) (m : List S54) (c : Int) (hl : l.length ≤ 140737488355328) (hm : m.length ≤ 140737488355328) : Ev (fun k => laws_eqRumorOut.f k l m c l m c) true := by
  refine Ev.bind (eqRumors_refl l hl) ?_
  simp only [if_true]
  refine Ev.bind (eqFacts_refl m hm) ?_
  simp only [if_true]
  exact Ev.now _
theorem markRumorOut_ev (l : List S100) (m : List S54) (c : Int) (hl : l.length ≤ 140737488355328) (hm : m.length ≤ 140737488355328) : Ev (fun k => laws_markRumorOut.f k l m c 1) (1 + 4 * (l.length : Int) + 3 * (m.length : Int), marks markR 4 1 l.length, marks markF 3 (1 + 4 * (l.length : Int)) m.length) :=
  Ev.bind (markRumors_ev l 1 (by omega) (by omega)) (Ev.bind (markFacts_ev m _ (by omega) (by omega)) (Ev.now _))
theorem heldRumorOut_ev (n m : Nat) (c : Int) (hl : n ≤ 140737488355328) (hm : m ≤ 140737488355328) : Ev (fun k => laws_heldRumorOut.f k (marks markR 4 1 n) (marks markF 3 (1 + 4 * (n : Int)) m) c 1) (1 + 4 * (n : Int) + 3 * (m : Int)) := by
  refine Ev.bind (heldRumors_ev n 1 (by omega) (by omega)) ?_
  refine evElse (by omega) (Ev.bind (heldFacts_ev m _ (by omega) (by omega)) ?_)
  rw [if_neg (by omega)]
  exact Ev.now _

/-- A fact put to a view: the view, and whether that is news. -/
def putV : List S54 → Int → Int → Int → List S54 × Bool
  | [], a, b, c => ([⟨a, b, c⟩], true)
  | y :: B, a, b, c => if y.f0 < a then (y :: (putV B a b c).1, (putV B a b c).2) else if y.f0 = a then (if lessF y.f1 y.f2 b c = true then (⟨a, b, c⟩ :: B, true) else (y :: B, false)) else (⟨a, b, c⟩ :: y :: B, true)
theorem putV_length : ∀ (v : List S54) (a b c : Int), (putV v a b c).1.length ≤ v.length + 1
  | [], a, b, c => by simp [putV]
  | y :: B, a, b, c => by
    have := putV_length B a b c
    rw [putV]
    repeat' split
    all_goals simp only [List.length_cons]
    all_goals omega
theorem putV_at : ∀ (v : List S54) (a b c : Int) (m : Nat), m ≤ v.length → (∀ j, j < m → (v.getD j z54).f0 < a) → (m < v.length → ¬ (v.getD m z54).f0 < a) →
    putV v a b c = if m < v.length ∧ (v.getD m z54).f0 = a then (if lessF (v.getD m z54).f1 (v.getD m z54).f2 b c = true then (v.take m ++ [⟨a, b, c⟩] ++ v.drop (m + 1), true) else (v, false)) else (v.take m ++ [⟨a, b, c⟩] ++ v.drop m, true)
  | [], a, b, c, m, h, _, _ => by
    simp only [List.length_nil, Nat.le_zero] at h
    subst h
    simp [putV]
  | y :: B, a, b, c, 0, h, h1, h2 => by
    have h3 := h2 (by simp)
    simp only [List.getD_cons_zero] at h3 ⊢
    rw [putV, if_neg h3]
    by_cases e : y.f0 = a
    · rw [if_pos e, if_pos (show 0 < (y :: B).length ∧ y.f0 = a from ⟨by simp, e⟩)]
      split <;> simp
    · rw [if_neg e, if_neg (show ¬ (0 < (y :: B).length ∧ y.f0 = a) from fun z => e z.2)]
      simp
  | y :: B, a, b, c, m + 1, h, h1, h2 => by
    have h0 := h1 0 (by omega)
    simp only [List.getD_cons_zero] at h0
    have ih := putV_at B a b c m (by simpa using h) (fun j hj => by have := h1 (j + 1) (by omega); rwa [List.getD_cons_succ] at this) (fun hm => by have := h2 (by simpa using hm); rwa [List.getD_cons_succ] at this)
    rw [putV, if_pos h0, ih]
    simp only [List.getD_cons_succ, List.length_cons, Nat.add_lt_add_iff_right]
    repeat' split
    all_goals simp
/-- A right view: its facts are right, and rise. -/
theorem viewR_pw {v : List S54} : viewR v = true ↔ (∀ x ∈ v, factR x.f0 x.f1 x.f2 = true) ∧ v.Pairwise (fun x y => x.f0 < y.f0) := by
  rw [viewR, allB_iff]
  constructor
  · intro h
    have hs : ∀ b a : Nat, a < b → b < v.length → (v.getD a z54).f0 < (v.getD b z54).f0 := by
      intro b
      induction b with
      | zero => intro a h1; omega
      | succ b ih =>
        intro a h1 h2
        have h3 := (viewT_iff.1 (h (b + 1) (by omega) (by omega))).2
        rw [Nat.add_sub_cancel] at h3
        rcases h3 with h3 | h3
        · omega
        · rcases Nat.lt_or_ge a b with h4 | h4
          · have := ih a h4 (by omega); omega
          · have : a = b := by omega
            subst this; exact h3
    refine ⟨fun x hx => ?_, ?_⟩
    · obtain ⟨j, hj, rfl⟩ := List.getElem_of_mem hx
      have := (viewT_iff.1 (h j (by omega) (by omega))).1
      simpa only [List.getD, List.getElem?_eq_getElem hj, Option.getD_some] using this
    · rw [List.pairwise_iff_getElem]
      intro i j hi hj hij
      have := hs j i hij hj
      simpa only [List.getD, List.getElem?_eq_getElem hi, List.getElem?_eq_getElem hj, Option.getD_some] using this
  · rintro ⟨h1, h2⟩ j _ hj
    have hj : j < v.length := by omega
    rw [viewT_iff]
    refine ⟨?_, ?_⟩
    · have := h1 v[j] (List.getElem_mem hj)
      simpa only [List.getD, List.getElem?_eq_getElem hj, Option.getD_some] using this
    · rcases Nat.eq_zero_or_pos j with h | h
      · exact .inl h
      · have := List.pairwise_iff_getElem.1 h2 (j - 1) j (by omega) hj (by omega)
        right
        simpa only [List.getD, List.getElem?_eq_getElem hj, List.getElem?_eq_getElem (show j - 1 < v.length by omega), Option.getD_some] using this
theorem putV_mem : ∀ (v : List S54) (a b c : Int) (x : S54), x ∈ (putV v a b c).1 → x ∈ v ∨ x = ⟨a, b, c⟩
  | [], a, b, c, x, h => by simp [putV] at h; exact .inr h
  | y :: B, a, b, c, x, h => by
    rw [putV] at h
    split at h
    · simp only [List.mem_cons] at h
      rcases h with rfl | h
      · exact .inl (by simp)
      · rcases putV_mem B a b c x h with h | h
        · exact .inl (by simp [h])
        · exact .inr h
    · split at h
      · split at h
        · simp only [List.mem_cons] at h
          rcases h with rfl | h
          · exact .inr rfl
          · exact .inl (by simp [h])
        · exact .inl h
      · simp only [List.mem_cons] at h
        rcases h with rfl | h
        · exact .inr rfl
        · exact .inl (by simpa using h)
theorem putV_pw : ∀ (v : List S54) (a b c : Int), v.Pairwise (fun x y => x.f0 < y.f0) → (putV v a b c).1.Pairwise (fun x y => x.f0 < y.f0)
  | [], a, b, c, h => by simp [putV]
  | y :: B, a, b, c, h => by
    rw [List.pairwise_cons] at h
    rw [putV]
    split
    · rename_i h1
      rw [List.pairwise_cons]
      refine ⟨fun x hx => ?_, putV_pw B a b c h.2⟩
      rcases putV_mem B a b c x hx with h3 | rfl
      · exact h.1 x h3
      · exact h1
    · rename_i h1
      split
      · rename_i h2
        split
        · rw [List.pairwise_cons]
          exact ⟨fun x hx => by have := h.1 x hx; show a < x.f0; omega, h.2⟩
        · rw [List.pairwise_cons]; exact h
      · rename_i h2
        rw [List.pairwise_cons]
        refine ⟨fun x hx => ?_, List.pairwise_cons.2 h⟩
        simp only [List.mem_cons] at hx
        rcases hx with rfl | hx
        · show a < x.f0; omega
        · have := h.1 x hx; show a < x.f0; omega
theorem putV_right {v : List S54} {a b c : Int} (h : viewR v = true) (hf : factR a b c = true) : viewR (putV v a b c).1 = true := by
  rw [viewR_pw] at h ⊢
  refine ⟨fun x hx => ?_, putV_pw v a b c h.2⟩
  rcases putV_mem v a b c x hx with h3 | rfl
  · exact h.1 x h3
  · exact hf

theorem spec_l02Is_eq (a b c : Int) : spec_l02Is.f a b c = some (inR a b c) := by
  by_cases h : b ≤ a <;> simp [spec_l02Is.f, inR, h]

theorem spec_l04Node_eq (a : Int) : spec_l04Node.f a = some (inR a 1 6) := by simp [spec_l04Node.f, spec_l02Is_eq]
theorem spec_l03Time_eq (a : Int) : spec_l03Time.f a = some (inR a 0 1000000) := by simp [spec_l03Time.f, spec_l02Is_eq]
theorem spec_FactRight_eq (a b c : Int) : spec_FactRight.f a b c = some (factR a b c) := by
  simp only [spec_FactRight.f, spec_l04Node_eq, spec_l03Time_eq, spec_l02Is_eq, Option.bind_some, factR]
  cases inR a 1 6 <;> cases inR b 0 1000000 <;> simp

theorem spec_l04Less_eq (n i s n' i' s' : Int) : spec_l04Less.f n i s n' i' s' = some (lessF i s i' s') := by
  unfold spec_l04Less.f lessF
  repeat' split
  all_goals simp [*]

theorem spec_l04Join_eq (n i s n' i' s' : Int) : spec_l04Join.f n i s n' i' s' = some (if lessF i s i' s' = true then (n', i', s') else (n, i, s)) := by
  simp only [spec_l04Join.f, spec_l04Less_eq, Option.bind_some, ite_some]

theorem news_of (i s i' s' : Int) (h : lessF i s i' s' = true) : ¬ (i' = i ∧ s' = s) := by
  rintro ⟨rfl, rfl⟩
  simp [lessF] at h
/-- What is answered at place m. -/
def putFin (v : List S54) (a b c : Int) (m : Nat) : List S54 × Bool × Int :=
  if m < v.length ∧ (v.getD m z54).f0 = a then (if lessF (v.getD m z54).f1 (v.getD m z54).f2 b c = true then (v.take m ++ [⟨a, b, c⟩] ++ v.drop (m + 1), true, 0) else (v, false, 0)) else (v.take m ++ [⟨a, b, c⟩] ++ v.drop m, true, 0)
theorem specPutV_end (v : List S54) (a b c : Int) (hl : v.length ≤ 1048576) (k : Nat) : spec_l04Put.l0 (k + 1) v (v.length : Int) a b c = some (putFin v a b c v.length) := by
  have e1 : (v.take v.length).length ≤ 1048576 := by rw [List.length_take]; omega
  have e2 : (v.drop v.length).length ≤ 1048576 := by rw [List.length_drop]; omega
  have L (l : List S54) : (([] : List S54) ++ l) = l := List.nil_append l
  have L0 : ([] : List S54).length = 0 := rfl
  have e4 : (v.take v.length ++ [(⟨a, b, c⟩ : S54)]).length = (v.take v.length).length + 1 := by rw [List.length_append]; rfl
  simp only [spec_l04Put.l0]
  rw [if_neg (by omega), Option.bind_some, if_pos (by omega), if_pos (by omega), Int.toNat_natCast, Option.bind_some, L, if_pos (by omega), Option.bind_some, if_pos (by omega), Option.bind_some, Option.bind_some, if_pos (by omega)]
  rw [putFin, if_neg (show ¬ (v.length < v.length ∧ (v.getD v.length z54).f0 = a) from fun z => absurd z.1 (by omega))]
theorem specPutV_other (v : List S54) (a b c : Int) (hl : v.length ≤ 1048576) (k i : Nat) (h : i < v.length) (h2 : ¬ (v.getD i z54).f0 < a) (e : ¬ (v.getD i z54).f0 = a) : spec_l04Put.l0 (k + 1) v (i : Int) a b c = some (putFin v a b c i) := by
  have e1 : (v.take i).length ≤ 1048576 := by rw [List.length_take]; omega
  have e2 : (v.drop i).length ≤ 1048576 := by rw [List.length_drop]; omega
  have L (l : List S54) : (([] : List S54) ++ l) = l := List.nil_append l
  have L0 : ([] : List S54).length = 0 := rfl
  have e4 : (v.take i ++ [(⟨a, b, c⟩ : S54)]).length = (v.take i).length + 1 := by rw [List.length_append]; rfl
  simp only [spec_l04Put.l0]
  rw [rdF_nat, if_pos (by omega), if_pos (by omega), if_neg h2, Option.bind_some, if_pos (by omega), Option.bind_some, Int.toNat_natCast, L, if_pos (by omega), Option.bind_some, if_neg e, if_pos (by omega), Option.bind_some, Option.bind_some, if_pos (by omega)]
  rw [putFin, if_neg (show ¬ (i < v.length ∧ (v.getD i z54).f0 = a) from fun z => e z.2)]
theorem specPutV_same (v : List S54) (a b c : Int) (hl : v.length ≤ 1048576) (k i : Nat) (h : i < v.length) (e : (v.getD i z54).f0 = a) : spec_l04Put.l0 (k + 1) v (i : Int) a b c = some (putFin v a b c i) := by
  have e1 : (v.take i).length ≤ 1048576 := by rw [List.length_take]; omega
  have e3 : (v.drop (i + 1)).length ≤ 1048576 := by rw [List.length_drop]; omega
  have hw := wrap_succ (i := i) (n := v.length) h (by omega)
  simp only [spec_l04Put.l0, Option.bind_some, List.nil_append, List.length_nil, Int.toNat_natCast, List.length_append, List.length_singleton, rdF_nat, spec_l04Join_eq, hw]
  rw [if_pos (by omega), if_pos (by omega), if_neg (by omega), if_pos (by omega), if_pos (by omega), if_pos e, if_pos (by omega), if_pos (by omega), if_pos (by omega), if_pos (by omega), putFin, if_pos (show i < v.length ∧ _ from ⟨h, e⟩)]
  have hdr := drop_at v z54 h
  generalize v.getD i z54 = y at *
  cases hc : lessF y.f1 y.f2 b c with
  | true =>
    have hn := news_of _ _ _ _ hc
    simp only [if_true]
    have h5 : (!(a == y.f0) || (!(b == y.f1) || !(c == y.f2))) = true := by
      by_cases h3 : b = y.f1
      · by_cases h4 : c = y.f2
        · exact absurd ⟨h3, h4⟩ hn
        · rw [beq_eq_false_iff_ne.2 h4]; simp
      · rw [beq_eq_false_iff_ne.2 h3]; simp
    rw [h5]
  | false =>
    simp only [Bool.false_eq_true, if_false, beq_self_eq_true, Bool.not_true, Bool.or_false]
    rw [List.append_assoc, List.singleton_append]
    have h6 : (⟨y.f0, y.f1, y.f2⟩ : S54) = y := rfl
    rw [h6, ← hdr, List.take_append_drop]
theorem putFin_eq (v : List S54) (a b c : Int) (m : Nat) (h : putV v a b c = if m < v.length ∧ (v.getD m z54).f0 = a then (if lessF (v.getD m z54).f1 (v.getD m z54).f2 b c = true then (v.take m ++ [⟨a, b, c⟩] ++ v.drop (m + 1), true) else (v, false)) else (v.take m ++ [⟨a, b, c⟩] ++ v.drop m, true)) : putFin v a b c m = ((putV v a b c).1, (putV v a b c).2, 0) := by
  rw [h, putFin]
  repeat' split
  all_goals rfl
theorem specPutV_ev (v : List S54) (a b c : Int) (hl : v.length ≤ 1048576) : Ev (fun k => spec_l04Put.f k v a b c) ((putV v a b c).1, (putV v a b c).2, 0) := by
  obtain ⟨m, _, a2, a3, a4, a5⟩ := seekLoop v.length (fun i => decide ((v.getD i z54).f0 < a)) (fun k i => spec_l04Put.l0 k v i a b c) (putFin v a b c) (fun k i hi hb => by
      have hw := wrap_succ (i := i) (n := v.length) hi (by omega)
      simp only [spec_l04Put.l0]
      rw [if_pos (by omega), if_pos (by omega), rdF_nat, if_pos (of_decide_eq_true hb), hw]) (fun k i hi hb => by
      by_cases h : i < v.length
      · by_cases e : (v.getD i z54).f0 = a
        · exact specPutV_same v a b c hl k i h e
        · exact specPutV_other v a b c hl k i h (of_decide_eq_false (hb h)) e
      · obtain rfl : i = v.length := by omega
        exact specPutV_end v a b c hl k) v.length 0 (by omega)
  rw [← putFin_eq v a b c m (putV_at v a b c m a2 (fun j hj => of_decide_eq_true (a4 j (by omega) hj)) (fun h => of_decide_eq_false (a5 h)))]
  exact Ev.congr (fun k => rfl) a3

theorem withBs_ev (l : List S54) (n : Int) (hl : l.length ≤ 1048576) : ∃ m, m ≤ l.length ∧ impl_withFact.at_ l n = m ∧ (0 < m → impl_withFact.cmp (l.getD (m - 1) z54) n < 0) ∧ (m < l.length → ¬ impl_withFact.cmp (l.getD m z54) n < 0) := by
  have key : ∀ (f i j : Nat), j - i < f → i ≤ j → j ≤ l.length → ∃ m, i ≤ m ∧ m ≤ j ∧ impl_withFact.bs l n f i j = m ∧ (i < m → impl_withFact.cmp (l.getD (m - 1) z54) n < 0) ∧ (m < j → ¬ impl_withFact.cmp (l.getD m z54) n < 0) := by
    intro f
    induction f with
    | zero => intro i j h; omega
    | succ f ih =>
      intro i j h1 h2 h3
      by_cases hij : i < j
      · by_cases hc : impl_withFact.cmp (l.getD ((i + j) / 2) z54) n < 0
        · obtain ⟨m, a1, a2, a3, a4, a5⟩ := ih ((i + j) / 2 + 1) j (by omega) (by omega) h3
          refine ⟨m, by omega, a2, by rw [impl_withFact.bs, if_pos hij, if_pos hc]; exact a3, fun h => ?_, a5⟩
          by_cases e : (i + j) / 2 + 1 < m
          · exact a4 e
          · rw [show m - 1 = (i + j) / 2 by omega]; exact hc
        · obtain ⟨m, a1, a2, a3, a4, a5⟩ := ih i ((i + j) / 2) (by omega) (by omega) (by omega)
          refine ⟨m, a1, by omega, by rw [impl_withFact.bs, if_pos hij, if_neg hc]; exact a3, a4, fun h => ?_⟩
          by_cases e : m < (i + j) / 2
          · exact a5 e
          · rw [show m = (i + j) / 2 by omega]; exact hc
      · obtain rfl : i = j := by omega
        exact ⟨i, Nat.le_refl _, Nat.le_refl _, by rw [impl_withFact.bs, if_neg hij], fun h => absurd h (Nat.lt_irrefl _), fun h => absurd h (Nat.lt_irrefl _)⟩
  obtain ⟨m, _, a2, a3, a4, a5⟩ := key (l.length + 1) 0 l.length (by omega) (by omega) (by omega)
  exact ⟨m, a2, a3, a4, a5⟩
/-- withFact, where what stands of the node is less than the fact, or nothing. -/
theorem withFact_eq (v : List S54) (a b c : Int) (hl : v.length ≤ 1048576) (hp : v.Pairwise (fun x y => x.f0 < y.f0)) (hn : ∀ x ∈ v, -1000 ≤ x.f0 ∧ x.f0 ≤ 1000) (ha : -1000 ≤ a ∧ a ≤ 1000) (hless : ∀ x ∈ v, x.f0 = a → lessF x.f1 x.f2 b c = true) :
    impl_withFact.f v a b c = some (putV v a b c).1 ∧ (putV v a b c).2 = true := by
  obtain ⟨m, a2, a3, a4, a5⟩ := withBs_ev v a hl
  have getM : ∀ j, j < v.length → v.getD j z54 ∈ v := fun j hj => by
    simp only [List.getD, List.getElem?_eq_getElem hj, Option.getD_some]
    exact List.getElem_mem hj
  have cmpE : ∀ j, j < v.length → impl_withFact.cmp (v.getD j z54) a = (v.getD j z54).f0 - a := fun j hj => by
    have := hn _ (getM j hj)
    rw [impl_withFact.cmp, wrap_id (by omega) (by omega)]
  have hlt : ∀ i j, i < j → j < v.length → (v.getD i z54).f0 < (v.getD j z54).f0 := fun i j hij hj => by
    have := List.pairwise_iff_getElem.1 hp i j (by omega) hj hij
    simpa only [List.getD, List.getElem?_eq_getElem hj, List.getElem?_eq_getElem (show i < v.length by omega), Option.getD_some] using this
  have hA : ∀ j, j < m → (v.getD j z54).f0 < a := fun j hj => by
    have h1 := a4 (by omega)
    rw [cmpE (m - 1) (by omega)] at h1
    rcases Nat.lt_or_ge j (m - 1) with h2 | h2
    · have := hlt j (m - 1) h2 (by omega); omega
    · rw [show j = m - 1 by omega]; omega
  have hB : m < v.length → ¬ (v.getD m z54).f0 < a := fun h => by
    have h1 := a5 h
    rw [cmpE m h] at h1
    omega
  have hput := putV_at v a b c m a2 hA hB
  rw [impl_withFact.f, a3, if_pos ⟨hl, a2⟩, impl_withFact.is_, a3]
  by_cases hm : m < v.length ∧ (v.getD m z54).f0 = a
  · have hle := hless _ (getM m hm.1) hm.2
    rw [hput, if_pos hm, if_pos hle, cmpE m hm.1, decide_eq_true hm.1, decide_eq_true (by omega)]
    refine ⟨?_, rfl⟩
    rw [Bool.true_and, if_pos rfl, List.set_eq_take_append_cons_drop, if_pos hm.1]
    simp
  · have hd : (decide (m < v.length) && decide (impl_withFact.cmp (v.getD m z54) a = 0)) = false := by
      by_cases h : m < v.length
      · rw [cmpE m h, decide_eq_false (show ¬ (v.getD m z54).f0 - a = 0 from fun e => hm ⟨h, by omega⟩), Bool.and_false]
      · rw [decide_eq_false h, Bool.false_and]
    rw [hd, hput, if_neg hm]
    exact ⟨by rw [if_neg (by decide)], rfl⟩

theorem specRum_l1 (l : List S100) (i : Nat) (hi : i < l.length) (hl : l.length ≤ 6) (R : Bool) (hR : Ev (fun k => spec_RumorsRight.l0 k l (wrap64 ((i : Int) + 1))) R) : ∀ d j : Nat, j + d = i → Ev (fun k => spec_RumorsRight.l1 k l (i : Int) (j : Int)) (!(((nodesOf l).take i).drop j).contains ((nodesOf l).getD i 0) && R)
  | 0, j, h => by
    rw [List.drop_of_length_le (by simp; omega)]
    refine Ev.step (fun k => ?_) (Ev.ofBool hR (by simp))
    simp only [spec_RumorsRight.l1]
    rw [if_neg (by omega)]
  | d + 1, j, h => by
    have hn := nodesOf_length l
    rw [drop_at _ 0 (show j < ((nodesOf l).take i).length by simp; omega), List.contains_cons]
    have ej : ((nodesOf l).take i).getD j 0 = (l.getD j z100).f0.f0 := by
      rw [← nodesOf_at l (show j < l.length by omega)]
      simp [List.getD, List.getElem?_take, show j < i by omega]
    rw [ej, nodesOf_at l hi]
    have ih := specRum_l1 l i hi hl R hR d (j + 1) (by omega)
    rw [nodesOf_at l hi] at ih
    by_cases he : (l.getD j z100).f0.f0 = (l.getD i z100).f0.f0
    · rw [he]
      refine Ev.step (f := fun _ => some false) (fun k => ?_) (by simpa using Ev.now false)
      simp only [spec_RumorsRight.l1]
      rw [if_pos (by omega), if_pos (by omega), if_pos (by omega), if_pos (by omega), if_pos (by omega), rdR_nat, rdR_nat, if_pos he]
    · rw [beq_eq_false_iff_ne.2 (Ne.symm he), Bool.false_or]
      refine Ev.step (fun k => ?_) ih
      simp only [spec_RumorsRight.l1]
      rw [if_pos (by omega), if_pos (by omega), if_pos (by omega), if_pos (by omega), if_pos (by omega), rdR_nat, rdR_nat, if_neg he, wrap_succ (n := l.length) (by omega) (by omega)]
theorem specRumors_ev (l : List S100) : Ev (fun k => spec_RumorsRight.f k l) (rumorsR l) := by
  by_cases h6 : l.length ≤ 6
  · have hh := allLoopE l.length (rumorT l) true (fun k i => spec_RumorsRight.l0 k l i) (fun i hi R hR => by
        have hw := wrap_succ hi (show l.length ≤ 140737488355328 by omega)
        have hin := specRum_l1 l i hi h6 R (by rw [hw]; exact hR) i 0 (by omega)
        rw [List.drop_zero] at hin
        have step : ∀ k, spec_RumorsRight.l0 (k + 1) l (i : Int) = spec_RumorsRight.j1 k l (i : Int) (!rumorF (l.getD i z100)) := by
          intro k
          simp only [spec_RumorsRight.l0, spec_FactRight_eq, spec_l02Is_eq, Option.bind_some]
          rw [if_pos (by omega), if_pos (by omega), rdR_nat]
          unfold rumorF
          by_cases hf : factR (l.getD i z100).f0.f0 (l.getD i z100).f0.f1 (l.getD i z100).f0.f2 = true
          · rw [if_pos hf, hf, Bool.true_and]
          · rw [if_neg hf, Bool.not_eq_true] at *
            rw [hf, Bool.false_and]
            rfl
        refine Ev.step step ?_
        rw [rumorT, Bool.and_assoc]
        cases hr : rumorF (l.getD i z100) with
        | false =>
          refine Ev.step (f := fun _ => some false) (fun k => ?_) (Ev.now _)
          simp only [spec_RumorsRight.j1]
          rw [if_pos (by simp)]
        | true =>
          rw [Bool.true_and]
          refine Ev.step (fun k => ?_) hin
          simp only [spec_RumorsRight.j1]
          rw [if_neg (by simp)]
          rfl) (Ev.step (f := fun _ => some true) (fun k => by simp only [spec_RumorsRight.l0]; rw [if_neg (by omega)]) (Ev.now _)) l.length 0 (by omega)
    rw [Bool.and_true] at hh
    refine Ev.congr (fun k => ?_) hh
    simp only [spec_RumorsRight.f]; rw [if_neg (by omega)]; rfl
  · have : rumorsR l = false := by
      cases h : rumorsR l with
      | false => rfl
      | true => exact absurd (rumorsR_six h).2.2 h6
    rw [this]
    refine Ev.congr (f := fun _ => some false) (fun k => ?_) (Ev.now _)
    simp only [spec_RumorsRight.f]; rw [if_pos (by omega)]

theorem impl_within_eq (a b c : Int) : impl_within.f a b c = some (inR a b c) := by
  by_cases h : b ≤ a <;> simp [impl_within.f, inR, h]

theorem impl_isNode_eq (a : Int) : impl_isNode.f a = some (inR a 1 6) := by simp [impl_isNode.f, impl_within_eq]
theorem impl_isTime_eq (a : Int) : impl_isTime.f a = some (inR a 0 1000000) := by simp [impl_isTime.f, impl_within_eq]
theorem impl_FactRight_eq (a b c : Int) : impl_FactRight.f a b c = some (factR a b c) := by
  simp only [impl_FactRight.f, impl_isNode_eq, impl_isTime_eq, impl_within_eq, Option.bind_some, factR]
  cases inR a 1 6 <;> cases inR b 0 1000000 <;> simp

theorem slIndex_l0 (l : List Int) (n : Int) (hl : l.length ≤ 140737488355328) : ∀ d i : Nat, i + d = l.length → ∃ r : Int, Ev (fun k => slices_Index_int64_int64.l0 k l n (l.length : Int) (i : Int)) r ∧ (0 ≤ r ↔ (l.drop i).contains n = true)
  | 0, i, h => ⟨-1, Ev.step (f := fun _ => some (-1)) (fun k => by simp only [slices_Index_int64_int64.l0]; rw [if_neg (by omega)]) (Ev.now _), by rw [List.drop_of_length_le (by omega)]; simp⟩
  | d + 1, i, h => by
    have hw := wrap_succ (i := i) (n := l.length) (by omega) hl
    rw [drop_at l 0 (show i < l.length by omega), List.contains_cons]
    by_cases ho : n = l.getD i 0
    · refine ⟨(i : Int), Ev.step (f := fun k => some (i : Int)) (fun k => ?_) (Ev.now _), by rw [← ho]; simp⟩
      simp only [slices_Index_int64_int64.l0]
      rw [rd_nat, if_pos (by omega), if_pos (by omega), if_pos (by omega), if_pos ho]
    · obtain ⟨r, hr, hc⟩ := slIndex_l0 l n hl d (i + 1) (by omega)
      refine ⟨r, Ev.step (f := fun k => slices_Index_int64_int64.l0 k l n (l.length : Int) ((i + 1 : Nat) : Int)) (fun k => ?_) hr, by rw [beq_eq_false_iff_ne.2 ho, Bool.false_or]; exact hc⟩
      simp only [slices_Index_int64_int64.l0]
      rw [hw, rd_nat, if_pos (by omega), if_pos (by omega), if_pos (by omega), if_neg ho]
theorem slContains_ev (l : List Int) (n : Int) (hl : l.length ≤ 140737488355328) : Ev (fun k => slices_Contains_int64_int64.f k l n) (l.contains n) := by
  obtain ⟨r, hr, hc⟩ := slIndex_l0 l n hl l.length 0 (by omega)
  refine Ev.congr (fun k => rfl) (Ev.bind (g := fun k => slices_Index_int64_int64.f k l n) hr (f := fun _ t => some (decide (t ≥ 0))) ?_)
  rw [show decide (r ≥ 0) = l.contains n by rw [Bool.eq_iff_iff, decide_eq_true_iff]; exact hc]
  exact Ev.now _

theorem implRum_l0 (l : List S100) (hl : l.length ≤ 1048576) : ∀ d i : Nat, i + d = l.length → Ev (fun k => impl_RumorsRight.l0 k ((nodesOf l).take i) l (l.length : Int) (i : Int)) (allB (rumorT l) i d)
  | 0, i, h => Ev.step (f := fun _ => some true) (fun k => by simp only [impl_RumorsRight.l0]; rw [if_neg (by omega)]) (Ev.now _)
  | d + 1, i, h => by
    have hi : i < l.length := by omega
    have hn := nodesOf_length l
    have hb : Ev (fun k => slices_Contains_int64_int64.f k ((nodesOf l).take i) ((nodesOf l).getD i 0)) (((nodesOf l).take i).contains ((nodesOf l).getD i 0)) := slContains_ev _ _ (by simp; omega)
    have ih := implRum_l0 l hl d (i + 1) (by omega)
    have et : (nodesOf l).take (i + 1) = (nodesOf l).take i ++ [(nodesOf l).getD i 0] := by
      rw [List.take_add_one]
      simp [List.getD, show i < (nodesOf l).length by omega]
    rw [et] at ih
    rw [allB, rumorT, rumorF, Bool.and_assoc, Bool.and_assoc]
    refine Ev.step (f := fun k => if factR (l.getD i z100).f0.f0 (l.getD i z100).f0.f1 (l.getD i z100).f0.f2 = true then (if inR (l.getD i z100).f1 0 3 = true then (slices_Contains_int64_int64.f k ((nodesOf l).take i) ((nodesOf l).getD i 0)).bind fun t => (if t = true then some false else impl_RumorsRight.l0 k ((nodesOf l).take i ++ [(nodesOf l).getD i 0]) l (l.length : Int) ((i + 1 : Nat) : Int)) else some false) else some false) (fun k => ?_) ?_
    · simp only [impl_RumorsRight.l0, impl_FactRight_eq, impl_within_eq, Option.bind_some]
      rw [if_pos (by omega), if_pos (by omega), if_pos (by omega), rdR_nat, nodesOf_at l hi, wrap_succ hi (by omega)]
      simp only [if_pos (show ((nodesOf l).take i).length < 17592186044416 by simp; omega)]
    · by_cases hf : factR (l.getD i z100).f0.f0 (l.getD i z100).f0.f1 (l.getD i z100).f0.f2 = true
      · simp only [if_pos hf]
        rw [hf, Bool.true_and]
        by_cases hs : inR (l.getD i z100).f1 0 3 = true
        · simp only [if_pos hs]
          rw [hs, Bool.true_and]
          refine Ev.bind hb ?_
          cases ((nodesOf l).take i).contains ((nodesOf l).getD i 0) with
          | true => simpa using Ev.now false
          | false => simpa using ih
        · simp only [if_neg hs]
          rw [Bool.not_eq_true] at hs
          rw [hs, Bool.false_and]
          exact Ev.now _
      · simp only [if_neg hf]
        rw [Bool.not_eq_true] at hf
        rw [hf, Bool.false_and]
        exact Ev.now _
theorem implRumors_ev (l : List S100) (hl : l.length ≤ 1048576) : Ev (fun k => impl_RumorsRight.f k l) (rumorsR l) := by
  have := implRum_l0 l hl l.length 0 (by omega)
  rw [List.take_zero] at this
  exact this

/-- The rumors, those struck told once more. -/
def bump (l : List S100) (is : List Bool) : List S100 := (l.zip is).map fun p => if p.2 = true then ⟨p.1.f0, p.1.f1 + 1⟩ else p.1
theorem bump_length (l : List S100) (is : List Bool) (h : is.length = l.length) : (bump l is).length = l.length := by simp [bump, h]
theorem bump_at (l : List S100) (is : List Bool) (h : is.length = l.length) (i : Nat) (hi : i < l.length) : (bump l is).getD i z100 = if is.getD i false = true then ⟨(l.getD i z100).f0, (l.getD i z100).f1 + 1⟩ else l.getD i z100 := by
  have h2 : i < is.length := by omega
  simp only [bump, List.getD, List.getElem?_map, List.getElem?_eq_getElem (show i < (l.zip is).length by simp; omega), Option.map_some, Option.getD_some, List.getElem_zip, List.getElem?_eq_getElem hi, List.getElem?_eq_getElem h2]
theorem bump_get (l : List S100) (is : List Bool) (h : is.length = l.length) (i : Nat) (h1 : i < (bump l is).length) : (bump l is)[i] = if is.getD i false = true then ⟨(l.getD i z100).f0, (l.getD i z100).f1 + 1⟩ else l.getD i z100 := by
  have hi : i < l.length := by rw [bump_length l is h] at h1; exact h1
  rw [← bump_at l is h i hi]
  simp [List.getD, h1]
theorem bump_none (l : List S100) : bump l (List.replicate l.length false) = l := by
  apply List.ext_getElem
  · simp [bump]
  · intro i h1 h2
    have := bump_at l (List.replicate l.length false) (by simp) i h2
    simp only [List.getD, List.getElem?_eq_getElem h1, List.getElem?_eq_getElem h2, Option.getD_some, List.getElem?_replicate, h2, if_true] at this
    simpa using this
theorem bump_set (l : List S100) (is : List Bool) (h : is.length = l.length) (b : Nat) (hb : b < l.length) (hs : is.getD b false = false) : bump l (is.set b true) = (bump l is).set b ⟨((bump l is).getD b z100).f0, ((bump l is).getD b z100).f1 + 1⟩ := by
  apply List.ext_getElem
  · simp [bump]
  · intro i h1 h2
    have hi : i < l.length := by rw [bump_length _ _ (by simpa using h)] at h1; exact h1
    have h3 : i < (bump l is).length := by rw [bump_length _ _ h]; exact hi
    rw [bump_get l (is.set b true) (by simpa using h) i h1, List.getElem_set]
    by_cases hib : b = i
    · subst hib
      have hbat := bump_at l is h b hi
      rw [if_neg (by rw [hs]; decide)] at hbat
      rw [if_pos (rfl : b = b), hbat, if_pos (show (is.set b true).getD b false = true by simp [show b < is.length by omega])]
    · rw [if_neg hib, bump_get l is h i h3]
      have e3 : (is.set b true).getD i false = is.getD i false := by simp [List.getElem?_set_ne hib]
      rw [e3]
/-- The picks: the facts told, and who is struck. -/
def pkS (l : List S100) (but : Int) : Nat → List S54 → List Bool → List S54 × List Bool
  | 0, fs, is => (fs, is)
  | q + 1, fs, is => if impl_picked.bst l is but l.length 0 (-1) < 0 then (fs, is) else pkS l but q (putV fs (l.getD (impl_picked.bst l is but l.length 0 (-1)).toNat z100).f0.f0 (l.getD (impl_picked.bst l is but l.length 0 (-1)).toNat z100).f0.f1 (l.getD (impl_picked.bst l is but l.length 0 (-1)).toNat z100).f0.f2).1 (is.set (impl_picked.bst l is but l.length 0 (-1)).toNat true)
/-- What the search finds. -/
theorem bst_found (l : List S100) (is : List Bool) (but : Int) : ∀ (d i : Nat) (b : Int), i + d = l.length → (0 ≤ b → b < (l.length : Int) ∧ is.getD b.toNat false = false ∧ (l.getD b.toNat z100).f0.f0 ≠ but) → -1 ≤ b → (-1 ≤ impl_picked.bst l is but d i b ∧ (0 ≤ impl_picked.bst l is but d i b → impl_picked.bst l is but d i b < (l.length : Int) ∧ is.getD (impl_picked.bst l is but d i b).toNat false = false ∧ (l.getD (impl_picked.bst l is but d i b).toNat z100).f0.f0 ≠ but))
  | 0, i, b, _, h, hb => ⟨hb, h⟩
  | d + 1, i, b, hd, h, hb => by
    rw [impl_picked.bst]
    cases hm : impl_picked.may l is but i b with
    | true =>
      rw [if_pos rfl]
      refine bst_found l is but d (i + 1) (i : Int) (by omega) (fun _ => ?_) (by omega)
      rw [impl_picked.may, Bool.and_eq_true, Bool.and_eq_true, Bool.not_eq_true', decide_eq_true_iff] at hm
      rw [Int.toNat_natCast]
      exact ⟨by omega, hm.1, hm.2.1⟩
    | false =>
      rw [if_neg (by decide)]
      exact bst_found l is but d (i + 1) b (by omega) h hb
/-- What holds between two picks. -/
structure PkInv (l : List S100) (fs : List S54) (is : List Bool) : Prop where
  len : is.length = l.length
  pw : fs.Pairwise (fun x y => x.f0 < y.f0)
  mem : ∀ x ∈ fs, ∃ j, j < l.length ∧ is.getD j false = true ∧ x = (l.getD j z100).f0
theorem node_inj {l : List S100} (hn : (nodesOf l).Nodup) {i j : Nat} (hi : i < l.length) (hj : j < l.length) (h : (l.getD i z100).f0.f0 = (l.getD j z100).f0.f0) : i = j := by
  have h1 := nodesOf_at l hi
  have h2 := nodesOf_at l hj
  rw [← h2] at h
  rw [← h1] at h
  have hi' : i < (nodesOf l).length := by rw [nodesOf_length]; exact hi
  have hj' : j < (nodesOf l).length := by rw [nodesOf_length]; exact hj
  simp only [List.getD, List.getElem?_eq_getElem hi', List.getElem?_eq_getElem hj', Option.getD_some] at h
  rcases Nat.lt_trichotomy i j with h3 | h3 | h3
  · exact absurd h (List.pairwise_iff_getElem.1 hn i j hi' hj' h3)
  · exact h3
  · exact absurd h.symm (List.pairwise_iff_getElem.1 hn j i hj' hi' h3)
theorem PkInv.next {l : List S100} {fs : List S54} {is : List Bool} (h : PkInv l fs is) {b : Nat} (hb : b < l.length) (hs : is.getD b false = false) : PkInv l (putV fs (l.getD b z100).f0.f0 (l.getD b z100).f0.f1 (l.getD b z100).f0.f2).1 (is.set b true) := by
  refine ⟨by simpa using h.len, putV_pw _ _ _ _ h.pw, fun x hx => ?_⟩
  rcases putV_mem _ _ _ _ x hx with hx | rfl
  · obtain ⟨j, hj, hj2, hj3⟩ := h.mem x hx
    refine ⟨j, hj, ?_, hj3⟩
    by_cases e : b = j
    · subst e; rw [hs] at hj2; cases hj2
    · simpa [List.getElem?_set_ne e] using hj2
  · exact ⟨b, hb, by have := h.len; simp [show b < is.length by omega], rfl⟩
theorem rumor_facts {l : List S100} (hr : ∀ x ∈ l, rumorF x = true) {i : Nat} (hi : i < l.length) : factR (l.getD i z100).f0.f0 (l.getD i z100).f0.f1 (l.getD i z100).f0.f2 = true ∧ 0 ≤ (l.getD i z100).f1 ∧ (l.getD i z100).f1 ≤ 3 := by
  have hm : l.getD i z100 ∈ l := by simp only [List.getD, List.getElem?_eq_getElem hi, Option.getD_some]; exact List.getElem_mem hi
  have := hr _ hm
  rw [rumorF, Bool.and_eq_true, inR_iff] at this
  exact ⟨this.1, this.2⟩
/-- The program's rounds. -/
theorem implPk_eq (l : List S100) (but : Int) (hr : rumorsR l = true) : ∀ (q : Nat) (fs : List S54) (is : List Bool), PkInv l fs is → fs.length + q ≤ 3 → impl_picked.pk l but q (bump l is) fs is = some (bump l (pkS l but q fs is).2, (pkS l but q fs is).1)
  | 0, fs, is, _, _ => rfl
  | q + 1, fs, is, h, hq => by
    obtain ⟨h1, h2, h6⟩ := rumorsR_six hr
    have hf := bst_found l is but l.length 0 (-1) (by omega) (fun h => absurd h (by omega)) (by omega)
    rw [impl_picked.pk, pkS]
    by_cases hb : impl_picked.bst l is but l.length 0 (-1) < 0
    · rw [if_pos hb, if_pos hb]
    · rw [if_neg hb, if_neg hb]
      obtain ⟨b, hbe⟩ := Int.eq_ofNat_of_zero_le (show 0 ≤ impl_picked.bst l is but l.length 0 (-1) by omega)
      rw [hbe] at hf ⊢
      rw [Int.toNat_natCast] at hf ⊢
      obtain ⟨hb1, hb2, hb3⟩ := hf.2 (by omega)
      have hbl : b < l.length := by omega
      have hfb := rumor_facts h1 hbl
      have hnode := (factR_iff.1 hfb.1).1
      obtain ⟨w1, _⟩ := withFact_eq fs (l.getD b z100).f0.f0 (l.getD b z100).f0.f1 (l.getD b z100).f0.f2 (by omega) h.pw (fun x hx => by
        obtain ⟨j, hj, _, rfl⟩ := h.mem x hx
        have := (factR_iff.1 (rumor_facts h1 hj).1).1
        omega) (by omega) (fun x hx e => by
        obtain ⟨j, hj, hj2, rfl⟩ := h.mem x hx
        have := node_inj h2 hj hbl e
        subst this
        rw [hb2] at hj2; cases hj2)
      rw [w1, Option.bind_some]
      have hbs := bump_set l is h.len b hbl hb2
      have hat := bump_at l is h.len b hbl
      rw [if_neg (by rw [hb2]; decide)] at hat
      have hw : wrap64 (((bump l is).getD b z100).f1 + 1) = ((bump l is).getD b z100).f1 + 1 := by rw [hat, wrap_id (by omega) (by omega)]
      rw [hw, ← hbs]
      have hlen := putV_length fs (l.getD b z100).f0.f0 (l.getD b z100).f0.f1 (l.getD b z100).f0.f2
      exact implPk_eq l but hr q _ _ (h.next hbl hb2) (by omega)
/-- The told ones are struck off. -/
theorem specPick_l2 (l : List S100) (hl : l.length ≤ 400) (hr : ∀ x ∈ l, rumorF x = true) (is : List Bool) (hs : is.length = l.length) (fs : List S54) : ∀ (d i : Nat) (acc : List S100), i + d = l.length → acc.length ≤ i → Ev (fun k => spec_l06Pick.l2 k l is fs acc (i : Int)) (acc ++ ((bump l is).drop i).filter (fun x => decide (x.f1 < 4)), fs)
  | 0, i, acc, h, ha => by
    refine Ev.step (f := fun _ => some (acc, fs)) (fun k => ?_) ?_
    · simp only [spec_l06Pick.l2]; rw [if_neg (by omega)]
    · rw [List.drop_of_length_le (by rw [bump_length l is hs]; omega)]
      simpa using Ev.now (acc, fs)
  | d + 1, i, acc, h, ha => by
    have hi : i < l.length := by omega
    have hw : wrap64 ((i : Int) + 1) = ((i + 1 : Nat) : Int) := wrap_succ hi (by omega)
    have hf := rumor_facts hr hi
    have hrd : rdOf false is (i : Int) = is.getD i false := by simp [rdOf]
    have hw2 : wrap64 ((l.getD i z100).f1 + 1) = (l.getD i z100).f1 + 1 := wrap_id (by omega) (by omega)
    rw [drop_at (bump l is) z100 (by rw [bump_length l is hs]; exact hi), bump_at l is hs i hi]
    cases hp : is.getD i false with
    | true =>
      rw [if_pos rfl]
      by_cases h4 : (l.getD i z100).f1 + 1 < 4
      · have ih := specPick_l2 l hl hr is hs fs d (i + 1) (acc ++ [⟨(l.getD i z100).f0, (l.getD i z100).f1 + 1⟩]) (by omega) (by rw [List.length_append, List.length_singleton]; omega)
        rw [List.filter_cons, if_pos (decide_eq_true h4)]
        rw [List.append_assoc] at ih
        refine Ev.step (fun k => ?_) ih
        simp only [spec_l06Pick.l2]
        rw [if_pos (by omega), if_pos (by omega), if_pos (by omega), hrd, hp, if_pos rfl, rdR_nat, hw2, if_pos h4, if_pos (by omega), hw]
      · have ih := specPick_l2 l hl hr is hs fs d (i + 1) acc (by omega) (by omega)
        rw [List.filter_cons, if_neg (by rw [decide_eq_false h4]; decide)]
        refine Ev.step (fun k => ?_) ih
        simp only [spec_l06Pick.l2]
        rw [if_pos (by omega), if_pos (by omega), if_pos (by omega), hrd, hp, if_pos rfl, rdR_nat, hw2, if_neg h4, hw]
    | false =>
      rw [if_neg (by decide)]
      by_cases h4 : (l.getD i z100).f1 < 4
      · have ih := specPick_l2 l hl hr is hs fs d (i + 1) (acc ++ [l.getD i z100]) (by omega) (by rw [List.length_append, List.length_singleton]; omega)
        rw [List.filter_cons, if_pos (decide_eq_true h4)]
        rw [List.append_assoc] at ih
        refine Ev.step (fun k => ?_) ih
        simp only [spec_l06Pick.l2]
        rw [if_pos (by omega), if_pos (by omega), if_pos (by omega), hrd, hp, if_neg (by decide), rdR_nat, if_pos h4, if_pos (by omega), hw]
      · exact absurd (show (l.getD i z100).f1 < 4 by omega) h4
/-- The search, as the specification has it. -/
theorem specPick_l1 (l : List S100) (but : Int) (hl : l.length ≤ 400) (is : List Bool) (hs : is.length = l.length) (fs : List S54) (n : Int) {R : List S100 × List S54} : ∀ (d i : Nat) (b : Int), i + d = l.length → -1 ≤ b → b < (l.length : Int) → Ev (fun k => spec_l06Pick.l1 k l but is fs n (impl_picked.bst l is but d i b) (l.length : Int)) R → Ev (fun k => spec_l06Pick.l1 k l but is fs n b (i : Int)) R
  | 0, i, b, h, _, _, hR => by
    rw [impl_picked.bst] at hR
    rwa [show i = l.length by omega]
  | d + 1, i, b, h, hb1, hb2, hR => by
    have hi : i < l.length := by omega
    have hw : wrap64 ((i : Int) + 1) = ((i + 1 : Nat) : Int) := wrap_succ hi (by omega)
    have hrd : rdOf false is (i : Int) = is.getD i false := by simp [rdOf]
    rw [impl_picked.bst] at hR
    have ih := specPick_l1 l but hl is hs fs n (R := R) d (i + 1) (if impl_picked.may l is but i b = true then (i : Int) else b) (by omega) (by split <;> omega) (by split <;> omega) hR
    have hm : impl_picked.may l is but i b = (!(is.getD i false) && (decide ((l.getD i z100).f0.f0 ≠ but) && (decide (b < 0) || decide ((l.getD i z100).f1 < (l.getD b.toNat z100).f1)))) := rfl
    refine Ev.step (fun k => ?_) ih
    simp only [spec_l06Pick.l1]
    rw [if_pos (by omega), if_pos (by omega), if_pos (by omega), hrd, hw, rdR_nat]
    cases hp : is.getD i false with
    | true => rw [if_pos rfl, hm, hp, if_neg (by simp)]
    | false =>
      rw [if_neg (by decide)]
      by_cases hn : (l.getD i z100).f0.f0 = but
      · rw [if_pos hn, hm, decide_eq_false (show ¬ (l.getD i z100).f0.f0 ≠ but from fun h => h hn), Bool.false_and, Bool.and_false, if_neg (by decide)]
      · rw [if_neg hn, hm, hp, decide_eq_true (show (l.getD i z100).f0.f0 ≠ but from hn)]
        by_cases hb : b < 0
        · rw [if_pos hb, decide_eq_true hb, if_pos (by simp)]
        · rw [if_neg hb, decide_eq_false hb, if_pos (by omega), if_pos (by omega), show rd_T100 l b = l.getD b.toNat z100 from rfl]
          by_cases hc : (l.getD i z100).f1 < (l.getD b.toNat z100).f1
          · rw [if_pos hc, decide_eq_true hc, if_pos (by simp)]
          · rw [if_neg hc, decide_eq_false hc, if_neg (by simp)]
/-- The specification's rounds. -/
theorem specPick_l0 (l : List S100) (but : Int) (hr : rumorsR l = true) : ∀ (q : Nat) (fs : List S54) (is : List Bool), PkInv l fs is → fs.length + q ≤ 3 → Ev (fun k => spec_l06Pick.l0 k l but is fs ((3 - q : Nat) : Int)) ((bump l (pkS l but q fs is).2).filter (fun x => decide (x.f1 < 4)), (pkS l but q fs is).1)
  | 0, fs, is, h, _ => by
    obtain ⟨h1, h2, h6⟩ := rumorsR_six hr
    have := specPick_l2 l (by omega) h1 is h.len fs l.length 0 [] (by omega) (by simp)
    rw [List.drop_zero, List.nil_append] at this
    refine Ev.step (f := fun k => spec_l06Pick.j2 k l is fs) (fun k => ?_) (Ev.step (fun k => ?_) this)
    · simp only [spec_l06Pick.l0]; rw [if_neg (by omega)]
    · simp only [spec_l06Pick.j2]; rfl
  | q + 1, fs, is, h, hq => by
    obtain ⟨h1, h2, h6⟩ := rumorsR_six hr
    have hf := bst_found l is but l.length 0 (-1) (by omega) (fun h => absurd h (by omega)) (by omega)
    rw [pkS]
    refine Ev.step (f := fun k => spec_l06Pick.l1 k l but is fs ((3 - (q + 1) : Nat) : Int) (-1) ((0 : Nat) : Int)) (fun k => ?_) (specPick_l1 l but (by omega) is h.len fs _ l.length 0 (-1) (by omega) (by omega) (by omega) ?_)
    · simp only [spec_l06Pick.l0]; rw [if_pos (by omega)]; rfl
    by_cases hb : impl_picked.bst l is but l.length 0 (-1) < 0
    · rw [if_pos hb]
      have := specPick_l2 l (by omega) h1 is h.len fs l.length 0 [] (by omega) (by simp)
      rw [List.drop_zero, List.nil_append] at this
      refine Ev.step (f := fun k => spec_l06Pick.j2 k l is fs) (fun k => ?_) (Ev.step (fun k => ?_) this)
      · simp only [spec_l06Pick.l1]; rw [if_neg (by omega), if_pos hb]
      · simp only [spec_l06Pick.j2]; rfl
    · rw [if_neg hb]
      obtain ⟨b, hbe⟩ := Int.eq_ofNat_of_zero_le (show 0 ≤ impl_picked.bst l is but l.length 0 (-1) by omega)
      rw [hbe] at hf ⊢
      rw [Int.toNat_natCast] at hf ⊢
      obtain ⟨hb1, hb2, hb3⟩ := hf.2 (by omega)
      have hbl : b < l.length := by omega
      have hlen := putV_length fs (l.getD b z100).f0.f0 (l.getD b z100).f0.f1 (l.getD b z100).f0.f2
      have ih := specPick_l0 l but hr q _ _ (h.next hbl hb2) (by omega)
      have hh := h.len
      refine Ev.step (fun k => ?_) (Ev.bind (specPutV_ev fs (l.getD b z100).f0.f0 (l.getD b z100).f0.f1 (l.getD b z100).f0.f2 (by omega)) (f := fun k t => spec_l06Pick.l0 k l but (is.set b true) t.1 ((3 - q : Nat) : Int)) ih)
      simp only [spec_l06Pick.l1]
      rw [if_neg (by omega), if_neg (by omega), if_pos (by omega), if_pos (by omega), if_pos (by omega), rdR_nat, Int.toNat_natCast, show wrap64 (((3 - (q + 1) : Nat) : Int) + 1) = ((3 - q : Nat) : Int) by rw [wrap_id (by omega) (by omega)]; omega]
theorem pkInv_start (l : List S100) : PkInv l [] (List.replicate l.length false) := ⟨by simp, List.Pairwise.nil, fun x hx => absurd hx (by simp)⟩
/-- RumorPick. -/
def rumorPickS (l : List S100) (but : Int) : List S100 × List S54 × Int :=
  if 400 < l.length then ([], [], 2) else if rumorsR l = true then ((bump l (pkS l but 3 [] (List.replicate l.length false)).2).filter (fun x => decide (x.f1 < 4)), (pkS l but 3 [] (List.replicate l.length false)).1, 0) else ([], [], 1)
theorem pkS_length (l : List S100) (but : Int) : ∀ (q : Nat) (fs : List S54) (is : List Bool), (pkS l but q fs is).1.length ≤ fs.length + q ∧ (pkS l but q fs is).2.length = is.length
  | 0, fs, is => ⟨Nat.le_refl _, rfl⟩
  | q + 1, fs, is => by
    rw [pkS]
    split
    · exact ⟨by show fs.length ≤ _; omega, rfl⟩
    · have h1 := pkS_length l but q (putV fs (l.getD (impl_picked.bst l is but l.length 0 (-1)).toNat z100).f0.f0 (l.getD (impl_picked.bst l is but l.length 0 (-1)).toNat z100).f0.f1 (l.getD (impl_picked.bst l is but l.length 0 (-1)).toNat z100).f0.f2).1 (is.set (impl_picked.bst l is but l.length 0 (-1)).toNat true)
      have h2 := putV_length fs (l.getD (impl_picked.bst l is but l.length 0 (-1)).toNat z100).f0.f0 (l.getD (impl_picked.bst l is but l.length 0 (-1)).toNat z100).f0.f1 (l.getD (impl_picked.bst l is but l.length 0 (-1)).toNat z100).f0.f2
      refine ⟨by omega, by rw [h1.2]; simp⟩
theorem rumorPickS_length (l : List S100) (but : Int) : (rumorPickS l but).1.length ≤ 400 ∧ (rumorPickS l but).2.1.length ≤ 3 := by
  unfold rumorPickS
  have hp := pkS_length l but 3 [] (List.replicate l.length false)
  repeat' split
  · simp
  · refine ⟨?_, by simpa using hp.1⟩
    have h1 := List.length_filter_le (fun x => decide (x.f1 < 4)) (bump l (pkS l but 3 [] (List.replicate l.length false)).2)
    rw [bump_length l _ (by rw [hp.2]; simp)] at h1
    show (List.filter _ _).length ≤ 400
    omega
  · simp
theorem specRumorPick_ev (l : List S100) (but : Int) : Ev (fun k => spec_RumorPick.f k l but) (rumorPickS l but) := by
  unfold rumorPickS
  by_cases h4 : 400 < l.length
  · rw [if_pos h4]
    refine Ev.congr (f := fun _ => some _) (fun k => ?_) (Ev.now _)
    simp only [spec_RumorPick.f]; rw [if_pos (by omega)]
  · rw [if_neg h4]
    refine Ev.congr (fun k => by simp only [spec_RumorPick.f]; rw [if_neg (by omega)]) (Ev.bind (specRumors_ev l) ?_)
    by_cases hq : rumorsR l = true
    · rw [if_pos hq]
      simp only [if_pos hq]
      have := specPick_l0 l but hq 3 [] (List.replicate l.length false) (pkInv_start l) (by simp)
      refine Ev.bind (Ev.congr (fun k => ?_) this) (Ev.now _)
      simp only [spec_l06Pick.f]
      rw [if_pos (by omega), if_pos (by omega), Int.toNat_natCast]
      rfl
    · rw [if_neg hq]
      simp only [if_neg hq]
      exact Ev.now _
theorem implRumorPick_ev (l : List S100) (but : Int) (hl : l.length ≤ 1048576) : Ev (fun k => impl_RumorPick.f k l but) (rumorPickS l but) := by
  unfold rumorPickS
  by_cases h4 : 400 < l.length
  · rw [if_pos h4]
    refine Ev.congr (f := fun _ => some _) (fun k => ?_) (Ev.now _)
    simp only [impl_RumorPick.f, impl_Rumor_80.f, Option.bind_some]; rw [if_pos (by simp; omega)]
  · rw [if_neg h4]
    refine Ev.congr (fun k => by simp only [impl_RumorPick.f, impl_Rumor_80.f, Option.bind_some]; rw [if_neg (by simp; omega)]) (Ev.bind (implRumors_ev l hl) ?_)
    by_cases hq : rumorsR l = true
    · rw [if_pos hq]
      simp only [if_pos hq]
      have h := implPk_eq l but hq 3 [] (List.replicate l.length false) (pkInv_start l) (by simp)
      rw [bump_none] at h
      obtain ⟨h1, h2, h6⟩ := rumorsR_six hq
      have hp := pkS_length l but 3 [] (List.replicate l.length false)
      have e : (bump l (pkS l but 3 [] (List.replicate l.length false)).2).filter (fun x => !impl_picked.p 4 x) = (bump l (pkS l but 3 [] (List.replicate l.length false)).2).filter (fun x => decide (x.f1 < 4)) := by
        apply List.filter_congr
        intro x hx
        obtain ⟨j, hj, rfl⟩ := List.getElem_of_mem hx
        have hlen := bump_length l (pkS l but 3 [] (List.replicate l.length false)).2 (by rw [hp.2]; simp)
        have hjl : j < l.length := by omega
        have hat := bump_get l (pkS l but 3 [] (List.replicate l.length false)).2 (by rw [hp.2]; simp) j hj
        have hf := rumor_facts h1 hjl
        rw [impl_picked.p]
        by_cases e4 : ((bump l (pkS l but 3 [] (List.replicate l.length false)).2)[j]).f1 = 4
        · rw [e4]; rfl
        · have hle : ((bump l (pkS l but 3 [] (List.replicate l.length false)).2)[j]).f1 ≤ 4 := by
            by_cases e5 : (pkS l but 3 [] (List.replicate l.length false)).2.getD j false = true
            · rw [if_pos e5] at hat
              rw [hat]
              show (l.getD j z100).f1 + 1 ≤ 4
              omega
            · rw [if_neg e5] at hat
              rw [hat]
              omega
          rw [beq_eq_false_iff_ne.2 e4, decide_eq_true (by omega)]
          rfl
      refine Ev.congr (fun k => ?_) (Ev.now _)
      simp only [impl_picked.f]
      rw [if_pos hl, h, Option.bind_some, Option.bind_some, e]
    · rw [if_neg hq]
      simp only [if_neg hq]
      exact Ev.now _

theorem pickTail (l : List S103) (a : Int) (hl : l.length ≤ 1048576) (T : List S100 × List S54 × Int) (hT : T = rumorPickS (l.map toR) a) : Ev (fun k => laws_FnExactRumorPick.j0 k l a false T.1 T.2.1 T.2.2 T.1 T.2.1 T.2.2) true := by
  have h4 : T.1.length ≤ 400 ∧ T.2.1.length ≤ 3 := hT ▸ rumorPickS_length _ _
  refine Ev.step (fun k => by simp only [laws_FnExactRumorPick.j0, Bool.false_eq_true, if_false]; rfl) ?_
  refine Ev.bind (markRumorOut_ev T.1 T.2.1 T.2.2 (by omega) (by omega)) (Ev.bind (heldRumorOut_ev T.1.length T.2.1.length T.2.2 (by omega) (by omega)) ?_)
  simp only [if_neg (show ¬ (1 + 4 * (T.1.length : Int) + 3 * (T.2.1.length : Int)) < 0 by omega), if_true]
  refine Ev.bind (toRumorS_ev l hl) (Ev.bind (implRumorPick_ev _ a (by simpa using hl)) ?_)
  rw [← hT]
  refine Ev.bind (eqRumorOut_refl T.1 T.2.1 T.2.2 (by omega) (by omega)) ?_
  simp only [if_true]
  refine Ev.bind (heldRumorOut_ev T.1.length T.2.1.length T.2.2 (by omega) (by omega)) ?_
  simp only [if_neg (show ¬ (1 + 4 * (T.1.length : Int) + 3 * (T.2.1.length : Int)) < 0 by omega), if_true]
  exact Ev.now _
theorem FnExactRumorPick : laws_FnExactRumorPick.Goal := by
  intro l a hm _ _
  by_cases hb : 1048576 < l.length
  · refine Ev.rounds (Ev.congr (f := fun _ => some true) (fun k => ?_) (Ev.now _))
    simp only [laws_FnExactRumorPick.f, szRumorS_eq l (by omega), Option.bind_some]
    rw [if_pos hb, if_pos (by omega)]
  · have hl : l.length ≤ 1048576 := by omega
    have h4 := rumorPickS_length (l.map toR) a
    refine Ev.rounds (Ev.congr (fun k => by simp only [laws_FnExactRumorPick.f, szRumorS_eq l (by omega), Option.bind_some]; rw [if_neg hb, if_neg (by omega)]) ?_)
    refine Ev.bind (toRumorS_ev l hl) (Ev.bind (specRumorPick_ev _ a) (Ev.bind (toRumorS_ev l hl) (Ev.bind (implRumorPick_ev _ a (by simpa using hl)) (Ev.bind (eqRumorOut_refl _ _ _ (by omega) (by omega)) ?_))))
    simp only [if_true]
    refine Ev.bind (toRumorS_ev l hl) (Ev.bind (eqRumors_refl _ (by simp; omega)) ?_)
    simp only [if_true]
    refine Ev.bind (markRumors_ev (l.map toR) 1 (by omega) (by simp; omega)) ?_
    simp only [if_neg (show ¬ (1 + 4 * ((l.map toR).length : Int)) < 0 by omega)]
    refine Ev.bind (eqRumorOut_refl _ _ _ (by omega) (by omega)) ?_
    exact pickTail l a hl _ rfl

end Go.Proofs.Ythgofcgkmdbcdaa.Pure
