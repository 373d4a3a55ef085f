/- The plain law of FnExactViewJoin: what the Lean functions of the printed texts answer. -/
import Derived.Test.YthgofcgkmdbcdaaGFnExactViewJoin
import Derived.Test.YthgofcgkmdbcdaaXFnExactViewJoin
namespace Go.Proofs.Ythgofcgkmdbcdaa.Pure
open Go.RowKit Go.Proofs.Ythgofcgkmdbcdaa.PFnExactViewJoin Go.Proofs.YthgofcgkmdbcdaaW.PrintWords Go.Proofs.YthgofcgkmdbcdaaW.PrintLast Go.Proofs.YthgofcgkmdbcdaaW.PrintMore Go.Proofs.YthgofcgkmdbcdaaH
set_option linter.unusedVariables false
set_option linter.unusedSimpArgs false

/-- A fact, as the program has it. -/
def toF (x : S47) : S54 := ⟨x.f0, x.f1, x.f2⟩
theorem szFactS_eq (l : List S47) (hl : (l.length : Int) ≤ 9223372036854775807) : laws_szFactS.f l 1048576 = some (if 1048576 < l.length then -1 else 1048576 - (l.length : Int)) := by
  unfold laws_szFactS.f
  rw [wrap_id (by omega) (by omega)]
  split <;> split <;> first | rfl | omega
theorem toFactS_ev (l : List S47) (hl : l.length ≤ 1048576) : Ev (fun k => laws_toFactS.f k l) (l.map toF) := by
  have h := fillLoop l.length (fun i => toF (l.getD i z47)) (fun k ys i => laws_toFactS.l0 k l ys i) (fun k i ys hi hy => by
      simp only [laws_toFactS.l0, laws_toFact.f, Option.bind_some]
      rw [if_pos (by omega), if_pos (by omega), if_pos (by omega), wrap_succ hi (by omega)]
      simp [rd_T47, toF]) (fun k ys hy => by
      simp only [laws_toFactS.l0]
      rw [if_neg (by omega)]) l.length 0 (List.replicate l.length z54) (by omega) (by simp)
  rw [map_range] at h
  refine Ev.congr (fun k => ?_) (by simpa using h)
  simp only [laws_toFactS.f]
  rw [if_pos (by omega), if_pos (by omega)]
  simp

theorem eqFact_eq (a b c a' b' c' : Int) : laws_eqFact.f a b c a' b' c' = some (decide (a = a') && (decide (b = b') && decide (c = c'))) := by
  unfold laws_eqFact.f
  repeat' split
  all_goals simp [*]
theorem fact_ext (x y : S54) : (decide (x.f0 = y.f0) && (decide (x.f1 = y.f1) && decide (x.f2 = y.f2))) = true ↔ x = y := by
  cases x; cases y; simp
theorem eqFactS_ev (l m : List S54) (hl : l.length ≤ 140737488355328) : ∃ b : Bool, (b = true ↔ l = m) ∧ Ev (fun k => laws_eqFactS.f k l m) b := by
  by_cases h : m.length = l.length
  · have hh := allLoop l.length (fun i => (decide ((l.getD i z54).f0 = (m.getD i z54).f0) && (decide ((l.getD i z54).f1 = (m.getD i z54).f1) && decide ((l.getD i z54).f2 = (m.getD i z54).f2)))) true (fun k i => laws_eqFactS.l0 k l m i) (fun k i hi => by
        simp only [laws_eqFactS.l0, eqFact_eq, Option.bind_some, rd_T54]
        rw [if_pos (by omega), if_pos (by omega), if_pos (by omega), wrap_succ hi hl]
        simp only [Int.toNat_natCast]) (fun k => by
        simp only [laws_eqFactS.l0]
        rw [if_neg (by omega)]) l.length 0 (by omega)
    refine ⟨_, ?_, Ev.congr (fun k => ?_) hh⟩
    · rw [Bool.and_true, allB_iff]
      constructor
      · intro hj
        apply List.ext_getElem h.symm
        intro i h1 h2
        have := (fact_ext _ _).1 (hj i (by omega) (by omega))
        simpa [List.getD, h1, h2] using this
      · rintro rfl j _ _
        simp
    · simp only [laws_eqFactS.f]; rw [if_pos (by omega)]; rfl
  · refine ⟨false, ⟨fun h => by simp at h, fun e => by rw [e] at h; exact absurd rfl h⟩, Ev.congr (f := fun k => some false) (fun k => ?_) (Ev.now _)⟩
    simp only [laws_eqFactS.f]; rw [if_neg (by omega)]

/-- Is the fact at place i one that may stand there? -/
def viewT (l : List S54) (i : Nat) : Bool := factR (l.getD i z54).f0 (l.getD i z54).f1 (l.getD i z54).f2 && (decide (i = 0) || decide ((l.getD (i - 1) z54).f0 < (l.getD i z54).f0))
/-- Is a view right? -/
def viewR (l : List S54) : Bool := allB (viewT l) 0 l.length
theorem factR_iff {a b c : Int} : factR a b c = true ↔ (1 ≤ a ∧ a ≤ 6) ∧ (0 ≤ b ∧ b ≤ 1000000) ∧ (1 ≤ c ∧ c ≤ 3) := by
  simp only [factR, Bool.and_eq_true, inR_iff]
theorem rdF_nat (l : List S54) (i : Nat) : rd_T54 l (i : Int) = l.getD i z54 := by simp [rd_T54]
theorem viewT_iff {l : List S54} {i : Nat} : viewT l i = true ↔ factR (l.getD i z54).f0 (l.getD i z54).f1 (l.getD i z54).f2 = true ∧ (i = 0 ∨ (l.getD (i - 1) z54).f0 < (l.getD i z54).f0) := by
  simp only [viewT, Bool.and_eq_true, Bool.or_eq_true, decide_eq_true_eq]
theorem viewR_six {l : List S54} (h : viewR l = true) : l.length ≤ 6 := by
  refine rising_six (fun j => (l.getD j z54).f0) l.length (fun j hj => ?_)
  have := (allB_iff _ _ _).1 h j (by omega) (by omega)
  simp only [viewT, Bool.and_eq_true, Bool.or_eq_true, decide_eq_true_eq, factR_iff] at this
  obtain ⟨⟨⟨h1, h2⟩, _⟩, h3⟩ := this
  exact ⟨h1, h2, fun h0 => by rcases h3 with h3 | h3; omega; exact h3⟩

/-- A fact's marks. -/
def markF (a : Int) : S54 := ⟨a, a + 1, a + 2⟩
theorem markFacts_ev (l : List S54) (a : Int) (ha : 0 ≤ a) (hb : a + 3 * l.length ≤ 4611686018427387904) : Ev (fun k => laws_markFactS.f k l a) (a + 3 * l.length, marks markF 3 a l.length) := by
  have h := markLoop l.length markF 3 (by omega) (fun k ys a i => laws_markFactS.l0 k ys a i) (fun k i a ys hi hy h0 h1 => by
      simp only [laws_markFactS.l0, Option.bind_some]
      rw [if_pos (by omega), if_pos (by omega), wrap_id (x := a + 1) (by omega) (by omega), wrap_id (x := a + 1 + 1) (by omega) (by omega), wrap_id (x := a + 1 + 1 + 1) (by omega) (by omega), wrap_id (x := (i : Int) + 1) (by omega) (by omega)]
      simp only [rdF_nat, Int.toNat_natCast, List.set_set, getD_set_self _ _ _ i (show i < ys.length by omega)]
      rw [show a + 1 + 1 = a + 2 by omega, show a + 2 + 1 = a + 3 by omega]
      rfl) (fun k a ys hy => by
      simp only [laws_markFactS.l0]
      rw [if_neg (by omega)]) l.length 0 a l (by omega) rfl ha (by omega)
  simpa [laws_markFactS.f] using h

theorem heldFacts_ev (n : Nat) (a : Int) (ha : 0 ≤ a) (hb : a + 3 * n ≤ 4611686018427387904) : Ev (fun k => laws_heldFactS.f k (marks markF 3 a n) a) (a + 3 * n) := by
  have hl := marks_length markF 3 n a
  have h := heldLoop n 3 (by omega) a ha (by omega) (fun k x i => laws_heldFactS.l0 k (marks markF 3 a n) x i) (fun k i hi h1 h2 => by
      have em : (marks markF 3 a n).getD i z54 = markF (a + 3 * i) := marks_at _ _ _ n i a hi
      simp only [laws_heldFactS.l0]
      rw [if_pos (by omega), if_pos (by omega), rdF_nat, em, if_pos (show (markF (a + 3 * (i : Int))).f0 = a + 3 * (i : Int) from rfl), wrap_id (x := a + 3 * (i : Int) + 1) (by omega) (by omega), if_pos (show (markF (a + 3 * (i : Int))).f1 = a + 3 * (i : Int) + 1 from rfl), wrap_id (x := a + 3 * (i : Int) + 1 + 1) (by omega) (by omega), if_pos (show (markF (a + 3 * (i : Int))).f2 = a + 3 * (i : Int) + 1 + 1 by simp only [markF]; omega), wrap_id (x := a + 3 * (i : Int) + 1 + 1 + 1) (by omega) (by omega), wrap_id (x := (i : Int) + 1) (by omega) (by omega)]
      rw [show a + 3 * (i : Int) + 1 + 1 + 1 = a + 3 * i + 3 by omega]
      rfl) (fun k x => by
      simp only [laws_heldFactS.l0]
      rw [if_neg (by omega)]) n 0 (by omega)
  simpa [laws_heldFactS.f] using h

theorem eqViewFacts_refl (l : List S54) (hl : l.length ≤ 140737488355328) : Ev (fun k => laws_eqFactS.f k l l) true := by
  obtain ⟨b, hb1, hb2⟩ := eqFactS_ev l l hl
  rw [hb1.2 rfl] at hb2
  exact hb2
theorem eqViewOut_refl (l : List S54) (b : Bool) (c : Int) (hl : l.length ≤ 140737488355328) : Ev (fun k => laws_eqViewOut.f k l b c l b c) true := by
  refine Ev.bind (eqViewFacts_refl l hl) ?_
  simp only [if_true, bne_self_eq_false, Bool.false_eq_true, if_false]
  exact Ev.now _
theorem markViewOut_ev (l : List S54) (b : Bool) (c : Int) (hl : l.length ≤ 140737488355328) : Ev (fun k => laws_markViewOut.f k l b c 1) (1 + 3 * (l.length : Int), marks markF 3 1 l.length) :=
  Ev.bind (markFacts_ev l 1 (by omega) (by omega)) (Ev.now _)
theorem heldViewOut_ev (n : Nat) (b : Bool) (c : Int) (hl : n ≤ 140737488355328) : Ev (fun k => laws_heldViewOut.f k (marks markF 3 1 n) b c 1) (1 + 3 * (n : Int)) := by
  refine Ev.bind (heldFacts_ev n 1 (by omega) (by omega)) ?_
  rw [if_neg (by omega)]
  exact Ev.now _

/-- A fact put to a view: the view, and whether that is news. -/
def putV : List S54 → Int → Int → Int → List S54 × Bool
  | [], a, b, c => ([⟨a, b, c⟩], true)
  | y :: B, a, b, c => if y.f0 < a then (y :: (putV B a b c).1, (putV B a b c).2) else if y.f0 = a then (if lessF y.f1 y.f2 b c = true then (⟨a, b, c⟩ :: B, true) else (y :: B, false)) else (⟨a, b, c⟩ :: y :: B, true)
theorem putV_length : ∀ (v : List S54) (a b c : Int), (putV v a b c).1.length ≤ v.length + 1
  | [], a, b, c => by simp [putV]
  | y :: B, a, b, c => by
    have := putV_length B a b c
    rw [putV]
    repeat' split
    all_goals simp only [List.length_cons]
    all_goals omega
theorem putV_at : ∀ (v : List S54) (a b c : Int) (m : Nat), m ≤ v.length → (∀ j, j < m → (v.getD j z54).f0 < a) → (m < v.length → ¬ (v.getD m z54).f0 < a) →
    putV v a b c = if m < v.length ∧ (v.getD m z54).f0 = a then (if lessF (v.getD m z54).f1 (v.getD m z54).f2 b c = true then (v.take m ++ [⟨a, b, c⟩] ++ v.drop (m + 1), true) else (v, false)) else (v.take m ++ [⟨a, b, c⟩] ++ v.drop m, true)
  | [], a, b, c, m, h, _, _ => by
    simp only [List.length_nil, Nat.le_zero] at h
    subst h
    simp [putV]
  | y :: B, a, b, c, 0, h, h1, h2 => by
    have h3 := h2 (by simp)
    simp only [List.getD_cons_zero] at h3 ⊢
    rw [putV, if_neg h3]
    by_cases e : y.f0 = a
    · rw [if_pos e, if_pos (show 0 < (y :: B).length ∧ y.f0 = a from ⟨by simp, e⟩)]
      split <;> simp
    · rw [if_neg e, if_neg (show ¬ (0 < (y :: B).length ∧ y.f0 = a) from fun z => e z.2)]
      simp
  | y :: B, a, b, c, m + 1, h, h1, h2 => by
    have h0 := h1 0 (by omega)
    simp only [List.getD_cons_zero] at h0
    have ih := putV_at B a b c m (by simpa using h) (fun j hj => by have := h1 (j + 1) (by omega); rwa [List.getD_cons_succ] at this) (fun hm => by have := h2 (by simpa using hm); rwa [List.getD_cons_succ] at this)
    rw [putV, if_pos h0, ih]
    simp only [List.getD_cons_succ, List.length_cons, Nat.add_lt_add_iff_right]
    repeat' split
    all_goals simp
/-- A right view: its facts are right, and rise. -/
theorem viewR_pw {v : List S54} : viewR v = true ↔ (∀ x ∈ v, factR x.f0 x.f1 x.f2 = true) ∧ v.Pairwise (fun x y => x.f0 < y.f0) := by
  rw [viewR, allB_iff]
  constructor
  · intro h
    have hs : ∀ b a : Nat, a < b → b < v.length → (v.getD a z54).f0 < (v.getD b z54).f0 := by
      intro b
      induction b with
      | zero => intro a h1; omega
      | succ b ih =>
        intro a h1 h2
        have h3 := (viewT_iff.1 (h (b + 1) (by omega) (by omega))).2
        rw [Nat.add_sub_cancel] at h3
        rcases h3 with h3 | h3
        · omega
        · rcases Nat.lt_or_ge a b with h4 | h4
          · have := ih a h4 (by omega); omega
          · have : a = b := by omega
            subst this; exact h3
    refine ⟨fun x hx => ?_, ?_⟩
    · obtain ⟨j, hj, rfl⟩ := List.getElem_of_mem hx
      have := (viewT_iff.1 (h j (by omega) (by omega))).1
      simpa only [List.getD, List.getElem?_eq_getElem hj, Option.getD_some] using this
    · rw [List.pairwise_iff_getElem]
      intro i j hi hj hij
      have := hs j i hij hj
      simpa only [List.getD, List.getElem?_eq_getElem hi, List.getElem?_eq_getElem hj, Option.getD_some] using this
  · rintro ⟨h1, h2⟩ j _ hj
    have hj : j < v.length := by omega
    rw [viewT_iff]
    refine ⟨?_, ?_⟩
    · have := h1 v[j] (List.getElem_mem hj)
      simpa only [List.getD, List.getElem?_eq_getElem hj, Option.getD_some] using this
    · rcases Nat.eq_zero_or_pos j with h | h
      · exact .inl h
      · have := List.pairwise_iff_getElem.1 h2 (j - 1) j (by omega) hj (by omega)
        right
        simpa only [List.getD, List.getElem?_eq_getElem hj, List.getElem?_eq_getElem (show j - 1 < v.length by omega), Option.getD_some] using this
theorem putV_mem : ∀ (v : List S54) (a b c : Int) (x : S54), x ∈ (putV v a b c).1 → x ∈ v ∨ x = ⟨a, b, c⟩
  | [], a, b, c, x, h => by simp [putV] at h; exact .inr h
  | y :: B, a, b, c, x, h => by
    rw [putV] at h
    split at h
    · simp only [List.mem_cons] at h
      rcases h with rfl | h
      · exact .inl (by simp)
      · rcases putV_mem B a b c x h with h | h
        · exact .inl (by simp [h])
        · exact .inr h
    · split at h
      · split at h
        · simp only [List.mem_cons] at h
          rcases h with rfl | h
          · exact .inr rfl
          · exact .inl (by simp [h])
        · exact .inl h
      · simp only [List.mem_cons] at h
        rcases h with rfl | h
        · exact .inr rfl
        · exact .inl (by simpa using h)
theorem putV_pw : ∀ (v : List S54) (a b c : Int), v.Pairwise (fun x y => x.f0 < y.f0) → (putV v a b c).1.Pairwise (fun x y => x.f0 < y.f0)
  | [], a, b, c, h => by simp [putV]
  | y :: B, a, b, c, h => by
    rw [List.pairwise_cons] at h
    rw [putV]
    split
    · rename_i h1
      rw [List.pairwise_cons]
      refine ⟨fun x hx => ?_, putV_pw B a b c h.2⟩
      rcases putV_mem B a b c x hx with h3 | rfl
      · exact h.1 x h3
      · exact h1
    · rename_i h1
      split
      · rename_i h2
        split
        · rw [List.pairwise_cons]
          exact ⟨fun x hx => by have := h.1 x hx; show a < x.f0; omega, h.2⟩
        · rw [List.pairwise_cons]; exact h
      · rename_i h2
        rw [List.pairwise_cons]
        refine ⟨fun x hx => ?_, List.pairwise_cons.2 h⟩
        simp only [List.mem_cons] at hx
        rcases hx with rfl | hx
        · show a < x.f0; omega
        · have := h.1 x hx; show a < x.f0; omega
theorem putV_right {v : List S54} {a b c : Int} (h : viewR v = true) (hf : factR a b c = true) : viewR (putV v a b c).1 = true := by
  rw [viewR_pw] at h ⊢
  refine ⟨fun x hx => ?_, putV_pw v a b c h.2⟩
  rcases putV_mem v a b c x hx with h3 | rfl
  · exact h.1 x h3
  · exact hf

theorem spec_l02Is_eq (a b c : Int) : spec_l02Is.f a b c = some (inR a b c) := by
  by_cases h : b ≤ a <;> simp [spec_l02Is.f, inR, h]

theorem spec_l04Node_eq (a : Int) : spec_l04Node.f a = some (inR a 1 6) := by simp [spec_l04Node.f, spec_l02Is_eq]
theorem spec_l03Time_eq (a : Int) : spec_l03Time.f a = some (inR a 0 1000000) := by simp [spec_l03Time.f, spec_l02Is_eq]
theorem spec_FactRight_eq (a b c : Int) : spec_FactRight.f a b c = some (factR a b c) := by
  simp only [spec_FactRight.f, spec_l04Node_eq, spec_l03Time_eq, spec_l02Is_eq, Option.bind_some, factR]
  cases inR a 1 6 <;> cases inR b 0 1000000 <;> simp

theorem spec_l04Less_eq (n i s n' i' s' : Int) : spec_l04Less.f n i s n' i' s' = some (lessF i s i' s') := by
  unfold spec_l04Less.f lessF
  repeat' split
  all_goals simp [*]

theorem spec_l04Join_eq (n i s n' i' s' : Int) : spec_l04Join.f n i s n' i' s' = some (if lessF i s i' s' = true then (n', i', s') else (n, i, s)) := by
  simp only [spec_l04Join.f, spec_l04Less_eq, Option.bind_some, ite_some]

theorem news_of (i s i' s' : Int) (h : lessF i s i' s' = true) : ¬ (i' = i ∧ s' = s) := by
  rintro ⟨rfl, rfl⟩
  simp [lessF] at h
/-- What is answered at place m. -/
def putFin (v : List S54) (a b c : Int) (m : Nat) : List S54 × Bool × Int :=
  if m < v.length ∧ (v.getD m z54).f0 = a then (if lessF (v.getD m z54).f1 (v.getD m z54).f2 b c = true then (v.take m ++ [⟨a, b, c⟩] ++ v.drop (m + 1), true, 0) else (v, false, 0)) else (v.take m ++ [⟨a, b, c⟩] ++ v.drop m, true, 0)
theorem specPutV_end (v : List S54) (a b c : Int) (hl : v.length ≤ 1048576) (k : Nat) : spec_l04Put.l0 (k + 1) v (v.length : Int) a b c = some (putFin v a b c v.length) := by
  have e1 : (v.take v.length).length ≤ 1048576 := by rw [List.length_take]; omega
  have e2 : (v.drop v.length).length ≤ 1048576 := by rw [List.length_drop]; omega
  have L (l : List S54) : (([] : List S54) ++ l) = l := List.nil_append l
  have L0 : ([] : List S54).length = 0 := rfl
  have e4 : (v.take v.length ++ [(⟨a, b, c⟩ : S54)]).length = (v.take v.length).length + 1 := by rw [List.length_append]; rfl
  simp only [spec_l04Put.l0]
  rw [if_neg (by omega), Option.bind_some, if_pos (by omega), if_pos (by omega), Int.toNat_natCast, Option.bind_some, L, if_pos (by omega), Option.bind_some, if_pos (by omega), Option.bind_some, Option.bind_some, if_pos (by omega)]
  rw [putFin, if_neg (show ¬ (v.length < v.length ∧ (v.getD v.length z54).f0 = a) from fun z => absurd z.1 (by omega))]
theorem specPutV_other (v : List S54) (a b c : Int) (hl : v.length ≤ 1048576) (k i : Nat) (h : i < v.length) (h2 : ¬ (v.getD i z54).f0 < a) (e : ¬ (v.getD i z54).f0 = a) : spec_l04Put.l0 (k + 1) v (i : Int) a b c = some (putFin v a b c i) := by
  have e1 : (v.take i).length ≤ 1048576 := by rw [List.length_take]; omega
  have e2 : (v.drop i).length ≤ 1048576 := by rw [List.length_drop]; omega
  have L (l : List S54) : (([] : List S54) ++ l) = l := List.nil_append l
  have L0 : ([] : List S54).length = 0 := rfl
  have e4 : (v.take i ++ [(⟨a, b, c⟩ : S54)]).length = (v.take i).length + 1 := by rw [List.length_append]; rfl
  simp only [spec_l04Put.l0]
  rw [rdF_nat, if_pos (by omega), if_pos (by omega), if_neg h2, Option.bind_some, if_pos (by omega), Option.bind_some, Int.toNat_natCast, L, if_pos (by omega), Option.bind_some, if_neg e, if_pos (by omega), Option.bind_some, Option.bind_some, if_pos (by omega)]
  rw [putFin, if_neg (show ¬ (i < v.length ∧ (v.getD i z54).f0 = a) from fun z => e z.2)]
theorem specPutV_same (v : List S54) (a b c : Int) (hl : v.length ≤ 1048576) (k i : Nat) (h : i < v.length) (e : (v.getD i z54).f0 = a) : spec_l04Put.l0 (k + 1) v (i : Int) a b c = some (putFin v a b c i) := by
  have e1 : (v.take i).length ≤ 1048576 := by rw [List.length_take]; omega
  have e3 : (v.drop (i + 1)).length ≤ 1048576 := by rw [List.length_drop]; omega
  have hw := wrap_succ (i := i) (n := v.length) h (by omega)
  simp only [spec_l04Put.l0, Option.bind_some, List.nil_append, List.length_nil, Int.toNat_natCast, List.length_append, List.length_singleton, rdF_nat, spec_l04Join_eq, hw]
  rw [if_pos (by omega), if_pos (by omega), if_neg (by omega), if_pos (by omega), if_pos (by omega), if_pos e, if_pos (by omega), if_pos (by omega), if_pos (by omega), if_pos (by omega), putFin, if_pos (show i < v.length ∧ _ from ⟨h, e⟩)]
  have hdr := drop_at v z54 h
  generalize v.getD i z54 = y at *
  cases hc : lessF y.f1 y.f2 b c with
  | true =>
    have hn := news_of _ _ _ _ hc
    simp only [if_true]
    have h5 : (!(a == y.f0) || (!(b == y.f1) || !(c == y.f2))) = true := by
      by_cases h3 : b = y.f1
      · by_cases h4 : c = y.f2
        · exact absurd ⟨h3, h4⟩ hn
        · rw [beq_eq_false_iff_ne.2 h4]; simp
      · rw [beq_eq_false_iff_ne.2 h3]; simp
    rw [h5]
  | false =>
    simp only [Bool.false_eq_true, if_false, beq_self_eq_true, Bool.not_true, Bool.or_false]
    rw [List.append_assoc, List.singleton_append]
    have h6 : (⟨y.f0, y.f1, y.f2⟩ : S54) = y := rfl
    rw [h6, ← hdr, List.take_append_drop]
theorem putFin_eq (v : List S54) (a b c : Int) (m : Nat) (h : putV v a b c = if m < v.length ∧ (v.getD m z54).f0 = a then (if lessF (v.getD m z54).f1 (v.getD m z54).f2 b c = true then (v.take m ++ [⟨a, b, c⟩] ++ v.drop (m + 1), true) else (v, false)) else (v.take m ++ [⟨a, b, c⟩] ++ v.drop m, true)) : putFin v a b c m = ((putV v a b c).1, (putV v a b c).2, 0) := by
  rw [h, putFin]
  repeat' split
  all_goals rfl
theorem specPutV_ev (v : List S54) (a b c : Int) (hl : v.length ≤ 1048576) : Ev (fun k => spec_l04Put.f k v a b c) ((putV v a b c).1, (putV v a b c).2, 0) := by
  obtain ⟨m, _, a2, a3, a4, a5⟩ := seekLoop v.length (fun i => decide ((v.getD i z54).f0 < a)) (fun k i => spec_l04Put.l0 k v i a b c) (putFin v a b c) (fun k i hi hb => by
      have hw := wrap_succ (i := i) (n := v.length) hi (by omega)
      simp only [spec_l04Put.l0]
      rw [if_pos (by omega), if_pos (by omega), rdF_nat, if_pos (of_decide_eq_true hb), hw]) (fun k i hi hb => by
      by_cases h : i < v.length
      · by_cases e : (v.getD i z54).f0 = a
        · exact specPutV_same v a b c hl k i h e
        · exact specPutV_other v a b c hl k i h (of_decide_eq_false (hb h)) e
      · obtain rfl : i = v.length := by omega
        exact specPutV_end v a b c hl k) v.length 0 (by omega)
  rw [← putFin_eq v a b c m (putV_at v a b c m a2 (fun j hj => of_decide_eq_true (a4 j (by omega) hj)) (fun h => of_decide_eq_false (a5 h)))]
  exact Ev.congr (fun k => rfl) a3

/-- The fact of a node. -/
def atS : List S54 → Int → Int × Int × Int
  | [], _ => (0, 0, 0)
  | x :: l, n => if x.f0 = n then (x.f0, x.f1, x.f2) else atS l n

theorem implAt_l0 (l : List S54) (n : Int) (hl : l.length ≤ 140737488355328) : ∀ d i : Nat, i + d = l.length → Ev (fun k => impl_factAt.l0 k n l (l.length : Int) (i : Int)) (atS (l.drop i) n)
  | 0, i, h => Ev.step (f := fun _ => some (0, 0, 0)) (fun k => by simp only [impl_factAt.l0]; rw [if_neg (by omega)]) (by rw [List.drop_of_length_le (by omega)]; exact Ev.now _)
  | d + 1, i, h => by
    rw [drop_at l z54 (show i < l.length by omega), atS]
    by_cases ho : (l.getD i z54).f0 = n
    · rw [if_pos ho]
      refine Ev.step (f := fun k => some _) (fun k => ?_) (Ev.now _)
      simp only [impl_factAt.l0]
      rw [rdF_nat, if_pos (by omega), if_pos (by omega), if_pos (by omega), if_pos ho]
    · rw [if_neg ho]
      refine Ev.step (fun k => ?_) (implAt_l0 l n hl d (i + 1) (by omega))
      simp only [impl_factAt.l0]
      rw [wrap_succ (n := l.length) (by omega) hl, rdF_nat, if_pos (by omega), if_pos (by omega), if_pos (by omega), if_neg ho]
theorem implAt_ev (l : List S54) (n : Int) (hl : l.length ≤ 140737488355328) : Ev (fun k => impl_factAt.f k l n) (atS l n) := implAt_l0 l n hl l.length 0 (by omega)

theorem impl_less_eq (n i s n' i' s' : Int) : impl_less.f n i s n' i' s' = some (lessF i s i' s') := by
  unfold impl_less.f lessF
  repeat' split
  all_goals simp [*]

theorem atS_none : ∀ (v : List S54) (a : Int), (∀ x ∈ v, x.f0 ≠ a) → atS v a = (0, 0, 0)
  | [], a, h => rfl
  | y :: B, a, h => by rw [atS, if_neg (h y (by simp)), atS_none B a (fun x hx => h x (by simp [hx]))]
theorem atS_some {v : List S54} (hp : v.Pairwise (fun x y => x.f0 < y.f0)) : ∀ {x : S54}, x ∈ v → atS v x.f0 = (x.f0, x.f1, x.f2) := by
  induction v with
  | nil => intro x h; simp at h
  | cons y B ih =>
    intro x h
    rw [List.pairwise_cons] at hp
    simp only [List.mem_cons] at h
    rcases h with rfl | h
    · rw [atS, if_pos rfl]
    · have := hp.1 x h
      rw [atS, if_neg (by omega), ih hp.2 h]
theorem withBs_ev (l : List S54) (n : Int) (hl : l.length ≤ 1048576) : ∃ m, m ≤ l.length ∧ impl_withFact.at_ l n = m ∧ (0 < m → impl_withFact.cmp (l.getD (m - 1) z54) n < 0) ∧ (m < l.length → ¬ impl_withFact.cmp (l.getD m z54) n < 0) := by
  have key : ∀ (f i j : Nat), j - i < f → i ≤ j → j ≤ l.length → ∃ m, i ≤ m ∧ m ≤ j ∧ impl_withFact.bs l n f i j = m ∧ (i < m → impl_withFact.cmp (l.getD (m - 1) z54) n < 0) ∧ (m < j → ¬ impl_withFact.cmp (l.getD m z54) n < 0) := by
    intro f
    induction f with
    | zero => intro i j h; omega
    | succ f ih =>
      intro i j h1 h2 h3
      by_cases hij : i < j
      · by_cases hc : impl_withFact.cmp (l.getD ((i + j) / 2) z54) n < 0
        · obtain ⟨m, a1, a2, a3, a4, a5⟩ := ih ((i + j) / 2 + 1) j (by omega) (by omega) h3
          refine ⟨m, by omega, a2, by rw [impl_withFact.bs, if_pos hij, if_pos hc]; exact a3, fun h => ?_, a5⟩
          by_cases e : (i + j) / 2 + 1 < m
          · exact a4 e
          · rw [show m - 1 = (i + j) / 2 by omega]; exact hc
        · obtain ⟨m, a1, a2, a3, a4, a5⟩ := ih i ((i + j) / 2) (by omega) (by omega) (by omega)
          refine ⟨m, a1, by omega, by rw [impl_withFact.bs, if_pos hij, if_neg hc]; exact a3, a4, fun h => ?_⟩
          by_cases e : m < (i + j) / 2
          · exact a5 e
          · rw [show m = (i + j) / 2 by omega]; exact hc
      · obtain rfl : i = j := by omega
        exact ⟨i, Nat.le_refl _, Nat.le_refl _, by rw [impl_withFact.bs, if_neg hij], fun h => absurd h (Nat.lt_irrefl _), fun h => absurd h (Nat.lt_irrefl _)⟩
  obtain ⟨m, _, a2, a3, a4, a5⟩ := key (l.length + 1) 0 l.length (by omega) (by omega) (by omega)
  exact ⟨m, a2, a3, a4, a5⟩
/-- withFact, where what stands of the node is less than the fact, or nothing. -/
theorem withFact_eq (v : List S54) (a b c : Int) (hl : v.length ≤ 1048576) (hp : v.Pairwise (fun x y => x.f0 < y.f0)) (hn : ∀ x ∈ v, -1000 ≤ x.f0 ∧ x.f0 ≤ 1000) (ha : -1000 ≤ a ∧ a ≤ 1000) (hless : ∀ x ∈ v, x.f0 = a → lessF x.f1 x.f2 b c = true) :
    impl_withFact.f v a b c = some (putV v a b c).1 ∧ (putV v a b c).2 = true := by
  obtain ⟨m, a2, a3, a4, a5⟩ := withBs_ev v a hl
  have getM : ∀ j, j < v.length → v.getD j z54 ∈ v := fun j hj => by
    simp only [List.getD, List.getElem?_eq_getElem hj, Option.getD_some]
    exact List.getElem_mem hj
  have cmpE : ∀ j, j < v.length → impl_withFact.cmp (v.getD j z54) a = (v.getD j z54).f0 - a := fun j hj => by
    have := hn _ (getM j hj)
    rw [impl_withFact.cmp, wrap_id (by omega) (by omega)]
  have hlt : ∀ i j, i < j → j < v.length → (v.getD i z54).f0 < (v.getD j z54).f0 := fun i j hij hj => by
    have := List.pairwise_iff_getElem.1 hp i j (by omega) hj hij
    simpa only [List.getD, List.getElem?_eq_getElem hj, List.getElem?_eq_getElem (show i < v.length by omega), Option.getD_some] using this
  have hA : ∀ j, j < m → (v.getD j z54).f0 < a := fun j hj => by
    have h1 := a4 (by omega)
    rw [cmpE (m - 1) (by omega)] at h1
    rcases Nat.lt_or_ge j (m - 1) with h2 | h2
    · have := hlt j (m - 1) h2 (by omega); omega
    · rw [show j = m - 1 by omega]; omega
  have hB : m < v.length → ¬ (v.getD m z54).f0 < a := fun h => by
    have h1 := a5 h
    rw [cmpE m h] at h1
    omega
  have hput := putV_at v a b c m a2 hA hB
  rw [impl_withFact.f, a3, if_pos ⟨hl, a2⟩, impl_withFact.is_, a3]
  by_cases hm : m < v.length ∧ (v.getD m z54).f0 = a
  · have hle := hless _ (getM m hm.1) hm.2
    rw [hput, if_pos hm, if_pos hle, cmpE m hm.1, decide_eq_true hm.1, decide_eq_true (by omega)]
    refine ⟨?_, rfl⟩
    rw [Bool.true_and, if_pos rfl, List.set_eq_take_append_cons_drop, if_pos hm.1]
    simp
  · have hd : (decide (m < v.length) && decide (impl_withFact.cmp (v.getD m z54) a = 0)) = false := by
      by_cases h : m < v.length
      · rw [cmpE m h, decide_eq_false (show ¬ (v.getD m z54).f0 - a = 0 from fun e => hm ⟨h, by omega⟩), Bool.and_false]
      · rw [decide_eq_false h, Bool.false_and]
    rw [hd, hput, if_neg hm]
    exact ⟨by rw [if_neg (by decide)], rfl⟩
theorem implJoined_ev (v : List S54) (a b c : Int) (hv : viewR v = true) (hf : factR a b c = true) : Ev (fun k => impl_joined.f k v a b c) (putV v a b c) := by
  have h6 := viewR_six hv
  have hpw := viewR_pw.1 hv
  have hN : ∀ x ∈ v, 1 ≤ x.f0 ∧ x.f0 ≤ 6 := fun x hx => (factR_iff.1 (hpw.1 x hx)).1
  have hA := (factR_iff.1 hf).1
  have hcl : impl_Fact_76.f v = some v := by rw [impl_Fact_76.f, if_pos (by omega)]
  refine Ev.congr (fun k => rfl) (Ev.bind (implAt_ev v a (by omega)) ?_)
  by_cases hx : ∃ x ∈ v, x.f0 = a
  · obtain ⟨x, hx, rfl⟩ := hx
    have hx1 := hN x hx
    rw [atS_some hpw.2 hx]
    simp only [if_neg (show ¬ x.f0 = 0 by omega), impl_less_eq, Option.bind_some]
    cases hc : lessF x.f1 x.f2 b c with
    | true =>
      obtain ⟨w1, w2⟩ := withFact_eq v x.f0 b c (by omega) hpw.2 (fun y hy => by have := hN y hy; omega) (by omega) (fun y hy e => by
        have hy2 := atS_some hpw.2 hy
        rw [e, atS_some hpw.2 hx] at hy2
        simp only [Prod.mk.injEq] at hy2
        rw [← hy2.2.1, ← hy2.2.2]; exact hc)
      refine Ev.step (f := fun k => some (putV v x.f0 b c)) (fun k => ?_) (Ev.now _)
      simp only [impl_joined.j0, Bool.not_true, Bool.false_eq_true, if_false, w1, Option.bind_some]
      rw [← w2]
    | false =>
      have hput : putV v x.f0 b c = (v, false) := by
        obtain ⟨j, hj, hjx⟩ := List.getElem_of_mem hx
        have hlt := fun i h => List.pairwise_iff_getElem.1 hpw.2 i j (by omega) hj h
        have gj : v.getD j z54 = x := by simp only [List.getD, List.getElem?_eq_getElem hj, Option.getD_some, hjx]
        have := putV_at v x.f0 b c j (by omega) (fun i hi => by
          have h3 := hlt i hi
          rw [hjx] at h3
          simpa only [List.getD, List.getElem?_eq_getElem (show i < v.length by omega), Option.getD_some] using h3) (fun _ => by rw [gj]; omega)
        rw [this, if_pos ⟨hj, by rw [gj]⟩, gj, hc, if_neg (by decide)]
      refine Ev.step (f := fun k => some (putV v x.f0 b c)) (fun k => ?_) (Ev.now _)
      simp only [impl_joined.j0, Bool.not_false, if_true, hcl, Option.bind_some, hput]
  · have hno : ∀ x ∈ v, x.f0 ≠ a := fun x h e => hx ⟨x, h, e⟩
    rw [atS_none v a hno]
    simp only [if_true]
    obtain ⟨w1, w2⟩ := withFact_eq v a b c (by omega) hpw.2 (fun y hy => by have := hN y hy; omega) (by omega) (fun y hy e => absurd e (hno y hy))
    refine Ev.step (f := fun k => some (putV v a b c)) (fun k => ?_) (Ev.now _)
    simp only [impl_joined.j0, Bool.false_eq_true, if_false, w1, Option.bind_some]
    rw [← w2]

theorem specView_ev (l : List S54) : Ev (fun k => spec_ViewRight.f k l) (viewR l) := by
  by_cases h6 : l.length ≤ 6
  · have hh := allLoop l.length (viewT l) true (fun k i => spec_ViewRight.l0 k l i) (fun k i hi => by
        simp only [spec_ViewRight.l0, spec_FactRight_eq, Option.bind_some]
        rw [if_pos (by omega), if_pos (by omega), wrap_succ hi (by omega), rdF_nat]
        by_cases hf : factR (l.getD i z54).f0 (l.getD i z54).f1 (l.getD i z54).f2 = true
        · rw [if_pos hf]
          by_cases h0 : i = 0
          · rw [if_neg (by omega), if_pos (viewT_iff.2 ⟨hf, .inl h0⟩)]
          · rw [if_pos (by omega), wrap_pred (by omega) hi (by omega), if_pos (by omega), if_pos (by omega), rdF_nat]
            by_cases hlt : (l.getD (i - 1) z54).f0 < (l.getD i z54).f0
            · rw [if_neg (by omega), if_pos (viewT_iff.2 ⟨hf, .inr hlt⟩)]
            · rw [if_pos (by omega), if_neg (fun h => by have := (viewT_iff.1 h).2; omega)]
        · rw [if_neg hf, if_neg (fun h => hf (viewT_iff.1 h).1)]) (fun k => by
        simp only [spec_ViewRight.l0]
        rw [if_neg (by omega)]) l.length 0 (by omega)
    rw [Bool.and_true] at hh
    refine Ev.congr (fun k => ?_) hh
    simp only [spec_ViewRight.f]; rw [if_neg (by omega)]; rfl
  · have : viewR l = false := by
      cases h : viewR l with
      | false => rfl
      | true => exact absurd (viewR_six h) h6
    rw [this]
    refine Ev.congr (f := fun _ => some false) (fun k => ?_) (Ev.now _)
    simp only [spec_ViewRight.f]; rw [if_pos (by omega)]

theorem impl_within_eq (a b c : Int) : impl_within.f a b c = some (inR a b c) := by
  by_cases h : b ≤ a <;> simp [impl_within.f, inR, h]

theorem impl_isNode_eq (a : Int) : impl_isNode.f a = some (inR a 1 6) := by simp [impl_isNode.f, impl_within_eq]
theorem impl_isTime_eq (a : Int) : impl_isTime.f a = some (inR a 0 1000000) := by simp [impl_isTime.f, impl_within_eq]
theorem impl_FactRight_eq (a b c : Int) : impl_FactRight.f a b c = some (factR a b c) := by
  simp only [impl_FactRight.f, impl_isNode_eq, impl_isTime_eq, impl_within_eq, Option.bind_some, factR]
  cases inR a 1 6 <;> cases inR b 0 1000000 <;> simp

theorem implView_ev (l : List S54) (hl : l.length ≤ 140737488355328) : Ev (fun k => impl_ViewRight.f k l) (viewR l) := by
  have hh := allLoop l.length (viewT l) true (fun k i => impl_ViewRight.l0 k l l (l.length : Int) i) (fun k i hi => by
        simp only [impl_ViewRight.l0, impl_FactRight_eq, Option.bind_some]
        rw [if_pos (by omega), if_pos (by omega), if_pos (by omega), wrap_succ hi hl, rdF_nat]
        by_cases hf : factR (l.getD i z54).f0 (l.getD i z54).f1 (l.getD i z54).f2 = true
        · rw [if_pos hf]
          by_cases h0 : i = 0
          · rw [if_neg (by omega), if_pos (viewT_iff.2 ⟨hf, .inl h0⟩)]
          · rw [if_pos (by omega), wrap_pred (by omega) hi hl, if_pos (by omega), if_pos (by omega), rdF_nat]
            by_cases hlt : (l.getD (i - 1) z54).f0 < (l.getD i z54).f0
            · rw [if_neg (by omega), if_pos (viewT_iff.2 ⟨hf, .inr hlt⟩)]
            · rw [if_pos (by omega), if_neg (fun h => by have := (viewT_iff.1 h).2; omega)]
        · rw [if_neg hf, if_neg (fun h => hf (viewT_iff.1 h).1)]) (fun k => by
        simp only [impl_ViewRight.l0]
        rw [if_neg (by omega)]) l.length 0 (by omega)
  rw [Bool.and_true] at hh
  exact hh

/-- All facts put, one behind the other. -/
def joinV (p : List S54 × Bool) (l : List S54) : List S54 × Bool := l.foldl (fun p f => ((putV p.1 f.f0 f.f1 f.f2).1, p.2 || (putV p.1 f.f0 f.f1 f.f2).2)) p
theorem joinV_right : ∀ (l v : List S54) (b : Bool), viewR v = true → (∀ x ∈ l, factR x.f0 x.f1 x.f2 = true) → viewR (joinV (v, b) l).1 = true
  | [], v, b, h, _ => h
  | f :: l, v, b, h, hl => joinV_right l _ _ (putV_right h (hl f (by simp))) (fun x hx => hl x (by simp [hx]))
theorem specJoin_l0 (l : List S54) (hl : l.length ≤ 6) (hf : ∀ x ∈ l, factR x.f0 x.f1 x.f2 = true) : ∀ (d i : Nat) (v : List S54) (b : Bool), i + d = l.length → viewR v = true → Ev (fun k => spec_ViewJoin.l0 k l (i : Int) v b 0) ((joinV (v, b) (l.drop i)).1, (joinV (v, b) (l.drop i)).2, 0)
  | 0, i, v, b, h, hv => by
    refine Ev.step (f := fun _ => some _) (fun k => ?_) (Ev.now _)
    simp only [spec_ViewJoin.l0]
    rw [if_neg (by omega), List.drop_of_length_le (by omega)]
    rfl
  | d + 1, i, v, b, h, hv => by
    have hi : i < l.length := by omega
    have h6 := viewR_six hv
    have hw : wrap64 ((i : Int) + 1) = ((i + 1 : Nat) : Int) := wrap_succ hi (by omega)
    have hfx : factR (l.getD i z54).f0 (l.getD i z54).f1 (l.getD i z54).f2 = true := hf _ (by simp only [List.getD, List.getElem?_eq_getElem hi, Option.getD_some]; exact List.getElem_mem hi)
    rw [drop_at l z54 hi]
    have ih := specJoin_l0 l hl hf d (i + 1) (putV v (l.getD i z54).f0 (l.getD i z54).f1 (l.getD i z54).f2).1 (b || (putV v (l.getD i z54).f0 (l.getD i z54).f1 (l.getD i z54).f2).2) (by omega) (putV_right hv hfx)
    refine Ev.step (fun k => by
      simp only [spec_ViewJoin.l0]
      rw [if_pos (by omega), if_pos (by omega), rdF_nat, hw]) (Ev.bind (specPutV_ev v _ _ _ (by omega)) ?_)
    cases b with
    | true => simp only [if_true]; exact ih
    | false => simp only [Bool.false_eq_true, if_false]; rw [Bool.false_or] at ih; exact ih
theorem implJoin_l0 (l : List S54) (hl : l.length ≤ 6) (hf : ∀ x ∈ l, factR x.f0 x.f1 x.f2 = true) : ∀ (d i : Nat) (v : List S54) (b : Bool), i + d = l.length → viewR v = true → Ev (fun k => impl_ViewJoin.l0 k l (l.length : Int) (i : Int) v b 0) ((joinV (v, b) (l.drop i)).1, (joinV (v, b) (l.drop i)).2, 0)
  | 0, i, v, b, h, hv => by
    refine Ev.step (f := fun _ => some _) (fun k => ?_) (Ev.now _)
    simp only [impl_ViewJoin.l0]
    rw [if_neg (by omega), List.drop_of_length_le (by omega)]
    rfl
  | d + 1, i, v, b, h, hv => by
    have hi : i < l.length := by omega
    have hw : wrap64 ((i : Int) + 1) = ((i + 1 : Nat) : Int) := wrap_succ hi (by omega)
    have hfx : factR (l.getD i z54).f0 (l.getD i z54).f1 (l.getD i z54).f2 = true := hf _ (by simp only [List.getD, List.getElem?_eq_getElem hi, Option.getD_some]; exact List.getElem_mem hi)
    rw [drop_at l z54 hi]
    have ih := implJoin_l0 l hl hf d (i + 1) (putV v (l.getD i z54).f0 (l.getD i z54).f1 (l.getD i z54).f2).1 (b || (putV v (l.getD i z54).f0 (l.getD i z54).f1 (l.getD i z54).f2).2) (by omega) (putV_right hv hfx)
    refine Ev.step (fun k => by
      simp only [impl_ViewJoin.l0]
      rw [if_pos (by omega), if_pos (by omega), if_pos (by omega), rdF_nat, hw]) (Ev.bind (implJoined_ev v _ _ _ hv hfx) ?_)
    cases b with
    | true => simp only [if_true]; exact ih
    | false => simp only [Bool.false_eq_true, if_false]; rw [Bool.false_or] at ih; exact ih
/-- ViewJoin. -/
def viewJoinS (v l : List S54) : List S54 × Bool × Int := if 400 < v.length ∨ 400 < l.length then ([], false, 2) else if (viewR v && viewR l) = true then ((joinV (v, false) l).1, (joinV (v, false) l).2, 0) else ([], false, 1)
theorem viewJoinS_length (v l : List S54) : (viewJoinS v l).1.length ≤ 6 := by
  unfold viewJoinS
  repeat' split
  · simp
  · rename_i h
    rw [Bool.and_eq_true] at h
    exact viewR_six (joinV_right l v false h.1 (viewR_pw.1 h.2).1)
  · simp
theorem specViewJoin_ev (v l : List S54) : Ev (fun k => spec_ViewJoin.f k v l) (viewJoinS v l) := by
  unfold viewJoinS
  by_cases h4 : 400 < v.length
  · rw [if_pos (.inl h4)]
    refine Ev.congr (f := fun k => spec_ViewJoin.j0 k v l true) (fun k => ?_) (Ev.step (f := fun _ => some _) (fun k => ?_) (Ev.now _))
    · simp only [spec_ViewJoin.f]; rw [if_pos (by omega)]
    · simp only [spec_ViewJoin.j0, if_true, spec_l04Ill.f, Option.bind_some]
  · by_cases h5 : 400 < l.length
    · rw [if_pos (.inr h5)]
      refine Ev.congr (f := fun k => spec_ViewJoin.j0 k v l true) (fun k => ?_) (Ev.step (f := fun _ => some _) (fun k => ?_) (Ev.now _))
      · simp only [spec_ViewJoin.f]; rw [if_neg (by omega), decide_eq_true (by omega)]
      · simp only [spec_ViewJoin.j0, if_true, spec_l04Ill.f, Option.bind_some]
    · rw [if_neg (by omega)]
      refine Ev.congr (f := fun k => spec_ViewJoin.j0 k v l false) (fun k => ?_) (Ev.step (fun k => by simp only [spec_ViewJoin.j0, Bool.false_eq_true, if_false]; first | done | rfl) (Ev.bind (specView_ev v) ?_))
      · simp only [spec_ViewJoin.f]; rw [if_neg (by omega), decide_eq_false (by omega)]
      · have hj1 : Ev (fun k => spec_ViewJoin.j1 k v l true) ([], false, 1) := Ev.step (f := fun _ => some _) (fun k => by simp only [spec_ViewJoin.j1, if_true, spec_l04Ill.f, Option.bind_some]) (Ev.now _)
        cases hq : viewR v with
        | false => simp only [Bool.false_and, Bool.false_eq_true, if_false]; exact hj1
        | true =>
          simp only [Bool.true_and, if_true]
          refine Ev.bind (specView_ev l) ?_
          cases hr : viewR l with
          | false => simp only [Bool.not_false, Bool.false_eq_true, if_false]; exact hj1
          | true =>
            simp only [Bool.not_true, if_true]
            have h6 := viewR_six hq
            have := specJoin_l0 l (viewR_six hr) (viewR_pw.1 hr).1 l.length 0 v false (by omega) hq
            rw [List.drop_zero] at this
            refine Ev.step (fun k => ?_) this
            simp only [spec_ViewJoin.j1, Bool.false_eq_true, if_false]
            rw [Option.bind_some, List.nil_append, if_pos (by rw [List.length_nil]; omega)]
            rfl
theorem implViewJoin_ev (v l : List S54) (hv : v.length ≤ 1048576) (hl : l.length ≤ 1048576) : Ev (fun k => impl_ViewJoin.f k v l) (viewJoinS v l) := by
  unfold viewJoinS
  by_cases h4 : 400 < v.length
  · rw [if_pos (.inl h4)]
    refine Ev.congr (f := fun k => impl_ViewJoin.j0 k v l true) (fun k => ?_) (Ev.step (f := fun _ => some _) (fun k => ?_) (Ev.now _))
    · simp only [impl_ViewJoin.f, impl_Fact_70.f, Option.bind_some]; rw [if_pos (by simp; omega)]
    · simp only [impl_ViewJoin.j0, if_true]
  · by_cases h5 : 400 < l.length
    · rw [if_pos (.inr h5)]
      refine Ev.congr (f := fun k => impl_ViewJoin.j0 k v l true) (fun k => ?_) (Ev.step (f := fun _ => some _) (fun k => ?_) (Ev.now _))
      · simp only [impl_ViewJoin.f, impl_Fact_70.f, Option.bind_some]; rw [if_neg (by simp; omega), decide_eq_true (by omega)]
      · simp only [impl_ViewJoin.j0, if_true]
    · rw [if_neg (by omega)]
      refine Ev.congr (f := fun k => impl_ViewJoin.j0 k v l false) (fun k => ?_) (Ev.step (fun k => by simp only [impl_ViewJoin.j0, Bool.false_eq_true, if_false]; first | done | rfl) (Ev.bind (implView_ev v (by omega)) ?_))
      · simp only [impl_ViewJoin.f, impl_Fact_70.f, Option.bind_some]; rw [if_neg (by simp; omega), decide_eq_false (by omega)]
      · cases hq : viewR v with
        | false => simp only [Bool.false_and, Bool.false_eq_true, if_false]; exact Ev.now _
        | true =>
          simp only [Bool.true_and, if_true]
          refine Ev.bind (implView_ev l (by omega)) ?_
          cases hr : viewR l with
          | false => simp only [Bool.false_eq_true, if_false]; exact Ev.now _
          | true =>
            simp only [if_true]
            have h6 := viewR_six hq
            have hcl : impl_Fact_76.f v = some v := by rw [impl_Fact_76.f, if_pos (by omega)]
            simp only [hcl, Option.bind_some]
            have := implJoin_l0 l (viewR_six hr) (viewR_pw.1 hr).1 l.length 0 v false (by omega) hq
            rw [List.drop_zero] at this
            exact Ev.congr (fun k => rfl) this

theorem joinTail (l m : List S47) (hl : l.length ≤ 1048576) (hm : m.length ≤ 1048576) (T : List S54 × Bool × Int) (hT : T = viewJoinS (l.map toF) (m.map toF)) : Ev (fun k => laws_FnExactViewJoin.j0 k l m false T.1 T.2.1 T.2.2 T.1 T.2.1 T.2.2) true := by
  have h4 : T.1.length ≤ 6 := hT ▸ viewJoinS_length _ _
  refine Ev.step (fun k => by simp only [laws_FnExactViewJoin.j0, Bool.false_eq_true, if_false]; rfl) ?_
  refine Ev.bind (markViewOut_ev T.1 T.2.1 T.2.2 (by omega)) (Ev.bind (heldViewOut_ev T.1.length T.2.1 T.2.2 (by omega)) ?_)
  simp only [if_neg (show ¬ (1 + 3 * (T.1.length : Int)) < 0 by omega), if_true]
  refine Ev.bind (toFactS_ev l hl) (Ev.bind (toFactS_ev m hm) (Ev.bind (implViewJoin_ev _ _ (by simpa using hl) (by simpa using hm)) ?_))
  rw [← hT]
  refine Ev.bind (eqViewOut_refl T.1 T.2.1 T.2.2 (by omega)) ?_
  simp only [if_true]
  refine Ev.bind (heldViewOut_ev T.1.length T.2.1 T.2.2 (by omega)) ?_
  simp only [if_neg (show ¬ (1 + 3 * (T.1.length : Int)) < 0 by omega), if_true]
  exact Ev.now _
theorem FnExactViewJoin : laws_FnExactViewJoin.Goal := by
  intro l m hm _ hm2 _
  by_cases hb : 1048576 < l.length
  · refine Ev.rounds (Ev.congr (f := fun _ => some true) (fun k => ?_) (Ev.now _))
    simp only [laws_FnExactViewJoin.f, szFactS_eq l (by omega), Option.bind_some]
    rw [if_pos hb, if_pos (by omega)]
  · have hl : l.length ≤ 1048576 := by omega
    have hsz : laws_szFactS.f m (1048576 - (l.length : Int)) = some (if 1048576 - (l.length : Int) - (m.length : Int) < 0 then -1 else 1048576 - (l.length : Int) - (m.length : Int)) := by
      unfold laws_szFactS.f
      rw [wrap_id (by omega) (by omega)]
      split <;> rfl
    by_cases hb2 : 1048576 - (l.length : Int) - (m.length : Int) < 0
    · refine Ev.rounds (Ev.congr (f := fun _ => some true) (fun k => ?_) (Ev.now _))
      simp only [laws_FnExactViewJoin.f, szFactS_eq l (by omega), Option.bind_some]
      rw [if_neg hb, if_neg (by omega), hsz, Option.bind_some, if_pos hb2, if_pos (by omega)]
    · have hml : m.length ≤ 1048576 := by omega
      have h4 := viewJoinS_length (l.map toF) (m.map toF)
      refine Ev.rounds (Ev.congr (fun k => by simp only [laws_FnExactViewJoin.f, szFactS_eq l (by omega), Option.bind_some]; rw [if_neg hb, if_neg (by omega), hsz, Option.bind_some, if_neg hb2, if_neg (by omega)]) ?_)
      refine Ev.bind (toFactS_ev l hl) (Ev.bind (toFactS_ev m hml) (Ev.bind (specViewJoin_ev _ _) (Ev.bind (toFactS_ev l hl) (Ev.bind (toFactS_ev m hml) (Ev.bind (implViewJoin_ev _ _ (by simpa using hl) (by simpa using hml)) (Ev.bind (eqViewOut_refl _ _ _ (by omega)) ?_))))))
      simp only [if_true]
      refine Ev.bind (toFactS_ev l hl) (Ev.bind (eqViewFacts_refl _ (by simp; omega)) ?_)
      simp only [if_true]
      refine Ev.bind (toFactS_ev m hml) (Ev.bind (eqViewFacts_refl _ (by simp; omega)) ?_)
      simp only [if_true]
      refine Ev.bind (markFacts_ev (l.map toF) 1 (by omega) (by simp; omega)) (Ev.bind (markFacts_ev (m.map toF) _ (by omega) (by simp; omega)) ?_)
      simp only [if_neg (show ¬ (1 + 3 * ((l.map toF).length : Int) + 3 * ((m.map toF).length : Int)) < 0 by omega)]
      refine Ev.bind (eqViewOut_refl _ _ _ (by omega)) ?_
      exact joinTail l m hl hml _ rfl

end Go.Proofs.Ythgofcgkmdbcdaa.Pure
