/- The plain law of FnExactTurnNext: what the Lean functions of the printed texts answer. -/
import Derived.Test.YtpadikfnnfnelaaGFnExactTurnNext
import Derived.Test.YtpadikfnnfnelaaHSem
namespace Go.Proofs.Ytpadikfnnfnelaa.Pure
open Go.RowKit Go.Proofs.Ytpadikfnnfnelaa.PFnExactTurnNext Go.Proofs.YtpadikfnnfnelaaW.PrintWords Go.Proofs.YtpadikfnnfnelaaW.PrintLast Go.Proofs.YtpadikfnnfnelaaW.PrintMore Go.Proofs.YtpadikfnnfnelaaH
set_option linter.unusedVariables false
set_option linter.unusedSimpArgs false

theorem toInts_l0 (l : List Int) (hl : l.length ≤ 140737488355328) : ∀ (d i : Nat) (ys : List Int), i + d = l.length → ys.length = l.length → Ev (fun k => laws_toInt64S.l0 k l ys (i : Int)) (ys.take i ++ l.drop i)
  | 0, i, ys, h, hy => Ev.step (f := fun _ => some ys) (fun k => by simp only [laws_toInt64S.l0]; rw [if_neg (by omega)]) (by
      have e : ys.take i ++ l.drop i = ys := by
        rw [List.drop_of_length_le (show l.length ≤ i by omega), List.append_nil, List.take_of_length_le (by omega)]
      rw [e]; exact Ev.now _)
  | d + 1, i, ys, h, hy => by
    have hw := wrap_succ (i := i) (n := l.length) (by omega) hl
    have e : (ys.set i (l.getD i 0)).take (i + 1) ++ l.drop (i + 1) = ys.take i ++ l.drop i := by
      have h1 : (ys.set i (l.getD i 0)).take (i + 1) = ys.take i ++ [l.getD i 0] := by
        rw [List.take_add_one, List.take_set, List.set_eq_of_length_le (by simp; omega), List.getElem?_set_self (by omega)]
        rfl
      rw [h1, List.append_assoc]
      congr 1
      rw [List.drop_eq_getElem_cons (show i < l.length by omega)]
      simp [List.getD, show i < l.length by omega]
    refine Ev.step (f := fun k => laws_toInt64S.l0 k l (ys.set i (l.getD i 0)) ((i + 1 : Nat) : Int)) (fun k => ?_) (by have := toInts_l0 l hl d (i + 1) (ys.set i (l.getD i 0)) (by omega) (by simpa using hy); rw [e] at this; exact this)
    simp only [laws_toInt64S.l0]
    rw [hw, rd_nat, if_pos (by omega), if_pos (by omega), if_pos (by omega)]
    simp

theorem toInts_ev (l : List Int) (hl : l.length ≤ 1048576) : Ev (fun k => laws_toInt64S.f k l) l := by
  refine Ev.congr (f := fun k => laws_toInt64S.l0 k l (List.replicate l.length 0) ((0 : Nat) : Int)) (fun k => ?_) (by simpa using toInts_l0 l (by omega) l.length 0 (List.replicate l.length 0) (by omega) (by simp))
  simp only [laws_toInt64S.f]
  rw [if_pos (by omega), if_pos (by omega)]
  simp


theorem eqInts_l0 (l m : List Int) (hl : l.length ≤ 140737488355328) (hm : m.length = l.length) : ∀ d i : Nat, i + d = l.length → Ev (fun k => laws_eqInt64S.l0 k l m (i : Int)) (decide (l.drop i = m.drop i))
  | 0, i, h => Ev.step (f := fun _ => some true) (fun k => by simp only [laws_eqInt64S.l0]; rw [if_neg (by omega)]) (by
      rw [List.drop_of_length_le (show l.length ≤ i by omega), List.drop_of_length_le (show m.length ≤ i by omega)]; exact Ev.now _)
  | d + 1, i, h => by
    have hw := wrap_succ (i := i) (n := l.length) (by omega) hl
    have e1 : l.drop i = l.getD i 0 :: l.drop (i + 1) := by
      rw [List.drop_eq_getElem_cons (show i < l.length by omega)]; simp [List.getD, show i < l.length by omega]
    have e2 : m.drop i = m.getD i 0 :: m.drop (i + 1) := by
      rw [List.drop_eq_getElem_cons (show i < m.length by omega)]; simp [List.getD, show i < m.length by omega]
    by_cases ho : l.getD i 0 = m.getD i 0
    · refine Ev.step (f := fun k => laws_eqInt64S.l0 k l m ((i + 1 : Nat) : Int)) (fun k => ?_) (by have := eqInts_l0 l m hl hm d (i + 1) (by omega); rw [e1, e2, ho, decide_eq_decide.2 (show (m.getD i 0 :: l.drop (i + 1) = m.getD i 0 :: m.drop (i + 1)) ↔ (l.drop (i + 1) = m.drop (i + 1)) by simp)]; exact this)
      simp only [laws_eqInt64S.l0]
      rw [hw, rd_nat, rd_nat, if_pos (by omega), if_pos (by omega), if_pos (by omega), if_pos ho]
    · refine Ev.step (f := fun k => some false) (fun k => ?_) (by rw [e1, e2, decide_eq_false (fun h => ho (List.cons.inj h).1)]; exact Ev.now _)
      simp only [laws_eqInt64S.l0]
      rw [rd_nat, rd_nat, if_pos (by omega), if_pos (by omega), if_pos (by omega), if_neg ho]

theorem eqInts_ev (l m : List Int) (hl : l.length ≤ 140737488355328) : Ev (fun k => laws_eqInt64S.f k l m) (decide (l = m)) := by
  by_cases h : m.length = l.length
  · refine Ev.congr (f := fun k => laws_eqInt64S.l0 k l m ((0 : Nat) : Int)) (fun k => ?_) (by simpa using eqInts_l0 l m hl h l.length 0 (by omega))
    simp only [laws_eqInt64S.f]; rw [if_pos (by omega)]; rfl
  · refine Ev.congr (f := fun k => some false) (fun k => ?_) (by
      have : l ≠ m := by rintro rfl; exact h rfl
      simpa [this] using Ev.now _)
    simp only [laws_eqInt64S.f]; rw [if_neg (by omega)]

theorem szTurn_eq (l : List Int) (a : Int) (hl : (l.length : Int) ≤ 9223372036854775807) : laws_szTurn.f l a 1048576 = some (if 1048576 < l.length then -1 else 1048576 - (l.length : Int)) := by
  have h : laws_szInt64S.f l 1048576 = some (if 1048576 < l.length then -1 else 1048576 - (l.length : Int)) := by
    unfold laws_szInt64S.f
    rw [wrap_id (by omega) (by omega)]
    split <;> split <;> first | rfl | omega
  simp only [laws_szTurn.f, h, Option.bind_some]
  split <;> split <;> first | rfl | omega
theorem toTurn_ev (l : List Int) (a : Int) (hl : l.length ≤ 1048576) : Ev (fun k => laws_toTurn.f k l a) (l, a) := Ev.congr (fun k => rfl) (Ev.bind (toInts_ev l hl) (Ev.now _))
theorem eqTurn_ev (l : List Int) (a : Int) (m : List Int) (b : Int) (hl : l.length ≤ 140737488355328) : Ev (fun k => laws_eqTurn.f k l a m b) (decide (l = m) && decide (a = b)) := by
  refine Ev.congr (fun k => rfl) (Ev.bind (eqInts_ev l m hl) ?_)
  by_cases h : l = m <;> by_cases h2 : a = b <;> simp [h, h2] <;> exact Ev.now _

theorem markInts_ev (l : List Int) (a : Int) (ha : 0 ≤ a) (hb : a + l.length ≤ 4611686018427387904) : Ev (fun k => laws_markInt64S.f k l a) (a + l.length, marks (fun x => x) 1 a l.length) := by
  have h := markLoop l.length (fun x : Int => x) 1 (by omega) (fun k ys a i => laws_markInt64S.l0 k ys a i) (fun k i a ys hi hy h0 h1 => by
      simp only [laws_markInt64S.l0]
      rw [if_pos (by omega), if_pos (by omega), wrap_id (x := a + 1) (by omega) (by omega), wrap_id (x := (i : Int) + 1) (by omega) (by omega)]
      simp) (fun k a ys hy => by
      simp only [laws_markInt64S.l0]
      rw [if_neg (by omega)]) l.length 0 a l (by omega) rfl ha (by omega)
  simpa [Int.one_mul, laws_markInt64S.f] using h

theorem heldInts_ev (n : Nat) (a : Int) (ha : 0 ≤ a) (hb : a + n ≤ 4611686018427387904) : Ev (fun k => laws_heldInt64S.f k (marks (fun x => x) 1 a n) a) (a + n) := by
  have hl := marks_length (fun x : Int => x) 1 n a
  have h := heldLoop n 1 (by omega) a ha (by omega) (fun k x i => laws_heldInt64S.l0 k (marks (fun x => x) 1 a n) x i) (fun k i hi h1 h2 => by
      simp only [laws_heldInt64S.l0]
      rw [if_pos (by omega), if_pos (by omega), rd_nat, marks_at _ _ 0 n i a hi, if_pos rfl, wrap_id (x := a + 1 * (i : Int) + 1) (by omega) (by omega), wrap_id (x := (i : Int) + 1) (by omega) (by omega)]
      rfl) (fun k x => by
      simp only [laws_heldInt64S.l0]
      rw [if_neg (by omega)]) n 0 (by omega)
  simpa [Int.one_mul, laws_heldInt64S.f] using h

/-- Is a set right? -/
def setR (l : List Int) : Bool := rises l 1 (l.length - 1) && decide (l.length ≤ 400)
theorem rises_iff (l : List Int) : ∀ d i : Nat, rises l i d = true ↔ ∀ j, i ≤ j → j < i + d → l.getD (j - 1) 0 < l.getD j 0
  | 0, i => by simp [rises]; intro j h1 h2; omega
  | d + 1, i => by
    rw [rises, Bool.and_eq_true, rises_iff l d (i + 1), decide_eq_true_iff]
    constructor
    · rintro ⟨h1, h2⟩ j hj hk
      rcases Nat.lt_or_ge i j with h | h
      · exact h2 j h (by omega)
      · have : j = i := by omega
        rw [this]; exact h1
    · intro h
      exact ⟨h i (by omega) (by omega), fun j h1 h2 => h j (by omega) (by omega)⟩
theorem setR_lt {l : List Int} (h : setR l = true) : ∀ b a : Nat, a < b → b < l.length → l.getD a 0 < l.getD b 0 := by
  rw [setR, Bool.and_eq_true, rises_iff] at h
  intro b
  induction b with
  | zero => intro a h1; omega
  | succ b ih =>
    intro a h1 h2
    have h3 := h.1 (b + 1) (by omega) (by omega)
    rw [Nat.add_sub_cancel] at h3
    rcases Nat.lt_or_ge a b with h4 | h4
    · have := ih a h4 (by omega); omega
    · have : a = b := by omega
      subst this; exact h3

/-- May the number at place i stand there, as a node that is not ahead of it? -/
def nodesT (l : List Int) (i : Nat) : Bool := inR (l.getD i 0) 1 6 && !(l.take i).contains (l.getD i 0)
/-- Nodes, no two alike. -/
def nodesR (l : List Int) : Bool := allB (nodesT l) 0 l.length
theorem nodesR_six {l : List Int} (h : nodesR l = true) : (∀ x ∈ l, 1 ≤ x ∧ x ≤ 6) ∧ l.Nodup ∧ l.length ≤ 6 := by
  have key : ∀ j, j < l.length → (1 ≤ l.getD j 0 ∧ l.getD j 0 ≤ 6) ∧ (l.take j).contains (l.getD j 0) = false := by
    intro j hj
    have := (allB_iff _ _ _).1 h j (by omega) (by omega)
    rw [nodesT, Bool.and_eq_true, inR_iff, Bool.not_eq_true'] at this
    exact this
  have h1 : ∀ x ∈ l, 1 ≤ x ∧ x ≤ 6 := by
    intro x hx
    obtain ⟨j, hj, rfl⟩ := List.getElem_of_mem hx
    have := (key j hj).1
    simpa [List.getD, hj] using this
  have h2 := nodup_of_all l (fun j hj => (key j hj).2)
  exact ⟨h1, h2, apart_six l h1 h2⟩
/-- Is a turn right? -/
def turnR (l : List Int) (a : Int) : Bool := nodesR l && inR a 0 l.length

/-- Are these nodes, each above the one ahead? -/
def areOK (l : List Int) : Bool := setR l && l.all (fun x => inR x 1 6)
theorem areOK_eq (l : List Int) : (nodesR l && setR l) = areOK l := by
  rw [Bool.eq_iff_iff, areOK, Bool.and_eq_true, Bool.and_eq_true]
  constructor
  · rintro ⟨h1, h2⟩
    refine ⟨h2, ?_⟩
    rw [List.all_eq_true]
    intro x hx
    exact inR_iff.2 ((nodesR_six h1).1 x hx)
  · rintro ⟨h1, h2⟩
    refine ⟨?_, h1⟩
    rw [List.all_eq_true] at h2
    rw [nodesR, allB_iff]
    intro j _ hj
    have hm : l.getD j 0 ∈ l := by simp [List.getD, show j < l.length by omega]
    rw [nodesT, h2 _ hm, Bool.true_and, Bool.not_eq_true', List.contains_eq_mem, decide_eq_false_iff_not]
    intro hc
    obtain ⟨i, hi, he⟩ := List.getElem_of_mem hc
    have hi2 : i < j := by simp at hi; omega
    have := setR_lt h1 j i hi2 (by omega)
    rw [List.getElem_take] at he
    simp only [List.getD, List.getElem?_eq_getElem (show i < l.length by omega), Option.getD_some, he] at this
    simp [List.getD] at this
theorem areOK_six {l : List Int} (h : areOK l = true) : l.length ≤ 6 := by
  rw [← areOK_eq, Bool.and_eq_true] at h
  exact (nodesR_six h.1).2.2

theorem implSet_l0 (l : List Int) (hl : l.length ≤ 140737488355328) : ∀ d i : Nat, 0 < i → (i + d = l.length ∨ (d = 0 ∧ l.length ≤ i)) → Ev (fun k => impl_SetRight.l0 k l (i : Int)) (rises l i d && decide (l.length ≤ 400))
  | 0, i, h0, h => Ev.step (f := fun _ => some (decide (l.length ≤ 400))) (fun k => by
      simp only [impl_SetRight.l0, impl_longList_int64.f, Option.bind_some]; rw [if_neg (by omega)]
      congr 1; rw [Bool.eq_iff_iff]; simp; omega) (by simpa [rises] using Ev.now _)
  | d + 1, i, h0, h => by
    have hw := wrap_succ (i := i) (n := l.length) (by omega) hl
    have hp := wrap_pred (i := i) (n := l.length) h0 (by omega) hl
    by_cases ho : l.getD (i - 1) 0 < l.getD i 0
    · refine Ev.step (f := fun k => impl_SetRight.l0 k l ((i + 1 : Nat) : Int)) (fun k => ?_) (by rw [rises, decide_eq_true ho, Bool.true_and]; exact implSet_l0 l hl d (i + 1) (by omega) (by omega))
      simp only [impl_SetRight.l0]
      rw [hw, hp, rd_nat, rd_nat]
      repeat' split
      all_goals first | rfl | omega
    · refine Ev.step (f := fun k => some false) (fun k => ?_) (by rw [rises, decide_eq_false ho, Bool.false_and, Bool.false_and]; exact Ev.now _)
      simp only [impl_SetRight.l0]
      rw [hw, hp, rd_nat, rd_nat]
      repeat' split
      all_goals first | rfl | omega

theorem implSet_ev (l : List Int) (hl : l.length ≤ 140737488355328) : Ev (fun k => impl_SetRight.f k l) (rises l 1 (l.length - 1) && decide (l.length ≤ 400)) :=
  implSet_l0 l hl (l.length - 1) 1 (by omega) (by omega)


theorem impl_within_eq (a b c : Int) : impl_within.f a b c = some (inR a b c) := by
  by_cases h : b ≤ a <;> simp [impl_within.f, inR, h]

theorem impl_isNode_eqN (a : Int) : impl_isNode.f a = some (inR a 1 6) := by simp [impl_isNode.f, impl_within_eq]
theorem areNodes_l0 : ∀ l : List Int, impl_areNodes.l0 l = some (l.all (fun x => inR x 1 6))
  | [] => rfl
  | x :: xs => by
    rw [impl_areNodes.l0, impl_isNode_eqN, Option.bind_some, List.all_cons]
    cases h : inR x 1 6 with
    | true => rw [if_pos rfl, areNodes_l0 xs, Bool.true_and]
    | false => rw [if_neg (by decide), Bool.false_and]
theorem areNodes_ev (l : List Int) (hl : l.length ≤ 140737488355328) : Ev (fun k => impl_areNodes.f k l) (areOK l) := by
  refine Ev.bind (implSet_ev l hl) ?_
  rw [areOK, ← setR]
  cases h : setR l with
  | true => simp only [if_pos, areNodes_l0, Bool.true_and, if_pos hl]; exact Ev.now _
  | false => simp only [Bool.false_and]; exact Ev.now _

theorem spec_l02Is_eq (a b c : Int) : spec_l02Is.f a b c = some (inR a b c) := by
  by_cases h : b ≤ a <;> simp [spec_l02Is.f, inR, h]

/-- The next seed. -/
def nextS (s : Int) : Int := (s * 91813 + 30011) % 2147483648
theorem nextS_range (s : Int) : 0 ≤ nextS s ∧ nextS s ≤ 2147483647 := by
  unfold nextS
  omega
theorem next_num (s : Int) (h0 : 0 ≤ s) (h1 : s ≤ 2147483647) : Int.tmod (wrap64 ((wrap64 (s * 91813)) + 30011)) 2147483648 = nextS s := by
  rw [wrap_id (x := s * 91813) (by omega) (by omega), wrap_id (x := s * 91813 + 30011) (by omega) (by omega), Int.tmod_eq_emod_of_nonneg (by omega)]
  rfl
theorem below_num (s m : Int) (hm : 0 < m) : Int.tmod (wrap64 (Int.tdiv (nextS s) 256)) m = nextS s / 256 % m := by
  have h := nextS_range s
  rw [Int.tdiv_eq_ediv_of_nonneg h.1, wrap_id (by omega) (by omega), Int.tmod_eq_emod_of_nonneg (by omega)]
/-- Shuffled from place i down. -/
def shufS : Nat → List Int → Int → Int × List Int
  | 0, l, s => (s, l)
  | i + 1, l, s => shufS i ((l.set (i + 1) (l.getD (nextS s / 256 % ((i : Int) + 2)).toNat 0)).set (nextS s / 256 % ((i : Int) + 2)).toNat (l.getD (i + 1) 0)) (nextS s)
theorem shufS_length : ∀ (i : Nat) (l : List Int) (s : Int), (shufS i l s).2.length = l.length
  | 0, _, _ => rfl
  | i + 1, l, s => by rw [shufS, shufS_length i]; simp
/-- Shuffle. -/
def shuffleS (l : List Int) (s : Int) : Int × List Int := if 400 < l.length then (0, []) else if inR s 0 2147483647 = true then shufS (l.length - 1) l s else (0, [])
theorem shuffleS_length (l : List Int) (s : Int) : (shuffleS l s).2.length ≤ 400 := by
  unfold shuffleS
  split
  · simp
  · split
    · rw [shufS_length]; omega
    · simp

theorem impl_isSeed_eq (a : Int) : impl_isSeed.f a = some (inR a 0 2147483647) := by simp [impl_isSeed.f, impl_within_eq]
theorem implChance_eq (s m : Int) (h0 : 0 ≤ s) (h1 : s ≤ 2147483647) (hm : 1 ≤ m) (hm2 : m ≤ 1000000) : impl_Chance.f s m = some (nextS s, nextS s / 256 % m) := by
  simp only [impl_Chance.f, impl_isSeed_eq, impl_within_eq, Option.bind_some]
  rw [if_pos (inR_iff.2 ⟨h0, h1⟩), if_pos (inR_iff.2 ⟨hm, hm2⟩), if_neg (by omega), next_num s h0 h1, below_num s m (by omega)]
theorem rd_toNat (l : List Int) (i : Int) : rd l i = l.getD i.toNat 0 := by simp [rd]
theorem implShuf_l0 : ∀ (i : Nat) (l : List Int) (s : Int), (i < l.length ∨ i = 0) → l.length ≤ 400 → 0 ≤ s → s ≤ 2147483647 → impl_Shuffle.l0 i l s = some (shufS i l s)
  | 0, _, _, _, _, _, _ => rfl
  | i + 1, l, s, hi, hl, h0, h1 => by
    have hn := nextS_range s
    have hi : i + 1 < l.length := by omega
    have hm : 0 ≤ nextS s / 256 % ((i : Int) + 2) ∧ nextS s / 256 % ((i : Int) + 2) < (i : Int) + 2 := ⟨Int.emod_nonneg _ (by omega), Int.emod_lt_of_pos _ (by omega)⟩
    have e : (((i + 1 : Nat) : Int) + 1) = (i : Int) + 2 := by omega
    rw [impl_Shuffle.l0, e, implChance_eq s _ h0 h1 (by omega) (by omega), Option.bind_some, if_pos (by simp only; omega)]
    simp only [rd_toNat, Int.toNat_natCast]
    exact implShuf_l0 i _ _ (by simp; omega) (by simpa using hl) hn.1 hn.2
theorem implShuffle_eq (l : List Int) (s : Int) (hl : l.length ≤ 17592186044415) : impl_Shuffle.f l s = some (shuffleS l s) := by
  unfold shuffleS
  simp only [impl_Shuffle.f, impl_longList_int64.f, impl_isSeed_eq, Option.bind_some]
  by_cases h : 400 < l.length
  · rw [if_pos h, if_pos (by simp; omega)]
  · rw [if_neg h, if_neg (by simp; omega)]
    by_cases hs : inR s 0 2147483647 = true
    · rw [if_pos hs, if_pos hs, slices_Clone_int64_int64.f, if_pos (by omega), Option.bind_some]
      have := inR_iff.1 hs
      exact implShuf_l0 _ l s (by omega) (by omega) this.1 this.2
    · rw [if_neg hs, if_neg hs]

theorem spec_l02Seed_eq (a : Int) : spec_l02Seed.f a = some (inR a 0 2147483647) := by simp [spec_l02Seed.f, spec_l02Is_eq]
theorem specDraw_eq (s m : Int) (h0 : 0 ≤ s) (h1 : s ≤ 2147483647) (hm : 1 ≤ m) : spec_l02Draw.f s m = some (nextS s, nextS s / 256 % m) := by
  simp only [spec_l02Draw.f]
  rw [if_neg (by omega), next_num s h0 h1, below_num s m (by omega)]
theorem specMix_l0 : ∀ (i : Nat) (l : List Int) (s : Int), (i < l.length ∨ i = 0) → l.length ≤ 400 → 0 ≤ s → s ≤ 2147483647 → Ev (fun k => spec_l02Mix.l0 k s l (i : Int)) (shufS i l s)
  | 0, l, s, _, _, _, _ => Ev.step (f := fun _ => some (s, l)) (fun k => by simp only [spec_l02Mix.l0]; rw [if_neg (by omega)]) (Ev.now _)
  | i + 1, l, s, hi, hl, h0, h1 => by
    have hn := nextS_range s
    have hi : i + 1 < l.length := by omega
    have hm : 0 ≤ nextS s / 256 % ((i : Int) + 2) ∧ nextS s / 256 % ((i : Int) + 2) < (i : Int) + 2 := ⟨Int.emod_nonneg _ (by omega), Int.emod_lt_of_pos _ (by omega)⟩
    have e : wrap64 (((i + 1 : Nat) : Int) + 1) = (i : Int) + 2 := by rw [wrap_id (by omega) (by omega)]; omega
    have e2 : wrap64 (((i + 1 : Nat) : Int) - 1) = (i : Int) := by rw [wrap_id (by omega) (by omega)]; omega
    rw [shufS]
    refine Ev.step (fun k => ?_) (specMix_l0 i _ (nextS s) (by simp; omega) (by simpa using hl) hn.1 hn.2)
    simp only [spec_l02Mix.l0]
    rw [if_pos (by omega), e, specDraw_eq s _ h0 h1 (by omega), Option.bind_some]
    simp only
    rw [if_pos (by omega), if_pos (by omega), if_pos hm.1, if_pos (by omega), e2]
    simp only [rd, Int.toNat_natCast]
theorem specMix_ev (l : List Int) (s : Int) (hl : l.length ≤ 400) (h0 : 0 ≤ s) (h1 : s ≤ 2147483647) : Ev (fun k => spec_l02Mix.f k l s) (shufS (l.length - 1) l s) := by
  have hw : wrap64 ((l.length : Int) - 1) = (l.length : Int) - 1 := wrap_id (by omega) (by omega)
  have key : Ev (fun k => spec_l02Mix.l0 k s l (wrap64 ((l.length : Int) - 1))) (shufS (l.length - 1) l s) := by
    rw [hw]
    by_cases h0 : l.length = 0
    · rw [h0]
      refine Ev.step (f := fun _ => some (s, l)) (fun k => ?_) (Ev.now _)
      simp only [spec_l02Mix.l0]; rw [if_neg (by omega)]
    · have := specMix_l0 (l.length - 1) l s (by omega) (by omega) (by omega) (by omega)
      rwa [show ((l.length - 1 : Nat) : Int) = (l.length : Int) - 1 by omega] at this
  refine Ev.congr (fun k => ?_) key
  simp only [spec_l02Mix.f, Option.bind_some, List.nil_append, List.length_nil, Nat.zero_add]
  rw [if_pos (by omega)]

theorem specHas_l0 (l : List Int) (n : Int) (hl : l.length ≤ 140737488355328) : ∀ d i : Nat, i + d = l.length → Ev (fun k => spec_l02Has.l0 k l n (i : Int)) ((l.drop i).contains n)
  | 0, i, h => Ev.step (f := fun _ => some false) (fun k => by simp only [spec_l02Has.l0]; rw [if_neg (by omega)]) (by rw [List.drop_of_length_le (by omega)]; exact Ev.now _)
  | d + 1, i, h => by
    have hw := wrap_succ (i := i) (n := l.length) (by omega) hl
    rw [drop_at l 0 (show i < l.length by omega), List.contains_cons]
    by_cases ho : l.getD i 0 = n
    · refine Ev.step (f := fun k => some true) (fun k => ?_) (by rw [ho, beq_self_eq_true, Bool.true_or]; exact Ev.now _)
      simp only [spec_l02Has.l0]
      rw [rd_nat, if_pos (by omega), if_pos (by omega), if_pos ho]
    · refine Ev.step (f := fun k => spec_l02Has.l0 k l n ((i + 1 : Nat) : Int)) (fun k => ?_) (by rw [beq_eq_false_iff_ne.2 (Ne.symm ho), Bool.false_or]; exact specHas_l0 l n hl d (i + 1) (by omega))
      simp only [spec_l02Has.l0]
      rw [hw, rd_nat, if_pos (by omega), if_pos (by omega), if_neg ho]
theorem specHas_ev (l : List Int) (n : Int) (hl : l.length ≤ 140737488355328) : Ev (fun k => spec_l02Has.f k l n) (l.contains n) := specHas_l0 l n hl l.length 0 (by omega)

theorem spec_l04Node_eq' (a : Int) : spec_l04Node.f a = some (inR a 1 6) := by simp [spec_l04Node.f, spec_l02Is_eq]
theorem specNodes_ev (l : List Int) : Ev (fun k => spec_l07Nodes.f k l) (nodesR l) := by
  by_cases h6 : l.length ≤ 6
  · have hh := allLoopE l.length (nodesT l) true (fun k i => spec_l07Nodes.l0 k l i) (fun i hi R hR => by
        have hb : Ev (fun k => spec_l02Has.f k (l.take i) (l.getD i 0)) ((l.take i).contains (l.getD i 0)) := specHas_ev _ _ (by simp; omega)
        rw [nodesT, Bool.and_assoc]
        refine Ev.step (f := fun k => if inR (l.getD i 0) 1 6 = true then (spec_l02Has.f k (l.take i) (l.getD i 0)).bind fun t109 => (if t109 = true then (some false) else (spec_l07Nodes.l0 k l ((i + 1 : Nat) : Int))) else some false) (fun k => ?_) ?_
        · simp only [spec_l07Nodes.l0, spec_l04Node_eq', Option.bind_some]
          rw [if_pos (by omega), if_pos (by omega), rd_nat, wrap_succ hi (by omega)]
          simp only [if_pos (show (i : Int) ≤ (l.length : Int) by omega), Int.toNat_natCast]
        · by_cases hr : inR (l.getD i 0) 1 6 = true
          · simp only [if_pos hr]
            refine Ev.bind hb ?_
            rw [hr, Bool.true_and]
            cases (l.take i).contains (l.getD i 0) with
            | true => simpa using Ev.now false
            | false => simpa using hR
          · simp only [if_neg hr]
            rw [Bool.not_eq_true] at hr
            rw [hr, Bool.false_and]
            exact Ev.now _) (Ev.step (f := fun _ => some true) (fun k => by simp only [spec_l07Nodes.l0]; rw [if_neg (by omega)]) (Ev.now _)) l.length 0 (by omega)
    rw [Bool.and_true] at hh
    refine Ev.congr (fun k => ?_) hh
    simp only [spec_l07Nodes.f]; rw [if_neg (by omega)]; rfl
  · have : nodesR l = false := by
      cases h : nodesR l with
      | false => rfl
      | true => exact absurd (nodesR_six h).2.2 h6
    rw [this]
    refine Ev.congr (f := fun _ => some false) (fun k => ?_) (Ev.now _)
    simp only [spec_l07Nodes.f]; rw [if_pos (by omega)]

theorem specSet_l0 (l : List Int) (hl : l.length ≤ 140737488355328) : ∀ d i : Nat, 0 < i → (i + d = l.length ∨ (d = 0 ∧ l.length ≤ i)) → Ev (fun k => spec_SetRight.l0 k l (i : Int)) (rises l i d)
  | 0, i, h0, h => Ev.step (f := fun _ => some true) (fun k => by simp only [spec_SetRight.l0]; rw [if_neg (by omega)]) (Ev.now _)
  | d + 1, i, h0, h => by
    have hw := wrap_succ (i := i) (n := l.length) (by omega) hl
    have hp := wrap_pred (i := i) (n := l.length) h0 (by omega) hl
    by_cases ho : l.getD (i - 1) 0 < l.getD i 0
    · refine Ev.step (f := fun k => spec_SetRight.l0 k l ((i + 1 : Nat) : Int)) (fun k => ?_) (by rw [rises, decide_eq_true ho, Bool.true_and]; exact specSet_l0 l hl d (i + 1) (by omega) (by omega))
      simp only [spec_SetRight.l0]
      rw [hw, hp, rd_nat, rd_nat]
      repeat' split
      all_goals first | rfl | omega
    · refine Ev.step (f := fun k => some false) (fun k => ?_) (by rw [rises, decide_eq_false ho, Bool.false_and]; exact Ev.now _)
      simp only [spec_SetRight.l0]
      rw [hw, hp, rd_nat, rd_nat]
      repeat' split
      all_goals first | rfl | omega

theorem specSet_ev (l : List Int) (hl : l.length ≤ 140737488355328) : Ev (fun k => spec_SetRight.f k l) (rises l 1 (l.length - 1) && decide (l.length ≤ 400)) := by
  by_cases h : l.length ≤ 400
  · refine Ev.congr (f := fun k => spec_SetRight.l0 k l ((1 : Nat) : Int)) (fun k => ?_) (by simpa [h] using specSet_l0 l hl (l.length - 1) 1 (by omega) (by omega))
    simp only [spec_SetRight.f]; rw [if_neg (by omega)]; rfl
  · refine Ev.congr (f := fun k => some false) (fun k => ?_) (by simpa [h] using Ev.now _)
    simp only [spec_SetRight.f]; rw [if_pos (by omega)]


theorem specTurn_ev (l : List Int) (a : Int) : Ev (fun k => spec_TurnRight.f k l a) (turnR l a) := by
  refine Ev.congr (fun k => rfl) (Ev.bind (specNodes_ev l) ?_)
  unfold turnR
  simp only [spec_l02Is_eq, Option.bind_some]
  cases nodesR l with
  | true => simpa using Ev.now _
  | false => simpa using Ev.now _

theorem slIndex_l0 (l : List Int) (n : Int) (hl : l.length ≤ 140737488355328) : ∀ d i : Nat, i + d = l.length → ∃ r : Int, Ev (fun k => slices_Index_int64_int64.l0 k l n (l.length : Int) (i : Int)) r ∧ (0 ≤ r ↔ (l.drop i).contains n = true)
  | 0, i, h => ⟨-1, Ev.step (f := fun _ => some (-1)) (fun k => by simp only [slices_Index_int64_int64.l0]; rw [if_neg (by omega)]) (Ev.now _), by rw [List.drop_of_length_le (by omega)]; simp⟩
  | d + 1, i, h => by
    have hw := wrap_succ (i := i) (n := l.length) (by omega) hl
    rw [drop_at l 0 (show i < l.length by omega), List.contains_cons]
    by_cases ho : n = l.getD i 0
    · refine ⟨(i : Int), Ev.step (f := fun k => some (i : Int)) (fun k => ?_) (Ev.now _), by rw [← ho]; simp⟩
      simp only [slices_Index_int64_int64.l0]
      rw [rd_nat, if_pos (by omega), if_pos (by omega), if_pos (by omega), if_pos ho]
    · obtain ⟨r, hr, hc⟩ := slIndex_l0 l n hl d (i + 1) (by omega)
      refine ⟨r, Ev.step (f := fun k => slices_Index_int64_int64.l0 k l n (l.length : Int) ((i + 1 : Nat) : Int)) (fun k => ?_) hr, by rw [beq_eq_false_iff_ne.2 ho, Bool.false_or]; exact hc⟩
      simp only [slices_Index_int64_int64.l0]
      rw [hw, rd_nat, if_pos (by omega), if_pos (by omega), if_pos (by omega), if_neg ho]
theorem slContains_ev (l : List Int) (n : Int) (hl : l.length ≤ 140737488355328) : Ev (fun k => slices_Contains_int64_int64.f k l n) (l.contains n) := by
  obtain ⟨r, hr, hc⟩ := slIndex_l0 l n hl l.length 0 (by omega)
  refine Ev.congr (fun k => rfl) (Ev.bind (g := fun k => slices_Index_int64_int64.f k l n) hr (f := fun _ t => some (decide (t ≥ 0))) ?_)
  rw [show decide (r ≥ 0) = l.contains n by rw [Bool.eq_iff_iff, decide_eq_true_iff]; exact hc]
  exact Ev.now _

theorem impl_isNode_eq' (a : Int) : impl_isNode.f a = some (inR a 1 6) := by simp [impl_isNode.f, impl_within_eq]
theorem implTurn_ev (l : List Int) (a : Int) (hl : l.length ≤ 140737488355328) : Ev (fun k => impl_TurnRight.f k l a) (turnR l a) := by
  have hh := allLoopE l.length (nodesT l) (decide (l.length ≤ 6) && inR a 0 l.length) (fun k i => impl_TurnRight.l0 k l (l.length : Int) i l a) (fun i hi R hR => by
        have hb : Ev (fun k => slices_Contains_int64_int64.f k (l.take i) (l.getD i 0)) ((l.take i).contains (l.getD i 0)) := slContains_ev _ _ (by simp; omega)
        rw [nodesT, Bool.and_assoc]
        refine Ev.step (f := fun k => if inR (l.getD i 0) 1 6 = true then (slices_Contains_int64_int64.f k (l.take i) (l.getD i 0)).bind fun t109 => (if t109 = true then (some false) else (impl_TurnRight.l0 k l (l.length : Int) ((i + 1 : Nat) : Int) l a)) else some false) (fun k => ?_) ?_
        · simp only [impl_TurnRight.l0, impl_isNode_eq', Option.bind_some]
          rw [if_pos (by omega), if_pos (by omega), if_pos (by omega), rd_nat, wrap_succ hi hl]
          simp only [if_pos (show (i : Int) ≤ (l.length : Int) by omega), Int.toNat_natCast]
        · by_cases hr : inR (l.getD i 0) 1 6 = true
          · simp only [if_pos hr]
            refine Ev.bind hb ?_
            rw [hr, Bool.true_and]
            cases (l.take i).contains (l.getD i 0) with
            | true => simpa using Ev.now false
            | false => simpa using hR
          · simp only [if_neg hr]
            rw [Bool.not_eq_true] at hr
            rw [hr, Bool.false_and]
            exact Ev.now _) (Ev.step (f := fun _ => some (decide (l.length ≤ 6) && inR a 0 l.length)) (fun k => by
        simp only [impl_TurnRight.l0, impl_within_eq, Option.bind_some]
        rw [if_neg (by omega)]
        by_cases h6 : l.length ≤ 6
        · rw [if_pos (by omega), decide_eq_true h6, Bool.true_and]
        · rw [if_neg (by omega), decide_eq_false h6, Bool.false_and]) (Ev.now _)) l.length 0 (by omega)
  refine Ev.ofBool hh ?_
  show (nodesR l && _) = _
  unfold turnR
  cases h : nodesR l with
  | false => rfl
  | true => rw [decide_eq_true (nodesR_six h).2.2]; simp

/-- Whose turn it is, from place i on (d places). -/
def nextFrom (T nodes : List Int) (s : Int) : Nat → Nat → List Int × Int × Int × Int × Int
  | _, 0 => ((shufS (nodes.length - 1) nodes s).2, 1, (shufS (nodes.length - 1) nodes s).2.getD 0 0, (shufS (nodes.length - 1) nodes s).1, 0)
  | i, d + 1 => if nodes.contains (T.getD i 0) = true then (T, ((i + 1 : Nat) : Int), T.getD i 0, s, 0) else nextFrom T nodes s (i + 1) d
theorem nextFrom_length (T nodes : List Int) (s : Int) (hT : T.length ≤ 6) (hn : nodes.length ≤ 400) : ∀ d i : Nat, (nextFrom T nodes s i d).1.length ≤ 400
  | 0, i => by
    show (shufS (nodes.length - 1) nodes s).2.length ≤ 400
    rw [shufS_length]; exact hn
  | d + 1, i => by
    unfold nextFrom
    split
    · show T.length ≤ 400
      omega
    · exact nextFrom_length T nodes s hT hn d (i + 1)
/-- TurnNext. -/
def turnNextS (T : List Int) (a : Int) (nodes : List Int) (s : Int) : List Int × Int × Int × Int × Int :=
  if 400 < nodes.length then ([], 0, 0, 0, 2) else if (turnR T a && (areOK nodes && inR s 0 2147483647)) = true then (if nodes.length = 0 then ([], 0, 0, 0, 6) else nextFrom T nodes s a.toNat (T.length - a.toNat)) else ([], 0, 0, 0, 1)
theorem turnR_six {T : List Int} {a : Int} (h : turnR T a = true) : T.length ≤ 6 ∧ 0 ≤ a ∧ a ≤ (T.length : Int) := by
  rw [turnR, Bool.and_eq_true, inR_iff] at h
  exact ⟨(nodesR_six h.1).2.2, h.2⟩
theorem turnNextS_length (T : List Int) (a : Int) (nodes : List Int) (s : Int) : (turnNextS T a nodes s).1.length ≤ 400 := by
  unfold turnNextS
  split
  · simp
  · split
    · rename_i h1 h2
      rw [Bool.and_eq_true] at h2
      split
      · simp
      · exact nextFrom_length T nodes s (turnR_six h2.1).1 (by omega) _ _
    · simp
theorem specNext_l0 (T nodes : List Int) (s a : Int) (hT : T.length ≤ 6) (hn : nodes.length ≤ 400) (h1 : 0 < nodes.length) (h0 : 0 ≤ s) (h2 : s ≤ 2147483647) : ∀ d i : Nat, i + d = T.length → Ev (fun k => spec_l07Next.l0 k nodes s (i : Int) T a) (nextFrom T nodes s i d)
  | 0, i, h => by
    have hlen := shufS_length (nodes.length - 1) nodes s
    refine Ev.step (f := fun k => (spec_l02Mix.f k nodes s).bind fun t => if 0 < (t.2.length : Int) then some (t.2, 1, rd t.2 0, t.1, 0) else none) (fun k => ?_) (Ev.bind (specMix_ev nodes s hn h0 h2) ?_)
    · simp only [spec_l07Next.l0]; rw [if_neg (by omega)]
    · rw [if_pos (by omega)]; exact Ev.now _
  | d + 1, i, h => by
    have hi : i < T.length := by omega
    have hw : wrap64 ((i : Int) + 1) = ((i + 1 : Nat) : Int) := wrap_succ hi (by omega)
    refine Ev.step (fun k => by simp only [spec_l07Next.l0]; rw [if_pos (by omega), if_pos (by omega), rd_nat, hw]) (Ev.bind (specHas_ev nodes (T.getD i 0) (by omega)) ?_)
    unfold nextFrom
    cases hc : nodes.contains (T.getD i 0) with
    | true =>
      simp only [if_true, Option.bind_some, List.length_nil, Nat.zero_add, List.nil_append]
      rw [if_pos (by omega)]
      exact Ev.now _
    | false =>
      simp only [Bool.false_eq_true, if_false]
      exact specNext_l0 T nodes s a hT hn h1 h0 h2 d (i + 1) (by omega)
theorem implNext_l0 (T nodes : List Int) (s a : Int) (hT : T.length ≤ 6) (hn : nodes.length ≤ 400) (h1 : 0 < nodes.length) (hs : inR s 0 2147483647 = true) : ∀ d i : Nat, i + d = T.length → Ev (fun k => impl_TurnNext.l0 k nodes s (i : Int) T a) (nextFrom T nodes s i d)
  | 0, i, h => by
    have hlen := shufS_length (nodes.length - 1) nodes s
    have hT : shuffleS nodes s = shufS (nodes.length - 1) nodes s := by unfold shuffleS; rw [if_neg (by omega), if_pos hs]
    refine Ev.step (f := fun _ => some (nextFrom T nodes s i 0)) (fun k => ?_) (Ev.now _)
    simp only [impl_TurnNext.l0, implShuffle_eq nodes s (by omega), Option.bind_some, hT]; rw [if_neg (by omega), if_pos (by omega)]
    rfl
  | d + 1, i, h => by
    have hi : i < T.length := by omega
    have hw : wrap64 ((i : Int) + 1) = ((i + 1 : Nat) : Int) := wrap_succ hi (by omega)
    refine Ev.step (fun k => by simp only [impl_TurnNext.l0]; rw [if_pos (by omega), if_pos (by omega), rd_nat, hw]) (Ev.bind (slContains_ev nodes (T.getD i 0) (by omega)) ?_)
    unfold nextFrom
    cases hc : nodes.contains (T.getD i 0) with
    | true =>
      simp only [if_true, slices_Clone_int64_int64.f]
      rw [if_pos (by omega)]
      exact Ev.now _
    | false =>
      simp only [Bool.false_eq_true, if_false]
      exact implNext_l0 T nodes s a hT hn h1 hs d (i + 1) (by omega)
theorem specTurnNext_ev (T : List Int) (a : Int) (nodes : List Int) (s : Int) (hn : nodes.length ≤ 140737488355328) : Ev (fun k => spec_TurnNext.f k T a nodes s) (turnNextS T a nodes s) := by
  unfold turnNextS
  by_cases h : 400 < nodes.length
  · rw [if_pos h]
    refine Ev.congr (f := fun _ => some _) (fun k => ?_) (Ev.now _)
    simp only [spec_TurnNext.f]; rw [if_pos (by omega)]
  · rw [if_neg h]
    refine Ev.congr (fun k => by simp only [spec_TurnNext.f]; rw [if_neg (by omega)]) (Ev.bind (specTurn_ev T a) ?_)
    rw [← areOK_eq]
    cases ht : turnR T a with
    | false => simp only [Bool.false_and, Bool.false_eq_true, if_false]; exact Ev.now _
    | true =>
      obtain ⟨t6, ta0, ta1⟩ := turnR_six ht
      simp only [Bool.true_and, if_true]
      refine Ev.bind (specNodes_ev nodes) ?_
      cases hnn : nodesR nodes with
      | false => simp only [Bool.false_and, Bool.false_eq_true, if_false]; exact Ev.now _
      | true =>
        simp only [Bool.true_and, if_true]
        refine Ev.bind (specSet_ev nodes hn) ?_
        rw [← setR]
        cases hs : setR nodes with
        | false => simp only [Bool.false_and, Bool.false_eq_true, if_false]; exact Ev.now _
        | true =>
          simp only [Bool.true_and, if_true, spec_l02Seed_eq, Option.bind_some]
          cases hd : inR s 0 2147483647 with
          | false => simp only [Bool.false_eq_true, if_false]; exact Ev.now _
          | true =>
            simp only [if_true]
            have h1 := inR_iff.1 hd
            by_cases h0 : nodes.length = 0
            · rw [if_pos h0]
              refine Ev.congr (f := fun _ => some _) (fun k => ?_) (Ev.now _)
              simp only [spec_l07Next.f]; rw [if_pos (by omega)]; rfl
            · rw [if_neg h0]
              have := specNext_l0 T nodes s a t6 (by omega) (by omega) h1.1 h1.2 (T.length - a.toNat) a.toNat (by omega)
              rw [show ((a.toNat : Nat) : Int) = a by omega] at this
              refine Ev.congr (fun k => ?_) (Ev.bind this (f := fun _ t => some (t.1, t.2.1, t.2.2.1, t.2.2.2.1, t.2.2.2.2)) (Ev.now _))
              simp only [spec_l07Next.f]; rw [if_neg (by omega)]
theorem implTurnNext_ev (T : List Int) (a : Int) (nodes : List Int) (s : Int) (hn : nodes.length ≤ 1048576) (hT : T.length ≤ 140737488355328) : Ev (fun k => impl_TurnNext.f k T a nodes s) (turnNextS T a nodes s) := by
  have tr : ∀ r, r = (([] : List Int), (0 : Int), (0 : Int), (0 : Int), (1 : Int)) → Ev (fun k => impl_TurnNext.j0 k nodes s true T a) r := by
    rintro r rfl
    exact Ev.step (f := fun _ => some _) (fun k => by simp only [impl_TurnNext.j0, if_true]) (Ev.now _)
  unfold turnNextS
  by_cases h : 400 < nodes.length
  · rw [if_pos h]
    refine Ev.congr (f := fun _ => some _) (fun k => ?_) (Ev.now _)
    simp only [impl_TurnNext.f, impl_longList_int64.f, Option.bind_some]; rw [if_pos (by simp; omega)]
  · rw [if_neg h]
    refine Ev.congr (fun k => by simp only [impl_TurnNext.f, impl_longList_int64.f, Option.bind_some]; rw [if_neg (by simp; omega)]) (Ev.bind (implTurn_ev T a hT) ?_)
    cases ht : turnR T a with
    | false => simp only [Bool.false_and, Bool.false_eq_true, if_false]; exact tr _ rfl
    | true =>
      obtain ⟨t6, ta0, ta1⟩ := turnR_six ht
      simp only [Bool.true_and, if_true]
      refine Ev.bind (areNodes_ev nodes (by omega)) ?_
      cases hnn : areOK nodes with
      | false => simp only [Bool.false_and, Bool.false_eq_true, if_false]; exact tr _ rfl
      | true =>
        simp only [Bool.true_and, if_true, impl_isSeed_eq, Option.bind_some]
        cases hd : inR s 0 2147483647 with
        | false => simp only [Bool.not_false, Bool.false_eq_true, if_false]; exact tr _ rfl
        | true =>
          simp only [Bool.not_true, if_true]
          by_cases h0 : nodes.length = 0
          · rw [if_pos h0]
            refine Ev.step (f := fun _ => some _) (fun k => ?_) (Ev.now _)
            simp only [impl_TurnNext.j0, Bool.false_eq_true, if_false]; rw [if_pos (by omega)]
          · rw [if_neg h0]
            have := implNext_l0 T nodes s a t6 (by omega) (by omega) hd (T.length - a.toNat) a.toNat (by omega)
            rw [show ((a.toNat : Nat) : Int) = a by omega] at this
            refine Ev.step (fun k => ?_) this
            simp only [impl_TurnNext.j0, Bool.false_eq_true, if_false]; rw [if_neg (by omega)]

theorem eqTurnOut_refl (l : List Int) (a b c d : Int) (hl : l.length ≤ 140737488355328) : Ev (fun k => laws_eqTurnOut.f k l a b c d l a b c d) true := by
  refine Ev.bind (eqTurn_ev l a l a hl) ?_
  simp only [decide_true, Bool.and_self, if_true]
  exact Ev.now _
theorem markTurn_ev (l : List Int) (a : Int) (hl : l.length ≤ 140737488355328) : Ev (fun k => laws_markTurn.f k l a 1) (1 + (l.length : Int), marks (fun x => x) 1 1 l.length) :=
  Ev.bind (markInts_ev l 1 (by omega) (by omega)) (Ev.now _)
theorem markTurnOut_ev (l : List Int) (a b c d : Int) (hl : l.length ≤ 140737488355328) : Ev (fun k => laws_markTurnOut.f k l a b c d 1) (1 + (l.length : Int), marks (fun x => x) 1 1 l.length) :=
  Ev.bind (markTurn_ev l a hl) (Ev.now _)
theorem heldTurnOut_ev (n : Nat) (a b c d : Int) (hl : n ≤ 140737488355328) : Ev (fun k => laws_heldTurnOut.f k (marks (fun x => x) 1 1 n) a b c d 1) (1 + (n : Int)) := by
  refine Ev.bind (Ev.bind (heldInts_ev n 1 (by omega) (by omega)) (f := fun _ t => if t < 0 then some (-1) else some t) (r := 1 + (n : Int)) ?_) ?_
  · rw [if_neg (by omega)]; exact Ev.now _
  · rw [if_neg (by omega)]; exact Ev.now _
theorem turnTail (l : List Int) (a : Int) (m : List Int) (s : Int) (hl : l.length ≤ 1048576) (hm : m.length ≤ 1048576) (T : List Int × Int × Int × Int × Int) (hT : T = turnNextS l a m s) : Ev (fun k => laws_FnExactTurnNext.j0 k m s false l a T.1 T.2.1 T.2.2.1 T.2.2.2.1 T.2.2.2.2 T.1 T.2.1 T.2.2.1 T.2.2.2.1 T.2.2.2.2) true := by
  have h4 : T.1.length ≤ 400 := hT ▸ turnNextS_length _ _ _ _
  refine Ev.step (fun k => by simp only [laws_FnExactTurnNext.j0, Bool.false_eq_true, if_false]; rfl) ?_
  refine Ev.bind (markTurnOut_ev T.1 _ _ _ _ (by omega)) (Ev.bind (heldTurnOut_ev T.1.length _ _ _ _ (by omega)) ?_)
  simp only [if_neg (show ¬ (1 + (T.1.length : Int)) < 0 by omega), if_true]
  refine Ev.bind (toTurn_ev l a hl) (Ev.bind (toInts_ev m hm) (Ev.bind (implTurnNext_ev l a m s hm (by omega)) ?_))
  rw [← hT]
  refine Ev.bind (eqTurnOut_refl T.1 _ _ _ _ (by omega)) ?_
  simp only [if_true]
  refine Ev.bind (heldTurnOut_ev T.1.length _ _ _ _ (by omega)) ?_
  simp only [if_neg (show ¬ (1 + (T.1.length : Int)) < 0 by omega), if_true]
  exact Ev.now _
theorem FnExactTurnNext : laws_FnExactTurnNext.Goal := by
  intro l a m s hlm _ _ _ _ _
  by_cases hb : (m.length : Int) > 1048576
  · exact ⟨0, by simp only [laws_FnExactTurnNext.f]; rw [if_pos hb]⟩
  · have hm : m.length ≤ 1048576 := by omega
    by_cases hb2 : 1048576 < l.length
    · refine Ev.rounds (Ev.congr (f := fun _ => some true) (fun k => ?_) (Ev.now _))
      simp only [laws_FnExactTurnNext.f, szTurn_eq l a (by omega), Option.bind_some]
      rw [if_neg hb, if_pos hb2, if_pos (by omega)]
    · have hl : l.length ≤ 1048576 := by omega
      have h4 := turnNextS_length l a m s
      refine Ev.rounds (Ev.congr (fun k => by simp only [laws_FnExactTurnNext.f, szTurn_eq l a (by omega), Option.bind_some]; rw [if_neg hb, if_neg hb2, if_neg (by omega)]) ?_)
      refine Ev.bind (toTurn_ev l a hl) (Ev.bind (toInts_ev m hm) (Ev.bind (specTurnNext_ev l a m s (by omega)) (Ev.bind (toTurn_ev l a hl) (Ev.bind (toInts_ev m hm) (Ev.bind (implTurnNext_ev l a m s hm (by omega)) ?_)))))
      refine Ev.bind (eqTurnOut_refl _ _ _ _ _ (by omega)) ?_
      simp only [if_true]
      refine Ev.bind (toTurn_ev l a hl) (Ev.bind (eqTurn_ev l a l a (by omega)) ?_)
      simp only [decide_true, Bool.and_self, if_true]
      refine Ev.bind (toInts_ev m hm) (Ev.bind (eqInts_ev m m (by omega)) ?_)
      simp only [decide_true, if_true]
      refine Ev.bind (markTurn_ev l a (by omega)) (Ev.bind (markInts_ev m _ (by omega) (by omega)) ?_)
      simp only [if_neg (show ¬ (1 + (l.length : Int) + (m.length : Int)) < 0 by omega)]
      refine Ev.bind (eqTurnOut_refl _ _ _ _ _ (by omega)) ?_
      exact turnTail l a m s hl hm _ rfl

end Go.Proofs.Ytpadikfnnfnelaa.Pure
