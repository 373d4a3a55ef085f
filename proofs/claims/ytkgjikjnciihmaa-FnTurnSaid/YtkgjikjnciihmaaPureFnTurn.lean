/- The plain law of FnTurn: what the Lean functions of the printed texts answer. -/
import Derived.Test.YtkgjikjnciihmaaGFnTurn
import Derived.Test.YtkgjikjnciihmaaXFnTurn
namespace Go.Proofs.Ytkgjikjnciihmaa.Pure
open Go.RowKit Go.Proofs.Ytkgjikjnciihmaa.PFnTurn Go.Proofs.YtkgjikjnciihmaaW.PrintWords Go.Proofs.YtkgjikjnciihmaaW.PrintLast Go.Proofs.YtkgjikjnciihmaaW.PrintMore Go.Proofs.YtkgjikjnciihmaaH
set_option linter.unusedVariables false
set_option linter.unusedSimpArgs false

/-- Is a set right? -/
def setR (l : List Int) : Bool := rises l 1 (l.length - 1) && decide (l.length ≤ 400)
theorem rises_iff (l : List Int) : ∀ d i : Nat, rises l i d = true ↔ ∀ j, i ≤ j → j < i + d → l.getD (j - 1) 0 < l.getD j 0
  | 0, i => by simp [rises]; intro j h1 h2; omega
  | d + 1, i => by
    rw [rises, Bool.and_eq_true, rises_iff l d (i + 1), decide_eq_true_iff]
    constructor
    · rintro ⟨h1, h2⟩ j hj hk
      rcases Nat.lt_or_ge i j with h | h
      · exact h2 j h (by omega)
      · have : j = i := by omega
        rw [this]; exact h1
    · intro h
      exact ⟨h i (by omega) (by omega), fun j h1 h2 => h j (by omega) (by omega)⟩
theorem setR_lt {l : List Int} (h : setR l = true) : ∀ b a : Nat, a < b → b < l.length → l.getD a 0 < l.getD b 0 := by
  rw [setR, Bool.and_eq_true, rises_iff] at h
  intro b
  induction b with
  | zero => intro a h1; omega
  | succ b ih =>
    intro a h1 h2
    have h3 := h.1 (b + 1) (by omega) (by omega)
    rw [Nat.add_sub_cancel] at h3
    rcases Nat.lt_or_ge a b with h4 | h4
    · have := ih a h4 (by omega); omega
    · have : a = b := by omega
      subst this; exact h3

/-- May the number at place i stand there, as a node that is not ahead of it? -/
def nodesT (l : List Int) (i : Nat) : Bool := inR (l.getD i 0) 1 6 && !(l.take i).contains (l.getD i 0)
/-- Nodes, no two alike. -/
def nodesR (l : List Int) : Bool := allB (nodesT l) 0 l.length
theorem nodesR_six {l : List Int} (h : nodesR l = true) : (∀ x ∈ l, 1 ≤ x ∧ x ≤ 6) ∧ l.Nodup ∧ l.length ≤ 6 := by
  have key : ∀ j, j < l.length → (1 ≤ l.getD j 0 ∧ l.getD j 0 ≤ 6) ∧ (l.take j).contains (l.getD j 0) = false := by
    intro j hj
    have := (allB_iff _ _ _).1 h j (by omega) (by omega)
    rw [nodesT, Bool.and_eq_true, inR_iff, Bool.not_eq_true'] at this
    exact this
  have h1 : ∀ x ∈ l, 1 ≤ x ∧ x ≤ 6 := by
    intro x hx
    obtain ⟨j, hj, rfl⟩ := List.getElem_of_mem hx
    have := (key j hj).1
    simpa [List.getD, hj] using this
  have h2 := nodup_of_all l (fun j hj => (key j hj).2)
  exact ⟨h1, h2, apart_six l h1 h2⟩
/-- Is a turn right? -/
def turnR (l : List Int) (a : Int) : Bool := nodesR l && inR a 0 l.length

/-- Are these nodes, each above the one ahead? -/
def areOK (l : List Int) : Bool := setR l && l.all (fun x => inR x 1 6)
theorem areOK_eq (l : List Int) : (nodesR l && setR l) = areOK l := by
  rw [Bool.eq_iff_iff, areOK, Bool.and_eq_true, Bool.and_eq_true]
  constructor
  · rintro ⟨h1, h2⟩
    refine ⟨h2, ?_⟩
    rw [List.all_eq_true]
    intro x hx
    exact inR_iff.2 ((nodesR_six h1).1 x hx)
  · rintro ⟨h1, h2⟩
    refine ⟨?_, h1⟩
    rw [List.all_eq_true] at h2
    rw [nodesR, allB_iff]
    intro j _ hj
    have hm : l.getD j 0 ∈ l := by simp [List.getD, show j < l.length by omega]
    rw [nodesT, h2 _ hm, Bool.true_and, Bool.not_eq_true', List.contains_eq_mem, decide_eq_false_iff_not]
    intro hc
    obtain ⟨i, hi, he⟩ := List.getElem_of_mem hc
    have hi2 : i < j := by simp at hi; omega
    have := setR_lt h1 j i hi2 (by omega)
    rw [List.getElem_take] at he
    simp only [List.getD, List.getElem?_eq_getElem (show i < l.length by omega), Option.getD_some, he] at this
    simp [List.getD] at this
theorem areOK_six {l : List Int} (h : areOK l = true) : l.length ≤ 6 := by
  rw [← areOK_eq, Bool.and_eq_true] at h
  exact (nodesR_six h.1).2.2

theorem implSet_l0 (l : List Int) (hl : l.length ≤ 140737488355328) : ∀ d i : Nat, 0 < i → (i + d = l.length ∨ (d = 0 ∧ l.length ≤ i)) → Ev (fun k => impl_SetRight.l0 k l (i : Int)) (rises l i d && decide (l.length ≤ 400))
  | 0, i, h0, h => Ev.step (f := fun _ => some (decide (l.length ≤ 400))) (fun k => by
      simp only [impl_SetRight.l0, impl_longList_int64.f, Option.bind_some]; rw [if_neg (by omega)]
      congr 1; rw [Bool.eq_iff_iff]; simp; omega) (by simpa [rises] using Ev.now _)
  | d + 1, i, h0, h => by
    have hw := wrap_succ (i := i) (n := l.length) (by omega) hl
    have hp := wrap_pred (i := i) (n := l.length) h0 (by omega) hl
    by_cases ho : l.getD (i - 1) 0 < l.getD i 0
    · refine Ev.step (f := fun k => impl_SetRight.l0 k l ((i + 1 : Nat) : Int)) (fun k => ?_) (by rw [rises, decide_eq_true ho, Bool.true_and]; exact implSet_l0 l hl d (i + 1) (by omega) (by omega))
      simp only [impl_SetRight.l0]
      rw [hw, hp, rd_nat, rd_nat]
      repeat' split
      all_goals first | rfl | omega
    · refine Ev.step (f := fun k => some false) (fun k => ?_) (by rw [rises, decide_eq_false ho, Bool.false_and, Bool.false_and]; exact Ev.now _)
      simp only [impl_SetRight.l0]
      rw [hw, hp, rd_nat, rd_nat]
      repeat' split
      all_goals first | rfl | omega

theorem implSet_ev (l : List Int) (hl : l.length ≤ 140737488355328) : Ev (fun k => impl_SetRight.f k l) (rises l 1 (l.length - 1) && decide (l.length ≤ 400)) :=
  implSet_l0 l hl (l.length - 1) 1 (by omega) (by omega)


theorem impl_within_eq (a b c : Int) : impl_within.f a b c = some (inR a b c) := by
  by_cases h : b ≤ a <;> simp [impl_within.f, inR, h]

theorem impl_isNode_eqN (a : Int) : impl_isNode.f a = some (inR a 1 6) := by simp [impl_isNode.f, impl_within_eq]
theorem areNodes_l0 : ∀ l : List Int, impl_areNodes.l0 l = some (l.all (fun x => inR x 1 6))
  | [] => rfl
  | x :: xs => by
    rw [impl_areNodes.l0, impl_isNode_eqN, Option.bind_some, List.all_cons]
    cases h : inR x 1 6 with
    | true => rw [if_pos rfl, areNodes_l0 xs, Bool.true_and]
    | false => rw [if_neg (by decide), Bool.false_and]
theorem areNodes_ev (l : List Int) (hl : l.length ≤ 140737488355328) : Ev (fun k => impl_areNodes.f k l) (areOK l) := by
  refine Ev.bind (implSet_ev l hl) ?_
  rw [areOK, ← setR]
  cases h : setR l with
  | true => simp only [if_pos, areNodes_l0, Bool.true_and, if_pos hl]; exact Ev.now _
  | false => simp only [Bool.false_and]; exact Ev.now _

theorem spec_l02Is_eq (a b c : Int) : spec_l02Is.f a b c = some (inR a b c) := by
  by_cases h : b ≤ a <;> simp [spec_l02Is.f, inR, h]

/-- The next seed. -/
def nextS (s : Int) : Int := (s * 91813 + 30011) % 2147483648
theorem nextS_range (s : Int) : 0 ≤ nextS s ∧ nextS s ≤ 2147483647 := by
  unfold nextS
  omega
theorem next_num (s : Int) (h0 : 0 ≤ s) (h1 : s ≤ 2147483647) : Int.tmod (wrap64 ((wrap64 (s * 91813)) + 30011)) 2147483648 = nextS s := by
  rw [wrap_id (x := s * 91813) (by omega) (by omega), wrap_id (x := s * 91813 + 30011) (by omega) (by omega), Int.tmod_eq_emod_of_nonneg (by omega)]
  rfl
theorem below_num (s m : Int) (hm : 0 < m) : Int.tmod (wrap64 (Int.tdiv (nextS s) 256)) m = nextS s / 256 % m := by
  have h := nextS_range s
  rw [Int.tdiv_eq_ediv_of_nonneg h.1, wrap_id (by omega) (by omega), Int.tmod_eq_emod_of_nonneg (by omega)]
/-- Shuffled from place i down. -/
def shufS : Nat → List Int → Int → Int × List Int
  | 0, l, s => (s, l)
  | i + 1, l, s => shufS i ((l.set (i + 1) (l.getD (nextS s / 256 % ((i : Int) + 2)).toNat 0)).set (nextS s / 256 % ((i : Int) + 2)).toNat (l.getD (i + 1) 0)) (nextS s)
theorem shufS_length : ∀ (i : Nat) (l : List Int) (s : Int), (shufS i l s).2.length = l.length
  | 0, _, _ => rfl
  | i + 1, l, s => by rw [shufS, shufS_length i]; simp
/-- Shuffle. -/
def shuffleS (l : List Int) (s : Int) : Int × List Int := if 400 < l.length then (0, []) else if inR s 0 2147483647 = true then shufS (l.length - 1) l s else (0, [])
theorem shuffleS_length (l : List Int) (s : Int) : (shuffleS l s).2.length ≤ 400 := by
  unfold shuffleS
  split
  · simp
  · split
    · rw [shufS_length]; omega
    · simp

theorem impl_isSeed_eq (a : Int) : impl_isSeed.f a = some (inR a 0 2147483647) := by simp [impl_isSeed.f, impl_within_eq]
theorem implChance_eq (s m : Int) (h0 : 0 ≤ s) (h1 : s ≤ 2147483647) (hm : 1 ≤ m) (hm2 : m ≤ 1000000) : impl_Chance.f s m = some (nextS s, nextS s / 256 % m) := by
  simp only [impl_Chance.f, impl_isSeed_eq, impl_within_eq, Option.bind_some]
  rw [if_pos (inR_iff.2 ⟨h0, h1⟩), if_pos (inR_iff.2 ⟨hm, hm2⟩), if_neg (by omega), next_num s h0 h1, below_num s m (by omega)]
theorem rd_toNat (l : List Int) (i : Int) : rd l i = l.getD i.toNat 0 := by simp [rd]
theorem implShuf_l0 : ∀ (i : Nat) (l : List Int) (s : Int), (i < l.length ∨ i = 0) → l.length ≤ 400 → 0 ≤ s → s ≤ 2147483647 → impl_Shuffle.l0 i l s = some (shufS i l s)
  | 0, _, _, _, _, _, _ => rfl
  | i + 1, l, s, hi, hl, h0, h1 => by
    have hn := nextS_range s
    have hi : i + 1 < l.length := by omega
    have hm : 0 ≤ nextS s / 256 % ((i : Int) + 2) ∧ nextS s / 256 % ((i : Int) + 2) < (i : Int) + 2 := ⟨Int.emod_nonneg _ (by omega), Int.emod_lt_of_pos _ (by omega)⟩
    have e : (((i + 1 : Nat) : Int) + 1) = (i : Int) + 2 := by omega
    rw [impl_Shuffle.l0, e, implChance_eq s _ h0 h1 (by omega) (by omega), Option.bind_some, if_pos (by simp only; omega)]
    simp only [rd_toNat, Int.toNat_natCast]
    exact implShuf_l0 i _ _ (by simp; omega) (by simpa using hl) hn.1 hn.2
theorem implShuffle_eq (l : List Int) (s : Int) (hl : l.length ≤ 17592186044415) : impl_Shuffle.f l s = some (shuffleS l s) := by
  unfold shuffleS
  simp only [impl_Shuffle.f, impl_longList_int64.f, impl_isSeed_eq, Option.bind_some]
  by_cases h : 400 < l.length
  · rw [if_pos h, if_pos (by simp; omega)]
  · rw [if_neg h, if_neg (by simp; omega)]
    by_cases hs : inR s 0 2147483647 = true
    · rw [if_pos hs, if_pos hs, slices_Clone_int64_int64.f, if_pos (by omega), Option.bind_some]
      have := inR_iff.1 hs
      exact implShuf_l0 _ l s (by omega) (by omega) this.1 this.2
    · rw [if_neg hs, if_neg hs]

theorem spec_l02Seed_eq (a : Int) : spec_l02Seed.f a = some (inR a 0 2147483647) := by simp [spec_l02Seed.f, spec_l02Is_eq]
theorem specDraw_eq (s m : Int) (h0 : 0 ≤ s) (h1 : s ≤ 2147483647) (hm : 1 ≤ m) : spec_l02Draw.f s m = some (nextS s, nextS s / 256 % m) := by
  simp only [spec_l02Draw.f]
  rw [if_neg (by omega), next_num s h0 h1, below_num s m (by omega)]
theorem specMix_l0 : ∀ (i : Nat) (l : List Int) (s : Int), (i < l.length ∨ i = 0) → l.length ≤ 400 → 0 ≤ s → s ≤ 2147483647 → Ev (fun k => spec_l02Mix.l0 k s l (i : Int)) (shufS i l s)
  | 0, l, s, _, _, _, _ => Ev.step (f := fun _ => some (s, l)) (fun k => by simp only [spec_l02Mix.l0]; rw [if_neg (by omega)]) (Ev.now _)
  | i + 1, l, s, hi, hl, h0, h1 => by
    have hn := nextS_range s
    have hi : i + 1 < l.length := by omega
    have hm : 0 ≤ nextS s / 256 % ((i : Int) + 2) ∧ nextS s / 256 % ((i : Int) + 2) < (i : Int) + 2 := ⟨Int.emod_nonneg _ (by omega), Int.emod_lt_of_pos _ (by omega)⟩
    have e : wrap64 (((i + 1 : Nat) : Int) + 1) = (i : Int) + 2 := by rw [wrap_id (by omega) (by omega)]; omega
    have e2 : wrap64 (((i + 1 : Nat) : Int) - 1) = (i : Int) := by rw [wrap_id (by omega) (by omega)]; omega
    rw [shufS]
    refine Ev.step (fun k => ?_) (specMix_l0 i _ (nextS s) (by simp; omega) (by simpa using hl) hn.1 hn.2)
    simp only [spec_l02Mix.l0]
    rw [if_pos (by omega), e, specDraw_eq s _ h0 h1 (by omega), Option.bind_some]
    simp only
    rw [if_pos (by omega), if_pos (by omega), if_pos hm.1, if_pos (by omega), e2]
    simp only [rd, Int.toNat_natCast]
theorem specMix_ev (l : List Int) (s : Int) (hl : l.length ≤ 400) (h0 : 0 ≤ s) (h1 : s ≤ 2147483647) : Ev (fun k => spec_l02Mix.f k l s) (shufS (l.length - 1) l s) := by
  have hw : wrap64 ((l.length : Int) - 1) = (l.length : Int) - 1 := wrap_id (by omega) (by omega)
  have key : Ev (fun k => spec_l02Mix.l0 k s l (wrap64 ((l.length : Int) - 1))) (shufS (l.length - 1) l s) := by
    rw [hw]
    by_cases h0 : l.length = 0
    · rw [h0]
      refine Ev.step (f := fun _ => some (s, l)) (fun k => ?_) (Ev.now _)
      simp only [spec_l02Mix.l0]; rw [if_neg (by omega)]
    · have := specMix_l0 (l.length - 1) l s (by omega) (by omega) (by omega) (by omega)
      rwa [show ((l.length - 1 : Nat) : Int) = (l.length : Int) - 1 by omega] at this
  refine Ev.congr (fun k => ?_) key
  simp only [spec_l02Mix.f, Option.bind_some, List.nil_append, List.length_nil, Nat.zero_add]
  rw [if_pos (by omega)]

theorem specHas_l0 (l : List Int) (n : Int) (hl : l.length ≤ 140737488355328) : ∀ d i : Nat, i + d = l.length → Ev (fun k => spec_l02Has.l0 k l n (i : Int)) ((l.drop i).contains n)
  | 0, i, h => Ev.step (f := fun _ => some false) (fun k => by simp only [spec_l02Has.l0]; rw [if_neg (by omega)]) (by rw [List.drop_of_length_le (by omega)]; exact Ev.now _)
  | d + 1, i, h => by
    have hw := wrap_succ (i := i) (n := l.length) (by omega) hl
    rw [drop_at l 0 (show i < l.length by omega), List.contains_cons]
    by_cases ho : l.getD i 0 = n
    · refine Ev.step (f := fun k => some true) (fun k => ?_) (by rw [ho, beq_self_eq_true, Bool.true_or]; exact Ev.now _)
      simp only [spec_l02Has.l0]
      rw [rd_nat, if_pos (by omega), if_pos (by omega), if_pos ho]
    · refine Ev.step (f := fun k => spec_l02Has.l0 k l n ((i + 1 : Nat) : Int)) (fun k => ?_) (by rw [beq_eq_false_iff_ne.2 (Ne.symm ho), Bool.false_or]; exact specHas_l0 l n hl d (i + 1) (by omega))
      simp only [spec_l02Has.l0]
      rw [hw, rd_nat, if_pos (by omega), if_pos (by omega), if_neg ho]
theorem specHas_ev (l : List Int) (n : Int) (hl : l.length ≤ 140737488355328) : Ev (fun k => spec_l02Has.f k l n) (l.contains n) := specHas_l0 l n hl l.length 0 (by omega)

theorem spec_l04Node_eq' (a : Int) : spec_l04Node.f a = some (inR a 1 6) := by simp [spec_l04Node.f, spec_l02Is_eq]
theorem specNodes_ev (l : List Int) : Ev (fun k => spec_l07Nodes.f k l) (nodesR l) := by
  by_cases h6 : l.length ≤ 6
  · have hh := allLoopE l.length (nodesT l) true (fun k i => spec_l07Nodes.l0 k l i) (fun i hi R hR => by
        have hb : Ev (fun k => spec_l02Has.f k (l.take i) (l.getD i 0)) ((l.take i).contains (l.getD i 0)) := specHas_ev _ _ (by simp; omega)
        rw [nodesT, Bool.and_assoc]
        refine Ev.step (f := fun k => if inR (l.getD i 0) 1 6 = true then (spec_l02Has.f k (l.take i) (l.getD i 0)).bind fun t109 => (if t109 = true then (some false) else (spec_l07Nodes.l0 k l ((i + 1 : Nat) : Int))) else some false) (fun k => ?_) ?_
        · simp only [spec_l07Nodes.l0, spec_l04Node_eq', Option.bind_some]
          rw [if_pos (by omega), if_pos (by omega), rd_nat, wrap_succ hi (by omega)]
          simp only [if_pos (show (i : Int) ≤ (l.length : Int) by omega), Int.toNat_natCast]
        · by_cases hr : inR (l.getD i 0) 1 6 = true
          · simp only [if_pos hr]
            refine Ev.bind hb ?_
            rw [hr, Bool.true_and]
            cases (l.take i).contains (l.getD i 0) with
            | true => simpa using Ev.now false
            | false => simpa using hR
          · simp only [if_neg hr]
            rw [Bool.not_eq_true] at hr
            rw [hr, Bool.false_and]
            exact Ev.now _) (Ev.step (f := fun _ => some true) (fun k => by simp only [spec_l07Nodes.l0]; rw [if_neg (by omega)]) (Ev.now _)) l.length 0 (by omega)
    rw [Bool.and_true] at hh
    refine Ev.congr (fun k => ?_) hh
    simp only [spec_l07Nodes.f]; rw [if_neg (by omega)]; rfl
  · have : nodesR l = false := by
      cases h : nodesR l with
      | false => rfl
      | true => exact absurd (nodesR_six h).2.2 h6
    rw [this]
    refine Ev.congr (f := fun _ => some false) (fun k => ?_) (Ev.now _)
    simp only [spec_l07Nodes.f]; rw [if_pos (by omega)]

theorem specSet_l0 (l : List Int) (hl : l.length ≤ 140737488355328) : ∀ d i : Nat, 0 < i → (i + d = l.length ∨ (d = 0 ∧ l.length ≤ i)) → Ev (fun k => spec_SetRight.l0 k l (i : Int)) (rises l i d)
  | 0, i, h0, h => Ev.step (f := fun _ => some true) (fun k => by simp only [spec_SetRight.l0]; rw [if_neg (by omega)]) (Ev.now _)
  | d + 1, i, h0, h => by
    have hw := wrap_succ (i := i) (n := l.length) (by omega) hl
    have hp := wrap_pred (i := i) (n := l.length) h0 (by omega) hl
    by_cases ho : l.getD (i - 1) 0 < l.getD i 0
    · refine Ev.step (f := fun k => spec_SetRight.l0 k l ((i + 1 : Nat) : Int)) (fun k => ?_) (by rw [rises, decide_eq_true ho, Bool.true_and]; exact specSet_l0 l hl d (i + 1) (by omega) (by omega))
      simp only [spec_SetRight.l0]
      rw [hw, hp, rd_nat, rd_nat]
      repeat' split
      all_goals first | rfl | omega
    · refine Ev.step (f := fun k => some false) (fun k => ?_) (by rw [rises, decide_eq_false ho, Bool.false_and]; exact Ev.now _)
      simp only [spec_SetRight.l0]
      rw [hw, hp, rd_nat, rd_nat]
      repeat' split
      all_goals first | rfl | omega

theorem specSet_ev (l : List Int) (hl : l.length ≤ 140737488355328) : Ev (fun k => spec_SetRight.f k l) (rises l 1 (l.length - 1) && decide (l.length ≤ 400)) := by
  by_cases h : l.length ≤ 400
  · refine Ev.congr (f := fun k => spec_SetRight.l0 k l ((1 : Nat) : Int)) (fun k => ?_) (by simpa [h] using specSet_l0 l hl (l.length - 1) 1 (by omega) (by omega))
    simp only [spec_SetRight.f]; rw [if_neg (by omega)]; rfl
  · refine Ev.congr (f := fun k => some false) (fun k => ?_) (by simpa [h] using Ev.now _)
    simp only [spec_SetRight.f]; rw [if_pos (by omega)]


/-- Some. -/
def someS (l : List Int) (m s : Int) : Int × List Int := if 400 < l.length then (0, []) else if (areOK l && (inR m 0 6 && inR s 0 2147483647)) = true then ((shufS (l.length - 1) l s).1, (shufS (l.length - 1) l s).2.take m.toNat) else (0, [])
theorem someS_length (l : List Int) (m s : Int) : (someS l m s).2.length ≤ 400 := by
  unfold someS
  split
  · simp
  · split
    · rw [List.length_take, shufS_length]; omega
    · simp
theorem specSomeMay_ev (l : List Int) (m s : Int) (hl : l.length ≤ 400) (h0 : 0 ≤ s) (h1 : s ≤ 2147483647) (hm : 0 ≤ m) : Ev (fun k => spec_l07Some.f k l m s) ((shufS (l.length - 1) l s).1, (shufS (l.length - 1) l s).2.take m.toNat) := by
  refine Ev.bind (specMix_ev l s hl h0 h1) ?_
  by_cases hlt : m < ((shufS (l.length - 1) l s).2.length : Int)
  · rw [if_pos hlt, if_pos hm, if_pos (by omega)]; exact Ev.now _
  · rw [if_neg hlt, List.take_of_length_le (by omega)]; exact Ev.now _
theorem specSome_ev (l : List Int) (m s : Int) (hl : l.length ≤ 140737488355328) : Ev (fun k => spec_Some.f k l m s) (someS l m s) := by
  unfold someS
  by_cases h : 400 < l.length
  · rw [if_pos h]
    refine Ev.congr (f := fun _ => some _) (fun k => ?_) (Ev.now _)
    simp only [spec_Some.f]; rw [if_pos (by omega)]
  · rw [if_neg h]
    refine Ev.congr (fun k => by simp only [spec_Some.f]; rw [if_neg (by omega)]) (Ev.bind (specNodes_ev l) ?_)
    rw [← areOK_eq]
    cases hn : nodesR l with
    | false => simp only [Bool.false_and, Bool.false_eq_true, if_false]; exact Ev.now _
    | true =>
      simp only [Bool.true_and, if_true]
      refine Ev.bind (specSet_ev l hl) ?_
      rw [← setR]
      cases hs : setR l with
      | false => simp only [Bool.false_and, Bool.false_eq_true, if_false]; exact Ev.now _
      | true =>
        simp only [Bool.true_and, if_true, spec_l02Seed_eq, spec_l02Is_eq, Option.bind_some]
        by_cases hd : inR s 0 2147483647 = true
        · by_cases hm : inR m 0 6 = true
          · simp only [hd, hm, Bool.and_self, if_true]
            have h1 := inR_iff.1 hd
            have h2 := inR_iff.1 hm
            exact Ev.bind (specSomeMay_ev l m s (by omega) h1.1 h1.2 h2.1) (Ev.now _)
          · simp only [hd, hm, if_true, Bool.false_eq_true, if_false, Bool.false_and]; exact Ev.now _
        · simp only [hd, Bool.and_false, Bool.false_eq_true, if_false]; exact Ev.now _
theorem mn_take (T : List Int) (m : Int) (h0 : 0 ≤ m) : 0 ≤ mn m (T.length : Int) ∧ mn m (T.length : Int) ≤ (T.length : Int) ∧ T.take (mn m (T.length : Int)).toNat = T.take m.toNat := by
  unfold mn
  split
  · refine ⟨by omega, by omega, ?_⟩
    rw [List.take_of_length_le (by omega), List.take_of_length_le (by omega)]
  · exact ⟨by omega, by omega, rfl⟩
theorem implSome_ev (l : List Int) (m s : Int) (hl : l.length ≤ 1048576) : Ev (fun k => impl_Some.f k l m s) (someS l m s) := by
  have tr : ∀ r, r = ((0 : Int), ([] : List Int)) → Ev (fun k => impl_Some.j0 k l m s true) r := by
    rintro r rfl
    exact Ev.step (f := fun _ => some _) (fun k => by simp only [impl_Some.j0, if_true]) (Ev.now _)
  unfold someS
  by_cases h : 400 < l.length
  · rw [if_pos h]
    refine Ev.congr (fun k => ?_) (tr _ rfl)
    simp only [impl_Some.f, impl_longList_int64.f, Option.bind_some]; rw [if_pos (by simp; omega)]
  · rw [if_neg h]
    refine Ev.congr (fun k => by simp only [impl_Some.f, impl_longList_int64.f, Option.bind_some]; rw [if_neg (by simp; omega)]) (Ev.bind (areNodes_ev l (by omega)) ?_)
    cases hn : areOK l with
    | false => simp only [Bool.false_and, Bool.false_eq_true, if_false]; exact tr _ rfl
    | true =>
      simp only [Bool.true_and, if_true, impl_within_eq, impl_isSeed_eq, Option.bind_some]
      cases hm : inR m 0 6 with
      | false => simp only [Bool.false_and, Bool.false_eq_true, if_false]; exact tr _ rfl
      | true =>
        simp only [Bool.true_and, if_true]
        cases hd : inR s 0 2147483647 with
        | false => simp only [Bool.not_false, Bool.false_eq_true, if_false]; exact tr _ rfl
        | true =>
          simp only [Bool.not_true, if_true]
          have h2 := inR_iff.1 hm
          have hlen := shufS_length (l.length - 1) l s
          have hT : shuffleS l s = shufS (l.length - 1) l s := by unfold shuffleS; rw [if_neg h, if_pos hd]
          obtain ⟨a1, a2, a3⟩ := mn_take (shufS (l.length - 1) l s).2 m h2.1
          refine Ev.step (f := fun _ => some ((shufS (l.length - 1) l s).1, (shufS (l.length - 1) l s).2.take m.toNat)) (fun k => ?_) (Ev.now _)
          simp only [impl_Some.j0, Bool.false_eq_true, if_false, implShuffle_eq l s (by omega), Option.bind_some, hT]
          rw [if_pos a1, if_pos a2, a3, slices_Clone_int64_int64.f, if_pos (by rw [List.length_take]; omega), Option.bind_some]

theorem specTurn_ev (l : List Int) (a : Int) : Ev (fun k => spec_TurnRight.f k l a) (turnR l a) := by
  refine Ev.congr (fun k => rfl) (Ev.bind (specNodes_ev l) ?_)
  unfold turnR
  simp only [spec_l02Is_eq, Option.bind_some]
  cases nodesR l with
  | true => simpa using Ev.now _
  | false => simpa using Ev.now _

theorem slIndex_l0 (l : List Int) (n : Int) (hl : l.length ≤ 140737488355328) : ∀ d i : Nat, i + d = l.length → ∃ r : Int, Ev (fun k => slices_Index_int64_int64.l0 k l n (l.length : Int) (i : Int)) r ∧ (0 ≤ r ↔ (l.drop i).contains n = true)
  | 0, i, h => ⟨-1, Ev.step (f := fun _ => some (-1)) (fun k => by simp only [slices_Index_int64_int64.l0]; rw [if_neg (by omega)]) (Ev.now _), by rw [List.drop_of_length_le (by omega)]; simp⟩
  | d + 1, i, h => by
    have hw := wrap_succ (i := i) (n := l.length) (by omega) hl
    rw [drop_at l 0 (show i < l.length by omega), List.contains_cons]
    by_cases ho : n = l.getD i 0
    · refine ⟨(i : Int), Ev.step (f := fun k => some (i : Int)) (fun k => ?_) (Ev.now _), by rw [← ho]; simp⟩
      simp only [slices_Index_int64_int64.l0]
      rw [rd_nat, if_pos (by omega), if_pos (by omega), if_pos (by omega), if_pos ho]
    · obtain ⟨r, hr, hc⟩ := slIndex_l0 l n hl d (i + 1) (by omega)
      refine ⟨r, Ev.step (f := fun k => slices_Index_int64_int64.l0 k l n (l.length : Int) ((i + 1 : Nat) : Int)) (fun k => ?_) hr, by rw [beq_eq_false_iff_ne.2 ho, Bool.false_or]; exact hc⟩
      simp only [slices_Index_int64_int64.l0]
      rw [hw, rd_nat, if_pos (by omega), if_pos (by omega), if_pos (by omega), if_neg ho]
theorem slContains_ev (l : List Int) (n : Int) (hl : l.length ≤ 140737488355328) : Ev (fun k => slices_Contains_int64_int64.f k l n) (l.contains n) := by
  obtain ⟨r, hr, hc⟩ := slIndex_l0 l n hl l.length 0 (by omega)
  refine Ev.congr (fun k => rfl) (Ev.bind (g := fun k => slices_Index_int64_int64.f k l n) hr (f := fun _ t => some (decide (t ≥ 0))) ?_)
  rw [show decide (r ≥ 0) = l.contains n by rw [Bool.eq_iff_iff, decide_eq_true_iff]; exact hc]
  exact Ev.now _

theorem impl_isNode_eq' (a : Int) : impl_isNode.f a = some (inR a 1 6) := by simp [impl_isNode.f, impl_within_eq]
theorem implTurn_ev (l : List Int) (a : Int) (hl : l.length ≤ 140737488355328) : Ev (fun k => impl_TurnRight.f k l a) (turnR l a) := by
  have hh := allLoopE l.length (nodesT l) (decide (l.length ≤ 6) && inR a 0 l.length) (fun k i => impl_TurnRight.l0 k l (l.length : Int) i l a) (fun i hi R hR => by
        have hb : Ev (fun k => slices_Contains_int64_int64.f k (l.take i) (l.getD i 0)) ((l.take i).contains (l.getD i 0)) := slContains_ev _ _ (by simp; omega)
        rw [nodesT, Bool.and_assoc]
        refine Ev.step (f := fun k => if inR (l.getD i 0) 1 6 = true then (slices_Contains_int64_int64.f k (l.take i) (l.getD i 0)).bind fun t109 => (if t109 = true then (some false) else (impl_TurnRight.l0 k l (l.length : Int) ((i + 1 : Nat) : Int) l a)) else some false) (fun k => ?_) ?_
        · simp only [impl_TurnRight.l0, impl_isNode_eq', Option.bind_some]
          rw [if_pos (by omega), if_pos (by omega), if_pos (by omega), rd_nat, wrap_succ hi hl]
          simp only [if_pos (show (i : Int) ≤ (l.length : Int) by omega), Int.toNat_natCast]
        · by_cases hr : inR (l.getD i 0) 1 6 = true
          · simp only [if_pos hr]
            refine Ev.bind hb ?_
            rw [hr, Bool.true_and]
            cases (l.take i).contains (l.getD i 0) with
            | true => simpa using Ev.now false
            | false => simpa using hR
          · simp only [if_neg hr]
            rw [Bool.not_eq_true] at hr
            rw [hr, Bool.false_and]
            exact Ev.now _) (Ev.step (f := fun _ => some (decide (l.length ≤ 6) && inR a 0 l.length)) (fun k => by
        simp only [impl_TurnRight.l0, impl_within_eq, Option.bind_some]
        rw [if_neg (by omega)]
        by_cases h6 : l.length ≤ 6
        · rw [if_pos (by omega), decide_eq_true h6, Bool.true_and]
        · rw [if_neg (by omega), decide_eq_false h6, Bool.false_and]) (Ev.now _)) l.length 0 (by omega)
  refine Ev.ofBool hh ?_
  show (nodesR l && _) = _
  unfold turnR
  cases h : nodesR l with
  | false => rfl
  | true => rw [decide_eq_true (nodesR_six h).2.2]; simp

/-- Whose turn it is, from place i on (d places). -/
def nextFrom (T nodes : List Int) (s : Int) : Nat → Nat → List Int × Int × Int × Int × Int
  | _, 0 => ((shufS (nodes.length - 1) nodes s).2, 1, (shufS (nodes.length - 1) nodes s).2.getD 0 0, (shufS (nodes.length - 1) nodes s).1, 0)
  | i, d + 1 => if nodes.contains (T.getD i 0) = true then (T, ((i + 1 : Nat) : Int), T.getD i 0, s, 0) else nextFrom T nodes s (i + 1) d
theorem nextFrom_length (T nodes : List Int) (s : Int) (hT : T.length ≤ 6) (hn : nodes.length ≤ 400) : ∀ d i : Nat, (nextFrom T nodes s i d).1.length ≤ 400
  | 0, i => by
    show (shufS (nodes.length - 1) nodes s).2.length ≤ 400
    rw [shufS_length]; exact hn
  | d + 1, i => by
    unfold nextFrom
    split
    · show T.length ≤ 400
      omega
    · exact nextFrom_length T nodes s hT hn d (i + 1)
/-- TurnNext. -/
def turnNextS (T : List Int) (a : Int) (nodes : List Int) (s : Int) : List Int × Int × Int × Int × Int :=
  if 400 < nodes.length then ([], 0, 0, 0, 2) else if (turnR T a && (areOK nodes && inR s 0 2147483647)) = true then (if nodes.length = 0 then ([], 0, 0, 0, 6) else nextFrom T nodes s a.toNat (T.length - a.toNat)) else ([], 0, 0, 0, 1)
theorem turnR_six {T : List Int} {a : Int} (h : turnR T a = true) : T.length ≤ 6 ∧ 0 ≤ a ∧ a ≤ (T.length : Int) := by
  rw [turnR, Bool.and_eq_true, inR_iff] at h
  exact ⟨(nodesR_six h.1).2.2, h.2⟩
theorem turnNextS_length (T : List Int) (a : Int) (nodes : List Int) (s : Int) : (turnNextS T a nodes s).1.length ≤ 400 := by
  unfold turnNextS
  split
  · simp
  · split
    · rename_i h1 h2
      rw [Bool.and_eq_true] at h2
      split
      · simp
      · exact nextFrom_length T nodes s (turnR_six h2.1).1 (by omega) _ _
    · simp
theorem specNext_l0 (T nodes : List Int) (s a : Int) (hT : T.length ≤ 6) (hn : nodes.length ≤ 400) (h1 : 0 < nodes.length) (h0 : 0 ≤ s) (h2 : s ≤ 2147483647) : ∀ d i : Nat, i + d = T.length → Ev (fun k => spec_l07Next.l0 k nodes s (i : Int) T a) (nextFrom T nodes s i d)
  | 0, i, h => by
    have hlen := shufS_length (nodes.length - 1) nodes s
    refine Ev.step (f := fun k => (spec_l02Mix.f k nodes s).bind fun t => if 0 < (t.2.length : Int) then some (t.2, 1, rd t.2 0, t.1, 0) else none) (fun k => ?_) (Ev.bind (specMix_ev nodes s hn h0 h2) ?_)
    · simp only [spec_l07Next.l0]; rw [if_neg (by omega)]
    · rw [if_pos (by omega)]; exact Ev.now _
  | d + 1, i, h => by
    have hi : i < T.length := by omega
    have hw : wrap64 ((i : Int) + 1) = ((i + 1 : Nat) : Int) := wrap_succ hi (by omega)
    refine Ev.step (fun k => by simp only [spec_l07Next.l0]; rw [if_pos (by omega), if_pos (by omega), rd_nat, hw]) (Ev.bind (specHas_ev nodes (T.getD i 0) (by omega)) ?_)
    unfold nextFrom
    cases hc : nodes.contains (T.getD i 0) with
    | true =>
      simp only [if_true, Option.bind_some, List.length_nil, Nat.zero_add, List.nil_append]
      rw [if_pos (by omega)]
      exact Ev.now _
    | false =>
      simp only [Bool.false_eq_true, if_false]
      exact specNext_l0 T nodes s a hT hn h1 h0 h2 d (i + 1) (by omega)
theorem implNext_l0 (T nodes : List Int) (s a : Int) (hT : T.length ≤ 6) (hn : nodes.length ≤ 400) (h1 : 0 < nodes.length) (hs : inR s 0 2147483647 = true) : ∀ d i : Nat, i + d = T.length → Ev (fun k => impl_TurnNext.l0 k nodes s (i : Int) T a) (nextFrom T nodes s i d)
  | 0, i, h => by
    have hlen := shufS_length (nodes.length - 1) nodes s
    have hT : shuffleS nodes s = shufS (nodes.length - 1) nodes s := by unfold shuffleS; rw [if_neg (by omega), if_pos hs]
    refine Ev.step (f := fun _ => some (nextFrom T nodes s i 0)) (fun k => ?_) (Ev.now _)
    simp only [impl_TurnNext.l0, implShuffle_eq nodes s (by omega), Option.bind_some, hT]; rw [if_neg (by omega), if_pos (by omega)]
    rfl
  | d + 1, i, h => by
    have hi : i < T.length := by omega
    have hw : wrap64 ((i : Int) + 1) = ((i + 1 : Nat) : Int) := wrap_succ hi (by omega)
    refine Ev.step (fun k => by simp only [impl_TurnNext.l0]; rw [if_pos (by omega), if_pos (by omega), rd_nat, hw]) (Ev.bind (slContains_ev nodes (T.getD i 0) (by omega)) ?_)
    unfold nextFrom
    cases hc : nodes.contains (T.getD i 0) with
    | true =>
      simp only [if_true, slices_Clone_int64_int64.f]
      rw [if_pos (by omega)]
      exact Ev.now _
    | false =>
      simp only [Bool.false_eq_true, if_false]
      exact implNext_l0 T nodes s a hT hn h1 hs d (i + 1) (by omega)
theorem specTurnNext_ev (T : List Int) (a : Int) (nodes : List Int) (s : Int) (hn : nodes.length ≤ 140737488355328) : Ev (fun k => spec_TurnNext.f k T a nodes s) (turnNextS T a nodes s) := by
  unfold turnNextS
  by_cases h : 400 < nodes.length
  · rw [if_pos h]
    refine Ev.congr (f := fun _ => some _) (fun k => ?_) (Ev.now _)
    simp only [spec_TurnNext.f]; rw [if_pos (by omega)]
  · rw [if_neg h]
    refine Ev.congr (fun k => by simp only [spec_TurnNext.f]; rw [if_neg (by omega)]) (Ev.bind (specTurn_ev T a) ?_)
    rw [← areOK_eq]
    cases ht : turnR T a with
    | false => simp only [Bool.false_and, Bool.false_eq_true, if_false]; exact Ev.now _
    | true =>
      obtain ⟨t6, ta0, ta1⟩ := turnR_six ht
      simp only [Bool.true_and, if_true]
      refine Ev.bind (specNodes_ev nodes) ?_
      cases hnn : nodesR nodes with
      | false => simp only [Bool.false_and, Bool.false_eq_true, if_false]; exact Ev.now _
      | true =>
        simp only [Bool.true_and, if_true]
        refine Ev.bind (specSet_ev nodes hn) ?_
        rw [← setR]
        cases hs : setR nodes with
        | false => simp only [Bool.false_and, Bool.false_eq_true, if_false]; exact Ev.now _
        | true =>
          simp only [Bool.true_and, if_true, spec_l02Seed_eq, Option.bind_some]
          cases hd : inR s 0 2147483647 with
          | false => simp only [Bool.false_eq_true, if_false]; exact Ev.now _
          | true =>
            simp only [if_true]
            have h1 := inR_iff.1 hd
            by_cases h0 : nodes.length = 0
            · rw [if_pos h0]
              refine Ev.congr (f := fun _ => some _) (fun k => ?_) (Ev.now _)
              simp only [spec_l07Next.f]; rw [if_pos (by omega)]; rfl
            · rw [if_neg h0]
              have := specNext_l0 T nodes s a t6 (by omega) (by omega) h1.1 h1.2 (T.length - a.toNat) a.toNat (by omega)
              rw [show ((a.toNat : Nat) : Int) = a by omega] at this
              refine Ev.congr (fun k => ?_) (Ev.bind this (f := fun _ t => some (t.1, t.2.1, t.2.2.1, t.2.2.2.1, t.2.2.2.2)) (Ev.now _))
              simp only [spec_l07Next.f]; rw [if_neg (by omega)]
theorem implTurnNext_ev (T : List Int) (a : Int) (nodes : List Int) (s : Int) (hn : nodes.length ≤ 1048576) (hT : T.length ≤ 140737488355328) : Ev (fun k => impl_TurnNext.f k T a nodes s) (turnNextS T a nodes s) := by
  have tr : ∀ r, r = (([] : List Int), (0 : Int), (0 : Int), (0 : Int), (1 : Int)) → Ev (fun k => impl_TurnNext.j0 k nodes s true T a) r := by
    rintro r rfl
    exact Ev.step (f := fun _ => some _) (fun k => by simp only [impl_TurnNext.j0, if_true]) (Ev.now _)
  unfold turnNextS
  by_cases h : 400 < nodes.length
  · rw [if_pos h]
    refine Ev.congr (f := fun _ => some _) (fun k => ?_) (Ev.now _)
    simp only [impl_TurnNext.f, impl_longList_int64.f, Option.bind_some]; rw [if_pos (by simp; omega)]
  · rw [if_neg h]
    refine Ev.congr (fun k => by simp only [impl_TurnNext.f, impl_longList_int64.f, Option.bind_some]; rw [if_neg (by simp; omega)]) (Ev.bind (implTurn_ev T a hT) ?_)
    cases ht : turnR T a with
    | false => simp only [Bool.false_and, Bool.false_eq_true, if_false]; exact tr _ rfl
    | true =>
      obtain ⟨t6, ta0, ta1⟩ := turnR_six ht
      simp only [Bool.true_and, if_true]
      refine Ev.bind (areNodes_ev nodes (by omega)) ?_
      cases hnn : areOK nodes with
      | false => simp only [Bool.false_and, Bool.false_eq_true, if_false]; exact tr _ rfl
      | true =>
        simp only [Bool.true_and, if_true, impl_isSeed_eq, Option.bind_some]
        cases hd : inR s 0 2147483647 with
        | false => simp only [Bool.not_false, Bool.false_eq_true, if_false]; exact tr _ rfl
        | true =>
          simp only [Bool.not_true, if_true]
          by_cases h0 : nodes.length = 0
          · rw [if_pos h0]
            refine Ev.step (f := fun _ => some _) (fun k => ?_) (Ev.now _)
            simp only [impl_TurnNext.j0, Bool.false_eq_true, if_false]; rw [if_pos (by omega)]
          · rw [if_neg h0]
            have := implNext_l0 T nodes s a t6 (by omega) (by omega) hd (T.length - a.toNat) a.toNat (by omega)
            rw [show ((a.toNat : Nat) : Int) = a by omega] at this
            refine Ev.step (fun k => ?_) this
            simp only [impl_TurnNext.j0, Bool.false_eq_true, if_false]; rw [if_neg (by omega)]

theorem evSome {α β : Type} {o : Option α} {x : α} {f : Nat → α → Option β} {r : β} (h : o = some x) (k : Ev (fun n => f n x) r) : Ev (fun n => o.bind (f n)) r := by subst h; exact k
/-- What is drawn lies below what was asked for; the place stays within the bytes. -/
theorem src_val (v m a : Int) (h : 1 < a) (h2 : a ≤ 9223372036854775807) : 0 ≤ spec_l01Src_n.val v m a ∧ spec_l01Src_n.val v m a < a := by
  unfold spec_l01Src_n.val
  rw [u64w, u64w, show a % 18446744073709551616 = a by omega, Int.tmod_eq_emod_of_nonneg (by omega)]
  have h3 := Int.emod_nonneg ((v + m / 1048576) % 18446744073709551616) (show a ≠ 0 by omega)
  have h4 := Int.emod_lt_of_pos ((v + m / 1048576) % 18446744073709551616) (show 0 < a by omega)
  rw [wrap_id (by omega) (by omega)]
  exact ⟨h3, h4⟩
theorem src_n (b : List Int) (p m z a : Int) (hb : b.length ≤ 9223372036854775807) (h0 : 0 ≤ p) (h1 : p ≤ b.length) (ha : a ≤ 9223372036854775807) :
    ∃ r p' m', spec_l01Src_n.f b p m z a = some (r, p', m', z) ∧ 0 ≤ r ∧ (r < a ∨ r = 0) ∧ 0 ≤ p' ∧ p' ≤ b.length := by
  unfold spec_l01Src_n.f
  by_cases h : a ≤ 1
  · exact ⟨0, p, m, by rw [if_pos h], by omega, .inr rfl, h0, h1⟩
  · rw [if_neg h, if_neg (by rw [u64w]; omega)]
    by_cases h2 : p < (b.length : Int)
    · obtain ⟨h3, h4⟩ := src_val (IntKind.u64.wrap (rd b p)) (spec_l01Src_n.mx m) a (by omega) ha
      exact ⟨_, _, _, by rw [if_pos h2, if_pos h0, wrap_id (by omega) (by omega)], h3, .inl h4, by omega, by omega⟩
    · obtain ⟨h3, h4⟩ := src_val 0 (spec_l01Src_n.mx m) a (by omega) ha
      exact ⟨_, _, _, by rw [if_neg h2], h3, .inl h4, h0, h1⟩
theorem src_loop (l : List Int) (hl : l.length ≤ 9223372036854775807) : ∀ (d i : Nat) (m : Int), i + d = 64 → ∃ m' z, Ev (fun k => spec_l01Source.l0 k l (i : Int) l 0 m 0) (l, 0, m', z) ∧ 0 ≤ z ∧ z ≤ 12
  | d, i, m, h => by
    have hz : ∃ z, (∀ m' : Int, (if (wrap64 ((l.length : Int) / 20)) > 12 then (some (l, (0 : Int), m', (12 : Int))) else (some (l, 0, m', wrap64 ((l.length : Int) / 20)))) = some (l, 0, m', z)) ∧ 0 ≤ z ∧ z ≤ 12 := by
      rw [wrap_id (x := (l.length : Int) / 20) (by omega) (by omega)]
      by_cases h12 : (l.length : Int) / 20 > 12
      · exact ⟨12, fun m' => by rw [if_pos h12], by omega, by omega⟩
      · exact ⟨(l.length : Int) / 20, fun m' => by rw [if_neg h12], by omega, by omega⟩
    obtain ⟨z, hz, z0, z1⟩ := hz
    by_cases h1 : (i : Int) < (l.length : Int)
    · match d, h with
      | 0, h => exact ⟨m, z, Ev.step (f := fun _ => some (l, 0, m, z)) (fun k => by simp only [spec_l01Source.l0]; rw [if_pos h1, if_neg (by omega)]; exact hz m) (Ev.now _), z0, z1⟩
      | d + 1, h =>
        obtain ⟨m', z', hE, a0, a1⟩ := src_loop l hl d (i + 1) (IntKind.u64.wrap ((Go.bits .xor .u64 m (IntKind.u64.wrap (rd l (i : Int)))) * 1099511628211)) (by omega)
        exact ⟨m', z', Ev.step (fun k => by simp only [spec_l01Source.l0]; rw [if_pos h1, if_pos (by omega), if_pos (by omega), wrap_id (x := (i : Int) + 1) (by omega) (by omega)]; rfl) hE, a0, a1⟩
    · exact ⟨m, z, Ev.step (f := fun _ => some (l, 0, m, z)) (fun k => by simp only [spec_l01Source.l0]; rw [if_neg h1]; exact hz m) (Ev.now _), z0, z1⟩
theorem src_source (l : List Int) (hl : l.length ≤ 9223372036854775807) : ∃ m z, Ev (fun k => spec_l01Source.f k l) (l, 0, m, z) ∧ 0 ≤ z ∧ z ≤ 12 := by
  obtain ⟨m, z, h, z0, z1⟩ := src_loop l hl 64 0 88172645463325252 (by omega)
  exact ⟨m, z, Ev.congr (fun k => rfl) h, z0, z1⟩

theorem src_edge (b : List Int) (p m z : Int) (hb : b.length ≤ 9223372036854775807) (h0 : 0 ≤ p) (h1 : p ≤ b.length) :
    ∃ r p' m', spec_l01Src_edge.f b p m z = some (r, p', m', z) ∧ -9223372036854775808 ≤ r ∧ r ≤ 9223372036854775807 ∧ 0 ≤ p' ∧ p' ≤ b.length := by
  obtain ⟨r, p', m', h, h4, h5, h2, h3⟩ := src_n b p m z 14 hb h0 h1 (by omega)
  obtain ⟨q, rfl⟩ : ∃ q : Nat, r = (q : Int) := ⟨r.toNat, by omega⟩
  have hq : q < 14 := by omega
  refine ⟨_, p', m', by unfold spec_l01Src_edge.f; rw [Option.bind_some, h, Option.bind_some]; simp only []; rw [if_pos h4, if_pos (by simp only [List.length_cons, List.length_nil]; omega)], ?_, ?_, h2, h3⟩ <;>
  · rw [rd_nat]
    have : q = 0 ∨ q = 1 ∨ q = 2 ∨ q = 3 ∨ q = 4 ∨ q = 5 ∨ q = 6 ∨ q = 7 ∨ q = 8 ∨ q = 9 ∨ q = 10 ∨ q = 11 ∨ q = 12 ∨ q = 13 := by omega
    rcases this with h | h | h | h | h | h | h | h | h | h | h | h | h | h <;> subst h <;> simp

theorem src_one (b : List Int) (p m z a : Int) (hb : b.length ≤ 9223372036854775807) (h0 : 0 ≤ p) (h1 : p ≤ b.length) (ha : a ≤ 9223372036854775807) :
    ∃ c p' m', spec_l01Src_one.f b p m z a = some (c, p', m', z) ∧ 0 ≤ p' ∧ p' ≤ b.length := by
  obtain ⟨r, p', m', h, _, _, h2, h3⟩ := src_n b p m z a hb h0 h1 ha
  exact ⟨r == 0, p', m', by unfold spec_l01Src_one.f; rw [h]; rfl, h2, h3⟩

theorem src_nodes_l (b : List Int) (z : Int) (hb : b.length ≤ 9223372036854775807) : ∀ (d i : Nat) (xs : List Int) (p m : Int), i + d = 6 → xs.length ≤ i → 0 ≤ p → p ≤ b.length →
    ∃ l p' m', Ev (fun k => spec_l01Src_l07Set.l0 k xs (i : Int) b p m z) (l, p', m', z) ∧ l.length ≤ 7 ∧ 0 ≤ p' ∧ p' ≤ b.length
  | 0, i, xs, p, m, h, hx, h0, h1 => by
    obtain ⟨c, p1, m1, e1, q0, q1⟩ := src_one b p m z 15 hb h0 h1 (by omega)
    cases c
    · exact ⟨xs, p1, m1, Ev.step (f := fun _ => some (xs, p1, m1, z)) (fun k => by simp only [spec_l01Src_l07Set.l0]; rw [if_neg (by omega), e1, Option.bind_some]; simp only []; rw [if_neg (by decide)]) (Ev.now _), by omega, q0, q1⟩
    · obtain ⟨r, p2, m2, e2, _, _, q2, q3⟩ := src_n b p1 m1 z 8 hb q0 q1 (by omega)
      exact ⟨xs ++ [r], p2, m2, Ev.step (f := fun _ => some (xs ++ [r], p2, m2, z)) (fun k => by simp only [spec_l01Src_l07Set.l0]; rw [if_neg (by omega), e1, Option.bind_some]; simp only []; rw [if_pos trivial, e2, Option.bind_some]; simp only []; rw [if_pos (by omega)]) (Ev.now _), by simp; omega, q2, q3⟩
  | d + 1, i, xs, p, m, h, hx, h0, h1 => by
    obtain ⟨c, p1, m1, e1, q0, q1⟩ := src_one b p m z 2 hb h0 h1 (by omega)
    cases c
    · obtain ⟨l, p2, m2, hE, hl, q2, q3⟩ := src_nodes_l b z hb d (i + 1) xs p1 m1 (by omega) (by omega) q0 q1
      exact ⟨l, p2, m2, Ev.step (fun k => by simp only [spec_l01Src_l07Set.l0]; rw [if_pos (by omega), e1, Option.bind_some]; simp only []; rw [if_neg (by decide), wrap_succ (n := 100) (by omega) (by omega)]) hE, hl, q2, q3⟩
    · obtain ⟨l, p2, m2, hE, hl, q2, q3⟩ := src_nodes_l b z hb d (i + 1) (xs ++ [(i : Int)]) p1 m1 (by omega) (by simp; omega) q0 q1
      exact ⟨l, p2, m2, Ev.step (fun k => by simp only [spec_l01Src_l07Set.l0]; rw [if_pos (by omega), e1, Option.bind_some]; simp only []; rw [if_pos trivial, if_pos (by omega), wrap_succ (n := 100) (by omega) (by omega)]) hE, hl, q2, q3⟩
theorem src_nodes (b : List Int) (z : Int) (hb : b.length ≤ 9223372036854775807) (p m : Int) (h0 : 0 ≤ p) (h1 : p ≤ b.length) :
    ∃ l p' m', Ev (fun k => spec_l01Src_l07Set.f k b p m z) (l, p', m', z) ∧ l.length ≤ 7 ∧ 0 ≤ p' ∧ p' ≤ b.length := by
  obtain ⟨l, p', m', h, r⟩ := src_nodes_l b z hb 5 1 [] p m (by omega) (by simp) h0 h1
  exact ⟨l, p', m', Ev.congr (fun k => rfl) h, r⟩
theorem src_turn_l (b : List Int) (z : Int) (hb : b.length ≤ 9223372036854775807) : ∀ (d : Nat) (T : List Int) (a p m : Int), d ≤ 5 → T.length ≤ 400 → 0 ≤ p → p ≤ b.length →
    ∃ T' a' p' m', Ev (fun k => spec_l01Src_l07Turn.l0 k (d : Int) b p m z T a) (T', a', p', m', z) ∧ T'.length ≤ 401 ∧ 0 ≤ p' ∧ p' ≤ b.length
  | 0, T, a, p, m, hd, hT, h0, h1 => by
    obtain ⟨c, p1, m1, e1, q0, q1⟩ := src_one b p m z 15 hb h0 h1 (by omega)
    cases c
    · exact ⟨T, a, p1, m1, Ev.step (f := fun _ => some (T, a, p1, m1, z)) (fun k => by simp only [spec_l01Src_l07Turn.l0]; rw [if_neg (by omega), e1, Option.bind_some]; simp only []; rw [if_neg (by decide)]) (Ev.now _), by omega, q0, q1⟩
    · obtain ⟨r, p2, m2, e2, _, _, q2, q3⟩ := src_n b p1 m1 z 2 hb q0 q1 (by omega)
      obtain ⟨r3, p3, m3, e3, _, _, q4, q5⟩ := src_n b p2 m2 z 8 hb q2 q3 (by omega)
      by_cases hr : r = 0
      · exact ⟨T, wrap64 (r3 - 1), p3, m3, Ev.step (f := fun _ => some (T, wrap64 (r3 - 1), p3, m3, z)) (fun k => by simp only [spec_l01Src_l07Turn.l0]; rw [if_neg (by omega), e1, Option.bind_some]; simp only []; rw [if_pos trivial, e2, Option.bind_some]; simp only []; rw [if_pos hr, e3, Option.bind_some]) (Ev.now _), by omega, q4, q5⟩
      · exact ⟨T ++ [r3], a, p3, m3, Ev.step (f := fun _ => some (T ++ [r3], a, p3, m3, z)) (fun k => by simp only [spec_l01Src_l07Turn.l0]; rw [if_neg (by omega), e1, Option.bind_some]; simp only []; rw [if_pos trivial, e2, Option.bind_some]; simp only []; rw [if_neg hr, e3, Option.bind_some]; simp only []; rw [if_pos (by omega)]) (Ev.now _), by simp; omega, q4, q5⟩
  | d + 1, T, a, p, m, hd, hT, h0, h1 => by
    obtain ⟨l, p1, m1, hE1, hl, q0, q1⟩ := src_nodes b z hb p m h0 h1
    obtain ⟨r, p2, m2, e2, _, _, q2, q3⟩ := src_n b p1 m1 z 256 hb q0 q1 (by omega)
    have hN := specTurnNext_ev T a l r (by omega)
    have hz := turnNextS_length T a l r
    have hw : wrap64 (((d + 1 : Nat) : Int) - 1) = (d : Int) := by rw [wrap_id (by omega) (by omega)]; omega
    by_cases hc : (turnNextS T a l r).2.2.2.2 = 0
    · obtain ⟨T', a', p', m', hE, r⟩ := src_turn_l b z hb d (turnNextS T a l r).1 (turnNextS T a l r).2.1 p2 m2 (by omega) hz q2 q3
      exact ⟨T', a', p', m', Ev.step (fun k => by simp only [spec_l01Src_l07Turn.l0]; rw [if_pos (by omega), hw]) (Ev.bind hE1 (evSome e2 (Ev.bind hN (evIf hc hE)))), r⟩
    · obtain ⟨T', a', p', m', hE, r⟩ := src_turn_l b z hb d T a p2 m2 (by omega) hT q2 q3
      exact ⟨T', a', p', m', Ev.step (fun k => by simp only [spec_l01Src_l07Turn.l0]; rw [if_pos (by omega), hw]) (Ev.bind hE1 (evSome e2 (Ev.bind hN (evElse hc hE)))), r⟩
theorem src_turn (b : List Int) (z : Int) (hb : b.length ≤ 9223372036854775807) (p m : Int) (h0 : 0 ≤ p) (h1 : p ≤ b.length) :
    ∃ T' a' p' m', Ev (fun k => spec_l01Src_l07Turn.f k b p m z) (T', a', p', m', z) ∧ T'.length ≤ 401 ∧ 0 ≤ p' ∧ p' ≤ b.length := by
  obtain ⟨r, p1, m1, e1, r0, r1, q0, q1⟩ := src_n b p m z 5 hb h0 h1 (by omega)
  obtain ⟨q, rfl⟩ : ∃ q : Nat, r = (q : Int) := ⟨r.toNat, by omega⟩
  obtain ⟨T', a', p', m', hE, h⟩ := src_turn_l b z hb q [] 0 p1 m1 (by omega) (by simp) q0 q1
  exact ⟨T', a', p', m', Ev.congr (fun k => rfl) (evSome e1 hE), h⟩

theorem lwNums_refl (l : List Int) (hl : l.length ≤ 1048576) : Ev (fun k => laws_lwNums.f k l l) true := by
  have key : ∀ (d i : Nat), i + d = l.length → Ev (fun k => laws_lwNums.l0 k l l (i : Int)) true := by
    intro d
    induction d with
    | zero => intro i h; exact Ev.step (f := fun _ => some true) (fun k => by simp only [laws_lwNums.l0]; rw [if_neg (by omega)]) (Ev.now _)
    | succ d ih =>
      intro i h
      refine Ev.step (fun k => ?_) (ih (i + 1) (by omega))
      simp only [laws_lwNums.l0]
      rw [if_pos (by omega), if_pos (by omega), if_pos (by omega), if_pos trivial, wrap_succ (n := l.length) (by omega) (by omega)]
  exact Ev.congr (fun k => by simp only [laws_lwNums.f]; rw [if_pos trivial]; rfl) (key l.length 0 (by omega))

theorem lwMany_ev (l : List Int) (n : Int) (hl : l.length ≤ 1048576) : Ev (fun k => laws_lwMany.f k l n) ((l.count n : Nat) : Int) := by
  have key : ∀ (d i c : Nat), i + d = l.length → c ≤ i → Ev (fun k => laws_lwMany.l0 k l n (c : Int) (i : Int)) ((c + (l.drop i).count n : Nat) : Int) := by
    intro d
    induction d with
    | zero =>
      intro i c h hc
      rw [List.drop_of_length_le (by omega)]
      exact Ev.step (f := fun _ => some (c : Int)) (fun k => by simp only [laws_lwMany.l0]; rw [if_neg (by omega)]) (Ev.now _)
    | succ d ih =>
      intro i c h hc
      have hi : i < l.length := by omega
      rw [drop_at l 0 hi, List.count_cons]
      by_cases e : l.getD i 0 = n
      · have := ih (i + 1) (c + 1) (by omega) (by omega)
        rw [show c + ((l.drop (i + 1)).count n + if (l.getD i 0 == n) = true then 1 else 0) = c + 1 + (l.drop (i + 1)).count n by rw [if_pos (beq_iff_eq.2 e)]; omega]
        refine Ev.step (fun k => ?_) this
        simp only [laws_lwMany.l0]
        rw [if_pos (by omega), if_pos (by omega), rd_nat, if_pos e, wrap_succ (n := l.length) (by omega) (by omega), wrap_succ (n := l.length) (by omega) (by omega)]
      · have := ih (i + 1) c (by omega) (by omega)
        rw [if_neg (by simpa using e), Nat.add_zero]
        refine Ev.step (fun k => ?_) this
        simp only [laws_lwMany.l0]
        rw [if_pos (by omega), if_pos (by omega), rd_nat, if_neg e, wrap_succ (n := l.length) (by omega) (by omega)]
  have := key l.length 0 0 (by omega) (by omega)
  rw [List.drop_zero, Nat.zero_add] at this
  exact Ev.congr (fun k => rfl) this

theorem swap_count (l : List Int) (i j : Nat) (hi : i < l.length) (hj : j < l.length) (n : Int) : ((l.set i (l.getD j 0)).set j (l.getD i 0)).count n = l.count n := by
  have gi : l.getD i 0 = l[i] := by simp [List.getD, hi]
  have gj : l.getD j 0 = l[j] := by simp [List.getD, hj]
  rw [gi, gj, List.count_set (by simpa using hj), List.count_set hi]
  rw [List.getElem_set]
  have h1 : ∀ q, (hq : q < l.length) → (l[q] == n) = true → 0 < l.count n := fun q hq e => List.count_pos_iff.2 ((beq_iff_eq.1 e) ▸ List.getElem_mem hq)
  by_cases e : i = j
  · subst e
    by_cases a : (l[i] == n) = true
    · have := h1 i hi a
      simp only [if_true, a]; omega
    · simp only [if_true, if_neg a]; omega
  · simp only [if_neg e]
    by_cases a : (l[i] == n) = true
    · have := h1 i hi a
      by_cases b : (l[j] == n) = true
      · simp only [a, b, if_true]; omega
      · simp only [a, if_neg b, if_true]; omega
    · by_cases b : (l[j] == n) = true
      · have := h1 j hj b
        simp only [b, if_neg a, if_true]; omega
      · simp only [if_neg a, if_neg b]; omega
theorem shufS_count (n : Int) : ∀ (i : Nat) (l : List Int) (s : Int), (i < l.length ∨ i = 0) → (shufS i l s).2.count n = l.count n
  | 0, _, _, _ => rfl
  | i + 1, l, s, hi => by
    have hm : 0 ≤ nextS s / 256 % ((i : Int) + 2) ∧ nextS s / 256 % ((i : Int) + 2) < (i : Int) + 2 := ⟨Int.emod_nonneg _ (by omega), Int.emod_lt_of_pos _ (by omega)⟩
    rw [shufS, shufS_count n i _ _ (by simp; omega)]
    exact swap_count l (i + 1) _ (by omega) (by omega) n

theorem drawTurn (l : List Int) (hl : l.length ≤ 9223372036854775807) : ∃ T a N s, Ev (fun k => spec_DrawTurnNext.f k l) (T, a, N, s) ∧ T.length ≤ 401 ∧ N.length ≤ 7 := by
  obtain ⟨mx, z, h, _, _⟩ := src_source l hl
  obtain ⟨T, a, p1, m1, h1, hT, q0, q1⟩ := src_turn l z hl 0 mx (by omega) (by omega)
  obtain ⟨N, p2, m2, h2, hN, q2, q3⟩ := src_nodes l z hl p1 m1 q0 q1
  obtain ⟨c, p3, m3, h3, q4, q5⟩ := src_one l p2 m2 z 15 hl q2 q3 (by omega)
  cases c
  · obtain ⟨r, p4, m4, h4, _, _, _, _⟩ := src_n l p3 m3 z 256 hl q4 q5 (by omega)
    exact ⟨T, a, N, _, Ev.congr (fun k => rfl) (Ev.bind h (Ev.bind h1 (Ev.bind h2 (evSome h3 (evElse Bool.false_ne_true (evSome h4 (Ev.now _))))))), hT, hN⟩
  · obtain ⟨r, p4, m4, h4, _, _, _, _⟩ := src_edge l p3 m3 z hl q4 q5
    exact ⟨T, a, N, _, Ev.congr (fun k => rfl) (Ev.bind h (Ev.bind h1 (Ev.bind h2 (evSome h3 (evIf rfl (evSome h4 (Ev.now _))))))), hT, hN⟩
theorem drawSome (l : List Int) (hl : l.length ≤ 9223372036854775807) : ∃ N m s, Ev (fun k => spec_DrawSome.f k l) (N, m, s) ∧ N.length ≤ 7 := by
  obtain ⟨mx, z, h, _, _⟩ := src_source l hl
  obtain ⟨N, p2, m2, h2, hN, q2, q3⟩ := src_nodes l z hl 0 mx (by omega) (by omega)
  obtain ⟨r, p4, m4, h4, _, _, q4, q5⟩ := src_n l p2 m2 z 9 hl q2 q3 (by omega)
  obtain ⟨r5, p5, m5, h5, _, _, _, _⟩ := src_n l p4 m4 z 256 hl q4 q5 (by omega)
  exact ⟨N, _, _, Ev.congr (fun k => rfl) (Ev.bind h (Ev.bind h2 (evSome h4 (evSome h5 (Ev.now _))))), hN⟩
/-! What is shuffled. -/
theorem shuf_perm (l : List Int) (s : Int) : (shufS (l.length - 1) l s).2.Perm l := List.perm_iff_count.2 (fun n => shufS_count n _ l s (by omega))
theorem shuf_seed : ∀ (i : Nat) (l : List Int) (s : Int), 0 ≤ s ∧ s ≤ 2147483647 → 0 ≤ (shufS i l s).1 ∧ (shufS i l s).1 ≤ 2147483647
  | 0, _, _, h => h
  | i + 1, l, s, _ => by rw [shufS]; exact shuf_seed i _ _ (nextS_range s)
theorem nodesR_of {l : List Int} (h : ∀ x ∈ l, 1 ≤ x ∧ x ≤ 6) (hn : l.Nodup) : nodesR l = true := by
  unfold nodesR
  rw [allB_iff]
  intro j _ hj
  have hj' : j < l.length := by omega
  have hg : l.getD j 0 = l[j] := by simp [List.getD, hj']
  unfold nodesT
  rw [hg, Bool.and_eq_true, inR_iff, Bool.not_eq_true', Bool.eq_false_iff]
  refine ⟨h _ (List.getElem_mem hj'), fun hc => ?_⟩
  obtain ⟨i, hi, he⟩ := List.getElem_of_mem (List.contains_iff_mem.1 hc)
  rw [List.length_take] at hi
  rw [List.getElem_take] at he
  exact (List.pairwise_iff_getElem.1 hn) i j (by omega) hj' (by omega) he
theorem areOK_nodes {l : List Int} (h : areOK l = true) : (∀ x ∈ l, 1 ≤ x ∧ x ≤ 6) ∧ l.Nodup ∧ l.length ≤ 6 := by
  rw [← areOK_eq, Bool.and_eq_true] at h
  exact nodesR_six h.1
/-! Whose turn it is. -/
def later (nodes T : List Int) (a : Nat) : List Int := (T.drop a).filter (fun x => nodes.contains x)
theorem next_later (T nodes : List Int) (s : Int) : ∀ d i : Nat, i + d = T.length →
    (later nodes T i = [] ∧ nextFrom T nodes s i d = ((shufS (nodes.length - 1) nodes s).2, 1, (shufS (nodes.length - 1) nodes s).2.getD 0 0, (shufS (nodes.length - 1) nodes s).1, 0)) ∨
    (∃ y R j, later nodes T i = y :: R ∧ nextFrom T nodes s i d = (T, ((j + 1 : Nat) : Int), y, s, 0) ∧ j < T.length ∧ later nodes T (j + 1) = R ∧ y ∈ nodes)
  | 0, i, h => .inl ⟨by unfold later; rw [List.drop_of_length_le (by omega)]; rfl, rfl⟩
  | d + 1, i, h => by
    have hi : i < T.length := by omega
    have hd : T.drop i = T.getD i 0 :: T.drop (i + 1) := drop_at T 0 hi
    by_cases hc : nodes.contains (T.getD i 0) = true
    · refine .inr ⟨T.getD i 0, later nodes T (i + 1), i, ?_, ?_, hi, rfl, List.contains_iff_mem.1 hc⟩
      · unfold later; rw [hd, List.filter_cons, if_pos hc]
      · rw [nextFrom, if_pos hc]
    · have e : later nodes T i = later nodes T (i + 1) := by unfold later; rw [hd, List.filter_cons, if_neg hc]
      rw [e, nextFrom, if_neg hc]
      exact next_later T nodes s d (i + 1) (by omega)
def pickT (nodes R : List Int) (s : Int) : Int × List Int × Int :=
  match R with
  | [] => ((shufS (nodes.length - 1) nodes s).2.getD 0 0, (shufS (nodes.length - 1) nodes s).2.tail, (shufS (nodes.length - 1) nodes s).1)
  | y :: R => (y, R, s)
def runT (nodes : List Int) : Nat → List Int → Int → List Int
  | 0, _, _ => []
  | m + 1, R, s => (pickT nodes R s).1 :: runT nodes m (pickT nodes R s).2.1 (pickT nodes R s).2.2
theorem run_app (nodes : List Int) (m : Nat) (s : Int) : ∀ R : List Int, runT nodes (R.length + m) R s = R ++ runT nodes m [] s
  | [] => by simp
  | y :: R => by
    rw [show (y :: R).length + m = (R.length + m) + 1 by simp; omega, runT]
    show y :: runT nodes (R.length + m) R s = _
    rw [run_app nodes m s R]; rfl
theorem run_nil (nodes : List Int) (m : Nat) (s : Int) (hn : 0 < nodes.length) : runT nodes (nodes.length + m) [] s = (shufS (nodes.length - 1) nodes s).2 ++ runT nodes m [] (shufS (nodes.length - 1) nodes s).1 := by
  have hl := shufS_length (nodes.length - 1) nodes s
  rw [show nodes.length + m = (nodes.length - 1 + m) + 1 by omega, runT]
  show (shufS (nodes.length - 1) nodes s).2.getD 0 0 :: runT nodes (nodes.length - 1 + m) (shufS (nodes.length - 1) nodes s).2.tail (shufS (nodes.length - 1) nodes s).1 = _
  cases hP : (shufS (nodes.length - 1) nodes s).2 with
  | nil => rw [hP] at hl; simp at hl; omega
  | cons y P =>
    rw [hP] at hl
    have := run_app nodes m (shufS (nodes.length - 1) nodes s).1 P
    rw [show P.length = nodes.length - 1 by simp at hl; omega] at this
    simp only [List.tail_cons]
    rw [this]; rfl
theorem run_fair (nodes R : List Int) (s y : Int) (hn : 0 < nodes.length) (hR : R.length ≤ nodes.length) (hy : y ∈ nodes) : 2 ≤ (runT nodes (3 * nodes.length) R s).count y := by
  rw [show 3 * nodes.length = R.length + (nodes.length + (nodes.length + (nodes.length - R.length))) by omega, run_app, run_nil nodes _ s hn, run_nil nodes _ _ hn]
  simp only [List.count_append]
  have h1 := (shuf_perm nodes s).count_eq y
  have h2 := (shuf_perm nodes (shufS (nodes.length - 1) nodes s).1).count_eq y
  have h3 := List.count_pos_iff.2 hy
  omega
/-- One turn. -/
theorem turn_step (nodes T : List Int) (a s : Int) (hN : areOK nodes = true) (hn : 0 < nodes.length) (hT : turnR T a = true) (hs : 0 ≤ s ∧ s ≤ 2147483647) :
    ∃ T' a', turnNextS T a nodes s = (T', a', (pickT nodes (later nodes T a.toNat) s).1, (pickT nodes (later nodes T a.toNat) s).2.2, 0) ∧ later nodes T' a'.toNat = (pickT nodes (later nodes T a.toNat) s).2.1 ∧ turnR T' a' = true ∧
      (0 ≤ (pickT nodes (later nodes T a.toNat) s).2.2 ∧ (pickT nodes (later nodes T a.toNat) s).2.2 ≤ 2147483647) ∧ (pickT nodes (later nodes T a.toNat) s).1 ∈ nodes := by
  obtain ⟨n1, n2, n3⟩ := areOK_nodes hN
  obtain ⟨t1, t2, t3⟩ := turnR_six hT
  have e : turnNextS T a nodes s = nextFrom T nodes s a.toNat (T.length - a.toNat) := by
    unfold turnNextS
    rw [if_neg (by omega), if_pos (by rw [hT, hN, inR_iff.2 hs]; rfl), if_neg (by omega)]
  rw [e]
  rcases next_later T nodes s (T.length - a.toNat) a.toNat (by omega) with ⟨h1, h2⟩ | ⟨y, R, j, h1, h2, h3, h4, h5⟩
  · rw [h1, h2]
    have hp := shuf_perm nodes s
    have hl := shufS_length (nodes.length - 1) nodes s
    refine ⟨_, _, rfl, ?_, ?_, shuf_seed _ _ _ hs, ?_⟩
    · show ((shufS (nodes.length - 1) nodes s).2.drop 1).filter _ = (shufS (nodes.length - 1) nodes s).2.tail
      rw [List.drop_one]
      exact List.filter_eq_self.2 (fun x hx => List.contains_iff_mem.2 (hp.mem_iff.1 (List.mem_of_mem_tail hx)))
    · unfold turnR
      rw [nodesR_of (fun x hx => n1 x (hp.mem_iff.1 hx)) (hp.nodup_iff.2 n2), inR_iff.2 ⟨by omega, by omega⟩]; rfl
    · show (shufS (nodes.length - 1) nodes s).2.getD 0 0 ∈ nodes
      refine hp.mem_iff.1 ?_
      rw [List.getD_eq_getElem?_getD, List.getElem?_eq_getElem (by omega)]
      exact List.getElem_mem (by omega)
  · rw [h1, h2]
    refine ⟨_, _, rfl, by rw [Int.toNat_natCast]; exact h4, ?_, hs, h5⟩
    unfold turnR at hT ⊢
    rw [Bool.and_eq_true] at hT
    rw [hT.1, inR_iff.2 ⟨by omega, by omega⟩]; rfl
theorem turn_ok {T : List Int} {a : Int} {nodes : List Int} {s : Int} (h : (turnNextS T a nodes s).2.2.2.2 = 0) : areOK nodes = true ∧ 0 < nodes.length ∧ turnR T a = true ∧ (0 ≤ s ∧ s ≤ 2147483647) := by
  unfold turnNextS at h
  by_cases h1 : 400 < nodes.length
  · rw [if_pos h1] at h; cases h
  · rw [if_neg h1] at h
    by_cases h2 : (turnR T a && (areOK nodes && inR s 0 2147483647)) = true
    · rw [if_pos h2] at h
      rw [Bool.and_eq_true, Bool.and_eq_true, inR_iff] at h2
      by_cases h3 : nodes.length = 0
      · rw [if_pos h3] at h; cases h
      · exact ⟨h2.2.1, by omega, h2.1, h2.2.2⟩
    · rw [if_neg h2] at h; cases h
theorem nodup_sub : ∀ (l N : List Int), l.Nodup → (∀ x ∈ l, x ∈ N) → l.length ≤ N.length
  | [], _, _, _ => Nat.zero_le _
  | x :: l, N, h, hs => by
    rw [List.nodup_cons] at h
    have hx := hs x List.mem_cons_self
    have := nodup_sub l (N.erase x) h.2 (fun y hy => (List.mem_erase_of_ne (fun e => h.1 (by rw [← e]; exact hy))).2 (hs y (List.mem_cons_of_mem _ hy)))
    rw [List.length_erase_of_mem hx] at this
    have := List.length_pos_of_mem hx
    simp only [List.length_cons]
    omega
theorem count_one {l : List Int} (hn : l.Nodup) {y : Int} (hy : y ∈ l) : l.count y = 1 := by
  have h1 := List.nodup_iff_count.1 hn y
  have h2 := List.count_pos_iff.2 hy
  omega
theorem some_once (l : List Int) (m s y : Int) (hy : y ∈ (someS l m s).2) : (someS l m s).2.count y = 1 ∧ l.count y = 1 := by
  unfold someS at hy ⊢
  by_cases h1 : 400 < l.length
  · rw [if_pos h1] at hy; cases hy
  · rw [if_neg h1] at hy ⊢
    by_cases h2 : (areOK l && (inR m 0 6 && inR s 0 2147483647)) = true
    · rw [if_pos h2] at hy ⊢
      rw [Bool.and_eq_true] at h2
      obtain ⟨_, n2, _⟩ := areOK_nodes h2.1
      have hp := shuf_perm l s
      have hn := hp.nodup_iff.2 n2
      exact ⟨count_one (hn.sublist (List.take_sublist _ _)) hy, count_one n2 (hp.mem_iff.1 (List.mem_of_mem_take hy))⟩
    · rw [if_neg h2] at hy; cases hy
theorem turn_some (nodes l Y : List Int) (hY : Y.length ≤ 400) (hl : l.length ≤ 400) (h1 : ∀ y ∈ Y, Y.count y = 1 ∧ l.count y = 1) (T : List Int) (a x s c y1 : Int) (hend : Ev (fun k => if c = 0 then laws_FnTurn.l1 k nodes [] 0 T a x s c else some true) true) : ∀ d i : Nat, i + d = Y.length →
    Ev (fun k => laws_FnTurn.l0 k nodes l (i : Int) T a x s c y1 Y) true
  | 0, i, h => Ev.step (fun k => by simp only [laws_FnTurn.l0]; rw [if_neg (by omega)]) hend
  | d + 1, i, h => by
    have hi : i < Y.length := by omega
    have hg : rd Y (i : Int) = Y[i] := by rw [rd_nat]; simp [List.getD, hi]
    have h2 := h1 _ (List.getElem_mem hi)
    have e1 := lwMany_ev Y (rd Y (i : Int)) (by omega)
    have e2 := lwMany_ev l (rd Y (i : Int)) (by omega)
    rw [hg, h2.1] at e1
    rw [hg, h2.2] at e2
    rw [← hg] at e1 e2
    refine Ev.step (fun k => by simp only [laws_FnTurn.l0]; rw [if_pos (by omega), if_pos (by omega)]) (Ev.bind e1 (evIf rfl (Ev.bind e2 (evIf rfl ?_))))
    rw [wrap_succ (n := Y.length) (by omega) (by omega)]
    exact turn_some nodes l Y hY hl h1 T a x s c y1 hend d (i + 1) (by omega)
theorem turn_told (nodes told : List Int) (hn : nodes.length ≤ 400) (ht : told.length ≤ 1048576) (h : ∀ y ∈ nodes, 2 ≤ told.count y) : ∀ d i : Nat, i + d = nodes.length → Ev (fun k => laws_FnTurn.l2 k nodes told (i : Int)) true
  | 0, i, h' => Ev.step (f := fun _ => some true) (fun k => by simp only [laws_FnTurn.l2]; rw [if_neg (by omega)]) (Ev.now _)
  | d + 1, i, h' => by
    have hi : i < nodes.length := by omega
    have hg : rd nodes (i : Int) = nodes[i] := by rw [rd_nat]; simp [List.getD, hi]
    have h2 := h _ (List.getElem_mem hi)
    rw [← hg] at h2
    refine Ev.step (fun k => by simp only [laws_FnTurn.l2]; rw [if_pos (by omega), if_pos (by omega)]) (Ev.bind (lwMany_ev told (rd nodes (i : Int)) ht) ?_)
    refine evElse (by omega) ?_
    rw [wrap_succ (n := nodes.length) (by omega) (by omega)]
    exact turn_told nodes told hn ht h d (i + 1) (by omega)
def preT (nodes : List Int) (node : Int) (R : List Int) (s : Int) : Nat → List Int
  | 0 => []
  | d + 1 => node :: runT nodes d R s
theorem turn_loop (nodes : List Int) (hN : areOK nodes = true) (hn : 0 < nodes.length) : ∀ (d i : Nat) (told T : List Int) (a node s : Int), i + d = 3 * nodes.length → turnR T a = true → (0 ≤ s ∧ s ≤ 2147483647) → node ∈ nodes → told.length = i →
    (∀ y ∈ nodes, 2 ≤ (told ++ preT nodes node (later nodes T a.toNat) s d).count y) → Ev (fun k => laws_FnTurn.l1 k nodes told (i : Int) T a node s 0) true
  | 0, i, told, T, a, node, s, h, _, _, _, ht, hc => by
    have h6 := (areOK_nodes hN).2.2
    have hw : wrap64 (3 * (nodes.length : Int)) = ((3 * nodes.length : Nat) : Int) := by rw [wrap_id (by omega) (by omega)]; omega
    refine Ev.step (fun k => by simp only [laws_FnTurn.l1]; rw [hw, if_neg (by omega)]; rfl) (turn_told nodes told (by omega) (by omega) (fun y hy => by simpa [preT] using hc y hy) nodes.length 0 (by omega))
  | d + 1, i, told, T, a, node, s, h, hT, hs, hm, ht, hc => by
    have h6 := (areOK_nodes hN).2.2
    have hT6 := (turnR_six hT).1
    have hw : wrap64 (3 * (nodes.length : Int)) = ((3 * nodes.length : Nat) : Int) := by rw [wrap_id (by omega) (by omega)]; omega
    have e1 := lwMany_ev nodes node (by omega)
    rw [count_one (areOK_nodes hN).2.1 hm] at e1
    obtain ⟨T', a', e, hl', hT', hs', hm'⟩ := turn_step nodes T a s hN hn hT hs
    have e2 := implTurnNext_ev T a nodes s (by omega) (by omega)
    rw [e] at e2
    refine Ev.step (fun k => by simp only [laws_FnTurn.l1]; rw [hw, if_pos (by omega), if_pos trivial]) (Ev.bind e1 ?_)
    refine evIf rfl ?_
    refine evIf (by omega) ?_
    refine Ev.bind e2 ?_
    simp only []
    rw [wrap_succ (n := 3 * nodes.length) (by omega) (by omega)]
    refine turn_loop nodes hN hn d (i + 1) (told ++ [node]) T' a' _ _ (by omega) hT' hs' hm' (by simp; omega) (fun y hy => ?_)
    have := hc y hy
    rw [hl', List.append_assoc]
    cases d with
    | zero => exact this
    | succ d => exact this
theorem FnTurn : laws_FnTurn.Goal := by
  intro l0 l1 hl0 _ hl1 _
  have last : ∀ k, laws_FnTurn.j0 (k + 1) l0 l1 true = some true := fun k => by simp only [laws_FnTurn.j0]; rw [if_pos trivial]
  by_cases hb : (l0.length : Int) > 1048576
  · exact ⟨1, by simp only [laws_FnTurn.f]; rw [if_pos hb]; exact last 0⟩
  by_cases hb2 : (l1.length : Int) > 1048576
  · exact ⟨1, by simp only [laws_FnTurn.f]; rw [if_neg hb, decide_eq_true hb2]; exact last 0⟩
  obtain ⟨T, a, N, s, hd1, hT, hN⟩ := drawTurn l0 hl0
  obtain ⟨l, m, s2, hd2, hl⟩ := drawSome l1 hl1
  have hx := implTurnNext_ev T a N s (by omega) (by omega)
  have hxs := specTurnNext_ev T a N s (by omega)
  have hz := turnNextS_length T a N s
  have hy := implSome_ev l m s2 (by omega)
  have hys := specSome_ev l m s2 (by omega)
  have hyz := someS_length l m s2
  obtain ⟨X, hX⟩ : ∃ X, turnNextS T a N s = X := ⟨_, rfl⟩
  obtain ⟨Y, hY⟩ : ∃ Y, someS l m s2 = Y := ⟨_, rfl⟩
  have honce := some_once l m s2
  rw [hX] at hx hxs hz
  rw [hY] at hy hys hyz honce
  have good : X.2.2.2.2 = 0 → areOK N = true ∧ 0 < N.length ∧ turnR X.1 X.2.1 = true ∧ (0 ≤ X.2.2.2.1 ∧ X.2.2.2.1 ≤ 2147483647) ∧ X.2.2.1 ∈ N ∧ ∀ y ∈ N, 2 ≤ ([] ++ preT N X.2.2.1 (later N X.1 X.2.1.toNat) X.2.2.2.1 (3 * N.length)).count y := by
    intro hc
    have hok := turn_ok (by rw [hX]; exact hc : (turnNextS T a N s).2.2.2.2 = 0)
    obtain ⟨T', a', e, hl', hT', hs', hm'⟩ := turn_step N T a s hok.1 hok.2.1 hok.2.2.1 hok.2.2.2
    rw [hX] at e
    subst e
    refine ⟨hok.1, hok.2.1, hT', hs', hm', fun y hy => ?_⟩
    have hsub : (later N T a.toNat).length ≤ N.length := by
      obtain ⟨n1, n2, n3⟩ := areOK_nodes hok.1
      have hTT := hok.2.2.1
      unfold turnR at hTT
      rw [Bool.and_eq_true] at hTT
      have hnd : (later N T a.toNat).Nodup := ((nodesR_six hTT.1).2.1.sublist (List.drop_sublist _ _)).sublist List.filter_sublist
      exact (nodup_sub _ _ hnd (fun x hx => by unfold later at hx; rw [List.mem_filter] at hx; exact List.contains_iff_mem.1 hx.2))
    have hf := run_fair N (later N T a.toNat) s y hok.2.1 hsub hy
    rw [show 3 * N.length = (3 * N.length - 1) + 1 by have := hok.2.1; omega] at hf ⊢
    rw [List.nil_append, preT]
    simp only [hl']
    exact hf
  -- behind the first tests
  have t1 : Ev (fun k => laws_FnTurn.j1 k N l false X.1 X.2.1 X.2.2.1 X.2.2.2.1 X.2.2.2.2 Y.1 Y.2) true := by
    refine Ev.step (fun k => by simp only [laws_FnTurn.j1]; rw [if_neg (by decide)]; rfl) (turn_some N l Y.2 hyz (by omega) honce _ _ _ _ _ _ ?_ Y.2.length 0 (by omega))
    by_cases hc : X.2.2.2.2 = 0
    · obtain ⟨g1, g2, g3, g4, g5, g6⟩ := good hc
      refine evIf hc ?_
      rw [hc]
      exact turn_loop N g1 g2 (3 * N.length) 0 [] _ _ _ _ (by omega) g3 g4 g5 rfl g6
    · exact evElse hc (Ev.now _)
  have lw : Ev (fun k => laws_lwTurn.f k X.1 X.2.1 X.2.2.1 X.2.2.2.1 X.2.2.2.2 X.1 X.2.1 X.2.2.1 X.2.2.2.1 X.2.2.2.2) true := by
    refine Ev.congr (fun k => rfl) (evIf rfl (evIf rfl (evIf rfl (evIf rfl (Ev.bind (lwNums_refl _ (by omega)) (evIf rfl ?_))))))
    by_cases hc : X.2.2.2.2 = 0
    · refine evIf hc ?_
      have := specTurn_ev X.1 X.2.1
      rw [(good hc).2.2.1] at this
      exact Ev.bind this (Ev.now _)
    · exact evElse hc (Ev.now _)
  refine Ev.rounds (Ev.congr (fun k => by simp only [laws_FnTurn.f]; rw [if_neg hb, decide_eq_false hb2]) ?_)
  refine Ev.step (fun k => by simp only [laws_FnTurn.j0]; rw [if_neg (by decide)]) (Ev.bind hd1 (Ev.bind hx (Ev.bind hd2 (Ev.bind hy (Ev.bind hys (Ev.bind hxs ?_))))))
  refine Ev.bind lw (evIf rfl (evIf rfl (Ev.bind (lwNums_refl _ (by omega)) (evIf rfl ?_))))
  refine Ev.bind (implTurn_ev T a (by omega)) (Ev.bind (specTurn_ev T a) ?_)
  rw [bne_self_eq_false]
  exact t1

end Go.Proofs.Ytkgjikjnciihmaa.Pure
