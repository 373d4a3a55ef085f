/- The plain law of FnExactShuffle: what the Lean functions of the printed texts answer. -/
import Derived.Test.YtfemkhfjngepmaaGFnExactShuffle
import Derived.Test.YtfemkhfjngepmaaHSem
namespace Go.Proofs.Ytfemkhfjngepmaa.Pure
open Go.RowKit Go.Proofs.Ytfemkhfjngepmaa.PFnExactShuffle Go.Proofs.YtfemkhfjngepmaaW.PrintWords Go.Proofs.YtfemkhfjngepmaaW.PrintLast Go.Proofs.YtfemkhfjngepmaaW.PrintMore Go.Proofs.YtfemkhfjngepmaaH
set_option linter.unusedVariables false
set_option linter.unusedSimpArgs false

theorem toInts_l0 (l : List Int) (hl : l.length ≤ 140737488355328) : ∀ (d i : Nat) (ys : List Int), i + d = l.length → ys.length = l.length → Ev (fun k => laws_toInt64S.l0 k l ys (i : Int)) (ys.take i ++ l.drop i)
  | 0, i, ys, h, hy => Ev.step (f := fun _ => some ys) (fun k => by simp only [laws_toInt64S.l0]; rw [if_neg (by omega)]) (by
      have e : ys.take i ++ l.drop i = ys := by
        rw [List.drop_of_length_le (show l.length ≤ i by omega), List.append_nil, List.take_of_length_le (by omega)]
      rw [e]; exact Ev.now _)
  | d + 1, i, ys, h, hy => by
    have hw := wrap_succ (i := i) (n := l.length) (by omega) hl
    have e : (ys.set i (l.getD i 0)).take (i + 1) ++ l.drop (i + 1) = ys.take i ++ l.drop i := by
      have h1 : (ys.set i (l.getD i 0)).take (i + 1) = ys.take i ++ [l.getD i 0] := by
        rw [List.take_add_one, List.take_set, List.set_eq_of_length_le (by simp; omega), List.getElem?_set_self (by omega)]
        rfl
      rw [h1, List.append_assoc]
      congr 1
      rw [List.drop_eq_getElem_cons (show i < l.length by omega)]
      simp [List.getD, show i < l.length by omega]
    refine Ev.step (f := fun k => laws_toInt64S.l0 k l (ys.set i (l.getD i 0)) ((i + 1 : Nat) : Int)) (fun k => ?_) (by have := toInts_l0 l hl d (i + 1) (ys.set i (l.getD i 0)) (by omega) (by simpa using hy); rw [e] at this; exact this)
    simp only [laws_toInt64S.l0]
    rw [hw, rd_nat, if_pos (by omega), if_pos (by omega), if_pos (by omega)]
    simp

theorem toInts_ev (l : List Int) (hl : l.length ≤ 1048576) : Ev (fun k => laws_toInt64S.f k l) l := by
  refine Ev.congr (f := fun k => laws_toInt64S.l0 k l (List.replicate l.length 0) ((0 : Nat) : Int)) (fun k => ?_) (by simpa using toInts_l0 l (by omega) l.length 0 (List.replicate l.length 0) (by omega) (by simp))
  simp only [laws_toInt64S.f]
  rw [if_pos (by omega), if_pos (by omega)]
  simp


theorem eqInts_l0 (l m : List Int) (hl : l.length ≤ 140737488355328) (hm : m.length = l.length) : ∀ d i : Nat, i + d = l.length → Ev (fun k => laws_eqInt64S.l0 k l m (i : Int)) (decide (l.drop i = m.drop i))
  | 0, i, h => Ev.step (f := fun _ => some true) (fun k => by simp only [laws_eqInt64S.l0]; rw [if_neg (by omega)]) (by
      rw [List.drop_of_length_le (show l.length ≤ i by omega), List.drop_of_length_le (show m.length ≤ i by omega)]; exact Ev.now _)
  | d + 1, i, h => by
    have hw := wrap_succ (i := i) (n := l.length) (by omega) hl
    have e1 : l.drop i = l.getD i 0 :: l.drop (i + 1) := by
      rw [List.drop_eq_getElem_cons (show i < l.length by omega)]; simp [List.getD, show i < l.length by omega]
    have e2 : m.drop i = m.getD i 0 :: m.drop (i + 1) := by
      rw [List.drop_eq_getElem_cons (show i < m.length by omega)]; simp [List.getD, show i < m.length by omega]
    by_cases ho : l.getD i 0 = m.getD i 0
    · refine Ev.step (f := fun k => laws_eqInt64S.l0 k l m ((i + 1 : Nat) : Int)) (fun k => ?_) (by have := eqInts_l0 l m hl hm d (i + 1) (by omega); rw [e1, e2, ho, decide_eq_decide.2 (show (m.getD i 0 :: l.drop (i + 1) = m.getD i 0 :: m.drop (i + 1)) ↔ (l.drop (i + 1) = m.drop (i + 1)) by simp)]; exact this)
      simp only [laws_eqInt64S.l0]
      rw [hw, rd_nat, rd_nat, if_pos (by omega), if_pos (by omega), if_pos (by omega), if_pos ho]
    · refine Ev.step (f := fun k => some false) (fun k => ?_) (by rw [e1, e2, decide_eq_false (fun h => ho (List.cons.inj h).1)]; exact Ev.now _)
      simp only [laws_eqInt64S.l0]
      rw [rd_nat, rd_nat, if_pos (by omega), if_pos (by omega), if_pos (by omega), if_neg ho]

theorem eqInts_ev (l m : List Int) (hl : l.length ≤ 140737488355328) : Ev (fun k => laws_eqInt64S.f k l m) (decide (l = m)) := by
  by_cases h : m.length = l.length
  · refine Ev.congr (f := fun k => laws_eqInt64S.l0 k l m ((0 : Nat) : Int)) (fun k => ?_) (by simpa using eqInts_l0 l m hl h l.length 0 (by omega))
    simp only [laws_eqInt64S.f]; rw [if_pos (by omega)]; rfl
  · refine Ev.congr (f := fun k => some false) (fun k => ?_) (by
      have : l ≠ m := by rintro rfl; exact h rfl
      simpa [this] using Ev.now _)
    simp only [laws_eqInt64S.f]; rw [if_neg (by omega)]

theorem markInts_ev (l : List Int) (a : Int) (ha : 0 ≤ a) (hb : a + l.length ≤ 4611686018427387904) : Ev (fun k => laws_markInt64S.f k l a) (a + l.length, marks (fun x => x) 1 a l.length) := by
  have h := markLoop l.length (fun x : Int => x) 1 (by omega) (fun k ys a i => laws_markInt64S.l0 k ys a i) (fun k i a ys hi hy h0 h1 => by
      simp only [laws_markInt64S.l0]
      rw [if_pos (by omega), if_pos (by omega), wrap_id (x := a + 1) (by omega) (by omega), wrap_id (x := (i : Int) + 1) (by omega) (by omega)]
      simp) (fun k a ys hy => by
      simp only [laws_markInt64S.l0]
      rw [if_neg (by omega)]) l.length 0 a l (by omega) rfl ha (by omega)
  simpa [Int.one_mul, laws_markInt64S.f] using h

theorem heldInts_ev (n : Nat) (a : Int) (ha : 0 ≤ a) (hb : a + n ≤ 4611686018427387904) : Ev (fun k => laws_heldInt64S.f k (marks (fun x => x) 1 a n) a) (a + n) := by
  have hl := marks_length (fun x : Int => x) 1 n a
  have h := heldLoop n 1 (by omega) a ha (by omega) (fun k x i => laws_heldInt64S.l0 k (marks (fun x => x) 1 a n) x i) (fun k i hi h1 h2 => by
      simp only [laws_heldInt64S.l0]
      rw [if_pos (by omega), if_pos (by omega), rd_nat, marks_at _ _ 0 n i a hi, if_pos rfl, wrap_id (x := a + 1 * (i : Int) + 1) (by omega) (by omega), wrap_id (x := (i : Int) + 1) (by omega) (by omega)]
      rfl) (fun k x => by
      simp only [laws_heldInt64S.l0]
      rw [if_neg (by omega)]) n 0 (by omega)
  simpa [Int.one_mul, laws_heldInt64S.f] using h

theorem spec_l02Is_eq (a b c : Int) : spec_l02Is.f a b c = some (inR a b c) := by
  by_cases h : b ≤ a <;> simp [spec_l02Is.f, inR, h]

theorem impl_within_eq (a b c : Int) : impl_within.f a b c = some (inR a b c) := by
  by_cases h : b ≤ a <;> simp [impl_within.f, inR, h]

/-- The next seed. -/
def nextS (s : Int) : Int := (s * 91813 + 30011) % 2147483648
theorem nextS_range (s : Int) : 0 ≤ nextS s ∧ nextS s ≤ 2147483647 := by
  unfold nextS
  omega
theorem next_num (s : Int) (h0 : 0 ≤ s) (h1 : s ≤ 2147483647) : Int.tmod (wrap64 ((wrap64 (s * 91813)) + 30011)) 2147483648 = nextS s := by
  rw [wrap_id (x := s * 91813) (by omega) (by omega), wrap_id (x := s * 91813 + 30011) (by omega) (by omega), Int.tmod_eq_emod_of_nonneg (by omega)]
  rfl
theorem below_num (s m : Int) (hm : 0 < m) : Int.tmod (wrap64 (Int.tdiv (nextS s) 256)) m = nextS s / 256 % m := by
  have h := nextS_range s
  rw [Int.tdiv_eq_ediv_of_nonneg h.1, wrap_id (by omega) (by omega), Int.tmod_eq_emod_of_nonneg (by omega)]
/-- Shuffled from place i down. -/
def shufS : Nat → List Int → Int → Int × List Int
  | 0, l, s => (s, l)
  | i + 1, l, s => shufS i ((l.set (i + 1) (l.getD (nextS s / 256 % ((i : Int) + 2)).toNat 0)).set (nextS s / 256 % ((i : Int) + 2)).toNat (l.getD (i + 1) 0)) (nextS s)
theorem shufS_length : ∀ (i : Nat) (l : List Int) (s : Int), (shufS i l s).2.length = l.length
  | 0, _, _ => rfl
  | i + 1, l, s => by rw [shufS, shufS_length i]; simp
/-- Shuffle. -/
def shuffleS (l : List Int) (s : Int) : Int × List Int := if 400 < l.length then (0, []) else if inR s 0 2147483647 = true then shufS (l.length - 1) l s else (0, [])
theorem shuffleS_length (l : List Int) (s : Int) : (shuffleS l s).2.length ≤ 400 := by
  unfold shuffleS
  split
  · simp
  · split
    · rw [shufS_length]; omega
    · simp

theorem spec_l02Seed_eq (a : Int) : spec_l02Seed.f a = some (inR a 0 2147483647) := by simp [spec_l02Seed.f, spec_l02Is_eq]
theorem specDraw_eq (s m : Int) (h0 : 0 ≤ s) (h1 : s ≤ 2147483647) (hm : 1 ≤ m) : spec_l02Draw.f s m = some (nextS s, nextS s / 256 % m) := by
  simp only [spec_l02Draw.f]
  rw [if_neg (by omega), next_num s h0 h1, below_num s m (by omega)]
theorem specMix_l0 : ∀ (i : Nat) (l : List Int) (s : Int), (i < l.length ∨ i = 0) → l.length ≤ 400 → 0 ≤ s → s ≤ 2147483647 → Ev (fun k => spec_l02Mix.l0 k s l (i : Int)) (shufS i l s)
  | 0, l, s, _, _, _, _ => Ev.step (f := fun _ => some (s, l)) (fun k => by simp only [spec_l02Mix.l0]; rw [if_neg (by omega)]) (Ev.now _)
  | i + 1, l, s, hi, hl, h0, h1 => by
    have hn := nextS_range s
    have hi : i + 1 < l.length := by omega
    have hm : 0 ≤ nextS s / 256 % ((i : Int) + 2) ∧ nextS s / 256 % ((i : Int) + 2) < (i : Int) + 2 := ⟨Int.emod_nonneg _ (by omega), Int.emod_lt_of_pos _ (by omega)⟩
    have e : wrap64 (((i + 1 : Nat) : Int) + 1) = (i : Int) + 2 := by rw [wrap_id (by omega) (by omega)]; omega
    have e2 : wrap64 (((i + 1 : Nat) : Int) - 1) = (i : Int) := by rw [wrap_id (by omega) (by omega)]; omega
    rw [shufS]
    refine Ev.step (fun k => ?_) (specMix_l0 i _ (nextS s) (by simp; omega) (by simpa using hl) hn.1 hn.2)
    simp only [spec_l02Mix.l0]
    rw [if_pos (by omega), e, specDraw_eq s _ h0 h1 (by omega), Option.bind_some]
    simp only
    rw [if_pos (by omega), if_pos (by omega), if_pos hm.1, if_pos (by omega), e2]
    simp only [rd, Int.toNat_natCast]
theorem specShuffle_ev (l : List Int) (s : Int) (hl : l.length ≤ 140737488355328) : Ev (fun k => spec_Shuffle.f k l s) (shuffleS l s) := by
  unfold shuffleS
  by_cases h : 400 < l.length
  · rw [if_pos h]
    refine Ev.congr (f := fun _ => some _) (fun k => ?_) (Ev.now _)
    simp only [spec_Shuffle.f]; rw [if_pos (by omega)]
  · rw [if_neg h]
    by_cases hs : inR s 0 2147483647 = true
    · rw [if_pos hs]
      have hr := inR_iff.1 hs
      have hw : wrap64 ((l.length : Int) - 1) = (l.length : Int) - 1 := wrap_id (by omega) (by omega)
      have key : Ev (fun k => spec_l02Mix.l0 k s l (wrap64 ((l.length : Int) - 1))) (shufS (l.length - 1) l s) := by
        rw [hw]
        by_cases h0 : l.length = 0
        · rw [h0]
          refine Ev.step (f := fun _ => some (s, l)) (fun k => ?_) (Ev.now _)
          simp only [spec_l02Mix.l0]; rw [if_neg (by omega)]
        · have := specMix_l0 (l.length - 1) l s (by omega) (by omega) hr.1 hr.2
          rwa [show ((l.length - 1 : Nat) : Int) = (l.length : Int) - 1 by omega] at this
      refine Ev.congr (fun k => ?_) (Ev.bind key (f := fun _ t => some (t.1, t.2)) (Ev.now _))
      simp only [spec_Shuffle.f, spec_l02Seed_eq, spec_l02Mix.f, Option.bind_some, List.nil_append, List.length_nil, Nat.zero_add]
      rw [if_neg (by omega), if_pos hs, if_pos (by omega)]
    · rw [if_neg hs]
      refine Ev.congr (f := fun _ => some _) (fun k => ?_) (Ev.now _)
      simp only [spec_Shuffle.f, spec_l02Seed_eq, Option.bind_some]; rw [if_neg (by omega), if_neg hs]

theorem impl_isSeed_eq (a : Int) : impl_isSeed.f a = some (inR a 0 2147483647) := by simp [impl_isSeed.f, impl_within_eq]
theorem implChance_eq (s m : Int) (h0 : 0 ≤ s) (h1 : s ≤ 2147483647) (hm : 1 ≤ m) (hm2 : m ≤ 1000000) : impl_Chance.f s m = some (nextS s, nextS s / 256 % m) := by
  simp only [impl_Chance.f, impl_isSeed_eq, impl_within_eq, Option.bind_some]
  rw [if_pos (inR_iff.2 ⟨h0, h1⟩), if_pos (inR_iff.2 ⟨hm, hm2⟩), if_neg (by omega), next_num s h0 h1, below_num s m (by omega)]
theorem rd_toNat (l : List Int) (i : Int) : rd l i = l.getD i.toNat 0 := by simp [rd]
theorem implShuf_l0 : ∀ (i : Nat) (l : List Int) (s : Int), (i < l.length ∨ i = 0) → l.length ≤ 400 → 0 ≤ s → s ≤ 2147483647 → impl_Shuffle.l0 i l s = some (shufS i l s)
  | 0, _, _, _, _, _, _ => rfl
  | i + 1, l, s, hi, hl, h0, h1 => by
    have hn := nextS_range s
    have hi : i + 1 < l.length := by omega
    have hm : 0 ≤ nextS s / 256 % ((i : Int) + 2) ∧ nextS s / 256 % ((i : Int) + 2) < (i : Int) + 2 := ⟨Int.emod_nonneg _ (by omega), Int.emod_lt_of_pos _ (by omega)⟩
    have e : (((i + 1 : Nat) : Int) + 1) = (i : Int) + 2 := by omega
    rw [impl_Shuffle.l0, e, implChance_eq s _ h0 h1 (by omega) (by omega), Option.bind_some, if_pos (by simp only; omega)]
    simp only [rd_toNat, Int.toNat_natCast]
    exact implShuf_l0 i _ _ (by simp; omega) (by simpa using hl) hn.1 hn.2
theorem implShuffle_eq (l : List Int) (s : Int) (hl : l.length ≤ 17592186044415) : impl_Shuffle.f l s = some (shuffleS l s) := by
  unfold shuffleS
  simp only [impl_Shuffle.f, impl_longList_int64.f, impl_isSeed_eq, Option.bind_some]
  by_cases h : 400 < l.length
  · rw [if_pos h, if_pos (by simp; omega)]
  · rw [if_neg h, if_neg (by simp; omega)]
    by_cases hs : inR s 0 2147483647 = true
    · rw [if_pos hs, if_pos hs, slices_Clone_int64_int64.f, if_pos (by omega), Option.bind_some]
      have := inR_iff.1 hs
      exact implShuf_l0 _ l s (by omega) (by omega) this.1 this.2
    · rw [if_neg hs, if_neg hs]

theorem eqShuf_refl (s : Int) (l : List Int) (hl : l.length ≤ 140737488355328) : Ev (fun k => laws_eqShuffleOut.f k s l s l) true := by
  simp only [laws_eqShuffleOut.f, if_true]
  refine Ev.bind (eqInts_ev l l hl) ?_
  simpa using Ev.now _
theorem markShuf_ev (s : Int) (l : List Int) (hl : l.length ≤ 140737488355328) : Ev (fun k => laws_markShuffleOut.f k s l 1) (1 + (l.length : Int), marks (fun x => x) 1 1 l.length) :=
  Ev.bind (markInts_ev l 1 (by omega) (by omega)) (Ev.now _)
theorem heldShuf_ev (s : Int) (n : Nat) (hl : n ≤ 140737488355328) : Ev (fun k => laws_heldShuffleOut.f k s (marks (fun x => x) 1 1 n) 1) (1 + (n : Int)) := by
  refine Ev.bind (heldInts_ev n 1 (by omega) (by omega)) ?_
  rw [if_neg (by omega)]
  exact Ev.now _

theorem shufTail (l : List Int) (a : Int) (hl : l.length ≤ 1048576) (T : Int × List Int) (hT : T = shuffleS l a) : Ev (fun k => laws_FnExactShuffle.j0 k l a false T.1 T.2 T.1 T.2) true := by
  have h4 : T.2.length ≤ 400 := hT ▸ shuffleS_length _ _
  refine Ev.step (fun k => by simp only [laws_FnExactShuffle.j0, Bool.false_eq_true, if_false]; rfl) ?_
  refine Ev.bind (markShuf_ev T.1 T.2 (by omega)) (Ev.bind (heldShuf_ev T.1 T.2.length (by omega)) ?_)
  simp only [if_neg (show ¬ (1 + (T.2.length : Int)) < 0 by omega), if_true]
  refine Ev.bind (toInts_ev l hl) ?_
  simp only [implShuffle_eq l a (by omega), Option.bind_some]
  rw [← hT]
  refine Ev.bind (eqShuf_refl T.1 T.2 (by omega)) ?_
  simp only [if_true]
  refine Ev.bind (heldShuf_ev T.1 T.2.length (by omega)) ?_
  simp only [if_neg (show ¬ (1 + (T.2.length : Int)) < 0 by omega), if_true]
  exact Ev.now _
theorem FnExactShuffle : laws_FnExactShuffle.Goal := by
  intro l a _ _ _
  by_cases hb : (l.length : Int) > 1048576
  · exact ⟨0, by simp only [laws_FnExactShuffle.f]; rw [if_pos hb]⟩
  · have hl : l.length ≤ 1048576 := by omega
    have h4 := shuffleS_length l a
    refine Ev.rounds (Ev.congr (fun k => by simp only [laws_FnExactShuffle.f]; rw [if_neg hb]) ?_)
    refine Ev.bind (toInts_ev l hl) (Ev.bind (specShuffle_ev l a (by omega)) (Ev.bind (toInts_ev l hl) ?_))
    simp only [implShuffle_eq l a (by omega), Option.bind_some]
    refine Ev.bind (eqShuf_refl _ _ (by omega)) ?_
    simp only [if_true]
    refine Ev.bind (toInts_ev l hl) (Ev.bind (eqInts_ev l l (by omega)) ?_)
    simp only [decide_true, if_true]
    refine Ev.bind (markInts_ev l 1 (by omega) (by omega)) ?_
    simp only [if_neg (show ¬ (1 + (l.length : Int)) < 0 by omega)]
    refine Ev.bind (eqShuf_refl _ _ (by omega)) ?_
    exact shufTail l a hl _ rfl

end Go.Proofs.Ytfemkhfjngepmaa.Pure
