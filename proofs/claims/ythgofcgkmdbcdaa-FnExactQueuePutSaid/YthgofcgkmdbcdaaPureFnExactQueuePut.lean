/- The plain law of FnExactQueuePut: what the Lean functions of the printed texts answer. -/
import Derived.Test.YthgofcgkmdbcdaaGFnExactQueuePut
import Derived.Test.YthgofcgkmdbcdaaXFnExactQueuePut
namespace Go.Proofs.Ythgofcgkmdbcdaa.Pure
open Go.RowKit Go.Proofs.Ythgofcgkmdbcdaa.PFnExactQueuePut Go.Proofs.YthgofcgkmdbcdaaW.PrintWords Go.Proofs.YthgofcgkmdbcdaaW.PrintLast Go.Proofs.YthgofcgkmdbcdaaW.PrintMore Go.Proofs.YthgofcgkmdbcdaaH
set_option linter.unusedVariables false
set_option linter.unusedSimpArgs false

theorem rdD_nat (l : List S34) (i : Nat) : rd_T34 l (i : Int) = l.getD i z34 := by simp [rd_T34]
/-- May it be due? -/
def dueR (a s n : Int) (t : ByteArray) : Bool := inR a 0 1000000 && (inR s 0 1000000 && (inR n 0 99 && decide ((t.size : Int) ≤ 400)))
def dueLess (x y : S34) : Bool := decide (x.f0 < y.f0) || (decide (x.f0 = y.f0) && decide (x.f1 < y.f1))
def dueT (l : List S34) (i : Nat) : Bool := dueR (l.getD i z34).f0 (l.getD i z34).f1 (l.getD i z34).f2 (l.getD i z34).f3 && (decide (i = 0) || dueLess (l.getD (i - 1) z34) (l.getD i z34))
theorem dueT_iff {l : List S34} {i : Nat} : dueT l i = true ↔ dueR (l.getD i z34).f0 (l.getD i z34).f1 (l.getD i z34).f2 (l.getD i z34).f3 = true ∧ (i = 0 ∨ dueLess (l.getD (i - 1) z34) (l.getD i z34) = true) := by
  simp only [dueT, Bool.and_eq_true, Bool.or_eq_true, decide_eq_true_eq]
/-- Is a queue right? -/
def queueR (l : List S34) : Bool := decide (l.length ≤ 200) && allB (dueT l) 0 l.length

/-- What is due, as the program has it. -/
def toD (x : S30) : S34 := ⟨x.f0, x.f1, x.f2, x.f3⟩
theorem szDue_l0 (l : List S30) (hl : l.length ≤ 1048576) (ht : ∀ x ∈ l, x.f3.size ≤ maxLen) : ∀ (d i : Nat) (a : Int), i + d = l.length → 0 ≤ a → a ≤ 1048576 → ∃ r : Int, Ev (fun k => laws_szDueS.l0 k l a (i : Int)) r
  | 0, i, a, h, h0, h1 => ⟨a, Ev.step (f := fun _ => some a) (fun k => by simp only [laws_szDueS.l0]; rw [if_neg (by omega)]) (Ev.now _)⟩
  | d + 1, i, a, h, h0, h1 => by
    have hi : i < l.length := by omega
    have hs : (l.getD i z30).f3.size ≤ 9223372036854775807 := by
      have : l.getD i z30 ∈ l := by simp [List.getD, hi]
      have := ht _ this
      unfold maxLen at this
      omega
    have e : laws_szDue.f (l.getD i z30).f0 (l.getD i z30).f1 (l.getD i z30).f2 (l.getD i z30).f3 a = some (if a - ((l.getD i z30).f3.size : Int) < 0 then -1 else a - ((l.getD i z30).f3.size : Int)) := by
      unfold laws_szDue.f
      rw [wrap_id (by omega) (by omega)]
      split <;> rfl
    have er : rd_T30 l (i : Int) = l.getD i z30 := by simp [rd_T30]
    by_cases hc : a - ((l.getD i z30).f3.size : Int) < 0
    · refine ⟨-1, Ev.step (f := fun _ => some (-1)) (fun k => ?_) (Ev.now _)⟩
      simp only [laws_szDueS.l0]
      rw [if_pos (by omega), if_pos (by omega), er, e, if_pos hc, Option.bind_some, if_pos (by omega)]
    · obtain ⟨r, hr⟩ := szDue_l0 l hl ht d (i + 1) (a - ((l.getD i z30).f3.size : Int)) (by omega) (by omega) (by omega)
      refine ⟨r, Ev.step (fun k => ?_) hr⟩
      simp only [laws_szDueS.l0]
      rw [if_pos (by omega), if_pos (by omega), er, e, if_neg hc, Option.bind_some, if_neg (by omega), wrap_succ hi (by omega)]
theorem szDueS_ev (l : List S30) (hl : (l.length : Int) ≤ 9223372036854775807) (ht : ∀ x ∈ l, x.f3.size ≤ maxLen) : ∃ r : Int, Ev (fun k => laws_szDueS.f k l 1048576) r ∧ (¬ r < 0 → l.length ≤ 1048576) := by
  by_cases h : 1048576 < l.length
  · refine ⟨-1, Ev.congr (f := fun _ => some (-1)) (fun k => ?_) (Ev.now _), fun h => by omega⟩
    unfold laws_szDueS.f
    rw [wrap_id (by omega) (by omega), if_pos (by omega)]
  · obtain ⟨r, hr⟩ := szDue_l0 l (by omega) ht l.length 0 (1048576 - (l.length : Int)) (by omega) (by omega) (by omega)
    refine ⟨r, Ev.congr (fun k => ?_) hr, fun _ => by omega⟩
    unfold laws_szDueS.f
    rw [wrap_id (by omega) (by omega), if_neg (by omega)]
    rfl
theorem toDueS_ev (l : List S30) (hl : l.length ≤ 1048576) : Ev (fun k => laws_toDueS.f k l) (l.map toD) := by
  have h := fillLoop l.length (fun i => toD (l.getD i z30)) (fun k ys i => laws_toDueS.l0 k l ys i) (fun k i ys hi hy => by
      simp only [laws_toDueS.l0, laws_toDue.f, Option.bind_some]
      rw [if_pos (by omega), if_pos (by omega), if_pos (by omega), wrap_succ hi (by omega)]
      simp [rd_T30, toD]) (fun k ys hy => by
      simp only [laws_toDueS.l0]
      rw [if_neg (by omega)]) l.length 0 (List.replicate l.length z34) (by omega) (by simp)
  rw [map_range] at h
  refine Ev.congr (fun k => ?_) (by simpa using h)
  simp only [laws_toDueS.f]
  rw [if_pos (by omega), if_pos (by omega)]
  simp

theorem markText_l0 : ∀ (n : Nat) (x : Int) (s : ByteArray), 0 ≤ x → x ≤ n → (s.size : Int) + x ≤ 4611686018427387904 → ∃ t : ByteArray, Ev (fun k => laws_markText.l0 k x s) t
  | n, x, s, h0, h1, h2 => by
    by_cases hx : x > 0
    · have hd : Int.tdiv x 10 = x / 10 := Int.tdiv_eq_ediv_of_nonneg h0
      have hw : wrap64 (x / 10) = x / 10 := wrap_id (by omega) (by omega)
      obtain ⟨m, rfl⟩ : ∃ m, n = m + 1 := ⟨n - 1, by omega⟩
      have hs : ∀ b : Int, (strOfNums [b]).size = 1 := fun b => by simp [strOfNums, ByteArray.size]
      obtain ⟨t, ht⟩ := markText_l0 m (x / 10) (strOfNums [(wrap64 (48 + (Int.tmod x 10))) % 256] ++ s) (by omega) (by omega) (by
        rw [ByteArray.size_append, hs]
        omega)
      refine ⟨t, Ev.step (fun k => ?_) ht⟩
      simp only [laws_markText.l0, Option.bind_some]
      rw [if_pos hx, hs, if_pos (by omega), hd, hw]
    · refine ⟨(⟨#[109]⟩ : ByteArray) ++ s, Ev.step (f := fun _ => some _) (fun k => ?_) (Ev.now _)⟩
      simp only [laws_markText.l0]
      rw [if_neg hx, if_pos (by omega)]
theorem markText_ex (a : Int) (h : a ≤ 4611686018427387904) : ∃ t : ByteArray, Ev (fun k => laws_markText.f k a) t := by
  by_cases hc : a ≤ 0
  · refine ⟨_, Ev.congr (f := fun _ => some (⟨#[109, 48]⟩ : ByteArray)) (fun k => ?_) (Ev.now _)⟩
    simp only [laws_markText.f]; rw [if_pos hc]
  · obtain ⟨t, ht⟩ := markText_l0 a.toNat a ⟨#[]⟩ (by omega) (by omega) (by simp [ByteArray.size]; omega)
    refine ⟨t, Ev.congr (fun k => ?_) ht⟩
    simp only [laws_markText.f]; rw [if_neg hc]
open Classical in
/-- The text that marks. -/
noncomputable def markT (a : Int) : ByteArray := if h : a ≤ 4611686018427387904 then Classical.choose (markText_ex a h) else ⟨#[]⟩
theorem markT_ev (a : Int) (h : a ≤ 4611686018427387904) : Ev (fun k => laws_markText.f k a) (markT a) := by
  unfold markT
  rw [dif_pos h]
  exact Classical.choose_spec (markText_ex a h)

/-- The marks of what is due. -/
noncomputable def markD (a : Int) : S34 := ⟨a, a + 1, a + 2, markT (a + 3)⟩
theorem markDues_ev (l : List S34) (a : Int) (ha : 0 ≤ a) (hb : a + 4 * l.length ≤ 4611686018427387904) : Ev (fun k => laws_markDueS.f k l a) (a + 4 * l.length, marks markD 4 a l.length) := by
  have h := markLoopE l.length markD 4 (by omega) (fun k ys a i => laws_markDueS.l0 k ys a i) (fun i a ys hi hy h0 h1 R hR => by
      refine Ev.step (fun k => ?_) (Ev.bind (f := fun k t => laws_markDueS.l0 k (ys.set i ⟨a, a + 1, a + 2, t⟩) (a + 4) ((i + 1 : Nat) : Int)) (markT_ev (a + 3) (by omega)) hR)
      simp only [laws_markDueS.l0, Option.bind_some]
      rw [if_pos (by omega), if_pos (by omega), wrap_id (x := a + 1) (by omega) (by omega), wrap_id (x := a + 1 + 1) (by omega) (by omega), wrap_id (x := a + 1 + 1 + 1) (by omega) (by omega), wrap_id (x := a + 1 + 1 + 1 + 1) (by omega) (by omega), wrap_id (x := (i : Int) + 1) (by omega) (by omega)]
      simp only [rdD_nat, Int.toNat_natCast, List.set_set, getD_set_self _ _ _ i (show i < ys.length by omega)]
      rw [show a + 1 + 1 = a + 2 by omega, show a + 2 + 1 = a + 3 by omega, show a + 3 + 1 = a + 4 by omega]
      rfl) (fun k a ys hy => by
      simp only [laws_markDueS.l0]
      rw [if_neg (by omega)]) l.length 0 a l (by omega) rfl ha (by omega)
  simpa [laws_markDueS.f] using h
theorem heldDues_ev (n : Nat) (a : Int) (ha : 0 ≤ a) (hb : a + 4 * n ≤ 4611686018427387904) : Ev (fun k => laws_heldDueS.f k (marks markD 4 a n) a) (a + 4 * n) := by
  have hl := marks_length markD 4 n a
  have h := heldLoopE n 4 (by omega) a ha (by omega) (fun k x i => laws_heldDueS.l0 k (marks markD 4 a n) x i) (fun i hi h1 h2 R hR => by
      have em : (marks markD 4 a n).getD i z34 = markD (a + 4 * i) := marks_at _ _ _ n i a hi
      refine Ev.step (fun k => ?_) (Ev.bind (f := fun k t => if (markT (a + 4 * i + 3)).toList = t.toList then laws_heldDueS.l0 k (marks markD 4 a n) (a + 4 * i + 4) ((i + 1 : Nat) : Int) else some (-1)) (markT_ev (a + 4 * i + 3) (by omega)) ?_)
      · simp only [laws_heldDueS.l0]
        rw [if_pos (by omega), if_pos (by omega), rdD_nat, em, if_pos (show (markD (a + 4 * (i : Int))).f0 = a + 4 * (i : Int) from rfl), wrap_id (x := a + 4 * (i : Int) + 1) (by omega) (by omega), if_pos (show (markD (a + 4 * (i : Int))).f1 = a + 4 * (i : Int) + 1 from rfl), wrap_id (x := a + 4 * (i : Int) + 1 + 1) (by omega) (by omega), if_pos (show (markD (a + 4 * (i : Int))).f2 = a + 4 * (i : Int) + 1 + 1 by simp only [markD]; omega), wrap_id (x := a + 4 * (i : Int) + 1 + 1 + 1) (by omega) (by omega), wrap_id (x := a + 4 * (i : Int) + 1 + 1 + 1 + 1) (by omega) (by omega), wrap_id (x := (i : Int) + 1) (by omega) (by omega)]
        rw [show a + 4 * (i : Int) + 1 + 1 + 1 = a + 4 * i + 3 by omega, show a + 4 * (i : Int) + 3 + 1 = a + 4 * i + 4 by omega]
        rfl
      · simp only [if_true]
        exact hR) (fun k x => by
      simp only [laws_heldDueS.l0]
      rw [if_neg (by omega)]) n 0 (by omega)
  simpa [laws_heldDueS.f] using h

theorem eqDueS_refl (l : List S34) (hl : l.length ≤ 140737488355328) : Ev (fun k => laws_eqDueS.f k l l) true := by
  have hh := allLoop l.length (fun _ => true) true (fun k i => laws_eqDueS.l0 k l l i) (fun k i hi => by
      simp only [laws_eqDueS.l0, laws_eqDue.f, if_true, Option.bind_some]
      rw [if_pos (by omega), if_pos (by omega), if_pos (by omega), wrap_succ hi hl]) (fun k => by
      simp only [laws_eqDueS.l0]
      rw [if_neg (by omega)]) l.length 0 (by omega)
  have e : allB (fun _ => true) 0 l.length = true := by rw [allB_iff]; intros; rfl
  rw [e] at hh
  refine Ev.congr (fun k => ?_) hh
  simp only [laws_eqDueS.f]; rw [if_pos trivial]; rfl

theorem eqQueueOut_refl (l : List S34) (a b c : Int) (t : ByteArray) (d : Int) (hl : l.length ≤ 140737488355328) : Ev (fun k => laws_eqQueueOut.f k l a b c t d l a b c t d) true := by
  refine Ev.bind (eqDueS_refl l hl) ?_
  simp only [laws_eqDue.f, if_true, Option.bind_some]
  exact Ev.now _
theorem markQueue_ev (l : List S34) (a b c : Int) (t : ByteArray) (d : Int) (hl : l.length ≤ 140737488355328) : Ev (fun k => laws_markQueueOut.f k l a b c t d 1) (1 + 4 * l.length, marks markD 4 1 l.length) :=
  Ev.bind (markDues_ev l 1 (by omega) (by omega)) (Ev.now _)
theorem heldQueue_ev (n : Nat) (a b c : Int) (t : ByteArray) (d : Int) (hl : n ≤ 140737488355328) : Ev (fun k => laws_heldQueueOut.f k (marks markD 4 1 n) a b c t d 1) (1 + 4 * n) := by
  refine Ev.bind (heldDues_ev n 1 (by omega) (by omega)) ?_
  rw [if_neg (by omega)]
  exact Ev.now _

theorem spec_l02Is_eq (a b c : Int) : spec_l02Is.f a b c = some (inR a b c) := by
  by_cases h : b ≤ a <;> simp [spec_l02Is.f, inR, h]

theorem spec_l03Time_eq' (a : Int) : spec_l03Time.f a = some (inR a 0 1000000) := by simp [spec_l03Time.f, spec_l02Is_eq]
theorem spec_l03Due_eq (a b c : Int) (t : ByteArray) : spec_l03Due.f a b c t = some (dueR a b c t) := by
  simp only [spec_l03Due.f, spec_l03Time_eq', spec_l02Is_eq, Option.bind_some, dueR]
  cases inR a 0 1000000 <;> cases inR b 0 1000000 <;> cases inR c 0 99 <;> simp
theorem spec_l03Less_eq (x y : S34) : spec_l03Less.f x.f0 x.f1 x.f2 x.f3 y.f0 y.f1 y.f2 y.f3 = some (dueLess x y) := by
  unfold spec_l03Less.f dueLess
  repeat' split
  all_goals simp [*]
theorem specQueue_ev (l : List S34) : Ev (fun k => spec_QueueRight.f k l) (queueR l) := by
  unfold queueR
  by_cases h6 : l.length ≤ 200
  · have hh := allLoop l.length (dueT l) true (fun k i => spec_QueueRight.l0 k l i) (fun k i hi => by
        simp only [spec_QueueRight.l0, spec_l03Due_eq, Option.bind_some]
        rw [if_pos (by omega), if_pos (by omega), wrap_succ hi (by omega), rdD_nat]
        by_cases hf : dueR (l.getD i z34).f0 (l.getD i z34).f1 (l.getD i z34).f2 (l.getD i z34).f3 = true
        · rw [if_pos hf]
          by_cases h0 : i = 0
          · rw [if_neg (by omega), if_pos (dueT_iff.2 ⟨hf, .inl h0⟩)]
          · rw [if_pos (by omega), wrap_pred (by omega) hi (by omega), if_pos (by omega), if_pos (by omega), rdD_nat]
            simp only [spec_l03Less_eq, Option.bind_some]
            by_cases hlt : dueLess (l.getD (i - 1) z34) (l.getD i z34) = true
            · rw [if_pos hlt, if_pos (dueT_iff.2 ⟨hf, .inr hlt⟩)]
            · rw [if_neg hlt, if_neg (fun h => (dueT_iff.1 h).2.elim h0 hlt)]
        · rw [if_neg hf, if_neg (fun h => hf (dueT_iff.1 h).1)]) (fun k => by
        simp only [spec_QueueRight.l0]
        rw [if_neg (by omega)]) l.length 0 (by omega)
    rw [decide_eq_true h6, Bool.true_and]
    rw [Bool.and_true] at hh
    refine Ev.congr (fun k => ?_) hh
    simp only [spec_QueueRight.f]; rw [if_neg (by omega)]; rfl
  · rw [decide_eq_false h6, Bool.false_and]
    refine Ev.congr (f := fun _ => some false) (fun k => ?_) (Ev.now _)
    simp only [spec_QueueRight.f]; rw [if_pos (by omega)]

theorem impl_within_eq (a b c : Int) : impl_within.f a b c = some (inR a b c) := by
  by_cases h : b ≤ a <;> simp [impl_within.f, inR, h]

/-- Which of two comes first. -/
def ord2 (a b a' b' : Int) : Int := if a < a' then -1 else if a > a' then 1 else if b < b' then -1 else if b > b' then 1 else 0
def ord1 (a b : Int) : Int := if a < b then -1 else if a > b then 1 else 0
theorem compare_eq (a b : Int) : cmp_Compare_int64.f a b = some (ord1 a b) := by
  simp only [cmp_Compare_int64.f, cmp_isNaN_int64.f, Option.bind_some, bne_self_eq_false, Bool.false_eq_true, if_false, ord1]
  split <;> simp
  split <;> rfl
theorem or_ev (x y : Int) : Ev (fun k => cmp_Or_int.f k [x, y]) (if x = 0 then y else x) := by
  have h1 : wrap64 (((0 : Nat) : Int) + 1) = ((1 : Nat) : Int) := by decide +kernel
  have h2 : wrap64 (((1 : Nat) : Int) + 1) = ((2 : Nat) : Int) := by decide +kernel
  refine Ev.congr (f := fun k => cmp_Or_int.l0 k 0 [x, y] 2 ((0 : Nat) : Int)) (fun k => rfl) ?_
  by_cases hx : x = 0
  · rw [if_pos hx]
    refine Ev.step (f := fun k => cmp_Or_int.l0 k 0 [x, y] 2 ((1 : Nat) : Int)) (fun k => ?_) ?_
    · simp only [cmp_Or_int.l0]
      rw [if_pos (by omega), if_pos (by omega), if_pos (by simp), rd_nat, if_pos (show [x, y].getD 0 0 = 0 from hx), h1]
    · by_cases hy : y = 0
      · rw [hy]
        refine Ev.step (f := fun k => cmp_Or_int.l0 k 0 [x, 0] 2 ((2 : Nat) : Int)) (fun k => ?_) (Ev.step (f := fun _ => some 0) (fun k => ?_) (Ev.now _))
        · simp only [cmp_Or_int.l0]
          rw [if_pos (by omega), if_pos (by omega), if_pos (by simp), rd_nat, if_pos (show [x, 0].getD 1 0 = (0 : Int) from rfl), h2]
        · simp only [cmp_Or_int.l0]
          rw [if_neg (by omega)]
      · refine Ev.step (f := fun _ => some y) (fun k => ?_) (Ev.now _)
        simp only [cmp_Or_int.l0]
        rw [if_pos (by omega), if_pos (by omega), if_pos (by simp), rd_nat, if_neg (show ¬ [x, y].getD 1 0 = 0 from hy)]
        rfl
  · rw [if_neg hx]
    refine Ev.step (f := fun _ => some x) (fun k => ?_) (Ev.now _)
    simp only [cmp_Or_int.l0]
    rw [if_pos (by omega), if_pos (by omega), if_pos (by simp), rd_nat, if_neg (show ¬ [x, y].getD 0 0 = 0 from hx)]
    rfl
theorem dueOrder_ev (a b c : Int) (t : ByteArray) (a' b' c' : Int) (t' : ByteArray) : Ev (fun k => impl_dueOrder.f k a b c t a' b' c' t') (ord2 a b a' b') := by
  simp only [impl_dueOrder.f, compare_eq, Option.bind_some]
  refine Ev.bind (or_ev _ _) ?_
  have : (if ord1 a a' = 0 then ord1 b b' else ord1 a a') = ord2 a b a' b' := by
    unfold ord1 ord2
    repeat' split
    all_goals first | rfl | omega
  rw [this]
  exact Ev.now _

theorem impl_isTime_eq' (a : Int) : impl_isTime.f a = some (inR a 0 1000000) := by simp [impl_isTime.f, impl_within_eq]
theorem impl_isDue_eq (a b c : Int) (t : ByteArray) : impl_isDue.f a b c t = some (dueR a b c t) := by
  simp only [impl_isDue.f, impl_isTime_eq', impl_within_eq, Option.bind_some, dueR]
  cases inR a 0 1000000 <;> cases inR b 0 1000000 <;> cases inR c 0 99 <;> simp
theorem ord2_iff (x y : S34) : ¬ ord2 x.f0 x.f1 y.f0 y.f1 ≥ 0 ↔ dueLess x y = true := by
  simp only [dueLess, Bool.or_eq_true, Bool.and_eq_true, decide_eq_true_eq]
  unfold ord2
  repeat' split
  all_goals omega
theorem implQueue_ev (l : List S34) : Ev (fun k => impl_QueueRight.f k l) (queueR l) := by
  unfold queueR
  by_cases h6 : l.length ≤ 200
  · have hh := allLoopE l.length (dueT l) true (fun k i => impl_QueueRight.l0 k l l (l.length : Int) i) (fun i hi R hR => by
        by_cases hf : dueR (l.getD i z34).f0 (l.getD i z34).f1 (l.getD i z34).f2 (l.getD i z34).f3 = true
        · by_cases h0 : i = 0
          · rw [dueT_iff.2 ⟨hf, .inl h0⟩, Bool.true_and]
            refine Ev.step (fun k => ?_) hR
            simp only [impl_QueueRight.l0, impl_isDue_eq, Option.bind_some]
            rw [if_pos (by omega), if_pos (by omega), if_pos (by omega), wrap_succ hi (by omega), rdD_nat, if_pos hf, if_neg (by omega)]
          · have ho := dueOrder_ev (l.getD (i - 1) z34).f0 (l.getD (i - 1) z34).f1 (l.getD (i - 1) z34).f2 (l.getD (i - 1) z34).f3 (l.getD i z34).f0 (l.getD i z34).f1 (l.getD i z34).f2 (l.getD i z34).f3
            refine Ev.step (fun k => ?_) (Ev.bind ho (f := fun k t => if t ≥ 0 then some false else impl_QueueRight.l0 k l l (l.length : Int) ((i + 1 : Nat) : Int)) ?_)
            · simp only [impl_QueueRight.l0, impl_isDue_eq, Option.bind_some]
              rw [if_pos (by omega), if_pos (by omega), if_pos (by omega), wrap_succ hi (by omega), rdD_nat, if_pos hf, if_pos (by omega), wrap_pred (by omega) hi (by omega), if_pos (by omega), if_pos (by omega), rdD_nat]
            · by_cases hlt : dueLess (l.getD (i - 1) z34) (l.getD i z34) = true
              · rw [dueT_iff.2 ⟨hf, .inr hlt⟩, Bool.true_and]
                simp only [if_neg ((ord2_iff _ _).2 hlt)]
                exact hR
              · have : dueT l i = false := by
                  rw [← Bool.not_eq_true]
                  exact fun h => (dueT_iff.1 h).2.elim h0 hlt
                rw [this, Bool.false_and]
                simp only [if_pos (Decidable.of_not_not (fun h => hlt ((ord2_iff _ _).1 h)))]
                exact Ev.now _
        · have : dueT l i = false := by
            rw [← Bool.not_eq_true]
            exact fun h => hf (dueT_iff.1 h).1
          rw [this, Bool.false_and]
          refine Ev.step (f := fun _ => some false) (fun k => ?_) (Ev.now _)
          simp only [impl_QueueRight.l0, impl_isDue_eq, Option.bind_some]
          rw [if_pos (by omega), if_pos (by omega), if_pos (by omega), rdD_nat, if_neg hf]) (Ev.step (f := fun _ => some true) (fun k => by
        simp only [impl_QueueRight.l0]
        rw [if_neg (by omega)]) (Ev.now _)) l.length 0 (by omega)
    rw [decide_eq_true h6, Bool.true_and]
    rw [Bool.and_true] at hh
    refine Ev.congr (fun k => ?_) hh
    simp only [impl_QueueRight.f]; rw [if_neg (by omega)]; rfl
  · rw [decide_eq_false h6, Bool.false_and]
    refine Ev.congr (f := fun _ => some false) (fun k => ?_) (Ev.now _)
    simp only [impl_QueueRight.f]; rw [if_pos (by omega)]

theorem queueCode_ev (l : List S34) : Ev (fun k => impl_queueCode.f k l) (if 400 < l.length then 2 else if queueR l = true then 0 else 1) := by
  by_cases h4 : 400 < l.length
  · rw [if_pos h4]
    refine Ev.congr (f := fun _ => some _) (fun k => ?_) (Ev.now _)
    simp only [impl_queueCode.f, impl_Due_93.f, Option.bind_some]; rw [if_pos (by simp; omega)]
  · rw [if_neg h4]
    refine Ev.congr (fun k => ?_) (Ev.bind (implQueue_ev l) (f := fun k t => if t = true then some 0 else some 1) ?_)
    · simp only [impl_queueCode.f, impl_Due_93.f, Option.bind_some]; rw [if_neg (by simp; omega)]
    · by_cases hq : queueR l = true
      · simp only [if_pos hq]; exact Ev.now _
      · simp only [if_neg hq]; exact Ev.now _

/-- What is answered at place m. -/
def qFin (l : List S34) (d : S34) (m : Nat) : List S34 × Int × Int × Int × ByteArray × Int :=
  if m < l.length ∧ dueLess d (l.getD m z34) = false then ([], 0, 0, 0, ⟨#[]⟩, 7) else if 200 ≤ l.length then ([], 0, 0, 0, ⟨#[]⟩, 9) else (l.take m ++ [d] ++ l.drop m, 0, 0, 0, ⟨#[]⟩, 0)
/-- The place. -/
def qm (l : List S34) (d : S34) : Nat := (l.takeWhile (fun x => dueLess x d)).length
theorem qm_at (l : List S34) (d : S34) (m : Nat) (h : m ≤ l.length) (h1 : ∀ j, j < m → dueLess (l.getD j z34) d = true) (h2 : m < l.length → dueLess (l.getD m z34) d = false) : qm l d = m := by
  have := (takeWhile_at (fun x => dueLess x d) z34 l m h h1 h2).1
  rw [qm, this, List.length_take]
  omega
/-- What is put. -/
def queuePutS (l : List S34) (d : S34) : List S34 × Int × Int × Int × ByteArray × Int :=
  if 400 < l.length then ([], 0, 0, 0, ⟨#[]⟩, 2) else if (queueR l && dueR d.f0 d.f1 d.f2 d.f3) = true then qFin l d (qm l d) else ([], 0, 0, 0, ⟨#[]⟩, 1)
theorem queuePutS_length (l : List S34) (d : S34) : (queuePutS l d).1.length ≤ 401 := by
  unfold queuePutS qFin
  repeat' split
  all_goals first | (simp; done) | (simp only [List.length_append, List.length_take, List.length_drop, List.length_singleton]; omega)
theorem putJ2 (l : List S34) (hl : l.length ≤ 1048576) (d : S34) (k i : Nat) (hi : i ≤ l.length) (b : Bool) : spec_l03Put.j2 (k + 1) l (i : Int) b d.f0 d.f1 d.f2 d.f3 = some (if b = true then ([], 0, 0, 0, ⟨#[]⟩, 7) else if 200 ≤ l.length then ([], 0, 0, 0, ⟨#[]⟩, 9) else (l.take i ++ [d] ++ l.drop i, 0, 0, 0, ⟨#[]⟩, 0)) := by
  have e1 : (l.take i).length ≤ 1048576 := by rw [List.length_take]; omega
  have e2 : (l.drop i).length ≤ 1048576 := by rw [List.length_drop]; omega
  have L (y : List S34) : (([] : List S34) ++ y) = y := List.nil_append y
  have L0 : ([] : List S34).length = 0 := rfl
  have e4 : (l.take i ++ [(⟨d.f0, d.f1, d.f2, d.f3⟩ : S34)]).length = (l.take i).length + 1 := by rw [List.length_append]; rfl
  simp only [spec_l03Put.j2]
  cases b with
  | true => rfl
  | false =>
    simp only [Bool.false_eq_true, if_false]
    by_cases h2 : 200 ≤ l.length
    · rw [if_pos (show (l.length : Int) ≥ 200 by omega), if_pos h2]; rfl
    · rw [if_neg (show ¬ (l.length : Int) ≥ 200 by omega), if_neg h2, Option.bind_some, if_pos (by omega), if_pos (by omega), Int.toNat_natCast, Option.bind_some, L, if_pos (by omega), Option.bind_some, if_pos (by omega), Option.bind_some, Option.bind_some, if_pos (by omega)]
theorem putJ1 (l : List S34) (hl : l.length ≤ 1048576) (d : S34) (k i : Nat) (hi : i ≤ l.length) : spec_l03Put.j1 ((k + 1) + 1) l (i : Int) d.f0 d.f1 d.f2 d.f3 = some (qFin l d i) := by
  simp only [spec_l03Put.j1]
  by_cases h : i < l.length
  · rw [if_pos (by omega), if_pos (by omega), rdD_nat, spec_l03Less_eq d (l.getD i z34), Option.bind_some, putJ2 l hl d k i hi, qFin]
    cases hq : dueLess d (l.getD i z34) with
    | true => rw [if_neg (by decide), if_neg (show ¬ (i < l.length ∧ true = false) from fun z => absurd z.2 (by decide))]
    | false => rw [if_pos (by decide), if_pos (show i < l.length ∧ false = false from ⟨h, rfl⟩)]
  · rw [if_neg (by omega), putJ2 l hl d k i hi, qFin, if_neg (by decide), if_neg (show ¬ (i < l.length ∧ _) from fun z => h z.1)]
theorem specPutQ_ev (l : List S34) (d : S34) (hl : l.length ≤ 1048576) : Ev (fun k => spec_l03Put.f k l d.f0 d.f1 d.f2 d.f3) (qFin l d (qm l d)) := by
  obtain ⟨m, _, a2, a3, a4, a5⟩ := seekLoop l.length (fun i => dueLess (l.getD i z34) d) (fun k i => spec_l03Put.l0 (k + 2) l i d.f0 d.f1 d.f2 d.f3) (qFin l d) (fun k i hi hb => by
      have hw := wrap_succ (i := i) (n := l.length) hi (by omega)
      show spec_l03Put.l0 ((k + 2) + 1) l (i : Int) d.f0 d.f1 d.f2 d.f3 = spec_l03Put.l0 (k + 2) l ((i + 1 : Nat) : Int) d.f0 d.f1 d.f2 d.f3
      conv => lhs; simp only [spec_l03Put.l0]
      rw [if_pos (by omega), if_pos (by omega), rdD_nat, spec_l03Less_eq (l.getD i z34) d, Option.bind_some, if_pos hb, hw]
      rfl) (fun k i hi hb => by
      show spec_l03Put.l0 ((k + 2) + 1) l (i : Int) d.f0 d.f1 d.f2 d.f3 = some (qFin l d i)
      rw [← putJ1 l hl d k i hi]
      rw [spec_l03Put.l0]
      by_cases h : i < l.length
      · rw [if_pos (by omega), if_pos (by omega), rdD_nat, spec_l03Less_eq (l.getD i z34) d, Option.bind_some, if_neg (by rw [hb h]; decide)]
      · rw [if_neg (by omega)]) l.length 0 (by omega)
  rw [qm_at l d m a2 (fun j hj => a4 j (by omega) hj) a5]
  exact Ev.step (g := fun k => spec_l03Put.f k l d.f0 d.f1 d.f2 d.f3) (f := fun k => spec_l03Put.l0 (k + 1) l ((0 : Nat) : Int) d.f0 d.f1 d.f2 d.f3) (fun k => rfl) (Ev.step (g := fun k => spec_l03Put.l0 (k + 1) l ((0 : Nat) : Int) d.f0 d.f1 d.f2 d.f3) (f := fun k => spec_l03Put.l0 (k + 2) l ((0 : Nat) : Int) d.f0 d.f1 d.f2 d.f3) (fun k => rfl) a3)
theorem specQueuePut_ev (l : List S34) (d : S34) (hl : l.length ≤ 1048576) : Ev (fun k => spec_QueuePut.f k l d.f0 d.f1 d.f2 d.f3) (queuePutS l d) := by
  unfold queuePutS
  by_cases h4 : 400 < l.length
  · rw [if_pos h4]
    refine Ev.congr (f := fun _ => some _) (fun k => ?_) (Ev.now _)
    simp only [spec_QueuePut.f]; rw [if_pos (by omega)]; first | done | rfl
  · rw [if_neg h4]
    refine Ev.congr (fun k => by simp only [spec_QueuePut.f]; rw [if_neg (by omega)]) (Ev.bind (specQueue_ev l) ?_)
    cases hq : queueR l with
    | false =>
      simp only [Bool.false_and, Bool.false_eq_true, if_false]
      refine Ev.step (f := fun _ => some _) (fun k => ?_) (Ev.now _)
      simp only [spec_QueuePut.j0, if_true, spec_l03Ill.f, Option.bind_some]
    | true =>
      simp only [Bool.true_and, if_true, spec_l03Due_eq, Option.bind_some]
      cases hf : dueR d.f0 d.f1 d.f2 d.f3 with
      | false =>
        simp only [Bool.false_eq_true, if_false]
        refine Ev.step (f := fun _ => some _) (fun k => ?_) (Ev.now _)
        simp only [spec_QueuePut.j0, Bool.not_false, if_true, spec_l03Ill.f, Option.bind_some]
      | true =>
        simp only [if_true]
        refine Ev.step (fun k => by simp only [spec_QueuePut.j0, Bool.not_true, Bool.false_eq_true, if_false]; first | done | rfl) (Ev.bind (specPutQ_ev l d hl) (Ev.now _))
theorem dueLess_iff (x y : S34) : dueLess x y = true ↔ (x.f0 < y.f0 ∨ (x.f0 = y.f0 ∧ x.f1 < y.f1)) := by
  simp only [dueLess, Bool.or_eq_true, Bool.and_eq_true, decide_eq_true_eq]
theorem dueLess_trans {x y w : S34} (h1 : dueLess x y = true) (h2 : dueLess y w = true) : dueLess x w = true := by
  rw [dueLess_iff] at *
  omega
theorem queueR_lt {l : List S34} (h : queueR l = true) : ∀ b a : Nat, a < b → b < l.length → dueLess (l.getD a z34) (l.getD b z34) = true := by
  rw [queueR, Bool.and_eq_true, allB_iff] at h
  have h := h.2
  intro b
  induction b with
  | zero => intro a h1; omega
  | succ b ih =>
    intro a h1 h2
    have h3 := (dueT_iff.1 (h (b + 1) (by omega) (by omega))).2
    rw [Nat.add_sub_cancel] at h3
    rcases h3 with h3 | h3
    · omega
    · rcases Nat.lt_or_ge a b with h4 | h4
      · exact dueLess_trans (ih a h4 (by omega)) h3
      · have : a = b := by omega
        subst this; exact h3
theorem ord2_zero (x d : S34) (h : dueLess x d = false) : decide (ord2 x.f0 x.f1 d.f0 d.f1 = 0) = !dueLess d x := by
  have h1 := ord2_iff x d
  have h2 := ord2_iff d x
  have h3 : ord2 d.f0 d.f1 x.f0 x.f1 = - ord2 x.f0 x.f1 d.f0 d.f1 := by
    unfold ord2
    repeat' split
    all_goals omega
  rw [h] at h1
  have h4 : ord2 x.f0 x.f1 d.f0 d.f1 ≥ 0 := Decidable.of_not_not (fun z => absurd (h1.1 z) (by decide))
  cases hd : dueLess d x with
  | true =>
    rw [hd] at h2
    have := h2.2 rfl
    exact decide_eq_false (by omega)
  | false =>
    rw [hd] at h2
    have h5 : ord2 d.f0 d.f1 x.f0 x.f1 ≥ 0 := Decidable.of_not_not (fun z => absurd (h2.1 z) (by decide))
    exact decide_eq_true (by omega)
theorem putBs_ev (l : List S34) (d : S34) : ∀ (f i j : Nat), j - i < f → i ≤ j → j ≤ l.length → ∃ m, i ≤ m ∧ m ≤ j ∧ Ev (fun k => impl_QueuePut.bs k l d f i j) m ∧ (i < m → dueLess (l.getD (m - 1) z34) d = true) ∧ (m < j → dueLess (l.getD m z34) d = false) := by
  intro f
  induction f with
  | zero => intro i j h; omega
  | succ f ih =>
    intro i j h1 h2 h3
    by_cases hij : i < j
    · have ho := dueOrder_ev (l.getD ((i + j) / 2) z34).f0 (l.getD ((i + j) / 2) z34).f1 (l.getD ((i + j) / 2) z34).f2 (l.getD ((i + j) / 2) z34).f3 d.f0 d.f1 d.f2 d.f3
      have hi2 := ord2_iff (l.getD ((i + j) / 2) z34) d
      cases hc : dueLess (l.getD ((i + j) / 2) z34) d with
      | true =>
        obtain ⟨m, a1, a2, a3, a4, a5⟩ := ih ((i + j) / 2 + 1) j (by omega) (by omega) h3
        have hneg := hi2.2 hc
        refine ⟨m, by omega, a2, Ev.congr (fun k => by rw [impl_QueuePut.bs, if_pos hij]) (Ev.bind ho ?_), fun h => ?_, a5⟩
        · simp only [if_pos (show ord2 (l.getD ((i + j) / 2) z34).f0 (l.getD ((i + j) / 2) z34).f1 d.f0 d.f1 < 0 by omega)]
          exact a3
        · by_cases e : (i + j) / 2 + 1 < m
          · exact a4 e
          · rw [show m - 1 = (i + j) / 2 by omega]; exact hc
      | false =>
        obtain ⟨m, a1, a2, a3, a4, a5⟩ := ih i ((i + j) / 2) (by omega) (by omega) (by omega)
        have hneg : ord2 (l.getD ((i + j) / 2) z34).f0 (l.getD ((i + j) / 2) z34).f1 d.f0 d.f1 ≥ 0 := Decidable.of_not_not (fun z => absurd (hi2.1 z) (by rw [hc]; decide))
        refine ⟨m, a1, by omega, Ev.congr (fun k => by rw [impl_QueuePut.bs, if_pos hij]) (Ev.bind ho ?_), a4, fun h => ?_⟩
        · simp only [if_neg (show ¬ ord2 (l.getD ((i + j) / 2) z34).f0 (l.getD ((i + j) / 2) z34).f1 d.f0 d.f1 < 0 by omega)]
          exact a3
        · by_cases e : m < (i + j) / 2
          · exact a5 e
          · rw [show m = (i + j) / 2 by omega]; exact hc
    · obtain rfl : i = j := by omega
      exact ⟨i, Nat.le_refl _, Nat.le_refl _, Ev.congr (fun k => by rw [impl_QueuePut.bs, if_neg hij]) (Ev.now _), fun h => absurd h (Nat.lt_irrefl _), fun h => absurd h (Nat.lt_irrefl _)⟩
theorem putIs_ev (l : List S34) (d : S34) (m : Nat) (h2 : m < l.length → dueLess (l.getD m z34) d = false) : Ev (fun k => impl_QueuePut.is_ k l d m) (decide (m < l.length ∧ dueLess d (l.getD m z34) = false)) := by
  by_cases h : m < l.length
  · refine Ev.congr (fun k => by rw [impl_QueuePut.is_, if_pos h]) (Ev.bind (dueOrder_ev _ _ _ _ _ _ _ _) ?_)
    rw [ord2_zero _ _ (h2 h)]
    have : (!dueLess d (l.getD m z34)) = decide (m < l.length ∧ dueLess d (l.getD m z34) = false) := by
      cases hd : dueLess d (l.getD m z34) with
      | true => exact (decide_eq_false (fun z => absurd z.2 (by decide))).symm
      | false => exact (decide_eq_true ⟨h, rfl⟩).symm
    rw [this]
    exact Ev.now _
  · rw [decide_eq_false (fun z => h z.1)]
    exact Ev.congr (fun k => by rw [impl_QueuePut.is_, if_neg h]) (Ev.now _)
theorem implQueuePut_ev (l : List S34) (d : S34) (hl : l.length ≤ 1048576) : Ev (fun k => impl_QueuePut.f k l d.f0 d.f1 d.f2 d.f3) (queuePutS l d) := by
  unfold queuePutS
  refine Ev.congr (fun k => by rw [impl_QueuePut.f, if_pos hl]) (Ev.bind (queueCode_ev l) ?_)
  by_cases h4 : 400 < l.length
  · rw [if_pos h4, if_pos h4]
    exact Ev.congr (fun k => by rw [if_neg (by decide)]) (Ev.now _)
  · rw [if_neg h4, if_neg h4]
    cases hq : queueR l with
    | false =>
      rw [Bool.false_and, if_neg (by decide), if_neg (by decide)]
      exact Ev.congr (fun k => by rw [if_neg (by decide)]) (Ev.now _)
    | true =>
      rw [Bool.true_and, if_pos rfl]
      obtain ⟨m, _, a2, a3, a4, a5⟩ := putBs_ev l d (l.length + 1) 0 l.length (by omega) (by omega) (by omega)
      have hA : ∀ j, j < m → dueLess (l.getD j z34) d = true := fun j hj => by
        have h1 := a4 (by omega)
        rcases Nat.lt_or_ge j (m - 1) with h2 | h2
        · exact dueLess_trans (queueR_lt hq (m - 1) j h2 (by omega)) h1
        · rw [show j = m - 1 by omega]; exact h1
      rw [qm_at l d m a2 hA a5]
      have h20 : l.length ≤ 200 := by
        rw [queueR, Bool.and_eq_true] at hq
        exact of_decide_eq_true hq.1
      refine Ev.congr (fun k => by rw [if_pos rfl]) (Ev.bind a3 (Ev.bind (putIs_ev l d m a5) ?_))
      simp only [impl_isDue_eq, Option.bind_some]
      cases hf : dueR d.f0 d.f1 d.f2 d.f3 with
      | false =>
        rw [if_neg (by decide)]
        exact Ev.congr (fun k => by rw [if_neg (by decide)]) (Ev.now _)
      | true =>
        rw [if_pos rfl, qFin]
        by_cases hx : m < l.length ∧ dueLess d (l.getD m z34) = false
        · rw [if_pos hx]
          exact Ev.congr (fun k => by rw [if_pos rfl, if_pos (decide_eq_true hx)]) (Ev.now _)
        · rw [if_neg hx]
          by_cases h2 : l.length = 200
          · rw [if_pos (show 200 ≤ l.length by omega)]
            exact Ev.congr (fun k => by rw [if_pos rfl, if_neg (by rw [decide_eq_false hx]; decide), if_pos h2]) (Ev.now _)
          · rw [if_neg (show ¬ 200 ≤ l.length by omega)]
            exact Ev.congr (fun k => by rw [if_pos rfl, if_neg (by rw [decide_eq_false hx]; decide), if_neg h2, if_pos a2]) (Ev.now _)

theorem putTail (l : List S30) (a b c : Int) (t : ByteArray) (hl : l.length ≤ 1048576) (T : List S34 × Int × Int × Int × ByteArray × Int) (hT : T = queuePutS (l.map toD) ⟨a, b, c, t⟩) : Ev (fun k => laws_FnExactQueuePut.j0 k l false a b c t T.1 T.2.1 T.2.2.1 T.2.2.2.1 T.2.2.2.2.1 T.2.2.2.2.2 T.1 T.2.1 T.2.2.1 T.2.2.2.1 T.2.2.2.2.1 T.2.2.2.2.2) true := by
  have h4 : T.1.length ≤ 401 := hT ▸ queuePutS_length _ _
  refine Ev.step (fun k => by simp only [laws_FnExactQueuePut.j0, Bool.false_eq_true, if_false]; rfl) ?_
  refine Ev.bind (markQueue_ev T.1 _ _ _ _ _ (by omega)) (Ev.bind (heldQueue_ev T.1.length _ _ _ _ _ (by omega)) ?_)
  simp only [if_neg (show ¬ (1 + 4 * (T.1.length : Int)) < 0 by omega), if_true, laws_toDue.f, Option.bind_some]
  refine Ev.bind (toDueS_ev l hl) (Ev.bind (implQueuePut_ev _ ⟨a, b, c, t⟩ (by simpa using hl)) ?_)
  rw [← hT]
  refine Ev.bind (eqQueueOut_refl T.1 _ _ _ _ _ (by omega)) ?_
  simp only [if_true]
  refine Ev.bind (heldQueue_ev T.1.length _ _ _ _ _ (by omega)) ?_
  simp only [if_neg (show ¬ (1 + 4 * (T.1.length : Int)) < 0 by omega), if_true]
  exact Ev.now _
theorem FnExactQueuePut : laws_FnExactQueuePut.Goal := by
  intro l a b c t hm hw _ _ _ _
  obtain ⟨r, hr, hl⟩ := szDueS_ev l (by omega) (fun x hx => (hw x hx).2.2.2)
  refine Ev.rounds (Ev.congr (fun k => rfl) (Ev.bind hr ?_))
  by_cases hc : r < 0
  · simp only [if_pos hc]
    exact Ev.now _
  · obtain ⟨s, hs⟩ : ∃ s, laws_szDue.f a b c t r = some s := by
      unfold laws_szDue.f
      split
      · exact ⟨_, rfl⟩
      · exact ⟨_, rfl⟩
    simp only [if_neg hc, hs, Option.bind_some]
    by_cases hc2 : s < 0
    · simp only [if_pos hc2]
      exact Ev.now _
    · simp only [if_neg hc2, laws_toDue.f, Option.bind_some]
      have hl := hl hc
      have h4 := queuePutS_length (l.map toD) ⟨a, b, c, t⟩
      refine Ev.bind (toDueS_ev l hl) (Ev.bind (specQueuePut_ev _ ⟨a, b, c, t⟩ (by simpa using hl)) (Ev.bind (toDueS_ev l hl) (Ev.bind (implQueuePut_ev _ ⟨a, b, c, t⟩ (by simpa using hl)) (Ev.bind (eqQueueOut_refl _ _ _ _ _ _ (by omega)) ?_))))
      simp only [if_true]
      refine Ev.bind (toDueS_ev l hl) (Ev.bind (eqDueS_refl _ (by simp; omega)) ?_)
      simp only [if_true]
      refine Ev.bind (markDues_ev (l.map toD) 1 (by omega) (by simp; omega)) ?_
      simp only [if_neg (show ¬ (1 + 4 * ((l.map toD).length : Int)) < 0 by omega)]
      refine Ev.bind (eqQueueOut_refl _ _ _ _ _ _ (by omega)) ?_
      exact putTail l a b c t hl _ rfl

end Go.Proofs.Ythgofcgkmdbcdaa.Pure
