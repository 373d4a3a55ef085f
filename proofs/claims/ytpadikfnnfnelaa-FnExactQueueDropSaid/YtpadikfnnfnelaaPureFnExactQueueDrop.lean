/- The plain law of FnExactQueueDrop: what the Lean functions of the printed texts answer. -/
import Derived.Test.YtpadikfnnfnelaaGFnExactQueueDrop
import Derived.Test.YtpadikfnnfnelaaHSem
namespace Go.Proofs.Ytpadikfnnfnelaa.Pure
open Go.RowKit Go.Proofs.Ytpadikfnnfnelaa.PFnExactQueueDrop Go.Proofs.YtpadikfnnfnelaaW.PrintWords Go.Proofs.YtpadikfnnfnelaaW.PrintLast Go.Proofs.YtpadikfnnfnelaaW.PrintMore Go.Proofs.YtpadikfnnfnelaaH
set_option linter.unusedVariables false
set_option linter.unusedSimpArgs false

theorem rdD_nat (l : List S62) (i : Nat) : rd_T62 l (i : Int) = l.getD i z62 := by simp [rd_T62]
/-- May it be due? -/
def dueR (a s n : Int) (t : ByteArray) : Bool := inR a 0 1000000 && (inR s 0 1000000 && (inR n 0 99 && decide ((t.size : Int) ≤ 400)))
def dueLess (x y : S62) : Bool := decide (x.f0 < y.f0) || (decide (x.f0 = y.f0) && decide (x.f1 < y.f1))
def dueT (l : List S62) (i : Nat) : Bool := dueR (l.getD i z62).f0 (l.getD i z62).f1 (l.getD i z62).f2 (l.getD i z62).f3 && (decide (i = 0) || dueLess (l.getD (i - 1) z62) (l.getD i z62))
theorem dueT_iff {l : List S62} {i : Nat} : dueT l i = true ↔ dueR (l.getD i z62).f0 (l.getD i z62).f1 (l.getD i z62).f2 (l.getD i z62).f3 = true ∧ (i = 0 ∨ dueLess (l.getD (i - 1) z62) (l.getD i z62) = true) := by
  simp only [dueT, Bool.and_eq_true, Bool.or_eq_true, decide_eq_true_eq]
/-- Is a queue right? -/
def queueR (l : List S62) : Bool := decide (l.length ≤ 200) && allB (dueT l) 0 l.length

/-- What is due, as the program has it. -/
def toD (x : S71) : S62 := ⟨x.f0, x.f1, x.f2, x.f3⟩
theorem szDue_l0 (l : List S71) (hl : l.length ≤ 1048576) (ht : ∀ x ∈ l, x.f3.size ≤ maxLen) : ∀ (d i : Nat) (a : Int), i + d = l.length → 0 ≤ a → a ≤ 1048576 → ∃ r : Int, Ev (fun k => laws_szDueS.l0 k l a (i : Int)) r
  | 0, i, a, h, h0, h1 => ⟨a, Ev.step (f := fun _ => some a) (fun k => by simp only [laws_szDueS.l0]; rw [if_neg (by omega)]) (Ev.now _)⟩
  | d + 1, i, a, h, h0, h1 => by
    have hi : i < l.length := by omega
    have hs : (l.getD i z71).f3.size ≤ 9223372036854775807 := by
      have : l.getD i z71 ∈ l := by simp [List.getD, hi]
      have := ht _ this
      unfold maxLen at this
      omega
    have e : laws_szDue.f (l.getD i z71).f0 (l.getD i z71).f1 (l.getD i z71).f2 (l.getD i z71).f3 a = some (if a - ((l.getD i z71).f3.size : Int) < 0 then -1 else a - ((l.getD i z71).f3.size : Int)) := by
      unfold laws_szDue.f
      rw [wrap_id (by omega) (by omega)]
      split <;> rfl
    have er : rd_T71 l (i : Int) = l.getD i z71 := by simp [rd_T71]
    by_cases hc : a - ((l.getD i z71).f3.size : Int) < 0
    · refine ⟨-1, Ev.step (f := fun _ => some (-1)) (fun k => ?_) (Ev.now _)⟩
      simp only [laws_szDueS.l0]
      rw [if_pos (by omega), if_pos (by omega), er, e, if_pos hc, Option.bind_some, if_pos (by omega)]
    · obtain ⟨r, hr⟩ := szDue_l0 l hl ht d (i + 1) (a - ((l.getD i z71).f3.size : Int)) (by omega) (by omega) (by omega)
      refine ⟨r, Ev.step (fun k => ?_) hr⟩
      simp only [laws_szDueS.l0]
      rw [if_pos (by omega), if_pos (by omega), er, e, if_neg hc, Option.bind_some, if_neg (by omega), wrap_succ hi (by omega)]
theorem szDueS_ev (l : List S71) (hl : (l.length : Int) ≤ 9223372036854775807) (ht : ∀ x ∈ l, x.f3.size ≤ maxLen) : ∃ r : Int, Ev (fun k => laws_szDueS.f k l 1048576) r ∧ (¬ r < 0 → l.length ≤ 1048576) := by
  by_cases h : 1048576 < l.length
  · refine ⟨-1, Ev.congr (f := fun _ => some (-1)) (fun k => ?_) (Ev.now _), fun h => by omega⟩
    unfold laws_szDueS.f
    rw [wrap_id (by omega) (by omega), if_pos (by omega)]
  · obtain ⟨r, hr⟩ := szDue_l0 l (by omega) ht l.length 0 (1048576 - (l.length : Int)) (by omega) (by omega) (by omega)
    refine ⟨r, Ev.congr (fun k => ?_) hr, fun _ => by omega⟩
    unfold laws_szDueS.f
    rw [wrap_id (by omega) (by omega), if_neg (by omega)]
    rfl
theorem toDueS_ev (l : List S71) (hl : l.length ≤ 1048576) : Ev (fun k => laws_toDueS.f k l) (l.map toD) := by
  have h := fillLoop l.length (fun i => toD (l.getD i z71)) (fun k ys i => laws_toDueS.l0 k l ys i) (fun k i ys hi hy => by
      simp only [laws_toDueS.l0, laws_toDue.f, Option.bind_some]
      rw [if_pos (by omega), if_pos (by omega), if_pos (by omega), wrap_succ hi (by omega)]
      simp [rd_T71, toD]) (fun k ys hy => by
      simp only [laws_toDueS.l0]
      rw [if_neg (by omega)]) l.length 0 (List.replicate l.length z62) (by omega) (by simp)
  rw [map_range] at h
  refine Ev.congr (fun k => ?_) (by simpa using h)
  simp only [laws_toDueS.f]
  rw [if_pos (by omega), if_pos (by omega)]
  simp

theorem markText_l0 : ∀ (n : Nat) (x : Int) (s : ByteArray), 0 ≤ x → x ≤ n → (s.size : Int) + x ≤ 4611686018427387904 → ∃ t : ByteArray, Ev (fun k => laws_markText.l0 k x s) t
  | n, x, s, h0, h1, h2 => by
    by_cases hx : x > 0
    · have hd : Int.tdiv x 10 = x / 10 := Int.tdiv_eq_ediv_of_nonneg h0
      have hw : wrap64 (x / 10) = x / 10 := wrap_id (by omega) (by omega)
      obtain ⟨m, rfl⟩ : ∃ m, n = m + 1 := ⟨n - 1, by omega⟩
      have hs : ∀ b : Int, (strOfNums [b]).size = 1 := fun b => by simp [strOfNums, ByteArray.size]
      obtain ⟨t, ht⟩ := markText_l0 m (x / 10) (strOfNums [(wrap64 (48 + (Int.tmod x 10))) % 256] ++ s) (by omega) (by omega) (by
        rw [ByteArray.size_append, hs]
        omega)
      refine ⟨t, Ev.step (fun k => ?_) ht⟩
      simp only [laws_markText.l0, Option.bind_some]
      rw [if_pos hx, hs, if_pos (by omega), hd, hw]
    · refine ⟨(⟨#[109]⟩ : ByteArray) ++ s, Ev.step (f := fun _ => some _) (fun k => ?_) (Ev.now _)⟩
      simp only [laws_markText.l0]
      rw [if_neg hx, if_pos (by omega)]
theorem markText_ex (a : Int) (h : a ≤ 4611686018427387904) : ∃ t : ByteArray, Ev (fun k => laws_markText.f k a) t := by
  by_cases hc : a ≤ 0
  · refine ⟨_, Ev.congr (f := fun _ => some (⟨#[109, 48]⟩ : ByteArray)) (fun k => ?_) (Ev.now _)⟩
    simp only [laws_markText.f]; rw [if_pos hc]
  · obtain ⟨t, ht⟩ := markText_l0 a.toNat a ⟨#[]⟩ (by omega) (by omega) (by simp [ByteArray.size]; omega)
    refine ⟨t, Ev.congr (fun k => ?_) ht⟩
    simp only [laws_markText.f]; rw [if_neg hc]
open Classical in
/-- The text that marks. -/
noncomputable def markT (a : Int) : ByteArray := if h : a ≤ 4611686018427387904 then Classical.choose (markText_ex a h) else ⟨#[]⟩
theorem markT_ev (a : Int) (h : a ≤ 4611686018427387904) : Ev (fun k => laws_markText.f k a) (markT a) := by
  unfold markT
  rw [dif_pos h]
  exact Classical.choose_spec (markText_ex a h)

/-- The marks of what is due. -/
noncomputable def markD (a : Int) : S62 := ⟨a, a + 1, a + 2, markT (a + 3)⟩
theorem markDues_ev (l : List S62) (a : Int) (ha : 0 ≤ a) (hb : a + 4 * l.length ≤ 4611686018427387904) : Ev (fun k => laws_markDueS.f k l a) (a + 4 * l.length, marks markD 4 a l.length) := by
  have h := markLoopE l.length markD 4 (by omega) (fun k ys a i => laws_markDueS.l0 k ys a i) (fun i a ys hi hy h0 h1 R hR => by
      refine Ev.step (fun k => ?_) (Ev.bind (f := fun k t => laws_markDueS.l0 k (ys.set i ⟨a, a + 1, a + 2, t⟩) (a + 4) ((i + 1 : Nat) : Int)) (markT_ev (a + 3) (by omega)) hR)
      simp only [laws_markDueS.l0, Option.bind_some]
      rw [if_pos (by omega), if_pos (by omega), wrap_id (x := a + 1) (by omega) (by omega), wrap_id (x := a + 1 + 1) (by omega) (by omega), wrap_id (x := a + 1 + 1 + 1) (by omega) (by omega), wrap_id (x := a + 1 + 1 + 1 + 1) (by omega) (by omega), wrap_id (x := (i : Int) + 1) (by omega) (by omega)]
      simp only [rdD_nat, Int.toNat_natCast, List.set_set, getD_set_self _ _ _ i (show i < ys.length by omega)]
      rw [show a + 1 + 1 = a + 2 by omega, show a + 2 + 1 = a + 3 by omega, show a + 3 + 1 = a + 4 by omega]
      rfl) (fun k a ys hy => by
      simp only [laws_markDueS.l0]
      rw [if_neg (by omega)]) l.length 0 a l (by omega) rfl ha (by omega)
  simpa [laws_markDueS.f] using h
theorem heldDues_ev (n : Nat) (a : Int) (ha : 0 ≤ a) (hb : a + 4 * n ≤ 4611686018427387904) : Ev (fun k => laws_heldDueS.f k (marks markD 4 a n) a) (a + 4 * n) := by
  have hl := marks_length markD 4 n a
  have h := heldLoopE n 4 (by omega) a ha (by omega) (fun k x i => laws_heldDueS.l0 k (marks markD 4 a n) x i) (fun i hi h1 h2 R hR => by
      have em : (marks markD 4 a n).getD i z62 = markD (a + 4 * i) := marks_at _ _ _ n i a hi
      refine Ev.step (fun k => ?_) (Ev.bind (f := fun k t => if (markT (a + 4 * i + 3)).toList = t.toList then laws_heldDueS.l0 k (marks markD 4 a n) (a + 4 * i + 4) ((i + 1 : Nat) : Int) else some (-1)) (markT_ev (a + 4 * i + 3) (by omega)) ?_)
      · simp only [laws_heldDueS.l0]
        rw [if_pos (by omega), if_pos (by omega), rdD_nat, em, if_pos (show (markD (a + 4 * (i : Int))).f0 = a + 4 * (i : Int) from rfl), wrap_id (x := a + 4 * (i : Int) + 1) (by omega) (by omega), if_pos (show (markD (a + 4 * (i : Int))).f1 = a + 4 * (i : Int) + 1 from rfl), wrap_id (x := a + 4 * (i : Int) + 1 + 1) (by omega) (by omega), if_pos (show (markD (a + 4 * (i : Int))).f2 = a + 4 * (i : Int) + 1 + 1 by simp only [markD]; omega), wrap_id (x := a + 4 * (i : Int) + 1 + 1 + 1) (by omega) (by omega), wrap_id (x := a + 4 * (i : Int) + 1 + 1 + 1 + 1) (by omega) (by omega), wrap_id (x := (i : Int) + 1) (by omega) (by omega)]
        rw [show a + 4 * (i : Int) + 1 + 1 + 1 = a + 4 * i + 3 by omega, show a + 4 * (i : Int) + 3 + 1 = a + 4 * i + 4 by omega]
        rfl
      · simp only [if_true]
        exact hR) (fun k x => by
      simp only [laws_heldDueS.l0]
      rw [if_neg (by omega)]) n 0 (by omega)
  simpa [laws_heldDueS.f] using h

theorem eqDueS_refl (l : List S62) (hl : l.length ≤ 140737488355328) : Ev (fun k => laws_eqDueS.f k l l) true := by
  have hh := allLoop l.length (fun _ => true) true (fun k i => laws_eqDueS.l0 k l l i) (fun k i hi => by
      simp only [laws_eqDueS.l0, laws_eqDue.f, if_true, Option.bind_some]
      rw [if_pos (by omega), if_pos (by omega), if_pos (by omega), wrap_succ hi hl]) (fun k => by
      simp only [laws_eqDueS.l0]
      rw [if_neg (by omega)]) l.length 0 (by omega)
  have e : allB (fun _ => true) 0 l.length = true := by rw [allB_iff]; intros; rfl
  rw [e] at hh
  refine Ev.congr (fun k => ?_) hh
  simp only [laws_eqDueS.f]; rw [if_pos trivial]; rfl

theorem eqQueueOut_refl (l : List S62) (a b c : Int) (t : ByteArray) (d : Int) (hl : l.length ≤ 140737488355328) : Ev (fun k => laws_eqQueueOut.f k l a b c t d l a b c t d) true := by
  refine Ev.bind (eqDueS_refl l hl) ?_
  simp only [laws_eqDue.f, if_true, Option.bind_some]
  exact Ev.now _
theorem markQueue_ev (l : List S62) (a b c : Int) (t : ByteArray) (d : Int) (hl : l.length ≤ 140737488355328) : Ev (fun k => laws_markQueueOut.f k l a b c t d 1) (1 + 4 * l.length, marks markD 4 1 l.length) :=
  Ev.bind (markDues_ev l 1 (by omega) (by omega)) (Ev.now _)
theorem heldQueue_ev (n : Nat) (a b c : Int) (t : ByteArray) (d : Int) (hl : n ≤ 140737488355328) : Ev (fun k => laws_heldQueueOut.f k (marks markD 4 1 n) a b c t d 1) (1 + 4 * n) := by
  refine Ev.bind (heldDues_ev n 1 (by omega) (by omega)) ?_
  rw [if_neg (by omega)]
  exact Ev.now _

theorem spec_l02Is_eq (a b c : Int) : spec_l02Is.f a b c = some (inR a b c) := by
  by_cases h : b ≤ a <;> simp [spec_l02Is.f, inR, h]

theorem spec_l03Time_eq' (a : Int) : spec_l03Time.f a = some (inR a 0 1000000) := by simp [spec_l03Time.f, spec_l02Is_eq]
theorem spec_l03Due_eq (a b c : Int) (t : ByteArray) : spec_l03Due.f a b c t = some (dueR a b c t) := by
  simp only [spec_l03Due.f, spec_l03Time_eq', spec_l02Is_eq, Option.bind_some, dueR]
  cases inR a 0 1000000 <;> cases inR b 0 1000000 <;> cases inR c 0 99 <;> simp
theorem spec_l03Less_eq (x y : S62) : spec_l03Less.f x.f0 x.f1 x.f2 x.f3 y.f0 y.f1 y.f2 y.f3 = some (dueLess x y) := by
  unfold spec_l03Less.f dueLess
  repeat' split
  all_goals simp [*]
theorem specQueue_ev (l : List S62) : Ev (fun k => spec_QueueRight.f k l) (queueR l) := by
  unfold queueR
  by_cases h6 : l.length ≤ 200
  · have hh := allLoop l.length (dueT l) true (fun k i => spec_QueueRight.l0 k l i) (fun k i hi => by
        simp only [spec_QueueRight.l0, spec_l03Due_eq, Option.bind_some]
        rw [if_pos (by omega), if_pos (by omega), wrap_succ hi (by omega), rdD_nat]
        by_cases hf : dueR (l.getD i z62).f0 (l.getD i z62).f1 (l.getD i z62).f2 (l.getD i z62).f3 = true
        · rw [if_pos hf]
          by_cases h0 : i = 0
          · rw [if_neg (by omega), if_pos (dueT_iff.2 ⟨hf, .inl h0⟩)]
          · rw [if_pos (by omega), wrap_pred (by omega) hi (by omega), if_pos (by omega), if_pos (by omega), rdD_nat]
            simp only [spec_l03Less_eq, Option.bind_some]
            by_cases hlt : dueLess (l.getD (i - 1) z62) (l.getD i z62) = true
            · rw [if_pos hlt, if_pos (dueT_iff.2 ⟨hf, .inr hlt⟩)]
            · rw [if_neg hlt, if_neg (fun h => (dueT_iff.1 h).2.elim h0 hlt)]
        · rw [if_neg hf, if_neg (fun h => hf (dueT_iff.1 h).1)]) (fun k => by
        simp only [spec_QueueRight.l0]
        rw [if_neg (by omega)]) l.length 0 (by omega)
    rw [decide_eq_true h6, Bool.true_and]
    rw [Bool.and_true] at hh
    refine Ev.congr (fun k => ?_) hh
    simp only [spec_QueueRight.f]; rw [if_neg (by omega)]; rfl
  · rw [decide_eq_false h6, Bool.false_and]
    refine Ev.congr (f := fun _ => some false) (fun k => ?_) (Ev.now _)
    simp only [spec_QueueRight.f]; rw [if_pos (by omega)]

theorem impl_within_eq (a b c : Int) : impl_within.f a b c = some (inR a b c) := by
  by_cases h : b ≤ a <;> simp [impl_within.f, inR, h]

/-- Which of two comes first. -/
def ord2 (a b a' b' : Int) : Int := if a < a' then -1 else if a > a' then 1 else if b < b' then -1 else if b > b' then 1 else 0
def ord1 (a b : Int) : Int := if a < b then -1 else if a > b then 1 else 0
theorem compare_eq (a b : Int) : cmp_Compare_int64.f a b = some (ord1 a b) := by
  simp only [cmp_Compare_int64.f, cmp_isNaN_int64.f, Option.bind_some, bne_self_eq_false, Bool.false_eq_true, if_false, ord1]
  split <;> simp
  split <;> rfl
theorem or_ev (x y : Int) : Ev (fun k => cmp_Or_int.f k [x, y]) (if x = 0 then y else x) := by
  have h1 : wrap64 (((0 : Nat) : Int) + 1) = ((1 : Nat) : Int) := by decide +kernel
  have h2 : wrap64 (((1 : Nat) : Int) + 1) = ((2 : Nat) : Int) := by decide +kernel
  refine Ev.congr (f := fun k => cmp_Or_int.l0 k 0 [x, y] 2 ((0 : Nat) : Int)) (fun k => rfl) ?_
  by_cases hx : x = 0
  · rw [if_pos hx]
    refine Ev.step (f := fun k => cmp_Or_int.l0 k 0 [x, y] 2 ((1 : Nat) : Int)) (fun k => ?_) ?_
    · simp only [cmp_Or_int.l0]
      rw [if_pos (by omega), if_pos (by omega), if_pos (by simp), rd_nat, if_pos (show [x, y].getD 0 0 = 0 from hx), h1]
    · by_cases hy : y = 0
      · rw [hy]
        refine Ev.step (f := fun k => cmp_Or_int.l0 k 0 [x, 0] 2 ((2 : Nat) : Int)) (fun k => ?_) (Ev.step (f := fun _ => some 0) (fun k => ?_) (Ev.now _))
        · simp only [cmp_Or_int.l0]
          rw [if_pos (by omega), if_pos (by omega), if_pos (by simp), rd_nat, if_pos (show [x, 0].getD 1 0 = (0 : Int) from rfl), h2]
        · simp only [cmp_Or_int.l0]
          rw [if_neg (by omega)]
      · refine Ev.step (f := fun _ => some y) (fun k => ?_) (Ev.now _)
        simp only [cmp_Or_int.l0]
        rw [if_pos (by omega), if_pos (by omega), if_pos (by simp), rd_nat, if_neg (show ¬ [x, y].getD 1 0 = 0 from hy)]
        rfl
  · rw [if_neg hx]
    refine Ev.step (f := fun _ => some x) (fun k => ?_) (Ev.now _)
    simp only [cmp_Or_int.l0]
    rw [if_pos (by omega), if_pos (by omega), if_pos (by simp), rd_nat, if_neg (show ¬ [x, y].getD 0 0 = 0 from hx)]
    rfl
theorem dueOrder_ev (a b c : Int) (t : ByteArray) (a' b' c' : Int) (t' : ByteArray) : Ev (fun k => impl_dueOrder.f k a b c t a' b' c' t') (ord2 a b a' b') := by
  simp only [impl_dueOrder.f, compare_eq, Option.bind_some]
  refine Ev.bind (or_ev _ _) ?_
  have : (if ord1 a a' = 0 then ord1 b b' else ord1 a a') = ord2 a b a' b' := by
    unfold ord1 ord2
    repeat' split
    all_goals first | rfl | omega
  rw [this]
  exact Ev.now _

theorem impl_isTime_eq' (a : Int) : impl_isTime.f a = some (inR a 0 1000000) := by simp [impl_isTime.f, impl_within_eq]
theorem impl_isDue_eq (a b c : Int) (t : ByteArray) : impl_isDue.f a b c t = some (dueR a b c t) := by
  simp only [impl_isDue.f, impl_isTime_eq', impl_within_eq, Option.bind_some, dueR]
  cases inR a 0 1000000 <;> cases inR b 0 1000000 <;> cases inR c 0 99 <;> simp
theorem ord2_iff (x y : S62) : ¬ ord2 x.f0 x.f1 y.f0 y.f1 ≥ 0 ↔ dueLess x y = true := by
  simp only [dueLess, Bool.or_eq_true, Bool.and_eq_true, decide_eq_true_eq]
  unfold ord2
  repeat' split
  all_goals omega
theorem implQueue_ev (l : List S62) : Ev (fun k => impl_QueueRight.f k l) (queueR l) := by
  unfold queueR
  by_cases h6 : l.length ≤ 200
  · have hh := allLoopE l.length (dueT l) true (fun k i => impl_QueueRight.l0 k l l (l.length : Int) i) (fun i hi R hR => by
        by_cases hf : dueR (l.getD i z62).f0 (l.getD i z62).f1 (l.getD i z62).f2 (l.getD i z62).f3 = true
        · by_cases h0 : i = 0
          · rw [dueT_iff.2 ⟨hf, .inl h0⟩, Bool.true_and]
            refine Ev.step (fun k => ?_) hR
            simp only [impl_QueueRight.l0, impl_isDue_eq, Option.bind_some]
            rw [if_pos (by omega), if_pos (by omega), if_pos (by omega), wrap_succ hi (by omega), rdD_nat, if_pos hf, if_neg (by omega)]
          · have ho := dueOrder_ev (l.getD (i - 1) z62).f0 (l.getD (i - 1) z62).f1 (l.getD (i - 1) z62).f2 (l.getD (i - 1) z62).f3 (l.getD i z62).f0 (l.getD i z62).f1 (l.getD i z62).f2 (l.getD i z62).f3
            refine Ev.step (fun k => ?_) (Ev.bind ho (f := fun k t => if t ≥ 0 then some false else impl_QueueRight.l0 k l l (l.length : Int) ((i + 1 : Nat) : Int)) ?_)
            · simp only [impl_QueueRight.l0, impl_isDue_eq, Option.bind_some]
              rw [if_pos (by omega), if_pos (by omega), if_pos (by omega), wrap_succ hi (by omega), rdD_nat, if_pos hf, if_pos (by omega), wrap_pred (by omega) hi (by omega), if_pos (by omega), if_pos (by omega), rdD_nat]
            · by_cases hlt : dueLess (l.getD (i - 1) z62) (l.getD i z62) = true
              · rw [dueT_iff.2 ⟨hf, .inr hlt⟩, Bool.true_and]
                simp only [if_neg ((ord2_iff _ _).2 hlt)]
                exact hR
              · have : dueT l i = false := by
                  rw [← Bool.not_eq_true]
                  exact fun h => (dueT_iff.1 h).2.elim h0 hlt
                rw [this, Bool.false_and]
                simp only [if_pos (Decidable.of_not_not (fun h => hlt ((ord2_iff _ _).1 h)))]
                exact Ev.now _
        · have : dueT l i = false := by
            rw [← Bool.not_eq_true]
            exact fun h => hf (dueT_iff.1 h).1
          rw [this, Bool.false_and]
          refine Ev.step (f := fun _ => some false) (fun k => ?_) (Ev.now _)
          simp only [impl_QueueRight.l0, impl_isDue_eq, Option.bind_some]
          rw [if_pos (by omega), if_pos (by omega), if_pos (by omega), rdD_nat, if_neg hf]) (Ev.step (f := fun _ => some true) (fun k => by
        simp only [impl_QueueRight.l0]
        rw [if_neg (by omega)]) (Ev.now _)) l.length 0 (by omega)
    rw [decide_eq_true h6, Bool.true_and]
    rw [Bool.and_true] at hh
    refine Ev.congr (fun k => ?_) hh
    simp only [impl_QueueRight.f]; rw [if_neg (by omega)]; rfl
  · rw [decide_eq_false h6, Bool.false_and]
    refine Ev.congr (f := fun _ => some false) (fun k => ?_) (Ev.now _)
    simp only [impl_QueueRight.f]; rw [if_pos (by omega)]

theorem queueCode_ev (l : List S62) : Ev (fun k => impl_queueCode.f k l) (if 400 < l.length then 2 else if queueR l = true then 0 else 1) := by
  by_cases h4 : 400 < l.length
  · rw [if_pos h4]
    refine Ev.congr (f := fun _ => some _) (fun k => ?_) (Ev.now _)
    simp only [impl_queueCode.f, impl_Due_111.f, Option.bind_some]; rw [if_pos (by simp; omega)]
  · rw [if_neg h4]
    refine Ev.congr (fun k => ?_) (Ev.bind (implQueue_ev l) (f := fun k t => if t = true then some 0 else some 1) ?_)
    · simp only [impl_queueCode.f, impl_Due_111.f, Option.bind_some]; rw [if_neg (by simp; omega)]
    · by_cases hq : queueR l = true
      · simp only [if_pos hq]; exact Ev.now _
      · simp only [if_neg hq]; exact Ev.now _

/-- What is dropped of. -/
def dropQ (l : List S62) (n : Int) : List S62 × Int × Int × Int × ByteArray × Int :=
  if 400 < l.length then ([], 0, 0, 0, ⟨#[]⟩, 2) else if queueR l = true then (l.filter (fun x => !impl_QueueDrop.p n x), 0, 0, 0, ⟨#[]⟩, 0) else ([], 0, 0, 0, ⟨#[]⟩, 1)
theorem dropQ_length (l : List S62) (n : Int) : (dropQ l n).1.length ≤ 400 := by
  unfold dropQ
  repeat' split
  · simp
  · have := List.length_filter_le (fun x => !impl_QueueDrop.p n x) l
    simp only
    omega
  · simp
theorem specDrop_l0 (l : List S62) (n : Int) (hl : l.length ≤ 400) : ∀ (d i : Nat) (acc : List S62), i + d = l.length → acc.length ≤ i → Ev (fun k => spec_l03Drop.l0 k l n acc (i : Int)) (acc ++ (l.drop i).filter (fun x => !impl_QueueDrop.p n x))
  | 0, i, acc, h, ha => by
    refine Ev.step (f := fun _ => some acc) (fun k => ?_) ?_
    · simp only [spec_l03Drop.l0]; rw [if_neg (by omega)]
    · rw [List.drop_of_length_le (by omega)]
      simpa using Ev.now acc
  | d + 1, i, acc, h, ha => by
    have hi : i < l.length := by omega
    have hw : wrap64 ((i : Int) + 1) = ((i + 1 : Nat) : Int) := wrap_succ hi (by omega)
    rw [drop_at l z62 hi]
    by_cases hc : (l.getD i z62).f2 = n
    · have hp : impl_QueueDrop.p n (l.getD i z62) = true := by simp [impl_QueueDrop.p, -List.getD_eq_getElem?_getD, hc]
      rw [List.filter_cons, hp]
      refine Ev.step (fun k => ?_) (specDrop_l0 l n hl d (i + 1) acc (by omega) (by omega))
      simp only [spec_l03Drop.l0]
      rw [if_pos (by omega), if_pos (by omega), rdD_nat, if_pos hc, hw]
    · have hp : impl_QueueDrop.p n (l.getD i z62) = false := by simp [impl_QueueDrop.p, -List.getD_eq_getElem?_getD, hc]
      rw [List.filter_cons, hp]
      have := specDrop_l0 l n hl d (i + 1) (acc ++ [l.getD i z62]) (by omega) (by rw [List.length_append, List.length_singleton]; omega)
      rw [List.append_assoc] at this
      refine Ev.step (fun k => ?_) this
      simp only [spec_l03Drop.l0]
      rw [if_pos (by omega), if_pos (by omega), rdD_nat, if_neg hc, if_pos (by omega), hw]
theorem specDrop_ev (l : List S62) (n : Int) : Ev (fun k => spec_QueueDrop.f k l n) (dropQ l n) := by
  unfold dropQ
  by_cases h4 : 400 < l.length
  · rw [if_pos h4]
    refine Ev.congr (f := fun _ => some _) (fun k => ?_) (Ev.now _)
    simp only [spec_QueueDrop.f, spec_l03Ill.f, Option.bind_some]; rw [if_pos (by omega)]
  · rw [if_neg h4]
    refine Ev.congr (fun k => by simp only [spec_QueueDrop.f, spec_l03Ill.f, Option.bind_some]; rw [if_neg (by omega)]) (Ev.bind (specQueue_ev l) ?_)
    by_cases hq : queueR l = true
    · simp only [if_pos hq]
      have := specDrop_l0 l n (by omega) l.length 0 [] (by omega) (by simp)
      rw [List.nil_append, List.drop_zero] at this
      exact Ev.bind (Ev.congr (fun k => rfl) this) (Ev.now _)
    · simp only [if_neg hq]
      exact Ev.now _
theorem implDrop_ev (l : List S62) (n : Int) : Ev (fun k => impl_QueueDrop.f k l n) (dropQ l n) := by
  refine Ev.bind (queueCode_ev l) ?_
  unfold dropQ
  by_cases h4 : 400 < l.length
  · simp only [if_pos h4]
    exact Ev.now _
  · simp only [if_neg h4]
    by_cases hq : queueR l = true
    · simp only [if_pos hq, if_true]
      refine Ev.congr (f := fun _ => some _) (fun k => ?_) (Ev.now _)
      rw [if_pos (by omega), impl_Due_88.f, if_pos (by omega), Option.bind_some]
    · simp only [if_neg hq]
      exact Ev.now _

theorem dropTail (l : List S71) (n : Int) (hl : l.length ≤ 1048576) (T : List S62 × Int × Int × Int × ByteArray × Int) (hT : T = dropQ (l.map toD) n) : Ev (fun k => laws_FnExactQueueDrop.j0 k l n false T.1 T.2.1 T.2.2.1 T.2.2.2.1 T.2.2.2.2.1 T.2.2.2.2.2 T.1 T.2.1 T.2.2.1 T.2.2.2.1 T.2.2.2.2.1 T.2.2.2.2.2) true := by
  have h4 : T.1.length ≤ 400 := hT ▸ dropQ_length _ _
  refine Ev.step (fun k => by simp only [laws_FnExactQueueDrop.j0, Bool.false_eq_true, if_false]; rfl) ?_
  refine Ev.bind (markQueue_ev T.1 _ _ _ _ _ (by omega)) (Ev.bind (heldQueue_ev T.1.length _ _ _ _ _ (by omega)) ?_)
  simp only [if_neg (show ¬ (1 + 4 * (T.1.length : Int)) < 0 by omega), if_true]
  refine Ev.bind (toDueS_ev l hl) (Ev.bind (implDrop_ev _ _) ?_)
  rw [← hT]
  refine Ev.bind (eqQueueOut_refl T.1 _ _ _ _ _ (by omega)) ?_
  simp only [if_true]
  refine Ev.bind (heldQueue_ev T.1.length _ _ _ _ _ (by omega)) ?_
  simp only [if_neg (show ¬ (1 + 4 * (T.1.length : Int)) < 0 by omega), if_true]
  exact Ev.now _
theorem FnExactQueueDrop : laws_FnExactQueueDrop.Goal := by
  intro l n hm hw _
  obtain ⟨r, hr, hl⟩ := szDueS_ev l (by omega) (fun x hx => (hw x hx).2.2.2)
  refine Ev.rounds (Ev.congr (fun k => rfl) (Ev.bind hr ?_))
  by_cases hc : r < 0
  · simp only [if_pos hc]
    exact Ev.now _
  · simp only [if_neg hc]
    have hl := hl hc
    have h4 := dropQ_length (l.map toD) n
    refine Ev.bind (toDueS_ev l hl) (Ev.bind (specDrop_ev _ _) (Ev.bind (toDueS_ev l hl) (Ev.bind (implDrop_ev _ _) (Ev.bind (eqQueueOut_refl _ _ _ _ _ _ (by omega)) ?_))))
    simp only [if_true]
    refine Ev.bind (toDueS_ev l hl) (Ev.bind (eqDueS_refl _ (by simp; omega)) ?_)
    simp only [if_true]
    refine Ev.bind (markDues_ev (l.map toD) 1 (by omega) (by simp; omega)) ?_
    simp only [if_neg (show ¬ (1 + 4 * ((l.map toD).length : Int)) < 0 by omega)]
    refine Ev.bind (eqQueueOut_refl _ _ _ _ _ _ (by omega)) ?_
    exact dropTail l n hl _ rfl

end Go.Proofs.Ytpadikfnnfnelaa.Pure
