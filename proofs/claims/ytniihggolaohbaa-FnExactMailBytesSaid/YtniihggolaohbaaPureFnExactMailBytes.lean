/- The plain law of FnExactMailBytes: what the Lean functions of the printed texts answer. -/
import Derived.Test.YtniihggolaohbaaGFnExactMailBytes
import Derived.Test.YtniihggolaohbaaXFnExactMailBytes
namespace Go.Proofs.Ytniihggolaohbaa.Pure
open Go.RowKit Go.Proofs.Ytniihggolaohbaa.PFnExactMailBytes Go.Proofs.YtniihggolaohbaaW.PrintWords Go.Proofs.YtniihggolaohbaaW.PrintLast Go.Proofs.YtniihggolaohbaaW.PrintMore Go.Proofs.YtniihggolaohbaaH
set_option linter.unusedVariables false
set_option linter.unusedSimpArgs false

/-- A fact, as the program has it. -/
def toF (x : S97) : S69 := ⟨x.f0, x.f1, x.f2⟩
theorem szFactS_eq (l : List S97) (hl : (l.length : Int) ≤ 9223372036854775807) : laws_szFactS.f l 1048576 = some (if 1048576 < l.length then -1 else 1048576 - (l.length : Int)) := by
  unfold laws_szFactS.f
  rw [wrap_id (by omega) (by omega)]
  split <;> split <;> first | rfl | omega
theorem toFactS_ev (l : List S97) (hl : l.length ≤ 1048576) : Ev (fun k => laws_toFactS.f k l) (l.map toF) := by
  have h := fillLoop l.length (fun i => toF (l.getD i z97)) (fun k ys i => laws_toFactS.l0 k l ys i) (fun k i ys hi hy => by
      simp only [laws_toFactS.l0, laws_toFact.f, Option.bind_some]
      rw [if_pos (by omega), if_pos (by omega), if_pos (by omega), wrap_succ hi (by omega)]
      simp [rd_T97, toF]) (fun k ys hy => by
      simp only [laws_toFactS.l0]
      rw [if_neg (by omega)]) l.length 0 (List.replicate l.length z69) (by omega) (by simp)
  rw [map_range] at h
  refine Ev.congr (fun k => ?_) (by simpa using h)
  simp only [laws_toFactS.f]
  rw [if_pos (by omega), if_pos (by omega)]
  simp

theorem eqFact_eq (a b c a' b' c' : Int) : laws_eqFact.f a b c a' b' c' = some (decide (a = a') && (decide (b = b') && decide (c = c'))) := by
  unfold laws_eqFact.f
  repeat' split
  all_goals simp [*]
theorem fact_ext (x y : S69) : (decide (x.f0 = y.f0) && (decide (x.f1 = y.f1) && decide (x.f2 = y.f2))) = true ↔ x = y := by
  cases x; cases y; simp
theorem eqFactS_ev (l m : List S69) (hl : l.length ≤ 140737488355328) : ∃ b : Bool, (b = true ↔ l = m) ∧ Ev (fun k => laws_eqFactS.f k l m) b := by
  by_cases h : m.length = l.length
  · have hh := allLoop l.length (fun i => (decide ((l.getD i z69).f0 = (m.getD i z69).f0) && (decide ((l.getD i z69).f1 = (m.getD i z69).f1) && decide ((l.getD i z69).f2 = (m.getD i z69).f2)))) true (fun k i => laws_eqFactS.l0 k l m i) (fun k i hi => by
        simp only [laws_eqFactS.l0, eqFact_eq, Option.bind_some, rd_T69]
        rw [if_pos (by omega), if_pos (by omega), if_pos (by omega), wrap_succ hi hl]
        simp only [Int.toNat_natCast]) (fun k => by
        simp only [laws_eqFactS.l0]
        rw [if_neg (by omega)]) l.length 0 (by omega)
    refine ⟨_, ?_, Ev.congr (fun k => ?_) hh⟩
    · rw [Bool.and_true, allB_iff]
      constructor
      · intro hj
        apply List.ext_getElem h.symm
        intro i h1 h2
        have := (fact_ext _ _).1 (hj i (by omega) (by omega))
        simpa [List.getD, h1, h2] using this
      · rintro rfl j _ _
        simp
    · simp only [laws_eqFactS.f]; rw [if_pos (by omega)]; rfl
  · refine ⟨false, ⟨fun h => by simp at h, fun e => by rw [e] at h; exact absurd rfl h⟩, Ev.congr (f := fun k => some false) (fun k => ?_) (Ev.now _)⟩
    simp only [laws_eqFactS.f]; rw [if_neg (by omega)]

theorem szMail_eq (kd fr tt nu ab fo : Int) (l : List S97) (hl : (l.length : Int) ≤ 9223372036854775807) : laws_szMail.f kd fr tt nu ab fo l 1048576 = some (if 1048576 < l.length then -1 else 1048576 - (l.length : Int)) := by
  simp only [laws_szMail.f, szFactS_eq l hl, Option.bind_some]
  split <;> split <;> first | rfl | omega
theorem toMail_ev (kd fr tt nu ab fo : Int) (l : List S97) (hl : l.length ≤ 1048576) : Ev (fun k => laws_toMail.f k kd fr tt nu ab fo l) (kd, fr, tt, nu, ab, fo, l.map toF) := Ev.congr (fun k => rfl) (Ev.bind (toFactS_ev l hl) (Ev.now _))
theorem eqMail_refl (kd fr tt nu ab fo : Int) (l : List S69) (hl : l.length ≤ 140737488355328) : Ev (fun k => laws_eqMail.f k kd fr tt nu ab fo l kd fr tt nu ab fo l) true := by
  obtain ⟨b, hb1, hb2⟩ := eqFactS_ev l l hl
  simp only [laws_eqMail.f, if_true]
  refine Ev.bind hb2 ?_
  rw [hb1.2 rfl]
  simpa using Ev.now _

/-- Is the fact at place i one that may stand there? -/
def viewT (l : List S69) (i : Nat) : Bool := factR (l.getD i z69).f0 (l.getD i z69).f1 (l.getD i z69).f2 && (decide (i = 0) || decide ((l.getD (i - 1) z69).f0 < (l.getD i z69).f0))
/-- Is a view right? -/
def viewR (l : List S69) : Bool := allB (viewT l) 0 l.length
theorem factR_iff {a b c : Int} : factR a b c = true ↔ (1 ≤ a ∧ a ≤ 6) ∧ (0 ≤ b ∧ b ≤ 1000000) ∧ (1 ≤ c ∧ c ≤ 3) := by
  simp only [factR, Bool.and_eq_true, inR_iff]
theorem rdF_nat (l : List S69) (i : Nat) : rd_T69 l (i : Int) = l.getD i z69 := by simp [rd_T69]
theorem viewT_iff {l : List S69} {i : Nat} : viewT l i = true ↔ factR (l.getD i z69).f0 (l.getD i z69).f1 (l.getD i z69).f2 = true ∧ (i = 0 ∨ (l.getD (i - 1) z69).f0 < (l.getD i z69).f0) := by
  simp only [viewT, Bool.and_eq_true, Bool.or_eq_true, decide_eq_true_eq]
theorem viewR_six {l : List S69} (h : viewR l = true) : l.length ≤ 6 := by
  refine rising_six (fun j => (l.getD j z69).f0) l.length (fun j hj => ?_)
  have := (allB_iff _ _ _).1 h j (by omega) (by omega)
  simp only [viewT, Bool.and_eq_true, Bool.or_eq_true, decide_eq_true_eq, factR_iff] at this
  obtain ⟨⟨⟨h1, h2⟩, _⟩, h3⟩ := this
  exact ⟨h1, h2, fun h0 => by rcases h3 with h3 | h3; omega; exact h3⟩

/-- About, For and how many Facts a mail may have. -/
def aboutS (kd fr tt ab : Int) : Bool := if kd = 2 then inR ab 1 6 else if kd = 3 then inR ab 1 6 && (!decide (ab = fr) && !decide (ab = tt)) else decide (ab = 0)
def tailS (kd fo : Int) (n : Nat) : Bool := (decide (fo = 0) || (decide (kd ≤ 2) && inR fo 1 6)) && (decide (3 < kd) || decide (n ≤ 3))
/-- Is a mail right? -/
def mailR (kd fr tt nu ab fo : Int) (fs : List S69) : Bool := inR kd 1 5 && (inR fr 1 6 && (inR tt 1 6 && (!decide (fr = tt) && (inR nu 0 1000000 && (viewR fs && (aboutS kd fr tt ab && tailS kd fo fs.length))))))

/-- A number that fits. -/
def fits (n : Int) : Prop := -9223372036854775808 ≤ n ∧ n ≤ 9223372036854775807
/-- The facts' bytes behind s. -/
def catF (s : ByteArray) (l : List S69) : ByteArray := l.foldl (fun s f => catN s [f.f0, f.f1, f.f2]) s
def fitsF (l : List S69) : Prop := ∀ f ∈ l, fits f.f0 ∧ fits f.f1 ∧ fits f.f2
theorem catN3_size (s : ByteArray) (f : S69) (h : fits f.f0 ∧ fits f.f1 ∧ fits f.f2) : (catN s [f.f0, f.f1, f.f2]).size ≤ s.size + 30 := by
  have := catN_size [f.f0, f.f1, f.f2] s (by simp [h.1.1, h.1.2, h.2.1.1, h.2.1.2, h.2.2.1, h.2.2.2])
  simpa using this
/-- A mail's bytes ahead of the sum. -/
def mailHead (kd fr tt nu ab fo : Int) (fs : List S69) : ByteArray := catN ⟨#[]⟩ [kd, fr, tt, nu, ab, fo, (fs.length : Int)]
theorem empty_app (s : ByteArray) : (⟨#[]⟩ : ByteArray) ++ s = s := by
  apply ByteArray.ext
  simp

theorem spec_l02Is_eq (a b c : Int) : spec_l02Is.f a b c = some (inR a b c) := by
  by_cases h : b ≤ a <;> simp [spec_l02Is.f, inR, h]

theorem spec_l04Node_eq (a : Int) : spec_l04Node.f a = some (inR a 1 6) := by simp [spec_l04Node.f, spec_l02Is_eq]
theorem spec_l03Time_eq (a : Int) : spec_l03Time.f a = some (inR a 0 1000000) := by simp [spec_l03Time.f, spec_l02Is_eq]
theorem spec_FactRight_eq (a b c : Int) : spec_FactRight.f a b c = some (factR a b c) := by
  simp only [spec_FactRight.f, spec_l04Node_eq, spec_l03Time_eq, spec_l02Is_eq, Option.bind_some, factR]
  cases inR a 1 6 <;> cases inR b 0 1000000 <;> simp

theorem specView_ev (l : List S69) : Ev (fun k => spec_ViewRight.f k l) (viewR l) := by
  by_cases h6 : l.length ≤ 6
  · have hh := allLoop l.length (viewT l) true (fun k i => spec_ViewRight.l0 k l i) (fun k i hi => by
        simp only [spec_ViewRight.l0, spec_FactRight_eq, Option.bind_some]
        rw [if_pos (by omega), if_pos (by omega), wrap_succ hi (by omega), rdF_nat]
        by_cases hf : factR (l.getD i z69).f0 (l.getD i z69).f1 (l.getD i z69).f2 = true
        · rw [if_pos hf]
          by_cases h0 : i = 0
          · rw [if_neg (by omega), if_pos (viewT_iff.2 ⟨hf, .inl h0⟩)]
          · rw [if_pos (by omega), wrap_pred (by omega) hi (by omega), if_pos (by omega), if_pos (by omega), rdF_nat]
            by_cases hlt : (l.getD (i - 1) z69).f0 < (l.getD i z69).f0
            · rw [if_neg (by omega), if_pos (viewT_iff.2 ⟨hf, .inr hlt⟩)]
            · rw [if_pos (by omega), if_neg (fun h => by have := (viewT_iff.1 h).2; omega)]
        · rw [if_neg hf, if_neg (fun h => hf (viewT_iff.1 h).1)]) (fun k => by
        simp only [spec_ViewRight.l0]
        rw [if_neg (by omega)]) l.length 0 (by omega)
    rw [Bool.and_true] at hh
    refine Ev.congr (fun k => ?_) hh
    simp only [spec_ViewRight.f]; rw [if_neg (by omega)]; rfl
  · have : viewR l = false := by
      cases h : viewR l with
      | false => rfl
      | true => exact absurd (viewR_six h) h6
    rw [this]
    refine Ev.congr (f := fun _ => some false) (fun k => ?_) (Ev.now _)
    simp only [spec_ViewRight.f]; rw [if_pos (by omega)]

theorem specMail_tail (kd fo : Int) (n : Nat) : (if fo = 0 then (if kd > 3 then (some true) else (some (decide ((n : Int) ≤ 3)))) else (if kd > 2 then (some false) else ((spec_l04Node.f fo).bind fun t => (if t = true then (if kd > 3 then (some true) else (some (decide ((n : Int) ≤ 3)))) else (some false))))) = some (tailS kd fo n) := by
  have e : decide ((n : Int) ≤ 3) = decide (n ≤ 3) := by rw [decide_eq_decide]; omega
  unfold tailS
  rw [e]
  by_cases h0 : fo = 0
  · rw [if_pos h0, decide_eq_true h0, Bool.true_or, Bool.true_and]
    by_cases h3 : kd > 3
    · rw [if_pos h3, decide_eq_true (show 3 < kd by omega), Bool.true_or]
    · rw [if_neg h3, decide_eq_false (show ¬ 3 < kd by omega), Bool.false_or]
  · rw [if_neg h0, decide_eq_false h0, Bool.false_or]
    by_cases h2 : kd > 2
    · rw [if_pos h2, decide_eq_false (show ¬ kd ≤ 2 by omega), Bool.false_and, Bool.false_and]
    · rw [if_neg h2, decide_eq_true (show kd ≤ 2 by omega), Bool.true_and, spec_l04Node_eq, Option.bind_some, if_neg (show ¬ kd > 3 by omega), decide_eq_false (show ¬ 3 < kd by omega), Bool.false_or]
      cases inR fo 1 6 <;> rfl
theorem specMail_j1 (k : Nat) (b : Bool) (kd fr tt nu ab fo : Int) (fs : List S69) : spec_MailRight.j1 (k + 1) b kd fr tt nu ab fo fs = some (!b && tailS kd fo fs.length) := by
  simp only [spec_MailRight.j1]
  rw [specMail_tail]
  cases b <;> rfl
theorem specMail_j0 (k : Nat) (b : Bool) (kd fr tt nu ab fo : Int) (fs : List S69) : spec_MailRight.j0 (k + 2) b kd fr tt nu ab fo fs = some (!b && (aboutS kd fr tt ab && tailS kd fo fs.length)) := by
  simp only [spec_MailRight.j0, specMail_j1]
  rw [specMail_tail, spec_l04Node_eq]
  simp only [Option.bind_some, ← ite_some]
  cases b with
  | true => rfl
  | false =>
    rw [if_neg (by simp)]
    unfold aboutS
    by_cases h2 : kd = 2
    · rw [if_pos h2, if_pos h2]
      cases inR ab 1 6 <;> rfl
    · rw [if_neg h2, if_neg h2]
      by_cases h3 : kd = 3
      · rw [if_pos h3, if_pos h3]
        cases inR ab 1 6 with
        | false => rfl
        | true =>
          by_cases ha : ab = fr
          · simp [ha]
          · by_cases hb : ab = tt <;> simp [ha, hb]
      · rw [if_neg h3, if_neg h3]
        by_cases ha : ab = 0 <;> simp [ha]
theorem specMail_j0_ev (b : Bool) (kd fr tt nu ab fo : Int) (fs : List S69) : Ev (fun k => spec_MailRight.j0 k b kd fr tt nu ab fo fs) (!b && (aboutS kd fr tt ab && tailS kd fo fs.length)) :=
  ⟨2, fun k hk => by
    obtain ⟨m, rfl⟩ : ∃ m, k = m + 2 := ⟨k - 2, by omega⟩
    exact specMail_j0 m b kd fr tt nu ab fo fs⟩
theorem specMail_ev (kd fr tt nu ab fo : Int) (fs : List S69) : Ev (fun k => spec_MailRight.f k kd fr tt nu ab fo fs) (mailR kd fr tt nu ab fo fs) := by
  have ht := specMail_j0_ev true kd fr tt nu ab fo fs
  rw [Bool.not_true, Bool.false_and] at ht
  have hs := fun b => specMail_j0_ev b kd fr tt nu ab fo fs
  simp only [spec_MailRight.f, spec_l02Is_eq, spec_l04Node_eq, spec_l03Time_eq, Option.bind_some, mailR]
  cases inR kd 1 5 with
  | false => simpa using ht
  | true =>
    cases inR fr 1 6 with
    | false => simpa using ht
    | true =>
      cases inR tt 1 6 with
      | false => simpa using ht
      | true =>
        by_cases hft : fr = tt
        · simp only [if_true, if_pos hft, decide_eq_true hft, Bool.true_and, Bool.not_true, Bool.false_and]
          exact ht
        · simp only [if_true, if_neg hft, decide_eq_false hft, Bool.true_and, Bool.not_false]
          cases inR nu 0 1000000 with
          | false => simpa using ht
          | true =>
            simp only [if_true, Bool.true_and]
            refine Ev.bind (specView_ev fs) ?_
            have := hs (!viewR fs)
            rw [Bool.not_not] at this
            exact this

theorem specCrc_l1 (s : ByteArray) (i : Int) (R : Int) : ∀ (d j : Nat) (r : BitVec 32), j + d = 8 → Ev (fun k => spec_l01Crc.l0 k s ((crcBits d r).toNat : Int) (wrap64 (i + 1))) R → Ev (fun k => spec_l01Crc.l1 k s (r.toNat : Int) i (j : Int)) R
  | 0, j, r, h, H => Ev.step (fun k => by simp only [spec_l01Crc.l1]; rw [if_neg (by omega)]; rfl) H
  | d + 1, j, r, h, H => by
    have hw : wrap64 ((j : Int) + 1) = ((j + 1 : Nat) : Int) := wrap_succ (i := j) (n := 8) (by omega) (by omega)
    refine Ev.step (f := fun k => spec_l01Crc.l1 k s ((crcBit r).toNat : Int) i ((j + 1 : Nat) : Int)) (fun k => ?_) (specCrc_l1 s i R d (j + 1) (crcBit r) (by omega) H)
    simp only [spec_l01Crc.l1]
    rw [if_pos (by omega), hw, half32 r _ _ rfl rfl, polyStep]
    unfold crcBit
    by_cases hb : r &&& 1#32 = 1#32
    · rw [if_pos ((low32 r).2 hb), if_pos hb]
    · rw [if_neg (fun h => hb ((low32 r).1 h)), if_neg hb]
theorem specCrc_l0 (s : ByteArray) (hs : s.size ≤ 140737488355328) : ∀ (d i : Nat) (r : BitVec 32), i + d = s.size → Ev (fun k => spec_l01Crc.l0 k s (r.toNat : Int) (i : Int)) (((~~~ (crcFrom s i d r)).toNat : Nat) : Int)
  | 0, i, r, h => Ev.step (f := fun _ => some (((~~~ r).toNat : Nat) : Int)) (fun k => by
      simp only [spec_l01Crc.l0]; rw [if_neg (by omega), not32, wrap_id (by omega) (by have := (~~~ r).isLt; omega)]) (Ev.now _)
  | d + 1, i, r, h => by
    have hw := wrap_succ (i := i) (n := s.size) (by omega) hs
    have hb := bt_range s (i : Int)
    have ih := specCrc_l0 s hs d (i + 1) (crcByte r (bt s (i : Int))) (by omega)
    refine Ev.step (f := fun k => spec_l01Crc.l1 k s ((r ^^^ BitVec.ofInt 32 (bt s (i : Int))).toNat : Int) (i : Int) ((0 : Nat) : Int)) (fun k => ?_) (specCrc_l1 s i _ 8 0 _ (by omega) (by rw [hw]; exact ih))
    simp only [spec_l01Crc.l0]
    rw [if_pos (by omega), if_pos (by omega), byteStep r _ hb.1 hb.2]
    rfl
theorem specCrc_ev (c : Int) (s : ByteArray) (hs : s.size ≤ 140737488355328) : Ev (fun k => spec_l01Crc.f k c s) (crcS c s) := by
  have h := specCrc_l0 s hs s.size 0 (~~~ (BitVec.ofInt 32 c)) (by omega)
  refine Ev.congr (fun k => ?_) h
  simp only [spec_l01Crc.f]
  rw [mod32, not32]
  rfl

theorem implCrc_l1 (s : ByteArray) (n i : Int) (R : Int) : ∀ (d j : Nat) (r : BitVec 32), j + d = 8 → Ev (fun k => impl_crcMore.l0 k ((crcBits d r).toNat : Int) s n (wrap64 (i + 1))) R → Ev (fun k => impl_crcMore.l1 k (r.toNat : Int) s n i (j : Int)) R
  | 0, j, r, h, H => Ev.step (fun k => by simp only [impl_crcMore.l1]; rw [if_neg (by omega)]; rfl) H
  | d + 1, j, r, h, H => by
    have hw : wrap64 ((j : Int) + 1) = ((j + 1 : Nat) : Int) := wrap_succ (i := j) (n := 8) (by omega) (by omega)
    refine Ev.step (f := fun k => impl_crcMore.l1 k ((crcBit r).toNat : Int) s n i ((j + 1 : Nat) : Int)) (fun k => ?_) (implCrc_l1 s n i R d (j + 1) (crcBit r) (by omega) H)
    simp only [impl_crcMore.l1]
    rw [if_pos (by omega), hw, half32 r _ _ rfl rfl, polyStep]
    unfold crcBit
    by_cases hb : r &&& 1#32 = 1#32
    · rw [if_pos ((low32 r).2 hb), if_pos hb]
    · rw [if_neg (fun h => hb ((low32 r).1 h)), if_neg hb]
theorem implCrc_l0 (s : ByteArray) (hs : s.size ≤ 140737488355328) : ∀ (d i : Nat) (r : BitVec 32), i + d = s.size → Ev (fun k => impl_crcMore.l0 k (r.toNat : Int) s (s.size : Int) (i : Int)) (((crcFrom s i d r).toNat : Nat) : Int)
  | 0, i, r, h => Ev.step (f := fun _ => some ((r.toNat : Nat) : Int)) (fun k => by
      simp only [impl_crcMore.l0]; rw [if_neg (by omega)]) (Ev.now _)
  | d + 1, i, r, h => by
    have hw := wrap_succ (i := i) (n := s.size) (by omega) hs
    have hb := bt_range s (i : Int)
    have ih := implCrc_l0 s hs d (i + 1) (crcByte r (bt s (i : Int))) (by omega)
    refine Ev.step (f := fun k => impl_crcMore.l1 k ((r ^^^ BitVec.ofInt 32 (bt s (i : Int))).toNat : Int) s (s.size : Int) (i : Int) ((0 : Nat) : Int)) (fun k => ?_) (implCrc_l1 s _ i _ 8 0 _ (by omega) (by rw [hw]; exact ih))
    simp only [impl_crcMore.l0]
    rw [if_pos (by omega), if_pos (by omega), if_pos (by omega), byteStep r _ hb.1 hb.2]
    rfl
theorem implCrc_ev (r : BitVec 32) (s : ByteArray) (hs : s.size ≤ 140737488355328) : Ev (fun k => impl_crcMore.f k (r.toNat : Int) s) (((crcFrom s 0 s.size r).toNat : Nat) : Int) :=
  implCrc_l0 s hs s.size 0 r (by omega)

theorem implCrcFn_ev (s : ByteArray) (hs : s.size ≤ 140737488355328) : Ev (fun k => impl_Crc.f k s) (if s.size > 8000 then 0 else crcS 0 s) := by
  by_cases h : s.size > 8000
  · refine Ev.congr (f := fun _ => some 0) (fun k => ?_) (by rw [if_pos h]; exact Ev.now _)
    simp only [impl_Crc.f, impl_longText.f, Option.bind_some]; rw [if_pos (by rw [decide_eq_true_eq]; omega)]
  · rw [if_neg h]
    have := implCrc_ev (~~~ (BitVec.ofInt 32 0)) s hs
    refine Ev.congr (fun k => ?_) (Ev.bind this (f := fun _ t => some (wrap64 (Go.bits .xor .u32 4294967295 t))) ?_)
    · simp only [impl_Crc.f, impl_longText.f, Option.bind_some]; rw [if_neg (by rw [decide_eq_true_eq]; omega)]; rfl
    · rw [not32', wrap_id (by omega) (by have := (~~~ (crcFrom s 0 s.size (~~~ (BitVec.ofInt 32 0)))).isLt; omega)]
      exact Ev.now _

/-- The four bytes of a number. -/
def four (c : Int) : ByteArray := strOfNums [c % 256, c / 256 % 256, c / 65536 % 256, c / 16777216 % 256]
theorem four_size (c : Int) : (four c).size = 4 := by rw [four, strOfNums_size]; rfl
/-- Seal. -/
def sealS (s : ByteArray) : ByteArray := if s.size > 7996 then ⟨#[]⟩ else s ++ four (crcS 0 s)
theorem tail_four (c : Int) : strOfNums (impl_Seal.tail c 4) = four c := by
  have h1 : c / 256 / 256 = c / 65536 := by omega
  have h2 : c / 65536 / 256 = c / 16777216 := by omega
  simp only [impl_Seal.tail, four, h1, h2]
theorem implSeal_ev (s : ByteArray) : Ev (fun k => impl_Seal.f k s) (sealS s) := by
  unfold sealS
  by_cases h : s.size > 7996
  · refine Ev.congr (f := fun _ => some _) (fun k => ?_) (by rw [if_pos h]; exact Ev.now _)
    simp only [impl_Seal.f]; rw [if_pos (by omega)]
  · rw [if_neg h]
    have h1 := implCrcFn_ev s (by omega)
    rw [if_neg (by omega)] at h1
    refine Ev.congr (fun k => by simp only [impl_Seal.f]; rw [if_neg (by omega)]) (Ev.bind h1 ?_)
    rw [tail_four]
    exact Ev.now _

theorem specSeal_ev (s : ByteArray) : Ev (fun k => spec_Seal.f k s) (sealS s) := by
  unfold sealS
  by_cases h : s.size > 7996
  · refine Ev.congr (f := fun _ => some _) (fun k => ?_) (by rw [if_pos h]; exact Ev.now _)
    simp only [spec_Seal.f]; rw [if_pos (by omega)]
  · rw [if_neg h]
    refine Ev.congr (fun k => by simp only [spec_Seal.f]; rw [if_neg (by omega)]) (Ev.bind (specCrc_ev 0 s (by omega)) ?_)
    refine Ev.congr (f := fun _ => some _) (fun k => ?_) (Ev.now _)
    simp only [spec_l01Four.f, Option.bind_some]
    have h4 := four_size (crcS 0 s)
    unfold four at h4 ⊢
    rw [if_pos (by omega)]

theorem specFold_eq (n : Int) (h0 : -9223372036854775808 ≤ n) (h1 : n ≤ 9223372036854775807) : spec_l01Fold.f n = some ((zig n : Nat) : Int) := by
  unfold spec_l01Fold.f zig
  simp only [u64w]
  split
  · rw [wrap_id (x := n + 1) (by omega) (by omega), wrap_id (by omega) (by omega)]
    congr 1; omega
  · congr 1; omega
theorem specPutNum_l0 : ∀ (j u : Nat) (xs : List Int), u < 128 ^ (j + 1) → u < 18446744073709551616 → xs.length + j < 1000 → Ev (fun k => spec_PutNum.l0 k (u : Int) xs) (strOfNums (xs ++ enc7 u))
  | j, u, xs, h, hu, hx => by
    by_cases hs : u < 128
    · refine Ev.step (f := fun _ => some (strOfNums (xs ++ [(u : Int)]))) (fun k => ?_) (by rw [enc7_small hs]; exact Ev.now _)
      simp only [spec_PutNum.l0]
      rw [if_neg (by omega), if_pos (by omega), show (u : Int) % 256 = u by omega]
    · match j, h, hx with
      | 0, h, _ => omega
      | j + 1, h, hx =>
        have e : (u : Int).tdiv 128 = ((u / 128 : Nat) : Int) := by rw [Int.tdiv_eq_ediv_of_nonneg (by omega)]; omega
        have e2 : (u : Int).tmod 128 = ((u % 128 : Nat) : Int) := by rw [Int.tmod_eq_emod_of_nonneg (by omega)]; omega
        refine Ev.step (f := fun k => spec_PutNum.l0 k ((u / 128 : Nat) : Int) (xs ++ [((u % 128 + 128 : Nat) : Int)])) (fun k => ?_) (by
          have := specPutNum_l0 j (u / 128) (xs ++ [((u % 128 + 128 : Nat) : Int)]) (by rw [Nat.pow_succ] at h; omega) (by omega) (by simp; omega)
          rw [enc7_big hs]
          simpa using this)
        simp only [spec_PutNum.l0]
        rw [if_pos (by omega), if_pos (by omega), e, e2, u64w, u64w]
        rw [show ((u / 128 : Nat) : Int) % 18446744073709551616 = ((u / 128 : Nat) : Int) by omega, show (((u % 128 : Nat) : Int) + 128) % 18446744073709551616 % 256 = ((u % 128 + 128 : Nat) : Int) by omega]
theorem specPutNum_ev (n : Int) (h0 : -9223372036854775808 ≤ n) (h1 : n ≤ 9223372036854775807) : Ev (fun k => spec_PutNum.f k n) (numS n) := by
  have hz := zig_lt h0 h1
  have := specPutNum_l0 9 (zig n) [] (by omega) hz (by simp)
  refine Ev.congr (fun k => ?_) this
  simp only [spec_PutNum.f, specFold_eq n h0 h1, Option.bind_some]

theorem specNum_ev {n : Int} (h : fits n) : Ev (fun k => spec_PutNum.f k n) (numS n) := specPutNum_ev n h.1 h.2
theorem num_size {n : Int} (h : fits n) : (numS n).size ≤ 10 := numS_size n h.1 h.2
theorem specBytes_l0 (kd fr tt nu ab fo : Int) (fs : List S69) (h6 : fs.length ≤ 6) (hf : fitsF fs) : ∀ (d i : Nat) (s : ByteArray), i + d = fs.length → s.size ≤ 100 + 30 * i → Ev (fun k => spec_l05Bytes.l0 k s (i : Int) kd fr tt nu ab fo fs) (sealS (catF s (fs.drop i)))
  | 0, i, s, h, hs => by
    refine Ev.step (f := fun k => (spec_Seal.f k s).bind fun t => some t) (fun k => ?_) (Ev.bind (specSeal_ev s) ?_)
    · simp only [spec_l05Bytes.l0]; rw [if_neg (by omega)]
    · rw [List.drop_of_length_le (by omega)]
      exact Ev.now _
  | d + 1, i, s, h, hs => by
    have hi : i < fs.length := by omega
    have hm : fs.getD i z69 ∈ fs := by simp [List.getD, hi]
    obtain ⟨h0, h1, h2⟩ := hf _ hm
    have n0 := num_size h0
    have n1 := num_size h1
    have n2 := num_size h2
    have hc := catN3_size s _ ⟨h0, h1, h2⟩
    have ih := specBytes_l0 kd fr tt nu ab fo fs h6 hf d (i + 1) (catN s [(fs.getD i z69).f0, (fs.getD i z69).f1, (fs.getD i z69).f2]) (by omega) (by omega)
    rw [drop_at fs z69 hi]
    refine Ev.step (fun k => by simp only [spec_l05Bytes.l0]; rw [if_pos (by omega), if_pos (by omega), rdF_nat, wrap_succ hi (by omega)]) ?_
    refine Ev.bind (specNum_ev h0) ?_
    refine evIf (by omega) ?_
    refine Ev.bind (specNum_ev h1) ?_
    refine evIf (by rw [ByteArray.size_append]; omega) ?_
    refine Ev.bind (specNum_ev h2) ?_
    refine evIf (by rw [ByteArray.size_append, ByteArray.size_append]; omega) ?_
    exact ih
theorem specBytes_ev (kd fr tt nu ab fo : Int) (fs : List S69) (h6 : fs.length ≤ 6) (hf : fitsF fs) (g0 : fits kd) (g1 : fits fr) (g2 : fits tt) (g3 : fits nu) (g4 : fits ab) (g5 : fits fo) :
    Ev (fun k => spec_l05Bytes.f k kd fr tt nu ab fo fs) (sealS (catF (mailHead kd fr tt nu ab fo fs) fs)) := by
  have g6 : fits (fs.length : Int) := ⟨by omega, by omega⟩
  have s0 := num_size g0
  have s1 := num_size g1
  have s2 := num_size g2
  have s3 := num_size g3
  have s4 := num_size g4
  have s5 := num_size g5
  have s6 := num_size g6
  have hh : mailHead kd fr tt nu ab fo fs = ((((((numS kd ++ numS fr) ++ numS tt) ++ numS nu) ++ numS ab) ++ numS fo) ++ numS (fs.length : Int)) := by
    show (⟨#[]⟩ : ByteArray) ++ numS kd ++ numS fr ++ numS tt ++ numS nu ++ numS ab ++ numS fo ++ numS (fs.length : Int) = _
    rw [empty_app]
  rw [hh]
  unfold spec_l05Bytes.f
  refine Ev.bind (specNum_ev g0) (Ev.bind (specNum_ev g1) ?_)
  refine evIf (by omega) ?_
  refine Ev.bind (specNum_ev g2) ?_
  refine evIf (by simp only [ByteArray.size_append]; omega) ?_
  refine Ev.bind (specNum_ev g3) ?_
  refine evIf (by simp only [ByteArray.size_append]; omega) ?_
  refine Ev.bind (specNum_ev g4) ?_
  refine evIf (by simp only [ByteArray.size_append]; omega) ?_
  refine Ev.bind (specNum_ev g5) ?_
  refine evIf (by simp only [ByteArray.size_append]; omega) ?_
  refine Ev.bind (specNum_ev g6) ?_
  refine evIf (by simp only [ByteArray.size_append]; omega) ?_
  have := specBytes_l0 kd fr tt nu ab fo fs h6 hf fs.length 0 ((((((numS kd ++ numS fr) ++ numS tt) ++ numS nu) ++ numS ab) ++ numS fo) ++ numS (fs.length : Int)) (by omega) (by simp only [ByteArray.size_append]; omega)
  simpa using this
/-- MailBytes. -/
def mailBytesS (kd fr tt nu ab fo : Int) (fs : List S69) : ByteArray := if mailR kd fr tt nu ab fo fs = true then sealS (catF (mailHead kd fr tt nu ab fo fs) fs) else ⟨#[]⟩
theorem mailR_six {kd fr tt nu ab fo : Int} {fs : List S69} (h : mailR kd fr tt nu ab fo fs = true) : fs.length ≤ 6 := by
  unfold mailR at h
  simp only [Bool.and_eq_true] at h
  exact viewR_six h.2.2.2.2.2.1
theorem specMailBytes_ev (kd fr tt nu ab fo : Int) (fs : List S69) (hf : fitsF fs) (g0 : fits kd) (g1 : fits fr) (g2 : fits tt) (g3 : fits nu) (g4 : fits ab) (g5 : fits fo) :
    Ev (fun k => spec_MailBytes.f k kd fr tt nu ab fo fs) (mailBytesS kd fr tt nu ab fo fs) := by
  unfold mailBytesS
  refine Ev.bind (specMail_ev kd fr tt nu ab fo fs) ?_
  by_cases h : mailR kd fr tt nu ab fo fs = true
  · simp only [if_pos h]
    exact Ev.bind (specBytes_ev kd fr tt nu ab fo fs (mailR_six h) hf g0 g1 g2 g3 g4 g5) (Ev.now _)
  · simp only [if_neg h]
    exact Ev.now _

theorem impl_within_eq (a b c : Int) : impl_within.f a b c = some (inR a b c) := by
  by_cases h : b ≤ a <;> simp [impl_within.f, inR, h]

theorem impl_isNode_eq (a : Int) : impl_isNode.f a = some (inR a 1 6) := by simp [impl_isNode.f, impl_within_eq]
theorem impl_isTime_eq (a : Int) : impl_isTime.f a = some (inR a 0 1000000) := by simp [impl_isTime.f, impl_within_eq]
theorem impl_FactRight_eq (a b c : Int) : impl_FactRight.f a b c = some (factR a b c) := by
  simp only [impl_FactRight.f, impl_isNode_eq, impl_isTime_eq, impl_within_eq, Option.bind_some, factR]
  cases inR a 1 6 <;> cases inR b 0 1000000 <;> simp

theorem implView_ev (l : List S69) (hl : l.length ≤ 140737488355328) : Ev (fun k => impl_ViewRight.f k l) (viewR l) := by
  have hh := allLoop l.length (viewT l) true (fun k i => impl_ViewRight.l0 k l l (l.length : Int) i) (fun k i hi => by
        simp only [impl_ViewRight.l0, impl_FactRight_eq, Option.bind_some]
        rw [if_pos (by omega), if_pos (by omega), if_pos (by omega), wrap_succ hi hl, rdF_nat]
        by_cases hf : factR (l.getD i z69).f0 (l.getD i z69).f1 (l.getD i z69).f2 = true
        · rw [if_pos hf]
          by_cases h0 : i = 0
          · rw [if_neg (by omega), if_pos (viewT_iff.2 ⟨hf, .inl h0⟩)]
          · rw [if_pos (by omega), wrap_pred (by omega) hi hl, if_pos (by omega), if_pos (by omega), rdF_nat]
            by_cases hlt : (l.getD (i - 1) z69).f0 < (l.getD i z69).f0
            · rw [if_neg (by omega), if_pos (viewT_iff.2 ⟨hf, .inr hlt⟩)]
            · rw [if_pos (by omega), if_neg (fun h => by have := (viewT_iff.1 h).2; omega)]
        · rw [if_neg hf, if_neg (fun h => hf (viewT_iff.1 h).1)]) (fun k => by
        simp only [impl_ViewRight.l0]
        rw [if_neg (by omega)]) l.length 0 (by omega)
  rw [Bool.and_true] at hh
  exact hh

theorem implMail_j1_ev (x3 x4 x5 : Bool) (kd fr tt nu ab fo : Int) (fs : List S69) (hl : fs.length ≤ 140737488355328) : Ev (fun k => impl_MailRight.j1 k x3 x4 x5 kd fr tt nu ab fo fs) (inR fr 1 6 && (inR tt 1 6 && (!decide (fr = tt) && (inR nu 0 1000000 && (x3 && (x4 && ((decide (fo = 0) || x5) && viewR fs))))))) := by
  have hv : Ev (fun k => (impl_ViewRight.f k fs).bind fun t => some t) (viewR fs) := Ev.bind (implView_ev fs hl) (Ev.now _)
  refine Ev.step (fun k => by simp only [impl_MailRight.j1, impl_isNode_eq, impl_isTime_eq, Option.bind_some]; rfl) ?_
  cases inR fr 1 6 with
  | false => simpa using Ev.now false
  | true =>
    cases inR tt 1 6 with
    | false => simpa using Ev.now false
    | true =>
      by_cases hft : fr = tt
      · simp only [if_true, if_pos hft, decide_eq_true hft, Bool.true_and, Bool.not_true, Bool.false_and]
        exact Ev.now _
      · simp only [if_true, if_neg hft, decide_eq_false hft, Bool.true_and, Bool.not_false]
        cases inR nu 0 1000000 with
        | false => simpa using Ev.now false
        | true =>
          cases x3 with
          | false => simpa using Ev.now false
          | true =>
            cases x4 with
            | false => simpa using Ev.now false
            | true =>
              simp only [if_true, Bool.true_and]
              by_cases h0 : fo = 0
              · simp only [if_pos h0, decide_eq_true h0, Bool.true_or, Bool.true_and]
                exact hv
              · simp only [if_neg h0, decide_eq_false h0, Bool.false_or]
                cases x5 with
                | false => simpa using Ev.now false
                | true =>
                  simp only [if_true, Bool.true_and]
                  exact hv
theorem implMail_j0_ev (x3 x4 : Bool) (kd fr tt nu ab fo : Int) (fs : List S69) (hl : fs.length ≤ 140737488355328) : Ev (fun k => impl_MailRight.j0 k x3 x4 kd fr tt nu ab fo fs) (inR fr 1 6 && (inR tt 1 6 && (!decide (fr = tt) && (inR nu 0 1000000 && (x3 && (x4 && ((decide (fo = 0) || ((decide (kd = 1) || decide (kd = 2)) && inR fo 1 6)) && viewR fs))))))) := by
  refine Ev.step (fun k => by simp only [impl_MailRight.j0, impl_isNode_eq, Option.bind_some]; rfl) ?_
  have h := fun x5 => implMail_j1_ev x3 x4 x5 kd fr tt nu ab fo fs hl
  by_cases h1 : kd = 1
  · simp only [if_pos h1]
    exact Ev.ofBool (h _) (by rw [decide_eq_true h1, Bool.true_or, Bool.true_and])
  · by_cases h2 : kd = 2
    · simp only [if_neg h1, if_pos h2]
      exact Ev.ofBool (h _) (by rw [decide_eq_true h2, Bool.or_true, Bool.true_and])
    · simp only [if_neg h1, if_neg h2]
      exact Ev.ofBool (h _) (by simp [h1, h2])
theorem implMail_ev (kd fr tt nu ab fo : Int) (fs : List S69) (hl : fs.length ≤ 140737488355328) : Ev (fun k => impl_MailRight.f k kd fr tt nu ab fo fs) (mailR kd fr tt nu ab fo fs) := by
  have h := fun x3 x4 => implMail_j0_ev x3 x4 kd fr tt nu ab fo fs hl
  have e : decide ((fs.length : Int) ≤ 3) = decide (fs.length ≤ 3) := by rw [decide_eq_decide]; omega
  simp only [impl_MailRight.f, impl_isNode_eq, Option.bind_some, e]
  unfold mailR aboutS tailS
  by_cases h1 : kd = 1
  · subst h1
    simp only [if_true]
    refine Ev.ofBool (h _ _) ?_
    rw [show inR 1 1 5 = true from rfl, Bool.true_and]
    simp only [show ¬ (1 : Int) = 2 by omega, show ¬ (1 : Int) = 3 by omega, if_false, show (1 : Int) ≤ 2 by omega, show ¬ (3 : Int) < 1 by omega, decide_true, decide_false, Bool.true_or, Bool.false_or, Bool.true_and]
    cases inR fr 1 6 <;> cases inR tt 1 6 <;> cases inR nu 0 1000000 <;> cases viewR fs <;> cases decide (fs.length ≤ 3) <;> by_cases hab : ab = 0 <;> simp [hab]
  by_cases h2 : kd = 2
  · subst h2
    simp only [show ¬ (2 : Int) = 1 by omega, if_false, if_true]
    refine Ev.ofBool (h _ _) ?_
    rw [show inR 2 1 5 = true from rfl, Bool.true_and]
    simp only [show ¬ (3 : Int) < 2 by omega, show (2 : Int) ≤ 2 by omega, decide_true, decide_false, Bool.or_true, Bool.false_or, Bool.true_and]
    cases inR fr 1 6 <;> cases inR tt 1 6 <;> cases inR nu 0 1000000 <;> cases viewR fs <;> cases decide (fs.length ≤ 3) <;> cases inR ab 1 6 <;> simp
  by_cases h3 : kd = 3
  · subst h3
    simp only [show ¬ (3 : Int) = 1 by omega, show ¬ (3 : Int) = 2 by omega, if_false, if_true]
    rw [show inR 3 1 5 = true from rfl, Bool.true_and]
    simp only [show ¬ (3 : Int) < 3 by omega, show ¬ (3 : Int) ≤ 2 by omega, decide_false, Bool.false_or, Bool.false_and, Bool.or_false]
    cases inR ab 1 6 with
    | false =>
      simp only [Bool.false_eq_true, if_false]
      exact Ev.ofBool (h _ _) (by simp)
    | true =>
      simp only [if_true]
      by_cases ha : ab = fr
      · simp only [if_pos ha]
        exact Ev.ofBool (h _ _) (by simp [ha])
      · simp only [if_neg ha]
        refine Ev.ofBool (h _ _) ?_
        rw [show (ab != tt) = !decide (ab = tt) from rfl]
        cases inR fr 1 6 <;> cases inR tt 1 6 <;> cases inR nu 0 1000000 <;> cases viewR fs <;> cases decide (fs.length ≤ 3) <;> by_cases hb : ab = tt <;> simp [ha, hb]
  by_cases h4 : kd = 4
  · subst h4
    simp only [show ¬ (4 : Int) = 1 by omega, show ¬ (4 : Int) = 2 by omega, show ¬ (4 : Int) = 3 by omega, if_false, if_true]
    refine Ev.ofBool (h _ _) ?_
    rw [show inR 4 1 5 = true from rfl, Bool.true_and]
    cases inR fr 1 6 <;> cases inR tt 1 6 <;> cases inR nu 0 1000000 <;> cases viewR fs <;> by_cases hab : ab = 0 <;> simp [hab]
  by_cases h5 : kd = 5
  · subst h5
    simp only [show ¬ (5 : Int) = 1 by omega, show ¬ (5 : Int) = 2 by omega, show ¬ (5 : Int) = 3 by omega, show ¬ (5 : Int) = 4 by omega, if_false, if_true]
    refine Ev.ofBool (h _ _) ?_
    rw [show inR 5 1 5 = true from rfl, Bool.true_and]
    cases inR fr 1 6 <;> cases inR tt 1 6 <;> cases inR nu 0 1000000 <;> cases viewR fs <;> by_cases hab : ab = 0 <;> simp [hab]
  simp only [if_neg h1, if_neg h2, if_neg h3, if_neg h4, if_neg h5]
  have : inR kd 1 5 = false := by
    rw [← Bool.not_eq_true, inR_iff]
    omega
  rw [this, Bool.false_and]
  exact Ev.now _

theorem implPutNum_l0 : ∀ (j u : Nat) (xs : List Int), u < 128 ^ (j + 1) → u < 18446744073709551616 → xs.length + j < 1000 → Ev (fun k => impl_PutNum.l0 k (u : Int) xs) (strOfNums (xs ++ enc7 u))
  | j, u, xs, h, hu, hx => by
    by_cases hs : u < 128
    · refine Ev.step (f := fun _ => some (strOfNums (xs ++ [(u : Int)]))) (fun k => ?_) (by rw [enc7_small hs]; exact Ev.now _)
      simp only [impl_PutNum.l0]
      rw [if_neg (by omega), if_pos (by omega), show (u : Int) % 256 = u by omega]
    · match j, h, hx with
      | 0, h, _ => omega
      | j + 1, h, hx =>
        have e := or128 ((u : Int) % 256) (by omega) (by omega)
        refine Ev.step (f := fun k => impl_PutNum.l0 k ((u / 128 : Nat) : Int) (xs ++ [((u % 128 + 128 : Nat) : Int)])) (fun k => ?_) (by
          have := implPutNum_l0 j (u / 128) (xs ++ [((u % 128 + 128 : Nat) : Int)]) (by rw [Nat.pow_succ] at h; omega) (by omega) (by simp; omega)
          rw [enc7_big hs]
          simpa using this)
        simp only [impl_PutNum.l0]
        rw [if_pos (by omega), if_pos (by omega), e]
        rw [show (u : Int) / 128 = ((u / 128 : Nat) : Int) by omega, show (u : Int) % 256 % 128 + 128 = ((u % 128 + 128 : Nat) : Int) by omega]
theorem implPutNum_ev (n : Int) (h0 : -9223372036854775808 ≤ n) (h1 : n ≤ 9223372036854775807) : Ev (fun k => impl_PutNum.f k n) (numS n) := by
  have hz := zig_lt h0 h1
  have := implPutNum_l0 9 (zig n) [] (by omega) hz (by simp)
  by_cases hn : n < 0
  · refine Ev.congr (f := fun k => impl_PutNum.j0 k ((zig n : Nat) : Int)) (fun k => ?_) (Ev.step (fun k => rfl) this)
    simp only [impl_PutNum.f]
    rw [if_pos hn, u64w, u64w]
    have e : n % 18446744073709551616 * 2 % 18446744073709551616 = (((2 * n + 18446744073709551616).toNat : Nat) : Int) := by omega
    rw [e, not64 _ (by omega)]
    congr 1
    unfold zig
    rw [if_pos hn]
    omega
  · refine Ev.congr (f := fun k => impl_PutNum.j0 k ((zig n : Nat) : Int)) (fun k => ?_) (Ev.step (fun k => rfl) this)
    simp only [impl_PutNum.f]
    rw [if_neg hn, u64w, u64w]
    congr 1
    unfold zig
    rw [if_neg hn]
    omega

theorem implNumbers_l0 (l : List Int) (hl : l.length ≤ 100) (hf : ∀ n ∈ l, fits n) : ∀ (d i : Nat) (s : ByteArray), i + d = l.length → s.size ≤ 10 * i → Ev (fun k => impl_numbers.l0 k s l (l.length : Int) (i : Int)) (catN s (l.drop i))
  | 0, i, s, h, hs => by
    refine Ev.step (f := fun k => some s) (fun k => ?_) ?_
    · simp only [impl_numbers.l0]; rw [if_neg (by omega)]
    · rw [List.drop_of_length_le (by omega)]
      exact Ev.now _
  | d + 1, i, s, h, hs => by
    have hi : i < l.length := by omega
    have hm : l.getD i 0 ∈ l := by simp [List.getD, hi]
    have h0 := hf _ hm
    have n0 := num_size h0
    rw [drop_at l 0 hi]
    refine Ev.step (fun k => by simp only [impl_numbers.l0]; rw [if_pos (by omega), if_pos (by omega), if_pos (by omega), rd_nat, wrap_succ hi (by omega)]) ?_
    refine Ev.bind (implPutNum_ev _ h0.1 h0.2) ?_
    refine evIf (by omega) ?_
    exact implNumbers_l0 l hl hf d (i + 1) (s ++ numS (l.getD i 0)) (by omega) (by rw [ByteArray.size_append]; omega)
theorem implNumbers_ev (l : List Int) (hl : l.length ≤ 100) (hf : ∀ n ∈ l, fits n) : Ev (fun k => impl_numbers.f k l) (catN ⟨#[]⟩ l) := by
  have := implNumbers_l0 l hl hf l.length 0 ⟨#[]⟩ (by omega) (by show (0 : Nat) ≤ _; omega)
  rw [List.drop_zero] at this
  exact this
theorem implBytes_l0 (fs : List S69) (h6 : fs.length ≤ 6) (hf : fitsF fs) : ∀ (d i : Nat) (s : ByteArray), i + d = fs.length → s.size ≤ 100 + 30 * i → Ev (fun k => impl_MailBytes.l0 k s fs (fs.length : Int) (i : Int)) (sealS (catF s (fs.drop i)))
  | 0, i, s, h, hs => by
    refine Ev.step (f := fun k => (impl_Seal.f k s).bind fun t => some t) (fun k => ?_) (Ev.bind (implSeal_ev s) ?_)
    · simp only [impl_MailBytes.l0]; rw [if_neg (by omega)]
    · rw [List.drop_of_length_le (by omega)]
      exact Ev.now _
  | d + 1, i, s, h, hs => by
    have hi : i < fs.length := by omega
    have hm : fs.getD i z69 ∈ fs := by simp [List.getD, hi]
    obtain ⟨h0, h1, h2⟩ := hf _ hm
    have hc := catN3_size s _ ⟨h0, h1, h2⟩
    have he : s ++ catN ⟨#[]⟩ [(fs.getD i z69).f0, (fs.getD i z69).f1, (fs.getD i z69).f2] = catN s [(fs.getD i z69).f0, (fs.getD i z69).f1, (fs.getD i z69).f2] := by
      rw [← catN_append]
      congr 1
      apply ByteArray.ext
      simp
    have ih := implBytes_l0 fs h6 hf d (i + 1) (catN s [(fs.getD i z69).f0, (fs.getD i z69).f1, (fs.getD i z69).f2]) (by omega) (by omega)
    rw [drop_at fs z69 hi]
    refine Ev.step (fun k => by simp only [impl_MailBytes.l0]; rw [if_pos (by omega), if_pos (by omega), if_pos (by omega), rdF_nat, wrap_succ hi (by omega)]) ?_
    refine Ev.bind (implNumbers_ev _ (by simp) (by
      intro n hn
      simp only [List.mem_cons, List.not_mem_nil, or_false] at hn
      rcases hn with rfl | rfl | rfl <;> assumption)) ?_
    have hz := congrArg ByteArray.size he
    rw [ByteArray.size_append] at hz
    refine evIf (by omega) ?_
    rw [he]
    exact ih
theorem implMailBytes_ev (kd fr tt nu ab fo : Int) (fs : List S69) (hl : fs.length ≤ 140737488355328) (hf : fitsF fs) (g0 : fits kd) (g1 : fits fr) (g2 : fits tt) (g3 : fits nu) (g4 : fits ab) (g5 : fits fo) :
    Ev (fun k => impl_MailBytes.f k kd fr tt nu ab fo fs) (mailBytesS kd fr tt nu ab fo fs) := by
  unfold mailBytesS
  refine Ev.bind (implMail_ev kd fr tt nu ab fo fs hl) ?_
  by_cases h : mailR kd fr tt nu ab fo fs = true
  · simp only [if_pos h]
    have h6 := mailR_six h
    have g6 : fits (fs.length : Int) := ⟨by omega, by omega⟩
    have hs := catN_size [kd, fr, tt, nu, ab, fo, (fs.length : Int)] ⟨#[]⟩ (by
      intro n hn
      simp only [List.mem_cons, List.not_mem_nil, or_false] at hn
      rcases hn with rfl | rfl | rfl | rfl | rfl | rfl | rfl <;> assumption)
    refine Ev.bind (implNumbers_ev _ (by simp) (by
      intro n hn
      simp only [List.mem_cons, List.not_mem_nil, or_false] at hn
      rcases hn with rfl | rfl | rfl | rfl | rfl | rfl | rfl <;> assumption)) ?_
    have := implBytes_l0 fs h6 hf fs.length 0 (mailHead kd fr tt nu ab fo fs) (by omega) (by
      have h0 : (⟨#[]⟩ : ByteArray).size = 0 := rfl
      rw [h0] at hs
      exact Nat.le_trans hs (by simp only [List.length_cons, List.length_nil]; omega))
    rw [List.drop_zero] at this
    exact this
  · simp only [if_neg h]
    exact Ev.now _

theorem FnExactMailBytes : laws_FnExactMailBytes.Goal := by
  intro kd fr tt nu ab fo l g0 g1 g2 g3 g4 g5 hm hw
  have hf : fitsF (l.map toF) := by
    intro f hf
    obtain ⟨y, hy, rfl⟩ := List.mem_map.1 hf
    have := hw y hy
    exact ⟨i64wf this.1, i64wf this.2.1, i64wf this.2.2⟩
  by_cases hb : 1048576 < l.length
  · refine Ev.rounds (Ev.congr (f := fun _ => some true) (fun k => ?_) (Ev.now _))
    simp only [laws_FnExactMailBytes.f, szMail_eq kd fr tt nu ab fo l (by omega), Option.bind_some]
    rw [if_pos hb, if_pos (by omega)]
  · have hl : l.length ≤ 1048576 := by omega
    refine Ev.rounds (Ev.congr (fun k => by simp only [laws_FnExactMailBytes.f, szMail_eq kd fr tt nu ab fo l (by omega), Option.bind_some]; rw [if_neg hb, if_neg (by omega)]) ?_)
    refine Ev.bind (toMail_ev kd fr tt nu ab fo l hl) (Ev.bind (specMailBytes_ev kd fr tt nu ab fo _ hf (i64wf g0) (i64wf g1) (i64wf g2) (i64wf g3) (i64wf g4) (i64wf g5)) (Ev.bind (toMail_ev kd fr tt nu ab fo l hl) (Ev.bind (implMailBytes_ev kd fr tt nu ab fo _ (by simp; omega) hf (i64wf g0) (i64wf g1) (i64wf g2) (i64wf g3) (i64wf g4) (i64wf g5)) ?_)))
    simp only [if_true]
    refine Ev.bind (toMail_ev kd fr tt nu ab fo l hl) (Ev.bind (eqMail_refl kd fr tt nu ab fo _ (by simp; omega)) ?_)
    simpa using Ev.now _

end Go.Proofs.Ytniihggolaohbaa.Pure
