/- The plain law of FnExactGetText: what the Lean functions of the printed texts answer. -/
import Derived.Test.YtfemkhfjngepmaaGFnExactGetText
import Derived.Test.YtfemkhfjngepmaaHSem
namespace Go.Proofs.Ytfemkhfjngepmaa.Pure
open Go.RowKit Go.Proofs.Ytfemkhfjngepmaa.PFnExactGetText Go.Proofs.YtfemkhfjngepmaaW.PrintWords Go.Proofs.YtfemkhfjngepmaaW.PrintLast Go.Proofs.YtfemkhfjngepmaaW.PrintMore Go.Proofs.YtfemkhfjngepmaaH
set_option linter.unusedVariables false
set_option linter.unusedSimpArgs false

theorem specGetNum_l0 (s : ByteArray) (hs : s.size ≤ 8000) (a : Nat) (ha : a ≤ 9223372036854775807) : ∀ d i u : Nat, i + d = 10 → (i ≤ 9 → u < 2 ^ (7 * i)) → Ev (fun k => spec_GetNum.l0 k s (a : Int) (u : Int) (i : Int)) (getFrom s a d i u)
  | 0, i, u, h, hu => Ev.step (f := fun _ => some (0, 0, 3)) (fun k => by simp only [spec_GetNum.l0]; rw [if_neg (by omega)]) (Ev.now _)
  | d + 1, i, u, h, hu => by
    replace hu := hu (by omega)
    obtain ⟨p, hp⟩ : ∃ p, p = 2 ^ (7 * i) := ⟨_, rfl⟩
    unfold getFrom
    rw [← hp]
    rw [← hp] at hu
    have HP := Aside0.mk hp
    have HU := Aside0.mk hu
    clear hp hu
    by_cases he : s.size ≤ a + i
    · rw [if_pos he]
      refine Ev.step (f := fun _ => some (0, 0, 4)) (fun k => ?_) (Ev.now _)
      simp only [spec_GetNum.l0]
      rw [if_pos (by omega), wrap_id (by omega) (by omega), if_pos (by omega)]
    rw [if_neg he]
    have hb := bt_range s ((a + i : Nat) : Int)
    obtain ⟨b, hbb⟩ : ∃ b : Nat, bt s ((a + i : Nat) : Int) = (b : Int) := ⟨(bt s ((a + i : Nat) : Int)).toNat, by omega⟩
    have hbt : (bt s ((a + i : Nat) : Int)).toNat = b := by omega
    have hw1 : wrap64 ((a : Int) + (i : Int)) = ((a + i : Nat) : Int) := by rw [wrap_id (by omega) (by omega)]; omega
    replace hw1 := Aside0.mk hw1
    have hw7 : wrap64 (7 * (i : Int)) = ((7 * i : Nat) : Int) := by rw [wrap_id (by omega) (by omega)]; omega
    replace hw7 := Aside0.mk hw7
    have hwi : wrap64 ((i : Int) + 1) = ((i + 1 : Nat) : Int) := by rw [wrap_id (by omega) (by omega)]; omega
    replace hwi := Aside0.mk hwi
    have hwn : wrap64 (((a + i : Nat) : Int) + 1) = ((a + i + 1 : Nat) : Int) := by rw [wrap_id (by omega) (by omega)]; omega
    replace hwn := Aside0.mk hwn
    rw [hbt]
    have step1 : ∀ k, spec_GetNum.l0 (k + 1) s (a : Int) (u : Int) (i : Int) = spec_GetNum.j1 k s (a : Int) (u : Int) (i : Int) (b : Int) (decide (i = 9 ∧ 1 < b)) := by
      intro k
      simp only [spec_GetNum.l0]
      rw [if_pos (by omega), wrap_id (x := (s.size : Int) - (i : Int)) (by omega) (by omega), if_neg (by omega), hw1.out, if_pos (by omega), if_pos (by omega), hbb, u64w, show (b : Int) % 18446744073709551616 = b by omega]
      by_cases h9 : i = 9
      · rw [if_pos (by omega)]
        congr 1
        rw [decide_eq_decide]
        omega
      · rw [if_neg (by omega)]
        congr 1
        symm
        rw [decide_eq_false_iff_not]
        omega
    refine Ev.step step1 ?_
    by_cases h9 : i = 9 ∧ 1 < b
    · rw [if_pos (.inl h9)]
      refine Ev.step (f := fun _ => some (0, 0, 3)) (fun k => ?_) (Ev.now _)
      simp only [spec_GetNum.j1]
      rw [if_pos (decide_eq_true h9)]
    have hm : (b : Int).tmod 128 = ((b % 128 : Nat) : Int) := by rw [Int.tmod_eq_emod_of_nonneg (by omega)]; omega
    have hb9 : i = 9 → b ≤ 1 := fun h => by omega
    have hfit : u + (b % 128) * p < 18446744073709551616 := fits7 HP.out HU.out (by omega) hb9
    have hsh := shl64 (b % 128) (7 * i) p HP.out (by omega) (by omega)
    replace hsh := Aside0.mk hsh
    have hsum : IntKind.u64.wrap ((u : Int) + shl .u64 ((b : Int).tmod 128) (IntKind.u64.wrap (wrap64 (7 * (i : Int))))) = ((u + (b % 128) * p : Nat) : Int) := by
      rw [hw7.out, u64w ((7 * i : Nat) : Int), show ((7 * i : Nat) : Int) % 18446744073709551616 = ((7 * i : Nat) : Int) by omega, hm, hsh.out, u64w]
      omega
    replace hsum := Aside0.mk hsum
    have hnn : 0 ≤ IntKind.u64.wrap (wrap64 (7 * (i : Int))) := by rw [hw7.out, u64w]; omega
    replace hnn := Aside0.mk hnn
    by_cases hlt : b < 128
    · have hbm : b % 128 = b := by omega
      replace hsum := hsum.out
      rw [hbm] at hsum hfit
      replace hsum := Aside0.mk hsum
      by_cases h0 : 0 < i ∧ b = 0
      · rw [if_pos (.inr h0)]
        refine Ev.step (f := fun k => spec_GetNum.j2 k (a : Int) ((u + b * p : Nat) : Int) (i : Int) true) (fun k => ?_) (Ev.step (f := fun _ => some (0, 0, 3)) (fun k => ?_) (Ev.now _))
        · simp only [spec_GetNum.j1]
          rw [if_neg (by simp [h9]), if_pos hnn.out, if_pos (by omega), if_pos (by omega), hsum.out, decide_eq_true (by omega)]
        · simp only [spec_GetNum.j2]; rw [if_pos trivial]
      · rw [if_neg (by omega), if_pos hlt]
        refine Ev.step (f := fun k => spec_GetNum.j2 k (a : Int) ((u + b * p : Nat) : Int) (i : Int) false) (fun k => ?_) (Ev.step (f := fun _ => some (unzig (u + b * p), ((a + i + 1 : Nat) : Int), 0)) (fun k => ?_) (Ev.now _))
        · simp only [spec_GetNum.j1]
          rw [if_neg (by simp [h9]), if_pos hnn.out, if_pos (by omega), hsum.out]
          split
          · rw [decide_eq_false (by omega)]
          · rfl
        · simp only [spec_GetNum.j2]
          rw [if_neg (by simp), hw1.out, hwn.out]
          obtain ⟨v, hv⟩ : ∃ v, v = u + b * p := ⟨_, rfl⟩
          rw [← hv] at hfit ⊢
          have e1 : (v : Int).tmod 2 = ((v % 2 : Nat) : Int) := by rw [Int.tmod_eq_emod_of_nonneg (by omega)]; omega
          have e2 : (v : Int).tdiv 2 = ((v / 2 : Nat) : Int) := by rw [Int.tdiv_eq_ediv_of_nonneg (by omega)]; omega
          rw [e1, e2, u64w, show ((v / 2 : Nat) : Int) % 18446744073709551616 = ((v / 2 : Nat) : Int) by omega, wrap_id (x := ((v / 2 : Nat) : Int)) (by omega) (by omega), wrap_id (x := -((v / 2 : Nat) : Int)) (by omega) (by omega), wrap_id (x := -((v / 2 : Nat) : Int) - 1) (by omega) (by omega)]
          unfold unzig
          split <;> split <;> first | rfl | omega
    · rw [if_neg (by omega), if_neg hlt]
      have hi8 : i ≤ 8 := by
        rcases Nat.lt_or_ge i 9 with h | h
        · omega
        · exact absurd (hb9 (by omega)) (by omega)
      refine Ev.step (f := fun k => spec_GetNum.l0 k s (a : Int) ((u + (b % 128) * p : Nat) : Int) ((i + 1 : Nat) : Int)) (fun k => ?_) (specGetNum_l0 s hs a ha d (i + 1) _ (by omega) (fun _ => next7 HP.out HU.out))
      simp only [spec_GetNum.j1]
      rw [if_neg (by simp [h9]), if_pos hnn.out, if_neg (by omega), hsum.out, hwi.out]
theorem specGetNum_ev (s : ByteArray) (a : Int) (ha : a ≤ 9223372036854775807) : Ev (fun k => spec_GetNum.f k s a) (getS s a) := by
  unfold getS
  by_cases h1 : s.size > 8000
  · rw [if_pos h1]
    refine Ev.congr (f := fun _ => some (0, 0, 2)) (fun k => ?_) (Ev.now _)
    simp only [spec_GetNum.f]; rw [if_pos (by omega)]
  · rw [if_neg h1]
    by_cases h2 : a < 0
    · rw [if_pos h2]
      refine Ev.congr (f := fun _ => some (0, 0, 1)) (fun k => ?_) (Ev.now _)
      simp only [spec_GetNum.f]; rw [if_neg (by omega), if_pos h2]
    · rw [if_neg h2]
      have := specGetNum_l0 s (by omega) a.toNat (by omega) 10 0 0 (by omega) (by simp)
      refine Ev.congr (fun k => ?_) this
      simp only [spec_GetNum.f]; rw [if_neg (by omega), if_neg h2, Int.toNat_of_nonneg (by omega)]; rfl

/-- What is told with code 0 lies in the text. -/
theorem getFrom_at (s : ByteArray) (a : Nat) : ∀ d i u : Nat, (getFrom s a d i u).2.2 = 0 → 0 ≤ (getFrom s a d i u).2.1 ∧ (getFrom s a d i u).2.1 ≤ s.size
  | 0, i, u => by simp [getFrom]
  | d + 1, i, u => by
    unfold getFrom
    split
    · simp
    · split
      · simp
      · split
        · intro _; simp only; omega
        · exact getFrom_at s a d (i + 1) _
theorem getS_at (s : ByteArray) (a : Int) (h : (getS s a).2.2 = 0) : s.size ≤ 8000 ∧ 0 ≤ (getS s a).2.1 ∧ (getS s a).2.1 ≤ s.size := by
  unfold getS at h ⊢
  by_cases h1 : s.size > 8000
  · rw [if_pos h1] at h; simp at h
  · rw [if_neg h1] at h ⊢
    by_cases h2 : a < 0
    · rw [if_pos h2] at h; simp at h
    · rw [if_neg h2] at h ⊢
      exact ⟨by omega, getFrom_at s a.toNat 10 0 0 h⟩
/-- GetText. -/
def textAt (s : ByteArray) (a : Int) : ByteArray × Int × Int :=
  if (getS s a).2.2 = 0 then
    if inR (getS s a).1 0 8000 = true then
      if (getS s a).2.1 + (getS s a).1 ≤ s.size then (s.extract (getS s a).2.1.toNat ((getS s a).2.1 + (getS s a).1).toNat, (getS s a).2.1 + (getS s a).1, 0) else (⟨#[]⟩, 0, 4)
    else (⟨#[]⟩, 0, 3)
  else (⟨#[]⟩, 0, (getS s a).2.2)

theorem specGetText_ev (s : ByteArray) (a : Int) (ha : a ≤ 9223372036854775807) : Ev (fun k => spec_GetText.f k s a) (textAt s a) := by
  refine Ev.congr (fun k => rfl) (Ev.bind (specGetNum_ev s a ha) ?_)
  have hat := getS_at s a
  unfold textAt
  obtain ⟨n, p, c, hg⟩ : ∃ n p c, getS s a = (n, p, c) := ⟨_, _, _, rfl⟩
  rw [hg] at hat ⊢
  simp only at hat ⊢
  by_cases hc : c = 0
  · obtain ⟨h0, h1, h2⟩ := hat hc
    simp only [if_pos hc]
    have tail : n < 0 ∨ 8000 < n ∨ (0 ≤ n ∧ n ≤ 8000) := by omega
    rcases tail with hn | hn | hn
    · rw [if_neg (by rw [inR_iff]; omega)]
      refine Ev.congr (fun k => by rw [if_pos hn]) (Ev.step (f := fun _ => some _) (fun k => ?_) (Ev.now _))
      simp only [spec_GetText.j0]
      rw [if_pos trivial]
    · rw [if_neg (by rw [inR_iff]; omega)]
      refine Ev.congr (fun k => by rw [if_neg (show ¬ n < 0 by omega), decide_eq_true (show n > 8000 by omega)]) (Ev.step (f := fun _ => some _) (fun k => ?_) (Ev.now _))
      simp only [spec_GetText.j0]
      rw [if_pos trivial]
    · rw [if_pos (by rw [inR_iff]; omega)]
      refine Ev.congr (fun k => by rw [if_neg (show ¬ n < 0 by omega), decide_eq_false (show ¬ n > 8000 by omega)]) ?_
      refine Ev.step (f := fun _ => some _) (fun k => ?_) (Ev.now _)
      simp only [spec_GetText.j0]
      rw [if_neg (by simp), wrap_id (x := (s.size : Int) - n) (by omega) (by omega)]
      by_cases hl : p + n ≤ s.size
      · rw [if_neg (by omega), if_pos hl, if_pos h1, wrap_id (x := p + n) (by omega) (by omega), if_pos (by omega), if_pos hl]
      · rw [if_pos (by omega), if_neg hl]
  · simp only [if_neg hc]
    exact Ev.now _

theorem implGetNum_l0 (s : ByteArray) (hs : s.size ≤ 8000) (a : Nat) (ha : a ≤ 9223372036854775807) : ∀ d i u : Nat, i + d = 10 → (i ≤ 9 → u < 2 ^ (7 * i)) → Ev (fun k => impl_GetNum.l0 k s (a : Int) (u : Int) (i : Int)) (getFrom s a d i u)
  | 0, i, u, h, hu => Ev.step (f := fun _ => some (0, 0, 3)) (fun k => by simp only [impl_GetNum.l0]; rw [if_neg (by omega)]) (Ev.now _)
  | d + 1, i, u, h, hu => by
    replace hu := hu (by omega)
    obtain ⟨p, hp⟩ : ∃ p, p = 2 ^ (7 * i) := ⟨_, rfl⟩
    unfold getFrom
    rw [← hp]
    rw [← hp] at hu
    have HP := Aside0.mk hp
    have HU := Aside0.mk hu
    clear hp hu
    have step0 : ∀ k, impl_GetNum.l0 (k + 1) s (a : Int) (u : Int) (i : Int) = impl_GetNum.j1 k s (a : Int) (u : Int) (i : Int) (decide (s.size ≤ a + i)) := by
      intro k
      simp only [impl_GetNum.l0]
      rw [if_pos (by omega)]
      by_cases ha' : (a : Int) ≥ (s.size : Int)
      · rw [if_pos ha', decide_eq_true (by omega)]
      · rw [if_neg ha', wrap_id (x := (s.size : Int) - (a : Int)) (by omega) (by omega)]
        congr 1
        rw [decide_eq_decide]
        omega
    refine Ev.step step0 ?_
    by_cases he : s.size ≤ a + i
    · rw [if_pos he]
      refine Ev.step (f := fun _ => some (0, 0, 4)) (fun k => ?_) (Ev.now _)
      simp only [impl_GetNum.j1]
      rw [if_pos (decide_eq_true he)]
    rw [if_neg he]
    have hb := bt_range s ((a + i : Nat) : Int)
    obtain ⟨b, hbb⟩ : ∃ b : Nat, bt s ((a + i : Nat) : Int) = (b : Int) := ⟨(bt s ((a + i : Nat) : Int)).toNat, by omega⟩
    have hbt : (bt s ((a + i : Nat) : Int)).toNat = b := by omega
    have hw1 : wrap64 ((a : Int) + (i : Int)) = ((a + i : Nat) : Int) := by rw [wrap_id (by omega) (by omega)]; omega
    replace hw1 := Aside0.mk hw1
    have hw7 : wrap64 (7 * (i : Int)) = ((7 * i : Nat) : Int) := by rw [wrap_id (by omega) (by omega)]; omega
    replace hw7 := Aside0.mk hw7
    have hwi : wrap64 ((i : Int) + 1) = ((i + 1 : Nat) : Int) := by rw [wrap_id (by omega) (by omega)]; omega
    replace hwi := Aside0.mk hwi
    have hwn : wrap64 (((a + i : Nat) : Int) + 1) = ((a + i + 1 : Nat) : Int) := by rw [wrap_id (by omega) (by omega)]; omega
    replace hwn := Aside0.mk hwn
    rw [hbt]
    have step1 : ∀ k, impl_GetNum.j1 (k + 1) s (a : Int) (u : Int) (i : Int) (decide (s.size ≤ a + i)) = impl_GetNum.j2 k s (a : Int) (u : Int) (i : Int) (b : Int) (decide ((i = 9 ∧ 1 < b) ∨ (0 < i ∧ b = 0))) := by
      intro k
      simp only [impl_GetNum.j1]
      rw [if_neg (by simp; omega), hw1.out, if_pos (by omega), if_pos (by omega), hbb]
      by_cases h9 : i = 9
      · rw [if_pos (by omega)]
        by_cases hb1 : 1 < b
        · rw [if_pos (by omega), decide_eq_true (by omega)]
        · rw [if_neg (by omega), if_pos (by omega)]
          congr 1
          rw [Bool.eq_iff_iff, beq_iff_eq, decide_eq_true_iff]
          omega
      · rw [if_neg (by omega)]
        by_cases hi0 : 0 < i
        · rw [if_pos (by omega)]
          congr 1
          rw [Bool.eq_iff_iff, beq_iff_eq, decide_eq_true_iff]
          omega
        · rw [if_neg (by omega), decide_eq_false (by omega)]
    refine Ev.step step1 ?_
    by_cases h9 : (i = 9 ∧ 1 < b) ∨ (0 < i ∧ b = 0)
    · rw [if_pos h9]
      refine Ev.step (f := fun _ => some (0, 0, 3)) (fun k => ?_) (Ev.now _)
      simp only [impl_GetNum.j2]
      rw [if_pos (decide_eq_true h9)]
    rw [if_neg h9]
    have hb9 : i = 9 → b ≤ 1 := fun h => by omega
    have hfit : u + (b % 128) * p < 18446744073709551616 := fits7 HP.out HU.out (by omega) hb9
    have hsh := shl64 (b % 128) (7 * i) p HP.out (by omega) (by omega)
    replace hsh := Aside0.mk hsh
    have hsum : Go.bits .or .u64 (u : Int) (shl .u64 (IntKind.u64.wrap (Go.bits .and .u8 (b : Int) 127)) (wrap64 (7 * (i : Int)))) = ((u + (b % 128) * p : Nat) : Int) := by
      rw [hw7.out, and127 (b : Int) (by omega) (by omega), u64w, show (b : Int) % 128 % 18446744073709551616 = ((b % 128 : Nat) : Int) by omega, hsh.out, or64 u (b % 128) (7 * i) p HP.out HU.out hfit]
    replace hsum := Aside0.mk hsum
    have hnn : 0 ≤ wrap64 (7 * (i : Int)) := by rw [hw7.out]; omega
    replace hnn := Aside0.mk hnn
    by_cases hlt : b < 128
    · rw [if_pos hlt]
      have hbm : b % 128 = b := by omega
      replace hsum := hsum.out
      rw [hbm] at hsum hfit
      replace hsum := Aside0.mk hsum
      refine Ev.step (f := fun _ => some (unzig (u + b * p), ((a + i + 1 : Nat) : Int), 0)) (fun k => ?_) (Ev.now _)
      simp only [impl_GetNum.j2]
      rw [if_neg (by simpa using h9), if_pos hnn.out, if_pos (by omega), hsum.out, hw1.out, hwn.out]
      obtain ⟨v, hv⟩ : ∃ v, v = u + b * p := ⟨_, rfl⟩
      rw [← hv] at hfit ⊢
      rw [and1 v (by omega), show (v : Int) / 2 = ((v / 2 : Nat) : Int) by omega, wrap_id (x := ((v / 2 : Nat) : Int)) (by omega) (by omega), notI _ (by omega)]
      unfold unzig
      split <;> split <;> first | rfl | omega
    · rw [if_neg hlt]
      have hi8 : i ≤ 8 := by
        rcases Nat.lt_or_ge i 9 with h | h
        · omega
        · exact absurd (hb9 (by omega)) (by omega)
      refine Ev.step (f := fun k => impl_GetNum.l0 k s (a : Int) ((u + (b % 128) * p : Nat) : Int) ((i + 1 : Nat) : Int)) (fun k => ?_) (implGetNum_l0 s hs a ha d (i + 1) _ (by omega) (fun _ => next7 HP.out HU.out))
      simp only [impl_GetNum.j2]
      rw [if_neg (by simpa using h9), if_pos hnn.out, if_neg (by omega), hsum.out, hwi.out]
theorem implGetNum_ev (s : ByteArray) (a : Int) (ha : a ≤ 9223372036854775807) : Ev (fun k => impl_GetNum.f k s a) (getS s a) := by
  unfold getS
  by_cases h1 : s.size > 8000
  · rw [if_pos h1]
    refine Ev.congr (f := fun _ => some (0, 0, 2)) (fun k => ?_) (Ev.now _)
    simp only [impl_GetNum.f, impl_longText.f, Option.bind_some]; rw [if_pos (by simp; omega)]
  · rw [if_neg h1]
    by_cases h2 : a < 0
    · rw [if_pos h2]
      refine Ev.congr (f := fun _ => some (0, 0, 1)) (fun k => ?_) (Ev.now _)
      simp only [impl_GetNum.f, impl_longText.f, Option.bind_some]; rw [if_neg (by simp; omega), if_pos h2]
    · rw [if_neg h2]
      have := implGetNum_l0 s (by omega) a.toNat (by omega) 10 0 0 (by omega) (by simp)
      refine Ev.congr (fun k => ?_) this
      simp only [impl_GetNum.f, impl_longText.f, Option.bind_some]; rw [if_neg (by simp; omega), if_neg h2, Int.toNat_of_nonneg (by omega)]; rfl

theorem impl_within_eq (a b c : Int) : impl_within.f a b c = some (inR a b c) := by
  by_cases h : b ≤ a <;> simp [impl_within.f, inR, h]

theorem implGetText_ev (s : ByteArray) (a : Int) (ha : a ≤ 9223372036854775807) : Ev (fun k => impl_GetText.f k s a) (textAt s a) := by
  refine Ev.congr (fun k => rfl) (Ev.bind (implGetNum_ev s a ha) ?_)
  have hat := getS_at s a
  unfold textAt
  obtain ⟨n, p, c, hg⟩ : ∃ n p c, getS s a = (n, p, c) := ⟨_, _, _, rfl⟩
  rw [hg] at hat ⊢
  simp only [impl_within_eq, Option.bind_some] at hat ⊢
  by_cases hc : c = 0
  · obtain ⟨h0, h1, h2⟩ := hat hc
    simp only [if_pos hc]
    by_cases hn : 0 ≤ n ∧ n ≤ 8000
    · simp only [if_pos (inR_iff.2 hn)]
      rw [wrap_id (x := (s.size : Int) - p) (by omega) (by omega), wrap_id (x := p + n) (by omega) (by omega)]
      by_cases hl : p + n ≤ s.size
      · simp only [if_neg (show ¬ n > (s.size : Int) - p by omega), if_pos hl, if_pos h1, if_pos (show p ≤ p + n by omega)]
        exact Ev.now _
      · simp only [if_pos (show n > (s.size : Int) - p by omega), if_neg hl]
        exact Ev.now _
    · simp only [if_neg (fun h => hn (inR_iff.1 h))]
      exact Ev.now _
  · simp only [if_neg hc]
    exact Ev.now _

theorem FnExactGetText : laws_FnExactGetText.Goal := by
  intro s a _ ha
  obtain ⟨_, ha⟩ := i64wf ha
  by_cases hb : (s.size : Int) > 1048576
  · exact ⟨0, by simp only [laws_FnExactGetText.f]; rw [if_pos hb]⟩
  · refine Ev.rounds (Ev.congr (fun k => by simp only [laws_FnExactGetText.f]; rw [if_neg hb]) (Ev.bind (specGetText_ev s a ha) (Ev.bind (implGetText_ev s a ha) ?_)))
    simpa [laws_eqTextOut.f] using Ev.now _

end Go.Proofs.Ytfemkhfjngepmaa.Pure
