/- The plain law of FnNums: what the Lean functions of the printed texts answer. -/
import Derived.Test.YtkgjikjnciihmaaGFnNums
import Derived.Test.YtkgjikjnciihmaaHSem
namespace Go.Proofs.Ytkgjikjnciihmaa.Pure
open Go.RowKit Go.Proofs.Ytkgjikjnciihmaa.PFnNums Go.Proofs.YtkgjikjnciihmaaW.PrintWords Go.Proofs.YtkgjikjnciihmaaW.PrintLast Go.Proofs.YtkgjikjnciihmaaW.PrintMore Go.Proofs.YtkgjikjnciihmaaH
set_option linter.unusedVariables false
set_option linter.unusedSimpArgs false

theorem specFold_eq (n : Int) (h0 : -9223372036854775808 ≤ n) (h1 : n ≤ 9223372036854775807) : spec_l01Fold.f n = some ((zig n : Nat) : Int) := by
  unfold spec_l01Fold.f zig
  simp only [u64w]
  split
  · rw [wrap_id (x := n + 1) (by omega) (by omega), wrap_id (by omega) (by omega)]
    congr 1; omega
  · congr 1; omega
theorem specPutNum_l0 : ∀ (j u : Nat) (xs : List Int), u < 128 ^ (j + 1) → u < 18446744073709551616 → xs.length + j < 1000 → Ev (fun k => spec_PutNum.l0 k (u : Int) xs) (strOfNums (xs ++ enc7 u))
  | j, u, xs, h, hu, hx => by
    by_cases hs : u < 128
    · refine Ev.step (f := fun _ => some (strOfNums (xs ++ [(u : Int)]))) (fun k => ?_) (by rw [enc7_small hs]; exact Ev.now _)
      simp only [spec_PutNum.l0]
      rw [if_neg (by omega), if_pos (by omega), show (u : Int) % 256 = u by omega]
    · match j, h, hx with
      | 0, h, _ => omega
      | j + 1, h, hx =>
        have e : (u : Int).tdiv 128 = ((u / 128 : Nat) : Int) := by rw [Int.tdiv_eq_ediv_of_nonneg (by omega)]; omega
        have e2 : (u : Int).tmod 128 = ((u % 128 : Nat) : Int) := by rw [Int.tmod_eq_emod_of_nonneg (by omega)]; omega
        refine Ev.step (f := fun k => spec_PutNum.l0 k ((u / 128 : Nat) : Int) (xs ++ [((u % 128 + 128 : Nat) : Int)])) (fun k => ?_) (by
          have := specPutNum_l0 j (u / 128) (xs ++ [((u % 128 + 128 : Nat) : Int)]) (by rw [Nat.pow_succ] at h; omega) (by omega) (by simp; omega)
          rw [enc7_big hs]
          simpa using this)
        simp only [spec_PutNum.l0]
        rw [if_pos (by omega), if_pos (by omega), e, e2, u64w, u64w]
        rw [show ((u / 128 : Nat) : Int) % 18446744073709551616 = ((u / 128 : Nat) : Int) by omega, show (((u % 128 : Nat) : Int) + 128) % 18446744073709551616 % 256 = ((u % 128 + 128 : Nat) : Int) by omega]
theorem specPutNum_ev (n : Int) (h0 : -9223372036854775808 ≤ n) (h1 : n ≤ 9223372036854775807) : Ev (fun k => spec_PutNum.f k n) (numS n) := by
  have hz := zig_lt h0 h1
  have := specPutNum_l0 9 (zig n) [] (by omega) hz (by simp)
  refine Ev.congr (fun k => ?_) this
  simp only [spec_PutNum.f, specFold_eq n h0 h1, Option.bind_some]

theorem implPutNum_l0 : ∀ (j u : Nat) (xs : List Int), u < 128 ^ (j + 1) → u < 18446744073709551616 → xs.length + j < 1000 → Ev (fun k => impl_PutNum.l0 k (u : Int) xs) (strOfNums (xs ++ enc7 u))
  | j, u, xs, h, hu, hx => by
    by_cases hs : u < 128
    · refine Ev.step (f := fun _ => some (strOfNums (xs ++ [(u : Int)]))) (fun k => ?_) (by rw [enc7_small hs]; exact Ev.now _)
      simp only [impl_PutNum.l0]
      rw [if_neg (by omega), if_pos (by omega), show (u : Int) % 256 = u by omega]
    · match j, h, hx with
      | 0, h, _ => omega
      | j + 1, h, hx =>
        have e := or128 ((u : Int) % 256) (by omega) (by omega)
        refine Ev.step (f := fun k => impl_PutNum.l0 k ((u / 128 : Nat) : Int) (xs ++ [((u % 128 + 128 : Nat) : Int)])) (fun k => ?_) (by
          have := implPutNum_l0 j (u / 128) (xs ++ [((u % 128 + 128 : Nat) : Int)]) (by rw [Nat.pow_succ] at h; omega) (by omega) (by simp; omega)
          rw [enc7_big hs]
          simpa using this)
        simp only [impl_PutNum.l0]
        rw [if_pos (by omega), if_pos (by omega), e]
        rw [show (u : Int) / 128 = ((u / 128 : Nat) : Int) by omega, show (u : Int) % 256 % 128 + 128 = ((u % 128 + 128 : Nat) : Int) by omega]
theorem implPutNum_ev (n : Int) (h0 : -9223372036854775808 ≤ n) (h1 : n ≤ 9223372036854775807) : Ev (fun k => impl_PutNum.f k n) (numS n) := by
  have hz := zig_lt h0 h1
  have := implPutNum_l0 9 (zig n) [] (by omega) hz (by simp)
  by_cases hn : n < 0
  · refine Ev.congr (f := fun k => impl_PutNum.j0 k ((zig n : Nat) : Int)) (fun k => ?_) (Ev.step (fun k => rfl) this)
    simp only [impl_PutNum.f]
    rw [if_pos hn, u64w, u64w]
    have e : n % 18446744073709551616 * 2 % 18446744073709551616 = (((2 * n + 18446744073709551616).toNat : Nat) : Int) := by omega
    rw [e, not64 _ (by omega)]
    congr 1
    unfold zig
    rw [if_pos hn]
    omega
  · refine Ev.congr (f := fun k => impl_PutNum.j0 k ((zig n : Nat) : Int)) (fun k => ?_) (Ev.step (fun k => rfl) this)
    simp only [impl_PutNum.f]
    rw [if_neg hn, u64w, u64w]
    congr 1
    unfold zig
    rw [if_neg hn]
    omega

theorem implGetNum_l0 (s : ByteArray) (hs : s.size ≤ 8000) (a : Nat) (ha : a ≤ 9223372036854775807) : ∀ d i u : Nat, i + d = 10 → (i ≤ 9 → u < 2 ^ (7 * i)) → Ev (fun k => impl_GetNum.l0 k s (a : Int) (u : Int) (i : Int)) (getFrom s a d i u)
  | 0, i, u, h, hu => Ev.step (f := fun _ => some (0, 0, 3)) (fun k => by simp only [impl_GetNum.l0]; rw [if_neg (by omega)]) (Ev.now _)
  | d + 1, i, u, h, hu => by
    replace hu := hu (by omega)
    obtain ⟨p, hp⟩ : ∃ p, p = 2 ^ (7 * i) := ⟨_, rfl⟩
    unfold getFrom
    rw [← hp]
    rw [← hp] at hu
    have HP := Aside0.mk hp
    have HU := Aside0.mk hu
    clear hp hu
    have step0 : ∀ k, impl_GetNum.l0 (k + 1) s (a : Int) (u : Int) (i : Int) = impl_GetNum.j1 k s (a : Int) (u : Int) (i : Int) (decide (s.size ≤ a + i)) := by
      intro k
      simp only [impl_GetNum.l0]
      rw [if_pos (by omega)]
      by_cases ha' : (a : Int) ≥ (s.size : Int)
      · rw [if_pos ha', decide_eq_true (by omega)]
      · rw [if_neg ha', wrap_id (x := (s.size : Int) - (a : Int)) (by omega) (by omega)]
        congr 1
        rw [decide_eq_decide]
        omega
    refine Ev.step step0 ?_
    by_cases he : s.size ≤ a + i
    · rw [if_pos he]
      refine Ev.step (f := fun _ => some (0, 0, 4)) (fun k => ?_) (Ev.now _)
      simp only [impl_GetNum.j1]
      rw [if_pos (decide_eq_true he)]
    rw [if_neg he]
    have hb := bt_range s ((a + i : Nat) : Int)
    obtain ⟨b, hbb⟩ : ∃ b : Nat, bt s ((a + i : Nat) : Int) = (b : Int) := ⟨(bt s ((a + i : Nat) : Int)).toNat, by omega⟩
    have hbt : (bt s ((a + i : Nat) : Int)).toNat = b := by omega
    have hw1 : wrap64 ((a : Int) + (i : Int)) = ((a + i : Nat) : Int) := by rw [wrap_id (by omega) (by omega)]; omega
    replace hw1 := Aside0.mk hw1
    have hw7 : wrap64 (7 * (i : Int)) = ((7 * i : Nat) : Int) := by rw [wrap_id (by omega) (by omega)]; omega
    replace hw7 := Aside0.mk hw7
    have hwi : wrap64 ((i : Int) + 1) = ((i + 1 : Nat) : Int) := by rw [wrap_id (by omega) (by omega)]; omega
    replace hwi := Aside0.mk hwi
    have hwn : wrap64 (((a + i : Nat) : Int) + 1) = ((a + i + 1 : Nat) : Int) := by rw [wrap_id (by omega) (by omega)]; omega
    replace hwn := Aside0.mk hwn
    rw [hbt]
    have step1 : ∀ k, impl_GetNum.j1 (k + 1) s (a : Int) (u : Int) (i : Int) (decide (s.size ≤ a + i)) = impl_GetNum.j2 k s (a : Int) (u : Int) (i : Int) (b : Int) (decide ((i = 9 ∧ 1 < b) ∨ (0 < i ∧ b = 0))) := by
      intro k
      simp only [impl_GetNum.j1]
      rw [if_neg (by simp; omega), hw1.out, if_pos (by omega), if_pos (by omega), hbb]
      by_cases h9 : i = 9
      · rw [if_pos (by omega)]
        by_cases hb1 : 1 < b
        · rw [if_pos (by omega), decide_eq_true (by omega)]
        · rw [if_neg (by omega), if_pos (by omega)]
          congr 1
          rw [Bool.eq_iff_iff, beq_iff_eq, decide_eq_true_iff]
          omega
      · rw [if_neg (by omega)]
        by_cases hi0 : 0 < i
        · rw [if_pos (by omega)]
          congr 1
          rw [Bool.eq_iff_iff, beq_iff_eq, decide_eq_true_iff]
          omega
        · rw [if_neg (by omega), decide_eq_false (by omega)]
    refine Ev.step step1 ?_
    by_cases h9 : (i = 9 ∧ 1 < b) ∨ (0 < i ∧ b = 0)
    · rw [if_pos h9]
      refine Ev.step (f := fun _ => some (0, 0, 3)) (fun k => ?_) (Ev.now _)
      simp only [impl_GetNum.j2]
      rw [if_pos (decide_eq_true h9)]
    rw [if_neg h9]
    have hb9 : i = 9 → b ≤ 1 := fun h => by omega
    have hfit : u + (b % 128) * p < 18446744073709551616 := fits7 HP.out HU.out (by omega) hb9
    have hsh := shl64 (b % 128) (7 * i) p HP.out (by omega) (by omega)
    replace hsh := Aside0.mk hsh
    have hsum : Go.bits .or .u64 (u : Int) (shl .u64 (IntKind.u64.wrap (Go.bits .and .u8 (b : Int) 127)) (wrap64 (7 * (i : Int)))) = ((u + (b % 128) * p : Nat) : Int) := by
      rw [hw7.out, and127 (b : Int) (by omega) (by omega), u64w, show (b : Int) % 128 % 18446744073709551616 = ((b % 128 : Nat) : Int) by omega, hsh.out, or64 u (b % 128) (7 * i) p HP.out HU.out hfit]
    replace hsum := Aside0.mk hsum
    have hnn : 0 ≤ wrap64 (7 * (i : Int)) := by rw [hw7.out]; omega
    replace hnn := Aside0.mk hnn
    by_cases hlt : b < 128
    · rw [if_pos hlt]
      have hbm : b % 128 = b := by omega
      replace hsum := hsum.out
      rw [hbm] at hsum hfit
      replace hsum := Aside0.mk hsum
      refine Ev.step (f := fun _ => some (unzig (u + b * p), ((a + i + 1 : Nat) : Int), 0)) (fun k => ?_) (Ev.now _)
      simp only [impl_GetNum.j2]
      rw [if_neg (by simpa using h9), if_pos hnn.out, if_pos (by omega), hsum.out, hw1.out, hwn.out]
      obtain ⟨v, hv⟩ : ∃ v, v = u + b * p := ⟨_, rfl⟩
      rw [← hv] at hfit ⊢
      rw [and1 v (by omega), show (v : Int) / 2 = ((v / 2 : Nat) : Int) by omega, wrap_id (x := ((v / 2 : Nat) : Int)) (by omega) (by omega), notI _ (by omega)]
      unfold unzig
      split <;> split <;> first | rfl | omega
    · rw [if_neg hlt]
      have hi8 : i ≤ 8 := by
        rcases Nat.lt_or_ge i 9 with h | h
        · omega
        · exact absurd (hb9 (by omega)) (by omega)
      refine Ev.step (f := fun k => impl_GetNum.l0 k s (a : Int) ((u + (b % 128) * p : Nat) : Int) ((i + 1 : Nat) : Int)) (fun k => ?_) (implGetNum_l0 s hs a ha d (i + 1) _ (by omega) (fun _ => next7 HP.out HU.out))
      simp only [impl_GetNum.j2]
      rw [if_neg (by simpa using h9), if_pos hnn.out, if_neg (by omega), hsum.out, hwi.out]
theorem implGetNum_ev (s : ByteArray) (a : Int) (ha : a ≤ 9223372036854775807) : Ev (fun k => impl_GetNum.f k s a) (getS s a) := by
  unfold getS
  by_cases h1 : s.size > 8000
  · rw [if_pos h1]
    refine Ev.congr (f := fun _ => some (0, 0, 2)) (fun k => ?_) (Ev.now _)
    simp only [impl_GetNum.f, impl_longText.f, Option.bind_some]; rw [if_pos (by simp; omega)]
  · rw [if_neg h1]
    by_cases h2 : a < 0
    · rw [if_pos h2]
      refine Ev.congr (f := fun _ => some (0, 0, 1)) (fun k => ?_) (Ev.now _)
      simp only [impl_GetNum.f, impl_longText.f, Option.bind_some]; rw [if_neg (by simp; omega), if_pos h2]
    · rw [if_neg h2]
      have := implGetNum_l0 s (by omega) a.toNat (by omega) 10 0 0 (by omega) (by simp)
      refine Ev.congr (fun k => ?_) this
      simp only [impl_GetNum.f, impl_longText.f, Option.bind_some]; rw [if_neg (by simp; omega), if_neg h2, Int.toNat_of_nonneg (by omega)]; rfl

theorem impl_within_eq (a b c : Int) : impl_within.f a b c = some (inR a b c) := by
  by_cases h : b ≤ a <;> simp [impl_within.f, inR, h]

/-- What is told with code 0 lies in the text. -/
theorem getFrom_at (s : ByteArray) (a : Nat) : ∀ d i u : Nat, (getFrom s a d i u).2.2 = 0 → 0 ≤ (getFrom s a d i u).2.1 ∧ (getFrom s a d i u).2.1 ≤ s.size
  | 0, i, u => by simp [getFrom]
  | d + 1, i, u => by
    unfold getFrom
    split
    · simp
    · split
      · simp
      · split
        · intro _; simp only; omega
        · exact getFrom_at s a d (i + 1) _
theorem getS_at (s : ByteArray) (a : Int) (h : (getS s a).2.2 = 0) : s.size ≤ 8000 ∧ 0 ≤ (getS s a).2.1 ∧ (getS s a).2.1 ≤ s.size := by
  unfold getS at h ⊢
  by_cases h1 : s.size > 8000
  · rw [if_pos h1] at h; simp at h
  · rw [if_neg h1] at h ⊢
    by_cases h2 : a < 0
    · rw [if_pos h2] at h; simp at h
    · rw [if_neg h2] at h ⊢
      exact ⟨by omega, getFrom_at s a.toNat 10 0 0 h⟩
/-- GetText. -/
def textAt (s : ByteArray) (a : Int) : ByteArray × Int × Int :=
  if (getS s a).2.2 = 0 then
    if inR (getS s a).1 0 8000 = true then
      if (getS s a).2.1 + (getS s a).1 ≤ s.size then (s.extract (getS s a).2.1.toNat ((getS s a).2.1 + (getS s a).1).toNat, (getS s a).2.1 + (getS s a).1, 0) else (⟨#[]⟩, 0, 4)
    else (⟨#[]⟩, 0, 3)
  else (⟨#[]⟩, 0, (getS s a).2.2)

theorem implGetText_ev (s : ByteArray) (a : Int) (ha : a ≤ 9223372036854775807) : Ev (fun k => impl_GetText.f k s a) (textAt s a) := by
  refine Ev.congr (fun k => rfl) (Ev.bind (implGetNum_ev s a ha) ?_)
  have hat := getS_at s a
  unfold textAt
  obtain ⟨n, p, c, hg⟩ : ∃ n p c, getS s a = (n, p, c) := ⟨_, _, _, rfl⟩
  rw [hg] at hat ⊢
  simp only [impl_within_eq, Option.bind_some] at hat ⊢
  by_cases hc : c = 0
  · obtain ⟨h0, h1, h2⟩ := hat hc
    simp only [if_pos hc]
    by_cases hn : 0 ≤ n ∧ n ≤ 8000
    · simp only [if_pos (inR_iff.2 hn)]
      rw [wrap_id (x := (s.size : Int) - p) (by omega) (by omega), wrap_id (x := p + n) (by omega) (by omega)]
      by_cases hl : p + n ≤ s.size
      · simp only [if_neg (show ¬ n > (s.size : Int) - p by omega), if_pos hl, if_pos h1, if_pos (show p ≤ p + n by omega)]
        exact Ev.now _
      · simp only [if_pos (show n > (s.size : Int) - p by omega), if_neg hl]
        exact Ev.now _
    · simp only [if_neg (fun h => hn (inR_iff.1 h))]
      exact Ev.now _
  · simp only [if_neg hc]
    exact Ev.now _

/-- PutText. -/
def textS (t : ByteArray) : ByteArray := if t.size > 8000 then ⟨#[]⟩ else numS (t.size : Int) ++ t

theorem specPutText_ev (t : ByteArray) (ht : t.size ≤ 140737488355328) : Ev (fun k => spec_PutText.f k t) (textS t) := by
  unfold textS
  by_cases h : t.size > 8000
  · refine Ev.congr (f := fun _ => some _) (fun k => ?_) (by rw [if_pos h]; exact Ev.now _)
    simp only [spec_PutText.f]; rw [if_pos (by omega)]
  · rw [if_neg h]
    refine Ev.congr (fun k => by simp only [spec_PutText.f]; rw [if_neg (by omega)]) (Ev.bind (specPutNum_ev (t.size : Int) (by omega) (by omega)) ?_)
    have := numS_size (t.size : Int) (by omega) (by omega)
    rw [if_pos (by omega)]
    exact Ev.now _

theorem implPutText_ev (t : ByteArray) (ht : t.size ≤ 140737488355328) : Ev (fun k => impl_PutText.f k t) (textS t) := by
  unfold textS
  by_cases h : t.size > 8000
  · refine Ev.congr (f := fun _ => some _) (fun k => ?_) (by rw [if_pos h]; exact Ev.now _)
    simp only [impl_PutText.f, impl_longText.f, Option.bind_some]; rw [if_pos (by rw [decide_eq_true_eq]; omega)]
  · rw [if_neg h]
    refine Ev.congr (fun k => by simp only [impl_PutText.f, impl_longText.f, Option.bind_some]; rw [if_neg (by rw [decide_eq_true_eq]; omega)]) (Ev.bind (implPutNum_ev (t.size : Int) (by omega) (by omega)) ?_)
    have := numS_size (t.size : Int) (by omega) (by omega)
    rw [if_pos (by omega)]
    exact Ev.now _

theorem evSome {α β : Type} {o : Option α} {x : α} {f : Nat → α → Option β} {r : β} (h : o = some x) (k : Ev (fun n => f n x) r) : Ev (fun n => o.bind (f n)) r := by subst h; exact k
/-- What is drawn lies below what was asked for; the place stays within the bytes. -/
theorem src_val (v m a : Int) (h : 1 < a) (h2 : a ≤ 9223372036854775807) : 0 ≤ spec_l01Src_n.val v m a ∧ spec_l01Src_n.val v m a < a := by
  unfold spec_l01Src_n.val
  rw [u64w, u64w, show a % 18446744073709551616 = a by omega, Int.tmod_eq_emod_of_nonneg (by omega)]
  have h3 := Int.emod_nonneg ((v + m / 1048576) % 18446744073709551616) (show a ≠ 0 by omega)
  have h4 := Int.emod_lt_of_pos ((v + m / 1048576) % 18446744073709551616) (show 0 < a by omega)
  rw [wrap_id (by omega) (by omega)]
  exact ⟨h3, h4⟩
theorem src_n (b : List Int) (p m z a : Int) (hb : b.length ≤ 9223372036854775807) (h0 : 0 ≤ p) (h1 : p ≤ b.length) (ha : a ≤ 9223372036854775807) :
    ∃ r p' m', spec_l01Src_n.f b p m z a = some (r, p', m', z) ∧ 0 ≤ r ∧ (r < a ∨ r = 0) ∧ 0 ≤ p' ∧ p' ≤ b.length := by
  unfold spec_l01Src_n.f
  by_cases h : a ≤ 1
  · exact ⟨0, p, m, by rw [if_pos h], by omega, .inr rfl, h0, h1⟩
  · rw [if_neg h, if_neg (by rw [u64w]; omega)]
    by_cases h2 : p < (b.length : Int)
    · obtain ⟨h3, h4⟩ := src_val (IntKind.u64.wrap (rd b p)) (spec_l01Src_n.mx m) a (by omega) ha
      exact ⟨_, _, _, by rw [if_pos h2, if_pos h0, wrap_id (by omega) (by omega)], h3, .inl h4, by omega, by omega⟩
    · obtain ⟨h3, h4⟩ := src_val 0 (spec_l01Src_n.mx m) a (by omega) ha
      exact ⟨_, _, _, by rw [if_neg h2], h3, .inl h4, h0, h1⟩
theorem src_loop (l : List Int) (hl : l.length ≤ 9223372036854775807) : ∀ (d i : Nat) (m : Int), i + d = 64 → ∃ m' z, Ev (fun k => spec_l01Source.l0 k l (i : Int) l 0 m 0) (l, 0, m', z) ∧ 0 ≤ z ∧ z ≤ 12
  | d, i, m, h => by
    have hz : ∃ z, (∀ m' : Int, (if (wrap64 ((l.length : Int) / 20)) > 12 then (some (l, (0 : Int), m', (12 : Int))) else (some (l, 0, m', wrap64 ((l.length : Int) / 20)))) = some (l, 0, m', z)) ∧ 0 ≤ z ∧ z ≤ 12 := by
      rw [wrap_id (x := (l.length : Int) / 20) (by omega) (by omega)]
      by_cases h12 : (l.length : Int) / 20 > 12
      · exact ⟨12, fun m' => by rw [if_pos h12], by omega, by omega⟩
      · exact ⟨(l.length : Int) / 20, fun m' => by rw [if_neg h12], by omega, by omega⟩
    obtain ⟨z, hz, z0, z1⟩ := hz
    by_cases h1 : (i : Int) < (l.length : Int)
    · match d, h with
      | 0, h => exact ⟨m, z, Ev.step (f := fun _ => some (l, 0, m, z)) (fun k => by simp only [spec_l01Source.l0]; rw [if_pos h1, if_neg (by omega)]; exact hz m) (Ev.now _), z0, z1⟩
      | d + 1, h =>
        obtain ⟨m', z', hE, a0, a1⟩ := src_loop l hl d (i + 1) (IntKind.u64.wrap ((Go.bits .xor .u64 m (IntKind.u64.wrap (rd l (i : Int)))) * 1099511628211)) (by omega)
        exact ⟨m', z', Ev.step (fun k => by simp only [spec_l01Source.l0]; rw [if_pos h1, if_pos (by omega), if_pos (by omega), wrap_id (x := (i : Int) + 1) (by omega) (by omega)]; rfl) hE, a0, a1⟩
    · exact ⟨m, z, Ev.step (f := fun _ => some (l, 0, m, z)) (fun k => by simp only [spec_l01Source.l0]; rw [if_neg h1]; exact hz m) (Ev.now _), z0, z1⟩
theorem src_source (l : List Int) (hl : l.length ≤ 9223372036854775807) : ∃ m z, Ev (fun k => spec_l01Source.f k l) (l, 0, m, z) ∧ 0 ≤ z ∧ z ≤ 12 := by
  obtain ⟨m, z, h, z0, z1⟩ := src_loop l hl 64 0 88172645463325252 (by omega)
  exact ⟨m, z, Ev.congr (fun k => rfl) h, z0, z1⟩

theorem src_one (b : List Int) (p m z a : Int) (hb : b.length ≤ 9223372036854775807) (h0 : 0 ≤ p) (h1 : p ≤ b.length) (ha : a ≤ 9223372036854775807) :
    ∃ c p' m', spec_l01Src_one.f b p m z a = some (c, p', m', z) ∧ 0 ≤ p' ∧ p' ≤ b.length := by
  obtain ⟨r, p', m', h, _, _, h2, h3⟩ := src_n b p m z a hb h0 h1 ha
  exact ⟨r == 0, p', m', by unfold spec_l01Src_one.f; rw [h]; rfl, h2, h3⟩

theorem src_edge (b : List Int) (p m z : Int) (hb : b.length ≤ 9223372036854775807) (h0 : 0 ≤ p) (h1 : p ≤ b.length) :
    ∃ r p' m', spec_l01Src_edge.f b p m z = some (r, p', m', z) ∧ -9223372036854775808 ≤ r ∧ r ≤ 9223372036854775807 ∧ 0 ≤ p' ∧ p' ≤ b.length := by
  obtain ⟨r, p', m', h, h4, h5, h2, h3⟩ := src_n b p m z 14 hb h0 h1 (by omega)
  obtain ⟨q, rfl⟩ : ∃ q : Nat, r = (q : Int) := ⟨r.toNat, by omega⟩
  have hq : q < 14 := by omega
  refine ⟨_, p', m', by unfold spec_l01Src_edge.f; rw [Option.bind_some, h, Option.bind_some]; simp only []; rw [if_pos h4, if_pos (by simp only [List.length_cons, List.length_nil]; omega)], ?_, ?_, h2, h3⟩ <;>
  · rw [rd_nat]
    have : q = 0 ∨ q = 1 ∨ q = 2 ∨ q = 3 ∨ q = 4 ∨ q = 5 ∨ q = 6 ∨ q = 7 ∨ q = 8 ∨ q = 9 ∨ q = 10 ∨ q = 11 ∨ q = 12 ∨ q = 13 := by omega
    rcases this with h | h | h | h | h | h | h | h | h | h | h | h | h | h <;> subst h <;> simp

theorem src_any (b : List Int) (p m z : Int) (hb : b.length ≤ 9223372036854775807) (h0 : 0 ≤ p) (h1 : p ≤ b.length) :
    ∃ r p' m', spec_l01Src_l01Any.f b p m z = some (r, p', m', z) ∧ -9223372036854775808 ≤ r ∧ r ≤ 9223372036854775807 ∧ 0 ≤ p' ∧ p' ≤ b.length := by
  obtain ⟨c, p1, m1, h, h2, h3⟩ := src_one b p m z 4 hb h0 h1 (by omega)
  unfold spec_l01Src_l01Any.f
  rw [h, Option.bind_some]
  cases c
  · obtain ⟨r, p2, m2, h4, h5, h6, h7, h8⟩ := src_n b p1 m1 z 1099511627776 hb h2 h3 (by omega)
    refine ⟨_, p2, m2, by simp only []; rw [if_neg (by decide), h4, Option.bind_some], ?_, ?_, h7, h8⟩ <;> rw [wrap_id (by omega) (by omega)] <;> omega
  · obtain ⟨r, p2, m2, h4, h5, h6, h7, h8⟩ := src_edge b p1 m1 z hb h2 h3
    exact ⟨r, p2, m2, by simp only []; rw [if_pos trivial, h4, Option.bind_some], h5, h6, h7, h8⟩

theorem src_bytes_l (b : List Int) (z : Int) (n : Nat) (hn : n ≤ 1000000) (hb : b.length ≤ 9223372036854775807) : ∀ (d i : Nat) (xs : List Int) (p m : Int), i + d = n → xs.length = i → 0 ≤ p → p ≤ b.length →
    ∃ t p' m', Ev (fun k => spec_l01Src_bytes.l0 k (n : Int) xs (i : Int) b p m z) (t, p', m', z) ∧ t.size = n ∧ 0 ≤ p' ∧ p' ≤ b.length
  | 0, i, xs, p, m, h, hx, h0, h1 => ⟨strOfNums xs, p, m, Ev.step (f := fun _ => some (strOfNums xs, p, m, z)) (fun k => by simp only [spec_l01Src_bytes.l0]; rw [if_neg (by omega)]) (Ev.now _), by rw [strOfNums_size]; omega, h0, h1⟩
  | d + 1, i, xs, p, m, h, hx, h0, h1 => by
    obtain ⟨r, p', m', h4, h5, h6, h7, h8⟩ := src_n b p m z 256 hb h0 h1 (by omega)
    obtain ⟨t, p2, m2, hE, ht, h9, h10⟩ := src_bytes_l b z n hn hb d (i + 1) (xs ++ [r % 256]) p' m' (by omega) (by simp; omega) h7 h8
    refine ⟨t, p2, m2, Ev.step (fun k => ?_) hE, ht, h9, h10⟩
    simp only [spec_l01Src_bytes.l0]
    rw [if_pos (by omega), h4, Option.bind_some]
    simp only []
    rw [if_pos (by omega), wrap_succ (n := n) (by omega) (by omega)]
theorem src_bytes (b : List Int) (z : Int) (n : Int) (hn0 : 0 ≤ n) (hn : n ≤ 1000000) (hb : b.length ≤ 9223372036854775807) (p m : Int) (h0 : 0 ≤ p) (h1 : p ≤ b.length) :
    ∃ t p' m', Ev (fun k => spec_l01Src_bytes.f k b p m z n) (t, p', m', z) ∧ t.size = n.toNat ∧ 0 ≤ p' ∧ p' ≤ b.length := by
  obtain ⟨t, p', m', hE, h2, h3, h4⟩ := src_bytes_l b z n.toNat (by omega) hb n.toNat 0 [] p m (by omega) rfl h0 h1
  rw [Int.toNat_of_nonneg hn0] at hE
  exact ⟨t, p', m', Ev.congr (fun k => rfl) hE, h2, h3, h4⟩

/-- What GetNum tells of a number's bytes. -/
theorem len_data (s : ByteArray) : s.data.toList.length = s.size := by rw [Array.length_toList]; rfl
theorem bt_nat (s : ByteArray) (i : Nat) : bt s (i : Int) = ((s.data.toList.getD i 0).toNat : Int) := by
  unfold bt
  by_cases h : i < s.size
  · rw [dif_pos (by simpa using h)]
    have h2 : i < s.data.toList.length := by rw [len_data]; exact h
    simp only [Int.toNat_natCast]
    rw [List.getD_eq_getElem?_getD, List.getElem?_eq_getElem h2]
    simp [ByteArray.getElem_eq_getElem_data]
  · rw [dif_neg (by simpa using h)]
    have h2 : s.data.toList.length ≤ i := by rw [len_data]; omega
    rw [List.getD_eq_getElem?_getD, List.getElem?_eq_none h2]
    rfl
theorem enc7_pos (u : Nat) : 0 < (enc7 u).length := by
  by_cases h : u < 128
  · rw [enc7_small h]; simp
  · rw [enc7_big h]; simp
theorem mulp (v p : Nat) : v % 128 * p + v / 128 * (p * 128) = v * p := by
  rw [show v / 128 * (p * 128) = 128 * (v / 128) * p by rw [Nat.mul_comm p 128, ← Nat.mul_assoc, Nat.mul_comm (v / 128) 128], ← Nat.add_mul, Nat.mod_add_div]
theorem big9 {v i : Nat} (h : v * 2 ^ (7 * i) < 18446744073709551616) (hv : 0 < v) : i ≤ 9 ∧ (i = 9 → v ≤ 1) := by
  have key : 9 ≤ i → v * 9223372036854775808 ≤ v * 2 ^ (7 * i) := fun h9 => Nat.mul_le_mul_left _ (by rw [show (9223372036854775808 : Nat) = 2 ^ (7 * 9) by rfl]; exact Nat.pow_le_pow_right (by omega) (by omega))
  have key2 : 10 ≤ i → 1180591620717411303424 ≤ v * 2 ^ (7 * i) := fun h9 => by
    have : 2 ^ (7 * 10) ≤ 2 ^ (7 * i) := Nat.pow_le_pow_right (by omega) (by omega)
    rw [show (2 : Nat) ^ (7 * 10) = 1180591620717411303424 by rfl] at this
    exact Nat.le_trans this (Nat.le_mul_of_pos_left _ hv)
  refine ⟨?_, fun h9 => ?_⟩
  · rcases Nat.lt_or_ge i 10 with h9 | h9
    · omega
    · have := key2 h9; omega
  · have := key (by omega); omega
theorem get_enc (s : ByteArray) (a : Nat) : ∀ d i u v : Nat, i + d = 10 → v * 2 ^ (7 * i) < 18446744073709551616 → (0 < i → 0 < v) → (∀ j, j < (enc7 v).length → a + i + j < s.size ∧ bt s ((a + i + j : Nat) : Int) = (enc7 v).getD j 0) →
    getFrom s a d i u = (unzig (u + v * 2 ^ (7 * i)), ((a + i + (enc7 v).length : Nat) : Int), 0)
  | d, i, u, v, h, hv, hp, hb => by
    have h0 := hb 0 (enc7_pos v)
    have hi : i ≤ 9 := by
      rcases Nat.eq_zero_or_pos i with h' | h'
      · omega
      · exact (big9 hv (hp h')).1
    have h9 : i = 9 → v ≤ 1 := fun h' => (big9 hv (hp (by omega))).2 h'
    match d, h with
    | 0, h => omega
    | d + 1, h =>
      simp only [Nat.add_zero] at h0
      unfold getFrom
      rw [if_neg (by omega)]
      by_cases hs : v < 128
      · rw [enc7_small hs] at h0 ⊢
        have hbt : (bt s ((a + i : Nat) : Int)).toNat = v := by rw [h0.2]; simp
        rw [hbt, if_neg (by omega), if_pos hs]
        simp
      · rw [enc7_big hs] at h0 hb ⊢
        have hbt : (bt s ((a + i : Nat) : Int)).toNat = v % 128 + 128 := by rw [h0.2, List.getD_cons_zero]; omega
        have hm := mulp v (2 ^ (7 * i))
        have hnext := get_enc s a d (i + 1) (u + (v % 128) * 2 ^ (7 * i)) (v / 128) (by omega) (by rw [pow7]; exact Nat.lt_of_le_of_lt (by rw [← hm]; exact Nat.le_add_left _ _) hv) (by omega) (fun j hj => by
          have := hb (j + 1) (by simp; omega)
          rw [show a + (i + 1) + j = a + i + (j + 1) by omega]
          simpa using this)
        rw [hbt, if_neg (by omega), if_neg (by omega), show (v % 128 + 128) % 128 = v % 128 by omega, hnext, pow7, Nat.add_assoc, hm]
        simp only [List.length_cons]
        rw [show a + (i + 1) + (enc7 (v / 128)).length = a + i + ((enc7 (v / 128)).length + 1) by omega]
theorem get_short (s : ByteArray) (a : Nat) : ∀ d i u v : Nat, i + d = 10 → v * 2 ^ (7 * i) < 18446744073709551616 → (0 < i → 0 < v) → s.size + 1 = a + i + (enc7 v).length → (∀ j, j + 1 < (enc7 v).length → bt s ((a + i + j : Nat) : Int) = (enc7 v).getD j 0) →
    (getFrom s a d i u).2.2 = 4
  | d, i, u, v, h, hv, hp, hz, hb => by
    have hi : i ≤ 9 := by
      rcases Nat.eq_zero_or_pos i with h' | h'
      · omega
      · exact (big9 hv (hp h')).1
    have h9 : i = 9 → v ≤ 1 := fun h' => (big9 hv (hp (by omega))).2 h'
    match d, h with
    | 0, h => omega
    | d + 1, h =>
      unfold getFrom
      by_cases hs : v < 128
      · rw [enc7_small hs] at hz
        simp only [List.length_cons, List.length_nil] at hz
        rw [if_pos (by omega)]
      · have hl := enc7_pos (v / 128)
        rw [enc7_big hs] at hz hb
        simp only [List.length_cons] at hz
        have h0 := hb 0 (by simp; omega)
        simp only [Nat.add_zero] at h0
        have hbt : (bt s ((a + i : Nat) : Int)).toNat = v % 128 + 128 := by rw [h0, List.getD_cons_zero]; omega
        have hm := mulp v (2 ^ (7 * i))
        rw [if_neg (by omega), hbt, if_neg (by omega), if_neg (by omega)]
        exact get_short s a d (i + 1) _ (v / 128) (by omega) (by rw [pow7]; exact Nat.lt_of_le_of_lt (by rw [← hm]; exact Nat.le_add_left _ _) hv) (by omega) (by omega) (fun j hj => by
          have := hb (j + 1) (by simp; omega)
          rw [show a + (i + 1) + j = a + i + (j + 1) by omega]
          simpa using this)
/-- The bytes of a text put together. -/
theorem data_append (a b : ByteArray) : (a ++ b).data.toList = a.data.toList ++ b.data.toList := by simp [ByteArray.data_append]
theorem enc7_range : ∀ (u : Nat) (x : Int), x ∈ enc7 u → 0 ≤ x ∧ x < 256
  | u, x, h => by
    by_cases hs : u < 128
    · rw [enc7_small hs] at h; simp at h; omega
    · rw [enc7_big hs] at h
      rcases List.mem_cons.1 h with h | h
      · omega
      · exact enc7_range (u / 128) x h
  termination_by u => u
theorem numS_data (n : Int) : (numS n).data.toList = (enc7 (zig n)).map fun x => UInt8.ofNat x.toNat := strOfNums_data _
theorem numS_len (n : Int) : (numS n).size = (enc7 (zig n)).length := strOfNums_size _
theorem bt_num (a b : ByteArray) (n : Int) (j : Nat) (h : j < (enc7 (zig n)).length) : bt (a ++ numS n ++ b) ((a.size + j : Nat) : Int) = (enc7 (zig n)).getD j 0 := by
  rw [bt_nat, data_append, data_append, numS_data, List.append_assoc, List.getD_eq_getElem?_getD, List.getElem?_append_right (by rw [len_data]; omega), List.getElem?_append_left (by rw [len_data, List.length_map]; omega)]
  rw [show a.size + j - a.data.toList.length = j by rw [len_data]; omega]
  rw [List.getElem?_map, List.getElem?_eq_getElem h, List.getD_eq_getElem?_getD, List.getElem?_eq_getElem h]
  simp only [Option.map_some, Option.getD_some]
  have := enc7_range (zig n) _ (List.getElem_mem h)
  rw [UInt8.toNat_ofNat']
  omega
theorem getS_num (a b : ByteArray) (n : Int) (h0 : -9223372036854775808 ≤ n) (h1 : n ≤ 9223372036854775807) (hs : (a ++ numS n ++ b).size ≤ 8000) :
    getS (a ++ numS n ++ b) (a.size : Int) = (n, ((a.size + (numS n).size : Nat) : Int), 0) := by
  unfold getS
  rw [if_neg (by omega), if_neg (by omega), Int.toNat_natCast]
  have hz := zig_lt h0 h1
  rw [get_enc _ a.size 10 0 0 (zig n) (by omega) (by simpa using hz) (by omega) (fun j hj => ⟨by rw [ByteArray.size_append, ByteArray.size_append, numS_len]; omega, by rw [Nat.add_zero]; exact bt_num a b n j hj⟩)]
  simp only [Nat.mul_zero, Nat.pow_zero, Nat.mul_one, Nat.zero_add, unzig_zig, Nat.add_zero, numS_len]
theorem getS_cut (n : Int) (h0 : -9223372036854775808 ≤ n) (h1 : n ≤ 9223372036854775807) (t : ByteArray) (ht : t.data.toList = (numS n).data.toList.take ((numS n).size - 1)) : (getS t 0).2.2 = 4 := by
  have hl := numS_len n
  have hp := enc7_pos (zig n)
  have h10 := numS_size n h0 h1
  have hs : t.size = (numS n).size - 1 := by
    rw [← len_data t, ht, List.length_take, len_data]
    omega
  unfold getS
  rw [if_neg (by omega), if_neg (by omega)]
  refine get_short t 0 10 0 0 (zig n) (by omega) (by simpa using zig_lt h0 h1) (by omega) (by omega) (fun j hj => ?_)
  rw [bt_nat, ht, numS_data, Nat.zero_add, List.getD_eq_getElem?_getD, List.getElem?_take_of_lt (by omega), List.getElem?_map, List.getElem?_eq_getElem (by omega), List.getD_eq_getElem?_getD, List.getElem?_eq_getElem (by omega)]
  simp only [Option.map_some, Option.getD_some, Nat.zero_add]
  have := enc7_range (zig n) _ (List.getElem_mem (show j < (enc7 (zig n)).length by omega))
  rw [UInt8.toNat_ofNat']
  omega

theorem data_cut (s : ByteArray) (i j : Nat) : (s.extract i j).data.toList = (s.data.toList.take j).drop i := by
  rw [ByteArray.data_extract, Array.toList_extract, List.extract_eq_take_drop, List.drop_take]
theorem bytes_ext {s t : ByteArray} (h : s.data.toList = t.data.toList) : s = t := by
  cases s; cases t; simp only at h; congr 1; exact Array.toList_inj.1 h
theorem textS_small {t : ByteArray} (h : t.size ≤ 8000) : textS t = numS (t.size : Int) ++ t := by unfold textS; rw [if_neg (by omega)]
/-- GetText of a text that PutText wrote, behind something. -/
theorem textAt_back (a t : ByteArray) (h : t.size ≤ 8000) (hs : (a ++ (numS (t.size : Int) ++ t)).size ≤ 8000) :
    textAt (a ++ (numS (t.size : Int) ++ t)) (a.size : Int) = (t, ((a.size + (numS (t.size : Int) ++ t).size : Nat) : Int), 0) := by
  rw [← ByteArray.append_assoc] at hs ⊢
  have hg := getS_num a t (t.size : Int) (by omega) (by omega) hs
  unfold textAt
  rw [hg]
  simp only [if_true]
  rw [if_pos (inR_iff.2 ⟨by omega, by omega⟩), if_pos (by rw [ByteArray.size_append, ByteArray.size_append]; omega), ByteArray.size_append]
  refine Prod.ext (bytes_ext ?_) (Prod.ext (by simp only []; omega) rfl)
  simp only []
  rw [data_cut, show (((a.size + (numS (t.size : Int)).size : Nat) : Int)).toNat = a.size + (numS (t.size : Int)).size by omega, data_append, data_append]
  rw [List.take_of_length_le (by rw [List.length_append, List.length_append, len_data, len_data, len_data]; omega)]
  rw [List.drop_append_of_le_length (by rw [List.length_append, len_data, len_data]; omega), List.drop_of_length_le (by rw [List.length_append, len_data, len_data]; omega), List.nil_append]
theorem textAt_cut (t : ByteArray) (h : t.size ≤ 8000) (hs : (numS (t.size : Int) ++ t).size ≤ 8000) :
    (textAt ((numS (t.size : Int) ++ t).extract 0 ((numS (t.size : Int) ++ t).size - 1)) 0).2.2 = 4 := by
  have hp := enc7_pos (zig (t.size : Int))
  rw [← numS_len] at hp
  rcases Nat.eq_zero_or_pos t.size with h0 | h0
  · have ht : t.data.toList = [] := List.eq_nil_of_length_eq_zero (by rw [len_data]; exact h0)
    have h4 := getS_cut (t.size : Int) (by omega) (by omega) ((numS (t.size : Int) ++ t).extract 0 ((numS (t.size : Int) ++ t).size - 1)) (by
      rw [data_cut, data_append, ht, List.append_nil, List.drop_zero, ByteArray.size_append, h0, Nat.add_zero])
    unfold textAt
    rw [if_neg (by omega)]
    exact h4
  · have he : (numS (t.size : Int) ++ t).extract 0 ((numS (t.size : Int) ++ t).size - 1) = (⟨#[]⟩ : ByteArray) ++ numS (t.size : Int) ++ t.extract 0 (t.size - 1) := by
      apply bytes_ext
      rw [data_cut, data_append, data_append, data_append, data_cut, List.drop_zero, List.drop_zero, ByteArray.size_append, List.take_append, len_data]
      rw [List.take_of_length_le (by rw [len_data]; omega), show (numS (t.size : Int)).size + t.size - 1 - (numS (t.size : Int)).size = t.size - 1 by omega]
      rfl
    have hz : (t.extract 0 (t.size - 1)).size = t.size - 1 := by rw [ByteArray.size_extract]; omega
    have hs2 : ((⟨#[]⟩ : ByteArray) ++ numS (t.size : Int) ++ t.extract 0 (t.size - 1)).size = (numS (t.size : Int)).size + (t.size - 1) := by
      rw [ByteArray.size_append, ByteArray.size_append, hz, show (⟨#[]⟩ : ByteArray).size = 0 from rfl]; omega
    rw [ByteArray.size_append] at hs
    have hg := getS_num (⟨#[]⟩ : ByteArray) (t.extract 0 (t.size - 1)) (t.size : Int) (by omega) (by omega) (by omega)
    rw [show ((⟨#[]⟩ : ByteArray).size : Int) = 0 from rfl, show (⟨#[]⟩ : ByteArray).size = 0 from rfl] at hg
    rw [he]
    unfold textAt
    rw [hg]
    simp only [if_true]
    rw [if_pos (inR_iff.2 ⟨by omega, by omega⟩), if_neg (by rw [hs2]; omega)]

theorem drawNum (l : List Int) (hl : l.length ≤ 9223372036854775807) : ∃ n, Ev (fun k => spec_DrawPutNum.f k l) n ∧ -9223372036854775808 ≤ n ∧ n ≤ 9223372036854775807 := by
  obtain ⟨m, z, h, _, _⟩ := src_source l hl
  obtain ⟨r, p, m', h2, h3, h4, _, _⟩ := src_any l 0 m z hl (by omega) (by omega)
  exact ⟨r, Ev.congr (fun k => rfl) (Ev.bind h (by simp only []; rw [h2, Option.bind_some]; exact Ev.now _)), h3, h4⟩
theorem drawText (l : List Int) (hl : l.length ≤ 9223372036854775807) : ∃ t, Ev (fun k => spec_DrawPutText.f k l) t ∧ t.size ≤ 20001 := by
  obtain ⟨m, z, h, _, _⟩ := src_source l hl
  obtain ⟨c, p, m1, h2, h3, h4⟩ := src_one l 0 m z 8 hl (by omega) (by omega) (by omega)
  cases c
  · obtain ⟨r, p2, m2, h5, h6, h7, h8, h9⟩ := src_n l p m1 z 20 hl h3 h4 (by omega)
    obtain ⟨t, p3, m3, hE, ht, _, _⟩ := src_bytes l z r h6 (by omega) hl p2 m2 h8 h9
    refine ⟨t, Ev.congr (fun k => rfl) (Ev.bind h (evSome h2 (evElse Bool.false_ne_true (evSome h5 (Ev.bind hE (Ev.now _)))))), by omega⟩
  · obtain ⟨r, p2, m2, h5, h6, h7, h8, h9⟩ := src_n l p m1 z 3 hl h3 h4 (by omega)
    refine ⟨_, Ev.congr (fun k => rfl) (Ev.bind h (evSome h2 (evIf rfl (evSome h5 (by
      simp only []
      rw [wrap_id (x := 19999 + r) (by omega) (by omega), if_pos (by omega), if_pos (by omega)]; exact Ev.now _))))), ?_⟩
    rw [strOfNums_size, List.length_replicate]; omega
theorem FnNums : laws_FnNums.Goal := by
  intro l0 l1 hl0 _ hl1 _
  have last : ∀ k, laws_FnNums.j0 (k + 1) l0 l1 true = some true := fun k => by simp only [laws_FnNums.j0]; rw [if_pos trivial]
  by_cases hb : (l0.length : Int) > 1048576
  · exact ⟨1, by simp only [laws_FnNums.f]; rw [if_pos hb]; exact last 0⟩
  by_cases hb2 : (l1.length : Int) > 1048576
  · exact ⟨1, by simp only [laws_FnNums.f]; rw [if_neg hb, decide_eq_true hb2]; exact last 0⟩
  obtain ⟨n, hn, n0, n1⟩ := drawNum l0 hl0
  obtain ⟨u, hu, hu1⟩ := drawText l1 hl1
  have hz := numS_size n n0 n1
  have hp : 0 < (numS n).size := by rw [numS_len]; exact enc7_pos _
  -- the text
  have t2 : Ev (fun k => laws_FnNums.j2 k l1 false) true := by
    refine Ev.step (fun k => by simp only [laws_FnNums.j2]; rw [if_neg (by decide)]) (Ev.bind hu (Ev.bind (implPutText_ev u (by omega)) (Ev.bind (specPutText_ev u (by omega)) (evIf rfl ?_))))
    by_cases he : (textS u).toList = []
    · rw [show ((textS u).toList == ([] : List UInt8)) = true by rw [he]; rfl]
      refine Ev.step (fun k => by simp only [laws_FnNums.j3]; rw [if_pos trivial]) (Ev.bind (specPutText_ev u (by omega)) ?_)
      rw [beq_self_eq_true]; exact Ev.now _
    · rw [show ((textS u).toList == ([] : List UInt8)) = false by simpa using he]
      have hs8 : u.size ≤ 8000 := by
        rcases Nat.lt_or_ge 8000 u.size with h | h
        · exact absurd (by unfold textS; rw [if_pos h, toList_data]) he
        · exact h
      have hsz := numS_size (u.size : Int) (by omega) (by omega)
      rw [textS_small hs8]
      have hsum : (numS (u.size : Int) ++ u).size = (numS (u.size : Int)).size + u.size := ByteArray.size_append ..
      have hpz : 0 < (numS (u.size : Int)).size := by rw [numS_len]; exact enc7_pos _
      have hw : wrap64 (((numS (u.size : Int) ++ u).size : Int) + 1) = (((numS (u.size : Int) ++ u).size + 1 : Nat) : Int) := by rw [wrap_id (by omega) (by omega)]; omega
      by_cases h8 : (numS (u.size : Int) ++ u).size + 1 > 8000
      · refine Ev.step (f := fun _ => some true) (fun k => ?_) (Ev.now _)
        simp only [laws_FnNums.j3]; rw [if_neg (by decide), if_pos (by rw [hw]; omega)]
      · have hb1 := textAt_back (⟨#[120]⟩ : ByteArray) u hs8 (by rw [ByteArray.size_append, show (⟨#[120]⟩ : ByteArray).size = 1 from rfl]; omega)
        have hb2 := textAt_cut u hs8 (by omega)
        have e1 := implGetText_ev ((⟨#[120]⟩ : ByteArray) ++ (numS (u.size : Int) ++ u)) 1 (by omega)
        rw [show (1 : Int) = ((⟨#[120]⟩ : ByteArray).size : Int) from rfl, hb1] at e1
        replace e1 : Ev (fun k => impl_GetText.f k ((⟨#[120]⟩ : ByteArray) ++ (numS (u.size : Int) ++ u)) 1) (u, ((1 + (numS (u.size : Int) ++ u).size : Nat) : Int), 0) := e1
        have e2 := implGetText_ev ((numS (u.size : Int) ++ u).extract 0 ((numS (u.size : Int) ++ u).size - 1)) 0 (by omega)
        refine Ev.step (fun k => by simp only [laws_FnNums.j3]; rw [if_neg (by decide), if_neg (by rw [hw]; omega), if_pos (by omega)]) (Ev.bind e1 ?_)
        simp only []
        refine evIf (by rw [hw, beq_self_eq_true, Nat.add_comm, beq_self_eq_true]; rfl) ?_
        have hx : wrap64 (((numS (u.size : Int) ++ u).size : Int) - 1) = (((numS (u.size : Int) ++ u).size - 1 : Nat) : Int) := by rw [wrap_id (by omega) (by omega)]; omega
        rw [hx, Int.toNat_natCast]
        refine evIf (by omega) (evIf (by omega) ?_)
        refine Ev.bind e2 ?_
        rw [hb2]; exact Ev.now _
  -- the number
  have t1 : Ev (fun k => laws_FnNums.j1 k l1 n (numS n) false) true := by
    have hsum : ((⟨#[120, 121]⟩ : ByteArray) ++ numS n).size = 2 + (numS n).size := ByteArray.size_append ..
    have hsum2 : (((⟨#[120, 121]⟩ : ByteArray) ++ numS n) ++ (⟨#[122]⟩ : ByteArray)).size = 2 + (numS n).size + 1 := by rw [ByteArray.size_append, hsum]; rfl
    have e1 := implGetNum_ev (((⟨#[120, 121]⟩ : ByteArray) ++ numS n) ++ (⟨#[122]⟩ : ByteArray)) 2 (by omega)
    rw [show (2 : Int) = ((⟨#[120, 121]⟩ : ByteArray).size : Int) from rfl, getS_num _ _ n n0 n1 (by omega)] at e1
    replace e1 : Ev (fun k => impl_GetNum.f k (((⟨#[120, 121]⟩ : ByteArray) ++ numS n) ++ (⟨#[122]⟩ : ByteArray)) 2) (n, ((2 + (numS n).size : Nat) : Int), 0) := e1
    have e2 := implGetNum_ev ((numS n).extract 0 ((numS n).size - 1)) 0 (by omega)
    have hc := getS_cut n n0 n1 ((numS n).extract 0 ((numS n).size - 1)) (by rw [data_cut, List.drop_zero])
    refine Ev.step (fun k => by simp only [laws_FnNums.j1]; rw [if_neg (by decide), if_pos (by omega), if_pos (by omega)]) (Ev.bind e1 ?_)
    simp only []
    refine evElse (by rw [wrap_id (by omega) (by omega)]; simp; omega) ?_
    have hx : wrap64 (((numS n).size : Int) - 1) = (((numS n).size - 1 : Nat) : Int) := by rw [wrap_id (by omega) (by omega)]; omega
    rw [hx, Int.toNat_natCast]
    refine evIf (by omega) (evIf (by omega) ?_)
    refine Ev.bind e2 ?_
    rw [hc]
    exact t2
  refine Ev.rounds (Ev.congr (fun k => by simp only [laws_FnNums.f]; rw [if_neg hb, decide_eq_false hb2]) ?_)
  refine Ev.step (fun k => by simp only [laws_FnNums.j0]; rw [if_neg (by decide)]) (Ev.bind hn (Ev.bind (implPutNum_ev n n0 n1) (Ev.bind (specPutNum_ev n n0 n1) ?_)))
  refine evIf rfl ?_
  refine evElse (by omega) ?_
  rw [decide_eq_false (by omega)]
  exact t1

end Go.Proofs.Ytkgjikjnciihmaa.Pure
