/- The plain law of FnExactPutText: what the Lean functions of the printed texts answer. -/
import Derived.Test.YtjgojfdninlcbaaGFnExactPutText
import Derived.Test.YtjgojfdninlcbaaHSem
namespace Go.Proofs.Ytjgojfdninlcbaa.Pure
open Go.RowKit Go.Proofs.Ytjgojfdninlcbaa.PFnExactPutText Go.Proofs.YtjgojfdninlcbaaW.PrintWords Go.Proofs.YtjgojfdninlcbaaW.PrintLast Go.Proofs.YtjgojfdninlcbaaW.PrintMore Go.Proofs.YtjgojfdninlcbaaH
set_option linter.unusedVariables false
set_option linter.unusedSimpArgs false

theorem specFold_eq (n : Int) (h0 : -9223372036854775808 ≤ n) (h1 : n ≤ 9223372036854775807) : spec_l01Fold.f n = some ((zig n : Nat) : Int) := by
  unfold spec_l01Fold.f zig
  simp only [u64w]
  split
  · rw [wrap_id (x := n + 1) (by omega) (by omega), wrap_id (by omega) (by omega)]
    congr 1; omega
  · congr 1; omega
theorem specPutNum_l0 : ∀ (j u : Nat) (xs : List Int), u < 128 ^ (j + 1) → u < 18446744073709551616 → xs.length + j < 1000 → Ev (fun k => spec_PutNum.l0 k (u : Int) xs) (strOfNums (xs ++ enc7 u))
  | j, u, xs, h, hu, hx => by
    by_cases hs : u < 128
    · refine Ev.step (f := fun _ => some (strOfNums (xs ++ [(u : Int)]))) (fun k => ?_) (by rw [enc7_small hs]; exact Ev.now _)
      simp only [spec_PutNum.l0]
      rw [if_neg (by omega), if_pos (by omega), show (u : Int) % 256 = u by omega]
    · match j, h, hx with
      | 0, h, _ => omega
      | j + 1, h, hx =>
        have e : (u : Int).tdiv 128 = ((u / 128 : Nat) : Int) := by rw [Int.tdiv_eq_ediv_of_nonneg (by omega)]; omega
        have e2 : (u : Int).tmod 128 = ((u % 128 : Nat) : Int) := by rw [Int.tmod_eq_emod_of_nonneg (by omega)]; omega
        refine Ev.step (f := fun k => spec_PutNum.l0 k ((u / 128 : Nat) : Int) (xs ++ [((u % 128 + 128 : Nat) : Int)])) (fun k => ?_) (by
          have := specPutNum_l0 j (u / 128) (xs ++ [((u % 128 + 128 : Nat) : Int)]) (by rw [Nat.pow_succ] at h; omega) (by omega) (by simp; omega)
          rw [enc7_big hs]
          simpa using this)
        simp only [spec_PutNum.l0]
        rw [if_pos (by omega), if_pos (by omega), e, e2, u64w, u64w]
        rw [show ((u / 128 : Nat) : Int) % 18446744073709551616 = ((u / 128 : Nat) : Int) by omega, show (((u % 128 : Nat) : Int) + 128) % 18446744073709551616 % 256 = ((u % 128 + 128 : Nat) : Int) by omega]
theorem specPutNum_ev (n : Int) (h0 : -9223372036854775808 ≤ n) (h1 : n ≤ 9223372036854775807) : Ev (fun k => spec_PutNum.f k n) (numS n) := by
  have hz := zig_lt h0 h1
  have := specPutNum_l0 9 (zig n) [] (by omega) hz (by simp)
  refine Ev.congr (fun k => ?_) this
  simp only [spec_PutNum.f, specFold_eq n h0 h1, Option.bind_some]

theorem implPutNum_l0 : ∀ (j u : Nat) (xs : List Int), u < 128 ^ (j + 1) → u < 18446744073709551616 → xs.length + j < 1000 → Ev (fun k => impl_PutNum.l0 k (u : Int) xs) (strOfNums (xs ++ enc7 u))
  | j, u, xs, h, hu, hx => by
    by_cases hs : u < 128
    · refine Ev.step (f := fun _ => some (strOfNums (xs ++ [(u : Int)]))) (fun k => ?_) (by rw [enc7_small hs]; exact Ev.now _)
      simp only [impl_PutNum.l0]
      rw [if_neg (by omega), if_pos (by omega), show (u : Int) % 256 = u by omega]
    · match j, h, hx with
      | 0, h, _ => omega
      | j + 1, h, hx =>
        have e := or128 ((u : Int) % 256) (by omega) (by omega)
        refine Ev.step (f := fun k => impl_PutNum.l0 k ((u / 128 : Nat) : Int) (xs ++ [((u % 128 + 128 : Nat) : Int)])) (fun k => ?_) (by
          have := implPutNum_l0 j (u / 128) (xs ++ [((u % 128 + 128 : Nat) : Int)]) (by rw [Nat.pow_succ] at h; omega) (by omega) (by simp; omega)
          rw [enc7_big hs]
          simpa using this)
        simp only [impl_PutNum.l0]
        rw [if_pos (by omega), if_pos (by omega), e]
        rw [show (u : Int) / 128 = ((u / 128 : Nat) : Int) by omega, show (u : Int) % 256 % 128 + 128 = ((u % 128 + 128 : Nat) : Int) by omega]
theorem implPutNum_ev (n : Int) (h0 : -9223372036854775808 ≤ n) (h1 : n ≤ 9223372036854775807) : Ev (fun k => impl_PutNum.f k n) (numS n) := by
  have hz := zig_lt h0 h1
  have := implPutNum_l0 9 (zig n) [] (by omega) hz (by simp)
  by_cases hn : n < 0
  · refine Ev.congr (f := fun k => impl_PutNum.j0 k ((zig n : Nat) : Int)) (fun k => ?_) (Ev.step (fun k => rfl) this)
    simp only [impl_PutNum.f]
    rw [if_pos hn, u64w, u64w]
    have e : n % 18446744073709551616 * 2 % 18446744073709551616 = (((2 * n + 18446744073709551616).toNat : Nat) : Int) := by omega
    rw [e, not64 _ (by omega)]
    congr 1
    unfold zig
    rw [if_pos hn]
    omega
  · refine Ev.congr (f := fun k => impl_PutNum.j0 k ((zig n : Nat) : Int)) (fun k => ?_) (Ev.step (fun k => rfl) this)
    simp only [impl_PutNum.f]
    rw [if_neg hn, u64w, u64w]
    congr 1
    unfold zig
    rw [if_neg hn]
    omega

/-- PutText. -/
def textS (t : ByteArray) : ByteArray := if t.size > 8000 then ⟨#[]⟩ else numS (t.size : Int) ++ t
theorem numS_size (n : Int) (h0 : -9223372036854775808 ≤ n) (h1 : n ≤ 9223372036854775807) : (numS n).size ≤ 10 := by
  have key : ∀ (j u : Nat), u < 128 ^ (j + 1) → (enc7 u).length ≤ j + 1 := by
    intro j
    induction j with
    | zero => intro u h; rw [enc7_small (by omega)]; simp
    | succ j ih =>
      intro u h
      by_cases hs : u < 128
      · rw [enc7_small hs]; simp
      · rw [enc7_big hs]
        have := ih (u / 128) (by rw [Nat.pow_succ] at h; omega)
        simp; omega
  unfold numS
  rw [strOfNums_size]
  exact key 9 _ (by have := zig_lt h0 h1; omega)
theorem specPutText_ev (t : ByteArray) (ht : t.size ≤ 140737488355328) : Ev (fun k => spec_PutText.f k t) (textS t) := by
  unfold textS
  by_cases h : t.size > 8000
  · refine Ev.congr (f := fun _ => some _) (fun k => ?_) (by rw [if_pos h]; exact Ev.now _)
    simp only [spec_PutText.f]; rw [if_pos (by omega)]
  · rw [if_neg h]
    refine Ev.congr (fun k => by simp only [spec_PutText.f]; rw [if_neg (by omega)]) (Ev.bind (specPutNum_ev (t.size : Int) (by omega) (by omega)) ?_)
    have := numS_size (t.size : Int) (by omega) (by omega)
    rw [if_pos (by omega)]
    exact Ev.now _
theorem implPutText_ev (t : ByteArray) (ht : t.size ≤ 140737488355328) : Ev (fun k => impl_PutText.f k t) (textS t) := by
  unfold textS
  by_cases h : t.size > 8000
  · refine Ev.congr (f := fun _ => some _) (fun k => ?_) (by rw [if_pos h]; exact Ev.now _)
    simp only [impl_PutText.f, impl_longText.f, Option.bind_some]; rw [if_pos (by rw [decide_eq_true_eq]; omega)]
  · rw [if_neg h]
    refine Ev.congr (fun k => by simp only [impl_PutText.f, impl_longText.f, Option.bind_some]; rw [if_neg (by rw [decide_eq_true_eq]; omega)]) (Ev.bind (implPutNum_ev (t.size : Int) (by omega) (by omega)) ?_)
    have := numS_size (t.size : Int) (by omega) (by omega)
    rw [if_pos (by omega)]
    exact Ev.now _
theorem FnExactPutText : laws_FnExactPutText.Goal := by
  intro s _
  by_cases hb : (s.size : Int) > 1048576
  · exact ⟨0, by simp only [laws_FnExactPutText.f]; rw [if_pos hb]⟩
  · refine Ev.rounds (Ev.congr (fun k => by simp only [laws_FnExactPutText.f]; rw [if_neg hb]) (Ev.bind (specPutText_ev s (by omega)) (Ev.bind (implPutText_ev s (by omega)) ?_)))
    simpa using Ev.now _

end Go.Proofs.Ytjgojfdninlcbaa.Pure
