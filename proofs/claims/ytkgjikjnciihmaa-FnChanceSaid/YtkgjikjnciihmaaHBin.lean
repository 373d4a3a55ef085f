/- The place of a number in a row that rises: by halves, and one by one. -/
import Derived.Test.YtkgjikjnciihmaaHSem
namespace Go.Proofs.YtkgjikjnciihmaaH
open Go.RowKit Go.Proofs.YtkgjikjnciihmaaW.PrintWords
set_option linter.unusedVariables false
set_option linter.unusedSimpArgs false

theorem mid_eq {i j : Nat} (h : i + j ≤ 1000000000000) : wrap64 ((IntKind.u64.wrap (wrap64 ((i : Int) + (j : Int)))) / 2) = (((i + j) / 2 : Nat) : Int) := by
  rw [wrap_id (x := (i : Int) + (j : Int)) (by omega) (by omega), u64w, wrap_id (by omega) (by omega)]
  omega
/-- By halves. -/
theorem binLoop {β : Type} (n : Nat) (lt : Nat → Bool) (g : Nat → Int → Int → Option β) (fin : Nat → β)
    (step : ∀ (k i j : Nat), i < j → j ≤ n → g (k + 1) (i : Int) (j : Int) = if lt ((i + j) / 2) = true then g k (((i + j) / 2 + 1 : Nat) : Int) (j : Int) else g k (i : Int) (((i + j) / 2 : Nat) : Int))
    (stop : ∀ (k i : Nat), i ≤ n → g (k + 1) (i : Int) (i : Int) = some (fin i)) :
    ∀ (d i j : Nat), j - i ≤ d → i ≤ j → j ≤ n → ∃ m, i ≤ m ∧ m ≤ j ∧ Ev (fun k => g k (i : Int) (j : Int)) (fin m) ∧ (i < m → lt (m - 1) = true) ∧ (m < j → lt m = false) := by
  intro d
  induction d with
  | zero =>
    intro i j h1 h2 h3
    obtain rfl : i = j := by omega
    exact ⟨i, Nat.le_refl _, Nat.le_refl _, Ev.step (f := fun _ => some (fin i)) (fun k => stop k i h3) (Ev.now _), fun h => absurd h (Nat.lt_irrefl _), fun h => absurd h (Nat.lt_irrefl _)⟩
  | succ d ih =>
    intro i j h1 h2 h3
    by_cases hij : i < j
    · cases hb : lt ((i + j) / 2) with
      | true =>
        obtain ⟨m, a1, a2, a3, a4, a5⟩ := ih ((i + j) / 2 + 1) j (by omega) (by omega) h3
        refine ⟨m, by omega, a2, Ev.step (fun k => by rw [step k i j hij h3, if_pos hb]) a3, fun h => ?_, a5⟩
        by_cases e : (i + j) / 2 + 1 < m
        · exact a4 e
        · rw [show m - 1 = (i + j) / 2 by omega]; exact hb
      | false =>
        obtain ⟨m, a1, a2, a3, a4, a5⟩ := ih i ((i + j) / 2) (by omega) (by omega) (by omega)
        refine ⟨m, a1, by omega, Ev.step (fun k => by rw [step k i j hij h3, if_neg (by rw [hb]; decide)]) a3, a4, fun h => ?_⟩
        by_cases e : m < (i + j) / 2
        · exact a5 e
        · rw [show m = (i + j) / 2 by omega]; exact hb
    · obtain rfl : i = j := by omega
      exact ⟨i, Nat.le_refl _, Nat.le_refl _, Ev.step (f := fun _ => some (fin i)) (fun k => stop k i h3) (Ev.now _), fun h => absurd h (Nat.lt_irrefl _), fun h => absurd h (Nat.lt_irrefl _)⟩
/-- One by one. -/
theorem seekLoop {β : Type} (n : Nat) (lt : Nat → Bool) (g : Nat → Int → Option β) (fin : Nat → β)
    (step : ∀ (k i : Nat), i < n → lt i = true → g (k + 1) (i : Int) = g k ((i + 1 : Nat) : Int))
    (stop : ∀ (k i : Nat), i ≤ n → (i < n → lt i = false) → g (k + 1) (i : Int) = some (fin i)) :
    ∀ (d i : Nat), i + d = n → ∃ m, i ≤ m ∧ m ≤ n ∧ Ev (fun k => g k (i : Int)) (fin m) ∧ (∀ j, i ≤ j → j < m → lt j = true) ∧ (m < n → lt m = false)
  | 0, i, h => ⟨i, Nat.le_refl _, by omega, Ev.step (f := fun _ => some (fin i)) (fun k => stop k i (by omega) (by omega)) (Ev.now _), fun j h1 h2 => by omega, fun h => by omega⟩
  | d + 1, i, h => by
    cases hb : lt i with
    | true =>
      obtain ⟨m, a1, a2, a3, a4, a5⟩ := seekLoop n lt g fin step stop d (i + 1) (by omega)
      refine ⟨m, by omega, a2, Ev.step (fun k => step k i (by omega) hb) a3, fun j h1 h2 => ?_, a5⟩
      by_cases e : j = i
      · rw [e]; exact hb
      · exact a4 j (by omega) h2
    | false => exact ⟨i, Nat.le_refl _, by omega, Ev.step (f := fun _ => some (fin i)) (fun k => stop k i (by omega) (fun _ => hb)) (Ev.now _), fun j h1 h2 => by omega, fun _ => hb⟩
theorem takeWhile_at {α : Type} (p : α → Bool) (z : α) : ∀ (l : List α) (m : Nat), m ≤ l.length → (∀ j, j < m → p (l.getD j z) = true) → (m < l.length → p (l.getD m z) = false) → l.takeWhile p = l.take m ∧ l.dropWhile p = l.drop m
  | [], m, h, _, _ => by simp
  | x :: l, 0, h, h1, h2 => by
    have := h2 (by simp)
    simp only [List.getD_cons_zero] at this
    simp [List.takeWhile_cons, List.dropWhile_cons, this]
  | x :: l, m + 1, h, h1, h2 => by
    have h0 := h1 0 (by omega)
    simp only [List.getD_cons_zero] at h0
    have ih := takeWhile_at p z l m (by simpa using h) (fun j hj => by have := h1 (j + 1) (by omega); rwa [List.getD_cons_succ] at this) (fun hm => by have := h2 (by simpa using hm); rwa [List.getD_cons_succ] at this)
    simp [List.takeWhile_cons, List.dropWhile_cons, h0, ih.1, ih.2]
/-- An element put behind those for which p holds. -/
def putW {α : Type} (p : α → Bool) (x : α) (l : List α) : List α := l.takeWhile p ++ [x] ++ l.dropWhile p
theorem putW_length {α : Type} (p : α → Bool) (x : α) (l : List α) : (putW p x l).length = l.length + 1 := by
  have := congrArg List.length (List.takeWhile_append_dropWhile (p := p) (l := l))
  simp only [putW, List.length_append, List.length_singleton] at this ⊢
  omega
theorem putW_at {α : Type} (p : α → Bool) (z x : α) (l : List α) (m : Nat) (h : m ≤ l.length) (h1 : ∀ j, j < m → p (l.getD j z) = true) (h2 : m < l.length → p (l.getD m z) = false) : l.take m ++ [x] ++ l.drop m = putW p x l := by
  have := takeWhile_at p z l m h h1 h2
  rw [putW, this.1, this.2]
end Go.Proofs.YtkgjikjnciihmaaH
