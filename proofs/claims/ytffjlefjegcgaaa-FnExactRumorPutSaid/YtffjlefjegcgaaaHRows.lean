/- Rows of the call's own: a cut of one, cleared behind the cut. -/
import Derived.Test.YtffjlefjegcgaaaWMore
import Derived.Deep.Upon
import Derived.Lib.SliceRun
namespace Go.Proofs.YtffjlefjegcgaaaH
open Go.RowKit Go.Proofs.YtffjlefjegcgaaaW.PrintWords
set_option linter.unusedVariables false
set_option linter.unusedSimpArgs false

theorem setCells_heap (g : Nat) (e : TypeId) : ∀ (vs : List Value) (o : Nat) (w : World) (cur : Array Value), w.heap[g]? = some (.cells cur e (0, 0)) → ∃ cur' : Array Value, (w.setCells g o vs).heap[g]? = some (.cells cur' e (0, 0)) ∧ cur'.size = cur.size ∧ cur'.toList.take o = cur.toList.take o
  | [], o, w, cur, h => ⟨cur, h, rfl, rfl⟩
  | v :: vs, o, w, cur, h => by
    obtain ⟨cur', h1, h2, h3⟩ := setCells_heap g e vs (o + 1) (w.setCell ⟨g, o, none⟩ v) _ (blk_set h o v)
    refine ⟨cur', h1, by rw [h2]; simp, ?_⟩
    have h4 := congrArg (List.take o) h3
    rw [List.take_take, List.take_take, Nat.min_eq_left (by omega)] at h4
    rw [h4, Array.toList_setIfInBounds, List.take_set, List.set_eq_of_length_le (by rw [List.length_take]; omega)]
theorem setCells_other (w : World) (g o : Nat) (vs : List Value) {i : Nat} (hi : i < w.heap.size) (hne : i ≠ g) : (w.setCells g o vs).heap[i]? = w.heap[i]? := World.heap_setCells_other w g o vs hi hne
theorem below_setCells {B : Nat} {a : World} {g : Nat} (hg : B ≤ g) : ∀ (vs : List Value) (o : Nat) {w : World}, Below B a w → Below B a (w.setCells g o vs)
  | [], _, _, h => h
  | v :: vs, o, _, h => below_setCells hg vs (o + 1) (h.setCell (p := ⟨g, o, none⟩) hg v)
/-- A row, cut at m, after cells from the cut on have been written. -/
theorem R_clear {α : Type} {d : Kd α} {e base : Nat} {ok : Nat → Prop} {w : World} {g n cap : Nat} {xs : List α} (h : d.R e w base ok (.slice (some ⟨g, 0, none⟩) n cap) xs) (m : Nat) (hm : m ≤ n) (o : Nat) (vs : List Value) (ho : m * d.sz ≤ o) :
    d.R e (w.setCells g o vs) base ok (.slice (some ⟨g, 0, none⟩) m cap) (xs.take m) := by
  obtain ⟨hok, inner, ⟨h1, h2⟩, hr⟩ := h
  rcases h2 with ⟨he, h0⟩ | ⟨g', cap', cur, he, hb, hh, hnc, hcm, hcs, ht⟩
  · cases he
  · injection he with ha hn hc
    injection ha with ha
    injection ha with ha
    subst ha
    subst hn
    subst hc
    obtain ⟨cur', hh', hs', ht'⟩ := setCells_heap g e vs o w cur hh
    have hml : (xs.take m).length = m := by rw [List.length_take]; omega
    have hle : m * d.sz ≤ xs.length * d.sz := Nat.mul_le_mul_right _ hm
    refine ⟨hok, inner.take (m * d.sz), ⟨by rw [List.length_take, hml, h1]; omega, .inr ⟨g, cap, cur', by rw [hml], hb, hh', by rw [hml]; omega, hcm, by rw [hs', hcs], ?_⟩⟩, ?_⟩
    · rw [hml, ← ht, List.take_take, Nat.min_eq_left hle]
      have h4 := congrArg (List.take (m * d.sz)) ht'
      rw [List.take_take, List.take_take, Nat.min_eq_left ho] at h4
      exact h4
    · refine ⟨by rw [List.length_take, hml, h1]; omega, fun j p hj => ?_⟩
      have hjm : j < m := by
        rcases Nat.lt_or_ge j m with h | h
        · exact h
        · rw [List.getElem?_eq_none (by rw [hml]; exact h)] at hj; cases hj
      rw [List.getElem?_take_of_lt hjm] at hj
      have hp := hr.2 j p hj
      have hseg : (((inner.take (m * d.sz)).drop (j * d.sz)).take d.sz) = ((inner.drop (j * d.sz)).take d.sz) := by
        rw [List.drop_take, List.take_take]
        congr 1
        have : (j + 1) * d.sz ≤ m * d.sz := Nat.mul_le_mul_right _ hjm
        rw [Nat.succ_mul] at this
        omega
      rw [hseg]
      refine d.M_step hp (fun k hk hlt => setCells_other w g o vs hlt (fun e => hk.2 (by rw [e]; rfl)))
/-! ### what is kept, in place -/
theorem keep_at {α : Type} (z : α) (xs ys : List α) (j : Nat) (hj : j < xs.length) (hl : ys.length = xs.length) (hd : ys.drop j = xs.drop j) : xs[j]? = some (ys.getD j z) := by
  have h := congrArg (fun l => l[0]?) hd
  simp only [List.getElem?_drop, Nat.add_zero] at h
  rw [← h]
  simp [List.getD, show j < ys.length by omega]
theorem skip_step {α : Type} (p : α → Bool) (z : α) (xs ys : List α) (i j : Nat) (hj : j < xs.length) (hl : ys.length = xs.length) (ht : ys.take i = (xs.take j).filter p) (hd : ys.drop j = xs.drop j) (hp : p (ys.getD j z) = false) :
    ys.take i = (xs.take (j + 1)).filter p ∧ ys.drop (j + 1) = xs.drop (j + 1) := by
  refine ⟨?_, ?_⟩
  · rw [List.take_add_one, keep_at z xs ys j hj hl hd, List.filter_append, ← ht]
    simp only [Option.toList_some, List.filter_cons, hp, Bool.false_eq_true, if_false, List.filter_nil, List.append_nil]
  · rw [← List.drop_drop, hd, List.drop_drop]
theorem keep_step {α : Type} (p : α → Bool) (z : α) (xs ys : List α) (i j : Nat) (hij : i < j) (hj : j < xs.length) (hl : ys.length = xs.length) (ht : ys.take i = (xs.take j).filter p) (hd : ys.drop j = xs.drop j) (hp : p (ys.getD j z) = true) :
    (ys.set i (ys.getD j z)).length = xs.length ∧ (ys.set i (ys.getD j z)).take (i + 1) = (xs.take (j + 1)).filter p ∧ (ys.set i (ys.getD j z)).drop (j + 1) = xs.drop (j + 1) := by
  refine ⟨by simpa using hl, ?_, ?_⟩
  · rw [List.take_add_one (l := xs), keep_at z xs ys j hj hl hd, List.filter_append, ← ht, List.take_add_one, List.take_set, List.set_eq_of_length_le (by rw [List.length_take]; omega), List.getElem?_set_self (by omega)]
    simp only [Option.toList_some, List.filter_cons, hp, if_true, List.filter_nil]
  · rw [List.drop_set_of_lt (by omega), ← List.drop_drop, hd, List.drop_drop]
section
variable {P : Program}
theorem run_clear_row (w : World) (t e : TypeId) (i : TypeInfo) (z : Value) (ht : P.underlying t = some (.slice e)) (hi : P.info? e = some i) (hz : i.zero = some z) (h1 : ∀ u ∈ z.cells, u.oneCell' = true) (b o n c : Nat)
    (hc : ∀ j, j < n * z.cells.size → (w.cell? ⟨b, o + j, none⟩).isSome = true) (hf : ∀ j, j < n * z.cells.size → w.frozen? ⟨b, o + j, none⟩ = false) :
    ∃ vs, ∀ ty, (Builtin.clear_ #[t] ty #[.slice (some ⟨b, o, none⟩) n c]).run P w = .ok (.tuple #[]) (w.setCells b o vs) := by
  rcases Nat.eq_zero_or_pos n with h0 | h0
  · subst h0
    exact ⟨[], fun ty => by simp [Builtin.clear_, run_underlying ht]; rfl⟩
  · obtain ⟨m, rfl⟩ : ∃ m, n = m + 1 := ⟨n - 1, by omega⟩
    refine ⟨(Builtin.zeroCells z.cells (m + 1)).toList, fun ty => ?_⟩
    have hsz : (Builtin.zeroCells z.cells (m + 1)).toList.length = (m + 1) * z.cells.size := by rw [Array.length_toList, size_zeroCells]
    have hst := run_storeCells_cells (P := P) b o (Builtin.zeroCells z.cells (m + 1)).toList 0 w (by rw [hsz]; simpa using hc) (by rw [hsz]; simpa using hf) (by
      intro v hv
      rw [Array.mem_toList_iff] at hv
      simp only [Builtin.zeroCells, Array.mem_map, Array.mem_range] at hv
      obtain ⟨q, hq, rfl⟩ := hv
      have hpos : 0 < z.cells.size := by
        rcases Nat.eq_zero_or_pos z.cells.size with h | h
        · rw [h] at hq; omega
        · exact h
      rw [getElem!_pos z.cells (q % z.cells.size) (Nat.mod_lt _ hpos)]
      exact h1 _ (Array.getElem_mem _))
    simp only [Nat.add_zero] at hst
    simp [Builtin.clear_, run_underlying ht, zeroValue, typeInfo, hi, hz, hst]
end
end Go.Proofs.YtffjlefjegcgaaaH
