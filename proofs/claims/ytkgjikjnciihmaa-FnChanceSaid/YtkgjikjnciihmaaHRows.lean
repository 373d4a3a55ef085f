/- Rows of the call's own: a cut of one, cleared behind the cut. -/
import Derived.Test.YtkgjikjnciihmaaWMore
import Derived.Deep.Upon
import Derived.Lib.SliceRun
namespace Go.Proofs.YtkgjikjnciihmaaH
open Go.RowKit Go.Proofs.YtkgjikjnciihmaaW.PrintWords
set_option linter.unusedVariables false
set_option linter.unusedSimpArgs false

theorem setCells_heap (g : Nat) (e : TypeId) : ∀ (vs : List Value) (o : Nat) (w : World) (cur : Array Value), w.heap[g]? = some (.cells cur e (0, 0)) → ∃ cur' : Array Value, (w.setCells g o vs).heap[g]? = some (.cells cur' e (0, 0)) ∧ cur'.size = cur.size ∧ cur'.toList.take o = cur.toList.take o
  | [], o, w, cur, h => ⟨cur, h, rfl, rfl⟩
  | v :: vs, o, w, cur, h => by
    obtain ⟨cur', h1, h2, h3⟩ := setCells_heap g e vs (o + 1) (w.setCell ⟨g, o, none⟩ v) _ (blk_set h o v)
    refine ⟨cur', h1, by rw [h2]; simp, ?_⟩
    have h4 := congrArg (List.take o) h3
    rw [List.take_take, List.take_take, Nat.min_eq_left (by omega)] at h4
    rw [h4, Array.toList_setIfInBounds, List.take_set, List.set_eq_of_length_le (by rw [List.length_take]; omega)]
/-- .. and what stands where then. -/
theorem setCells_get (g : Nat) (e : TypeId) : ∀ (vs : List Value) (o : Nat) (w : World) (cur : Array Value), w.heap[g]? = some (.cells cur e (0, 0)) → o + vs.length ≤ cur.size → ∃ cur' : Array Value, (w.setCells g o vs).heap[g]? = some (.cells cur' e (0, 0)) ∧ cur'.toList = cur.toList.take o ++ vs ++ cur.toList.drop (o + vs.length)
  | [], o, w, cur, h, _ => ⟨cur, h, by simp⟩
  | v :: vs, o, w, cur, h, hs => by
    simp only [List.length_cons] at hs
    obtain ⟨cur', h1, h2⟩ := setCells_get g e vs (o + 1) (w.setCell ⟨g, o, none⟩ v) _ (blk_set h o v) (by simp; omega)
    refine ⟨cur', h1, ?_⟩
    rw [h2, Array.toList_setIfInBounds, List.take_add_one, List.take_set, List.set_eq_of_length_le (by rw [List.length_take]; omega), List.getElem?_set_self (by simp; omega), List.drop_set_of_lt (by omega)]
    simp only [Option.toList_some, List.append_assoc, List.singleton_append, List.cons_append, List.nil_append, List.length_cons]
    rw [show o + 1 + vs.length = o + (vs.length + 1) by omega]
theorem setCells_other (w : World) (g o : Nat) (vs : List Value) {i : Nat} (hi : i < w.heap.size) (hne : i ≠ g) : (w.setCells g o vs).heap[i]? = w.heap[i]? := World.heap_setCells_other w g o vs hi hne
theorem below_setCells {B : Nat} {a : World} {g : Nat} (hg : B ≤ g) : ∀ (vs : List Value) (o : Nat) {w : World}, Below B a w → Below B a (w.setCells g o vs)
  | [], _, _, h => h
  | v :: vs, o, _, h => below_setCells hg vs (o + 1) (h.setCell (p := ⟨g, o, none⟩) hg v)
/-- All blocks of W0 but one are as they were. -/
structure KeepG (W0 : World) (g : Nat) (w : World) : Prop where
  le : W0.heap.size ≤ w.heap.size
  keep : ∀ k, k < W0.heap.size → k ≠ g → w.heap[k]? = W0.heap[k]?
theorem KeepG.of {W0 w : World} (g : Nat) (h : Below W0.heap.size W0 w) : KeepG W0 g w := ⟨h.size, fun k hk _ => h.block k hk⟩
theorem KeepG.below {W0 w w1 : World} {g : Nat} (h : KeepG W0 g w) (hb : Below w.heap.size w w1) : KeepG W0 g w1 := ⟨Nat.le_trans h.le hb.size, fun k hk hne => (hb.block k (Nat.lt_of_lt_of_le hk h.le)).trans (h.keep k hk hne)⟩
theorem KeepG.set {W0 w : World} {g : Nat} (h : KeepG W0 g w) {p : Addr} (hp : p.block = g ∨ W0.heap.size ≤ p.block) (v : Value) : KeepG W0 g (w.setCell p v) :=
  ⟨by simpa [World.setCell] using h.le, fun k hk hne => (Below.heap_setCell w p v k (by rcases hp with hp | hp <;> omega)).trans (h.keep k hk hne)⟩
theorem KeepG.sets {W0 : World} {g : Nat} : ∀ (vs : List Value) (o : Nat) {w : World}, KeepG W0 g w → KeepG W0 g (w.setCells g o vs)
  | [], _, _, h => h
  | v :: vs, o, _, h => KeepG.sets vs (o + 1) (h.set (p := ⟨g, o, none⟩) (.inl rfl) v)
/-- A row, cut at m, after cells from the cut on have been written. -/
theorem R_clear {α : Type} {d : Kd α} {e base : Nat} {ok : Nat → Prop} {w : World} {g n cap : Nat} {xs : List α} (h : d.R e w base ok (.slice (some ⟨g, 0, none⟩) n cap) xs) (m : Nat) (hm : m ≤ n) (o : Nat) (vs : List Value) (ho : m * d.sz ≤ o) :
    d.R e (w.setCells g o vs) base ok (.slice (some ⟨g, 0, none⟩) m cap) (xs.take m) := by
  obtain ⟨hok, inner, ⟨h1, h2⟩, hr⟩ := h
  rcases h2 with ⟨he, h0⟩ | ⟨g', cap', cur, he, hb, hh, hnc, hcm, hcs, ht⟩
  · cases he
  · injection he with ha hn hc
    injection ha with ha
    injection ha with ha
    subst ha
    subst hn
    subst hc
    obtain ⟨cur', hh', hs', ht'⟩ := setCells_heap g e vs o w cur hh
    have hml : (xs.take m).length = m := by rw [List.length_take]; omega
    have hle : m * d.sz ≤ xs.length * d.sz := Nat.mul_le_mul_right _ hm
    refine ⟨hok, inner.take (m * d.sz), ⟨by rw [List.length_take, hml, h1]; omega, .inr ⟨g, cap, cur', by rw [hml], hb, hh', by rw [hml]; omega, hcm, by rw [hs', hcs], ?_⟩⟩, ?_⟩
    · rw [hml, ← ht, List.take_take, Nat.min_eq_left hle]
      have h4 := congrArg (List.take (m * d.sz)) ht'
      rw [List.take_take, List.take_take, Nat.min_eq_left ho] at h4
      exact h4
    · refine ⟨by rw [List.length_take, hml, h1]; omega, fun j p hj => ?_⟩
      have hjm : j < m := by
        rcases Nat.lt_or_ge j m with h | h
        · exact h
        · rw [List.getElem?_eq_none (by rw [hml]; exact h)] at hj; cases hj
      rw [List.getElem?_take_of_lt hjm] at hj
      have hp := hr.2 j p hj
      have hseg : (((inner.take (m * d.sz)).drop (j * d.sz)).take d.sz) = ((inner.drop (j * d.sz)).take d.sz) := by
        rw [List.drop_take, List.take_take]
        congr 1
        have : (j + 1) * d.sz ≤ m * d.sz := Nat.mul_le_mul_right _ hjm
        rw [Nat.succ_mul] at this
        omega
      rw [hseg]
      refine d.M_step hp (fun k hk hlt => setCells_other w g o vs hlt (fun e => hk.2 (by rw [e]; rfl)))
/-! ### parts of what stands for a row -/
theorem reps_take {α : Type} {R : α → List Value → Prop} {sz : Nat} {ps : List α} {cs : List Value} (h : Reps R sz ps cs) (m : Nat) (hm : m ≤ ps.length) : Reps R sz (ps.take m) (cs.take (m * sz)) := by
  have hle : m * sz ≤ ps.length * sz := Nat.mul_le_mul_right _ hm
  have hml : (ps.take m).length = m := by rw [List.length_take]; omega
  refine ⟨by rw [List.length_take, hml, h.1]; omega, fun j p hj => ?_⟩
  have hjm : j < m := by
    rcases Nat.lt_or_ge j m with h' | h'
    · exact h'
    · rw [List.getElem?_eq_none (by rw [hml]; exact h')] at hj; cases hj
  rw [List.getElem?_take_of_lt hjm] at hj
  have hseg : (((cs.take (m * sz)).drop (j * sz)).take sz) = ((cs.drop (j * sz)).take sz) := by
    rw [List.drop_take, List.take_take]
    congr 1
    have : (j + 1) * sz ≤ m * sz := Nat.mul_le_mul_right _ hjm
    rw [Nat.succ_mul] at this
    omega
  rw [hseg]
  exact h.2 j p hj
theorem reps_drop {α : Type} {R : α → List Value → Prop} {sz : Nat} {ps : List α} {cs : List Value} (h : Reps R sz ps cs) (m : Nat) : Reps R sz (ps.drop m) (cs.drop (m * sz)) := by
  refine ⟨by rw [List.length_drop, List.length_drop, h.1, Nat.sub_mul], fun j p hj => ?_⟩
  rw [List.getElem?_drop] at hj
  have := h.2 (m + j) p hj
  rwa [List.drop_drop, ← Nat.add_mul]
theorem reps_app {α : Type} {R : α → List Value → Prop} {sz : Nat} {ps qs : List α} {cs ds : List Value} (h : Reps R sz ps cs) (k : Reps R sz qs ds) : Reps R sz (ps ++ qs) (cs ++ ds) := by
  refine ⟨by rw [List.length_append, List.length_append, h.1, k.1, Nat.add_mul], fun j p hj => ?_⟩
  rcases Nat.lt_or_ge j ps.length with h1 | h1
  · rw [List.getElem?_append_left h1] at hj
    have h2 : j * sz + sz ≤ cs.length := by rw [h.1, ← Nat.succ_mul]; exact Nat.mul_le_mul_right _ h1
    rw [List.drop_append_of_le_length (by omega), List.take_append_of_le_length (by rw [List.length_drop]; omega)]
    exact h.2 j p hj
  · rw [List.getElem?_append_right h1] at hj
    have := k.2 (j - ps.length) p hj
    have e : j * sz = cs.length + (j - ps.length) * sz := by rw [h.1, ← Nat.add_mul]; congr 1; omega
    rw [e, List.drop_append, Nat.add_sub_cancel_left, List.drop_of_length_le (by omega), List.nil_append]
    exact this
/-- A row with x put at place i, in place: what stands from i on is moved by one, then x is laid. -/
theorem R_insert {α : Type} {d : Kd α} {e base : Nat} {ok : Nat → Prop} {w : World} {g n cap : Nat} {xs : List α} (h : d.R e w base ok (.slice (some ⟨g, 0, none⟩) n cap) xs) (i : Nat) (hi : i ≤ n) (hroom : n + 1 ≤ cap) (x : α) (cx : List Value) (hcx : cx.length = d.sz) (hx : ∀ W, d.M W base (fun k => ok k ∧ some k ≠ (Value.slice (some ⟨g, 0, none⟩) (n + 1) cap).ownBlock) x cx) :
    ∃ cs, cs.length = (n - i) * d.sz ∧ (∀ j u, cs[j]? = some u → w.cell? ⟨g, i * d.sz + j, none⟩ = some u) ∧ d.R e ((w.setCells g ((i + 1) * d.sz) cs).setCells g (i * d.sz) cx) base ok (.slice (some ⟨g, 0, none⟩) (n + 1) cap) (xs.take i ++ [x] ++ xs.drop i) := by
  obtain ⟨hok, inner, ⟨h1, h2⟩, hr⟩ := h
  rcases h2 with ⟨he, h0⟩ | ⟨g', cap', cur, he, hb, hh, hnc, hcm, hcs, ht⟩
  · cases he
  · injection he with ha hn hc
    injection ha with ha
    injection ha with ha
    subst ha
    subst hn
    subst hc
    have e1 : (i + 1) * d.sz = i * d.sz + d.sz := Nat.succ_mul _ _
    have e2 : i * d.sz + (xs.length - i) * d.sz = xs.length * d.sz := by rw [← Nat.add_mul]; congr 1; omega
    have e3 : (xs.length + 1) * d.sz ≤ cap * d.sz := Nat.mul_le_mul_right _ hroom
    have e4 : (xs.length + 1) * d.sz = xs.length * d.sz + d.sz := Nat.succ_mul _ _
    have hdl : (inner.drop (i * d.sz)).length = (xs.length - i) * d.sz := by rw [List.length_drop, h1]; omega
    have hcl : cur.toList.length = cap * d.sz := by rw [Array.length_toList, hcs]
    obtain ⟨cur1, hh1, ht1⟩ := setCells_get g e (inner.drop (i * d.sz)) ((i + 1) * d.sz) w cur hh (by omega)
    have hl1 : cur1.toList.length = cap * d.sz := by
      rw [ht1]
      simp only [List.length_append, List.length_take, List.length_drop, hcl, h1]
      omega
    obtain ⟨cur2, hh2, ht2⟩ := setCells_get g e cx (i * d.sz) _ cur1 hh1 (by rw [← Array.length_toList, hl1]; omega)
    refine ⟨inner.drop (i * d.sz), hdl, fun j u hj => ?_, ?_⟩
    · rw [blk_cell hh, ← Array.getElem?_toList]
      rw [List.getElem?_drop, ← ht] at hj
      have hlt : i * d.sz + j < xs.length * d.sz := by
        have := (List.getElem?_eq_some_iff.1 hj).1
        rw [List.length_take] at this
        omega
      rwa [List.getElem?_take_of_lt hlt] at hj
    · have hlen : (xs.take i ++ [x] ++ xs.drop i).length = xs.length + 1 := by
        simp only [List.length_append, List.length_take, List.length_drop, List.length_singleton]; omega
      have hc2 : cur2.toList = (inner.take (i * d.sz) ++ cx ++ inner.drop (i * d.sz)) ++ cur.toList.drop ((xs.length + 1) * d.sz) := by
        have a1 : cur1.toList.take (i * d.sz) = inner.take (i * d.sz) := by
          rw [ht1, List.append_assoc, List.take_append_of_le_length (by rw [List.length_take, hcl]; omega), List.take_take, ← ht, List.take_take]
          congr 1; omega
        have a2 : cur1.toList.drop (i * d.sz + cx.length) = inner.drop (i * d.sz) ++ cur.toList.drop ((xs.length + 1) * d.sz) := by
          rw [ht1, hcx, List.append_assoc, List.drop_append, List.length_take, hcl, List.drop_of_length_le (by rw [List.length_take, hcl]; omega), List.nil_append, show i * d.sz + d.sz - min ((i + 1) * d.sz) (cap * d.sz) = 0 by omega, List.drop_zero, hdl]
          congr 2; omega
        rw [ht2, a1, a2]
        simp only [List.append_assoc]
      refine ⟨hok, inner.take (i * d.sz) ++ cx ++ inner.drop (i * d.sz), ⟨?_, .inr ⟨g, cap, cur2, by rw [hlen], hb, hh2, by rw [hlen]; exact hroom, hcm, ?_, ?_⟩⟩, ?_⟩
      · rw [hlen]
        simp only [List.length_append, List.length_take, List.length_drop, h1, hcx]
        omega
      · rw [← Array.length_toList, hc2]
        simp only [List.length_append, List.length_take, List.length_drop, hcl, h1, hcx]
        omega
      · rw [hlen, hc2, List.take_append_of_le_length (by simp only [List.length_append, List.length_take, List.length_drop, h1, hcx]; omega), List.take_of_length_le (by simp only [List.length_append, List.length_take, List.length_drop, h1, hcx]; omega)]
      · have hm : ∀ p c, d.M w base (fun k => ok k ∧ some k ≠ (Value.slice (some ⟨g, 0, none⟩) xs.length cap).ownBlock) p c → d.M ((w.setCells g ((i + 1) * d.sz) (inner.drop (i * d.sz))).setCells g (i * d.sz) cx) base (fun k => ok k ∧ some k ≠ (Value.slice (some ⟨g, 0, none⟩) (xs.length + 1) cap).ownBlock) p c := fun p c hp => by
          refine d.M_step hp (fun k hk hlt => ?_)
          have hne : k ≠ g := fun e => hk.2 (by rw [e]; rfl)
          have hsz : w.heap.size ≤ (w.setCells g ((i + 1) * d.sz) (inner.drop (i * d.sz))).heap.size := (below_setCells (Nat.zero_le g) (inner.drop (i * d.sz)) _ (Below.refl 0 w)).size
          exact (setCells_other _ g _ _ (Nat.lt_of_lt_of_le hlt hsz) hne).trans (setCells_other w g _ _ hlt hne)
        refine reps_app (reps_app (Reps.imp_ (reps_take hr i hi) hm) ?_) (Reps.imp_ (reps_drop hr i) hm)
        refine ⟨by rw [hcx, List.length_singleton, Nat.one_mul], fun j p hj => ?_⟩
        cases j with
        | zero =>
          simp only [List.getElem?_cons_zero, Option.some.injEq] at hj
          subst hj
          rw [Nat.zero_mul, List.drop_zero, List.take_of_length_le (by omega)]
          exact hx _
        | succ j => simp at hj
/-! ### what is kept, in place -/
theorem keep_at {α : Type} (z : α) (xs ys : List α) (j : Nat) (hj : j < xs.length) (hl : ys.length = xs.length) (hd : ys.drop j = xs.drop j) : xs[j]? = some (ys.getD j z) := by
  have h := congrArg (fun l => l[0]?) hd
  simp only [List.getElem?_drop, Nat.add_zero] at h
  rw [← h]
  simp [List.getD, show j < ys.length by omega]
theorem skip_step {α : Type} (p : α → Bool) (z : α) (xs ys : List α) (i j : Nat) (hj : j < xs.length) (hl : ys.length = xs.length) (ht : ys.take i = (xs.take j).filter p) (hd : ys.drop j = xs.drop j) (hp : p (ys.getD j z) = false) :
    ys.take i = (xs.take (j + 1)).filter p ∧ ys.drop (j + 1) = xs.drop (j + 1) := by
  refine ⟨?_, ?_⟩
  · rw [List.take_add_one, keep_at z xs ys j hj hl hd, List.filter_append, ← ht]
    simp only [Option.toList_some, List.filter_cons, hp, Bool.false_eq_true, if_false, List.filter_nil, List.append_nil]
  · rw [← List.drop_drop, hd, List.drop_drop]
theorem keep_step {α : Type} (p : α → Bool) (z : α) (xs ys : List α) (i j : Nat) (hij : i < j) (hj : j < xs.length) (hl : ys.length = xs.length) (ht : ys.take i = (xs.take j).filter p) (hd : ys.drop j = xs.drop j) (hp : p (ys.getD j z) = true) :
    (ys.set i (ys.getD j z)).length = xs.length ∧ (ys.set i (ys.getD j z)).take (i + 1) = (xs.take (j + 1)).filter p ∧ (ys.set i (ys.getD j z)).drop (j + 1) = xs.drop (j + 1) := by
  refine ⟨by simpa using hl, ?_, ?_⟩
  · rw [List.take_add_one (l := xs), keep_at z xs ys j hj hl hd, List.filter_append, ← ht, List.take_add_one, List.take_set, List.set_eq_of_length_le (by rw [List.length_take]; omega), List.getElem?_set_self (by omega)]
    simp only [Option.toList_some, List.filter_cons, hp, if_true, List.filter_nil]
  · rw [List.drop_set_of_lt (by omega), ← List.drop_drop, hd, List.drop_drop]
section
variable {P : Program}
theorem run_clear_row (w : World) (t e : TypeId) (i : TypeInfo) (z : Value) (ht : P.underlying t = some (.slice e)) (hi : P.info? e = some i) (hz : i.zero = some z) (h1 : ∀ u ∈ z.cells, u.oneCell' = true) (b o n c : Nat)
    (hc : ∀ j, j < n * z.cells.size → (w.cell? ⟨b, o + j, none⟩).isSome = true) (hf : ∀ j, j < n * z.cells.size → w.frozen? ⟨b, o + j, none⟩ = false) :
    ∃ vs, ∀ ty, (Builtin.clear_ #[t] ty #[.slice (some ⟨b, o, none⟩) n c]).run P w = .ok (.tuple #[]) (w.setCells b o vs) := by
  rcases Nat.eq_zero_or_pos n with h0 | h0
  · subst h0
    exact ⟨[], fun ty => by simp [Builtin.clear_, run_underlying ht]; rfl⟩
  · obtain ⟨m, rfl⟩ : ∃ m, n = m + 1 := ⟨n - 1, by omega⟩
    refine ⟨(Builtin.zeroCells z.cells (m + 1)).toList, fun ty => ?_⟩
    have hsz : (Builtin.zeroCells z.cells (m + 1)).toList.length = (m + 1) * z.cells.size := by rw [Array.length_toList, size_zeroCells]
    have hst := run_storeCells_cells (P := P) b o (Builtin.zeroCells z.cells (m + 1)).toList 0 w (by rw [hsz]; simpa using hc) (by rw [hsz]; simpa using hf) (by
      intro v hv
      rw [Array.mem_toList_iff] at hv
      simp only [Builtin.zeroCells, Array.mem_map, Array.mem_range] at hv
      obtain ⟨q, hq, rfl⟩ := hv
      have hpos : 0 < z.cells.size := by
        rcases Nat.eq_zero_or_pos z.cells.size with h | h
        · rw [h] at hq; omega
        · exact h
      rw [getElem!_pos z.cells (q % z.cells.size) (Nat.mod_lt _ hpos)]
      exact h1 _ (Array.getElem_mem _))
    simp only [Nat.add_zero] at hst
    simp [Builtin.clear_, run_underlying ht, zeroValue, typeInfo, hi, hz, hst]
end
end Go.Proofs.YtkgjikjnciihmaaH
