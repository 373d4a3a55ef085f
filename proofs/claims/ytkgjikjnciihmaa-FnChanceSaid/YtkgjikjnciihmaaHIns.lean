/- An element put into a row of the call's own: what stands there, in place and in a new row; copy at elements of several cells. -/
import Derived.Test.YtkgjikjnciihmaaHRows
import Derived.Lib.Overlaps
import Derived.Lib.AppendZerosOnto
import Derived.Lib.AppendZeros
import Derived.Laws.Externs
import Derived.Laws.IdiomCopy
import Derived.Laws.NewBlocks
import Derived.Deep.AppendSrc
import Derived.Shelf.RegionOpenPlain
import Derived.Lib.Walk
namespace Go.Proofs.YtkgjikjnciihmaaH
open Go.RowKit Go.Proofs.YtkgjikjnciihmaaW.PrintWords
set_option linter.unusedVariables false
set_option linter.unusedSimpArgs false

theorem drew_setCells (b : Nat) : ∀ (vs : List Value) (o : Nat) (w : World), (w.setCells b o vs).drew = w.drew.setCells b o vs
  | [], _, _ => rfl
  | v :: r, o, w => by rw [World.setCells, World.setCells, drew_setCells b r]; rfl
theorem isSome_setCells (b : Nat) (vs : List Value) (o : Nat) (w : World) (h : ∀ j, j < vs.length → (w.cell? ⟨b, o + j, none⟩).isSome = true) (k : Nat) (hk : (w.cell? ⟨b, k, none⟩).isSome = true) : ((w.setCells b o vs).cell? ⟨b, k, none⟩).isSome = true := by
  by_cases hin : o ≤ k ∧ k < o + vs.length
  · have := World.cell?_setCells_in b vs o w h (k - o) (by omega)
    rw [show o + (k - o) = k by omega] at this
    rw [this]; rfl
  · rw [World.cell?_setCells_out b vs o w ⟨b, k, none⟩ (fun _ _ => by show k < o ∨ o + vs.length ≤ k; omega)]
    exact hk
section
variable {P : Program}
theorem wp_copy_runI (w : World) {o : Oper} {a : Act} {K : Act → World → Prop} {Q : Exit → Act → World → Prop} (d s : Operand) (t t' : TypeId)
    (ho : o.op = .call { callee := .builtin .copy, args := #[d, s], argTypes := #[t, t'] }) (v u : Value) (hd : a.eval d = v) (hs : a.eval s = u) {v' : Value} {w' : World}
    (hr : (Builtin.copy_ #[t, t'] o.type #[v, u]).run P w = .ok v' w') (h : K (a.put o.dst v') w') : o.wp P a w K Q := by
  unfold Oper.wp execOp
  simp only [ho, resolve, invoke, builtin, Sem.run_bind, Sem.run_pure, Result.andThen_ok, List.map_toArray, List.map_cons, List.map_nil, hd, hs, hr]
  exact h
theorem wpList_copy_runI (w : World) {ops : Array Oper} {rest : List Oper} {o : Oper} {a : Act} {Q : Exit → Act → World → Prop} (hgd : o.guard = none) (d s : Operand) (t t' : TypeId)
    (ho : o.op = .call { callee := .builtin .copy, args := #[d, s], argTypes := #[t, t'] }) (v u : Value) (hd : a.eval d = v) (hs : a.eval s = u) {v' : Value} {w' : World}
    (hr : (Builtin.copy_ #[t, t'] o.type #[v, u]).run P w = .ok v' w') (h : wpList P ops Q rest (a.put o.dst v') w') : wpList P ops Q (o :: rest) a w :=
  wpList_plain hgd fun _ hK => wp_copy_runI w d s t t' ho v u hd hs hr (hK _ _ h)
theorem step_copy_runI {ops : Array Oper} {o : Oper} {a : Act} {w : World} {K : Act → World → Prop} {Q : Exit → Act → World → Prop} {E : Prop}
    (hg : o.guard = none) (d x : Operand) (dT sT : TypeId) (hop : o.op = Op.call { callee := Callee.builtin Builtin.copy, args := #[d, x], argTypes := #[dT, sT] })
    (v u : Value) (hd : a.eval d = v) (hx : a.eval x = u) {v' : Value} {w' : World} (hr : (Builtin.copy_ #[dT, sT] o.type #[v, u]).run P w = .ok v' w') (hK : K (a.put o.dst v') w') :
    if Region.wanted o (yielded ops a.tmps) = true then Oper.wp P o a w K Q else E := by
  have hw : Region.wanted o (yielded ops a.tmps) = true := by simp [Region.wanted, hg]
  rw [if_pos hw]
  unfold Oper.wp
  simp [execOp, hop, resolve, invoke, builtin, hd, hx, hr, Result.andThen]
  exact hK
/-- s[m:] without a case on the capacity, whatever the elements' size: A1 is a letter. -/
theorem cut_any (t e : TypeId) (kl : IntKind) {i : TypeInfo} (ht : P.underlying t = some (.slice e)) (hi : P.info? e = some i) (A : Option Addr) (n c m : Nat) (hm : m ≤ n) :
    ∃ A' : Option Addr, ∀ W : World, (Instr.slice t (.slice A n c) (some (.int kl (m : Int))) none none).run P W = .ok (.slice A' (n - m) (c - m)) W := by
  refine ⟨if c = m then A else A.map (·.add (m * i.size)), fun W => ?_⟩
  have hel : P.elem t = e := by simp [Program.elem, ht]
  have hu : P.underlying t = some (.slice (P.elem t)) := by rw [hel]; exact ht
  rw [run_slice_l W t A n c hu kl (m : Int) (Int.natCast_nonneg _) (by omega), hel]
  simp [sizeOf, typeInfo, hi, sliced, Result.andThen]
/-- copy, at elements of sz cells. -/
theorem run_copy_cellsN (w : World) (dT sT ty elem : TypeId) (sz : Nat) (b o dLen dCap : Nat) (a : Addr) (sLen sCap : Nat) (cs : List Value)
    (hu : P.underlying dT = some (.slice elem)) (hs : (P.info? elem).map (·.size) = some sz) (hn : cs.length = Nat.min sLen dLen * sz)
    (hsrc : ∀ j v, cs[j]? = some v → w.cell? (a.add j) = some v) (hc : ∀ j, j < cs.length → (w.cell? ⟨b, o + j, none⟩).isSome = true) (hf : ∀ j, j < cs.length → w.frozen? ⟨b, o + j, none⟩ = false) (h1 : ∀ v ∈ cs, v.oneCell' = true) :
    (Builtin.copy_ #[dT, sT] ty #[.slice (some ⟨b, o, none⟩) dLen dCap, .slice (some a) sLen sCap]).run P w = .ok (goInt (Nat.min sLen dLen)) (w.setCells b o cs) := by
  have hl := run_loadCells_list (P := P) w a cs hsrc
  have hst := run_storeCells_cells (P := P) b o cs 0 w (by simpa using hc) (by simpa using hf) h1
  cases hq : P.info? elem with
  | none => simp [hq] at hs
  | some i =>
    have hi : i.size = sz := by simpa [hq] using hs
    simp [Builtin.copy_, run_underlying hu, Builtin.lenOf, Builtin.firstCells, sizeOf, typeInfo, hq, hi, ← hn, hl, hst]
end
/-- A cell of another block, behind a store. -/
theorem cell_far {w : World} {p a : Addr} {v x : Value} (h : a.block ≠ p.block) (hc : w.cell? a = some x) : (w.setCell p v).cell? a = some x := (World.cell?_of_block (a := a) (Below.heap_setCell w p v a.block h)).trans hc
section
variable {α : Type} {d : Kd α} {e base : Nat} {w : World} {v : Value} {xs : List α}
theorem reps_one {R : α → List Value → Prop} (hK : ∀ x cs, R x cs → ∀ u ∈ cs, u.oneCell' = true) {sz : Nat} (hs : 0 < sz) {ps : List α} {cs : List Value} (h : Reps R sz ps cs) : ∀ u ∈ cs, u.oneCell' = true := by
  intro u hu
  obtain ⟨q, hq, rfl⟩ := List.mem_iff_getElem.1 hu
  have hql : q / sz < ps.length := by
    rw [Nat.div_lt_iff_lt_mul hs]
    rw [← h.1]
    exact hq
  have hc := h.2 (q / sz) _ (List.getElem?_eq_getElem hql)
  refine hK _ _ hc _ ?_
  rw [List.mem_iff_getElem?]
  refine ⟨q % sz, ?_⟩
  rw [List.getElem?_take, if_pos (Nat.mod_lt _ hs), List.getElem?_drop, Nat.mul_comm, Nat.div_add_mod, List.getElem?_eq_getElem hq]
/-- What stands for a row that is not empty; hd: the cells ahead of place i, tl: those from it on. -/
theorem R_open (h : d.R e w base (fun _ => True) v xs) (hs : 0 < d.sz) (i : Nat) (hi : i < xs.length) : ∃ g cap cur hd tl, v = .slice (some ⟨g, 0, none⟩) xs.length cap ∧ base ≤ g ∧ w.heap[g]? = some (.cells cur e (0, 0)) ∧ xs.length ≤ cap ∧ cap ≤ 9223372036854775807 ∧ cur.size = cap * d.sz ∧
    hd.length = i * d.sz ∧ tl.length = (xs.length - i) * d.sz ∧ (∀ j u, hd[j]? = some u → w.cell? ⟨g, j, none⟩ = some u) ∧ (∀ j u, tl[j]? = some u → w.cell? ⟨g, i * d.sz + j, none⟩ = some u) ∧ (∀ u ∈ hd, u.oneCell' = true) ∧ (∀ u ∈ tl, u.oneCell' = true) ∧
    (∀ W g' cap' cur' x cx, Below w.heap.size w W → base ≤ g' → w.heap.size ≤ g' → W.heap[g']? = some (.cells cur' e (0, 0)) → xs.length + 1 ≤ cap' → cap' ≤ 9223372036854775807 → cur'.size = cap' * d.sz → cx.length = d.sz → (∀ W b okp, d.M W b okp x cx) → cur'.toList.take ((xs.length + 1) * d.sz) = hd ++ cx ++ tl →
      d.R e W base (fun _ => True) (.slice (some ⟨g', 0, none⟩) (xs.length + 1) cap') (xs.take i ++ [x] ++ xs.drop i)) := by
  obtain ⟨hok, inner, ⟨h1, h2⟩, hr⟩ := h
  rcases h2 with ⟨rfl, h0⟩ | ⟨g, cap, cur, rfl, hb, hh, hnc, hcm, hcs, ht⟩
  · omega
  · have e2 : i * d.sz + (xs.length - i) * d.sz = xs.length * d.sz := by rw [← Nat.add_mul]; congr 1; omega
    have e4 : (xs.length + 1) * d.sz = xs.length * d.sz + d.sz := Nat.succ_mul _ _
    have hil : i * d.sz ≤ inner.length := by rw [h1]; omega
    have hone := reps_one (fun x cs hM => d.K_one (d.K_of_M hM)) hs hr
    have hcell : ∀ j u, inner[j]? = some u → w.cell? ⟨g, j, none⟩ = some u := fun j u hj => by
      rw [blk_cell hh, ← Array.getElem?_toList]
      rw [← ht] at hj
      have hlt : j < xs.length * d.sz := by
        have := (List.getElem?_eq_some_iff.1 hj).1
        rw [List.length_take] at this
        omega
      rwa [List.getElem?_take_of_lt hlt] at hj
    have hdl : (inner.drop (i * d.sz)).length = (xs.length - i) * d.sz := by rw [List.length_drop, h1]; omega
    refine ⟨g, cap, cur, inner.take (i * d.sz), inner.drop (i * d.sz), rfl, hb, hh, hnc, by simpa [maxLen] using hcm, hcs, by rw [List.length_take]; omega, hdl, fun j u hj => ?_, fun j u hj => ?_, fun u hu => hone u (List.mem_of_mem_take hu), fun u hu => hone u (List.mem_of_mem_drop hu), ?_⟩
    · refine hcell j u ?_
      have hlt : j < i * d.sz := by
        have := (List.getElem?_eq_some_iff.1 hj).1
        rw [List.length_take] at this
        omega
      rwa [List.getElem?_take_of_lt hlt] at hj
    · rw [List.getElem?_drop] at hj
      exact hcell _ u hj
    · intro W g' cap' cur' x cx hB hbg hnew hh' hroom hcm' hcs' hcx hx htk
      have hlen : (xs.take i ++ [x] ++ xs.drop i).length = xs.length + 1 := by
        simp only [List.length_append, List.length_take, List.length_drop, List.length_singleton]; omega
      refine ⟨fun _ _ => trivial, inner.take (i * d.sz) ++ cx ++ inner.drop (i * d.sz), ⟨?_, .inr ⟨g', cap', cur', by rw [hlen], hbg, hh', by rw [hlen]; exact hroom, by simpa [maxLen] using hcm', hcs', by rw [hlen]; exact htk⟩⟩, ?_⟩
      · rw [hlen]
        simp only [List.length_append, List.length_take, List.length_drop, h1, hcx]
        omega
      · have hm : ∀ p c, d.M w base (fun k => True ∧ some k ≠ (Value.slice (some ⟨g, 0, none⟩) xs.length cap).ownBlock) p c → d.M W base (fun k => True ∧ some k ≠ (Value.slice (some ⟨g', 0, none⟩) (xs.length + 1) cap').ownBlock) p c := fun p c hp => by
          have h3 := Kd.M_below hp hB
          have h4 := d.M_bound hp
          have h5 := d.M_move (w1 := W) (fun k hk => hB.block k hk.2.2.1) h4
          exact d.M_mono (fun k hk => ⟨trivial, fun he => by
            have hk3 := hk.2.2.1
            simp only [Value.ownBlock, Option.some.injEq] at he
            omega⟩) h5
        refine reps_app (reps_app (Reps.imp_ (reps_take hr i (by omega)) hm) ?_) (Reps.imp_ (reps_drop hr i) hm)
        refine ⟨by rw [hcx, List.length_singleton, Nat.one_mul], fun j p hj => ?_⟩
        cases j with
        | zero =>
          simp only [List.getElem?_cons_zero, Option.some.injEq] at hj
          subst hj
          rw [Nat.zero_mul, List.drop_zero, List.take_of_length_le (by omega)]
          exact hx _ _ _
        | succ j => simp at hj
/-- R_insert with the cells named: tl as in R_open. -/
theorem R_put_in {g n cap : Nat} {cur : Array Value} (h : d.R e w base (fun _ => True) (.slice (some ⟨g, 0, none⟩) n cap) xs) (i : Nat) (hi : i ≤ n) (hroom : n + 1 ≤ cap) (x : α) (cx tl : List Value) (hcx : cx.length = d.sz) (hx : ∀ W b okp, d.M W b okp x cx)
    (htl : tl.length = (n - i) * d.sz) (hcell : ∀ j u, tl[j]? = some u → w.cell? ⟨g, i * d.sz + j, none⟩ = some u) :
    d.R e ((w.setCells g ((i + 1) * d.sz) tl).setCells g (i * d.sz) cx) base (fun _ => True) (.slice (some ⟨g, 0, none⟩) (n + 1) cap) (xs.take i ++ [x] ++ xs.drop i) := by
  obtain ⟨cs, hl, hc, hR⟩ := R_insert h i hi hroom x cx hcx (fun W => hx W _ _)
  have : cs = tl := by
    apply List.ext_getElem (by rw [hl, htl])
    intro j h1 h2
    have a := hc j _ (List.getElem?_eq_getElem h1)
    have b := hcell j _ (List.getElem?_eq_getElem h2)
    rw [a] at b
    exact Option.some.inj b
  rwa [this] at hR
/-- What a new row holds behind two copies. -/
theorem new_row {g e' : Nat} {W1 : World} {ROW : Array Value} {hd cx tl rest : List Value} (hh : W1.heap[g]? = some (.cells ROW e' (0, 0))) (hR : ROW.toList = hd ++ rest) (hl : cx.length + tl.length ≤ rest.length) {o o2 : Nat} (ho : o = hd.length) (ho2 : o2 = hd.length + cx.length) {W2 : World} (h2 : W2.heap[g]? = (W1.setCells g o cx).heap[g]?) :
    ∃ cur', (W2.setCells g o2 tl).heap[g]? = some (.cells cur' e' (0, 0)) ∧ cur'.size = ROW.size ∧ cur'.toList.take (hd.length + cx.length + tl.length) = hd ++ cx ++ tl := by
  subst ho
  subst ho2
  have hsz : ROW.size = hd.length + rest.length := by rw [← Array.length_toList, hR, List.length_append]
  obtain ⟨c1, a1, b1⟩ := setCells_get g e' cx hd.length W1 ROW hh (by omega)
  have l1 : c1.size = ROW.size := by
    rw [← Array.length_toList, b1, hR]
    simp only [List.length_append, List.length_take, List.length_drop]
    omega
  obtain ⟨c2, a2, b2⟩ := setCells_get g e' tl (hd.length + cx.length) W2 c1 (h2.trans a1) (by omega)
  refine ⟨c2, a2, ?_, ?_⟩
  · rw [← l1, ← Array.length_toList, ← Array.length_toList (xs := c1), b2]
    have : c1.toList.length = c1.size := Array.length_toList
    simp only [List.length_append, List.length_take, List.length_drop]
    omega
  · have e1 : c1.toList.take (hd.length + cx.length) = hd ++ cx := by
      rw [b1, hR, List.take_append_of_le_length (Nat.le_refl _), List.take_of_length_le (Nat.le_refl _), List.append_assoc, ← List.append_assoc hd cx, List.take_append_of_le_length (by simp), List.take_of_length_le (by simp)]
    rw [b2, e1, List.take_append_of_le_length (by simp; omega), List.take_of_length_le (by simp; omega)]
/-- One element in a block of its own, read as a row. -/
theorem C_one {bx : Nat} {x : α} {cx : List Value} (hcx : cx.length = d.sz) (hx : d.K w x cx) (hb : w.heap[bx]? = some (.cells cx.toArray e (0, 0))) : d.C w (some ⟨bx, 0, none⟩) 1 [x] := by
  refine ⟨rfl, by omega, fun _ => ⟨_, rfl, fun j p hj => ?_⟩⟩
  cases j with
  | zero =>
    simp only [List.getElem?_cons_zero, Option.some.injEq] at hj
    subst hj
    refine ⟨cx, hcx, hx, fun i u hu => ?_⟩
    rw [add_plain, blk_cell hb, Nat.zero_mul, Nat.zero_add]
    simpa using hu
  | succ j => simp at hj
end
end Go.Proofs.YtkgjikjnciihmaaH
